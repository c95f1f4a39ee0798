/- Part 4 of what the proof of FnExactPollQueue rests on: an idealised machine, contracts of functions, and the walk of the law. No condition. -/
import Derived.Test.YtbdcaacpemkloaaGreatMFnExactPollQueuec
section
namespace Go.Proofs.YtbdcaacpemkloaaGreat
open Go Go.RowKit Go.Vc
set_option linter.unusedVariables false
set_option linter.unusedSimpArgs false
set_option linter.unnecessarySimpa false
theorem eqk_Super : EqOk Tryz.prog 97 [0, 0, 0, 0, 0, 0, 0, 0, 0, 0, 0, 0, 0, 0, 0, 2, 0, 0] := eqOk_of 4 (by kernel_rfl) (by decide) (by kernel_rfl) (by kernel_rfl)
def noHeld (dm sm vl tos id ttl si di kind sp dp seq ack fl win : Int) (body : ByteArray) (size count : Int) : Bool := decide (dm = 0) && decide (sm = 0) && decide (vl = 0) && decide (tos = 0) && decide (id = 0) && decide (ttl = 0) && decide (si = 0) && decide (di = 0) && decide (kind = 0) && decide (sp = 0) && decide (dp = 0) && decide (seq = 0) && decide (ack = 0) && decide (fl = 0) && decide (win = 0) && decide (body = ⟨#[]⟩) && decide (size = 0) && decide (count = 0)
def rxOkB (rb rs rh rt db ds dc vb vs vc dm sm vl tos id ttl si di kind sp dp seq ack fl win : Int) (body : ByteArray) (size count : Int) (hold : Bool) (dropped : Int) : Bool := ringOkB rb rs rh rt && (queueOkB db ds dc && (queueOkB vb vs vc && (decide (db = vb) && (decide (ds = vs) && (inB dropped 0 1000000000000 && (if hold then superOkB dm sm vl tos id ttl si di kind sp dp seq ack fl win body.size && (inB size 0 320 && inB count 1 320) else noHeld dm sm vl tos id ttl si di kind sp dp seq ack fl win body size count))))))
set_option maxHeartbeats 4000000 in
theorem c_impl_FlowOf {dm sm vl tos id ttl si di kind sp dp seq ack fl win : Int} {body : ByteArray} : Con0 Tryz.prog 210 [.agg [V dm, V sm, V vl, V tos, V id, V ttl, V si, V di, V kind, V sp, V dp, V seq, V ack, V fl, V win, VS body]] (.agg [V kind, V si, V di, V sp, V dp]) [] := by
  refine con_i Tryz.func210 Tryz.ntmps210 (t := [(0, .agg [V dm, V sm, V vl, V tos, V id, V ttl, V si, V di, V kind, V sp, V dp, V seq, V ack, V fl, V win, VS body])]) rfl ?_
  refine vc_sr ?_
  iterate 2 refine vo ?_
  refine vnt ?_
  refine vc_sr ?_
  iterate 15 refine vo ?_
  refine vnt ?_
  refine vc_ret ?_
  refine fin_i [] rfl (fz ?_) trivial
  simp
set_option maxHeartbeats 4000000 in
theorem c_impl_RxOk {rb rs rh rt db ds dc vb vs vc dm sm vl tos id ttl si di kind sp dp seq ack fl win size count dropped : Int} {body : ByteArray} {hold : Bool} : Con0 Tryz.prog 131 [.agg [V rb, V rs, V rh, V rt, V db, V ds, V dc, V vb, V vs, V vc, V dm, V sm, V vl, V tos, V id, V ttl, V si, V di, V kind, V sp, V dp, V seq, V ack, V fl, V win, VS body, V size, V count, VB hold, V dropped]] (B (rxOkB rb rs rh rt db ds dc vb vs vc dm sm vl tos id ttl si di kind sp dp seq ack fl win body size count hold dropped)) [] := by
  have hE := eqk_Super
  refine con_i Tryz.func131 Tryz.ntmps131 (t := [(0, .agg [V rb, V rs, V rh, V rt, V db, V ds, V dc, V vb, V vs, V vc, V dm, V sm, V vl, V tos, V id, V ttl, V si, V di, V kind, V sp, V dp, V seq, V ack, V fl, V win, VS body, V size, V count, VB hold, V dropped])]) rfl ?_
  refine vc_sr ?_
  iterate 2 refine vo ?_
  refine vnt ?_
  refine vc_seq' ?_
  refine vc_sr ?_
  iterate 2 refine vo ?_
  refine voc c_impl_RingOk rfl rfl ?_
  iterate 2 refine vo ?_
  refine vsp (fun g1 => ?_) (fun g1 => ?_)
  · iterate 4 refine vof ?_
    iterate 2 refine vo ?_
    iterate 4 refine vof ?_
    iterate 2 refine vo ?_
    iterate 7 refine vof ?_
    iterate 2 refine vo ?_
    iterate 7 refine vof ?_
    iterate 2 refine vo ?_
    iterate 4 refine vof ?_
    refine vo ?_
    refine vnt ?_
    refine vc_then ?_
    refine vc_sr ?_
    refine vo ?_
    refine vnt ?_
    refine vc_ret ?_
    refine thn_r ?_
    refine fin_i [] rfl (fz ?_) trivial
    rw [rxOkB, g1]
    simp
  · iterate 2 refine von ?_
    refine vocn c_impl_QueueOk rfl rfl ?_
    refine von ?_
    iterate 2 refine vo ?_
    refine vsp (fun g2 => ?_) (fun g2 => ?_)
    · iterate 4 refine vof ?_
      iterate 2 refine vo ?_
      iterate 7 refine vof ?_
      iterate 2 refine vo ?_
      iterate 7 refine vof ?_
      iterate 2 refine vo ?_
      iterate 4 refine vof ?_
      refine vo ?_
      refine vnt ?_
      refine vc_then ?_
      refine vc_sr ?_
      refine vo ?_
      refine vnt ?_
      refine vc_ret ?_
      refine thn_r ?_
      refine fin_i [] rfl (fz ?_) trivial
      rw [rxOkB, g1, g2]
      simp
    · iterate 2 refine von ?_
      refine vocn c_impl_QueueOk rfl rfl ?_
      refine von ?_
      iterate 2 refine vo ?_
      refine vsp (fun g3 => ?_) (fun g3 => ?_)
      · iterate 7 refine vof ?_
        iterate 2 refine vo ?_
        iterate 7 refine vof ?_
        iterate 2 refine vo ?_
        iterate 4 refine vof ?_
        refine vo ?_
        refine vnt ?_
        refine vc_then ?_
        refine vc_sr ?_
        refine vo ?_
        refine vnt ?_
        refine vc_ret ?_
        refine thn_r ?_
        refine fin_i [] rfl (fz ?_) trivial
        rw [rxOkB, g1, g2, g3]
        simp
      · iterate 7 refine von ?_
        iterate 2 refine vo ?_
        refine vsp (fun g4 => ?_) (fun g4 => ?_)
        · iterate 7 refine vof ?_
          iterate 2 refine vo ?_
          iterate 4 refine vof ?_
          refine vo ?_
          refine vnt ?_
          refine vc_then ?_
          refine vc_sr ?_
          refine vo ?_
          refine vnt ?_
          refine vc_ret ?_
          refine thn_r ?_
          refine fin_i [] rfl (fz ?_) trivial
          rw [rxOkB, g1, g2, g3, decide_eq_false g4]
          simp
        · iterate 7 refine von ?_
          iterate 2 refine vo ?_
          refine vsp (fun g5 => ?_) (fun g5 => ?_)
          · iterate 4 refine vof ?_
            refine vo ?_
            refine vnt ?_
            refine vc_then ?_
            refine vc_sr ?_
            refine vo ?_
            refine vnt ?_
            refine vc_ret ?_
            refine thn_r ?_
            refine fin_i [] rfl (fz ?_) trivial
            rw [rxOkB, g1, g2, g3, decide_eq_true g4, decide_eq_false g5]
            simp
          · iterate 2 refine von ?_
            refine vocn c_impl_between rfl rfl ?_
            refine von ?_
            refine vo ?_
            refine vnt ?_
            refine vc_if (fun g6 => ?_) (fun g6 => ?_)
            · refine vc_sr ?_
              refine vo ?_
              refine vnt ?_
              refine vc_ret ?_
              refine thn_r ?_
              refine fin_i [] rfl (fz ?_) trivial
              rw [rxOkB, g1, g2, g3, decide_eq_true g4, decide_eq_true g5, g6]
              simp
            · refine vc_skip ?_
              refine thn ?_
              refine vc_seq' ?_
              refine vc_sr ?_
              iterate 3 refine vo ?_
              refine vnt ?_
              refine vc_if (fun g7 => ?_) (fun g7 => ?_)
              · refine vc_sr ?_
                iterate 5 refine vo ?_
                refine vnt ?_
                refine vc_ret ?_
                refine thn_r ?_
                refine fin_i [] rfl (fz ?_) trivial
                rw [rxOkB, g1, g2, g3, decide_eq_true g4, decide_eq_true g5, g6]
                rw [g7]
                simp [ceqV, noHeld, Bool.and_assoc]
              · refine vc_skip ?_
                refine thn ?_
                refine vc_sr ?_
                iterate 3 refine vo ?_
                refine voc c_impl_SuperOk rfl rfl ?_
                refine vo ?_
                refine vsp (fun g8 => ?_) (fun g8 => ?_)
                · iterate 3 refine von ?_
                  refine vocn c_impl_between rfl rfl ?_
                  iterate 2 refine vo ?_
                  refine vsp (fun g9 => ?_) (fun g9 => ?_)
                  · iterate 3 refine von ?_
                    refine vocn c_impl_between rfl rfl ?_
                    iterate 2 refine vo ?_
                    refine vnt ?_
                    refine vc_ret ?_
                    refine fin_i [] rfl (fz ?_) trivial
                    rw [rxOkB, g1, g2, g3, decide_eq_true g4, decide_eq_true g5, g6]
                    rw [g7]
                    simp [g8, g9]
                  · iterate 4 refine vof ?_
                    iterate 2 refine vo ?_
                    refine vnt ?_
                    refine vc_ret ?_
                    refine fin_i [] rfl (fz ?_) trivial
                    rw [rxOkB, g1, g2, g3, decide_eq_true g4, decide_eq_true g5, g6]
                    rw [g7]
                    simp [g8, g9]
                · iterate 4 refine vof ?_
                  iterate 2 refine vo ?_
                  iterate 4 refine vof ?_
                  iterate 2 refine vo ?_
                  refine vnt ?_
                  refine vc_ret ?_
                  refine fin_i [] rfl (fz ?_) trivial
                  rw [rxOkB, g1, g2, g3, decide_eq_true g4, decide_eq_true g5, g6]
                  rw [g7]
                  simp [g8]
set_option maxHeartbeats 4000000 in
theorem c_spec_FlowOf {dm sm vl tos id ttl si di kind sp dp seq ack fl win : Int} {body : ByteArray} : Con0 Tryz.prog 201 [.agg [V dm, V sm, V vl, V tos, V id, V ttl, V si, V di, V kind, V sp, V dp, V seq, V ack, V fl, V win, VS body]] (.agg [V kind, V si, V di, V sp, V dp]) [] := by
  refine con_i Tryz.func201 Tryz.ntmps201 (t := [(0, .agg [V dm, V sm, V vl, V tos, V id, V ttl, V si, V di, V kind, V sp, V dp, V seq, V ack, V fl, V win, VS body])]) rfl ?_
  refine vc_sr ?_
  iterate 2 refine vo ?_
  refine vnt ?_
  refine vc_sr ?_
  iterate 15 refine vo ?_
  refine vnt ?_
  refine vc_ret ?_
  refine fin_i [] rfl (fz ?_) trivial
  simp
set_option maxHeartbeats 4000000 in
theorem c_spec_RxOk {rb rs rh rt db ds dc vb vs vc dm sm vl tos id ttl si di kind sp dp seq ack fl win size count dropped : Int} {body : ByteArray} {hold : Bool} : Con0 Tryz.prog 117 [.agg [V rb, V rs, V rh, V rt, V db, V ds, V dc, V vb, V vs, V vc, V dm, V sm, V vl, V tos, V id, V ttl, V si, V di, V kind, V sp, V dp, V seq, V ack, V fl, V win, VS body, V size, V count, VB hold, V dropped]] (B (rxOkB rb rs rh rt db ds dc vb vs vc dm sm vl tos id ttl si di kind sp dp seq ack fl win body size count hold dropped)) [] := by
  have hE := eqk_Super
  refine con_i Tryz.func117 Tryz.ntmps117 (t := [(0, .agg [V rb, V rs, V rh, V rt, V db, V ds, V dc, V vb, V vs, V vc, V dm, V sm, V vl, V tos, V id, V ttl, V si, V di, V kind, V sp, V dp, V seq, V ack, V fl, V win, VS body, V size, V count, VB hold, V dropped])]) rfl ?_
  refine vc_sr ?_
  iterate 2 refine vo ?_
  refine vnt ?_
  refine vc_seq' ?_
  refine vc_sr ?_
  iterate 2 refine vo ?_
  refine voc c_spec_RingOk rfl rfl ?_
  iterate 2 refine vo ?_
  refine vsp (fun g1 => ?_) (fun g1 => ?_)
  · iterate 4 refine vof ?_
    iterate 2 refine vo ?_
    iterate 4 refine vof ?_
    iterate 2 refine vo ?_
    iterate 7 refine vof ?_
    iterate 2 refine vo ?_
    iterate 7 refine vof ?_
    iterate 2 refine vo ?_
    iterate 4 refine vof ?_
    refine vo ?_
    refine vnt ?_
    refine vc_then ?_
    refine vc_sr ?_
    refine vo ?_
    refine vnt ?_
    refine vc_ret ?_
    refine thn_r ?_
    refine fin_i [] rfl (fz ?_) trivial
    rw [rxOkB, g1]
    simp
  · iterate 2 refine von ?_
    refine vocn c_spec_QueueOk rfl rfl ?_
    refine von ?_
    iterate 2 refine vo ?_
    refine vsp (fun g2 => ?_) (fun g2 => ?_)
    · iterate 4 refine vof ?_
      iterate 2 refine vo ?_
      iterate 7 refine vof ?_
      iterate 2 refine vo ?_
      iterate 7 refine vof ?_
      iterate 2 refine vo ?_
      iterate 4 refine vof ?_
      refine vo ?_
      refine vnt ?_
      refine vc_then ?_
      refine vc_sr ?_
      refine vo ?_
      refine vnt ?_
      refine vc_ret ?_
      refine thn_r ?_
      refine fin_i [] rfl (fz ?_) trivial
      rw [rxOkB, g1, g2]
      simp
    · iterate 2 refine von ?_
      refine vocn c_spec_QueueOk rfl rfl ?_
      refine von ?_
      iterate 2 refine vo ?_
      refine vsp (fun g3 => ?_) (fun g3 => ?_)
      · iterate 7 refine vof ?_
        iterate 2 refine vo ?_
        iterate 7 refine vof ?_
        iterate 2 refine vo ?_
        iterate 4 refine vof ?_
        refine vo ?_
        refine vnt ?_
        refine vc_then ?_
        refine vc_sr ?_
        refine vo ?_
        refine vnt ?_
        refine vc_ret ?_
        refine thn_r ?_
        refine fin_i [] rfl (fz ?_) trivial
        rw [rxOkB, g1, g2, g3]
        simp
      · iterate 7 refine von ?_
        iterate 2 refine vo ?_
        refine vsp (fun g4 => ?_) (fun g4 => ?_)
        · iterate 7 refine vof ?_
          iterate 2 refine vo ?_
          iterate 4 refine vof ?_
          refine vo ?_
          refine vnt ?_
          refine vc_then ?_
          refine vc_sr ?_
          refine vo ?_
          refine vnt ?_
          refine vc_ret ?_
          refine thn_r ?_
          refine fin_i [] rfl (fz ?_) trivial
          rw [rxOkB, g1, g2, g3, decide_eq_false g4]
          simp
        · iterate 7 refine von ?_
          iterate 2 refine vo ?_
          refine vsp (fun g5 => ?_) (fun g5 => ?_)
          · iterate 4 refine vof ?_
            refine vo ?_
            refine vnt ?_
            refine vc_then ?_
            refine vc_sr ?_
            refine vo ?_
            refine vnt ?_
            refine vc_ret ?_
            refine thn_r ?_
            refine fin_i [] rfl (fz ?_) trivial
            rw [rxOkB, g1, g2, g3, decide_eq_true g4, decide_eq_false g5]
            simp
          · iterate 2 refine von ?_
            refine vocn c_spec_l01In rfl rfl ?_
            refine von ?_
            refine vo ?_
            refine vnt ?_
            refine vc_if (fun g6 => ?_) (fun g6 => ?_)
            · refine vc_sr ?_
              refine vo ?_
              refine vnt ?_
              refine vc_ret ?_
              refine thn_r ?_
              refine fin_i [] rfl (fz ?_) trivial
              rw [rxOkB, g1, g2, g3, decide_eq_true g4, decide_eq_true g5, g6]
              simp
            · refine vc_skip ?_
              refine thn ?_
              refine vc_seq' ?_
              refine vc_sr ?_
              iterate 3 refine vo ?_
              refine vnt ?_
              refine vc_if (fun g7 => ?_) (fun g7 => ?_)
              · refine vc_sr ?_
                iterate 5 refine vo ?_
                refine vnt ?_
                refine vc_ret ?_
                refine thn_r ?_
                refine fin_i [] rfl (fz ?_) trivial
                rw [rxOkB, g1, g2, g3, decide_eq_true g4, decide_eq_true g5, g6]
                rw [g7]
                simp [ceqV, noHeld, Bool.and_assoc]
              · refine vc_skip ?_
                refine thn ?_
                refine vc_sr ?_
                iterate 3 refine vo ?_
                refine voc c_spec_SuperOk rfl rfl ?_
                refine vo ?_
                refine vsp (fun g8 => ?_) (fun g8 => ?_)
                · iterate 3 refine von ?_
                  refine vocn c_spec_l01In rfl rfl ?_
                  iterate 2 refine vo ?_
                  refine vsp (fun g9 => ?_) (fun g9 => ?_)
                  · iterate 3 refine von ?_
                    refine vocn c_spec_l01In rfl rfl ?_
                    iterate 2 refine vo ?_
                    refine vnt ?_
                    refine vc_ret ?_
                    refine fin_i [] rfl (fz ?_) trivial
                    rw [rxOkB, g1, g2, g3, decide_eq_true g4, decide_eq_true g5, g6]
                    rw [g7]
                    simp [g8, g9]
                  · iterate 4 refine vof ?_
                    iterate 2 refine vo ?_
                    refine vnt ?_
                    refine vc_ret ?_
                    refine fin_i [] rfl (fz ?_) trivial
                    rw [rxOkB, g1, g2, g3, decide_eq_true g4, decide_eq_true g5, g6]
                    rw [g7]
                    simp [g8, g9]
                · iterate 4 refine vof ?_
                  iterate 2 refine vo ?_
                  iterate 4 refine vof ?_
                  iterate 2 refine vo ?_
                  refine vnt ?_
                  refine vc_ret ?_
                  refine fin_i [] rfl (fz ?_) trivial
                  rw [rxOkB, g1, g2, g3, decide_eq_true g4, decide_eq_true g5, g6]
                  rw [g7]
                  simp [g8]
end Go.Proofs.YtbdcaacpemkloaaGreat
end
section
namespace Go.Proofs.YtbdcaacpemkloaaGreat
open Go Go.RowKit Go.Vc
set_option linter.unusedVariables false
set_option linter.unusedSimpArgs false
set_option linter.unnecessarySimpa false
def stF (l : List Mp) (ps : Pg) (d db ds dc dm sm vl tos id ttl si di kind sp dp seq ack fl win : Int) (body : ByteArray) (size count : Int) (key entry : ByteArray) : Pg × Int × Bool :=
  if (decDF entry).2 = true ∧ (decDF entry).1.1 = 3 ∧ ¬ (decDF entry).1.2.2.1 < ((imgR dm sm vl tos id ttl si di kind sp dp seq ack fl win body).size : Int) then
    if (dmaWF l ps d (decDF entry).1.2.2.2.1 (imgR dm sm vl tos id ttl si di kind sp dp seq ack fl win body) true).2 = true then putC l (dmaWF l ps d (decDF entry).1.2.2.2.1 (imgR dm sm vl tos id ttl si di kind sp dp seq ack fl win body) true).1 d db ds dc (decDF entry).1.2.2.2.2.2 (imgR dm sm vl tos id ttl si di kind sp dp seq ack fl win body).size size count (hflF key si di sp dp) else (ps, dc, false)
  else (ps, dc, false)
end Go.Proofs.YtbdcaacpemkloaaGreat
end
section
namespace Go.Proofs.YtbdcaacpemkloaaGreat
open Go Go.RowKit Go.Vc
set_option linter.unusedVariables false
set_option linter.unusedSimpArgs false
set_option linter.unnecessarySimpa false
end Go.Proofs.YtbdcaacpemkloaaGreat
end
section
namespace Go
open Go.RowKit
set_option linter.unusedVariables false
set_option linter.unusedSimpArgs false
theorem tk {Is Js : List Asn} {A : Asn} (h : Take Is A Js := by first | ((repeat (first | (with_reducible exact Take.head) | apply Take.tail)); done) | ((repeat (first | exact Take.head | apply Take.tail)); done)) : Take Is A Js := h
theorem lit {p : Prop} (h : p := by simp only [List.drop_succ_cons, List.drop_zero, List.take_succ_cons, List.take_zero, List.take_nil]; rfl) : p := h
theorem vcs {p : Prop} (h : p := by simp only [Value.cells]; rfl) : p := h
theorem rfx {p : Prop} (h : p := by rfl) : p := h
theorem flt {p : Prop} (h : p := by simp only [Flat.cells, List.cons_append, List.nil_append]; rfl) : p := h
theorem mxl {p : Prop} (h : p := by unfold maxLen; omega) : p := h
theorem ary {Is Js : List Asn} (h : Arr Is Js := by repeat (first | exact Arr.nil | (refine Arr.cons tk ?_))) : Arr Is Js := h
theorem stw {w0 w : World} {Is Js : List Asn} (hs : St w0 w Is) (h : Arr Is Js := by repeat (first | exact Arr.nil | (with_reducible exact take_all _) | (refine Arr.cons tk ?_))) : ∃ s : StW w0 Js, w = s.1 := StW.mk' (hs.arr h)
end Go
end
section
namespace Go
open Go.RowKit
set_option linter.unusedVariables false
set_option linter.unusedSimpArgs false
end Go
end
section
namespace Go.Proofs.YtbdcaacpemkloaaGreat
open Go Go.RowKit
set_option linter.unusedVariables false
set_option linter.unusedSimpArgs false
set_option linter.unusedSectionVars false
theorem ret_str {a b : ByteArray} (h : a = b) : Ending.returned (.string a) = .returned (.string b) := by rw [h]
theorem sc_int : scalarT Tryz.prog 3 := ⟨_, Tryz.underlying3, rfl⟩
theorem sz_int : (Tryz.prog.info? 3).map (·.size) = some 1 := by kernel_rfl
theorem sc_bool : scalarT Tryz.prog 4 := ⟨_, Tryz.underlying4, rfl⟩
theorem sz_bool : (Tryz.prog.info? 4).map (·.size) = some 1 := by kernel_rfl
theorem sc_string : scalarT Tryz.prog 9 := ⟨_, Tryz.underlying9, rfl⟩
theorem sz_string : (Tryz.prog.info? 9).map (·.size) = some 1 := by kernel_rfl
theorem sc_Sstring : scalarT Tryz.prog 25 := ⟨_, Tryz.underlying25, rfl⟩
theorem sz_Sstring : (Tryz.prog.info? 25).map (·.size) = some 1 := by kernel_rfl
theorem ag_impl_Mapping : aggT Tryz.prog 52 4 := ⟨⟨_, Tryz.underlying52, rfl⟩, by kernel_rfl⟩
theorem zc_impl_Mapping : zeroCells' Tryz.prog 52 = some [.int .i64 0, .int .i64 0, .int .i64 0, .bool false] := by kernel_rfl
theorem sz_impl_Mapping : (Tryz.prog.info? 52).map (·.size) = some 4 := by kernel_rfl
theorem ag_impl_Memory : aggT Tryz.prog 27 1 := ⟨⟨_, Tryz.underlying27, rfl⟩, by kernel_rfl⟩
theorem zc_impl_Memory : zeroCells' Tryz.prog 27 = some [.slice none 0 0] := by kernel_rfl
theorem sz_impl_Memory : (Tryz.prog.info? 27).map (·.size) = some 1 := by kernel_rfl
theorem ag_laws_Mapping : aggT Tryz.prog 164 4 := ⟨⟨_, Tryz.underlying164, rfl⟩, by kernel_rfl⟩
theorem in_string : infoT Tryz.prog 9 (.string ⟨#[]⟩) 1 16 := ⟨by kernel_rfl, rfl⟩
theorem in_uint8 : infoT Tryz.prog 5 (.int .u8 0) 1 1 := ⟨by kernel_rfl, rfl⟩
theorem in_impl_Mapping : infoT Tryz.prog 52 (.agg #[.int .i64 0, .int .i64 0, .int .i64 0, .bool false]) 4 32 := ⟨by kernel_rfl, rfl⟩
def RetMem (w : World) (ps : Pg) (e : Ending) (w' : World) : Prop := ∃ a c, e = .returned (.agg #[.slice a ps.length c]) ∧ Owns w.heap.size w' ps [.slice a ps.length c] ∧ Ex w w'
theorem retMem {w0 w : World} {Is Js : List Asn} {ps : Pg} {v : Value} (h : St w0 w Is) (t : Take Is (ownA ps [v]) Js) : RetMem w0 ps (.returned (.agg #[v])) w := by
  obtain ⟨a, c, rfl⟩ := ownA.form h t
  exact ⟨a, c, rfl, h.owns t, h.ex⟩
theorem _root_.Go.Holds.sizes {w : World} {ps : Pg} {vs : List Value} (h : Holds w ps vs) : ∀ p ∈ ps, p.size ≤ maxLen := fun p hp => h.flok hp
theorem _root_.Go.St.rowByt {w0 w : World} {Is Js : List Asn} {b : Nat} {cs : List Value} {T : TypeId} (h : St w0 w Is) (t : Take Is (rowA b cs T) Js) (s : ByteArray) (hc : cs = byteCells s) : St w0 w (bytA b s :: Js) := by
  subst hc
  exact (h.take t).same fun F hF => ⟨F, ⟨⟨_, _, _, hF.1, by simp [byteCells_length], fun j hj => by simp, fun j hj => frozen_row hF.1 j⟩, hF.2⟩, fun _ h => h⟩
set_option maxRecDepth 100000 in
set_option maxHeartbeats 4000000 in
theorem markText_any (K : Nat) (w : World) (h0 : 0 < K) (h1 : K ≤ 4611686018427387904) :
    Calls Tryz.prog 142 #[.int .i64 K] w fun e w' => e = .returned (.string (mtext K)) ∧ Ex w w' := by
  have hsz := dig_size K
  have hd0 : decide ((K : Int) ≤ 0) = false := decide_eq_false (by omega)
  have hd1 : decide (K = 0) = false := decide_eq_false (by omega)
  have HSZ := hid hsz
  have HS := St.start w
  go_enter Tryz.func142, Tryz.ntmps142
  go_wp2_with (first
        | ((with_reducible (show wpList _ _ _ (Oper.mk (some 12) (Op.buildSlice _ _ _) _ _ _ _ :: _) _ _)); refine wpList_bslice1_st (o := ⟨some 12, .buildSlice _ _ _, _, _, _, _⟩) rfl _ _ rfl _ Tryz.underlying22 in_uint8 (by decide) (by decide) (x := .int .u8 _) rfl vcs rfx HS ?_; clear HS; intro w12 b12 hb12 HS; replace HS := HS.rowByt tk ⟨#[B]⟩ (by simp [byteCells, hu8]))
        | ((with_reducible (show wpList _ _ _ (Oper.mk (some 12) (Op.buildSlice _ _ _) _ _ _ _ :: _) _ _)); refine wpList_bslice1_st (o := ⟨some 12, .buildSlice _ _ _, _, _, _, _⟩) rfl _ _ rfl _ Tryz.underlying22 in_uint8 (by decide) (by decide) (x := _) rfl vcs rfx HS ?_; clear HS; intro w12 b12 hb12 HS; replace HS := HS.rowByt tk ⟨#[B]⟩ (by simp [byteCells, hu8]))
        | ((with_reducible (show wpList _ _ _ (Oper.mk (some 13) (Op.convert _ _ _) _ _ _ _ :: _) _ _)); refine wpList_back_st (o := ⟨some 13, .convert _ _ _, _, _, _, _⟩) rfl _ _ _ rfl _ Tryz.underlying22 Tryz.underlying5 Tryz.underlying9 rfl HS tk rfx ?_))
  go_loopw [0, 3] (fun kv ov wr => ∃ (n : Nat) (t : ByteArray), n ≤ K ∧ dig n ++ t = dig K ∧ kv = .int .i64 n ∧ ov = .string t ∧ St w wr []) (fun kv _ _ => (intOf kv).toNat)
  case atStart => exact ⟨K, ⟨#[]⟩, Nat.le_refl _, ba_append_nil _, rfl, rfl, (HS.arr (by repeat (first | exact Arr.nil | (with_reducible exact take_all _) | (refine Arr.cons tk ?_) | (refine arr_skip ?_))))⟩
  case round =>
    clear HS
    obtain ⟨n, t, hn, ht, rfl, rfl, HS⟩ := hrel
    by_cases h0 : n = 0
    case pos =>
      subst h0
      have hts : t.size ≤ K := by have := congrArg ByteArray.size ht; rw [ByteArray.size_append] at this; omega
      rw [dig_zero, show (⟨#[]⟩ : ByteArray) ++ t = t from ByteArray.empty_append] at ht
      have HT := hid ht
      clear ht hsz
      have hl : ¬ (9223372036854775807 < 1 + t.size) := by omega
      go_wp2_with (first
            | ((with_reducible (show wpList _ _ _ (Oper.mk (some 12) (Op.buildSlice _ _ _) _ _ _ _ :: _) _ _)); refine wpList_bslice1_st (o := ⟨some 12, .buildSlice _ _ _, _, _, _, _⟩) rfl _ _ rfl _ Tryz.underlying22 in_uint8 (by decide) (by decide) (x := .int .u8 _) rfl vcs rfx HS ?_; clear HS; intro w12 b12 hb12 HS; replace HS := HS.rowByt tk ⟨#[B]⟩ (by simp [byteCells, hu8]))
            | ((with_reducible (show wpList _ _ _ (Oper.mk (some 12) (Op.buildSlice _ _ _) _ _ _ _ :: _) _ _)); refine wpList_bslice1_st (o := ⟨some 12, .buildSlice _ _ _, _, _, _, _⟩) rfl _ _ rfl _ Tryz.underlying22 in_uint8 (by decide) (by decide) (x := _) rfl vcs rfx HS ?_; clear HS; intro w12 b12 hb12 HS; replace HS := HS.rowByt tk ⟨#[B]⟩ (by simp [byteCells, hu8]))
            | ((with_reducible (show wpList _ _ _ (Oper.mk (some 13) (Op.convert _ _ _) _ _ _ _ :: _) _ _)); refine wpList_back_st (o := ⟨some 13, .convert _ _ _, _, _, _, _⟩) rfl _ _ _ rfl _ Tryz.underlying22 Tryz.underlying5 Tryz.underlying9 rfl HS tk rfx ?_))
      go_ret
      exact ⟨ret_str (by rw [HT.out]; rfl), HS.ex⟩
    case neg =>
      have hn0 : 0 < n := by omega
      have hts : t.size + 1 ≤ K := by
        have h1 := congrArg ByteArray.size ht
        rw [ByteArray.size_append, dig_pos hn0, ByteArray.size_append] at h1
        have h2 : (⟨#[UInt8.ofNat (48 + n % 10)]⟩ : ByteArray).size = 1 := rfl
        omega
      rw [dig_pos hn0, ByteArray.append_assoc] at ht
      have hu8 : (UInt8.ofNat (48 + n % 10)).toNat = 48 + n % 10 := by rw [UInt8.toNat_ofNat']; omega
      generalize UInt8.ofNat (48 + n % 10) = B at *
      have q1 : (n : Int).tmod 10 = ((n % 10 : Nat) : Int) := by rw [Int.tmod_eq_emod_of_nonneg (by omega)]; omega
      have q2 : (n : Int).tdiv 10 = ((n / 10 : Nat) : Int) := by rw [Int.tdiv_eq_ediv_of_nonneg (by omega)]; omega
      have hm9 : n % 10 ≤ 9 := by omega
      have HT := hid ht
      clear ht hsz h0
      go_wp2_with (first
            | ((with_reducible (show wpList _ _ _ (Oper.mk (some 12) (Op.buildSlice _ _ _) _ _ _ _ :: _) _ _)); refine wpList_bslice1_st (o := ⟨some 12, .buildSlice _ _ _, _, _, _, _⟩) rfl _ _ rfl _ Tryz.underlying22 in_uint8 (by decide) (by decide) (x := .int .u8 _) rfl vcs rfx HS ?_; clear HS; intro w12 b12 hb12 HS; replace HS := HS.rowByt tk ⟨#[B]⟩ (by simp [byteCells, hu8]))
            | ((with_reducible (show wpList _ _ _ (Oper.mk (some 12) (Op.buildSlice _ _ _) _ _ _ _ :: _) _ _)); refine wpList_bslice1_st (o := ⟨some 12, .buildSlice _ _ _, _, _, _, _⟩) rfl _ _ rfl _ Tryz.underlying22 in_uint8 (by decide) (by decide) (x := _) rfl vcs rfx HS ?_; clear HS; intro w12 b12 hb12 HS; replace HS := HS.rowByt tk ⟨#[B]⟩ (by simp [byteCells, hu8]))
            | ((with_reducible (show wpList _ _ _ (Oper.mk (some 13) (Op.convert _ _ _) _ _ _ _ :: _) _ _)); refine wpList_back_st (o := ⟨some 13, .convert _ _ _, _, _, _, _⟩) rfl _ _ _ rfl _ Tryz.underlying22 Tryz.underlying5 Tryz.underlying9 rfl HS tk rfx ?_))
      go_roundw
      case rel => exact ⟨n / 10, _, by omega, HT.out, rfl, rfl, (HS.arr (by repeat (first | exact Arr.nil | (with_reducible exact take_all _) | (refine Arr.cons tk ?_) | (refine arr_skip ?_))))⟩
      case measure => simp [intOf]; omega
theorem mtexts_step {ps : Pg} {K i : Nat} (h : i < ps.length) : (mtexts i K ++ ps.drop i).set i (mtext (K + i)) = mtexts (i + 1) K ++ ps.drop (i + 1) := by
  rw [List.set_append_right _ _ (by rw [mtexts_length]; exact Nat.le_refl _), mtexts_length, Nat.sub_self, List.drop_eq_getElem_cons h, List.set_cons_zero]
  unfold mtexts
  rw [List.range_succ, List.map_append, List.append_assoc]
  rfl
def totS (ps : Pg) : Nat := (ps.map (·.size)).sum
theorem totS_take (ps : Pg) (k : Nat) (h : k < ps.length) : totS (ps.take (k + 1)) = totS (ps.take k) + ps[k].size := by
  unfold totS; rw [List.take_succ_eq_append_getElem h, List.map_append, List.sum_append, List.map_singleton, List.sum_singleton]
theorem totS_take_le (ps : Pg) (k : Nat) : totS (ps.take k) ≤ totS ps := by
  have := congrArg totS (List.take_append_drop k ps)
  unfold totS at this ⊢
  rw [List.map_append, List.sum_append] at this; omega
theorem totS_all (ps : Pg) : totS (ps.take ps.length) = totS ps := by rw [List.take_length]
theorem nil_ok : Flat.ok (⟨#[]⟩ : ByteArray) := Nat.zero_le _
set_option maxRecDepth 100000 in
set_option maxHeartbeats 4000000 in
theorem toStringS_any (v : Value) (ps : Pg) (w : World) (k1 : Holds w ps [v]) (hl : ps.length ≤ 1099511627776) :
    Calls Tryz.prog 100 #[v] w (RetSl w ps) := by
  obtain ⟨AA, cap, rfl, z1, z2⟩ := k1.fl
  unfold maxLen at z2
  have HS := St.start w
  go_enter Tryz.func100, Tryz.ntmps100
  go_wp2_with (first
        | ((with_reducible (show wpList _ _ _ (Oper.mk (some 7) (Op.makeSlice _ _ _) _ _ _ _ :: _) _ _)); refine wpList_makeF_st (y0 := (⟨#[]⟩ : ByteArray)) (o := ⟨some 7, .makeSlice _ _ _, _, _, _, _⟩) rfl _ _ _ rfl _ Tryz.underlying25 in_string (n := ps.length) rfl rfl rfl rfx nil_ok (by omega) mxl HS ?_; clear HS; intro w7 b7 hb7 HS)
        | ((with_reducible (show wpList _ _ _ (Oper.mk (some 19) (Op.load _ _) _ _ _ _ :: _) _ _)); refine wpList_loadHF (o := ⟨some 19, .load _ _, _, _, _, _⟩) rfl _ _ rfl rfl HS (fun _ hs => k1.ex hs.ex) HK.out 1 0 (by first | rfl | (simp; done) | omega) rfl (by decide) sc_string flt ?_)
        | ((with_reducible (show wpList _ _ _ (Oper.mk none (Op.store _ (.tmp 20) _) _ _ _ _ :: _) _ _)); refine wpList_storeE_st (o := ⟨none, .store _ (.tmp 20) _, _, _, _, _⟩) rfl _ _ _ rfl rfl (v := .string _) rfl HS tk sz_string 1 0 rfl (by first | rfl | (simp; done) | omega) hfl vcs rfx rfx HKF.out (el := x) HOK.out rfx (by simp) ?_ rfl; clear HS; intro w5_7 hz5_7 HS))
  rw [← fillL_zero ps ⟨#[]⟩] at HS
  go_loopw [4] (fun i wr => ∃ k : Nat, k ≤ ps.length ∧ i = .int .i64 k ∧ St w wr [ownA (fillL ps ⟨#[]⟩ k) [.slice (some ⟨b7, 0, none⟩) ps.length ps.length]]) (fun i _ => ps.length - (intOf i).toNat)
  case atStart => exact ⟨0, Nat.zero_le _, rfl, HS⟩
  case round =>
    clear HS
    obtain ⟨k, hkl, rfl, HS⟩ := hrel
    by_cases hlt : k < ps.length
    case pos =>
      obtain ⟨b, off, rfl⟩ := k1.flA (by omega)
      have hfl : k < (fillL ps (⟨#[]⟩ : ByteArray) k).length := by rw [fillL_length _ _ hkl]; exact hlt
      have HST := hid (fillL_set ps (⟨#[]⟩ : ByteArray) hlt)
      have HKF := hid (fillL_get ps (⟨#[]⟩ : ByteArray) hlt)
      have HOK : Hid (Flat.ok ps[k]) := hid (k1.sizes _ (List.getElem_mem hlt))
      have HK := hid (List.getElem?_eq_getElem hlt)
      generalize ps[k] = x at *
      go_wp2_with (first
            | ((with_reducible (show wpList _ _ _ (Oper.mk (some 7) (Op.makeSlice _ _ _) _ _ _ _ :: _) _ _)); refine wpList_makeF_st (y0 := (⟨#[]⟩ : ByteArray)) (o := ⟨some 7, .makeSlice _ _ _, _, _, _, _⟩) rfl _ _ _ rfl _ Tryz.underlying25 in_string (n := ps.length) rfl rfl rfl rfx nil_ok (by omega) mxl HS ?_; clear HS; intro w7 b7 hb7 HS)
            | ((with_reducible (show wpList _ _ _ (Oper.mk (some 19) (Op.load _ _) _ _ _ _ :: _) _ _)); refine wpList_loadHF (o := ⟨some 19, .load _ _, _, _, _, _⟩) rfl _ _ rfl rfl HS (fun _ hs => k1.ex hs.ex) HK.out 1 0 (by first | rfl | (simp; done) | omega) rfl (by decide) sc_string flt ?_)
            | ((with_reducible (show wpList _ _ _ (Oper.mk none (Op.store _ (.tmp 20) _) _ _ _ _ :: _) _ _)); refine wpList_storeE_st (o := ⟨none, .store _ (.tmp 20) _, _, _, _, _⟩) rfl _ _ _ rfl rfl (v := .string _) rfl HS tk sz_string 1 0 rfl (by first | rfl | (simp; done) | omega) hfl vcs rfx rfx HKF.out (el := x) HOK.out rfx (by simp) ?_ rfl; clear HS; intro w5_7 hz5_7 HS))
      rw [HST.out] at HS
      go_roundw
      case rel => exact ⟨k + 1, hlt, by go_num, HS⟩
      case measure => simp [intOf]; omega
    case neg =>
      obtain rfl : k = ps.length := by omega
      rw [fillL_all] at HS
      go_wp2_with (first
            | ((with_reducible (show wpList _ _ _ (Oper.mk (some 7) (Op.makeSlice _ _ _) _ _ _ _ :: _) _ _)); refine wpList_makeF_st (y0 := (⟨#[]⟩ : ByteArray)) (o := ⟨some 7, .makeSlice _ _ _, _, _, _, _⟩) rfl _ _ _ rfl _ Tryz.underlying25 in_string (n := ps.length) rfl rfl rfl rfx nil_ok (by omega) mxl HS ?_; clear HS; intro w7 b7 hb7 HS)
            | ((with_reducible (show wpList _ _ _ (Oper.mk (some 19) (Op.load _ _) _ _ _ _ :: _) _ _)); refine wpList_loadHF (o := ⟨some 19, .load _ _, _, _, _, _⟩) rfl _ _ rfl rfl HS (fun _ hs => k1.ex hs.ex) HK.out 1 0 (by first | rfl | (simp; done) | omega) rfl (by decide) sc_string flt ?_)
            | ((with_reducible (show wpList _ _ _ (Oper.mk none (Op.store _ (.tmp 20) _) _ _ _ _ :: _) _ _)); refine wpList_storeE_st (o := ⟨none, .store _ (.tmp 20) _, _, _, _, _⟩) rfl _ _ _ rfl rfl (v := .string _) rfl HS tk sz_string 1 0 rfl (by first | rfl | (simp; done) | omega) hfl vcs rfx rfx HKF.out (el := x) HOK.out rfx (by simp) ?_ rfl; clear HS; intro w5_7 hz5_7 HS))
      go_ret
      exact HS.ret tk
set_option maxRecDepth 100000 in
set_option maxHeartbeats 4000000 in
theorem toMemory_any (v : Value) (ps : Pg) (w : World) (k1 : Holds w ps [v]) (hl : ps.length ≤ 1099511627776) :
    Calls Tryz.prog 25 #[.agg #[v]] w (RetMem w ps) := by
  obtain ⟨AA, cap, rfl, z1, z2⟩ := k1.fl
  unfold maxLen at z2
  have HS := St.start w
  go_enter Tryz.func25, Tryz.ntmps25
  go_wp2_with (first
        | (go_at_call 100; (with_reducible refine (toStringS_any _ ps _ (k1.ex HS.ex) hl).mono ?_); rintro e w' ⟨a1, c1, rfl, ho, hx⟩; replace HS := HS.own ho hx; clear ho hx)
        | ((with_reducible (show wpList _ _ _ (Oper.mk (some 1) (Op.box _ _) _ _ _ _ :: _) _ _)); refine wpList_box_st (o := ⟨some 1, .box _ _, _, _, _, _⟩) rfl _ _ rfl (v := .agg (List.toArray _)) rfl HS ?_; clear HS; intro w1 b1 hb1 HS; simp only [Value.cells] at HS)
        | ((with_reducible (show wpList _ _ _ (Oper.mk (some 1) (Op.box _ _) _ _ _ _ :: _) _ _)); refine wpList_box_st (o := ⟨some 1, .box _ _, _, _, _, _⟩) rfl _ _ rfl (v := .agg _) rfl HS ?_; clear HS; intro w1 b1 hb1 HS; simp only [Value.cells] at HS)
        | ((with_reducible (show wpList _ _ _ (Oper.mk (some 2) (Op.alloc _) _ _ _ _ :: _) _ _)); refine wpList_alloc_st (o := ⟨some 2, .alloc _, _, _, _, _⟩) rfl _ rfl zc_impl_Memory HS ?_; clear HS; intro w2 b2 hb2 HS)
        | ((with_reducible (show wpList _ _ _ (Oper.mk (some 3) (Op.alloc _) _ _ _ _ :: _) _ _)); refine wpList_alloc_st (o := ⟨some 3, .alloc _, _, _, _, _⟩) rfl _ rfl zc_impl_Memory HS ?_; clear HS; intro w3 b3 hb3 HS)
        | ((with_reducible (show wpList _ _ _ (Oper.mk (some 5) (Op.load _ _) _ _ _ _ :: _) _ _)); refine wpList_loadS_st (o := ⟨some 5, .load _ _, _, _, _, _⟩) rfl _ _ rfl rfl HS tk sc_Sstring rfx ?_)
        | ((with_reducible (show wpList _ _ _ (Oper.mk none (Op.store _ (.tmp 7) _) _ _ _ _ :: _) _ _)); refine wpList_store_st (o := ⟨none, .store _ (.tmp 7) _, _, _, _, _⟩) rfl _ _ _ rfl rfl (v := .slice _ _ _) rfl HS tk sz_Sstring vcs rfx rfx (by simp) ?_ rfl; clear HS; intro w2_4 hz2_4 HS; simp only [nicL, Value.cells, List.append_nil] at HS)
        | ((with_reducible (show wpList _ _ _ (Oper.mk (some 8) (Op.load _ _) _ _ _ _ :: _) _ _)); refine wpList_loadA_st (o := ⟨some 8, .load _ _, _, _, _, _⟩) rfl _ _ rfl rfl HS tk ag_impl_Memory lit rfl ?_)
        | ((with_reducible (show wpList _ _ _ (Oper.mk none (Op.store _ (.tmp 2) _) _ _ _ _ :: _) _ _)); refine wpList_store_st (o := ⟨none, .store _ (.tmp 2) _, _, _, _, _⟩) rfl _ _ _ rfl rfl (v := .agg (List.toArray _)) rfl HS tk sz_impl_Memory vcs rfx rfx (by simp) ?_ rfl; clear HS; intro w3_1 hz3_1 HS; simp only [nicL, Value.cells, List.append_nil] at HS)
        | ((with_reducible (show wpList _ _ _ (Oper.mk none (Op.store _ (.tmp 2) _) _ _ _ _ :: _) _ _)); refine wpList_store_st (o := ⟨none, .store _ (.tmp 2) _, _, _, _, _⟩) rfl _ _ _ rfl rfl (v := .agg _) rfl HS tk sz_impl_Memory vcs rfx rfx (by simp) ?_ rfl; clear HS; intro w3_1 hz3_1 HS; simp only [nicL, Value.cells, List.append_nil] at HS))
  refine bodyPost_retc rfx rfx HS tk ag_impl_Memory rfx rfx ?_
  exact retMem HS tk
set_option maxRecDepth 100000 in
set_option maxHeartbeats 4000000 in
theorem szStringS_le (v : Value) (ps : Pg) (l : Int) (w : World) (k1 : Holds w ps [v]) (hl : l ≤ 1048576) (hs : ((ps.length + totS ps : Nat) : Int) ≤ l) :
    Calls Tryz.prog 96 #[v, .int .i64 l] w fun e w' => e = .returned (.int .i64 (l - ((ps.length + totS ps : Nat) : Int))) ∧ Ex w w' := by
  obtain ⟨AA, cap, rfl, z1, z2⟩ := k1.fl
  unfold maxLen at z2
  have HS := St.start w
  go_enter Tryz.func96, Tryz.ntmps96
  go_wp2_with (first
        | ((with_reducible (show wpList _ _ _ (Oper.mk (some 22) (Op.load _ _) _ _ _ _ :: _) _ _)); refine wpList_loadHF (o := ⟨some 22, .load _ _, _, _, _, _⟩) rfl _ _ rfl rfl HS (fun _ hs => k1.ex hs.ex) HK.out 1 0 (by first | rfl | (simp; done) | omega) rfl (by decide) sc_string flt ?_))
  go_loopw [1, 5] (fun lv i wr => ∃ k : Nat, k ≤ ps.length ∧ lv = .int .i64 (l - ((ps.length + totS (ps.take k) : Nat) : Int)) ∧ i = .int .i64 k ∧ St w wr []) (fun _ i _ => ps.length - (intOf i).toNat)
  case atStart => exact ⟨0, Nat.zero_le _, by simp [totS], rfl, (HS.arr (by repeat (first | exact Arr.nil | (with_reducible exact take_all _) | (refine Arr.cons tk ?_) | (refine arr_skip ?_))))⟩
  case round =>
    clear HS
    obtain ⟨k, hkl, rfl, rfl, HS⟩ := hrel
    by_cases hlt : k < ps.length
    case pos =>
      obtain ⟨b, off, rfl⟩ := k1.flA (by omega)
      have ht := totS_take ps k hlt
      have ht2 := totS_take_le ps (k + 1)
      have hxm := k1.sizes _ (List.getElem_mem hlt)
      unfold maxLen at hxm
      have HK := hid (List.getElem?_eq_getElem hlt)
      generalize ps[k] = x at *
      rw [ht] at ht2
      have HT := hid ht
      generalize totS (ps.take k) = T at *
      generalize totS ps = TT at *
      clear ht
      go_wp2_with (first
            | ((with_reducible (show wpList _ _ _ (Oper.mk (some 22) (Op.load _ _) _ _ _ _ :: _) _ _)); refine wpList_loadHF (o := ⟨some 22, .load _ _, _, _, _, _⟩) rfl _ _ rfl rfl HS (fun _ hs => k1.ex hs.ex) HK.out 1 0 (by first | rfl | (simp; done) | omega) rfl (by decide) sc_string flt ?_))
      go_roundw
      case rel => exact ⟨k + 1, hlt, by rw [HT.out]; congr 1; omega, by go_num, (HS.arr (by repeat (first | exact Arr.nil | (with_reducible exact take_all _) | (refine Arr.cons tk ?_) | (refine arr_skip ?_))))⟩
      case measure => simp [intOf]; omega
    case neg =>
      obtain rfl : k = ps.length := by omega
      rw [totS_all] at *
      go_wp2_with (first
            | ((with_reducible (show wpList _ _ _ (Oper.mk (some 22) (Op.load _ _) _ _ _ _ :: _) _ _)); refine wpList_loadHF (o := ⟨some 22, .load _ _, _, _, _, _⟩) rfl _ _ rfl rfl HS (fun _ hs => k1.ex hs.ex) HK.out 1 0 (by first | rfl | (simp; done) | omega) rfl (by decide) sc_string flt ?_))
      go_ret
      exact ⟨rfl, HS.ex⟩
set_option maxRecDepth 100000 in
set_option maxHeartbeats 4000000 in
theorem szStringS_gt (v : Value) (ps : Pg) (l : Int) (w : World) (k1 : Holds w ps [v]) (hl : l ≤ 1048576) (h0 : 0 ≤ l) (hs : l < ((ps.length + totS ps : Nat) : Int)) :
    Calls Tryz.prog 96 #[v, .int .i64 l] w fun e w' => e = .returned (.int .i64 (-1)) ∧ Ex w w' := by
  obtain ⟨AA, cap, rfl, z1, z2⟩ := k1.fl
  unfold maxLen at z2
  by_cases hfirst : l < ps.length
  case pos =>
    have HS := St.start w
    go_enter Tryz.func96, Tryz.ntmps96
    go_wp2_with (first
          | ((with_reducible (show wpList _ _ _ (Oper.mk (some 22) (Op.load _ _) _ _ _ _ :: _) _ _)); refine wpList_loadHF (o := ⟨some 22, .load _ _, _, _, _, _⟩) rfl _ _ rfl rfl HS (fun _ hs => k1.ex hs.ex) HK.out 1 0 (by first | rfl | (simp; done) | omega) rfl (by decide) sc_string flt ?_))
    go_ret
    exact ⟨rfl, HS.ex⟩
  case neg =>
  have HS := St.start w
  go_enter Tryz.func96, Tryz.ntmps96
  go_wp2_with (first
        | ((with_reducible (show wpList _ _ _ (Oper.mk (some 22) (Op.load _ _) _ _ _ _ :: _) _ _)); refine wpList_loadHF (o := ⟨some 22, .load _ _, _, _, _, _⟩) rfl _ _ rfl rfl HS (fun _ hs => k1.ex hs.ex) HK.out 1 0 (by first | rfl | (simp; done) | omega) rfl (by decide) sc_string flt ?_))
  go_loopw [1, 5] (fun lv i wr => ∃ k : Nat, k ≤ ps.length ∧ ((ps.length + totS (ps.take k) : Nat) : Int) ≤ l ∧ lv = .int .i64 (l - ((ps.length + totS (ps.take k) : Nat) : Int)) ∧ i = .int .i64 k ∧ St w wr []) (fun _ i _ => ps.length - (intOf i).toNat)
  case atStart => exact ⟨0, Nat.zero_le _, by simp [totS]; omega, by simp [totS], rfl, (HS.arr (by repeat (first | exact Arr.nil | (with_reducible exact take_all _) | (refine Arr.cons tk ?_) | (refine arr_skip ?_))))⟩
  case round =>
    clear HS
    obtain ⟨k, hkl, hle, rfl, rfl, HS⟩ := hrel
    by_cases hlt : k < ps.length
    case pos =>
      obtain ⟨b, off, rfl⟩ := k1.flA (by omega)
      have ht := totS_take ps k hlt
      have ht2 := totS_take_le ps (k + 1)
      have hxm := k1.sizes _ (List.getElem_mem hlt)
      unfold maxLen at hxm
      have HK := hid (List.getElem?_eq_getElem hlt)
      generalize ps[k] = x at *
      rw [ht] at ht2
      have HT := hid ht
      generalize totS (ps.take k) = T at *
      generalize totS ps = TT at *
      clear ht
      by_cases hov : l < ((ps.length + (T + x.size) : Nat) : Int)
      case pos =>
        go_wp2_with (first
              | ((with_reducible (show wpList _ _ _ (Oper.mk (some 22) (Op.load _ _) _ _ _ _ :: _) _ _)); refine wpList_loadHF (o := ⟨some 22, .load _ _, _, _, _, _⟩) rfl _ _ rfl rfl HS (fun _ hs => k1.ex hs.ex) HK.out 1 0 (by first | rfl | (simp; done) | omega) rfl (by decide) sc_string flt ?_))
        go_ret
        exact ⟨rfl, HS.ex⟩
      case neg =>
        go_wp2_with (first
              | ((with_reducible (show wpList _ _ _ (Oper.mk (some 22) (Op.load _ _) _ _ _ _ :: _) _ _)); refine wpList_loadHF (o := ⟨some 22, .load _ _, _, _, _, _⟩) rfl _ _ rfl rfl HS (fun _ hs => k1.ex hs.ex) HK.out 1 0 (by first | rfl | (simp; done) | omega) rfl (by decide) sc_string flt ?_))
        go_roundw
        case rel => exact ⟨k + 1, hlt, by rw [HT.out]; omega, by rw [HT.out]; congr 1; omega, by go_num, (HS.arr (by repeat (first | exact Arr.nil | (with_reducible exact take_all _) | (refine Arr.cons tk ?_) | (refine arr_skip ?_))))⟩
        case measure => simp [intOf]; omega
    case neg =>
      obtain rfl : k = ps.length := by omega
      rw [totS_all] at hle; omega
set_option maxRecDepth 100000 in
set_option maxHeartbeats 4000000 in
theorem szMemory_le (v : Value) (ps : Pg) (l : Int) (w : World) (k1 : Holds w ps [v]) (hl : l ≤ 1048576) (hs : ((ps.length + totS ps : Nat) : Int) ≤ l) :
    Calls Tryz.prog 21 #[.agg #[v], .int .i64 l] w fun e w' => e = .returned (.int .i64 (l - ((ps.length + totS ps : Nat) : Int))) ∧ Ex w w' := by
  obtain ⟨AA, cap, rfl, z1, z2⟩ := k1.fl
  unfold maxLen at z2
  have HS := St.start w
  go_enter Tryz.func21, Tryz.ntmps21
  go_wp2_with (first
        | (go_at_call 96; (with_reducible refine (szStringS_le _ ps l _ (k1.ex HS.ex) hl hs).mono ?_); rintro e w' ⟨rfl, hx⟩; replace HS := HS.grow hx; clear hx)
        | ((with_reducible (show wpList _ _ _ (Oper.mk (some 2) (Op.box _ _) _ _ _ _ :: _) _ _)); refine wpList_box_st (o := ⟨some 2, .box _ _, _, _, _, _⟩) rfl _ _ rfl (v := .agg (List.toArray _)) rfl HS ?_; clear HS; intro w2 b2 hb2 HS; simp only [Value.cells] at HS)
        | ((with_reducible (show wpList _ _ _ (Oper.mk (some 2) (Op.box _ _) _ _ _ _ :: _) _ _)); refine wpList_box_st (o := ⟨some 2, .box _ _, _, _, _, _⟩) rfl _ _ rfl (v := .agg _) rfl HS ?_; clear HS; intro w2 b2 hb2 HS; simp only [Value.cells] at HS)
        | ((with_reducible (show wpList _ _ _ (Oper.mk (some 6) (Op.load _ _) _ _ _ _ :: _) _ _)); refine wpList_loadS_st (o := ⟨some 6, .load _ _, _, _, _, _⟩) rfl _ _ rfl rfl HS tk sc_Sstring rfx ?_))
  go_ret
  exact ⟨rfl, HS.ex⟩
set_option maxRecDepth 100000 in
set_option maxHeartbeats 4000000 in
theorem szMemory_gt (v : Value) (ps : Pg) (l : Int) (w : World) (k1 : Holds w ps [v]) (hl : l ≤ 1048576) (h0 : 0 ≤ l) (hs : l < ((ps.length + totS ps : Nat) : Int)) :
    Calls Tryz.prog 21 #[.agg #[v], .int .i64 l] w fun e w' => e = .returned (.int .i64 (-1)) ∧ Ex w w' := by
  obtain ⟨AA, cap, rfl, z1, z2⟩ := k1.fl
  unfold maxLen at z2
  have HS := St.start w
  go_enter Tryz.func21, Tryz.ntmps21
  go_wp2_with (first
        | (go_at_call 96; (with_reducible refine (szStringS_gt _ ps l _ (k1.ex HS.ex) hl h0 hs).mono ?_); rintro e w' ⟨rfl, hx⟩; replace HS := HS.grow hx; clear hx)
        | ((with_reducible (show wpList _ _ _ (Oper.mk (some 2) (Op.box _ _) _ _ _ _ :: _) _ _)); refine wpList_box_st (o := ⟨some 2, .box _ _, _, _, _, _⟩) rfl _ _ rfl (v := .agg (List.toArray _)) rfl HS ?_; clear HS; intro w2 b2 hb2 HS; simp only [Value.cells] at HS)
        | ((with_reducible (show wpList _ _ _ (Oper.mk (some 2) (Op.box _ _) _ _ _ _ :: _) _ _)); refine wpList_box_st (o := ⟨some 2, .box _ _, _, _, _, _⟩) rfl _ _ rfl (v := .agg _) rfl HS ?_; clear HS; intro w2 b2 hb2 HS; simp only [Value.cells] at HS)
        | ((with_reducible (show wpList _ _ _ (Oper.mk (some 6) (Op.load _ _) _ _ _ _ :: _) _ _)); refine wpList_loadS_st (o := ⟨some 6, .load _ _, _, _, _, _⟩) rfl _ _ rfl rfl HS tk sc_Sstring rfx ?_))
  go_ret
  exact ⟨rfl, HS.ex⟩
set_option maxRecDepth 100000 in
set_option maxHeartbeats 4000000 in
theorem eqStringS_same (v1 v2 : Value) (ps : Pg) (w : World) (k1 : Holds w ps [v1]) (k2 : Holds w ps [v2]) :
    Calls Tryz.prog 104 #[v1, v2] w fun e w' => e = .returned (.bool true) ∧ Ex w w' := by
  obtain ⟨AA, cap, rfl, z1, z2⟩ := k1.fl
  unfold maxLen at z2
  obtain ⟨BB, cap2, rfl, y1, y2⟩ := k2.fl
  unfold maxLen at y2
  have HS := St.start w
  go_enter Tryz.func104, Tryz.ntmps104
  go_wp2
  go_loopw [5] (fun i wr => ∃ k : Nat, k ≤ ps.length ∧ i = .int .i64 k ∧ St w wr []) (fun i _ => ps.length - (intOf i).toNat)
  case atStart => exact ⟨0, Nat.zero_le _, rfl, (HS.arr (by repeat (first | exact Arr.nil | (with_reducible exact take_all _) | (refine Arr.cons tk ?_) | (refine arr_skip ?_))))⟩
  case round =>
    clear HS
    obtain ⟨k, hkl, rfl, HS⟩ := hrel
    by_cases hlt : k < ps.length
    case pos =>
      obtain ⟨b, off, rfl⟩ := k1.flA (by omega)
      obtain ⟨b', off', rfl⟩ := k2.flA (by omega)
      have HK := hid (List.getElem?_eq_getElem hlt)
      generalize ps[k] = x at *
      go_wp2
      refine wp_region_plan_st HS (.early 0 (.early 1 (.early 2 (.early 3 (.early 4 (.forced 5 1 (.forced 6 1 (.forced 7 1 (.forced 8 2 .done))))))))) (by kernel_rfl) (by as_aux_lemma => kernel_rfl) ?_
      intro hne
      replace HS := HS.drew
      try go_simp
      repeat' (first
        | (with_reducible refine wpPlan_forced ?_)
        | ((with_reducible (first | (show wpPlan _ _ _ _ (.early 0 _) _ _) | (show wpPlan _ _ _ _ (.early 1 _) _ _) | (show wpPlan _ _ _ _ (.early 2 _) _ _) | (show wpPlan _ _ _ _ (.early 4 _) _ _))); (first | (refine wpPlan_skipE rfl rfl ?_; (try go_simp)) | (refine wpPlan_early rfl rfl ?_; intro K hK; (first | go_big_quiet_op); (first | go_big_quiet_on | (refine ⟨_, fun _ => rfl, ?_⟩; go_big_quiet_on)))))
        | ((with_reducible ((show wpPlan _ _ _ _ (.early 3 _) _ _))); (first | (refine wpPlan_skipE rfl rfl ?_; (try go_simp)) | (refine wpPlan_early rfl rfl ?_; intro K hK; (first | ((refine quiet_loadHF  _ _ rfl rfl (fun _ hs => k1.ex hs.ex) HK.out 1 0 (by first | rfl | (simp; done) | omega) rfl (by decide) sc_string flt ?_); (try go_simp)) | go_big_quiet_op); (first | go_big_quiet_on | (refine ⟨_, fun _ => rfl, ?_⟩; go_big_quiet_on)))))
        | ((with_reducible (first | (show wpOne _ _ _ _ 5 1 _ _ _) | (show wpOne _ _ _ _ 6 1 _ _ _))); (first | (refine wpOne_skip rfl rfl ?_; (try go_simp)) | (refine wpOne_1 rfl rfl ?_; intro K hK; go_simp; refine hK _ _ ?_ ?_; (focus (exact stw HS)); clear hK K)))
        | ((with_reducible ((show wpOne _ _ _ _ 7 1 _ _ _))); (first | (refine wpOne_skip rfl rfl ?_; (try go_simp)) | (refine wpOne_1 rfl rfl ?_; intro K hK; (first | (refine wp_loadHF  _ _ rfl rfl HS (fun _ hs => k2.ex hs.ex) HK.out 1 0 (by first | rfl | (simp; done) | omega) rfl (by decide) sc_string flt ?_)); (try go_simp); refine hK _ _ ?_ ?_; (focus (exact stw HS)); clear hK K)))
        | ((with_reducible ((show wpOne _ _ _ _ 8 2 _ _ _))); (first | (refine wpOne_skip rfl rfl ?_; (try go_simp)) | (refine wpOne_2 rfl rfl ?_; intro K hK; go_simp; refine hK _ _ ?_; clear hK K)))
        | (with_reducible refine wpPlan_done ?_))
      go_wp2
      go_roundw
      case rel => exact ⟨k + 1, hlt, by go_num, (HS.arr (by repeat (first | exact Arr.nil | (with_reducible exact take_all _) | (refine Arr.cons tk ?_) | (refine arr_skip ?_))))⟩
      case measure => simp [intOf]; omega
    case neg =>
      obtain rfl : k = ps.length := by omega
      go_wp2
      go_ret
      exact ⟨rfl, HS.ex⟩
set_option maxRecDepth 100000 in
set_option maxHeartbeats 4000000 in
theorem eqMemory_same (v1 v2 : Value) (ps : Pg) (w : World) (k1 : Holds w ps [v1]) (k2 : Holds w ps [v2]) :
    Calls Tryz.prog 28 #[.agg #[v1], .agg #[v2]] w fun e w' => e = .returned (.bool true) ∧ Ex w w' := by
  have HS := St.start w
  go_enter Tryz.func28, Tryz.ntmps28
  go_wp2_with (first
        | (go_at_call 104; (with_reducible refine (eqStringS_same _ _ ps _ (k1.ex HS.ex) (k2.ex HS.ex)).mono ?_); rintro e w' ⟨rfl, hx⟩; replace HS := HS.grow hx; clear hx)
        | ((with_reducible (show wpList _ _ _ (Oper.mk (some 2) (Op.box _ _) _ _ _ _ :: _) _ _)); refine wpList_box_st (o := ⟨some 2, .box _ _, _, _, _, _⟩) rfl _ _ rfl (v := .agg (List.toArray _)) rfl HS ?_; clear HS; intro w2 b2 hb2 HS; simp only [Value.cells] at HS)
        | ((with_reducible (show wpList _ _ _ (Oper.mk (some 2) (Op.box _ _) _ _ _ _ :: _) _ _)); refine wpList_box_st (o := ⟨some 2, .box _ _, _, _, _, _⟩) rfl _ _ rfl (v := .agg _) rfl HS ?_; clear HS; intro w2 b2 hb2 HS; simp only [Value.cells] at HS)
        | ((with_reducible (show wpList _ _ _ (Oper.mk (some 3) (Op.box _ _) _ _ _ _ :: _) _ _)); refine wpList_box_st (o := ⟨some 3, .box _ _, _, _, _, _⟩) rfl _ _ rfl (v := .agg (List.toArray _)) rfl HS ?_; clear HS; intro w3 b3 hb3 HS; simp only [Value.cells] at HS)
        | ((with_reducible (show wpList _ _ _ (Oper.mk (some 3) (Op.box _ _) _ _ _ _ :: _) _ _)); refine wpList_box_st (o := ⟨some 3, .box _ _, _, _, _, _⟩) rfl _ _ rfl (v := .agg _) rfl HS ?_; clear HS; intro w3 b3 hb3 HS; simp only [Value.cells] at HS)
        | ((with_reducible (show wpList _ _ _ (Oper.mk (some 6) (Op.load _ _) _ _ _ _ :: _) _ _)); refine wpList_loadS_st (o := ⟨some 6, .load _ _, _, _, _, _⟩) rfl _ _ rfl rfl HS tk sc_Sstring rfx ?_)
        | ((with_reducible (show wpList _ _ _ (Oper.mk (some 8) (Op.load _ _) _ _ _ _ :: _) _ _)); refine wpList_loadS_st (o := ⟨some 8, .load _ _, _, _, _, _⟩) rfl _ _ rfl rfl HS tk sc_Sstring rfx ?_))
  go_ret
  exact ⟨rfl, HS.ex⟩
set_option maxRecDepth 100000 in
set_option maxHeartbeats 4000000 in
theorem markStringS_st {w0 : World} {Js : List Asn} (v : Value) (ps : Pg) (q0 : Nat) (w : World) (HS : St w0 w (ownA ps [v] :: Js)) (h0 : 0 < q0) (h1 : q0 + ps.length ≤ 4611686018427387903) :
    Calls Tryz.prog 108 #[v, .int .i64 q0] w (fun e w' => e = .returned (.int .i64 ((q0 + ps.length : Nat) : Int)) ∧ St w0 w' (ownA (mtexts ps.length q0) [v] :: Js)) := by
  obtain ⟨A1, c1, rfl⟩ := ownA.form HS .head
  go_enter Tryz.func108, Tryz.ntmps108
  go_wp2_with (first
        | ((with_reducible (show wpList _ _ _ (Oper.mk none (Op.store _ (.tmp 16) _) _ _ _ _ :: _) _ _)); refine wpList_storeF_st (o := ⟨none, .store _ (.tmp 16) _, _, _, _, _⟩) rfl _ _ _ rfl rfl rfl HS tk sz_string rfl hfl (v := mtext q) HOK.out rfl rfl ?_ rfl; clear HS; intro w4_5 hz4_5 HS))
  go_loopw [1, 5] (fun kv i wr => ∃ k q : Nat, k ≤ ps.length ∧ q = q0 + k ∧ kv = .int .i64 (q : Int) ∧ i = .int .i64 k ∧ St w0 wr (ownA (mtexts k q0 ++ ps.drop k) [.slice A1 ps.length c1] :: Js)) (fun _ i _ => ps.length - (intOf i).toNat)
  case atStart => exact ⟨0, q0, Nat.zero_le _, rfl, rfl, rfl, by simpa [mtexts] using HS⟩
  case round =>
    clear HS
    obtain ⟨k, q, hkl, hq, rfl, rfl, HS⟩ := hrel
    have HQ := hid hq
    by_cases hlt : k < ps.length
    case pos =>
      have hfl : k < (mtexts k q0 ++ ps.drop k).length := by rw [List.length_append, mtexts_length, List.length_drop]; omega
      have HST := mtexts_step (ps := ps) (K := q0) hlt
      rw [← hq] at HST
      replace HST := hid HST
      have HOK : Hid (Flat.ok (mtext q)) := hid (by have := mtext_size q; show (mtext q).size ≤ maxLen; unfold maxLen; omega)
      have hqb : q ≤ 4611686018427387903 := by omega
      have hq1 : 0 < q := by omega
      clear hq
      obtain ⟨b, off, cc, hv, -, -⟩ := ownA.addr HS (show Take _ (ownA (mtexts k q0 ++ ps.drop k) [.slice A1 _ _]) _ from tk) (by omega)
      simp only [Value.slice.injEq] at hv
      obtain ⟨rfl, -, rfl⟩ := hv
      go_wp2_with (first
            | (go_at_call 142; (with_reducible refine (markText_any q _ (by omega) (by omega)).mono ?_); rintro e w' ⟨rfl, hx⟩; replace HS := HS.grow hx; clear hx)
            | ((with_reducible (show wpList _ _ _ (Oper.mk none (Op.store _ (.tmp 16) _) _ _ _ _ :: _) _ _)); refine wpList_storeF_st (o := ⟨none, .store _ (.tmp 16) _, _, _, _, _⟩) rfl _ _ _ rfl rfl rfl HS tk sz_string rfl hfl (v := mtext q) HOK.out rfl rfl ?_ rfl; clear HS; intro w4_5 hz4_5 HS))
      rw [HST.out] at HS
      go_roundw
      case rel => exact ⟨k + 1, q + 1, hlt, by rw [HQ.out]; rfl, rfl, by go_num, HS⟩
      case measure => simp [intOf]; omega
    case neg =>
      obtain rfl : k = ps.length := by omega
      subst hq
      rw [List.drop_length, List.append_nil] at HS
      go_wp2_with (first
            | ((with_reducible (show wpList _ _ _ (Oper.mk none (Op.store _ (.tmp 16) _) _ _ _ _ :: _) _ _)); refine wpList_storeF_st (o := ⟨none, .store _ (.tmp 16) _, _, _, _, _⟩) rfl _ _ _ rfl rfl rfl HS tk sz_string rfl hfl (v := mtext q) HOK.out rfl rfl ?_ rfl; clear HS; intro w4_5 hz4_5 HS))
      go_ret
      exact ⟨rfl, HS⟩
set_option maxRecDepth 100000 in
set_option maxHeartbeats 4000000 in
theorem markMemory_st {w0 : World} {Js : List Asn} (v : Value) (ps : Pg) (q0 : Nat) (w : World) (HS : St w0 w (ownA ps [v] :: Js)) (h0 : 0 < q0) (h1 : q0 + ps.length ≤ 4611686018427387903) :
    Calls Tryz.prog 32 #[.agg #[v], .int .i64 q0] w (fun e w' => e = .returned (.int .i64 ((q0 + ps.length : Nat) : Int)) ∧ St w0 w' (ownA (mtexts ps.length q0) [v] :: Js)) := by
  go_enter Tryz.func32, Tryz.ntmps32
  go_wp2_with (first
        | (go_at_call 108; (with_reducible refine (markStringS_st _ ps q0 _ (HS.take tk) h0 h1).mono ?_); rintro e w' ⟨rfl, HS9⟩; clear HS; have HS := HS9; clear HS9)
        | ((with_reducible (show wpList _ _ _ (Oper.mk (some 2) (Op.box _ _) _ _ _ _ :: _) _ _)); refine wpList_box_st (o := ⟨some 2, .box _ _, _, _, _, _⟩) rfl _ _ rfl (v := .agg (List.toArray _)) rfl HS ?_; clear HS; intro w2 b2 hb2 HS; simp only [Value.cells] at HS)
        | ((with_reducible (show wpList _ _ _ (Oper.mk (some 2) (Op.box _ _) _ _ _ _ :: _) _ _)); refine wpList_box_st (o := ⟨some 2, .box _ _, _, _, _, _⟩) rfl _ _ rfl (v := .agg _) rfl HS ?_; clear HS; intro w2 b2 hb2 HS; simp only [Value.cells] at HS)
        | ((with_reducible (show wpList _ _ _ (Oper.mk (some 6) (Op.load _ _) _ _ _ _ :: _) _ _)); refine wpList_loadS_st (o := ⟨some 6, .load _ _, _, _, _, _⟩) rfl _ _ rfl rfl HS tk sc_Sstring rfx ?_))
  go_ret
  exact ⟨rfl, HS.arr (.cons .head (arr_drop _ _))⟩
set_option maxRecDepth 100000 in
set_option maxHeartbeats 4000000 in
theorem heldStringS_any (v : Value) (n q0 : Nat) (w : World) (k1 : Holds w (mtexts n q0) [v]) (h0 : 0 < q0) (h1 : q0 + n ≤ 4611686018427387903) :
    Calls Tryz.prog 110 #[v, .int .i64 q0] w fun e w' => e = .returned (.int .i64 ((q0 + n : Nat) : Int)) ∧ Ex w w' := by
  obtain ⟨AA, cap, rfl, z1, z2⟩ := k1.fl
  unfold maxLen at z2
  rw [mtexts_length] at *
  have HS := St.start w
  go_enter Tryz.func110, Tryz.ntmps110
  go_wp2
  go_loopw [1, 5] (fun kv i wr => ∃ k q : Nat, k ≤ n ∧ q = q0 + k ∧ kv = .int .i64 (q : Int) ∧ i = .int .i64 k ∧ St w wr []) (fun _ i _ => n - (intOf i).toNat)
  case atStart => exact ⟨0, q0, Nat.zero_le _, rfl, rfl, rfl, (HS.arr (by repeat (first | exact Arr.nil | (with_reducible exact take_all _) | (refine Arr.cons tk ?_) | (refine arr_skip ?_))))⟩
  case round =>
    clear HS
    obtain ⟨k, q, hkl, hq, rfl, rfl, HS⟩ := hrel
    have HQ := hid hq
    by_cases hlt : k < n
    case pos =>
      obtain ⟨b, off, rfl⟩ := k1.flA (by rw [mtexts_length]; omega)
      have hk9 := mtexts_get (n := n) (k := q0) hlt
      rw [← hq] at hk9
      have HK := hid hk9
      clear hk9
      have hqb : q ≤ 4611686018427387903 := by omega
      have hq1 : 0 < q := by omega
      clear hq
      go_wp2
      refine wp_region_plan_st HS (.early 0 (.early 1 (.early 2 (.early 3 (.forced 4 1 (.forced 5 1 (.forced 6 2 .done))))))) (by kernel_rfl) (by as_aux_lemma => kernel_rfl) ?_
      intro hne
      replace HS := HS.drew
      try go_simp
      repeat' (first
        | (with_reducible refine wpPlan_forced ?_)
        | ((with_reducible (first | (show wpPlan _ _ _ _ (.early 0 _) _ _) | (show wpPlan _ _ _ _ (.early 1 _) _ _) | (show wpPlan _ _ _ _ (.early 2 _) _ _))); (first | (refine wpPlan_skipE rfl rfl ?_; (try go_simp)) | (refine wpPlan_early rfl rfl ?_; intro K hK; (first | go_big_quiet_op); (first | go_big_quiet_on | (refine ⟨_, fun _ => rfl, ?_⟩; go_big_quiet_on)))))
        | ((with_reducible ((show wpPlan _ _ _ _ (.early 3 _) _ _))); (first | (refine wpPlan_skipE rfl rfl ?_; (try go_simp)) | (refine wpPlan_early rfl rfl ?_; intro K hK; (first | ((refine quiet_loadHF  _ _ rfl rfl (fun _ hs => k1.ex hs.ex) HK.out 1 0 (by first | rfl | (simp; done) | omega) rfl (by decide) sc_string flt ?_); (try go_simp)) | go_big_quiet_op); (first | go_big_quiet_on | (refine ⟨_, fun _ => rfl, ?_⟩; go_big_quiet_on)))))
        | ((with_reducible ((show wpOne _ _ _ _ 4 1 _ _ _))); (first | (refine wpOne_skip rfl rfl ?_; (try go_simp)) | (refine wpOne_1 rfl rfl ?_; intro K hK; go_simp; refine hK _ _ ?_ ?_; (focus (exact stw HS)); clear hK K)))
        | ((with_reducible ((show wpOne _ _ _ _ 5 1 _ _ _))); (first | (refine wpOne_skip rfl rfl ?_; (try go_simp)) | (refine wpOne_1 rfl rfl ?_; intro K hK; go_simp; (first | (go_at_call 142; (with_reducible refine (markText_any q _ (by omega) (by omega)).mono ?_); rintro e w' ⟨rfl, hx⟩; replace HS := HS.grow hx; clear hx)); (try go_simp); refine hK _ _ ?_ ?_; (focus (exact stw HS)); clear hK K)))
        | ((with_reducible ((show wpOne _ _ _ _ 6 2 _ _ _))); (first | (refine wpOne_skip rfl rfl ?_; (try go_simp)) | (refine wpOne_2 rfl rfl ?_; intro K hK; go_simp; refine hK _ _ ?_; clear hK K)))
        | (with_reducible refine wpPlan_done ?_))
      go_wp2
      go_roundw
      case rel => exact ⟨k + 1, q + 1, hlt, by rw [HQ.out]; rfl, rfl, by go_num, (HS.arr (by repeat (first | exact Arr.nil | (with_reducible exact take_all _) | (refine Arr.cons tk ?_) | (refine arr_skip ?_))))⟩
      case measure => simp [intOf]; omega
    case neg =>
      obtain rfl : k = n := by omega
      subst hq
      go_wp2
      go_ret
      exact ⟨rfl, HS.ex⟩
set_option maxRecDepth 100000 in
set_option maxHeartbeats 4000000 in
theorem heldMemory_any (v : Value) (n q0 : Nat) (w : World) (k1 : Holds w (mtexts n q0) [v]) (h0 : 0 < q0) (h1 : q0 + n ≤ 4611686018427387903) :
    Calls Tryz.prog 34 #[.agg #[v], .int .i64 q0] w fun e w' => e = .returned (.int .i64 ((q0 + n : Nat) : Int)) ∧ Ex w w' := by
  have HS := St.start w
  go_enter Tryz.func34, Tryz.ntmps34
  go_wp2_with (first
        | (go_at_call 110; (with_reducible refine (heldStringS_any _ n q0 _ (k1.ex HS.ex) h0 h1).mono ?_); rintro e w' ⟨rfl, hx⟩; replace HS := HS.grow hx; clear hx)
        | ((with_reducible (show wpList _ _ _ (Oper.mk (some 2) (Op.box _ _) _ _ _ _ :: _) _ _)); refine wpList_box_st (o := ⟨some 2, .box _ _, _, _, _, _⟩) rfl _ _ rfl (v := .agg (List.toArray _)) rfl HS ?_; clear HS; intro w2 b2 hb2 HS; simp only [Value.cells] at HS)
        | ((with_reducible (show wpList _ _ _ (Oper.mk (some 2) (Op.box _ _) _ _ _ _ :: _) _ _)); refine wpList_box_st (o := ⟨some 2, .box _ _, _, _, _, _⟩) rfl _ _ rfl (v := .agg _) rfl HS ?_; clear HS; intro w2 b2 hb2 HS; simp only [Value.cells] at HS)
        | ((with_reducible (show wpList _ _ _ (Oper.mk (some 6) (Op.load _ _) _ _ _ _ :: _) _ _)); refine wpList_loadS_st (o := ⟨some 6, .load _ _, _, _, _, _⟩) rfl _ _ rfl rfl HS tk sc_Sstring rfx ?_))
  go_ret
  exact ⟨rfl, HS.ex⟩
set_option maxRecDepth 100000 in
set_option maxHeartbeats 4000000 in
theorem toMapping_any (x1 : Int) (x2 : Int) (x3 : Int) (x4 : Bool) (w : World) :
    Calls Tryz.prog 99 #[.agg #[.int .i64 x1, .int .i64 x2, .int .i64 x3, .bool x4]] w fun e w' => e = .returned (.agg #[.int .i64 x1, .int .i64 x2, .int .i64 x3, .bool x4]) ∧ Ex w w' := by
  have HS := St.start w
  go_enter Tryz.func99, Tryz.ntmps99
  go_wp2_with (first
        | ((with_reducible (show wpList _ _ _ (Oper.mk (some 1) (Op.box _ _) _ _ _ _ :: _) _ _)); refine wpList_box_st (o := ⟨some 1, .box _ _, _, _, _, _⟩) rfl _ _ rfl (v := .agg (List.toArray _)) rfl HS ?_; clear HS; intro w1 b1 hb1 HS; simp only [Value.cells] at HS)
        | ((with_reducible (show wpList _ _ _ (Oper.mk (some 1) (Op.box _ _) _ _ _ _ :: _) _ _)); refine wpList_box_st (o := ⟨some 1, .box _ _, _, _, _, _⟩) rfl _ _ rfl (v := .agg _) rfl HS ?_; clear HS; intro w1 b1 hb1 HS; simp only [Value.cells] at HS)
        | ((with_reducible (show wpList _ _ _ (Oper.mk (some 2) (Op.alloc _) _ _ _ _ :: _) _ _)); refine wpList_alloc_st (o := ⟨some 2, .alloc _, _, _, _, _⟩) rfl _ rfl zc_impl_Mapping HS ?_; clear HS; intro w2 b2 hb2 HS)
        | ((with_reducible (show wpList _ _ _ (Oper.mk (some 3) (Op.alloc _) _ _ _ _ :: _) _ _)); refine wpList_alloc_st (o := ⟨some 3, .alloc _, _, _, _, _⟩) rfl _ rfl zc_impl_Mapping HS ?_; clear HS; intro w3 b3 hb3 HS)
        | ((with_reducible (show wpList _ _ _ (Oper.mk (some 5) (Op.load _ _) _ _ _ _ :: _) _ _)); refine wpList_loadS_st (o := ⟨some 5, .load _ _, _, _, _, _⟩) rfl _ _ rfl rfl HS tk sc_int rfx ?_)
        | ((with_reducible (show wpList _ _ _ (Oper.mk none (Op.store _ (.tmp 6) _) _ _ _ _ :: _) _ _)); refine wpList_store_st (o := ⟨none, .store _ (.tmp 6) _, _, _, _, _⟩) rfl _ _ _ rfl rfl (v := .int .i64 _) rfl HS tk sz_int vcs rfx rfx (by simp) ?_ rfl; clear HS; intro w2_3 hz2_3 HS; simp only [nicL, Value.cells, List.append_nil] at HS)
        | ((with_reducible (show wpList _ _ _ (Oper.mk (some 8) (Op.load _ _) _ _ _ _ :: _) _ _)); refine wpList_loadS_st (o := ⟨some 8, .load _ _, _, _, _, _⟩) rfl _ _ rfl rfl HS tk sc_int rfx ?_)
        | ((with_reducible (show wpList _ _ _ (Oper.mk none (Op.store _ (.tmp 9) _) _ _ _ _ :: _) _ _)); refine wpList_store_st (o := ⟨none, .store _ (.tmp 9) _, _, _, _, _⟩) rfl _ _ _ rfl rfl (v := .int .i64 _) rfl HS tk sz_int vcs rfx rfx (by simp) ?_ rfl; clear HS; intro w3_3 hz3_3 HS; simp only [nicL, Value.cells, List.append_nil] at HS)
        | ((with_reducible (show wpList _ _ _ (Oper.mk (some 11) (Op.load _ _) _ _ _ _ :: _) _ _)); refine wpList_loadS_st (o := ⟨some 11, .load _ _, _, _, _, _⟩) rfl _ _ rfl rfl HS tk sc_int rfx ?_)
        | ((with_reducible (show wpList _ _ _ (Oper.mk none (Op.store _ (.tmp 12) _) _ _ _ _ :: _) _ _)); refine wpList_store_st (o := ⟨none, .store _ (.tmp 12) _, _, _, _, _⟩) rfl _ _ _ rfl rfl (v := .int .i64 _) rfl HS tk sz_int vcs rfx rfx (by simp) ?_ rfl; clear HS; intro w4_3 hz4_3 HS; simp only [nicL, Value.cells, List.append_nil] at HS)
        | ((with_reducible (show wpList _ _ _ (Oper.mk (some 14) (Op.load _ _) _ _ _ _ :: _) _ _)); refine wpList_loadS_st (o := ⟨some 14, .load _ _, _, _, _, _⟩) rfl _ _ rfl rfl HS tk sc_bool rfx ?_)
        | ((with_reducible (show wpList _ _ _ (Oper.mk none (Op.store _ (.tmp 15) _) _ _ _ _ :: _) _ _)); refine wpList_store_st (o := ⟨none, .store _ (.tmp 15) _, _, _, _, _⟩) rfl _ _ _ rfl rfl (v := .bool _) rfl HS tk sz_bool vcs rfx rfx (by simp) ?_ rfl; clear HS; intro w5_3 hz5_3 HS; simp only [nicL, Value.cells, List.append_nil] at HS)
        | ((with_reducible (show wpList _ _ _ (Oper.mk (some 16) (Op.load _ _) _ _ _ _ :: _) _ _)); refine wpList_loadA_st (o := ⟨some 16, .load _ _, _, _, _, _⟩) rfl _ _ rfl rfl HS tk ag_impl_Mapping lit rfl ?_)
        | ((with_reducible (show wpList _ _ _ (Oper.mk none (Op.store _ (.tmp 2) _) _ _ _ _ :: _) _ _)); refine wpList_store_st (o := ⟨none, .store _ (.tmp 2) _, _, _, _, _⟩) rfl _ _ _ rfl rfl (v := .agg (List.toArray _)) rfl HS tk sz_impl_Mapping vcs rfx rfx (by simp) ?_ rfl; clear HS; intro w6_1 hz6_1 HS; simp only [nicL, Value.cells, List.append_nil] at HS)
        | ((with_reducible (show wpList _ _ _ (Oper.mk none (Op.store _ (.tmp 2) _) _ _ _ _ :: _) _ _)); refine wpList_store_st (o := ⟨none, .store _ (.tmp 2) _, _, _, _, _⟩) rfl _ _ _ rfl rfl (v := .agg _) rfl HS tk sz_impl_Mapping vcs rfx rfx (by simp) ?_ rfl; clear HS; intro w6_1 hz6_1 HS; simp only [nicL, Value.cells, List.append_nil] at HS))
  refine bodyPost_retc rfx rfx HS tk ag_impl_Mapping rfx rfx ?_
  exact ⟨rfl, HS.ex⟩
set_option maxRecDepth 100000 in
set_option maxHeartbeats 4000000 in
theorem eqMapping_same (x1 : Int) (x2 : Int) (x3 : Int) (x4 : Bool) (w : World) :
    Calls Tryz.prog 107 #[.agg #[.int .i64 x1, .int .i64 x2, .int .i64 x3, .bool x4], .agg #[.int .i64 x1, .int .i64 x2, .int .i64 x3, .bool x4]] w fun e w' => e = .returned (.bool true) ∧ Ex w w' := by
  have e0 : (x1 != x1) = false := by simp
  have e1 : (x2 != x2) = false := by simp
  have e2 : (x3 != x3) = false := by simp
  have e3 : (x4 != x4) = false := by simp
  have HS := St.start w
  go_enter Tryz.func107, Tryz.ntmps107
  go_wp2_with (first
        | ((with_reducible (show wpList _ _ _ (Oper.mk (some 2) (Op.box _ _) _ _ _ _ :: _) _ _)); refine wpList_box_st (o := ⟨some 2, .box _ _, _, _, _, _⟩) rfl _ _ rfl (v := .agg (List.toArray _)) rfl HS ?_; clear HS; intro w2 b2 hb2 HS; simp only [Value.cells] at HS)
        | ((with_reducible (show wpList _ _ _ (Oper.mk (some 2) (Op.box _ _) _ _ _ _ :: _) _ _)); refine wpList_box_st (o := ⟨some 2, .box _ _, _, _, _, _⟩) rfl _ _ rfl (v := .agg _) rfl HS ?_; clear HS; intro w2 b2 hb2 HS; simp only [Value.cells] at HS)
        | ((with_reducible (show wpList _ _ _ (Oper.mk (some 3) (Op.box _ _) _ _ _ _ :: _) _ _)); refine wpList_box_st (o := ⟨some 3, .box _ _, _, _, _, _⟩) rfl _ _ rfl (v := .agg (List.toArray _)) rfl HS ?_; clear HS; intro w3 b3 hb3 HS; simp only [Value.cells] at HS)
        | ((with_reducible (show wpList _ _ _ (Oper.mk (some 3) (Op.box _ _) _ _ _ _ :: _) _ _)); refine wpList_box_st (o := ⟨some 3, .box _ _, _, _, _, _⟩) rfl _ _ rfl (v := .agg _) rfl HS ?_; clear HS; intro w3 b3 hb3 HS; simp only [Value.cells] at HS)
        | ((with_reducible (show wpList _ _ _ (Oper.mk (some 6) (Op.load _ _) _ _ _ _ :: _) _ _)); refine wpList_loadS_st (o := ⟨some 6, .load _ _, _, _, _, _⟩) rfl _ _ rfl rfl HS tk sc_int rfx ?_)
        | ((with_reducible (show wpList _ _ _ (Oper.mk (some 8) (Op.load _ _) _ _ _ _ :: _) _ _)); refine wpList_loadS_st (o := ⟨some 8, .load _ _, _, _, _, _⟩) rfl _ _ rfl rfl HS tk sc_int rfx ?_)
        | ((with_reducible (show wpList _ _ _ (Oper.mk (some 11) (Op.load _ _) _ _ _ _ :: _) _ _)); refine wpList_loadS_st (o := ⟨some 11, .load _ _, _, _, _, _⟩) rfl _ _ rfl rfl HS tk sc_int rfx ?_)
        | ((with_reducible (show wpList _ _ _ (Oper.mk (some 13) (Op.load _ _) _ _ _ _ :: _) _ _)); refine wpList_loadS_st (o := ⟨some 13, .load _ _, _, _, _, _⟩) rfl _ _ rfl rfl HS tk sc_int rfx ?_)
        | ((with_reducible (show wpList _ _ _ (Oper.mk (some 16) (Op.load _ _) _ _ _ _ :: _) _ _)); refine wpList_loadS_st (o := ⟨some 16, .load _ _, _, _, _, _⟩) rfl _ _ rfl rfl HS tk sc_int rfx ?_)
        | ((with_reducible (show wpList _ _ _ (Oper.mk (some 18) (Op.load _ _) _ _ _ _ :: _) _ _)); refine wpList_loadS_st (o := ⟨some 18, .load _ _, _, _, _, _⟩) rfl _ _ rfl rfl HS tk sc_int rfx ?_)
        | ((with_reducible (show wpList _ _ _ (Oper.mk (some 21) (Op.load _ _) _ _ _ _ :: _) _ _)); refine wpList_loadS_st (o := ⟨some 21, .load _ _, _, _, _, _⟩) rfl _ _ rfl rfl HS tk sc_bool rfx ?_)
        | ((with_reducible (show wpList _ _ _ (Oper.mk (some 23) (Op.load _ _) _ _ _ _ :: _) _ _)); refine wpList_loadS_st (o := ⟨some 23, .load _ _, _, _, _, _⟩) rfl _ _ rfl rfl HS tk sc_bool rfx ?_))
  go_ret
  exact ⟨rfl, HS.ex⟩
set_option maxRecDepth 100000 in
set_option maxHeartbeats 4000000 in
theorem szMappingS_le (v : Value) (l : List Mp) (left : Int) (w : World) (k1 : Holds w l [v]) (hl : left ≤ 1048576) (hs : (l.length : Int) ≤ left) :
    Calls Tryz.prog 20 #[v, .int .i64 left] w fun e w' => e = .returned (.int .i64 (left - (l.length : Int))) ∧ Ex w w' := by
  obtain ⟨AA, cap, rfl, z1, z2⟩ := k1.fl
  unfold maxLen at z2
  have HS := St.start w
  go_enter Tryz.func20, Tryz.ntmps20
  go_wp2
  go_ret
  exact ⟨rfl, HS.ex⟩
set_option maxRecDepth 100000 in
set_option maxHeartbeats 4000000 in
theorem szMappingS_gt (v : Value) (l : List Mp) (left : Int) (w : World) (k1 : Holds w l [v]) (hl : left ≤ 1048576) (h0 : 0 ≤ left) (hs : left < (l.length : Int)) :
    Calls Tryz.prog 20 #[v, .int .i64 left] w fun e w' => e = .returned (.int .i64 (-1)) ∧ Ex w w' := by
  obtain ⟨AA, cap, rfl, z1, z2⟩ := k1.fl
  unfold maxLen at z2
  have HS := St.start w
  go_enter Tryz.func20, Tryz.ntmps20
  go_wp2
  go_ret
  exact ⟨rfl, HS.ex⟩
set_option maxRecDepth 100000 in
set_option maxHeartbeats 4000000 in
theorem toMappingS_any (v : Value) (l : List Mp) (w : World) (k1 : Holds w l [v]) (hl : l.length ≤ 1099511627776) :
    Calls Tryz.prog 24 #[v] w (RetSl w l) := by
  obtain ⟨AA, cap, rfl, z1, z2⟩ := k1.fl
  unfold maxLen at z2
  have zok : Flat.ok ((0, 0, 0, false) : Mp) := ⟨(show i64ok 0 from by unfold i64ok; omega), (show i64ok 0 from by unfold i64ok; omega), (show i64ok 0 from by unfold i64ok; omega), trivial⟩
  have HS := St.start w
  go_enter Tryz.func24, Tryz.ntmps24
  go_wp2_with (first
        | ((with_reducible (show wpList _ _ _ (Oper.mk (some 7) (Op.makeSlice _ _ _) _ _ _ _ :: _) _ _)); refine wpList_makeF_st (y0 := ((0, 0, 0, false) : Mp)) (o := ⟨some 7, .makeSlice _ _ _, _, _, _, _⟩) rfl _ _ _ rfl _ Tryz.underlying24 in_impl_Mapping (n := l.length) rfl rfl rfl rfx zok (by omega) mxl HS ?_; clear HS; intro w7 b7 hb7 HS)
        | ((with_reducible (show wpList _ _ _ (Oper.mk (some 19) (Op.load _ _) _ _ _ _ :: _) _ _)); refine wpList_loadH (o := ⟨some 19, .load _ _, _, _, _, _⟩) rfl _ _ rfl rfl HS (fun _ hs => k1.ex hs.ex) HK.out (by first | rfl | (simp; done) | omega) ag_laws_Mapping rfl flt ?_)
        | ((with_reducible (show wpList _ _ _ (Oper.mk none (Op.store _ (.tmp 21) _) _ _ _ _ :: _) _ _)); refine wpList_storeE_st (o := ⟨none, .store _ (.tmp 21) _, _, _, _, _⟩) rfl _ _ _ rfl rfl (v := .agg (List.toArray _)) rfl HS tk sz_impl_Mapping 4 0 rfl (by first | rfl | (simp; done) | omega) hfl vcs rfx rfx HKF.out (el := (xd, xv, xp, xw)) HOK.out rfx (by simp) ?_ rfl; clear HS; intro w5_8 hz5_8 HS))
  rw [← fillL_zero l ((0, 0, 0, false) : Mp)] at HS
  go_loopw [4] (fun i wr => ∃ k : Nat, k ≤ l.length ∧ i = .int .i64 k ∧ St w wr [ownA (fillL l ((0, 0, 0, false) : Mp) k) [.slice (some ⟨b7, 0, none⟩) l.length l.length]]) (fun i _ => l.length - (intOf i).toNat)
  case atStart => exact ⟨0, Nat.zero_le _, rfl, HS⟩
  case round =>
    clear HS
    obtain ⟨k, hkl, rfl, HS⟩ := hrel
    by_cases hlt : k < l.length
    case pos =>
      obtain ⟨b, off, rfl⟩ := k1.flA (by omega)
      have hfl : k < (fillL l ((0, 0, 0, false) : Mp) k).length := by rw [fillL_length _ _ hkl]; exact hlt
      have HST := hid (fillL_set l ((0, 0, 0, false) : Mp) hlt)
      have HKF := hid (fillL_get l ((0, 0, 0, false) : Mp) hlt)
      have HOK : Hid (Flat.ok l[k]) := hid (k1.flok (List.getElem_mem hlt))
      have HK := hid (List.getElem?_eq_getElem hlt)
      generalize l[k] = x at *
      obtain ⟨xd, xv, xp, xw⟩ := x
      go_wp2_with (first
            | (go_at_call 99; (with_reducible refine (toMapping_any xd xv xp xw _).mono ?_); rintro e w' ⟨rfl, hx⟩; replace HS := HS.grow hx; clear hx)
            | ((with_reducible (show wpList _ _ _ (Oper.mk (some 7) (Op.makeSlice _ _ _) _ _ _ _ :: _) _ _)); refine wpList_makeF_st (y0 := ((0, 0, 0, false) : Mp)) (o := ⟨some 7, .makeSlice _ _ _, _, _, _, _⟩) rfl _ _ _ rfl _ Tryz.underlying24 in_impl_Mapping (n := l.length) rfl rfl rfl rfx zok (by omega) mxl HS ?_; clear HS; intro w7 b7 hb7 HS)
            | ((with_reducible (show wpList _ _ _ (Oper.mk (some 19) (Op.load _ _) _ _ _ _ :: _) _ _)); refine wpList_loadH (o := ⟨some 19, .load _ _, _, _, _, _⟩) rfl _ _ rfl rfl HS (fun _ hs => k1.ex hs.ex) HK.out (by first | rfl | (simp; done) | omega) ag_laws_Mapping rfl flt ?_)
            | ((with_reducible (show wpList _ _ _ (Oper.mk none (Op.store _ (.tmp 21) _) _ _ _ _ :: _) _ _)); refine wpList_storeE_st (o := ⟨none, .store _ (.tmp 21) _, _, _, _, _⟩) rfl _ _ _ rfl rfl (v := .agg (List.toArray _)) rfl HS tk sz_impl_Mapping 4 0 rfl (by first | rfl | (simp; done) | omega) hfl vcs rfx rfx HKF.out (el := (xd, xv, xp, xw)) HOK.out rfx (by simp) ?_ rfl; clear HS; intro w5_8 hz5_8 HS))
      rw [HST.out] at HS
      go_roundw
      case rel => exact ⟨k + 1, hlt, by go_num, (HS.arr (by repeat (first | exact Arr.nil | (with_reducible exact take_all _) | (refine Arr.cons tk ?_) | (refine arr_skip ?_))))⟩
      case measure => simp [intOf]; omega
    case neg =>
      obtain rfl : k = l.length := by omega
      rw [fillL_all] at HS
      go_wp2_with (first
            | ((with_reducible (show wpList _ _ _ (Oper.mk (some 7) (Op.makeSlice _ _ _) _ _ _ _ :: _) _ _)); refine wpList_makeF_st (y0 := ((0, 0, 0, false) : Mp)) (o := ⟨some 7, .makeSlice _ _ _, _, _, _, _⟩) rfl _ _ _ rfl _ Tryz.underlying24 in_impl_Mapping (n := l.length) rfl rfl rfl rfx zok (by omega) mxl HS ?_; clear HS; intro w7 b7 hb7 HS)
            | ((with_reducible (show wpList _ _ _ (Oper.mk (some 19) (Op.load _ _) _ _ _ _ :: _) _ _)); refine wpList_loadH (o := ⟨some 19, .load _ _, _, _, _, _⟩) rfl _ _ rfl rfl HS (fun _ hs => k1.ex hs.ex) HK.out (by first | rfl | (simp; done) | omega) ag_laws_Mapping rfl flt ?_)
            | ((with_reducible (show wpList _ _ _ (Oper.mk none (Op.store _ (.tmp 21) _) _ _ _ _ :: _) _ _)); refine wpList_storeE_st (o := ⟨none, .store _ (.tmp 21) _, _, _, _, _⟩) rfl _ _ _ rfl rfl (v := .agg (List.toArray _)) rfl HS tk sz_impl_Mapping 4 0 rfl (by first | rfl | (simp; done) | omega) hfl vcs rfx rfx HKF.out (el := (xd, xv, xp, xw)) HOK.out rfx (by simp) ?_ rfl; clear HS; intro w5_8 hz5_8 HS))
      go_ret
      exact HS.ret tk
set_option maxRecDepth 100000 in
set_option maxHeartbeats 4000000 in
theorem eqMappingS_same (v1 v2 : Value) (l : List Mp) (w : World) (k1 : Holds w l [v1]) (k2 : Holds w l [v2]) :
    Calls Tryz.prog 30 #[v1, v2] w fun e w' => e = .returned (.bool true) ∧ Ex w w' := by
  obtain ⟨AA, cap, rfl, z1, z2⟩ := k1.fl
  unfold maxLen at z2
  obtain ⟨BB, cap2, rfl, y1, y2⟩ := k2.fl
  unfold maxLen at y2
  have HS := St.start w
  go_enter Tryz.func30, Tryz.ntmps30
  go_wp2
  go_loopw [5] (fun i wr => ∃ k : Nat, k ≤ l.length ∧ i = .int .i64 k ∧ St w wr []) (fun i _ => l.length - (intOf i).toNat)
  case atStart => exact ⟨0, Nat.zero_le _, rfl, (HS.arr (by repeat (first | exact Arr.nil | (with_reducible exact take_all _) | (refine Arr.cons tk ?_) | (refine arr_skip ?_))))⟩
  case round =>
    clear HS
    obtain ⟨k, hkl, rfl, HS⟩ := hrel
    by_cases hlt : k < l.length
    case pos =>
      obtain ⟨b, off, rfl⟩ := k1.flA (by omega)
      obtain ⟨b', off', rfl⟩ := k2.flA (by omega)
      have HK := hid (List.getElem?_eq_getElem hlt)
      generalize l[k] = x at *
      obtain ⟨xd, xv, xp, xw⟩ := x
      go_wp2
      refine wp_region_plan_st HS (.early 0 (.early 1 (.early 2 (.early 3 (.early 4 (.forced 5 1 (.forced 6 1 (.forced 7 1 (.forced 8 2 (.forced 9 2 .done)))))))))) (by kernel_rfl) (by as_aux_lemma => kernel_rfl) ?_
      intro hne
      replace HS := HS.drew
      try go_simp
      repeat' (first
        | (with_reducible refine wpPlan_forced ?_)
        | ((with_reducible (first | (show wpPlan _ _ _ _ (.early 0 _) _ _) | (show wpPlan _ _ _ _ (.early 1 _) _ _) | (show wpPlan _ _ _ _ (.early 2 _) _ _) | (show wpPlan _ _ _ _ (.early 4 _) _ _))); (first | (refine wpPlan_skipE rfl rfl ?_; (try go_simp)) | (refine wpPlan_early rfl rfl ?_; intro K hK; (first | go_big_quiet_op); (first | go_big_quiet_on | (refine ⟨_, fun _ => rfl, ?_⟩; go_big_quiet_on)))))
        | ((with_reducible ((show wpPlan _ _ _ _ (.early 3 _) _ _))); (first | (refine wpPlan_skipE rfl rfl ?_; (try go_simp)) | (refine wpPlan_early rfl rfl ?_; intro K hK; (first | ((refine quiet_loadH  _ _ rfl rfl (fun _ hs => k1.ex hs.ex) HK.out (by first | rfl | (simp; done) | omega) ag_impl_Mapping rfl flt ?_); (try go_simp)) | go_big_quiet_op); (first | go_big_quiet_on | (refine ⟨_, fun _ => rfl, ?_⟩; go_big_quiet_on)))))
        | ((with_reducible (first | (show wpOne _ _ _ _ 5 1 _ _ _) | (show wpOne _ _ _ _ 6 1 _ _ _))); (first | (refine wpOne_skip rfl rfl ?_; (try go_simp)) | (refine wpOne_1 rfl rfl ?_; intro K hK; go_simp; refine hK _ _ ?_ ?_; (focus (exact stw HS)); clear hK K)))
        | ((with_reducible ((show wpOne _ _ _ _ 7 1 _ _ _))); (first | (refine wpOne_skip rfl rfl ?_; (try go_simp)) | (refine wpOne_1 rfl rfl ?_; intro K hK; (first | (refine wp_loadH  _ _ rfl rfl HS (fun _ hs => k2.ex hs.ex) HK.out (by first | rfl | (simp; done) | omega) ag_impl_Mapping rfl flt ?_)); (try go_simp); refine hK _ _ ?_ ?_; (focus (exact stw HS)); clear hK K)))
        | ((with_reducible ((show wpOne _ _ _ _ 8 2 _ _ _))); (first | (refine wpOne_skip rfl rfl ?_; (try go_simp)) | (refine wpOne_2 rfl rfl ?_; intro K hK; go_simp; (first | (go_at_call 107; (with_reducible refine (eqMapping_same xd xv xp xw _).mono ?_); rintro e w' ⟨rfl, hx⟩; replace HS := HS.grow hx; clear hx)); (try go_simp); refine hK _ _ ?_; clear hK K)))
        | ((with_reducible ((show wpOne _ _ _ _ 9 2 _ _ _))); (first | (refine wpOne_skip rfl rfl ?_; (try go_simp)) | (refine wpOne_2 rfl rfl ?_; intro K hK; go_simp; refine hK _ _ ?_; clear hK K)))
        | (with_reducible refine wpPlan_done ?_))
      go_wp2
      go_roundw
      case rel => exact ⟨k + 1, hlt, by go_num, (HS.arr (by repeat (first | exact Arr.nil | (with_reducible exact take_all _) | (refine Arr.cons tk ?_) | (refine arr_skip ?_))))⟩
      case measure => simp [intOf]; omega
    case neg =>
      obtain rfl : k = l.length := by omega
      go_wp2
      go_ret
      exact ⟨rfl, HS.ex⟩
def markEl (q : Nat) : Mp := ((q : Int), (q : Int) + 1, (q : Int) + 2, ((q : Int) + 3) % 3 == 0)
def markMp (n q : Nat) : List Mp := (List.range n).map fun i => markEl (q + 4 * i)
theorem markMp_length (n q : Nat) : (markMp n q).length = n := by simp [markMp]
theorem markMp_step {l : List Mp} {q i : Nat} (h : i < l.length) : (markMp i q ++ l.drop i).set i (markEl (q + 4 * i)) = markMp (i + 1) q ++ l.drop (i + 1) := by
  rw [List.set_append_right _ _ (by rw [markMp_length]; exact Nat.le_refl _), markMp_length, Nat.sub_self, List.drop_eq_getElem_cons h, List.set_cons_zero]
  unfold markMp
  rw [List.range_succ, List.map_append, List.append_assoc]
  rfl
theorem markMp_at {l : List Mp} {q i : Nat} (h : i < l.length) : (markMp i q ++ l.drop i)[i]? = some l[i] := by
  rw [List.getElem?_append_right (by rw [markMp_length]; exact Nat.le_refl _), markMp_length, Nat.sub_self, List.drop_eq_getElem_cons h]; rfl
set_option maxRecDepth 100000 in
set_option maxHeartbeats 4000000 in
theorem markMappingS_st {w0 : World} {Js : List Asn} (v : Value) (l : List Mp) (q0 : Nat) (w : World) (HS : St w0 w (ownA l [v] :: Js)) (h1 : q0 + 4 * l.length ≤ 4611686018427386000) :
    Calls Tryz.prog 31 #[v, .int .i64 q0] w (fun e w' => e = .returned (.int .i64 ((q0 + 4 * l.length : Nat) : Int)) ∧ St w0 w' (ownA (markMp l.length q0) [v] :: Js)) := by
  obtain ⟨A1, c1, rfl⟩ := ownA.form HS .head
  have hokl : ∀ x ∈ l, Flat.ok x := fun x hx => (HS.holds .head).flok hx
  replace hokl := hid hokl
  go_enter Tryz.func31, Tryz.ntmps31
  go_wp2_with (first
        | ((with_reducible (show wpList _ _ _ (Oper.mk none (Op.store _ (.tmp 16) _) _ _ _ _ :: _) _ _)); refine wpList_storeE_st (o := ⟨none, .store _ (.tmp 16) _, _, _, _, _⟩) rfl _ _ _ rfl rfl (v := .int .i64 _) rfl HS tk sz_int 4 0 rfl (by first | rfl | (simp; done) | omega) hfl vcs rfx rfx HK.out (el := ((q : Int), xv, xp, xw)) (show i64ok ((q : Int)) ∧ i64ok (xv) ∧ i64ok (xp) ∧ True from by have := HO1.out; have := HO2.out; have := HO3.out; unfold i64ok at *; refine ⟨?_, ?_, ?_, trivial⟩ <;> omega) rfx (by simp) ?_ rfl; clear HS; intro w4_5 hz4_5 HS)
        | ((with_reducible (show wpList _ _ _ (Oper.mk none (Op.store _ (.tmp 23) _) _ _ _ _ :: _) _ _)); refine wpList_storeE_st (o := ⟨none, .store _ (.tmp 23) _, _, _, _, _⟩) rfl _ _ _ rfl rfl (v := .int .i64 _) rfl HS tk sz_int 4 1 rfl (by first | rfl | (simp; done) | omega) (by (try simp only [List.length_set]); exact hfl) vcs rfx rfx (List.getElem?_set_self (by (try simp only [List.length_set]); exact hfl)) (el := ((q : Int), (q : Int) + 1, xp, xw)) (show i64ok ((q : Int)) ∧ i64ok ((q : Int) + 1) ∧ i64ok (xp) ∧ True from by have := HO1.out; have := HO2.out; have := HO3.out; unfold i64ok at *; refine ⟨?_, ?_, ?_, trivial⟩ <;> omega) rfx (by simp) ?_ rfl; clear HS; intro w6_5 hz6_5 HS)
        | ((with_reducible (show wpList _ _ _ (Oper.mk none (Op.store _ (.tmp 30) _) _ _ _ _ :: _) _ _)); refine wpList_storeE_st (o := ⟨none, .store _ (.tmp 30) _, _, _, _, _⟩) rfl _ _ _ rfl rfl (v := .int .i64 _) rfl HS tk sz_int 4 2 rfl (by first | rfl | (simp; done) | omega) (by (try simp only [List.length_set]); exact hfl) vcs rfx rfx (List.getElem?_set_self (by (try simp only [List.length_set]); exact hfl)) (el := ((q : Int), (q : Int) + 1, (q : Int) + 2, xw)) (show i64ok ((q : Int)) ∧ i64ok ((q : Int) + 1) ∧ i64ok ((q : Int) + 2) ∧ True from by have := HO1.out; have := HO2.out; have := HO3.out; unfold i64ok at *; refine ⟨?_, ?_, ?_, trivial⟩ <;> omega) rfx (by simp) ?_ rfl; clear HS; intro w8_5 hz8_5 HS)
        | ((with_reducible (show wpList _ _ _ (Oper.mk none (Op.store _ (.tmp 39) _) _ _ _ _ :: _) _ _)); refine wpList_storeE_st (o := ⟨none, .store _ (.tmp 39) _, _, _, _, _⟩) rfl _ _ _ rfl rfl (v := .bool _) rfl HS tk sz_bool 4 3 rfl (by first | rfl | (simp; done) | omega) (by (try simp only [List.length_set]); exact hfl) vcs rfx rfx (List.getElem?_set_self (by (try simp only [List.length_set]); exact hfl)) (el := ((q : Int), (q : Int) + 1, (q : Int) + 2, ((q : Int) + 3) % 3 == 0)) (show i64ok ((q : Int)) ∧ i64ok ((q : Int) + 1) ∧ i64ok ((q : Int) + 2) ∧ True from by have := HO1.out; have := HO2.out; have := HO3.out; unfold i64ok at *; refine ⟨?_, ?_, ?_, trivial⟩ <;> omega) rfx (by simp) ?_ rfl; clear HS; intro w10_7 hz10_7 HS))
  go_loopw [1, 5] (fun kv i wr => ∃ k q : Nat, k ≤ l.length ∧ q = q0 + 4 * k ∧ kv = .int .i64 (q : Int) ∧ i = .int .i64 k ∧ St w0 wr (ownA (markMp k q0 ++ l.drop k) [.slice A1 l.length c1] :: Js)) (fun _ i _ => l.length - (intOf i).toNat)
  case atStart => exact ⟨0, q0, Nat.zero_le _, rfl, rfl, rfl, by simpa [markMp] using HS⟩
  case round =>
    clear HS
    obtain ⟨k, q, hkl, hq, rfl, rfl, HS⟩ := hrel
    have HQ := hid hq
    by_cases hlt : k < l.length
    case pos =>
      have hfl : k < (markMp k q0 ++ l.drop k).length := by rw [List.length_append, markMp_length, List.length_drop]; omega
      have HST := markMp_step (l := l) (q := q0) hlt
      have hk9 := markMp_at (l := l) (q := q0) hlt
      have hok := hokl.out _ (List.getElem_mem hlt)
      rw [← hq] at HST
      replace HST := hid HST
      have hqb : q ≤ 4611686018427387000 := by omega
      clear hq
      generalize l[k] = x at *
      obtain ⟨xd, xv, xp, xw⟩ := x
      have HK := hid hk9
      obtain ⟨o1, o2, o3, -⟩ : i64ok xd ∧ i64ok xv ∧ i64ok xp ∧ True := hok
      have HO1 := hid o1
      have HO2 := hid o2
      have HO3 := hid o3
      clear o1 o2 o3
      clear hk9
      obtain ⟨b, off, cc, hv, -, -⟩ := ownA.addr HS (show Take _ (ownA (markMp k q0 ++ l.drop k) [.slice A1 _ _]) _ from .head) (by omega)
      simp only [Value.slice.injEq] at hv
      obtain ⟨rfl, -, rfl⟩ := hv
      go_wp2_with (first
            | ((with_reducible (show wpList _ _ _ (Oper.mk none (Op.store _ (.tmp 16) _) _ _ _ _ :: _) _ _)); refine wpList_storeE_st (o := ⟨none, .store _ (.tmp 16) _, _, _, _, _⟩) rfl _ _ _ rfl rfl (v := .int .i64 _) rfl HS tk sz_int 4 0 rfl (by first | rfl | (simp; done) | omega) hfl vcs rfx rfx HK.out (el := ((q : Int), xv, xp, xw)) (show i64ok ((q : Int)) ∧ i64ok (xv) ∧ i64ok (xp) ∧ True from by have := HO1.out; have := HO2.out; have := HO3.out; unfold i64ok at *; refine ⟨?_, ?_, ?_, trivial⟩ <;> omega) rfx (by simp) ?_ rfl; clear HS; intro w4_5 hz4_5 HS)
            | ((with_reducible (show wpList _ _ _ (Oper.mk none (Op.store _ (.tmp 23) _) _ _ _ _ :: _) _ _)); refine wpList_storeE_st (o := ⟨none, .store _ (.tmp 23) _, _, _, _, _⟩) rfl _ _ _ rfl rfl (v := .int .i64 _) rfl HS tk sz_int 4 1 rfl (by first | rfl | (simp; done) | omega) (by (try simp only [List.length_set]); exact hfl) vcs rfx rfx (List.getElem?_set_self (by (try simp only [List.length_set]); exact hfl)) (el := ((q : Int), (q : Int) + 1, xp, xw)) (show i64ok ((q : Int)) ∧ i64ok ((q : Int) + 1) ∧ i64ok (xp) ∧ True from by have := HO1.out; have := HO2.out; have := HO3.out; unfold i64ok at *; refine ⟨?_, ?_, ?_, trivial⟩ <;> omega) rfx (by simp) ?_ rfl; clear HS; intro w6_5 hz6_5 HS)
            | ((with_reducible (show wpList _ _ _ (Oper.mk none (Op.store _ (.tmp 30) _) _ _ _ _ :: _) _ _)); refine wpList_storeE_st (o := ⟨none, .store _ (.tmp 30) _, _, _, _, _⟩) rfl _ _ _ rfl rfl (v := .int .i64 _) rfl HS tk sz_int 4 2 rfl (by first | rfl | (simp; done) | omega) (by (try simp only [List.length_set]); exact hfl) vcs rfx rfx (List.getElem?_set_self (by (try simp only [List.length_set]); exact hfl)) (el := ((q : Int), (q : Int) + 1, (q : Int) + 2, xw)) (show i64ok ((q : Int)) ∧ i64ok ((q : Int) + 1) ∧ i64ok ((q : Int) + 2) ∧ True from by have := HO1.out; have := HO2.out; have := HO3.out; unfold i64ok at *; refine ⟨?_, ?_, ?_, trivial⟩ <;> omega) rfx (by simp) ?_ rfl; clear HS; intro w8_5 hz8_5 HS)
            | ((with_reducible (show wpList _ _ _ (Oper.mk none (Op.store _ (.tmp 39) _) _ _ _ _ :: _) _ _)); refine wpList_storeE_st (o := ⟨none, .store _ (.tmp 39) _, _, _, _, _⟩) rfl _ _ _ rfl rfl (v := .bool _) rfl HS tk sz_bool 4 3 rfl (by first | rfl | (simp; done) | omega) (by (try simp only [List.length_set]); exact hfl) vcs rfx rfx (List.getElem?_set_self (by (try simp only [List.length_set]); exact hfl)) (el := ((q : Int), (q : Int) + 1, (q : Int) + 2, ((q : Int) + 3) % 3 == 0)) (show i64ok ((q : Int)) ∧ i64ok ((q : Int) + 1) ∧ i64ok ((q : Int) + 2) ∧ True from by have := HO1.out; have := HO2.out; have := HO3.out; unfold i64ok at *; refine ⟨?_, ?_, ?_, trivial⟩ <;> omega) rfx (by simp) ?_ rfl; clear HS; intro w10_7 hz10_7 HS))
      simp only [List.set_set] at HS
      go_roundw
      case rel => exact ⟨k + 1, q + 4, hlt, by rw [HQ.out]; omega, by first | rfl | (congr 1; omega), by go_num, by rw [← HST.out]; exact HS⟩
      case measure => simp [intOf]; omega
    case neg =>
      obtain rfl : k = l.length := by omega
      subst hq
      rw [List.drop_length, List.append_nil] at HS
      go_wp2_with (first
            | ((with_reducible (show wpList _ _ _ (Oper.mk none (Op.store _ (.tmp 16) _) _ _ _ _ :: _) _ _)); refine wpList_storeE_st (o := ⟨none, .store _ (.tmp 16) _, _, _, _, _⟩) rfl _ _ _ rfl rfl (v := .int .i64 _) rfl HS tk sz_int 4 0 rfl (by first | rfl | (simp; done) | omega) hfl vcs rfx rfx HK.out (el := ((q : Int), xv, xp, xw)) (show i64ok ((q : Int)) ∧ i64ok (xv) ∧ i64ok (xp) ∧ True from by have := HO1.out; have := HO2.out; have := HO3.out; unfold i64ok at *; refine ⟨?_, ?_, ?_, trivial⟩ <;> omega) rfx (by simp) ?_ rfl; clear HS; intro w4_5 hz4_5 HS)
            | ((with_reducible (show wpList _ _ _ (Oper.mk none (Op.store _ (.tmp 23) _) _ _ _ _ :: _) _ _)); refine wpList_storeE_st (o := ⟨none, .store _ (.tmp 23) _, _, _, _, _⟩) rfl _ _ _ rfl rfl (v := .int .i64 _) rfl HS tk sz_int 4 1 rfl (by first | rfl | (simp; done) | omega) (by (try simp only [List.length_set]); exact hfl) vcs rfx rfx (List.getElem?_set_self (by (try simp only [List.length_set]); exact hfl)) (el := ((q : Int), (q : Int) + 1, xp, xw)) (show i64ok ((q : Int)) ∧ i64ok ((q : Int) + 1) ∧ i64ok (xp) ∧ True from by have := HO1.out; have := HO2.out; have := HO3.out; unfold i64ok at *; refine ⟨?_, ?_, ?_, trivial⟩ <;> omega) rfx (by simp) ?_ rfl; clear HS; intro w6_5 hz6_5 HS)
            | ((with_reducible (show wpList _ _ _ (Oper.mk none (Op.store _ (.tmp 30) _) _ _ _ _ :: _) _ _)); refine wpList_storeE_st (o := ⟨none, .store _ (.tmp 30) _, _, _, _, _⟩) rfl _ _ _ rfl rfl (v := .int .i64 _) rfl HS tk sz_int 4 2 rfl (by first | rfl | (simp; done) | omega) (by (try simp only [List.length_set]); exact hfl) vcs rfx rfx (List.getElem?_set_self (by (try simp only [List.length_set]); exact hfl)) (el := ((q : Int), (q : Int) + 1, (q : Int) + 2, xw)) (show i64ok ((q : Int)) ∧ i64ok ((q : Int) + 1) ∧ i64ok ((q : Int) + 2) ∧ True from by have := HO1.out; have := HO2.out; have := HO3.out; unfold i64ok at *; refine ⟨?_, ?_, ?_, trivial⟩ <;> omega) rfx (by simp) ?_ rfl; clear HS; intro w8_5 hz8_5 HS)
            | ((with_reducible (show wpList _ _ _ (Oper.mk none (Op.store _ (.tmp 39) _) _ _ _ _ :: _) _ _)); refine wpList_storeE_st (o := ⟨none, .store _ (.tmp 39) _, _, _, _, _⟩) rfl _ _ _ rfl rfl (v := .bool _) rfl HS tk sz_bool 4 3 rfl (by first | rfl | (simp; done) | omega) (by (try simp only [List.length_set]); exact hfl) vcs rfx rfx (List.getElem?_set_self (by (try simp only [List.length_set]); exact hfl)) (el := ((q : Int), (q : Int) + 1, (q : Int) + 2, ((q : Int) + 3) % 3 == 0)) (show i64ok ((q : Int)) ∧ i64ok ((q : Int) + 1) ∧ i64ok ((q : Int) + 2) ∧ True from by have := HO1.out; have := HO2.out; have := HO3.out; unfold i64ok at *; refine ⟨?_, ?_, ?_, trivial⟩ <;> omega) rfx (by simp) ?_ rfl; clear HS; intro w10_7 hz10_7 HS))
      go_ret
      exact ⟨rfl, HS⟩
end Go.Proofs.YtbdcaacpemkloaaGreat
end
section
namespace Go.Proofs.YtbdcaacpemkloaaGreat
open Go Go.RowKit Go.Vc
set_option linter.unusedVariables false
set_option linter.unusedSimpArgs false
set_option maxHeartbeats 4000000 in
theorem c_laws_toRing {x_Base x_Size x_Head x_Tail : Int} : Con0 Tryz.prog 101 [.agg [V x_Base, V x_Size, V x_Head, V x_Tail]] (.agg [V x_Base, V x_Size, V x_Head, V x_Tail]) [] := by
  refine con_i Tryz.func101 Tryz.ntmps101 (t := [(0, .agg [V x_Base, V x_Size, V x_Head, V x_Tail])]) rfl ?_
  refine vc_sr ?_
  iterate 2 refine vo ?_
  refine vnt ?_
  refine vc_sr ?_
  refine vo ?_
  refine vnt ?_
  refine vc_sr ?_
  iterate 4 refine vo ?_
  refine vnt ?_
  refine vc_sr ?_
  iterate 4 refine vo ?_
  refine vnt ?_
  refine vc_sr ?_
  iterate 4 refine vo ?_
  refine vnt ?_
  refine vc_sr ?_
  iterate 4 refine vo ?_
  refine vnt ?_
  refine vc_sr ?_
  iterate 2 refine vo ?_
  refine vnt ?_
  refine vc_ret ?_
  refine fin_i [] rfl (fz ?_) (fz ?_) <;> first | trivial | rfl
set_option maxHeartbeats 4000000 in
theorem c_laws_eqRing {x_Base x_Size x_Head x_Tail : Int} : Con0 Tryz.prog 105 [.agg [V x_Base, V x_Size, V x_Head, V x_Tail], .agg [V x_Base, V x_Size, V x_Head, V x_Tail]] (B true) [] := by
  refine con_i Tryz.func105 Tryz.ntmps105 (t := [(0, .agg [V x_Base, V x_Size, V x_Head, V x_Tail]), (1, .agg [V x_Base, V x_Size, V x_Head, V x_Tail])]) rfl ?_
  refine vc_sr ?_
  iterate 3 refine vo ?_
  refine vnt ?_
  refine vc_seq' ?_
  refine vc_sr ?_
  iterate 5 refine vo ?_
  refine vnt ?_
  refine vc_if (fun g1 => ?_) (fun g1 => ?_)
  · first | contradiction | omega | (simp at g1; done)
  · refine vc_skip ?_
    refine thn ?_
    refine vc_seq' ?_
    refine vc_sr ?_
    iterate 5 refine vo ?_
    refine vnt ?_
    refine vc_if (fun g2 => ?_) (fun g2 => ?_)
    · first | contradiction | omega | (simp at g2; done)
    · refine vc_skip ?_
      refine thn ?_
      refine vc_seq' ?_
      refine vc_sr ?_
      iterate 5 refine vo ?_
      refine vnt ?_
      refine vc_if (fun g3 => ?_) (fun g3 => ?_)
      · first | contradiction | omega | (simp at g3; done)
      · refine vc_skip ?_
        refine thn ?_
        refine vc_seq' ?_
        refine vc_sr ?_
        iterate 5 refine vo ?_
        refine vnt ?_
        refine vc_if (fun g4 => ?_) (fun g4 => ?_)
        · first | contradiction | omega | (simp at g4; done)
        · refine vc_skip ?_
          refine thn ?_
          refine vc_sr ?_
          refine vo ?_
          refine vnt ?_
          refine vc_ret ?_
          refine fin_i [] rfl (fz ?_) (fz ?_) <;> first | trivial | rfl
set_option maxHeartbeats 4000000 in
theorem c_laws_toCompletionQueue {x_Base x_Size x_Count : Int} : Con0 Tryz.prog 125 [.agg [V x_Base, V x_Size, V x_Count]] (.agg [V x_Base, V x_Size, V x_Count]) [] := by
  refine con_i Tryz.func125 Tryz.ntmps125 (t := [(0, .agg [V x_Base, V x_Size, V x_Count])]) rfl ?_
  refine vc_sr ?_
  iterate 2 refine vo ?_
  refine vnt ?_
  refine vc_sr ?_
  refine vo ?_
  refine vnt ?_
  refine vc_sr ?_
  iterate 4 refine vo ?_
  refine vnt ?_
  refine vc_sr ?_
  iterate 4 refine vo ?_
  refine vnt ?_
  refine vc_sr ?_
  iterate 4 refine vo ?_
  refine vnt ?_
  refine vc_sr ?_
  iterate 2 refine vo ?_
  refine vnt ?_
  refine vc_ret ?_
  refine fin_i [] rfl (fz ?_) (fz ?_) <;> first | trivial | rfl
set_option maxHeartbeats 4000000 in
theorem c_laws_eqCompletionQueue {x_Base x_Size x_Count : Int} : Con0 Tryz.prog 137 [.agg [V x_Base, V x_Size, V x_Count], .agg [V x_Base, V x_Size, V x_Count]] (B true) [] := by
  refine con_i Tryz.func137 Tryz.ntmps137 (t := [(0, .agg [V x_Base, V x_Size, V x_Count]), (1, .agg [V x_Base, V x_Size, V x_Count])]) rfl ?_
  refine vc_sr ?_
  iterate 3 refine vo ?_
  refine vnt ?_
  refine vc_seq' ?_
  refine vc_sr ?_
  iterate 5 refine vo ?_
  refine vnt ?_
  refine vc_if (fun g1 => ?_) (fun g1 => ?_)
  · first | contradiction | omega | (simp at g1; done)
  · refine vc_skip ?_
    refine thn ?_
    refine vc_seq' ?_
    refine vc_sr ?_
    iterate 5 refine vo ?_
    refine vnt ?_
    refine vc_if (fun g2 => ?_) (fun g2 => ?_)
    · first | contradiction | omega | (simp at g2; done)
    · refine vc_skip ?_
      refine thn ?_
      refine vc_seq' ?_
      refine vc_sr ?_
      iterate 5 refine vo ?_
      refine vnt ?_
      refine vc_if (fun g3 => ?_) (fun g3 => ?_)
      · first | contradiction | omega | (simp at g3; done)
      · refine vc_skip ?_
        refine thn ?_
        refine vc_sr ?_
        refine vo ?_
        refine vnt ?_
        refine vc_ret ?_
        refine fin_i [] rfl (fz ?_) (fz ?_) <;> first | trivial | rfl
set_option maxHeartbeats 4000000 in
theorem c_laws_toSegment {x_Kind x_SrcPort x_DstPort x_Seq x_Ack x_Flags x_Window : Int} {x_Body : ByteArray} : Con0 Tryz.prog 103 [.agg [V x_Kind, V x_SrcPort, V x_DstPort, V x_Seq, V x_Ack, V x_Flags, V x_Window, VS x_Body]] (.agg [V x_Kind, V x_SrcPort, V x_DstPort, V x_Seq, V x_Ack, V x_Flags, V x_Window, VS x_Body]) [] := by
  refine con_i Tryz.func103 Tryz.ntmps103 (t := [(0, .agg [V x_Kind, V x_SrcPort, V x_DstPort, V x_Seq, V x_Ack, V x_Flags, V x_Window, VS x_Body])]) rfl ?_
  refine vc_sr ?_
  iterate 2 refine vo ?_
  refine vnt ?_
  refine vc_sr ?_
  refine vo ?_
  refine vnt ?_
  refine vc_sr ?_
  iterate 4 refine vo ?_
  refine vnt ?_
  refine vc_sr ?_
  iterate 4 refine vo ?_
  refine vnt ?_
  refine vc_sr ?_
  iterate 4 refine vo ?_
  refine vnt ?_
  refine vc_sr ?_
  iterate 4 refine vo ?_
  refine vnt ?_
  refine vc_sr ?_
  iterate 4 refine vo ?_
  refine vnt ?_
  refine vc_sr ?_
  iterate 4 refine vo ?_
  refine vnt ?_
  refine vc_sr ?_
  iterate 4 refine vo ?_
  refine vnt ?_
  refine vc_sr ?_
  iterate 4 refine vo ?_
  refine vnt ?_
  refine vc_sr ?_
  iterate 2 refine vo ?_
  refine vnt ?_
  refine vc_ret ?_
  refine fin_i [] rfl (fz ?_) (fz ?_) <;> first | trivial | rfl
set_option maxHeartbeats 4000000 in
theorem c_laws_eqSegment {x_Kind x_SrcPort x_DstPort x_Seq x_Ack x_Flags x_Window : Int} {x_Body : ByteArray} : Con0 Tryz.prog 248 [.agg [V x_Kind, V x_SrcPort, V x_DstPort, V x_Seq, V x_Ack, V x_Flags, V x_Window, VS x_Body], .agg [V x_Kind, V x_SrcPort, V x_DstPort, V x_Seq, V x_Ack, V x_Flags, V x_Window, VS x_Body]] (B true) [] := by
  refine con_i Tryz.func248 Tryz.ntmps248 (t := [(0, .agg [V x_Kind, V x_SrcPort, V x_DstPort, V x_Seq, V x_Ack, V x_Flags, V x_Window, VS x_Body]), (1, .agg [V x_Kind, V x_SrcPort, V x_DstPort, V x_Seq, V x_Ack, V x_Flags, V x_Window, VS x_Body])]) rfl ?_
  refine vc_sr ?_
  iterate 3 refine vo ?_
  refine vnt ?_
  refine vc_seq' ?_
  refine vc_sr ?_
  iterate 5 refine vo ?_
  refine vnt ?_
  refine vc_if (fun g1 => ?_) (fun g1 => ?_)
  · first | contradiction | omega | (simp at g1; done)
  · refine vc_skip ?_
    refine thn ?_
    refine vc_seq' ?_
    refine vc_sr ?_
    iterate 5 refine vo ?_
    refine vnt ?_
    refine vc_if (fun g2 => ?_) (fun g2 => ?_)
    · first | contradiction | omega | (simp at g2; done)
    · refine vc_skip ?_
      refine thn ?_
      refine vc_seq' ?_
      refine vc_sr ?_
      iterate 5 refine vo ?_
      refine vnt ?_
      refine vc_if (fun g3 => ?_) (fun g3 => ?_)
      · first | contradiction | omega | (simp at g3; done)
      · refine vc_skip ?_
        refine thn ?_
        refine vc_seq' ?_
        refine vc_sr ?_
        iterate 5 refine vo ?_
        refine vnt ?_
        refine vc_if (fun g4 => ?_) (fun g4 => ?_)
        · first | contradiction | omega | (simp at g4; done)
        · refine vc_skip ?_
          refine thn ?_
          refine vc_seq' ?_
          refine vc_sr ?_
          iterate 5 refine vo ?_
          refine vnt ?_
          refine vc_if (fun g5 => ?_) (fun g5 => ?_)
          · first | contradiction | omega | (simp at g5; done)
          · refine vc_skip ?_
            refine thn ?_
            refine vc_seq' ?_
            refine vc_sr ?_
            iterate 5 refine vo ?_
            refine vnt ?_
            refine vc_if (fun g6 => ?_) (fun g6 => ?_)
            · first | contradiction | omega | (simp at g6; done)
            · refine vc_skip ?_
              refine thn ?_
              refine vc_seq' ?_
              refine vc_sr ?_
              iterate 5 refine vo ?_
              refine vnt ?_
              refine vc_if (fun g7 => ?_) (fun g7 => ?_)
              · first | contradiction | omega | (simp at g7; done)
              · refine vc_skip ?_
                refine thn ?_
                refine vc_seq' ?_
                refine vc_sr ?_
                iterate 5 refine vo ?_
                refine vnt ?_
                refine vc_if (fun g8 => ?_) (fun g8 => ?_)
                · first | contradiction | omega | (simp at g8; done)
                · refine vc_skip ?_
                  refine thn ?_
                  refine vc_sr ?_
                  refine vo ?_
                  refine vnt ?_
                  refine vc_ret ?_
                  refine fin_i [] rfl (fz ?_) (fz ?_) <;> first | trivial | rfl
set_option maxHeartbeats 4000000 in
theorem c_laws_szSegment_le {x_Kind x_SrcPort x_DstPort x_Seq x_Ack x_Flags x_Window : Int} {x_Body : ByteArray} {left : Int} (hL : left ≤ 1048576 := by omega) (h : (x_Body.size : Int) ≤ left := by omega) (hs_x_Body : x_Body.size ≤ 9223372036854775807 := by first | assumption | omega) : Con0 Tryz.prog 98 [.agg [V x_Kind, V x_SrcPort, V x_DstPort, V x_Seq, V x_Ack, V x_Flags, V x_Window, VS x_Body], I left] (I (left - x_Body.size)) [] := by
  refine con_i Tryz.func98 Tryz.ntmps98 (t := [(0, .agg [V x_Kind, V x_SrcPort, V x_DstPort, V x_Seq, V x_Ack, V x_Flags, V x_Window, VS x_Body]), (1, I left)]) rfl ?_
  refine vc_sr ?_
  iterate 2 refine vo ?_
  refine vnt ?_
  refine vc_sr ?_
  iterate 5 refine vo ?_
  try refine vwr ?_
  refine vo ?_
  refine vnt ?_
  refine vc_seq' ?_
  refine vc_sr ?_
  iterate 2 refine vo ?_
  refine vnt ?_
  refine vc_if (fun g1 => ?_) (fun g1 => ?_)
  · first | contradiction | omega | (simp at g1; done)
  · refine vc_skip ?_
    refine thn ?_
    refine vc_sr ?_
    iterate 2 refine vo ?_
    refine vnt ?_
    refine vc_ret ?_
    refine fin_i [] rfl (fz ?_) (fz ?_) <;> first | trivial | rfl | omega | (simp; omega)
set_option maxHeartbeats 4000000 in
theorem c_laws_szSegment_gt {x_Kind x_SrcPort x_DstPort x_Seq x_Ack x_Flags x_Window : Int} {x_Body : ByteArray} {left : Int} (hL : left ≤ 1048576 := by omega) (h0 : 0 ≤ left := by omega) (h : left < (x_Body.size : Int) := by omega) (hs_x_Body : x_Body.size ≤ 9223372036854775807 := by first | assumption | omega) : Con0 Tryz.prog 98 [.agg [V x_Kind, V x_SrcPort, V x_DstPort, V x_Seq, V x_Ack, V x_Flags, V x_Window, VS x_Body], I left] (I (-1)) [] := by
  refine con_i Tryz.func98 Tryz.ntmps98 (t := [(0, .agg [V x_Kind, V x_SrcPort, V x_DstPort, V x_Seq, V x_Ack, V x_Flags, V x_Window, VS x_Body]), (1, I left)]) rfl ?_
  refine vc_sr ?_
  iterate 2 refine vo ?_
  refine vnt ?_
  refine vc_sr ?_
  iterate 5 refine vo ?_
  try refine vwr ?_
  refine vo ?_
  refine vnt ?_
  refine vc_seq' ?_
  refine vc_sr ?_
  iterate 2 refine vo ?_
  refine vnt ?_
  refine vc_if (fun g1 => ?_) (fun g1 => ?_)
  · refine vc_sr ?_
    refine vo ?_
    refine vnt ?_
    refine vc_ret ?_
    refine thn_r ?_
    refine fin_i [] rfl (fz ?_) (fz ?_) <;> first | trivial | rfl | omega | (simp; omega)
  · first | contradiction | omega | (simp at g1; done; done)
set_option maxHeartbeats 4000000 in
theorem c_laws_toPacket {x_DstMac x_SrcMac x_Vlan x_Tos x_Id x_Ttl x_SrcIp x_DstIp x_Seg_Kind x_Seg_SrcPort x_Seg_DstPort x_Seg_Seq x_Seg_Ack x_Seg_Flags x_Seg_Window : Int} {x_Seg_Body : ByteArray} : Con0 Tryz.prog 27 [.agg [V x_DstMac, V x_SrcMac, V x_Vlan, V x_Tos, V x_Id, V x_Ttl, V x_SrcIp, V x_DstIp, V x_Seg_Kind, V x_Seg_SrcPort, V x_Seg_DstPort, V x_Seg_Seq, V x_Seg_Ack, V x_Seg_Flags, V x_Seg_Window, VS x_Seg_Body]] (.agg [V x_DstMac, V x_SrcMac, V x_Vlan, V x_Tos, V x_Id, V x_Ttl, V x_SrcIp, V x_DstIp, V x_Seg_Kind, V x_Seg_SrcPort, V x_Seg_DstPort, V x_Seg_Seq, V x_Seg_Ack, V x_Seg_Flags, V x_Seg_Window, VS x_Seg_Body]) [] := by
  refine con_i Tryz.func27 Tryz.ntmps27 (t := [(0, .agg [V x_DstMac, V x_SrcMac, V x_Vlan, V x_Tos, V x_Id, V x_Ttl, V x_SrcIp, V x_DstIp, V x_Seg_Kind, V x_Seg_SrcPort, V x_Seg_DstPort, V x_Seg_Seq, V x_Seg_Ack, V x_Seg_Flags, V x_Seg_Window, VS x_Seg_Body])]) rfl ?_
  refine vc_sr ?_
  iterate 2 refine vo ?_
  refine vnt ?_
  refine vc_sr ?_
  refine vo ?_
  refine vnt ?_
  refine vc_sr ?_
  iterate 4 refine vo ?_
  refine vnt ?_
  refine vc_sr ?_
  iterate 4 refine vo ?_
  refine vnt ?_
  refine vc_sr ?_
  iterate 4 refine vo ?_
  refine vnt ?_
  refine vc_sr ?_
  iterate 4 refine vo ?_
  refine vnt ?_
  refine vc_sr ?_
  iterate 4 refine vo ?_
  refine vnt ?_
  refine vc_sr ?_
  iterate 4 refine vo ?_
  refine vnt ?_
  refine vc_sr ?_
  iterate 4 refine vo ?_
  refine vnt ?_
  refine vc_sr ?_
  iterate 4 refine vo ?_
  refine vnt ?_
  refine vc_sr ?_
  iterate 2 refine vo ?_
  refine voc c_laws_toSegment rfl rfl ?_
  iterate 2 refine vo ?_
  refine vnt ?_
  refine vc_sr ?_
  iterate 2 refine vo ?_
  refine vnt ?_
  refine vc_ret ?_
  refine fin_i [] rfl (fz ?_) (fz ?_) <;> first | trivial | rfl
set_option maxHeartbeats 4000000 in
theorem c_laws_eqPacket {x_DstMac x_SrcMac x_Vlan x_Tos x_Id x_Ttl x_SrcIp x_DstIp x_Seg_Kind x_Seg_SrcPort x_Seg_DstPort x_Seg_Seq x_Seg_Ack x_Seg_Flags x_Seg_Window : Int} {x_Seg_Body : ByteArray} : Con0 Tryz.prog 212 [.agg [V x_DstMac, V x_SrcMac, V x_Vlan, V x_Tos, V x_Id, V x_Ttl, V x_SrcIp, V x_DstIp, V x_Seg_Kind, V x_Seg_SrcPort, V x_Seg_DstPort, V x_Seg_Seq, V x_Seg_Ack, V x_Seg_Flags, V x_Seg_Window, VS x_Seg_Body], .agg [V x_DstMac, V x_SrcMac, V x_Vlan, V x_Tos, V x_Id, V x_Ttl, V x_SrcIp, V x_DstIp, V x_Seg_Kind, V x_Seg_SrcPort, V x_Seg_DstPort, V x_Seg_Seq, V x_Seg_Ack, V x_Seg_Flags, V x_Seg_Window, VS x_Seg_Body]] (B true) [] := by
  refine con_i Tryz.func212 Tryz.ntmps212 (t := [(0, .agg [V x_DstMac, V x_SrcMac, V x_Vlan, V x_Tos, V x_Id, V x_Ttl, V x_SrcIp, V x_DstIp, V x_Seg_Kind, V x_Seg_SrcPort, V x_Seg_DstPort, V x_Seg_Seq, V x_Seg_Ack, V x_Seg_Flags, V x_Seg_Window, VS x_Seg_Body]), (1, .agg [V x_DstMac, V x_SrcMac, V x_Vlan, V x_Tos, V x_Id, V x_Ttl, V x_SrcIp, V x_DstIp, V x_Seg_Kind, V x_Seg_SrcPort, V x_Seg_DstPort, V x_Seg_Seq, V x_Seg_Ack, V x_Seg_Flags, V x_Seg_Window, VS x_Seg_Body])]) rfl ?_
  refine vc_sr ?_
  iterate 3 refine vo ?_
  refine vnt ?_
  refine vc_seq' ?_
  refine vc_sr ?_
  iterate 5 refine vo ?_
  refine vnt ?_
  refine vc_if (fun g1 => ?_) (fun g1 => ?_)
  · first | contradiction | omega | (simp at g1; done)
  · refine vc_skip ?_
    refine thn ?_
    refine vc_seq' ?_
    refine vc_sr ?_
    iterate 5 refine vo ?_
    refine vnt ?_
    refine vc_if (fun g2 => ?_) (fun g2 => ?_)
    · first | contradiction | omega | (simp at g2; done)
    · refine vc_skip ?_
      refine thn ?_
      refine vc_seq' ?_
      refine vc_sr ?_
      iterate 5 refine vo ?_
      refine vnt ?_
      refine vc_if (fun g3 => ?_) (fun g3 => ?_)
      · first | contradiction | omega | (simp at g3; done)
      · refine vc_skip ?_
        refine thn ?_
        refine vc_seq' ?_
        refine vc_sr ?_
        iterate 5 refine vo ?_
        refine vnt ?_
        refine vc_if (fun g4 => ?_) (fun g4 => ?_)
        · first | contradiction | omega | (simp at g4; done)
        · refine vc_skip ?_
          refine thn ?_
          refine vc_seq' ?_
          refine vc_sr ?_
          iterate 5 refine vo ?_
          refine vnt ?_
          refine vc_if (fun g5 => ?_) (fun g5 => ?_)
          · first | contradiction | omega | (simp at g5; done)
          · refine vc_skip ?_
            refine thn ?_
            refine vc_seq' ?_
            refine vc_sr ?_
            iterate 5 refine vo ?_
            refine vnt ?_
            refine vc_if (fun g6 => ?_) (fun g6 => ?_)
            · first | contradiction | omega | (simp at g6; done)
            · refine vc_skip ?_
              refine thn ?_
              refine vc_seq' ?_
              refine vc_sr ?_
              iterate 5 refine vo ?_
              refine vnt ?_
              refine vc_if (fun g7 => ?_) (fun g7 => ?_)
              · first | contradiction | omega | (simp at g7; done)
              · refine vc_skip ?_
                refine thn ?_
                refine vc_seq' ?_
                refine vc_sr ?_
                iterate 5 refine vo ?_
                refine vnt ?_
                refine vc_if (fun g8 => ?_) (fun g8 => ?_)
                · first | contradiction | omega | (simp at g8; done)
                · refine vc_skip ?_
                  refine thn ?_
                  refine vc_seq' ?_
                  refine vc_sr ?_
                  iterate 4 refine vo ?_
                  refine voc c_laws_eqSegment rfl rfl ?_
                  refine vo ?_
                  refine vnt ?_
                  refine vc_if (fun g9 => ?_) (fun g9 => ?_)
                  · first | contradiction | omega | (simp at g9; done)
                  · refine vc_skip ?_
                    refine thn ?_
                    refine vc_sr ?_
                    refine vo ?_
                    refine vnt ?_
                    refine vc_ret ?_
                    refine fin_i [] rfl (fz ?_) (fz ?_) <;> first | trivial | rfl
set_option maxHeartbeats 4000000 in
theorem c_laws_szPacket_le {x_DstMac x_SrcMac x_Vlan x_Tos x_Id x_Ttl x_SrcIp x_DstIp x_Seg_Kind x_Seg_SrcPort x_Seg_DstPort x_Seg_Seq x_Seg_Ack x_Seg_Flags x_Seg_Window : Int} {x_Seg_Body : ByteArray} {left : Int} (hL : left ≤ 1048576 := by omega) (h : (x_Seg_Body.size : Int) ≤ left := by omega) (hs_x_Seg_Body : x_Seg_Body.size ≤ 9223372036854775807 := by first | assumption | omega) : Con0 Tryz.prog 23 [.agg [V x_DstMac, V x_SrcMac, V x_Vlan, V x_Tos, V x_Id, V x_Ttl, V x_SrcIp, V x_DstIp, V x_Seg_Kind, V x_Seg_SrcPort, V x_Seg_DstPort, V x_Seg_Seq, V x_Seg_Ack, V x_Seg_Flags, V x_Seg_Window, VS x_Seg_Body], I left] (I (left - x_Seg_Body.size)) [] := by
  refine con_i Tryz.func23 Tryz.ntmps23 (t := [(0, .agg [V x_DstMac, V x_SrcMac, V x_Vlan, V x_Tos, V x_Id, V x_Ttl, V x_SrcIp, V x_DstIp, V x_Seg_Kind, V x_Seg_SrcPort, V x_Seg_DstPort, V x_Seg_Seq, V x_Seg_Ack, V x_Seg_Flags, V x_Seg_Window, VS x_Seg_Body]), (1, I left)]) rfl ?_
  refine vc_sr ?_
  iterate 2 refine vo ?_
  refine vnt ?_
  refine vc_sr ?_
  iterate 3 refine vo ?_
  refine voc c_laws_szSegment_le rfl rfl ?_
  refine vo ?_
  refine vnt ?_
  refine vc_seq' ?_
  refine vc_sr ?_
  iterate 2 refine vo ?_
  refine vnt ?_
  refine vc_if (fun g1 => ?_) (fun g1 => ?_)
  · first | contradiction | omega | (simp at g1; done)
  · refine vc_skip ?_
    refine thn ?_
    refine vc_sr ?_
    iterate 2 refine vo ?_
    refine vnt ?_
    refine vc_ret ?_
    refine fin_i [] rfl (fz ?_) (fz ?_) <;> first | trivial | rfl | omega | (simp; omega)
set_option maxHeartbeats 4000000 in
theorem c_laws_szPacket_gt {x_DstMac x_SrcMac x_Vlan x_Tos x_Id x_Ttl x_SrcIp x_DstIp x_Seg_Kind x_Seg_SrcPort x_Seg_DstPort x_Seg_Seq x_Seg_Ack x_Seg_Flags x_Seg_Window : Int} {x_Seg_Body : ByteArray} {left : Int} (hL : left ≤ 1048576 := by omega) (h0 : 0 ≤ left := by omega) (h : left < (x_Seg_Body.size : Int) := by omega) (hs_x_Seg_Body : x_Seg_Body.size ≤ 9223372036854775807 := by first | assumption | omega) : Con0 Tryz.prog 23 [.agg [V x_DstMac, V x_SrcMac, V x_Vlan, V x_Tos, V x_Id, V x_Ttl, V x_SrcIp, V x_DstIp, V x_Seg_Kind, V x_Seg_SrcPort, V x_Seg_DstPort, V x_Seg_Seq, V x_Seg_Ack, V x_Seg_Flags, V x_Seg_Window, VS x_Seg_Body], I left] (I (-1)) [] := by
  refine con_i Tryz.func23 Tryz.ntmps23 (t := [(0, .agg [V x_DstMac, V x_SrcMac, V x_Vlan, V x_Tos, V x_Id, V x_Ttl, V x_SrcIp, V x_DstIp, V x_Seg_Kind, V x_Seg_SrcPort, V x_Seg_DstPort, V x_Seg_Seq, V x_Seg_Ack, V x_Seg_Flags, V x_Seg_Window, VS x_Seg_Body]), (1, I left)]) rfl ?_
  refine vc_sr ?_
  iterate 2 refine vo ?_
  refine vnt ?_
  refine vc_sr ?_
  iterate 3 refine vo ?_
  refine voc c_laws_szSegment_gt rfl rfl ?_
  refine vo ?_
  refine vnt ?_
  refine vc_seq' ?_
  refine vc_sr ?_
  iterate 2 refine vo ?_
  refine vnt ?_
  refine vc_if (fun g1 => ?_) (fun g1 => ?_)
  · refine vc_sr ?_
    refine vo ?_
    refine vnt ?_
    refine vc_ret ?_
    refine thn_r ?_
    refine fin_i [] rfl (fz ?_) (fz ?_) <;> first | trivial | rfl | omega | (simp; omega)
  · first | contradiction | omega | (simp at g1; done; done)
set_option maxHeartbeats 4000000 in
theorem c_laws_toSuper {x_Packet_DstMac x_Packet_SrcMac x_Packet_Vlan x_Packet_Tos x_Packet_Id x_Packet_Ttl x_Packet_SrcIp x_Packet_DstIp x_Packet_Seg_Kind x_Packet_Seg_SrcPort x_Packet_Seg_DstPort x_Packet_Seg_Seq x_Packet_Seg_Ack x_Packet_Seg_Flags x_Packet_Seg_Window x_Size x_Count : Int} {x_Packet_Seg_Body : ByteArray} : Con0 Tryz.prog 126 [.agg [V x_Packet_DstMac, V x_Packet_SrcMac, V x_Packet_Vlan, V x_Packet_Tos, V x_Packet_Id, V x_Packet_Ttl, V x_Packet_SrcIp, V x_Packet_DstIp, V x_Packet_Seg_Kind, V x_Packet_Seg_SrcPort, V x_Packet_Seg_DstPort, V x_Packet_Seg_Seq, V x_Packet_Seg_Ack, V x_Packet_Seg_Flags, V x_Packet_Seg_Window, VS x_Packet_Seg_Body, V x_Size, V x_Count]] (.agg [V x_Packet_DstMac, V x_Packet_SrcMac, V x_Packet_Vlan, V x_Packet_Tos, V x_Packet_Id, V x_Packet_Ttl, V x_Packet_SrcIp, V x_Packet_DstIp, V x_Packet_Seg_Kind, V x_Packet_Seg_SrcPort, V x_Packet_Seg_DstPort, V x_Packet_Seg_Seq, V x_Packet_Seg_Ack, V x_Packet_Seg_Flags, V x_Packet_Seg_Window, VS x_Packet_Seg_Body, V x_Size, V x_Count]) [] := by
  refine con_i Tryz.func126 Tryz.ntmps126 (t := [(0, .agg [V x_Packet_DstMac, V x_Packet_SrcMac, V x_Packet_Vlan, V x_Packet_Tos, V x_Packet_Id, V x_Packet_Ttl, V x_Packet_SrcIp, V x_Packet_DstIp, V x_Packet_Seg_Kind, V x_Packet_Seg_SrcPort, V x_Packet_Seg_DstPort, V x_Packet_Seg_Seq, V x_Packet_Seg_Ack, V x_Packet_Seg_Flags, V x_Packet_Seg_Window, VS x_Packet_Seg_Body, V x_Size, V x_Count])]) rfl ?_
  refine vc_sr ?_
  iterate 2 refine vo ?_
  refine vnt ?_
  refine vc_sr ?_
  refine vo ?_
  refine vnt ?_
  refine vc_sr ?_
  iterate 2 refine vo ?_
  refine voc c_laws_toPacket rfl rfl ?_
  iterate 2 refine vo ?_
  refine vnt ?_
  refine vc_sr ?_
  iterate 4 refine vo ?_
  refine vnt ?_
  refine vc_sr ?_
  iterate 4 refine vo ?_
  refine vnt ?_
  refine vc_sr ?_
  iterate 2 refine vo ?_
  refine vnt ?_
  refine vc_ret ?_
  refine fin_i [] rfl (fz ?_) (fz ?_) <;> first | trivial | rfl
set_option maxHeartbeats 4000000 in
theorem c_laws_eqSuper {x_Packet_DstMac x_Packet_SrcMac x_Packet_Vlan x_Packet_Tos x_Packet_Id x_Packet_Ttl x_Packet_SrcIp x_Packet_DstIp x_Packet_Seg_Kind x_Packet_Seg_SrcPort x_Packet_Seg_DstPort x_Packet_Seg_Seq x_Packet_Seg_Ack x_Packet_Seg_Flags x_Packet_Seg_Window x_Size x_Count : Int} {x_Packet_Seg_Body : ByteArray} : Con0 Tryz.prog 138 [.agg [V x_Packet_DstMac, V x_Packet_SrcMac, V x_Packet_Vlan, V x_Packet_Tos, V x_Packet_Id, V x_Packet_Ttl, V x_Packet_SrcIp, V x_Packet_DstIp, V x_Packet_Seg_Kind, V x_Packet_Seg_SrcPort, V x_Packet_Seg_DstPort, V x_Packet_Seg_Seq, V x_Packet_Seg_Ack, V x_Packet_Seg_Flags, V x_Packet_Seg_Window, VS x_Packet_Seg_Body, V x_Size, V x_Count], .agg [V x_Packet_DstMac, V x_Packet_SrcMac, V x_Packet_Vlan, V x_Packet_Tos, V x_Packet_Id, V x_Packet_Ttl, V x_Packet_SrcIp, V x_Packet_DstIp, V x_Packet_Seg_Kind, V x_Packet_Seg_SrcPort, V x_Packet_Seg_DstPort, V x_Packet_Seg_Seq, V x_Packet_Seg_Ack, V x_Packet_Seg_Flags, V x_Packet_Seg_Window, VS x_Packet_Seg_Body, V x_Size, V x_Count]] (B true) [] := by
  refine con_i Tryz.func138 Tryz.ntmps138 (t := [(0, .agg [V x_Packet_DstMac, V x_Packet_SrcMac, V x_Packet_Vlan, V x_Packet_Tos, V x_Packet_Id, V x_Packet_Ttl, V x_Packet_SrcIp, V x_Packet_DstIp, V x_Packet_Seg_Kind, V x_Packet_Seg_SrcPort, V x_Packet_Seg_DstPort, V x_Packet_Seg_Seq, V x_Packet_Seg_Ack, V x_Packet_Seg_Flags, V x_Packet_Seg_Window, VS x_Packet_Seg_Body, V x_Size, V x_Count]), (1, .agg [V x_Packet_DstMac, V x_Packet_SrcMac, V x_Packet_Vlan, V x_Packet_Tos, V x_Packet_Id, V x_Packet_Ttl, V x_Packet_SrcIp, V x_Packet_DstIp, V x_Packet_Seg_Kind, V x_Packet_Seg_SrcPort, V x_Packet_Seg_DstPort, V x_Packet_Seg_Seq, V x_Packet_Seg_Ack, V x_Packet_Seg_Flags, V x_Packet_Seg_Window, VS x_Packet_Seg_Body, V x_Size, V x_Count])]) rfl ?_
  refine vc_sr ?_
  iterate 3 refine vo ?_
  refine vnt ?_
  refine vc_seq' ?_
  refine vc_sr ?_
  iterate 4 refine vo ?_
  refine voc c_laws_eqPacket rfl rfl ?_
  refine vo ?_
  refine vnt ?_
  refine vc_if (fun g1 => ?_) (fun g1 => ?_)
  · first | contradiction | omega | (simp at g1; done)
  · refine vc_skip ?_
    refine thn ?_
    refine vc_seq' ?_
    refine vc_sr ?_
    iterate 5 refine vo ?_
    refine vnt ?_
    refine vc_if (fun g2 => ?_) (fun g2 => ?_)
    · first | contradiction | omega | (simp at g2; done)
    · refine vc_skip ?_
      refine thn ?_
      refine vc_seq' ?_
      refine vc_sr ?_
      iterate 5 refine vo ?_
      refine vnt ?_
      refine vc_if (fun g3 => ?_) (fun g3 => ?_)
      · first | contradiction | omega | (simp at g3; done)
      · refine vc_skip ?_
        refine thn ?_
        refine vc_sr ?_
        refine vo ?_
        refine vnt ?_
        refine vc_ret ?_
        refine fin_i [] rfl (fz ?_) (fz ?_) <;> first | trivial | rfl
set_option maxHeartbeats 4000000 in
theorem c_laws_szSuper_le {x_Packet_DstMac x_Packet_SrcMac x_Packet_Vlan x_Packet_Tos x_Packet_Id x_Packet_Ttl x_Packet_SrcIp x_Packet_DstIp x_Packet_Seg_Kind x_Packet_Seg_SrcPort x_Packet_Seg_DstPort x_Packet_Seg_Seq x_Packet_Seg_Ack x_Packet_Seg_Flags x_Packet_Seg_Window x_Size x_Count : Int} {x_Packet_Seg_Body : ByteArray} {left : Int} (hL : left ≤ 1048576 := by omega) (h : (x_Packet_Seg_Body.size : Int) ≤ left := by omega) (hs_x_Packet_Seg_Body : x_Packet_Seg_Body.size ≤ 9223372036854775807 := by first | assumption | omega) : Con0 Tryz.prog 113 [.agg [V x_Packet_DstMac, V x_Packet_SrcMac, V x_Packet_Vlan, V x_Packet_Tos, V x_Packet_Id, V x_Packet_Ttl, V x_Packet_SrcIp, V x_Packet_DstIp, V x_Packet_Seg_Kind, V x_Packet_Seg_SrcPort, V x_Packet_Seg_DstPort, V x_Packet_Seg_Seq, V x_Packet_Seg_Ack, V x_Packet_Seg_Flags, V x_Packet_Seg_Window, VS x_Packet_Seg_Body, V x_Size, V x_Count], I left] (I (left - x_Packet_Seg_Body.size)) [] := by
  refine con_i Tryz.func113 Tryz.ntmps113 (t := [(0, .agg [V x_Packet_DstMac, V x_Packet_SrcMac, V x_Packet_Vlan, V x_Packet_Tos, V x_Packet_Id, V x_Packet_Ttl, V x_Packet_SrcIp, V x_Packet_DstIp, V x_Packet_Seg_Kind, V x_Packet_Seg_SrcPort, V x_Packet_Seg_DstPort, V x_Packet_Seg_Seq, V x_Packet_Seg_Ack, V x_Packet_Seg_Flags, V x_Packet_Seg_Window, VS x_Packet_Seg_Body, V x_Size, V x_Count]), (1, I left)]) rfl ?_
  refine vc_sr ?_
  iterate 2 refine vo ?_
  refine vnt ?_
  refine vc_sr ?_
  iterate 3 refine vo ?_
  refine voc c_laws_szPacket_le rfl rfl ?_
  refine vo ?_
  refine vnt ?_
  refine vc_seq' ?_
  refine vc_sr ?_
  iterate 2 refine vo ?_
  refine vnt ?_
  refine vc_if (fun g1 => ?_) (fun g1 => ?_)
  · first | contradiction | omega | (simp at g1; done)
  · refine vc_skip ?_
    refine thn ?_
    refine vc_sr ?_
    iterate 2 refine vo ?_
    refine vnt ?_
    refine vc_ret ?_
    refine fin_i [] rfl (fz ?_) (fz ?_) <;> first | trivial | rfl | omega | (simp; omega)
set_option maxHeartbeats 4000000 in
theorem c_laws_szSuper_gt {x_Packet_DstMac x_Packet_SrcMac x_Packet_Vlan x_Packet_Tos x_Packet_Id x_Packet_Ttl x_Packet_SrcIp x_Packet_DstIp x_Packet_Seg_Kind x_Packet_Seg_SrcPort x_Packet_Seg_DstPort x_Packet_Seg_Seq x_Packet_Seg_Ack x_Packet_Seg_Flags x_Packet_Seg_Window x_Size x_Count : Int} {x_Packet_Seg_Body : ByteArray} {left : Int} (hL : left ≤ 1048576 := by omega) (h0 : 0 ≤ left := by omega) (h : left < (x_Packet_Seg_Body.size : Int) := by omega) (hs_x_Packet_Seg_Body : x_Packet_Seg_Body.size ≤ 9223372036854775807 := by first | assumption | omega) : Con0 Tryz.prog 113 [.agg [V x_Packet_DstMac, V x_Packet_SrcMac, V x_Packet_Vlan, V x_Packet_Tos, V x_Packet_Id, V x_Packet_Ttl, V x_Packet_SrcIp, V x_Packet_DstIp, V x_Packet_Seg_Kind, V x_Packet_Seg_SrcPort, V x_Packet_Seg_DstPort, V x_Packet_Seg_Seq, V x_Packet_Seg_Ack, V x_Packet_Seg_Flags, V x_Packet_Seg_Window, VS x_Packet_Seg_Body, V x_Size, V x_Count], I left] (I (-1)) [] := by
  refine con_i Tryz.func113 Tryz.ntmps113 (t := [(0, .agg [V x_Packet_DstMac, V x_Packet_SrcMac, V x_Packet_Vlan, V x_Packet_Tos, V x_Packet_Id, V x_Packet_Ttl, V x_Packet_SrcIp, V x_Packet_DstIp, V x_Packet_Seg_Kind, V x_Packet_Seg_SrcPort, V x_Packet_Seg_DstPort, V x_Packet_Seg_Seq, V x_Packet_Seg_Ack, V x_Packet_Seg_Flags, V x_Packet_Seg_Window, VS x_Packet_Seg_Body, V x_Size, V x_Count]), (1, I left)]) rfl ?_
  refine vc_sr ?_
  iterate 2 refine vo ?_
  refine vnt ?_
  refine vc_sr ?_
  iterate 3 refine vo ?_
  refine voc c_laws_szPacket_gt rfl rfl ?_
  refine vo ?_
  refine vnt ?_
  refine vc_seq' ?_
  refine vc_sr ?_
  iterate 2 refine vo ?_
  refine vnt ?_
  refine vc_if (fun g1 => ?_) (fun g1 => ?_)
  · refine vc_sr ?_
    refine vo ?_
    refine vnt ?_
    refine vc_ret ?_
    refine thn_r ?_
    refine fin_i [] rfl (fz ?_) (fz ?_) <;> first | trivial | rfl | omega | (simp; omega)
  · first | contradiction | omega | (simp at g1; done; done)
set_option maxHeartbeats 4000000 in
theorem c_laws_toRxQueue {x_Ring_Base x_Ring_Size x_Ring_Head x_Ring_Tail x_Device_Base x_Device_Size x_Device_Count x_Driver_Base x_Driver_Size x_Driver_Count x_Held_Packet_DstMac x_Held_Packet_SrcMac x_Held_Packet_Vlan x_Held_Packet_Tos x_Held_Packet_Id x_Held_Packet_Ttl x_Held_Packet_SrcIp x_Held_Packet_DstIp x_Held_Packet_Seg_Kind x_Held_Packet_Seg_SrcPort x_Held_Packet_Seg_DstPort x_Held_Packet_Seg_Seq x_Held_Packet_Seg_Ack x_Held_Packet_Seg_Flags x_Held_Packet_Seg_Window x_Held_Size x_Held_Count x_Dropped : Int} {x_Holding : Bool} {x_Held_Packet_Seg_Body : ByteArray} : Con0 Tryz.prog 43 [.agg [V x_Ring_Base, V x_Ring_Size, V x_Ring_Head, V x_Ring_Tail, V x_Device_Base, V x_Device_Size, V x_Device_Count, V x_Driver_Base, V x_Driver_Size, V x_Driver_Count, V x_Held_Packet_DstMac, V x_Held_Packet_SrcMac, V x_Held_Packet_Vlan, V x_Held_Packet_Tos, V x_Held_Packet_Id, V x_Held_Packet_Ttl, V x_Held_Packet_SrcIp, V x_Held_Packet_DstIp, V x_Held_Packet_Seg_Kind, V x_Held_Packet_Seg_SrcPort, V x_Held_Packet_Seg_DstPort, V x_Held_Packet_Seg_Seq, V x_Held_Packet_Seg_Ack, V x_Held_Packet_Seg_Flags, V x_Held_Packet_Seg_Window, VS x_Held_Packet_Seg_Body, V x_Held_Size, V x_Held_Count, VB x_Holding, V x_Dropped]] (.agg [V x_Ring_Base, V x_Ring_Size, V x_Ring_Head, V x_Ring_Tail, V x_Device_Base, V x_Device_Size, V x_Device_Count, V x_Driver_Base, V x_Driver_Size, V x_Driver_Count, V x_Held_Packet_DstMac, V x_Held_Packet_SrcMac, V x_Held_Packet_Vlan, V x_Held_Packet_Tos, V x_Held_Packet_Id, V x_Held_Packet_Ttl, V x_Held_Packet_SrcIp, V x_Held_Packet_DstIp, V x_Held_Packet_Seg_Kind, V x_Held_Packet_Seg_SrcPort, V x_Held_Packet_Seg_DstPort, V x_Held_Packet_Seg_Seq, V x_Held_Packet_Seg_Ack, V x_Held_Packet_Seg_Flags, V x_Held_Packet_Seg_Window, VS x_Held_Packet_Seg_Body, V x_Held_Size, V x_Held_Count, VB x_Holding, V x_Dropped]) [] := by
  refine con_i Tryz.func43 Tryz.ntmps43 (t := [(0, .agg [V x_Ring_Base, V x_Ring_Size, V x_Ring_Head, V x_Ring_Tail, V x_Device_Base, V x_Device_Size, V x_Device_Count, V x_Driver_Base, V x_Driver_Size, V x_Driver_Count, V x_Held_Packet_DstMac, V x_Held_Packet_SrcMac, V x_Held_Packet_Vlan, V x_Held_Packet_Tos, V x_Held_Packet_Id, V x_Held_Packet_Ttl, V x_Held_Packet_SrcIp, V x_Held_Packet_DstIp, V x_Held_Packet_Seg_Kind, V x_Held_Packet_Seg_SrcPort, V x_Held_Packet_Seg_DstPort, V x_Held_Packet_Seg_Seq, V x_Held_Packet_Seg_Ack, V x_Held_Packet_Seg_Flags, V x_Held_Packet_Seg_Window, VS x_Held_Packet_Seg_Body, V x_Held_Size, V x_Held_Count, VB x_Holding, V x_Dropped])]) rfl ?_
  refine vc_sr ?_
  iterate 2 refine vo ?_
  refine vnt ?_
  refine vc_sr ?_
  refine vo ?_
  refine vnt ?_
  refine vc_sr ?_
  iterate 2 refine vo ?_
  refine voc c_laws_toRing rfl rfl ?_
  iterate 2 refine vo ?_
  refine vnt ?_
  refine vc_sr ?_
  iterate 2 refine vo ?_
  refine voc c_laws_toCompletionQueue rfl rfl ?_
  iterate 2 refine vo ?_
  refine vnt ?_
  refine vc_sr ?_
  iterate 2 refine vo ?_
  refine voc c_laws_toCompletionQueue rfl rfl ?_
  iterate 2 refine vo ?_
  refine vnt ?_
  refine vc_sr ?_
  iterate 2 refine vo ?_
  refine voc c_laws_toSuper rfl rfl ?_
  iterate 2 refine vo ?_
  refine vnt ?_
  refine vc_sr ?_
  iterate 4 refine vo ?_
  refine vnt ?_
  refine vc_sr ?_
  iterate 4 refine vo ?_
  refine vnt ?_
  refine vc_sr ?_
  iterate 2 refine vo ?_
  refine vnt ?_
  refine vc_ret ?_
  refine fin_i [] rfl (fz ?_) (fz ?_) <;> first | trivial | rfl
set_option maxHeartbeats 4000000 in
theorem c_laws_eqRxQueue {x_Ring_Base x_Ring_Size x_Ring_Head x_Ring_Tail x_Device_Base x_Device_Size x_Device_Count x_Driver_Base x_Driver_Size x_Driver_Count x_Held_Packet_DstMac x_Held_Packet_SrcMac x_Held_Packet_Vlan x_Held_Packet_Tos x_Held_Packet_Id x_Held_Packet_Ttl x_Held_Packet_SrcIp x_Held_Packet_DstIp x_Held_Packet_Seg_Kind x_Held_Packet_Seg_SrcPort x_Held_Packet_Seg_DstPort x_Held_Packet_Seg_Seq x_Held_Packet_Seg_Ack x_Held_Packet_Seg_Flags x_Held_Packet_Seg_Window x_Held_Size x_Held_Count x_Dropped : Int} {x_Holding : Bool} {x_Held_Packet_Seg_Body : ByteArray} : Con0 Tryz.prog 47 [.agg [V x_Ring_Base, V x_Ring_Size, V x_Ring_Head, V x_Ring_Tail, V x_Device_Base, V x_Device_Size, V x_Device_Count, V x_Driver_Base, V x_Driver_Size, V x_Driver_Count, V x_Held_Packet_DstMac, V x_Held_Packet_SrcMac, V x_Held_Packet_Vlan, V x_Held_Packet_Tos, V x_Held_Packet_Id, V x_Held_Packet_Ttl, V x_Held_Packet_SrcIp, V x_Held_Packet_DstIp, V x_Held_Packet_Seg_Kind, V x_Held_Packet_Seg_SrcPort, V x_Held_Packet_Seg_DstPort, V x_Held_Packet_Seg_Seq, V x_Held_Packet_Seg_Ack, V x_Held_Packet_Seg_Flags, V x_Held_Packet_Seg_Window, VS x_Held_Packet_Seg_Body, V x_Held_Size, V x_Held_Count, VB x_Holding, V x_Dropped], .agg [V x_Ring_Base, V x_Ring_Size, V x_Ring_Head, V x_Ring_Tail, V x_Device_Base, V x_Device_Size, V x_Device_Count, V x_Driver_Base, V x_Driver_Size, V x_Driver_Count, V x_Held_Packet_DstMac, V x_Held_Packet_SrcMac, V x_Held_Packet_Vlan, V x_Held_Packet_Tos, V x_Held_Packet_Id, V x_Held_Packet_Ttl, V x_Held_Packet_SrcIp, V x_Held_Packet_DstIp, V x_Held_Packet_Seg_Kind, V x_Held_Packet_Seg_SrcPort, V x_Held_Packet_Seg_DstPort, V x_Held_Packet_Seg_Seq, V x_Held_Packet_Seg_Ack, V x_Held_Packet_Seg_Flags, V x_Held_Packet_Seg_Window, VS x_Held_Packet_Seg_Body, V x_Held_Size, V x_Held_Count, VB x_Holding, V x_Dropped]] (B true) [] := by
  refine con_i Tryz.func47 Tryz.ntmps47 (t := [(0, .agg [V x_Ring_Base, V x_Ring_Size, V x_Ring_Head, V x_Ring_Tail, V x_Device_Base, V x_Device_Size, V x_Device_Count, V x_Driver_Base, V x_Driver_Size, V x_Driver_Count, V x_Held_Packet_DstMac, V x_Held_Packet_SrcMac, V x_Held_Packet_Vlan, V x_Held_Packet_Tos, V x_Held_Packet_Id, V x_Held_Packet_Ttl, V x_Held_Packet_SrcIp, V x_Held_Packet_DstIp, V x_Held_Packet_Seg_Kind, V x_Held_Packet_Seg_SrcPort, V x_Held_Packet_Seg_DstPort, V x_Held_Packet_Seg_Seq, V x_Held_Packet_Seg_Ack, V x_Held_Packet_Seg_Flags, V x_Held_Packet_Seg_Window, VS x_Held_Packet_Seg_Body, V x_Held_Size, V x_Held_Count, VB x_Holding, V x_Dropped]), (1, .agg [V x_Ring_Base, V x_Ring_Size, V x_Ring_Head, V x_Ring_Tail, V x_Device_Base, V x_Device_Size, V x_Device_Count, V x_Driver_Base, V x_Driver_Size, V x_Driver_Count, V x_Held_Packet_DstMac, V x_Held_Packet_SrcMac, V x_Held_Packet_Vlan, V x_Held_Packet_Tos, V x_Held_Packet_Id, V x_Held_Packet_Ttl, V x_Held_Packet_SrcIp, V x_Held_Packet_DstIp, V x_Held_Packet_Seg_Kind, V x_Held_Packet_Seg_SrcPort, V x_Held_Packet_Seg_DstPort, V x_Held_Packet_Seg_Seq, V x_Held_Packet_Seg_Ack, V x_Held_Packet_Seg_Flags, V x_Held_Packet_Seg_Window, VS x_Held_Packet_Seg_Body, V x_Held_Size, V x_Held_Count, VB x_Holding, V x_Dropped])]) rfl ?_
  refine vc_sr ?_
  iterate 3 refine vo ?_
  refine vnt ?_
  refine vc_seq' ?_
  refine vc_sr ?_
  iterate 4 refine vo ?_
  refine voc c_laws_eqRing rfl rfl ?_
  refine vo ?_
  refine vnt ?_
  refine vc_if (fun g1 => ?_) (fun g1 => ?_)
  · first | contradiction | omega | (simp at g1; done)
  · refine vc_skip ?_
    refine thn ?_
    refine vc_seq' ?_
    refine vc_sr ?_
    iterate 4 refine vo ?_
    refine voc c_laws_eqCompletionQueue rfl rfl ?_
    refine vo ?_
    refine vnt ?_
    refine vc_if (fun g2 => ?_) (fun g2 => ?_)
    · first | contradiction | omega | (simp at g2; done)
    · refine vc_skip ?_
      refine thn ?_
      refine vc_seq' ?_
      refine vc_sr ?_
      iterate 4 refine vo ?_
      refine voc c_laws_eqCompletionQueue rfl rfl ?_
      refine vo ?_
      refine vnt ?_
      refine vc_if (fun g3 => ?_) (fun g3 => ?_)
      · first | contradiction | omega | (simp at g3; done)
      · refine vc_skip ?_
        refine thn ?_
        refine vc_seq' ?_
        refine vc_sr ?_
        iterate 4 refine vo ?_
        refine voc c_laws_eqSuper rfl rfl ?_
        refine vo ?_
        refine vnt ?_
        refine vc_if (fun g4 => ?_) (fun g4 => ?_)
        · first | contradiction | omega | (simp at g4; done)
        · refine vc_skip ?_
          refine thn ?_
          refine vc_seq' ?_
          refine vc_sr ?_
          iterate 5 refine vo ?_
          refine vnt ?_
          refine vc_if (fun g5 => ?_) (fun g5 => ?_)
          · first | contradiction | omega | (simp at g5; done)
          · refine vc_skip ?_
            refine thn ?_
            refine vc_seq' ?_
            refine vc_sr ?_
            iterate 5 refine vo ?_
            refine vnt ?_
            refine vc_if (fun g6 => ?_) (fun g6 => ?_)
            · first | contradiction | omega | (simp at g6; done)
            · refine vc_skip ?_
              refine thn ?_
              refine vc_sr ?_
              refine vo ?_
              refine vnt ?_
              refine vc_ret ?_
              refine fin_i [] rfl (fz ?_) (fz ?_) <;> first | trivial | rfl
set_option maxHeartbeats 4000000 in
theorem c_laws_szRxQueue_le {x_Ring_Base x_Ring_Size x_Ring_Head x_Ring_Tail x_Device_Base x_Device_Size x_Device_Count x_Driver_Base x_Driver_Size x_Driver_Count x_Held_Packet_DstMac x_Held_Packet_SrcMac x_Held_Packet_Vlan x_Held_Packet_Tos x_Held_Packet_Id x_Held_Packet_Ttl x_Held_Packet_SrcIp x_Held_Packet_DstIp x_Held_Packet_Seg_Kind x_Held_Packet_Seg_SrcPort x_Held_Packet_Seg_DstPort x_Held_Packet_Seg_Seq x_Held_Packet_Seg_Ack x_Held_Packet_Seg_Flags x_Held_Packet_Seg_Window x_Held_Size x_Held_Count x_Dropped : Int} {x_Holding : Bool} {x_Held_Packet_Seg_Body : ByteArray} {left : Int} (hL : left ≤ 1048576 := by omega) (h : (x_Held_Packet_Seg_Body.size : Int) ≤ left := by omega) (hs_x_Held_Packet_Seg_Body : x_Held_Packet_Seg_Body.size ≤ 9223372036854775807 := by first | assumption | omega) : Con0 Tryz.prog 39 [.agg [V x_Ring_Base, V x_Ring_Size, V x_Ring_Head, V x_Ring_Tail, V x_Device_Base, V x_Device_Size, V x_Device_Count, V x_Driver_Base, V x_Driver_Size, V x_Driver_Count, V x_Held_Packet_DstMac, V x_Held_Packet_SrcMac, V x_Held_Packet_Vlan, V x_Held_Packet_Tos, V x_Held_Packet_Id, V x_Held_Packet_Ttl, V x_Held_Packet_SrcIp, V x_Held_Packet_DstIp, V x_Held_Packet_Seg_Kind, V x_Held_Packet_Seg_SrcPort, V x_Held_Packet_Seg_DstPort, V x_Held_Packet_Seg_Seq, V x_Held_Packet_Seg_Ack, V x_Held_Packet_Seg_Flags, V x_Held_Packet_Seg_Window, VS x_Held_Packet_Seg_Body, V x_Held_Size, V x_Held_Count, VB x_Holding, V x_Dropped], I left] (I (left - x_Held_Packet_Seg_Body.size)) [] := by
  refine con_i Tryz.func39 Tryz.ntmps39 (t := [(0, .agg [V x_Ring_Base, V x_Ring_Size, V x_Ring_Head, V x_Ring_Tail, V x_Device_Base, V x_Device_Size, V x_Device_Count, V x_Driver_Base, V x_Driver_Size, V x_Driver_Count, V x_Held_Packet_DstMac, V x_Held_Packet_SrcMac, V x_Held_Packet_Vlan, V x_Held_Packet_Tos, V x_Held_Packet_Id, V x_Held_Packet_Ttl, V x_Held_Packet_SrcIp, V x_Held_Packet_DstIp, V x_Held_Packet_Seg_Kind, V x_Held_Packet_Seg_SrcPort, V x_Held_Packet_Seg_DstPort, V x_Held_Packet_Seg_Seq, V x_Held_Packet_Seg_Ack, V x_Held_Packet_Seg_Flags, V x_Held_Packet_Seg_Window, VS x_Held_Packet_Seg_Body, V x_Held_Size, V x_Held_Count, VB x_Holding, V x_Dropped]), (1, I left)]) rfl ?_
  refine vc_sr ?_
  iterate 2 refine vo ?_
  refine vnt ?_
  refine vc_sr ?_
  iterate 3 refine vo ?_
  refine voc c_laws_szSuper_le rfl rfl ?_
  refine vo ?_
  refine vnt ?_
  refine vc_seq' ?_
  refine vc_sr ?_
  iterate 2 refine vo ?_
  refine vnt ?_
  refine vc_if (fun g1 => ?_) (fun g1 => ?_)
  · first | contradiction | omega | (simp at g1; done)
  · refine vc_skip ?_
    refine thn ?_
    refine vc_sr ?_
    iterate 2 refine vo ?_
    refine vnt ?_
    refine vc_ret ?_
    refine fin_i [] rfl (fz ?_) (fz ?_) <;> first | trivial | rfl | omega | (simp; omega)
set_option maxHeartbeats 4000000 in
theorem c_laws_szRxQueue_gt {x_Ring_Base x_Ring_Size x_Ring_Head x_Ring_Tail x_Device_Base x_Device_Size x_Device_Count x_Driver_Base x_Driver_Size x_Driver_Count x_Held_Packet_DstMac x_Held_Packet_SrcMac x_Held_Packet_Vlan x_Held_Packet_Tos x_Held_Packet_Id x_Held_Packet_Ttl x_Held_Packet_SrcIp x_Held_Packet_DstIp x_Held_Packet_Seg_Kind x_Held_Packet_Seg_SrcPort x_Held_Packet_Seg_DstPort x_Held_Packet_Seg_Seq x_Held_Packet_Seg_Ack x_Held_Packet_Seg_Flags x_Held_Packet_Seg_Window x_Held_Size x_Held_Count x_Dropped : Int} {x_Holding : Bool} {x_Held_Packet_Seg_Body : ByteArray} {left : Int} (hL : left ≤ 1048576 := by omega) (h0 : 0 ≤ left := by omega) (h : left < (x_Held_Packet_Seg_Body.size : Int) := by omega) (hs_x_Held_Packet_Seg_Body : x_Held_Packet_Seg_Body.size ≤ 9223372036854775807 := by first | assumption | omega) : Con0 Tryz.prog 39 [.agg [V x_Ring_Base, V x_Ring_Size, V x_Ring_Head, V x_Ring_Tail, V x_Device_Base, V x_Device_Size, V x_Device_Count, V x_Driver_Base, V x_Driver_Size, V x_Driver_Count, V x_Held_Packet_DstMac, V x_Held_Packet_SrcMac, V x_Held_Packet_Vlan, V x_Held_Packet_Tos, V x_Held_Packet_Id, V x_Held_Packet_Ttl, V x_Held_Packet_SrcIp, V x_Held_Packet_DstIp, V x_Held_Packet_Seg_Kind, V x_Held_Packet_Seg_SrcPort, V x_Held_Packet_Seg_DstPort, V x_Held_Packet_Seg_Seq, V x_Held_Packet_Seg_Ack, V x_Held_Packet_Seg_Flags, V x_Held_Packet_Seg_Window, VS x_Held_Packet_Seg_Body, V x_Held_Size, V x_Held_Count, VB x_Holding, V x_Dropped], I left] (I (-1)) [] := by
  refine con_i Tryz.func39 Tryz.ntmps39 (t := [(0, .agg [V x_Ring_Base, V x_Ring_Size, V x_Ring_Head, V x_Ring_Tail, V x_Device_Base, V x_Device_Size, V x_Device_Count, V x_Driver_Base, V x_Driver_Size, V x_Driver_Count, V x_Held_Packet_DstMac, V x_Held_Packet_SrcMac, V x_Held_Packet_Vlan, V x_Held_Packet_Tos, V x_Held_Packet_Id, V x_Held_Packet_Ttl, V x_Held_Packet_SrcIp, V x_Held_Packet_DstIp, V x_Held_Packet_Seg_Kind, V x_Held_Packet_Seg_SrcPort, V x_Held_Packet_Seg_DstPort, V x_Held_Packet_Seg_Seq, V x_Held_Packet_Seg_Ack, V x_Held_Packet_Seg_Flags, V x_Held_Packet_Seg_Window, VS x_Held_Packet_Seg_Body, V x_Held_Size, V x_Held_Count, VB x_Holding, V x_Dropped]), (1, I left)]) rfl ?_
  refine vc_sr ?_
  iterate 2 refine vo ?_
  refine vnt ?_
  refine vc_sr ?_
  iterate 3 refine vo ?_
  refine voc c_laws_szSuper_gt rfl rfl ?_
  refine vo ?_
  refine vnt ?_
  refine vc_seq' ?_
  refine vc_sr ?_
  iterate 2 refine vo ?_
  refine vnt ?_
  refine vc_if (fun g1 => ?_) (fun g1 => ?_)
  · refine vc_sr ?_
    refine vo ?_
    refine vnt ?_
    refine vc_ret ?_
    refine thn_r ?_
    refine fin_i [] rfl (fz ?_) (fz ?_) <;> first | trivial | rfl | omega | (simp; omega)
  · first | contradiction | omega | (simp at g1; done; done)
section
variable {P : Program} {f : FuncId} {args : List AV} {vs : List Value} {w : World}
theorem ab_agg (cs : List Value) (h : cs.all (·.oneCell') = true) {w : World} : AB w (.agg (cs.map .v)) (.agg cs.toArray) := ⟨cs, rfl, F2.plain h⟩
theorem rb_sl {α : Type} [Rep α] [Flat α] {w : World} {xs : List α} {v : Value} {E : α → List Value} (hE : ∀ x, E x = Flat.cells x) (h : Holds w xs [v]) : RB w (.sl (Rep.size α) (xs.map E)) v := by
  obtain ⟨a, cap, e, h1, h2, h3, h4⟩ := h.flat
  obtain rfl : v = .slice a xs.length cap := by simpa using e
  refine ⟨a, cap, by rw [List.length_map], by rwa [List.length_map], h2, fun e he => ?_, fun hne => ?_⟩
  · obtain ⟨x, _, rfl⟩ := List.mem_map.1 he
    rw [hE]; exact ⟨Flat.len x, List.all_eq_true.2 (Flat.one x)⟩
  · have hl : 0 < xs.length := by
      rcases xs with _ | ⟨x, xs⟩
      · exact (hne rfl).elim
      · exact Nat.succ_pos _
    obtain ⟨b, off, ha, _⟩ := h3 0 hl
    refine ⟨b, off, ha, fun i e he j hj => ?_⟩
    rw [List.getElem?_map] at he
    obtain ⟨x, hx, rfl⟩ := Option.map_eq_some_iff.1 he
    obtain ⟨hi, rfl⟩ := List.getElem?_eq_some_iff.1 hx
    obtain ⟨b', off', ha', hc⟩ := h3 i hi
    rw [ha] at ha'
    simp only [Option.some.injEq, Addr.mk.injEq, and_true] at ha'
    obtain ⟨rfl, rfl⟩ := ha'
    rw [hE]; exact hc j hj
theorem ab_mem {ps : Pg} {v : Value} (h : Holds w ps [v]) : AB w (.agg [.sl 1 (ps.map strE)]) (.agg #[v]) := ⟨[v], rfl, .cons (R.of_rb (rb_sl (fun _ => rfl) h)) .nil⟩
theorem ab_mps {l : List Mp} {v : Value} (h : Holds w l [v]) : AB w (.one (.sl 4 (l.map mpE))) v := R.of_rb (w0 := w) (D := fun _ => False) (ρ := fun _ => undef) (rb_sl (fun _ => rfl) h)
theorem shP_v (b : Nat) : ∀ cs : List Value, ((cs.map PV.v).map (shP b)) = cs.map PV.v
  | [] => rfl
  | _ :: cs => by simp only [List.map_cons, shP_v b cs]; rfl
theorem old_one {x : Value} (hc : Con0 P f args (.one (.v x)) []) (ha : F2 (AB w) args vs) : Calls P f vs.toArray w fun e w' => e = .returned x ∧ Ex w w' := by
  refine (hc.2 w vs ha 0).mono fun e w' h => ?_
  obtain ⟨u, ρ, rfl, h1, _, _, _, As, h2, h3⟩ := h
  obtain ⟨rfl, _⟩ : u = x ∧ _ := h1
  exact ⟨rfl, h3.ex⟩
theorem old_agg {cs : List Value} (hc : Con0 P f args (.agg (cs.map .v)) []) (ha : F2 (AB w) args vs) : Calls P f vs.toArray w fun e w' => e = .returned (.agg cs.toArray) ∧ Ex w w' := by
  refine (hc.2 w vs ha 0).mono fun e w' h => ?_
  obtain ⟨u, ρ, rfl, h1, _, _, _, As, h2, h3⟩ := h
  obtain ⟨us, rfl, h1⟩ : ∃ us : List Value, u = .agg us.toArray ∧ F2 _ ((cs.map PV.v).map (shP 0)) us := h1
  rw [shP_v] at h1
  obtain ⟨rfl, _⟩ := F2.map_v h1
  exact ⟨rfl, h3.ex⟩
theorem pg_flat (ps : Pg) : (ps.map strE).flatten = ps.flatMap Flat.cells := by rw [List.flatMap_def]; rfl
end
theorem toRxQueue_w (x_Ring_Base : Int) (x_Ring_Size : Int) (x_Ring_Head : Int) (x_Ring_Tail : Int) (x_Device_Base : Int) (x_Device_Size : Int) (x_Device_Count : Int) (x_Driver_Base : Int) (x_Driver_Size : Int) (x_Driver_Count : Int) (x_Held_Packet_DstMac : Int) (x_Held_Packet_SrcMac : Int) (x_Held_Packet_Vlan : Int) (x_Held_Packet_Tos : Int) (x_Held_Packet_Id : Int) (x_Held_Packet_Ttl : Int) (x_Held_Packet_SrcIp : Int) (x_Held_Packet_DstIp : Int) (x_Held_Packet_Seg_Kind : Int) (x_Held_Packet_Seg_SrcPort : Int) (x_Held_Packet_Seg_DstPort : Int) (x_Held_Packet_Seg_Seq : Int) (x_Held_Packet_Seg_Ack : Int) (x_Held_Packet_Seg_Flags : Int) (x_Held_Packet_Seg_Window : Int) (x_Held_Packet_Seg_Body : ByteArray) (x_Held_Size : Int) (x_Held_Count : Int) (x_Holding : Bool) (x_Dropped : Int) (w : World) : Calls Tryz.prog 43 #[.agg #[.int .i64 x_Ring_Base, .int .i64 x_Ring_Size, .int .i64 x_Ring_Head, .int .i64 x_Ring_Tail, .int .i64 x_Device_Base, .int .i64 x_Device_Size, .int .i64 x_Device_Count, .int .i64 x_Driver_Base, .int .i64 x_Driver_Size, .int .i64 x_Driver_Count, .int .i64 x_Held_Packet_DstMac, .int .i64 x_Held_Packet_SrcMac, .int .i64 x_Held_Packet_Vlan, .int .i64 x_Held_Packet_Tos, .int .i64 x_Held_Packet_Id, .int .i64 x_Held_Packet_Ttl, .int .i64 x_Held_Packet_SrcIp, .int .i64 x_Held_Packet_DstIp, .int .i64 x_Held_Packet_Seg_Kind, .int .i64 x_Held_Packet_Seg_SrcPort, .int .i64 x_Held_Packet_Seg_DstPort, .int .i64 x_Held_Packet_Seg_Seq, .int .i64 x_Held_Packet_Seg_Ack, .int .i64 x_Held_Packet_Seg_Flags, .int .i64 x_Held_Packet_Seg_Window, .string x_Held_Packet_Seg_Body, .int .i64 x_Held_Size, .int .i64 x_Held_Count, .bool x_Holding, .int .i64 x_Dropped]] w fun e w' => e = .returned (.agg #[.int .i64 x_Ring_Base, .int .i64 x_Ring_Size, .int .i64 x_Ring_Head, .int .i64 x_Ring_Tail, .int .i64 x_Device_Base, .int .i64 x_Device_Size, .int .i64 x_Device_Count, .int .i64 x_Driver_Base, .int .i64 x_Driver_Size, .int .i64 x_Driver_Count, .int .i64 x_Held_Packet_DstMac, .int .i64 x_Held_Packet_SrcMac, .int .i64 x_Held_Packet_Vlan, .int .i64 x_Held_Packet_Tos, .int .i64 x_Held_Packet_Id, .int .i64 x_Held_Packet_Ttl, .int .i64 x_Held_Packet_SrcIp, .int .i64 x_Held_Packet_DstIp, .int .i64 x_Held_Packet_Seg_Kind, .int .i64 x_Held_Packet_Seg_SrcPort, .int .i64 x_Held_Packet_Seg_DstPort, .int .i64 x_Held_Packet_Seg_Seq, .int .i64 x_Held_Packet_Seg_Ack, .int .i64 x_Held_Packet_Seg_Flags, .int .i64 x_Held_Packet_Seg_Window, .string x_Held_Packet_Seg_Body, .int .i64 x_Held_Size, .int .i64 x_Held_Count, .bool x_Holding, .int .i64 x_Dropped]) ∧ Ex w w' :=
  old_agg (cs := [.int .i64 x_Ring_Base, .int .i64 x_Ring_Size, .int .i64 x_Ring_Head, .int .i64 x_Ring_Tail, .int .i64 x_Device_Base, .int .i64 x_Device_Size, .int .i64 x_Device_Count, .int .i64 x_Driver_Base, .int .i64 x_Driver_Size, .int .i64 x_Driver_Count, .int .i64 x_Held_Packet_DstMac, .int .i64 x_Held_Packet_SrcMac, .int .i64 x_Held_Packet_Vlan, .int .i64 x_Held_Packet_Tos, .int .i64 x_Held_Packet_Id, .int .i64 x_Held_Packet_Ttl, .int .i64 x_Held_Packet_SrcIp, .int .i64 x_Held_Packet_DstIp, .int .i64 x_Held_Packet_Seg_Kind, .int .i64 x_Held_Packet_Seg_SrcPort, .int .i64 x_Held_Packet_Seg_DstPort, .int .i64 x_Held_Packet_Seg_Seq, .int .i64 x_Held_Packet_Seg_Ack, .int .i64 x_Held_Packet_Seg_Flags, .int .i64 x_Held_Packet_Seg_Window, .string x_Held_Packet_Seg_Body, .int .i64 x_Held_Size, .int .i64 x_Held_Count, .bool x_Holding, .int .i64 x_Dropped]) c_laws_toRxQueue (.cons (ab_agg [.int .i64 x_Ring_Base, .int .i64 x_Ring_Size, .int .i64 x_Ring_Head, .int .i64 x_Ring_Tail, .int .i64 x_Device_Base, .int .i64 x_Device_Size, .int .i64 x_Device_Count, .int .i64 x_Driver_Base, .int .i64 x_Driver_Size, .int .i64 x_Driver_Count, .int .i64 x_Held_Packet_DstMac, .int .i64 x_Held_Packet_SrcMac, .int .i64 x_Held_Packet_Vlan, .int .i64 x_Held_Packet_Tos, .int .i64 x_Held_Packet_Id, .int .i64 x_Held_Packet_Ttl, .int .i64 x_Held_Packet_SrcIp, .int .i64 x_Held_Packet_DstIp, .int .i64 x_Held_Packet_Seg_Kind, .int .i64 x_Held_Packet_Seg_SrcPort, .int .i64 x_Held_Packet_Seg_DstPort, .int .i64 x_Held_Packet_Seg_Seq, .int .i64 x_Held_Packet_Seg_Ack, .int .i64 x_Held_Packet_Seg_Flags, .int .i64 x_Held_Packet_Seg_Window, .string x_Held_Packet_Seg_Body, .int .i64 x_Held_Size, .int .i64 x_Held_Count, .bool x_Holding, .int .i64 x_Dropped] rfl) .nil)
theorem eqRxQueue_w (x_Ring_Base : Int) (x_Ring_Size : Int) (x_Ring_Head : Int) (x_Ring_Tail : Int) (x_Device_Base : Int) (x_Device_Size : Int) (x_Device_Count : Int) (x_Driver_Base : Int) (x_Driver_Size : Int) (x_Driver_Count : Int) (x_Held_Packet_DstMac : Int) (x_Held_Packet_SrcMac : Int) (x_Held_Packet_Vlan : Int) (x_Held_Packet_Tos : Int) (x_Held_Packet_Id : Int) (x_Held_Packet_Ttl : Int) (x_Held_Packet_SrcIp : Int) (x_Held_Packet_DstIp : Int) (x_Held_Packet_Seg_Kind : Int) (x_Held_Packet_Seg_SrcPort : Int) (x_Held_Packet_Seg_DstPort : Int) (x_Held_Packet_Seg_Seq : Int) (x_Held_Packet_Seg_Ack : Int) (x_Held_Packet_Seg_Flags : Int) (x_Held_Packet_Seg_Window : Int) (x_Held_Packet_Seg_Body : ByteArray) (x_Held_Size : Int) (x_Held_Count : Int) (x_Holding : Bool) (x_Dropped : Int) (w : World) : Calls Tryz.prog 47 #[.agg #[.int .i64 x_Ring_Base, .int .i64 x_Ring_Size, .int .i64 x_Ring_Head, .int .i64 x_Ring_Tail, .int .i64 x_Device_Base, .int .i64 x_Device_Size, .int .i64 x_Device_Count, .int .i64 x_Driver_Base, .int .i64 x_Driver_Size, .int .i64 x_Driver_Count, .int .i64 x_Held_Packet_DstMac, .int .i64 x_Held_Packet_SrcMac, .int .i64 x_Held_Packet_Vlan, .int .i64 x_Held_Packet_Tos, .int .i64 x_Held_Packet_Id, .int .i64 x_Held_Packet_Ttl, .int .i64 x_Held_Packet_SrcIp, .int .i64 x_Held_Packet_DstIp, .int .i64 x_Held_Packet_Seg_Kind, .int .i64 x_Held_Packet_Seg_SrcPort, .int .i64 x_Held_Packet_Seg_DstPort, .int .i64 x_Held_Packet_Seg_Seq, .int .i64 x_Held_Packet_Seg_Ack, .int .i64 x_Held_Packet_Seg_Flags, .int .i64 x_Held_Packet_Seg_Window, .string x_Held_Packet_Seg_Body, .int .i64 x_Held_Size, .int .i64 x_Held_Count, .bool x_Holding, .int .i64 x_Dropped], .agg #[.int .i64 x_Ring_Base, .int .i64 x_Ring_Size, .int .i64 x_Ring_Head, .int .i64 x_Ring_Tail, .int .i64 x_Device_Base, .int .i64 x_Device_Size, .int .i64 x_Device_Count, .int .i64 x_Driver_Base, .int .i64 x_Driver_Size, .int .i64 x_Driver_Count, .int .i64 x_Held_Packet_DstMac, .int .i64 x_Held_Packet_SrcMac, .int .i64 x_Held_Packet_Vlan, .int .i64 x_Held_Packet_Tos, .int .i64 x_Held_Packet_Id, .int .i64 x_Held_Packet_Ttl, .int .i64 x_Held_Packet_SrcIp, .int .i64 x_Held_Packet_DstIp, .int .i64 x_Held_Packet_Seg_Kind, .int .i64 x_Held_Packet_Seg_SrcPort, .int .i64 x_Held_Packet_Seg_DstPort, .int .i64 x_Held_Packet_Seg_Seq, .int .i64 x_Held_Packet_Seg_Ack, .int .i64 x_Held_Packet_Seg_Flags, .int .i64 x_Held_Packet_Seg_Window, .string x_Held_Packet_Seg_Body, .int .i64 x_Held_Size, .int .i64 x_Held_Count, .bool x_Holding, .int .i64 x_Dropped]] w fun e w' => e = .returned (.bool true) ∧ Ex w w' :=
  old_one c_laws_eqRxQueue (.cons (ab_agg [.int .i64 x_Ring_Base, .int .i64 x_Ring_Size, .int .i64 x_Ring_Head, .int .i64 x_Ring_Tail, .int .i64 x_Device_Base, .int .i64 x_Device_Size, .int .i64 x_Device_Count, .int .i64 x_Driver_Base, .int .i64 x_Driver_Size, .int .i64 x_Driver_Count, .int .i64 x_Held_Packet_DstMac, .int .i64 x_Held_Packet_SrcMac, .int .i64 x_Held_Packet_Vlan, .int .i64 x_Held_Packet_Tos, .int .i64 x_Held_Packet_Id, .int .i64 x_Held_Packet_Ttl, .int .i64 x_Held_Packet_SrcIp, .int .i64 x_Held_Packet_DstIp, .int .i64 x_Held_Packet_Seg_Kind, .int .i64 x_Held_Packet_Seg_SrcPort, .int .i64 x_Held_Packet_Seg_DstPort, .int .i64 x_Held_Packet_Seg_Seq, .int .i64 x_Held_Packet_Seg_Ack, .int .i64 x_Held_Packet_Seg_Flags, .int .i64 x_Held_Packet_Seg_Window, .string x_Held_Packet_Seg_Body, .int .i64 x_Held_Size, .int .i64 x_Held_Count, .bool x_Holding, .int .i64 x_Dropped] rfl) (.cons (ab_agg [.int .i64 x_Ring_Base, .int .i64 x_Ring_Size, .int .i64 x_Ring_Head, .int .i64 x_Ring_Tail, .int .i64 x_Device_Base, .int .i64 x_Device_Size, .int .i64 x_Device_Count, .int .i64 x_Driver_Base, .int .i64 x_Driver_Size, .int .i64 x_Driver_Count, .int .i64 x_Held_Packet_DstMac, .int .i64 x_Held_Packet_SrcMac, .int .i64 x_Held_Packet_Vlan, .int .i64 x_Held_Packet_Tos, .int .i64 x_Held_Packet_Id, .int .i64 x_Held_Packet_Ttl, .int .i64 x_Held_Packet_SrcIp, .int .i64 x_Held_Packet_DstIp, .int .i64 x_Held_Packet_Seg_Kind, .int .i64 x_Held_Packet_Seg_SrcPort, .int .i64 x_Held_Packet_Seg_DstPort, .int .i64 x_Held_Packet_Seg_Seq, .int .i64 x_Held_Packet_Seg_Ack, .int .i64 x_Held_Packet_Seg_Flags, .int .i64 x_Held_Packet_Seg_Window, .string x_Held_Packet_Seg_Body, .int .i64 x_Held_Size, .int .i64 x_Held_Count, .bool x_Holding, .int .i64 x_Dropped] rfl) .nil))
theorem szRxQueue_le_w (x_Ring_Base : Int) (x_Ring_Size : Int) (x_Ring_Head : Int) (x_Ring_Tail : Int) (x_Device_Base : Int) (x_Device_Size : Int) (x_Device_Count : Int) (x_Driver_Base : Int) (x_Driver_Size : Int) (x_Driver_Count : Int) (x_Held_Packet_DstMac : Int) (x_Held_Packet_SrcMac : Int) (x_Held_Packet_Vlan : Int) (x_Held_Packet_Tos : Int) (x_Held_Packet_Id : Int) (x_Held_Packet_Ttl : Int) (x_Held_Packet_SrcIp : Int) (x_Held_Packet_DstIp : Int) (x_Held_Packet_Seg_Kind : Int) (x_Held_Packet_Seg_SrcPort : Int) (x_Held_Packet_Seg_DstPort : Int) (x_Held_Packet_Seg_Seq : Int) (x_Held_Packet_Seg_Ack : Int) (x_Held_Packet_Seg_Flags : Int) (x_Held_Packet_Seg_Window : Int) (x_Held_Packet_Seg_Body : ByteArray) (x_Held_Size : Int) (x_Held_Count : Int) (x_Holding : Bool) (x_Dropped : Int) (left : Int) (w : World) (hL : left ≤ 1048576) (h : (x_Held_Packet_Seg_Body.size : Int) ≤ left) (hb : x_Held_Packet_Seg_Body.size ≤ maxLen) : Calls Tryz.prog 39 #[.agg #[.int .i64 x_Ring_Base, .int .i64 x_Ring_Size, .int .i64 x_Ring_Head, .int .i64 x_Ring_Tail, .int .i64 x_Device_Base, .int .i64 x_Device_Size, .int .i64 x_Device_Count, .int .i64 x_Driver_Base, .int .i64 x_Driver_Size, .int .i64 x_Driver_Count, .int .i64 x_Held_Packet_DstMac, .int .i64 x_Held_Packet_SrcMac, .int .i64 x_Held_Packet_Vlan, .int .i64 x_Held_Packet_Tos, .int .i64 x_Held_Packet_Id, .int .i64 x_Held_Packet_Ttl, .int .i64 x_Held_Packet_SrcIp, .int .i64 x_Held_Packet_DstIp, .int .i64 x_Held_Packet_Seg_Kind, .int .i64 x_Held_Packet_Seg_SrcPort, .int .i64 x_Held_Packet_Seg_DstPort, .int .i64 x_Held_Packet_Seg_Seq, .int .i64 x_Held_Packet_Seg_Ack, .int .i64 x_Held_Packet_Seg_Flags, .int .i64 x_Held_Packet_Seg_Window, .string x_Held_Packet_Seg_Body, .int .i64 x_Held_Size, .int .i64 x_Held_Count, .bool x_Holding, .int .i64 x_Dropped], .int .i64 left] w fun e w' => e = .returned (.int .i64 (left - x_Held_Packet_Seg_Body.size)) ∧ Ex w w' :=
  old_one (c_laws_szRxQueue_le hL h (by unfold maxLen at hb; omega)) (.cons (ab_agg [.int .i64 x_Ring_Base, .int .i64 x_Ring_Size, .int .i64 x_Ring_Head, .int .i64 x_Ring_Tail, .int .i64 x_Device_Base, .int .i64 x_Device_Size, .int .i64 x_Device_Count, .int .i64 x_Driver_Base, .int .i64 x_Driver_Size, .int .i64 x_Driver_Count, .int .i64 x_Held_Packet_DstMac, .int .i64 x_Held_Packet_SrcMac, .int .i64 x_Held_Packet_Vlan, .int .i64 x_Held_Packet_Tos, .int .i64 x_Held_Packet_Id, .int .i64 x_Held_Packet_Ttl, .int .i64 x_Held_Packet_SrcIp, .int .i64 x_Held_Packet_DstIp, .int .i64 x_Held_Packet_Seg_Kind, .int .i64 x_Held_Packet_Seg_SrcPort, .int .i64 x_Held_Packet_Seg_DstPort, .int .i64 x_Held_Packet_Seg_Seq, .int .i64 x_Held_Packet_Seg_Ack, .int .i64 x_Held_Packet_Seg_Flags, .int .i64 x_Held_Packet_Seg_Window, .string x_Held_Packet_Seg_Body, .int .i64 x_Held_Size, .int .i64 x_Held_Count, .bool x_Holding, .int .i64 x_Dropped] rfl) (.cons ⟨rfl, rfl⟩ .nil))
theorem szRxQueue_gt_w (x_Ring_Base : Int) (x_Ring_Size : Int) (x_Ring_Head : Int) (x_Ring_Tail : Int) (x_Device_Base : Int) (x_Device_Size : Int) (x_Device_Count : Int) (x_Driver_Base : Int) (x_Driver_Size : Int) (x_Driver_Count : Int) (x_Held_Packet_DstMac : Int) (x_Held_Packet_SrcMac : Int) (x_Held_Packet_Vlan : Int) (x_Held_Packet_Tos : Int) (x_Held_Packet_Id : Int) (x_Held_Packet_Ttl : Int) (x_Held_Packet_SrcIp : Int) (x_Held_Packet_DstIp : Int) (x_Held_Packet_Seg_Kind : Int) (x_Held_Packet_Seg_SrcPort : Int) (x_Held_Packet_Seg_DstPort : Int) (x_Held_Packet_Seg_Seq : Int) (x_Held_Packet_Seg_Ack : Int) (x_Held_Packet_Seg_Flags : Int) (x_Held_Packet_Seg_Window : Int) (x_Held_Packet_Seg_Body : ByteArray) (x_Held_Size : Int) (x_Held_Count : Int) (x_Holding : Bool) (x_Dropped : Int) (left : Int) (w : World) (hL : left ≤ 1048576) (h0 : 0 ≤ left) (h : left < (x_Held_Packet_Seg_Body.size : Int)) (hb : x_Held_Packet_Seg_Body.size ≤ maxLen) : Calls Tryz.prog 39 #[.agg #[.int .i64 x_Ring_Base, .int .i64 x_Ring_Size, .int .i64 x_Ring_Head, .int .i64 x_Ring_Tail, .int .i64 x_Device_Base, .int .i64 x_Device_Size, .int .i64 x_Device_Count, .int .i64 x_Driver_Base, .int .i64 x_Driver_Size, .int .i64 x_Driver_Count, .int .i64 x_Held_Packet_DstMac, .int .i64 x_Held_Packet_SrcMac, .int .i64 x_Held_Packet_Vlan, .int .i64 x_Held_Packet_Tos, .int .i64 x_Held_Packet_Id, .int .i64 x_Held_Packet_Ttl, .int .i64 x_Held_Packet_SrcIp, .int .i64 x_Held_Packet_DstIp, .int .i64 x_Held_Packet_Seg_Kind, .int .i64 x_Held_Packet_Seg_SrcPort, .int .i64 x_Held_Packet_Seg_DstPort, .int .i64 x_Held_Packet_Seg_Seq, .int .i64 x_Held_Packet_Seg_Ack, .int .i64 x_Held_Packet_Seg_Flags, .int .i64 x_Held_Packet_Seg_Window, .string x_Held_Packet_Seg_Body, .int .i64 x_Held_Size, .int .i64 x_Held_Count, .bool x_Holding, .int .i64 x_Dropped], .int .i64 left] w fun e w' => e = .returned (.int .i64 (-1)) ∧ Ex w w' :=
  old_one (c_laws_szRxQueue_gt hL h0 h (by unfold maxLen at hb; omega)) (.cons (ab_agg [.int .i64 x_Ring_Base, .int .i64 x_Ring_Size, .int .i64 x_Ring_Head, .int .i64 x_Ring_Tail, .int .i64 x_Device_Base, .int .i64 x_Device_Size, .int .i64 x_Device_Count, .int .i64 x_Driver_Base, .int .i64 x_Driver_Size, .int .i64 x_Driver_Count, .int .i64 x_Held_Packet_DstMac, .int .i64 x_Held_Packet_SrcMac, .int .i64 x_Held_Packet_Vlan, .int .i64 x_Held_Packet_Tos, .int .i64 x_Held_Packet_Id, .int .i64 x_Held_Packet_Ttl, .int .i64 x_Held_Packet_SrcIp, .int .i64 x_Held_Packet_DstIp, .int .i64 x_Held_Packet_Seg_Kind, .int .i64 x_Held_Packet_Seg_SrcPort, .int .i64 x_Held_Packet_Seg_DstPort, .int .i64 x_Held_Packet_Seg_Seq, .int .i64 x_Held_Packet_Seg_Ack, .int .i64 x_Held_Packet_Seg_Flags, .int .i64 x_Held_Packet_Seg_Window, .string x_Held_Packet_Seg_Body, .int .i64 x_Held_Size, .int .i64 x_Held_Count, .bool x_Holding, .int .i64 x_Dropped] rfl) (.cons ⟨rfl, rfl⟩ .nil))
end Go.Proofs.YtbdcaacpemkloaaGreat
end
section
namespace Go
open Go.RowKit
set_option linter.unusedVariables false
set_option linter.unusedSimpArgs false
def empA : Asn where
  P _ F := ∀ b, ¬ F b
  stable h _ := h
  lt h b hb := (h b hb).elim
def bigA : List Asn → Asn
  | [] => empA
  | A :: l => sepA A (bigA l)
theorem take_mid (A : Asn) (t : List Asn) : ∀ s : List Asn, Take (s ++ A :: t) A (s ++ t)
  | [] => .head
  | B :: s => .tail (take_mid A t s)
theorem arr_perm : ∀ {m l : List Asn}, l.Perm m → Arr l m
  | [], _, _ => .nil
  | A :: m, l, h => by
    obtain ⟨s, t, rfl⟩ := List.append_of_mem (h.symm.subset (List.mem_cons_self ..))
    exact .cons (take_mid A t s) (arr_perm ((List.perm_middle.symm.trans h).cons_inv))
section
variable {w0 w w' : World} {Is Js Ks : List Asn} {A B : Asn}
theorem St.unfuse (h : St w0 w (sepA A B :: Is)) : St w0 w (A :: B :: Is) := by
  obtain ⟨h1, F, ⟨F1, F2, ⟨G1, G2, a1, a2, a3, a4⟩, b2, b3, b4⟩, h6⟩ := h
  refine ⟨h1, F, ⟨G1, fun b => G2 b ∨ F2 b, a1, ⟨G2, F2, a2, b2, fun b hb hg => b3 b ((a4 b).2 (.inr hb)) hg, fun _ => Iff.rfl⟩, fun b hb hg => ?_, fun b => ?_⟩, h6⟩
  · rcases hg with hg | hg
    · exact a3 b hb hg
    · exact b3 b ((a4 b).2 (.inl hb)) hg
  · rw [b4, a4]
    constructor
    · rintro ((h | h) | h)
      · exact .inl h
      · exact .inr (.inl h)
      · exact .inr (.inr h)
    · rintro (h | h | h)
      · exact .inl (.inl h)
      · exact .inl (.inr h)
      · exact .inr h
theorem St.swap2 (h : St w0 w (A :: B :: Is)) : St w0 w (B :: A :: Is) := h.take2 (.tail .head) .head
theorem St.big : ∀ {l : List Asn} {Is : List Asn}, St w0 w (l ++ Is) → St w0 w (bigA l :: Is)
  | [], Is, h => h.add (Ex.refl w) (A := empA) (F := fun _ => False) (fun _ h => h) fun _ h => h.elim
  | A :: l, Is, h => by
    have h1 : St w0 w (l ++ (A :: Is)) := h.arr (arr_perm (List.perm_middle (a := A) (l₁ := l) (l₂ := Is)).symm)
    exact (St.big h1).swap2.fuse
theorem St.unbig : ∀ {l : List Asn} {Is : List Asn}, St w0 w (bigA l :: Is) → St w0 w (l ++ Is)
  | [], Is, h => h.arr (arr_drop _ _)
  | A :: l, Is, h => by
    have h1 := (St.unfuse h).swap2
    have h2 : St w0 w (l ++ (A :: Is)) := St.unbig h1
    exact h2.arr (arr_perm (List.perm_middle (a := A) (l₁ := l) (l₂ := Is)))
end
inductive PlanF where
  | done
  | land (i : Nat) (p : PlanF)
  | early (i : Nat) (p : PlanF)
  | pure (i : Nat) (p : PlanF)
  | forced (i b : Nat) (p : PlanF)
  | fork (i b : Nat) (p : PlanF) (j c : Nat) (q : PlanF)
def PlanF.len : PlanF → Nat
  | .done => 0
  | .land _ p => p.len
  | .early _ p => p.len + 1
  | .pure _ p => p.len + 1
  | .forced _ _ p => p.len + 1
  | .fork _ _ p _ _ q => if p.len == q.len then p.len + 1 else 0
def PlanF.fits : PlanF → Bool
  | .done => true
  | .land _ p => p.fits
  | .early _ p => p.fits
  | .pure _ p => p.fits
  | .forced _ _ p => p.fits
  | .fork _ _ p _ _ q => p.len == q.len && p.fits && q.fits
section
variable {P : Program} {ops : Array Oper} {Q : Exit → Act → World → Prop} {w0 : World} {L0 : List Asn}
def SS (w0 : World) (L0 : List Asn) : World → Prop := fun w' => ∃ s : StW w0 L0, w' = s.1
def OneF (P : Program) (ops : Array Oper) (w0 : World) (L0 : List Asn) (Q : Exit → Act → World → Prop) (i b : Nat) (R : Act → List Asn → Prop) (a : Act) (L : List Asn) : Prop := match ops[i]? with
  | none => False
  | some o => if Region.wanted o (yielded ops a.tmps) then
      ∀ (w : World) (F : Asn), St w0 w (F :: L) → o.wp P a w (fun a' w' => (b = 1 → SS w0 L0 w') ∧ ∃ L', St w0 w' (F :: L') ∧ R a' L') Q
    else R (a.put o.dst undef) L
def wpF (P : Program) (ops : Array Oper) (w0 : World) (L0 : List Asn) (Q : Exit → Act → World → Prop) : PlanF → Act → List Asn → Prop
  | .done, a, L => ∀ w, St w0 w L → Q .normal a w
  | .land i p, a, L => match ops[i]? with
    | none => False
    | some o => ∀ T cs, o.op = .alloc T → zeroCells' P T = some cs → ∀ b, wpF P ops w0 L0 Q p (a.put o.dst (.pointer (some ⟨b, 0, none⟩))) (rowA b cs T :: L)
  | .early i p, a, L => match ops[i]? with
    | none => False
    | some o => if Region.wanted o (yielded ops a.tmps) then o.quiet P a (SS w0 L0) (fun a' => wpF P ops w0 L0 Q p a' L) else wpF P ops w0 L0 Q p (a.put o.dst undef) L
  | .pure i p, a, L => match ops[i]? with
    | none => False
    | some o => if Region.wanted o (yielded ops a.tmps) then o.quiet P a (fun _ => True) (fun a' => wpF P ops w0 L0 Q p a' L) else wpF P ops w0 L0 Q p (a.put o.dst undef) L
  | .forced i b p, a, L => OneF P ops w0 L0 Q i b (wpF P ops w0 L0 Q p) a L
  | .fork i b p j c q, a, L => OneF P ops w0 L0 Q i b (wpF P ops w0 L0 Q p) a L ∧ OneF P ops w0 L0 Q j c (wpF P ops w0 L0 Q q) a L
def dstF (ops : Array Oper) (i : Nat) : Option Tmp := (ops[i]?).bind (·.dst)
def typF (ops : Array Oper) (i : Nat) : TypeId := match (ops[i]?).map (·.op) with
  | some (Op.alloc T) => T
  | _ => 0
def rowF (P : Program) (ops : Array Oper) (i b : Nat) : Asn := rowA b ((zeroCells' P (typF ops i)).getD []) (typF ops i)
def putD (ops : Array Oper) : List Nat → List (Option Nat) → Act → Act
  | i :: fs, some b :: D, a => putD ops fs D (a.put (dstF ops i) (.pointer (some ⟨b, 0, none⟩)))
  | _ :: fs, none :: D, a => putD ops fs D a
  | _, _, a => a
def listD : List Nat → List (Option Nat) → Array Bool → Array Bool
  | i :: fs, some _ :: D, l => listD fs D (l.setIfInBounds i true)
  | _ :: fs, none :: D, l => listD fs D l
  | _, _, l => l
def rowsD (P : Program) (ops : Array Oper) : List Nat → List (Option Nat) → List Asn
  | i :: fs, some b :: D => rowF P ops i b :: rowsD P ops fs D
  | _ :: fs, none :: D => rowsD P ops fs D
  | _, _ => []
def open_ (D : List (Option Nat)) : Nat := (D.filter (·.isNone)).length
def listAll (fs : List Nat) (l : Array Bool) : Array Bool := fs.foldl (fun l i => l.setIfInBounds i true) l
def floatB (ops : Array Oper) (i : Nat) : Bool := match ops[i]? with
  | none => false
  | some o => (match o.op with | .alloc _ => true | _ => false) && o.guard.isNone && o.after.all (fun e => !Region.binds .any e)
def zeroB (P : Program) (ops : Array Oper) (i : Nat) : Bool := match ops[i]? with
  | none => false
  | some o => match o.op with
    | .alloc T => (zeroCells' P T).isSome
    | _ => false
def awayB (ops : Array Oper) (fs : List Nat) (i : Nat) : Bool := fs.all fun f => match ops[f]?, ops[i]? with
  | some x, some y => x.apart ops y
  | _, _ => false
def planFF (ops : Array Oper) (es : List Nat) : Bool → PlanF → List Nat → Array Bool → Bool
  | _, .done, fs, listed => fs.isEmpty && (Region.ready .any ops listed).isEmpty
  | s, .land i p, fs, listed => match fs with
    | [] => false
    | f :: fs => f == i && Region.ready .any ops (listAll fs listed) == [i] && planFF ops es s p fs (listed.setIfInBounds i true)
  | s, .early i p, fs, listed => s && es.contains i && (Region.ready .any ops listed).contains i && Region.free .any ops listed i && ((ops[i]?).map (·.op.plainB)).getD false && awayB ops fs i && !fs.contains i && planFF ops es s p fs (listed.setIfInBounds i true)
  | s, .pure i p, fs, listed => !needsT ops es i && (Region.ready .any ops listed).contains i && Region.free .any ops listed i && ((ops[i]?).map (·.op.plainB)).getD false && awayB ops fs i && !fs.contains i && planFF ops es s p fs (listed.setIfInBounds i true)
  | s, .forced i b p, fs, listed => (fs.isEmpty || b == 1) && okOne ops es s i b && (Region.ready .any ops listed).contains i && Region.ready .any ops (listAll fs listed) == [i] && awayB ops fs i && !fs.contains i && planFF ops es (after1 s b) p fs (listed.setIfInBounds i true)
  | s, .fork i b p j c q, fs, listed => (fs.isEmpty || (b == 1 && c == 1)) && okOne ops es s i b && okOne ops es s j c && (Region.ready .any ops listed).contains i && (Region.ready .any ops listed).contains j && Region.ready .any ops (listAll fs listed) == [i, j] && awayB ops fs i && !fs.contains i && awayB ops fs j && !fs.contains j && planFF ops es (after1 s b) p fs (listed.setIfInBounds i true) && planFF ops es (after1 s c) q fs (listed.setIfInBounds j true)
def PlanF.earlies : PlanF → List Nat
  | .done => []
  | .land _ p => p.earlies
  | .early i p => i :: p.earlies
  | .pure _ p => p.earlies
  | .forced _ _ p => p.earlies
  | .fork _ _ p _ _ q => p.earlies ++ q.earlies
def floatsB (ops : Array Oper) : List Nat → Bool
  | [] => true
  | i :: fs => floatB ops i && awayB ops fs i && !fs.contains i && floatsB ops fs
def planFB (P : Program) (ops : Array Oper) (p : PlanF) (fs : List Nat) : Bool := Region.noSelect ops && p.fits && p.len + fs.length == ops.size && floatsB ops fs && fs.all (zeroB P ops) && planFF ops p.earlies true p fs (Array.replicate ops.size false)
theorem wp_put1 {o : Oper} {a : Act} {w : World} {K : Act → World → Prop} (hs : ∀ cs b, o.op ≠ .select cs b) (hQ : ∀ c a w, ¬ Q (.panic c) a w) (d : Option Tmp) (v : Value) (h1 : ∀ t, d = some t → t ∉ o.looksAt ops) (h2 : ∀ t, d = some t → o.dst ≠ some t)
    (h : o.wp P a w K Q) : o.wp P (a.put d v) w (fun a' w' => ∃ a0, a' = a0.put d v ∧ K a0 w') Q := by
  unfold Oper.wp at *
  rw [execOp_put o hs a d v h1]
  generalize (execOp a.eval o).run P w = r at *
  cases r with
  | ok n w' =>
    cases n <;> simp only [Oper.upon] at h ⊢
    case value u => exact ⟨_, Act.put_comm a v u h2, h⟩
    case skip => exact ⟨_, Act.put_comm a v undef h2, h⟩
    case defer e =>
      refine ⟨_, ?_, h⟩
      rw [Act.put_defers, Act.put_comm _ v undef h2]
    case enter f args =>
      refine Calls.mono h fun e w'' he => ?_
      cases e with
      | returned u => exact ⟨_, Act.put_comm a v u h2, he⟩
      | panicked c => exact (hQ _ _ _ he).elim
      | outgrown => exact he
    case row row args => exact Rows.mono h fun u w'' he => ⟨_, Act.put_comm a v u h2, he⟩
  | halt x w' =>
    cases x <;> simp only [Oper.upon] at h ⊢
    case panic u => exact (hQ _ _ _ h).elim
theorem awayB_cons {i f : Nat} {fs : List Nat} (h : awayB ops (f :: fs) i = true) : (∃ x y, ops[f]? = some x ∧ ops[i]? = some y ∧ x.apart ops y = true) ∧ awayB ops fs i = true := by
  simp only [awayB, List.all_cons, Bool.and_eq_true] at h
  refine ⟨?_, h.2⟩
  have h1 := h.1
  cases hx : ops[f]? with
  | none => rw [hx] at h1; simp at h1
  | some x => cases hy : ops[i]? with
    | none => rw [hx, hy] at h1; simp at h1
    | some y => rw [hx, hy] at h1; exact ⟨x, y, rfl, rfl, h1⟩
theorem wp_putD {o : Oper} {i : Nat} (ho : ops[i]? = some o) (hs : ∀ cs b, o.op ≠ .select cs b) (hQ : ∀ c a w, ¬ Q (.panic c) a w) : ∀ (fs : List Nat) (D : List (Option Nat)) {a : Act} {w : World} {K : Act → World → Prop}, awayB ops fs i = true →
    o.wp P a w K Q → o.wp P (putD ops fs D a) w (fun a' w' => ∃ a0, a' = putD ops fs D a0 ∧ K a0 w') Q
  | [], D, a, w, K, _, h => by
    have e : ∀ a, putD ops [] D a = a := fun a => by cases D <;> rfl
    rw [e]
    exact Oper.wp_mono (fun a' w' hh => ⟨a', (e _).symm, hh⟩) h
  | f :: fs, [], a, w, K, _, h => Oper.wp_mono (fun a' w' hh => ⟨a', rfl, hh⟩) h
  | f :: fs, none :: D, a, w, K, ha, h => wp_putD ho hs hQ fs D (awayB_cons ha).2 h
  | f :: fs, some b :: D, a, w, K, ha, h => by
    obtain ⟨⟨x, y, hx, hy, hap⟩, ha2⟩ := awayB_cons ha
    rw [ho] at hy
    obtain rfl := Option.some.inj hy
    obtain ⟨h1, h2, _⟩ := Oper.apart_spec hap
    have hd : dstF ops f = x.dst := by simp [dstF, hx]
    refine Oper.wp_mono (fun a' w' hh => ?_) (wp_putD ho hs hQ fs D ha2 (wp_put1 (ops := ops) hs hQ (dstF ops f) (.pointer (some ⟨b, 0, none⟩)) (by rw [hd]; exact h1) (by rw [hd]; exact h2) h))
    obtain ⟨a0, e, a1, e1, hk⟩ := hh
    exact ⟨a1, by rw [e, e1]; rfl, hk⟩
theorem exec_putD {o : Oper} {i : Nat} (ho : ops[i]? = some o) (hs : ∀ cs b, o.op ≠ .select cs b) : ∀ (fs : List Nat) (D : List (Option Nat)) (a : Act), awayB ops fs i = true →
    execOp (putD ops fs D a).eval o = execOp a.eval o ∧ Region.wanted o (yielded ops (putD ops fs D a).tmps) = Region.wanted o (yielded ops a.tmps) ∧ ∀ v, putD ops fs D (a.put o.dst v) = (putD ops fs D a).put o.dst v
  | [], D, a, _ => by
    have e : ∀ a, putD ops [] D a = a := fun a => by cases D <;> rfl
    exact ⟨by rw [e], by rw [e], fun v => by rw [e, e]⟩
  | f :: fs, [], a, _ => ⟨rfl, rfl, fun _ => rfl⟩
  | f :: fs, none :: D, a, ha => exec_putD ho hs fs D a (awayB_cons ha).2
  | f :: fs, some b :: D, a, ha => by
    obtain ⟨⟨x, y, hx, hy, hap⟩, ha2⟩ := awayB_cons ha
    rw [ho] at hy
    obtain rfl := Option.some.inj hy
    obtain ⟨h1, h2, _⟩ := Oper.apart_spec hap
    have hd : dstF ops f = x.dst := by simp [dstF, hx]
    obtain ⟨e1, e2, e3⟩ := exec_putD ho hs fs D (a.put (dstF ops f) (.pointer (some ⟨b, 0, none⟩))) ha2
    refine ⟨e1.trans (execOp_put (ops := ops) o hs a _ _ (by rw [hd]; exact h1)), e2.trans (wanted_put o a _ _ (by rw [hd]; exact h1)), fun v => ?_⟩
    show putD ops fs D ((a.put o.dst v).put (dstF ops f) _) = _
    rw [Act.put_comm a v _ (fun d hd' => by rw [hd]; intro e; exact h2 d e hd')]
    exact e3 v
theorem listD_get : ∀ (fs : List Nat) (D : List (Option Nat)) (l : Array Bool) {k : Nat}, l.getD k false = true → (listD fs D l).getD k false = true
  | [], D, l, k, h => by cases D <;> exact h
  | f :: fs, [], l, k, h => h
  | f :: fs, none :: D, l, k, h => listD_get fs D l h
  | f :: fs, some b :: D, l, k, h => listD_get fs D _ (getD_set h)
theorem listD_un : ∀ (fs : List Nat) (D : List (Option Nat)) (l : Array Bool) {k : Nat}, k ∉ fs → (listD fs D l).getD k true = l.getD k true
  | [], D, l, k, _ => by cases D <;> rfl
  | f :: fs, [], l, k, _ => rfl
  | f :: fs, none :: D, l, k, h => listD_un fs D l (fun hm => h (List.mem_cons_of_mem _ hm))
  | f :: fs, some b :: D, l, k, h => by
    rw [listD, listD_un fs D _ (fun hm => h (List.mem_cons_of_mem _ hm))]
    exact getD_set_ne true (fun e => h (by rw [e]; exact List.mem_cons_self ..))
theorem listD_set {i : Nat} : ∀ (fs : List Nat) (D : List (Option Nat)) (l : Array Bool), i ∉ fs → listD fs D (l.setIfInBounds i true) = (listD fs D l).setIfInBounds i true
  | [], D, l, _ => by cases D <;> rfl
  | f :: fs, [], l, _ => rfl
  | f :: fs, none :: D, l, h => listD_set fs D l (fun hm => h (List.mem_cons_of_mem _ hm))
  | f :: fs, some b :: D, l, h => by
    show listD fs D ((l.setIfInBounds i true).setIfInBounds f true) = (listD fs D (l.setIfInBounds f true)).setIfInBounds i true
    rw [Array.setIfInBounds_comm _ _ (fun e => h (by rw [e]; exact List.mem_cons_self ..))]
    exact listD_set fs D _ (fun hm => h (List.mem_cons_of_mem _ hm))
theorem listAll_get : ∀ (fs : List Nat) (l : Array Bool) {k : Nat}, l.getD k false = true → (listAll fs l).getD k false = true
  | [], l, k, h => h
  | f :: fs, l, k, h => listAll_get fs _ (getD_set h)
theorem listAll_un : ∀ (fs : List Nat) (l : Array Bool) {k : Nat}, k ∉ fs → (listAll fs l).getD k true = l.getD k true
  | [], l, k, _ => rfl
  | f :: fs, l, k, h => by
    rw [listAll, List.foldl_cons]
    exact (listAll_un fs _ (fun hm => h (List.mem_cons_of_mem _ hm))).trans (getD_set_ne true (fun e => h (by rw [e]; exact List.mem_cons_self ..)))
theorem listD_sub : ∀ (fs : List Nat) (D : List (Option Nat)) (l : Array Bool) {k : Nat}, (listD fs D l).getD k false = true → (listAll fs l).getD k false = true
  | [], D, l, k, h => by cases D <;> exact h
  | f :: fs, [], l, k, h => listAll_get (f :: fs) l h
  | f :: fs, none :: D, l, k, h => by
    have h1 := listD_sub fs D l h
    show (listAll fs (l.setIfInBounds f true)).getD k false = true
    have key : ∀ (fs : List Nat) (l l' : Array Bool), (∀ k, l.getD k false = true → l'.getD k false = true) → l.size = l'.size → ∀ k, (listAll fs l).getD k false = true → (listAll fs l').getD k false = true := by
      intro fs
      induction fs with
      | nil => intro l l' h _; exact h
      | cons g fs ih =>
        intro l l' h hs
        refine ih _ _ (fun k hk => ?_) (by simpa using hs)
        simp only [Array.getD_eq_getD_getElem?, Array.getElem?_setIfInBounds] at hk ⊢
        split
        · rename_i e
          rw [if_pos e] at hk
          split
          · rfl
          · rename_i hlt; rw [if_neg (by rw [hs]; exact hlt)] at hk; exact hk
        · rename_i e
          rw [if_neg e] at hk
          have := h k
          simp only [Array.getD_eq_getD_getElem?] at this
          exact this hk
    exact key fs _ _ (fun k hk => getD_set hk) (by simp) _ h1
  | f :: fs, some b :: D, l, k, h => listD_sub fs D _ h
theorem set_true (l : Array Bool) (j : Nat) : (l.setIfInBounds j true).getD j true = true := by
  simp only [Array.getD_eq_getD_getElem?, Array.getElem?_setIfInBounds, if_true]
  split <;> rfl
theorem setD {j : Nat} {oj : Oper} (hj : ops[j]? = some oj) (hsj : ∀ cs b, oj.op ≠ .select cs b) : ∀ (fs : List Nat) (D : List (Option Nat)) (l : Array Bool), D.length = fs.length → j ∈ fs → floatsB ops fs = true → (listD fs D l).getD j true = false →
    ∃ D' : Nat → List (Option Nat), ∀ b, (D' b).length = fs.length ∧ (∀ l, listD fs (D' b) l = (listD fs D l).setIfInBounds j true) ∧ (∀ a, putD ops fs (D' b) a = (putD ops fs D a).put oj.dst (.pointer (some ⟨b, 0, none⟩))) ∧ (rowsD P ops fs (D' b)).Perm (rowF P ops j b :: rowsD P ops fs D) ∧ open_ (D' b) + 1 = open_ D
  | [], D, l, _, hm, _, _ => by cases hm
  | f :: fs, [], l, hl, _, _, _ => by simp at hl
  | f :: fs, x :: D, l, hl, hm, hf, h => by
    simp only [floatsB, Bool.and_eq_true, Bool.not_eq_true'] at hf
    obtain ⟨⟨⟨f1, f2⟩, f3⟩, f4⟩ := hf
    have hnm : f ∉ fs := fun hc => by rw [List.contains_iff_mem.2 hc] at f3; cases f3
    have hl' : D.length = fs.length := by simpa using hl
    by_cases e : f = j
    · subst e
      cases x with
      | some c =>
        rw [listD, listD_un fs D _ hnm, set_true] at h
        cases h
      | none =>
        refine ⟨fun b => some b :: D, fun b => ⟨by simp [hl'], fun l => ?_, fun a => ?_, List.Perm.refl _, by simp [open_]⟩⟩
        · exact listD_set fs D l hnm
        · refine Eq.trans ?_ ((exec_putD hj hsj fs D a f2).2.2 (.pointer (some ⟨b, 0, none⟩)))
          show putD ops fs D (a.put (dstF ops f) _) = _
          simp [dstF, hj]
    · have hm' : j ∈ fs := by
        rcases List.mem_cons.1 hm with h1 | h1
        · exact absurd h1.symm e
        · exact h1
      cases x with
      | none =>
        obtain ⟨D', hD⟩ := setD hj hsj fs D l hl' hm' f4 h
        refine ⟨fun b => none :: D' b, fun b => ?_⟩
        obtain ⟨d1, d2, d3, d4, d5⟩ := hD b
        exact ⟨by simp [d1], fun l => d2 l, fun a => d3 a, d4, by simp only [open_, List.filter_cons, Option.isNone_none, if_true, List.length_cons] at d5 ⊢; omega⟩
      | some c =>
        obtain ⟨D', hD⟩ := setD hj hsj fs D _ hl' hm' f4 h
        refine ⟨fun b => some c :: D' b, fun b => ?_⟩
        obtain ⟨d1, d2, d3, d4, d5⟩ := hD b
        refine ⟨by simp [d1], fun l => d2 _, fun a => d3 _, ?_, by simpa [open_] using d5⟩
        exact (d4.cons (rowF P ops f c)).trans (List.Perm.swap _ _ _)
theorem floatB_spec {i : Nat} (h : floatB ops i = true) : ∃ o T, ops[i]? = some o ∧ o.op = .alloc T ∧ o.guard = none ∧ ∀ e ∈ o.after, Region.binds .any e = false := by
  unfold floatB at h
  cases ho : ops[i]? with
  | none => rw [ho] at h; cases h
  | some o =>
    rw [ho] at h
    simp only [Bool.and_eq_true, Array.all_eq_true_iff_forall_mem, Bool.not_eq_true', Option.isNone_iff_eq_none] at h
    obtain ⟨⟨h1, h2⟩, h3⟩ := h
    cases hop : o.op <;> rw [hop] at h1 <;> first | exact ⟨o, _, rfl, hop, h2, h3⟩ | cases h1
theorem floatsB_mem : ∀ {fs : List Nat}, floatsB ops fs = true → ∀ f ∈ fs, floatB ops f = true
  | [], _, f, hf => by cases hf
  | g :: fs, h, f, hf => by
    simp only [floatsB, Bool.and_eq_true] at h
    rcases List.mem_cons.1 hf with rfl | hf
    · exact h.1.1.1
    · exact floatsB_mem h.2 f hf
theorem rowF_eq {i b : Nat} {o : Oper} {T : TypeId} {cs : List Value} (ho : ops[i]? = some o) (hop : o.op = .alloc T) (hz : zeroCells' P T = some cs) : rowF P ops i b = rowA b cs T := by
  simp [rowF, typF, ho, hop, hz]
theorem zeroB_spec {i : Nat} {o : Oper} {T : TypeId} (h : zeroB P ops i = true) (ho : ops[i]? = some o) (hop : o.op = .alloc T) : ∃ cs, zeroCells' P T = some cs := by
  simp only [zeroB, ho, hop] at h
  exact Option.isSome_iff_exists.1 h
theorem wp_alloc2 {o : Oper} {a : Act} {w : World} {K : Act → World → Prop} {Is : List Asn} (T : TypeId) (ho : o.op = .alloc T) {cs : List Value} (hz : zeroCells' P T = some cs) (hs : St w0 w Is) (h0 : SS w0 L0 w)
    (h : ∀ w' b, St w0 w' (rowA b cs T :: Is) → SS w0 L0 w' → K (a.put o.dst (.pointer (some ⟨b, 0, none⟩))) w') : o.wp P a w K Q := by
  obtain ⟨i, z, h1, h2, rfl⟩ := zeroCells_some hz
  have hr : (Instr.alloc T true (.tuple #[])).run P w = .ok (.pointer (some ⟨w.heap.size, 0, none⟩)) (w.alloc (.cells z.cells T)) := by
    simp [Instr.alloc, zeroValue, typeInfo, h1, h2, newVar, newRow]
  unfold Oper.wp execOp
  simp only [ho, Sem.run_bind, hr, Result.andThen_ok, Sem.run_pure]
  obtain ⟨⟨w1, s1⟩, e⟩ := h0
  have s1' : St w0 w L0 := e ▸ s1
  exact h _ _ (hs.alloc z.cells T) (StW.mk' (s1'.grow ((Ex.refl w).alloc _)))
section
variable {es : List Nat}
theorem float_step {n : Nat} {fs : List Nat} {D : List (Option Nat)} {listed : Array Bool} {a : Act} {w : World} {L : List Asn} {j : Nat} (hs : Region.noSelect ops = true) (hf : floatsB ops fs = true) (hz : fs.all (zeroB P ops) = true) (hl : D.length = fs.length)
    (hj : j ∈ fs) (hun : (listD fs D listed).getD j true = false) (hS : SS w0 L0 w) (hst : St w0 w (rowsD P ops fs D ++ L))
    (ih : ∀ D' w', D'.length = fs.length → open_ D' + 1 = open_ D → SS w0 L0 w' → St w0 w' (rowsD P ops fs D' ++ L) → wpAnyT P ops Q (SS w0 L0) es n (listD fs D' listed) (putD ops fs D' a) w') :
    wpOp P ops Q j (fun a' w' => (needsT ops es j = true → SS w0 L0 w') ∧ wpAnyT P ops Q (SS w0 L0) es n ((listD fs D listed).setIfInBounds j true) a' w') (putD ops fs D a) w := by
  obtain ⟨o, T, ho, hop, hg, _⟩ := floatB_spec (floatsB_mem hf j hj)
  obtain ⟨cs, hcs⟩ := zeroB_spec (List.all_eq_true.1 hz j hj) ho hop
  obtain ⟨D', hD⟩ := setD (P := P) ho (fun cs b => by rw [hop]; intro h; cases h) fs D listed hl hj hf hun
  unfold wpOp
  rw [ho]
  simp only
  rw [if_pos (by unfold Region.wanted; rw [hg])]
  refine .inl (wp_alloc2 T hop hcs hst hS fun w' b h1 h2 => ⟨fun _ => h2, ?_⟩)
  obtain ⟨d1, d2, d3, d4, d5⟩ := hD b
  rw [← d2, ← d3]
  refine ih (D' b) w' d1 d5 h2 (h1.arr (arr_perm ?_))
  rw [← rowF_eq (P := P) (b := b) ho hop hcs]
  exact (d4.symm.append_right L)
theorem ready_all {fs : List Nat} {D : List (Option Nat)} {listed : Array Bool} {k : Nat} (hk : k ∈ Region.ready .any ops (listD fs D listed)) (hn : k ∉ fs) : k ∈ Region.ready .any ops (listAll fs listed) := by
  rw [mem_ready] at *
  obtain ⟨h0, o, ho, hall⟩ := hk
  refine ⟨?_, o, ho, fun e he hb => listD_sub fs D listed (hall e he hb)⟩
  rw [listAll_un fs listed hn]
  rwa [listD_un fs D listed hn] at h0
theorem ready_real {fs : List Nat} {D : List (Option Nat)} {listed : Array Bool} {i : Nat} (hi : i ∈ Region.ready .any ops listed) (hn : i ∉ fs) : i ∈ Region.ready .any ops (listD fs D listed) := by
  rw [mem_ready] at *
  obtain ⟨h0, o, ho, hall⟩ := hi
  exact ⟨by rw [listD_un fs D listed hn]; exact h0, o, ho, fun e he hb => listD_get fs D listed (hall e he hb)⟩
theorem un_real {fs : List Nat} {D : List (Option Nat)} {listed : Array Bool} {k : Nat} (h : (listD fs D listed).getD k true = false) : listed.getD k true = false := by
  cases hh : listed.getD k true with
  | false => rfl
  | true =>
    have key : ∀ (fs : List Nat) (D : List (Option Nat)) (l : Array Bool), l.getD k true = true → (listD fs D l).getD k true = true := by
      intro fs
      induction fs with
      | nil => intro D l h; cases D <;> exact h
      | cons f fs ih =>
        intro D l h
        cases D with
        | nil => exact h
        | cons x D => cases x with
          | none => exact ih D l h
          | some b =>
            refine ih D _ ?_
            by_cases e : f = k
            · subst e; exact set_true l f
            · rw [getD_set_ne true e]; exact h
    rw [key fs D listed hh] at h; cases h
theorem closed_real {fs : List Nat} {D : List (Option Nat)} : ∀ {listed : Array Bool}, floatsB ops fs = true → Closed ops listed → Closed ops (listD fs D listed) := by
  induction fs generalizing D with
  | nil => intro l _ h; cases D <;> exact h
  | cons f fs ih =>
    intro l hf h
    cases D with
    | nil => exact h
    | cons x D =>
      simp only [floatsB, Bool.and_eq_true] at hf
      cases x with
      | none => exact ih hf.2 h
      | some b =>
        refine ih hf.2 ?_
        obtain ⟨o, T, ho, hop, hg, haf⟩ := floatB_spec hf.1.1.1
        intro k ok hk hl x hx hb
        by_cases e : k = f
        · subst e
          rw [ho] at hk
          obtain rfl := Option.some.inj hk
          rw [haf x hx] at hb; cases hb
        · refine getD_set (h k ok hk ?_ x hx hb)
          simp only [Array.getD_eq_getD_getElem?, Array.getElem?_setIfInBounds] at hl ⊢
          rw [if_neg (fun h => e h.symm)] at hl
          exact hl
theorem oneF_sound {n i b : Nat} {fs : List Nat} {D : List (Option Nat)} {s : Bool} {listed : Array Bool} {a : Act} {w : World} {L : List Asn} {R : Act → List Asn → Prop} (hs : Region.noSelect ops = true) (hQ : ∀ c a w, ¬ Q (.panic c) a w)
    (haw : awayB ops fs i = true) (hif : i ∉ fs) (hok : okOne ops es s i b = true) (hS : s = true → SS w0 L0 w) (hst : St w0 w (rowsD P ops fs D ++ L))
    (hR : ∀ a' w' L', (after1 s b = true → SS w0 L0 w') → St w0 w' (rowsD P ops fs D ++ L') → R a' L' → wpAnyT P ops Q (SS w0 L0) es n (listD fs D (listed.setIfInBounds i true)) (putD ops fs D a') w')
    (h : OneF P ops w0 L0 Q i b R a L) : wpOp P ops Q i (fun a' w' => (needsT ops es i = true → SS w0 L0 w') ∧ wpAnyT P ops Q (SS w0 L0) es n ((listD fs D listed).setIfInBounds i true) a' w') (putD ops fs D a) w := by
  unfold OneF at h
  cases ho : ops[i]? with
  | none => rw [ho] at h; exact h.elim
  | some o =>
    rw [ho] at h
    simp only at h
    have hso : ∀ cs b, o.op ≠ .select cs b := fun cs b => Region.noSelect_spec hs i o cs b ho
    obtain ⟨e1, e2, e3⟩ := exec_putD ho hso fs D a haw
    unfold wpOp
    rw [ho]
    simp only
    rw [e2]
    rw [← listD_set fs D listed hif]
    by_cases hw : Region.wanted o (yielded ops a.tmps) = true
    · simp only [hw, if_true] at h ⊢
      refine .inl ?_
      refine Oper.wp_mono (fun a' w' hh => ?_) (wp_putD ho hso hQ fs D haw (h w (bigA (rowsD P ops fs D)) (St.big hst)))
      obtain ⟨a0, rfl, h1, L', h2, h3⟩ := hh
      by_cases hb : b = 1
      · exact ⟨fun _ => h1 hb, hR a0 w' L' (fun _ => h1 hb) (St.unbig h2) h3⟩
      · have hn : needsT ops es i = false := by simpa [okOne, hb] using hok
        exact ⟨fun hc => (by rw [hn] at hc; cases hc), hR a0 w' L' (fun hc => by simp [after1, hb] at hc) (St.unbig h2) h3⟩
    · simp only [hw] at h ⊢
      rw [← e3]
      by_cases hb : b = 1
      · have hs' : s = true := by simpa [okOne, hb] using hok
        exact ⟨fun _ => hS hs', hR _ w L (fun _ => hS hs') hst h⟩
      · have hn : needsT ops es i = false := by simpa [okOne, hb] using hok
        exact ⟨fun hc => (by rw [hn] at hc; cases hc), hR _ w L (fun hc => by simp [after1, hb] at hc) hst h⟩
def Fine (P : Program) (ops : Array Oper) (w0 : World) (L0 : List Asn) (n : Nat) (p : PlanF) (fs : List Nat) (D : List (Option Nat)) (s : Bool) (listed : Array Bool) (es : List Nat) (w : World) (L : List Asn) : Prop :=
  Closed ops listed ∧ p.fits = true ∧ floatsB ops fs = true ∧ fs.all (zeroB P ops) = true ∧ (∀ f ∈ fs, listed.getD f true = false) ∧ D.length = fs.length ∧ (fs ≠ [] → s = true) ∧ (s = true → SS w0 L0 w) ∧ n = p.len + open_ D ∧ planFF ops es s p fs listed = true ∧ St w0 w (rowsD P ops fs D ++ L)
theorem float_ready {fs : List Nat} {listed : Array Bool} {f : Nat} (hf : floatsB ops fs = true) (hm : f ∈ fs) (hun : listed.getD f true = false) : f ∈ Region.ready .any ops listed := by
  obtain ⟨o, T, ho, _, _, haf⟩ := floatB_spec (floatsB_mem hf f hm)
  rw [mem_ready]
  exact ⟨hun, o, ho, fun e he hb => by rw [haf e he] at hb; cases hb⟩
theorem set_un {listed : Array Bool} {i f : Nat} (h : listed.getD f true = false) (hne : i ≠ f) : (listed.setIfInBounds i true).getD f true = false := by rw [getD_set_ne true hne]; exact h
theorem wpF_sound (hs : Region.noSelect ops = true) (hQ : ∀ c a w, ¬ Q (.panic c) a w) : ∀ (n : Nat) (p : PlanF) (fs : List Nat) (D : List (Option Nat)) (s : Bool) (listed : Array Bool) (a : Act) (w : World) (L : List Asn),
    Fine P ops w0 L0 n p fs D s listed es w L → wpF P ops w0 L0 Q p a L → wpAnyT P ops Q (SS w0 L0) es n (listD fs D listed) (putD ops fs D a) w := by
  intro n
  induction n with
  | zero =>
    intro p
    induction p with
    | done =>
      rintro fs D s listed a w L ⟨hcl, hfit, hfl, hz, hun, hD, hfs, hS, hn, hp, hst⟩ h
      simp only [planFF, Bool.and_eq_true, List.isEmpty_iff] at hp
      obtain ⟨rfl, hr⟩ := hp
      obtain rfl : D = [] := List.eq_nil_of_length_eq_zero hD
      exact ⟨hr, h w hst⟩
    | land i p ihp =>
      rintro fs D s listed a w L ⟨hcl, hfit, hfl, hz, hun, hD, hfs, hS, hn, hp, hst⟩ h
      cases fs with
      | nil => simp [planFF] at hp
      | cons f fs =>
        simp only [planFF, Bool.and_eq_true, beq_iff_eq] at hp
        obtain ⟨⟨rfl, hr⟩, hp⟩ := hp
        have hfl2 := hfl
        simp only [floatsB, Bool.and_eq_true, Bool.not_eq_true'] at hfl
        obtain ⟨⟨⟨f1, f2⟩, f3⟩, f4⟩ := hfl
        have hnm : f ∉ fs := fun hc => by rw [List.contains_iff_mem.2 hc] at f3; cases f3
        cases D with
        | nil => simp at hD
        | cons x D =>
          cases x with
          | none => simp [open_, PlanF.len] at hn
          | some b =>
            obtain ⟨o, T, ho, hop, hg, haf⟩ := floatB_spec f1
            simp only [List.all_cons, Bool.and_eq_true] at hz
            obtain ⟨cs, hcs⟩ := zeroB_spec hz.1 ho hop
            unfold wpF at h
            rw [ho] at h
            have h' := h T cs hop hcs b
            have := ihp fs D s (listed.setIfInBounds f true) _ w _ ⟨hcl.step (float_ready hfl2 (List.mem_cons_self ..) (hun f (List.mem_cons_self ..))), hfit, f4, hz.2, fun g hg => set_un (hun g (List.mem_cons_of_mem _ hg)) (fun e => hnm (e ▸ hg)), by simpa using hD, fun _ => hfs (by simp), hS, by simpa [open_, PlanF.len] using hn, hp, hst.arr (arr_perm (by rw [← rowF_eq (P := P) (b := b) ho hop hcs]; exact List.perm_middle.symm))⟩ h'
            simpa [listD, putD, dstF, ho] using this
    | early i p _ => rintro fs D s listed a w L ⟨_, _, _, _, _, _, _, _, hn, _, _⟩ _; simp only [PlanF.len] at hn; omega
    | pure i p _ => rintro fs D s listed a w L ⟨_, _, _, _, _, _, _, _, hn, _, _⟩ _; simp only [PlanF.len] at hn; omega
    | forced i b p _ => rintro fs D s listed a w L ⟨_, _, _, _, _, _, _, _, hn, _, _⟩ _; simp only [PlanF.len] at hn; omega
    | fork i b p j c q _ _ =>
      rintro fs D s listed a w L ⟨_, hfit, _, _, _, _, _, _, hn, _, _⟩ _
      simp only [PlanF.fits, Bool.and_eq_true] at hfit
      simp only [PlanF.len, hfit.1.1, if_true] at hn
      omega
  | succ n ih =>
    have fstep : ∀ {p : PlanF} {fs : List Nat} {D : List (Option Nat)} {s : Bool} {listed : Array Bool} {a : Act} {w : World} {L : List Asn} {j : Nat}, Fine P ops w0 L0 (n + 1) p fs D s listed es w L → wpF P ops w0 L0 Q p a L → j ∈ fs → (listD fs D listed).getD j true = false →
        wpOp P ops Q j (fun a' w' => (needsT ops es j = true → SS w0 L0 w') ∧ wpAnyT P ops Q (SS w0 L0) es n ((listD fs D listed).setIfInBounds j true) a' w') (putD ops fs D a) w := by
      rintro p fs D s listed a w L j ⟨hcl, hfit, hfl, hz, hun, hD, hfs, hS, hn, hp, hst⟩ h hj hu
      have hne : fs ≠ [] := fun e => by rw [e] at hj; cases hj
      exact float_step hs hfl hz hD hj hu (hS (hfs hne)) hst fun D' w' d1 d2 d3 d4 => ih p fs D' s listed a w' L ⟨hcl, hfit, hfl, hz, hun, d1, hfs, fun _ => d3, by omega, hp, d4⟩ h
    intro p
    induction p with
    | done =>
      rintro fs D s listed a w L ⟨hcl, hfit, hfl, hz, hun, hD, hfs, hS, hn, hp, hst⟩ h
      simp only [planFF, Bool.and_eq_true, List.isEmpty_iff] at hp
      obtain ⟨rfl, hr⟩ := hp
      obtain rfl : D = [] := List.eq_nil_of_length_eq_zero hD
      simp [open_, PlanF.len] at hn
    | land i p ihp =>
      rintro fs D s listed a w L hall h
      obtain ⟨hcl, hfit, hfl, hz, hun, hD, hfs, hS, hn, hp, hst⟩ := hall
      cases fs with
      | nil => simp [planFF] at hp
      | cons f fs =>
        have hp0 := hp
        simp only [planFF, Bool.and_eq_true, beq_iff_eq] at hp
        obtain ⟨⟨rfl, hr⟩, hp⟩ := hp
        have hfl2 := hfl
        simp only [floatsB, Bool.and_eq_true, Bool.not_eq_true'] at hfl
        obtain ⟨⟨⟨f1, f2⟩, f3⟩, f4⟩ := hfl
        have hnm : f ∉ fs := fun hc => by rw [List.contains_iff_mem.2 hc] at f3; cases f3
        cases D with
        | nil => simp at hD
        | cons x D =>
          cases x with
          | none =>
            have hfr : f ∈ Region.ready .any ops (listD (f :: fs) (none :: D) listed) := by
              refine float_ready hfl2 (List.mem_cons_self ..) ?_
              rw [listD, listD_un fs D listed hnm]
              exact hun f (List.mem_cons_self ..)
            refine ⟨fun h0 => (by rw [h0] at hfr; cases hfr), fun k hk => ?_⟩
            have hkf : k ∈ f :: fs := by
              by_cases hm : k ∈ fs
              · exact List.mem_cons_of_mem _ hm
              · have := ready_all (D := D) hk hm
                rw [hr] at this
                rw [List.mem_singleton.1 this]; exact List.mem_cons_self ..
            exact fstep ⟨hcl, hfit, hfl2, hz, hun, hD, hfs, hS, hn, hp0, hst⟩ h hkf (mem_ready.1 hk).1
          | some b =>
            obtain ⟨o, T, ho, hop, hg, haf⟩ := floatB_spec f1
            simp only [List.all_cons, Bool.and_eq_true] at hz
            obtain ⟨cs, hcs⟩ := zeroB_spec hz.1 ho hop
            unfold wpF at h
            rw [ho] at h
            have h' := h T cs hop hcs b
            have := ihp fs D s (listed.setIfInBounds f true) _ w _ ⟨hcl.step (float_ready hfl2 (List.mem_cons_self ..) (hun f (List.mem_cons_self ..))), hfit, f4, hz.2, fun g hg => set_un (hun g (List.mem_cons_of_mem _ hg)) (fun e => hnm (e ▸ hg)), by simpa using hD, fun _ => hfs (by simp), hS, by simpa [open_, PlanF.len] using hn, hp, hst.arr (arr_perm (by rw [← rowF_eq (P := P) (b := b) ho hop hcs]; exact List.perm_middle.symm))⟩ h'
            simpa [listD, putD, dstF, ho] using this
    | early i p _ =>
      rintro fs D s listed a w L hall h
      obtain ⟨hcl, hfit, hfl, hz, hun, hD, hfs, hS, hn, hp, hst⟩ := hall
      simp only [planFF, Bool.and_eq_true, Bool.not_eq_true'] at hp
      obtain ⟨⟨⟨⟨⟨⟨⟨hb, hie⟩, hr⟩, hfr⟩, hpl⟩, haw⟩, hif⟩, hp⟩ := hp
      have hif' : i ∉ fs := fun hc => by rw [List.contains_iff_mem.2 hc] at hif; cases hif
      have hr' : i ∈ Region.ready .any ops listed := by simpa using hr
      unfold wpF at h
      cases ho : ops[i]? with
      | none => rw [ho] at h; exact h.elim
      | some o =>
        rw [ho] at h hpl
        simp only [Option.map_some, Option.getD_some] at hpl
        simp only at h
        have hso : ∀ cs b, o.op ≠ .select cs b := fun cs b => Region.noSelect_spec hs i o cs b ho
        obtain ⟨e1, e2, e3⟩ := exec_putD ho hso fs D a haw
        have go : ∀ v, YieldsIf P ops (SS w0 L0) o v (putD ops fs D a) → wpF P ops w0 L0 Q p (a.put o.dst v) L → wpAnyT P ops Q (SS w0 L0) es (n + 1) (listD fs D listed) (putD ops fs D a) w := fun v hy hw => by
          refine wpAnyT_first ho (by simpa using hie) (Region.noSelect_spec hs) hQ n _ _ _ (closed_real hfl hcl) (fun j oj hj hne hu hno => Region.free_spec ho hfr j oj hj hne (un_real hu) hno) (ready_real hr' hif') hy (hS hb) ?_
          rw [← listD_set fs D listed hif', ← e3]
          exact ih p fs D s _ _ w L ⟨hcl.step hr', hfit, hfl, hz, fun g hg => set_un (hun g hg) (fun e => hif' (e ▸ hg)), hD, hfs, hS, by simp only [PlanF.len] at hn; omega, hp, hst⟩ hw
        by_cases hw : Region.wanted o (yielded ops a.tmps) = true
        · simp only [hw, if_true] at h
          obtain ⟨v, h1, h2⟩ := quiet_plain hpl h
          exact go v (.inl ⟨e2.trans hw, fun w hw => by rw [e1]; exact h1 w hw⟩) h2
        · simp only [hw] at h
          exact go undef (.inr ⟨e2.trans (by simpa using hw), rfl⟩) h
    | pure i p _ =>
      rintro fs D s listed a w L hall h
      obtain ⟨hcl, hfit, hfl, hz, hun, hD, hfs, hS, hn, hp, hst⟩ := hall
      simp only [planFF, Bool.and_eq_true, Bool.not_eq_true'] at hp
      obtain ⟨⟨⟨⟨⟨⟨hni, hr⟩, hfr⟩, hpl⟩, haw⟩, hif⟩, hp⟩ := hp
      have hif' : i ∉ fs := fun hc => by rw [List.contains_iff_mem.2 hc] at hif; cases hif
      have hr' : i ∈ Region.ready .any ops listed := by simpa using hr
      unfold wpF at h
      cases ho : ops[i]? with
      | none => rw [ho] at h; exact h.elim
      | some o =>
        rw [ho] at h hpl
        simp only [Option.map_some, Option.getD_some] at hpl
        simp only at h
        have hso : ∀ cs b, o.op ≠ .select cs b := fun cs b => Region.noSelect_spec hs i o cs b ho
        obtain ⟨e1, e2, e3⟩ := exec_putD ho hso fs D a haw
        have go : ∀ v, YieldsIf P ops (fun _ => True) o v (putD ops fs D a) → wpF P ops w0 L0 Q p (a.put o.dst v) L → wpAnyT P ops Q (SS w0 L0) es (n + 1) (listD fs D listed) (putD ops fs D a) w := fun v hy hw => by
          refine wpAnyT_firstP ho hni (Region.noSelect_spec hs) hQ n _ _ _ (fun j oj hj hne hu hno => Region.free_spec ho hfr j oj hj hne (un_real hu) hno) (ready_real hr' hif') hy ?_
          rw [← listD_set fs D listed hif', ← e3]
          exact ih p fs D s _ _ w L ⟨hcl.step hr', hfit, hfl, hz, fun g hg => set_un (hun g hg) (fun e => hif' (e ▸ hg)), hD, hfs, hS, by simp only [PlanF.len] at hn; omega, hp, hst⟩ hw
        by_cases hw : Region.wanted o (yielded ops a.tmps) = true
        · simp only [hw, if_true] at h
          obtain ⟨v, h1, h2⟩ := quiet_plain hpl h
          exact go v (.inl ⟨e2.trans hw, fun w hw => by rw [e1]; exact h1 w hw⟩) h2
        · simp only [hw] at h
          exact go undef (.inr ⟨e2.trans (by simpa using hw), rfl⟩) h
    | forced i b p _ =>
      rintro fs D s listed a w L hall h
      have hall0 := hall
      obtain ⟨hcl, hfit, hfl, hz, hun, hD, hfs, hS, hn, hp, hst⟩ := hall
      simp only [planFF, Bool.and_eq_true, Bool.not_eq_true', Bool.or_eq_true, List.isEmpty_iff, beq_iff_eq] at hp
      obtain ⟨⟨⟨⟨⟨⟨h1, hok⟩, hr⟩, hra⟩, haw⟩, hif⟩, hp⟩ := hp
      have hif' : i ∉ fs := fun hc => by rw [List.contains_iff_mem.2 hc] at hif; cases hif
      have hr' : i ∈ Region.ready .any ops listed := by simpa using hr
      refine ⟨fun h0 => (by have := ready_real (D := D) hr' hif'; rw [h0] at this; cases this), fun k hk => ?_⟩
      by_cases hkf : k ∈ fs
      · exact fstep hall0 h hkf (mem_ready.1 hk).1
      · have hki := ready_all hk hkf
        rw [hra] at hki
        obtain rfl : k = i := by simpa using hki
        unfold wpF at h
        refine oneF_sound hs hQ haw hif' hok hS hst (fun a' w' L' hs' hst' hR => ?_) h
        exact ih p fs D _ _ a' w' L' ⟨hcl.step hr', hfit, hfl, hz, fun g hg => set_un (hun g hg) (fun e => hif' (e ▸ hg)), hD, fun hne => by
          rcases h1 with h1 | h1
          · exact absurd h1 hne
          · simp [after1, h1, hfs hne], hs', by simp only [PlanF.len] at hn; omega, hp, hst'⟩ hR
    | fork i b p j c q _ _ =>
      rintro fs D s listed a w L hall h
      have hall0 := hall
      obtain ⟨hcl, hfit, hfl, hz, hun, hD, hfs, hS, hn, hp, hst⟩ := hall
      simp only [planFF, Bool.and_eq_true, Bool.not_eq_true', Bool.or_eq_true, List.isEmpty_iff, beq_iff_eq] at hp
      obtain ⟨⟨⟨⟨⟨⟨⟨⟨⟨⟨⟨h1, hok⟩, hok2⟩, hr⟩, hr2⟩, hra⟩, haw⟩, hif⟩, haw2⟩, hif2⟩, hp⟩, hp2⟩ := hp
      have hif' : i ∉ fs := fun hc => by rw [List.contains_iff_mem.2 hc] at hif; cases hif
      have hr' : i ∈ Region.ready .any ops listed := by simpa using hr
      have hif2' : j ∉ fs := fun hc => by rw [List.contains_iff_mem.2 hc] at hif2; cases hif2
      have hr2' : j ∈ Region.ready .any ops listed := by simpa using hr2
      simp only [PlanF.fits, Bool.and_eq_true] at hfit
      obtain ⟨⟨hl, hf1⟩, hf2⟩ := hfit
      simp only [PlanF.len, hl, if_true] at hn
      simp only [beq_iff_eq] at hl
      refine ⟨fun h0 => (by have := ready_real (D := D) hr' hif'; rw [h0] at this; cases this), fun k hk => ?_⟩
      by_cases hkf : k ∈ fs
      · exact fstep hall0 h hkf (mem_ready.1 hk).1
      · have hki := ready_all hk hkf
        rw [hra] at hki
        unfold wpF at h
        have hki' : k = i ∨ k = j := by simpa using hki
        rcases hki' with rfl | rfl
        · refine oneF_sound hs hQ haw hif' hok hS hst (fun a' w' L' hs' hst' hR => ?_) h.1
          exact ih p fs D _ _ a' w' L' ⟨hcl.step hr', hf1, hfl, hz, fun g hg => set_un (hun g hg) (fun e => hif' (e ▸ hg)), hD, fun hne => by
            rcases h1 with h1 | h1
            · exact absurd h1 hne
            · simp [after1, h1.1, hfs hne], hs', by omega, hp, hst'⟩ hR
        · refine oneF_sound hs hQ haw2 hif2' hok2 hS hst (fun a' w' L' hs' hst' hR => ?_) h.2
          exact ih q fs D _ _ a' w' L' ⟨hcl.step hr2', hf2, hfl, hz, fun g hg => set_un (hun g hg) (fun e => hif2' (e ▸ hg)), hD, fun hne => by
            rcases h1 with h1 | h1
            · exact absurd h1 hne
            · simp [after1, h1.2, hfs hne], hs', by omega, hp2, hst'⟩ hR
end
end
section
variable {P : Program} {l : List Oper} {Q : Exit → Act → World → Prop} {w0 w : World} {L0 L : List Asn} {a : Act}
theorem wp_region_fl {id : Nat} (hs : St w0 w L) (hk : Arr L L0) (p : PlanF) (fs : List Nat) (hm : P.follows .mixedOrders = true) (hB : planFB P l.toArray p fs = true)
    (h : Nonempty (StW w0 L0) → wpF P l.toArray w0 L0 (NoPanic Q) p a L) : (Code.region id l.toArray true).wp P Q a w := by
  simp only [planFB, Bool.and_eq_true, beq_iff_eq] at hB
  obtain ⟨⟨⟨⟨⟨h1, h2⟩, h3⟩, h4⟩, h5⟩, h6⟩ := hB
  refine wp_region_noPanic (wp_region_any hm ?_)
  have hrep : ∀ k, (Array.replicate l.toArray.size false).getD k false = false := fun k => by
    simp only [Array.getD_eq_getD_getElem?, Array.getElem?_replicate]
    split <;> rfl
  have hc0 : Closed l.toArray (Array.replicate l.toArray.size false) := fun k o _ hl => by rw [hrep k] at hl; cases hl
  have hnone : ∀ (n : Nat) (fs : List Nat) (x : Array Bool), listD fs (List.replicate n none) x = x := by
    intro n fs
    induction fs generalizing n with
    | nil => intro x; cases n <;> rfl
    | cons f fs ih => intro x; cases n with
      | zero => rfl
      | succ n => exact ih n x
  have hnone2 : ∀ (n : Nat) (fs : List Nat) (x : Act), putD l.toArray fs (List.replicate n none) x = x := by
    intro n fs
    induction fs generalizing n with
    | nil => intro x; cases n <;> rfl
    | cons f fs ih => intro x; cases n with
      | zero => rfl
      | succ n => exact ih n x
  have hnone3 : ∀ (n : Nat) (fs : List Nat), rowsD P l.toArray fs (List.replicate n none) = [] := by
    intro n fs
    induction fs generalizing n with
    | nil => cases n <;> rfl
    | cons f fs ih => cases n with
      | zero => rfl
      | succ n => exact ih n
  have hop : open_ (List.replicate fs.length none) = fs.length := by simp [open_]
  have hsz : ∀ f ∈ fs, (Array.replicate l.toArray.size false).getD f true = false := fun f hf => by
    obtain ⟨o, _, ho, _⟩ := floatB_spec (floatsB_mem h4 f hf)
    have := (Array.getElem?_eq_some_iff.1 ho).1
    simp only [Array.getD_eq_getD_getElem?, Array.getElem?_replicate, if_pos this]; rfl
  have := wpF_sound (P := P) (Q := NoPanic Q) (w0 := w0) (L0 := L0) (es := p.earlies) h1 (fun _ _ _ h => h) l.toArray.size p fs (List.replicate fs.length none) true (Array.replicate l.toArray.size false) a w.drew L
    ⟨hc0, h2, h4, h5, hsz, by simp, fun _ => rfl, fun _ => StW.mk' (hs.drew.arr hk), by rw [hop]; omega, h6, by rw [hnone3]; exact hs.drew⟩ (h ⟨⟨w, hs.arr hk⟩⟩)
  rw [hnone, hnone2] at this
  exact wpAny_of_T _ _ _ _ this
theorem wpF_done (h : ∀ w, St w0 w L → Q .normal a w) : wpF P l.toArray w0 L0 (NoPanic Q) .done a L := h
theorem wpF_land {i : Nat} {p : PlanF} {o : Oper} (ho : getL l i = some o) {T : TypeId} (hop : o.op = .alloc T) {cs : List Value} (hz : zeroCells' P T = some cs)
    (h : ∀ b, wpF P l.toArray w0 L0 (NoPanic Q) p (a.put o.dst (.pointer (some ⟨b, 0, none⟩))) (rowA b cs T :: L)) : wpF P l.toArray w0 L0 (NoPanic Q) (.land i p) a L := by
  rw [getL_eq] at ho; unfold wpF; rw [ho]
  intro T' cs' h1 h2 b
  rw [hop] at h1
  injection h1 with h1
  subst h1
  rw [hz] at h2
  obtain rfl := Option.some.inj h2
  exact h b
theorem wpF_skipE {i : Nat} {p : PlanF} {o : Oper} (ho : getL l i = some o) (hw : Region.wanted o (yielded l.toArray a.tmps) = false)
    (h : wpF P l.toArray w0 L0 (NoPanic Q) p (a.put o.dst undef) L) : wpF P l.toArray w0 L0 (NoPanic Q) (.early i p) a L := by
  rw [getL_eq] at ho; unfold wpF; rw [ho]; simp only [hw]; exact h
theorem wpF_early {i : Nat} {p : PlanF} {o : Oper} (ho : getL l i = some o) (hw : Region.wanted o (yielded l.toArray a.tmps) = true)
    (h : ∀ K : Act → Prop, (∀ a, wpF P l.toArray w0 L0 (NoPanic Q) p a L → K a) → o.quiet P a (fun w' => ∃ s : StW w0 L0, w' = s.1) K) : wpF P l.toArray w0 L0 (NoPanic Q) (.early i p) a L := by
  rw [getL_eq] at ho; unfold wpF; rw [ho]; simp only [hw, if_true]; exact h _ (fun _ h => h)
theorem wpF_skipP {i : Nat} {p : PlanF} {o : Oper} (ho : getL l i = some o) (hw : Region.wanted o (yielded l.toArray a.tmps) = false)
    (h : wpF P l.toArray w0 L0 (NoPanic Q) p (a.put o.dst undef) L) : wpF P l.toArray w0 L0 (NoPanic Q) (.pure i p) a L := by
  rw [getL_eq] at ho; unfold wpF; rw [ho]; simp only [hw]; exact h
theorem wpF_pure {i : Nat} {p : PlanF} {o : Oper} (ho : getL l i = some o) (hw : Region.wanted o (yielded l.toArray a.tmps) = true)
    (h : ∀ K : Act → Prop, (∀ a, wpF P l.toArray w0 L0 (NoPanic Q) p a L → K a) → o.quiet P a (fun _ => True) K) : wpF P l.toArray w0 L0 (NoPanic Q) (.pure i p) a L := by
  rw [getL_eq] at ho; unfold wpF; rw [ho]; simp only [hw, if_true]; exact h _ (fun _ h => h)
theorem wpF_forced {i b : Nat} {p : PlanF} (h : OneF P l.toArray w0 L0 (NoPanic Q) i b (wpF P l.toArray w0 L0 (NoPanic Q) p) a L) : wpF P l.toArray w0 L0 (NoPanic Q) (.forced i b p) a L := h
theorem oneF_skip {i b : Nat} {R : Act → List Asn → Prop} {o : Oper} (ho : getL l i = some o) (hw : Region.wanted o (yielded l.toArray a.tmps) = false) (h : R (a.put o.dst undef) L) : OneF P l.toArray w0 L0 (NoPanic Q) i b R a L := by
  rw [getL_eq] at ho; unfold OneF; rw [ho]; simp only [hw]; exact h
theorem oneF_1 {i : Nat} {R : Act → List Asn → Prop} {o : Oper} (ho : getL l i = some o) (hw : Region.wanted o (yielded l.toArray a.tmps) = true)
    (h : ∀ (w : World) (F : Asn), St w0 w (F :: L) → ∀ K : Act → World → Prop, (∀ a w L', (∃ s : StW w0 L0, w = s.1) → St w0 w (F :: L') → R a L' → K a w) → o.wp P a w K (NoPanic Q)) : OneF P l.toArray w0 L0 (NoPanic Q) i 1 R a L := by
  rw [getL_eq] at ho; unfold OneF; rw [ho]; simp only [hw, if_true]
  exact fun w F hw => h w F hw _ (fun _ _ L' h1 h2 h3 => ⟨fun _ => h1, L', h2, h3⟩)
theorem oneF_2 {i : Nat} {R : Act → List Asn → Prop} {o : Oper} (ho : getL l i = some o) (hw : Region.wanted o (yielded l.toArray a.tmps) = true)
    (h : ∀ (w : World) (F : Asn), St w0 w (F :: L) → ∀ K : Act → World → Prop, (∀ a w L', St w0 w (F :: L') → R a L' → K a w) → o.wp P a w K (NoPanic Q)) : OneF P l.toArray w0 L0 (NoPanic Q) i 2 R a L := by
  rw [getL_eq] at ho; unfold OneF; rw [ho]; simp only [hw, if_true]
  exact fun w F hw => h w F hw _ (fun _ _ L' h2 h3 => ⟨fun h => (by cases h), L', h2, h3⟩)
end
attribute [irreducible] wpF OneF
end Go
end

/- Part 5 of what the proof of FnExactSendPacket rests on: an idealised machine, contracts of functions, and the walk of the law. No condition. -/
import Derived.Test.YtnikopahkjmneaaGreatMFnExactSendPacketd
section
namespace Go.Proofs.YtnikopahkjmneaaGreat
open Go Go.RowKit Go.Vc
set_option linter.unusedVariables false
set_option linter.unusedSimpArgs false
set_option linter.unnecessarySimpa false
theorem dmaWF_open (l : List Mp) (ps : Pg) (d a : Int) (s : ByteArray) : dmaWF (mpOpen l) ps d a s true = dmaWF l ps d a s false := by
  unfold dmaWF
  rw [dmaW_open]
theorem op_stp {l : List Mp} {i : Nat} (h : i < l.length) : (mpOpen (l.take i)).map mpE ++ [[.int .i64 (at' l i).1, .int .i64 (at' l i).2.1, .int .i64 (at' l i).2.2.1, .bool true]] = (mpOpen (l.take (i + 1))).map mpE := by
  rw [List.take_succ_eq_append_getElem h, ← atp_eq h]
  unfold mpOpen
  rw [List.map_append, List.map_append]; rfl
theorem op_end {l : List Mp} {ps : Pg} {d a : Int} {s : ByteArray} {i : Nat} (h : ¬ i < l.length) : dmaWF (mpOpen (l.take i)) ps d a s true = dmaWF l ps d a s false := by
  rw [List.take_of_length_le (by omega), dmaWF_open]
theorem dw_ln (l : List Mp) (ps : Pg) (d a : Int) (s : ByteArray) (wt : Bool) : (dmaWF l ps d a s wt).1.length = ps.length := dmaWF_ln (qs := (dmaWF l ps d a s wt).1) (ok := (dmaWF l ps d a s wt).2) rfl
theorem rp_ln (l : List Mp) (ps : Pg) (d b s h t : Int) (e : ByteArray) : (rputF l ps d b s h t e).1.length = ps.length := rputF_len (qs := (rputF l ps d b s h t e).1) (t2 := (rputF l ps d b s h t e).2.1) (ok := (rputF l ps d b s h t e).2.2) rfl
set_option maxHeartbeats 4000000 in
theorem c_impl_HostWrite {l : List Mp} {ps : Pg} {d a : Int} {s : ByteArray} (hl : l.length ≤ 1099511627776 := by first | with_reducible assumption | omega) (hp : ps.length ≤ 1099511627776 := by first | with_reducible assumption | omega) (hs_s : s.size ≤ 1099511627776 := by first | with_reducible assumption | omega | (simp only [ByteArray.size_append, ByteArray.size_extract, strOfNums_size, List.length_cons, List.length_nil]; omega)) (ha : a ≤ 9223372036854775807 := by omega) : Con0 Tryz.prog 101 [.one (.sl 4 (l.map mpE)), .agg [.sl 1 (ps.map strE)], I d, I a, Z s] (.tup [.agg [.hs 0], B (dmaWF l ps d a s false).2]) [(0, .arr 9 1 (((dmaWF l ps d a s false).1).map strE))] := by
  refine con_i Tryz.func101 Tryz.ntmps101 (t := [(0, .one (.sl 4 (l.map mpE))), (1, .agg [.sl 1 (ps.map strE)]), (2, I d), (3, I a), (4, Z s)]) rfl ?_
  refine vc_sr ?_
  iterate 3 refine vo ?_
  refine vnt ?_
  refine vc_sr ?_
  iterate 5 refine vo ?_
  refine voc c_impl_put rfl rfl ?_
  iterate 4 refine vo ?_
  refine vnt ?_
  refine vc_ret ?_
  refine fin_i [(0, some 136)] rfl (fz ?_) (fz ?_) <;> first | trivial | rfl
set_option maxHeartbeats 4000000 in
theorem c_spec_HostWrite {l : List Mp} {ps : Pg} {d a : Int} {s : ByteArray} (hl : l.length ≤ 1099511627776 := by first | with_reducible assumption | omega) (hp : ps.length ≤ 1099511627776 := by first | with_reducible assumption | omega) (hs_s : s.size ≤ 1099511627776 := by first | with_reducible assumption | omega | (simp only [ByteArray.size_append, ByteArray.size_extract, strOfNums_size, List.length_cons, List.length_nil]; omega)) (ha : a ≤ 9223372036854775807 := by omega) : Con0 Tryz.prog 35 [.one (.sl 4 (l.map mpE)), .agg [.sl 1 (ps.map strE)], I d, I a, Z s] (.tup [.agg [.hs 0], B (dmaWF l ps d a s false).2]) [(0, .arr 9 1 (((dmaWF l ps d a s false).1).map strE))] := by
  refine con_i Tryz.func35 Tryz.ntmps35 (t := [(0, .one (.sl 4 (l.map mpE))), (1, .agg [.sl 1 (ps.map strE)]), (2, I d), (3, I a), (4, Z s)]) rfl ?_
  refine vc_sr ?_
  iterate 3 refine vo ?_
  refine vnt ?_
  refine vc_sr ?_
  iterate 2 refine vo ?_
  refine vnt ?_
  refine vc_seq' ?_
  refine vc_sr ?_
  refine vo ?_
  refine vnt ?_
  refine vc_block ?_
  refine vc_lp (σ := Nat) [0, 2, 3, 4, 6, 10] [48, 80] (fun i => [(12, .one (.hs 7)), (13, I (i : Nat))]) (fun i => [(7, .arr 95 4 ((mpOpen (l.take i)).map mpE))]) (fun i => i ≤ l.length) (fun i => l.length - i) 0 rfl rfl (sub_i [(7, some 120)] (fz ?_) (fz ?_)) ?_ fun i hI => ?_
  · first | trivial | rfl | exact ⟨rfl, rfl⟩ | exact ⟨rfl, rfl, rfl⟩ | trace_state
  · first | trivial | rfl | exact ⟨rfl, rfl⟩ | exact ⟨rfl, rfl, rfl⟩ | trace_state
  · exact Nat.zero_le _
  refine vc_nf rfl rfl ?_
  have hoi : (mpOpen (l.take i)).length ≤ i := by rw [mpOpen_length, List.length_take]; omega
  refine vc_seq' ?_
  refine vc_sr ?_
  iterate 3 refine vo ?_
  try first | refine vlb ?_ | refine vln ?_
  refine vo ?_
  refine vnt ?_
  refine vc_if (fun g1 => ?_) (fun g1 => ?_)
  · refine vc_skip ?_
    refine thn ?_
    refine vc_seq' ?_
    refine vc_block ?_
    refine vc_sr ?_
    iterate 3 refine vo ?_
    try with_reducible (first | refine vep ?_ | refine vpt ?_)
    iterate 3 refine vo ?_
    refine vnt ?_
    refine vc_sr ?_
    iterate 2 refine vo ?_
    refine vnt ?_
    refine vc_region ?_
    iterate 5 refine vo ?_
    refine vnil ?_
    refine inB_n ?_
    refine thn ?_
    refine vc_region ?_
    iterate 2 refine vo ?_
    try refine vwr ?_
    refine vo ?_
    refine vnt ?_
    refine ⟨i + 1, by omega, by omega, sub_i [(7, some 240)] (fz ?_) (fz ?_)⟩
    · first | trivial | rfl | simp
    · first | exact (op_stp g1).symm | trace_state
  · have hol : (mpOpen (l.take i)).length ≤ 1099511627776 := by rw [mpOpen_length, List.length_take]; omega
    refine vc_exit ?_
    refine thn_x ?_
    refine thn_x ?_
    refine inB_x ?_
    refine thn ?_
    refine vc_sr ?_
    iterate 5 refine vo ?_
    refine voc c_spec_DmaWrite rfl rfl ?_
    iterate 4 refine vo ?_
    refine vnt ?_
    refine vc_ret ?_
    have hh := op_end (ps := ps) (d := d) (a := a) (s := s) g1
    rw [← hh]
    refine fin_i [(0, some 288)] rfl (fz ?_) (fz ?_) <;> first | trivial | rfl | exact ⟨rfl, rfl⟩ | trace_state
set_option maxHeartbeats 4000000 in
theorem c_impl_RingPutAll {l : List Mp} {ps : Pg} {d b s h t : Int} {es : List ByteArray} (hl : l.length ≤ 1099511627776 := by first | with_reducible assumption | omega) (hp : ps.length ≤ 1099511627776 := by first | with_reducible assumption | omega) (hl_es : es.length ≤ 100000000 := by first | with_reducible assumption | omega) (hz_es : ∀ x ∈ es, x.size ≤ 1099511627776 := by with_reducible assumption) : Con0 Tryz.prog 57 [.one (.sl 4 (l.map mpE)), .agg [.sl 1 (ps.map strE)], I d, .agg [V b, V s, V h, V t], .one (.sl 1 (es.map strE))] (.tup [.agg [.hs 0], .agg [V b, V s, V h, V (rpaF l ps d b s h t es).2.1], B (rpaF l ps d b s h t es).2.2]) [(0, .arr 9 1 (((rpaF l ps d b s h t es).1).map strE))] := by
  refine con_i Tryz.func57 Tryz.ntmps57 (t := [(0, .one (.sl 4 (l.map mpE))), (1, .agg [.sl 1 (ps.map strE)]), (2, I d), (3, .agg [V b, V s, V h, V t]), (4, .one (.sl 1 (es.map strE)))]) rfl ?_
  refine vc_sr ?_
  iterate 5 refine vo ?_
  refine vnt ?_
  refine vc_sr ?_
  refine vo ?_
  refine voc c_impl_copyMemory rfl rfl ?_
  iterate 5 refine vo ?_
  refine vnt ?_
  refine vc_seq' ?_
  refine vc_sr ?_
  iterate 2 refine vo ?_
  try first | refine vlb ?_ | refine vln ?_
  refine vo ?_
  refine vnt ?_
  refine vc_block ?_
  refine vc_lp3 [0, 2, 6, 8, 10, 11, 13, 14, 21, 22] [48, 64, 80, 88] (fun (i : Nat) (q : Pg) (u : Int) => [(23, I (i : Nat))]) (fun (i : Nat) (q : Pg) (u : Int) => [(7, .arr 9 1 (q.map strE)), (104, .row 42 [.hs 7]), (112, .row 43 [V b, V s, V h, V u])]) (fun (i : Nat) (q : Pg) (u : Int) => rpa l d b s h es ps t = rpa l d b s h (es.drop i) q u ∧ i ≤ es.length ∧ q.length = ps.length) (fun (i : Nat) (q : Pg) (u : Int) => es.length - i) 0 ps t rfl rfl (sub_i [(104, some 104), (112, some 112), (7, some 152)] (fz ?_) (fz ?_)) ?_ fun i q u hI => ?_
  · first | trivial | rfl | exact ⟨rfl, rfl⟩ | exact ⟨rfl, rfl, rfl⟩ | trace_state
  · first | trivial | rfl | exact ⟨rfl, rfl⟩ | exact ⟨rfl, rfl, rfl⟩ | trace_state
  · exact ⟨rfl, Nat.zero_le _, rfl⟩
  refine vc_nf rfl rfl ?_
  have hql := hI.2.2
  refine vc_sr ?_
  refine vo ?_
  refine vnt ?_
  refine vc_seq' ?_
  refine vc_if (fun g1 => ?_) (fun g1 => ?_)
  · have hze := hz_es _ (atp_mem g1)
    refine vc_skip ?_
    refine thn ?_
    refine vc_seq' ?_
    refine vc_block ?_
    refine vc_sr ?_
    refine vo ?_
    try with_reducible (first | refine vep ?_ | refine vpt ?_)
    iterate 2 refine vo ?_
    refine vnt ?_
    refine vc_sr ?_
    refine vo ?_
    refine vnt ?_
    refine vc_sr ?_
    iterate 5 refine vo ?_
    refine voc c_impl_RingPut rfl rfl ?_
    iterate 7 refine vo ?_
    refine vnt ?_
    refine vc_sr ?_
    iterate 2 refine vo ?_
    refine vnt ?_
    refine vc_if (fun g2 => ?_) (fun g2 => ?_)
    · refine vc_sr ?_
      refine vo ?_
      refine voc c_impl_copyMemory rfl rfl ?_
      iterate 4 refine vo ?_
      refine vnt ?_
      refine vc_ret ?_
      refine inB_r ?_
      refine thn_r ?_
      refine thn_r ?_
      refine inB_r ?_
      refine thn_r ?_
      have hh := rpa_no hI.1 g1 g2
      refine fin_i [(0, some 320)] rfl (fz ?_) (fz ?_)
      · rw [hh]; first | trivial | rfl | exact ⟨rfl, rfl⟩ | trace_state
      · rw [hh]; first | trivial | rfl | exact ⟨rfl, rfl⟩ | trace_state
    · refine vc_skip ?_
      refine inB_n ?_
      refine thn ?_
      refine vc_region ?_
      refine vo ?_
      try refine vwr ?_
      refine vo ?_
      refine vnt ?_
      refine ⟨i + 1, (rputF l q d b s h u (at' es i)).1, (rputF l q d b s h u (at' es i)).2.1, ⟨hI.1.trans (rpa_stp g1 g2), by omega, by rw [rp_ln]; exact hql⟩, by omega, sub_i [(104, some 104), (112, some 112), (7, some 264)] (fz ?_) (fz ?_)⟩
      · first | trivial | rfl | simp
      · first | trivial | rfl | exact ⟨rfl, rfl⟩ | exact ⟨rfl, rfl, rfl⟩ | trace_state
  · refine vc_exit ?_
    refine thn_x ?_
    refine thn_x ?_
    refine inB_x ?_
    refine thn ?_
    refine vc_sr ?_
    iterate 5 refine vo ?_
    refine vnt ?_
    refine vc_ret ?_
    have hh := rpa_end hI.1 g1
    refine fin_i [(0, some 7)] rfl (fz ?_) (fz ?_)
    · rw [hh]; first | trivial | rfl | exact ⟨rfl, rfl⟩ | trace_state
    · rw [hh]; first | trivial | rfl | exact ⟨rfl, rfl⟩ | trace_state
set_option maxHeartbeats 4000000 in
theorem c_spec_RingPutAll {l : List Mp} {ps : Pg} {d b s h t : Int} {es : List ByteArray} (hl : l.length ≤ 1099511627776 := by first | with_reducible assumption | omega) (hp : ps.length ≤ 1099511627776 := by first | with_reducible assumption | omega) (hl_es : es.length ≤ 100000000 := by first | with_reducible assumption | omega) (hz_es : ∀ x ∈ es, x.size ≤ 1099511627776 := by with_reducible assumption) : Con0 Tryz.prog 38 [.one (.sl 4 (l.map mpE)), .agg [.sl 1 (ps.map strE)], I d, .agg [V b, V s, V h, V t], .one (.sl 1 (es.map strE))] (.tup [.agg [.hs 0], .agg [V b, V s, V h, V (rpaF l ps d b s h t es).2.1], B (rpaF l ps d b s h t es).2.2]) [(0, .arr 9 1 (((rpaF l ps d b s h t es).1).map strE))] := by
  refine con_i Tryz.func38 Tryz.ntmps38 (t := [(0, .one (.sl 4 (l.map mpE))), (1, .agg [.sl 1 (ps.map strE)]), (2, I d), (3, .agg [V b, V s, V h, V t]), (4, .one (.sl 1 (es.map strE)))]) rfl ?_
  refine vc_sr ?_
  iterate 5 refine vo ?_
  refine vnt ?_
  refine vc_sr ?_
  refine vo ?_
  refine voc c_spec_l16Copy rfl rfl ?_
  iterate 2 refine vo ?_
  refine vnt ?_
  refine vc_sr ?_
  iterate 3 refine vo ?_
  refine vnt ?_
  refine vc_seq' ?_
  refine vc_sr ?_
  refine vo ?_
  refine vnt ?_
  refine vc_block ?_
  refine vc_lp3 [0, 2, 4, 6, 8, 10, 11, 13, 14] [48, 64, 80, 88] (fun (i : Nat) (q : Pg) (u : Int) => [(15, I (i : Nat))]) (fun (i : Nat) (q : Pg) (u : Int) => [(7, .arr 9 1 (q.map strE)), (104, .row 42 [.hs 7]), (112, .row 43 [V b, V s, V h, V u])]) (fun (i : Nat) (q : Pg) (u : Int) => rpa l d b s h es ps t = rpa l d b s h (es.drop i) q u ∧ i ≤ es.length ∧ q.length = ps.length) (fun (i : Nat) (q : Pg) (u : Int) => es.length - i) 0 ps t rfl rfl (sub_i [(104, some 104), (112, some 112), (7, some 144)] (fz ?_) (fz ?_)) ?_ fun i q u hI => ?_
  · first | trivial | rfl | exact ⟨rfl, rfl⟩ | exact ⟨rfl, rfl, rfl⟩ | trace_state
  · first | trivial | rfl | exact ⟨rfl, rfl⟩ | exact ⟨rfl, rfl, rfl⟩ | trace_state
  · exact ⟨rfl, Nat.zero_le _, rfl⟩
  refine vc_nf rfl rfl ?_
  have hql := hI.2.2
  refine vc_seq' ?_
  refine vc_sr ?_
  iterate 3 refine vo ?_
  try first | refine vlb ?_ | refine vln ?_
  refine vo ?_
  refine vnt ?_
  refine vc_if (fun g1 => ?_) (fun g1 => ?_)
  · have hze := hz_es _ (atp_mem g1)
    refine vc_skip ?_
    refine thn ?_
    refine vc_seq' ?_
    refine vc_block ?_
    refine vc_sr ?_
    refine vo ?_
    refine vnt ?_
    refine vc_sr ?_
    iterate 7 refine vo ?_
    try with_reducible (first | refine vep ?_ | refine vpt ?_)
    refine vo ?_
    refine voc c_spec_RingPut rfl rfl ?_
    iterate 7 refine vo ?_
    refine vnt ?_
    refine vc_sr ?_
    iterate 2 refine vo ?_
    refine vnt ?_
    refine vc_if (fun g2 => ?_) (fun g2 => ?_)
    · refine vc_sr ?_
      refine vo ?_
      refine voc c_spec_l16Copy rfl rfl ?_
      iterate 4 refine vo ?_
      refine vnt ?_
      refine vc_ret ?_
      refine inB_r ?_
      refine thn_r ?_
      refine thn_r ?_
      refine inB_r ?_
      refine thn_r ?_
      have hh := rpa_no hI.1 g1 g2
      refine fin_i [(0, some 336)] rfl (fz ?_) (fz ?_)
      · rw [hh]; first | trivial | rfl | exact ⟨rfl, rfl⟩ | trace_state
      · rw [hh]; first | trivial | rfl | exact ⟨rfl, rfl⟩ | trace_state
    · refine vc_skip ?_
      refine inB_n ?_
      refine thn ?_
      refine vc_region ?_
      iterate 2 refine vo ?_
      try refine vwr ?_
      refine vo ?_
      refine vnt ?_
      refine ⟨i + 1, (rputF l q d b s h u (at' es i)).1, (rputF l q d b s h u (at' es i)).2.1, ⟨hI.1.trans (rpa_stp g1 g2), by omega, by rw [rp_ln]; exact hql⟩, by omega, sub_i [(104, some 104), (112, some 112), (7, some 280)] (fz ?_) (fz ?_)⟩
      · first | trivial | rfl | simp
      · first | trivial | rfl | exact ⟨rfl, rfl⟩ | exact ⟨rfl, rfl, rfl⟩ | trace_state
  · refine vc_exit ?_
    refine thn_x ?_
    refine thn_x ?_
    refine inB_x ?_
    refine thn ?_
    refine vc_sr ?_
    iterate 5 refine vo ?_
    refine vnt ?_
    refine vc_ret ?_
    have hh := rpa_end hI.1 g1
    refine fin_i [(0, some 7)] rfl (fz ?_) (fz ?_)
    · rw [hh]; first | trivial | rfl | exact ⟨rfl, rfl⟩ | trace_state
    · rw [hh]; first | trivial | rfl | exact ⟨rfl, rfl⟩ | trace_state
set_option maxHeartbeats 4000000 in
theorem c_impl_fillBuffers_y {l : List Mp} {ps : Pg} {d pb pz pc cut : Int} {fr ks : List Int} {T : ByteArray} (hl : l.length ≤ 1099511627776 := by first | with_reducible assumption | omega) (hp : ps.length ≤ 1099511627776 := by first | with_reducible assumption | omega) (hl_fr : fr.length ≤ 100000000 := by first | with_reducible assumption | omega) (hl_ks : ks.length ≤ 100000000 := by first | with_reducible assumption | omega) (hs_T : T.size ≤ 1000000 := by first | with_reducible assumption | omega) (h0 : 1 ≤ cut) (h1 : cut ≤ 1000000) (hy : (sdW l d pb pz pc fr T cut ks 0 ps).2 = true) (hne : 0 < ks.length) : Con0 Tryz.prog 54 [.one (.sl 4 (l.map mpE)), .agg [.sl 1 (ps.map strE)], I d, .agg [V pb, V pz, V pc, .sl 1 (fr.map intE)], .one (.sl 1 (ks.map intE)), Z T, I cut] (.tup [.agg [.hs 0], .one (.hs 1), B true]) [(0, .arr 9 1 ((sdW l d pb pz pc fr T cut ks 0 ps).1.map strE)), (1, .arr 84 2 ((sdQ pb pz pc fr T cut ks ks.length).map pcE))] := by
  refine con_i Tryz.func54 Tryz.ntmps54 (t := [(0, .one (.sl 4 (l.map mpE))), (1, .agg [.sl 1 (ps.map strE)]), (2, I d), (3, .agg [V pb, V pz, V pc, .sl 1 (fr.map intE)]), (4, .one (.sl 1 (ks.map intE))), (5, Z T), (6, I cut)]) rfl ?_
  refine vc_sr ?_
  iterate 5 refine vo ?_
  refine vnt ?_
  refine vc_sr ?_
  iterate 2 refine vo ?_
  refine vnt ?_
  refine vc_seq' ?_
  refine vc_sr ?_
  iterate 2 refine vo ?_
  try first | refine vlb ?_ | refine vln ?_
  refine vo ?_
  refine vnt ?_
  refine vc_block ?_
  refine vc_lpp2 [0, 2, 6, 8, 10, 14, 24, 25] [80, 112] [(5, Z T), (17, .one (.hs 9)), (26, I ((0 : Nat) : Int))] [(9, .arr 84 2 []), (64, .row 42 [.sl 1 (ps.map strE)])] (fun (i : Nat) (q : Pg) => [(5, Z (T.extract ((i : Int) * cut).toNat T.size)), (17, .one (.hs 9)), (26, I (i : Nat))]) (fun (i : Nat) (q : Pg) => [(7, .arr 9 1 (q.map strE)), (9, .arr 84 2 ((sdQ pb pz pc fr T cut ks i).map pcE)), (64, .row 42 [.hs 7])]) (fun (i : Nat) (q : Pg) => sdW l d pb pz pc fr T cut ks 0 ps = sdW l d pb pz pc fr T cut (ks.drop i) i q ∧ 1 ≤ i ∧ i ≤ ks.length ∧ q.length = ps.length) (fun (i : Nat) (q : Pg) => ks.length - i) (ks.length) rfl rfl (sub_i [(64, some 64), (9, some 184)] (fz ?_) (fz ?_)) ?_ fun i q hI => ?_
  · first | trivial | rfl | exact ⟨rfl, rfl⟩ | exact ⟨rfl, rfl, rfl⟩ | trace_state
  · first | trivial | rfl | exact ⟨rfl, rfl⟩ | exact ⟨rfl, rfl, rfl⟩ | trace_state
  · refine vc_nf rfl rfl ?_
    refine vc_sr ?_
    refine vo ?_
    refine vnt ?_
    refine vc_seq' ?_
    refine vc_if (fun g1 => ?_) (fun g1 => ?_)
    · have hbb := bufA_bd pb pz pc fr (at' ks 0)
      have hpz := sdP_sz T cut 0
      refine vc_skip ?_
      refine thn ?_
      refine vc_seq' ?_
      refine vc_block ?_
      refine vc_sr ?_
      refine vo ?_
      try with_reducible (first | refine vep ?_ | refine vpt ?_)
      iterate 2 refine vo ?_
      refine vnt ?_
      refine vc_sr ?_
      iterate 6 refine vo ?_
      try first | refine vdr ?_ | refine vtk ?_
      refine vstr (sd_pf0 h0) ?_
      refine vo ?_
      refine vnt ?_
      refine vc_sr ?_
      iterate 4 refine vo ?_
      try first | refine vdr ?_ | refine vtk ?_
      refine vstr (sd_tl0 h0) ?_
      refine vo ?_
      refine vnt ?_
      refine vc_sr ?_
      iterate 5 refine vo ?_
      refine voc c_impl_BufferAddress rfl rfl ?_
      refine vo ?_
      refine voc c_impl_HostWrite rfl rfl ?_
      iterate 6 refine vo ?_
      refine vnt ?_
      refine vc_seq' ?_
      refine vc_sr ?_
      iterate 2 refine vo ?_
      refine vnt ?_
      refine vc_if (fun g2 => ?_) (fun g2 => ?_)
      · refine vc_sr ?_
        iterate 4 refine vo ?_
        refine vnt ?_
        refine vc_ret ?_
        refine thn_r ?_
        refine inB_r ?_
        refine thn_r ?_
        refine thn_r ?_
        refine inB_r ?_
        refine thn_r ?_
        have hh : (sdW l d pb pz pc fr T cut ks 0 ps).2 = false := by rw [show sdW l d pb pz pc fr T cut ks 0 ps = sdW l d pb pz pc fr T cut (ks.drop 0) 0 ps from rfl, sdW_no g1 g2]
        rw [hy] at hh; cases hh
      · refine vc_skip ?_
        refine thn ?_
        refine vc_sr ?_
        iterate 2 refine vo ?_
        refine vnt ?_
        refine vc_region ?_
        iterate 3 refine vo ?_
        refine voc c_impl_BufferAddress rfl rfl ?_
        iterate 6 refine vo ?_
        refine vnil ?_
        refine inB_n ?_
        refine thn ?_
        refine vc_region ?_
        refine vo ?_
        try refine vwr ?_
        refine vo ?_
        refine vnt ?_
        refine ⟨1, (dmaWF l ps d (bufA pb pz pc fr (at' ks 0)) (sdP T cut 0) false).1, ⟨sdW_stp (ks := ks) (i := 0) g1 g2, by omega, by omega, by rw [dw_ln]⟩, by omega, sub_i [(64, some 64), (7, some 384), (9, some 504)] (fz ?_) (fz ?_)⟩
        · first | trivial | rfl | simp | trace_state
        · first | exact (by rw [← sdQ_stp, List.map_append]; rfl) | (rw [← sdQ_stp, List.map_append]; exact ⟨rfl, rfl⟩) | trace_state
    · exfalso; omega
  refine vc_nf rfl rfl ?_
  have hql := hI.2.2.2
  have hsq := sdQ_len pb pz pc fr T cut ks i
  have hez : (T.extract ((i : Int) * cut).toNat T.size).size ≤ T.size := by rw [ByteArray.size_extract]; omega
  refine vc_sr ?_
  refine vo ?_
  refine vnt ?_
  refine vc_seq' ?_
  refine vc_if (fun g3 => ?_) (fun g3 => ?_)
  · have hbb := bufA_bd pb pz pc fr (at' ks i)
    have hpz := sdP_sz T cut i
    have hpz2 := sdP_le (T := T) (cut := cut) (k := i)
    refine vc_skip ?_
    refine thn ?_
    refine vc_seq' ?_
    refine vc_block ?_
    refine vc_sr ?_
    refine vo ?_
    try with_reducible (first | refine vep ?_ | refine vpt ?_)
    iterate 2 refine vo ?_
    refine vnt ?_
    refine vc_sr ?_
    iterate 6 refine vo ?_
    try first | refine vdr ?_ | refine vtk ?_
    refine vstr (sd_pf h0) ?_
    refine vo ?_
    refine vnt ?_
    refine vc_sr ?_
    iterate 4 refine vo ?_
    try first | refine vdr ?_ | refine vtk ?_
    refine vstr (sd_tl h0) ?_
    refine vo ?_
    refine vnt ?_
    refine vc_sr ?_
    iterate 5 refine vo ?_
    refine voc c_impl_BufferAddress rfl rfl ?_
    refine vo ?_
    refine voc c_impl_HostWrite rfl rfl ?_
    iterate 6 refine vo ?_
    refine vnt ?_
    refine vc_seq' ?_
    refine vc_sr ?_
    iterate 2 refine vo ?_
    refine vnt ?_
    refine vc_if (fun g4 => ?_) (fun g4 => ?_)
    · refine vc_sr ?_
      iterate 4 refine vo ?_
      refine vnt ?_
      refine vc_ret ?_
      refine thn_r ?_
      refine inB_r ?_
      refine thn_r ?_
      refine thn_r ?_
      refine inB_r ?_
      refine thn_r ?_
      have hh : (sdW l d pb pz pc fr T cut ks 0 ps).2 = false := by rw [hI.1, sdW_no g3 g4]
      rw [hy] at hh; cases hh
    · refine vc_skip ?_
      refine thn ?_
      refine vc_sr ?_
      iterate 2 refine vo ?_
      refine vnt ?_
      refine vc_region ?_
      iterate 3 refine vo ?_
      refine voc c_impl_BufferAddress rfl rfl ?_
      iterate 6 refine vo ?_
      refine vnil ?_
      refine inB_n ?_
      refine thn ?_
      refine vc_region ?_
      refine vo ?_
      try refine vwr ?_
      refine vo ?_
      refine vnt ?_
      refine ⟨i + 1, (dmaWF l q d (bufA pb pz pc fr (at' ks i)) (sdP T cut i) false).1, ⟨hI.1.trans (sdW_stp g3 g4), by omega, by omega, by rw [dw_ln]; exact hql⟩, by omega, sub_i [(64, some 64), (7, some 384), (9, some 504)] (fz ?_) (fz ?_)⟩
      · first | trivial | rfl | simp | trace_state
      · first | exact (by rw [← sdQ_stp, List.map_append]; rfl) | (rw [← sdQ_stp, List.map_append]; exact ⟨rfl, rfl⟩) | trace_state
  · refine vc_exit ?_
    refine thn_x ?_
    refine thn_x ?_
    refine inB_x ?_
    refine thn ?_
    refine vc_sr ?_
    iterate 5 refine vo ?_
    refine vnt ?_
    refine vc_ret ?_
    have hh : sdW l d pb pz pc fr T cut ks 0 ps = _ := hI.1.trans (sdW_end g3)
    obtain rfl : i = ks.length := by omega
    refine fin_i [(0, some 7), (1, some 9)] rfl (fz ?_) (fz ?_)
    · first | trivial | rfl | exact ⟨rfl, rfl⟩ | trace_state
    · rw [hh]; first | trivial | rfl | exact ⟨rfl, rfl⟩ | trace_state
set_option maxHeartbeats 4000000 in
theorem c_impl_fillBuffers_n {l : List Mp} {ps : Pg} {d pb pz pc cut : Int} {fr ks : List Int} {T : ByteArray} (hl : l.length ≤ 1099511627776 := by first | with_reducible assumption | omega) (hp : ps.length ≤ 1099511627776 := by first | with_reducible assumption | omega) (hl_fr : fr.length ≤ 100000000 := by first | with_reducible assumption | omega) (hl_ks : ks.length ≤ 100000000 := by first | with_reducible assumption | omega) (hs_T : T.size ≤ 1000000 := by first | with_reducible assumption | omega) (h0 : 1 ≤ cut) (h1 : cut ≤ 1000000) (hy : (sdW l d pb pz pc fr T cut ks 0 ps).2 = false) (hne : 0 < ks.length) : Con0 Tryz.prog 54 [.one (.sl 4 (l.map mpE)), .agg [.sl 1 (ps.map strE)], I d, .agg [V pb, V pz, V pc, .sl 1 (fr.map intE)], .one (.sl 1 (ks.map intE)), Z T, I cut] (.tup [.agg [.junk], .one .nil, B false]) [] := by
  refine con_i Tryz.func54 Tryz.ntmps54 (t := [(0, .one (.sl 4 (l.map mpE))), (1, .agg [.sl 1 (ps.map strE)]), (2, I d), (3, .agg [V pb, V pz, V pc, .sl 1 (fr.map intE)]), (4, .one (.sl 1 (ks.map intE))), (5, Z T), (6, I cut)]) rfl ?_
  refine vc_sr ?_
  iterate 5 refine vo ?_
  refine vnt ?_
  refine vc_sr ?_
  iterate 2 refine vo ?_
  refine vnt ?_
  refine vc_seq' ?_
  refine vc_sr ?_
  iterate 2 refine vo ?_
  try first | refine vlb ?_ | refine vln ?_
  refine vo ?_
  refine vnt ?_
  refine vc_block ?_
  refine vc_lpp2 [0, 2, 6, 8, 10, 14, 24, 25] [80, 112] [(5, Z T), (17, .one (.hs 9)), (26, I ((0 : Nat) : Int))] [(9, .arr 84 2 []), (64, .row 42 [.sl 1 (ps.map strE)])] (fun (i : Nat) (q : Pg) => [(5, Z (T.extract ((i : Int) * cut).toNat T.size)), (17, .one (.hs 9)), (26, I (i : Nat))]) (fun (i : Nat) (q : Pg) => [(7, .arr 9 1 (q.map strE)), (9, .arr 84 2 ((sdQ pb pz pc fr T cut ks i).map pcE)), (64, .row 42 [.hs 7])]) (fun (i : Nat) (q : Pg) => sdW l d pb pz pc fr T cut ks 0 ps = sdW l d pb pz pc fr T cut (ks.drop i) i q ∧ 1 ≤ i ∧ i ≤ ks.length ∧ q.length = ps.length) (fun (i : Nat) (q : Pg) => ks.length - i) (ks.length) rfl rfl (sub_i [(64, some 64), (9, some 184)] (fz ?_) (fz ?_)) ?_ fun i q hI => ?_
  · first | trivial | rfl | exact ⟨rfl, rfl⟩ | exact ⟨rfl, rfl, rfl⟩ | trace_state
  · first | trivial | rfl | exact ⟨rfl, rfl⟩ | exact ⟨rfl, rfl, rfl⟩ | trace_state
  · refine vc_nf rfl rfl ?_
    refine vc_sr ?_
    refine vo ?_
    refine vnt ?_
    refine vc_seq' ?_
    refine vc_if (fun g1 => ?_) (fun g1 => ?_)
    · have hbb := bufA_bd pb pz pc fr (at' ks 0)
      have hpz := sdP_sz T cut 0
      refine vc_skip ?_
      refine thn ?_
      refine vc_seq' ?_
      refine vc_block ?_
      refine vc_sr ?_
      refine vo ?_
      try with_reducible (first | refine vep ?_ | refine vpt ?_)
      iterate 2 refine vo ?_
      refine vnt ?_
      refine vc_sr ?_
      iterate 6 refine vo ?_
      try first | refine vdr ?_ | refine vtk ?_
      refine vstr (sd_pf0 h0) ?_
      refine vo ?_
      refine vnt ?_
      refine vc_sr ?_
      iterate 4 refine vo ?_
      try first | refine vdr ?_ | refine vtk ?_
      refine vstr (sd_tl0 h0) ?_
      refine vo ?_
      refine vnt ?_
      refine vc_sr ?_
      iterate 5 refine vo ?_
      refine voc c_impl_BufferAddress rfl rfl ?_
      refine vo ?_
      refine voc c_impl_HostWrite rfl rfl ?_
      iterate 6 refine vo ?_
      refine vnt ?_
      refine vc_seq' ?_
      refine vc_sr ?_
      iterate 2 refine vo ?_
      refine vnt ?_
      refine vc_if (fun g2 => ?_) (fun g2 => ?_)
      · refine vc_sr ?_
        iterate 4 refine vo ?_
        refine vnt ?_
        refine vc_ret ?_
        refine thn_r ?_
        refine inB_r ?_
        refine thn_r ?_
        refine thn_r ?_
        refine inB_r ?_
        refine thn_r ?_
        refine fin_i [] rfl (fz ?_) (fz ?_) <;> first | trivial | rfl | exact ⟨rfl, rfl⟩ | trace_state
      · refine vc_skip ?_
        refine thn ?_
        refine vc_sr ?_
        iterate 2 refine vo ?_
        refine vnt ?_
        refine vc_region ?_
        iterate 3 refine vo ?_
        refine voc c_impl_BufferAddress rfl rfl ?_
        iterate 6 refine vo ?_
        refine vnil ?_
        refine inB_n ?_
        refine thn ?_
        refine vc_region ?_
        refine vo ?_
        try refine vwr ?_
        refine vo ?_
        refine vnt ?_
        refine ⟨1, (dmaWF l ps d (bufA pb pz pc fr (at' ks 0)) (sdP T cut 0) false).1, ⟨sdW_stp (ks := ks) (i := 0) g1 g2, by omega, by omega, by rw [dw_ln]⟩, by omega, sub_i [(64, some 64), (7, some 384), (9, some 504)] (fz ?_) (fz ?_)⟩
        · first | trivial | rfl | simp | trace_state
        · first | exact (by rw [← sdQ_stp, List.map_append]; rfl) | (rw [← sdQ_stp, List.map_append]; exact ⟨rfl, rfl⟩) | trace_state
    · exfalso; omega
  refine vc_nf rfl rfl ?_
  have hql := hI.2.2.2
  have hsq := sdQ_len pb pz pc fr T cut ks i
  have hez : (T.extract ((i : Int) * cut).toNat T.size).size ≤ T.size := by rw [ByteArray.size_extract]; omega
  refine vc_sr ?_
  refine vo ?_
  refine vnt ?_
  refine vc_seq' ?_
  refine vc_if (fun g3 => ?_) (fun g3 => ?_)
  · have hbb := bufA_bd pb pz pc fr (at' ks i)
    have hpz := sdP_sz T cut i
    have hpz2 := sdP_le (T := T) (cut := cut) (k := i)
    refine vc_skip ?_
    refine thn ?_
    refine vc_seq' ?_
    refine vc_block ?_
    refine vc_sr ?_
    refine vo ?_
    try with_reducible (first | refine vep ?_ | refine vpt ?_)
    iterate 2 refine vo ?_
    refine vnt ?_
    refine vc_sr ?_
    iterate 6 refine vo ?_
    try first | refine vdr ?_ | refine vtk ?_
    refine vstr (sd_pf h0) ?_
    refine vo ?_
    refine vnt ?_
    refine vc_sr ?_
    iterate 4 refine vo ?_
    try first | refine vdr ?_ | refine vtk ?_
    refine vstr (sd_tl h0) ?_
    refine vo ?_
    refine vnt ?_
    refine vc_sr ?_
    iterate 5 refine vo ?_
    refine voc c_impl_BufferAddress rfl rfl ?_
    refine vo ?_
    refine voc c_impl_HostWrite rfl rfl ?_
    iterate 6 refine vo ?_
    refine vnt ?_
    refine vc_seq' ?_
    refine vc_sr ?_
    iterate 2 refine vo ?_
    refine vnt ?_
    refine vc_if (fun g4 => ?_) (fun g4 => ?_)
    · refine vc_sr ?_
      iterate 4 refine vo ?_
      refine vnt ?_
      refine vc_ret ?_
      refine thn_r ?_
      refine inB_r ?_
      refine thn_r ?_
      refine thn_r ?_
      refine inB_r ?_
      refine thn_r ?_
      refine fin_i [] rfl (fz ?_) (fz ?_) <;> first | trivial | rfl | exact ⟨rfl, rfl⟩ | trace_state
    · refine vc_skip ?_
      refine thn ?_
      refine vc_sr ?_
      iterate 2 refine vo ?_
      refine vnt ?_
      refine vc_region ?_
      iterate 3 refine vo ?_
      refine voc c_impl_BufferAddress rfl rfl ?_
      iterate 6 refine vo ?_
      refine vnil ?_
      refine inB_n ?_
      refine thn ?_
      refine vc_region ?_
      refine vo ?_
      try refine vwr ?_
      refine vo ?_
      refine vnt ?_
      refine ⟨i + 1, (dmaWF l q d (bufA pb pz pc fr (at' ks i)) (sdP T cut i) false).1, ⟨hI.1.trans (sdW_stp g3 g4), by omega, by omega, by rw [dw_ln]; exact hql⟩, by omega, sub_i [(64, some 64), (7, some 384), (9, some 504)] (fz ?_) (fz ?_)⟩
      · first | trivial | rfl | simp | trace_state
      · first | exact (by rw [← sdQ_stp, List.map_append]; rfl) | (rw [← sdQ_stp, List.map_append]; exact ⟨rfl, rfl⟩) | trace_state
  · refine vc_exit ?_
    refine thn_x ?_
    refine thn_x ?_
    refine inB_x ?_
    refine thn ?_
    refine vc_sr ?_
    iterate 5 refine vo ?_
    refine vnt ?_
    refine vc_ret ?_
    have hh : sdW l d pb pz pc fr T cut ks 0 ps = _ := hI.1.trans (sdW_end g3)
    rw [hh] at hy; cases hy
end Go.Proofs.YtnikopahkjmneaaGreat
end
section
namespace Go.Proofs.YtnikopahkjmneaaGreat
open Go Go.RowKit Go.Vc
set_option linter.unusedVariables false
set_option linter.unusedSimpArgs false
set_option linter.unnecessarySimpa false
theorem ds_all {l : List Pc} {size ck : Int} {n : Nat} (h : ∀ j, j < n → dOk (dAt l size ck j) = true) : (dsF l size ck n).all dOk = true := by
  rw [List.all_eq_true]
  intro x hx
  unfold dsF at hx
  obtain ⟨j, hj, rfl⟩ := List.mem_map.1 hx
  exact h j (List.mem_range.1 hj)
theorem upto_stp {Q : Nat → Prop} {k : Nat} (h : ∀ j, j < k → Q j) (hk : Q k) : ∀ j, j < k + 1 → Q j := fun j g => by
  rcases Nat.lt_or_ge j k with g2 | g2
  · exact h j g2
  · obtain rfl : j = k := by omega
    exact hk
theorem ds_at {l : List Pc} {size ck v : Int} {i : Nat} (hfl : (if i + 1 = l.length then (1 : Int) else 0) = v) : dAt l size ck (i + 1) = (1, v, (at' l i).2, (at' l i).1, 0, ck) := by rw [← hfl]; rfl
theorem pcs_len {l : List Pc} (h : pcsOk l = true) : l.length ≤ 16 := (pcsOk_iff.1 h).2
set_option maxHeartbeats 4000000 in
theorem c_impl_PiecesOk {l : List Pc} (hl_l : l.length ≤ 1099511627776 := by first | assumption | omega) : Con0 Tryz.prog 103 [.one (.sl 2 (l.map pcE))] (B (pcsOk l)) [] := by
  refine con_i Tryz.func103 Tryz.ntmps103 (t := [(0, .one (.sl 2 (l.map pcE)))]) rfl ?_
  refine vc_sr ?_
  refine vo ?_
  refine vnt ?_
  refine vc_seq' ?_
  refine vc_sr ?_
  iterate 2 refine vo ?_
  try first | refine vlb ?_ | refine vln ?_
  refine vo ?_
  refine vnt ?_
  refine vc_block ?_
  refine vc_lp (σ := Nat) [0, 5, 6] [] (fun i => [(7, I (i : Nat))]) (fun i => []) (fun i => i ≤ l.length ∧ (l.take i).all pcOk = true) (fun i => l.length - i) 0 rfl rfl (sub_i [] (fz ?_) (fz ?_)) ?_ fun i hI => ?_
  · first | trivial | rfl
  · first | trivial | rfl
  · exact ⟨Nat.zero_le _, rfl⟩
  refine vc_nf rfl rfl ?_
  refine vc_sr ?_
  refine vo ?_
  refine vnt ?_
  refine vc_seq' ?_
  refine vc_if (fun g1 => ?_) (fun g1 => ?_)
  · refine vc_skip ?_
    refine thn ?_
    refine vc_seq' ?_
    refine vc_block ?_
    refine vc_sr ?_
    refine vo ?_
    try with_reducible (first | refine vep ?_ | refine vpt ?_)
    iterate 3 refine vo ?_
    refine vnt ?_
    refine vc_sr ?_
    iterate 4 refine vo ?_
    refine vsp (fun g2 => ?_) (fun g2 => ?_)
    · iterate 4 refine vof ?_
      refine vo ?_
      refine vnt ?_
      refine vc_then ?_
      refine vc_sr ?_
      refine vo ?_
      refine vnt ?_
      refine vc_ret ?_
      refine inB_r ?_
      refine thn_r ?_
      refine thn_r ?_
      refine inB_r ?_
      refine thn_r ?_
      refine fin_i [] rfl (fz ?_) trivial
      exact pcsOk_bad g1 (.inl g2)
    · iterate 2 refine von ?_
      refine vocn c_impl_between rfl rfl ?_
      refine von ?_
      refine vo ?_
      refine vnt ?_
      refine vc_if (fun g3 => ?_) (fun g3 => ?_)
      · refine vc_sr ?_
        refine vo ?_
        refine vnt ?_
        refine vc_ret ?_
        refine inB_r ?_
        refine thn_r ?_
        refine thn_r ?_
        refine inB_r ?_
        refine thn_r ?_
        refine fin_i [] rfl (fz ?_) trivial
        exact pcsOk_bad g1 (.inr g3)
      · refine vc_skip ?_
        refine inB_n ?_
        refine thn ?_
        refine vc_region ?_
        refine vo ?_
        try refine vwr ?_
        refine vo ?_
        refine vnt ?_
        refine ⟨i + 1, ?_, ?_, sub_i [] (fz ?_) (fz ?_)⟩
        · exact ⟨by omega, all_stp hI.2 g1 (pcOk_yes (by omega) g3)⟩
        · omega
        · first | rfl | trivial | exact ⟨rfl, rfl⟩
        · first | rfl | trivial
  · refine vc_exit ?_
    refine thn_x ?_
    refine thn_x ?_
    refine inB_x ?_
    refine thn ?_
    refine vc_sr ?_
    iterate 2 refine vo ?_
    try first | refine vlb ?_ | refine vln ?_
    iterate 2 refine vo ?_
    refine vnt ?_
    refine vc_ret ?_
    refine fin_i [] rfl (fz ?_) trivial
    exact pcsOk_end hI.2 g1
set_option maxHeartbeats 4000000 in
theorem c_spec_PiecesOk {l : List Pc} (hl_l : l.length ≤ 1099511627776 := by first | assumption | omega) : Con0 Tryz.prog 81 [.one (.sl 2 (l.map pcE))] (B (pcsOk l)) [] := by
  refine con_i Tryz.func81 Tryz.ntmps81 (t := [(0, .one (.sl 2 (l.map pcE)))]) rfl ?_
  refine vc_sr ?_
  refine vo ?_
  refine vnt ?_
  refine vc_seq' ?_
  refine vc_sr ?_
  refine vo ?_
  refine vnt ?_
  refine vc_block ?_
  refine vc_lp (σ := Nat) [0] [] (fun i => [(3, I (i : Nat))]) (fun i => []) (fun i => i ≤ l.length ∧ (l.take i).all pcOk = true) (fun i => l.length - i) 0 rfl rfl (sub_i [] (fz ?_) (fz ?_)) ?_ fun i hI => ?_
  · first | trivial | rfl
  · first | trivial | rfl
  · exact ⟨Nat.zero_le _, rfl⟩
  refine vc_nf rfl rfl ?_
  refine vc_seq' ?_
  refine vc_sr ?_
  iterate 3 refine vo ?_
  try first | refine vlb ?_ | refine vln ?_
  refine vo ?_
  refine vnt ?_
  refine vc_if (fun g1 => ?_) (fun g1 => ?_)
  · refine vc_skip ?_
    refine thn ?_
    refine vc_seq' ?_
    refine vc_block ?_
    refine vc_sr ?_
    iterate 3 refine vo ?_
    try with_reducible (first | refine vep ?_ | refine vpt ?_)
    iterate 4 refine vo ?_
    refine vsp (fun g2 => ?_) (fun g2 => ?_)
    · iterate 7 refine vof ?_
      refine vo ?_
      refine vnt ?_
      refine vc_then ?_
      refine vc_sr ?_
      refine vo ?_
      refine vnt ?_
      refine vc_ret ?_
      refine inB_r ?_
      refine thn_r ?_
      refine thn_r ?_
      refine inB_r ?_
      refine thn_r ?_
      refine fin_i [] rfl (fz ?_) trivial
      exact pcsOk_bad g1 (.inl g2)
    · iterate 3 refine von ?_
      try with_reducible (first | refine vep ?_ | refine vpt ?_)
      iterate 2 refine von ?_
      refine vocn c_spec_l01In rfl rfl ?_
      refine von ?_
      refine vo ?_
      refine vnt ?_
      refine vc_if (fun g3 => ?_) (fun g3 => ?_)
      · refine vc_sr ?_
        refine vo ?_
        refine vnt ?_
        refine vc_ret ?_
        refine inB_r ?_
        refine thn_r ?_
        refine thn_r ?_
        refine inB_r ?_
        refine thn_r ?_
        refine fin_i [] rfl (fz ?_) trivial
        exact pcsOk_bad g1 (.inr g3)
      · refine vc_skip ?_
        refine inB_n ?_
        refine thn ?_
        refine vc_region ?_
        iterate 2 refine vo ?_
        try refine vwr ?_
        refine vo ?_
        refine vnt ?_
        refine ⟨i + 1, ?_, ?_, sub_i [] (fz ?_) (fz ?_)⟩
        · exact ⟨by omega, all_stp hI.2 g1 (pcOk_yes (by omega) g3)⟩
        · omega
        · first | rfl | trivial | exact ⟨rfl, rfl⟩
        · first | rfl | trivial
  · refine vc_exit ?_
    refine thn_x ?_
    refine thn_x ?_
    refine inB_x ?_
    refine thn ?_
    refine vc_sr ?_
    iterate 2 refine vo ?_
    try first | refine vlb ?_ | refine vln ?_
    iterate 2 refine vo ?_
    refine vnt ?_
    refine vc_ret ?_
    refine fin_i [] rfl (fz ?_) trivial
    exact pcsOk_end hI.2 g1
set_option maxHeartbeats 4000000 in
theorem c_impl_DescribePacket {l : List Pc} {size ck : Int} (hl_l : l.length ≤ 1099511627776 := by first | assumption | omega) : Con0 Tryz.prog 55 [.one (.sl 2 (l.map pcE)), I size, I ck] (.one (.hs 0)) [(0, .arr 89 6 ((descrF l size ck).map dscE))] := by
  refine con_i Tryz.func55 Tryz.ntmps55 (t := [(0, .one (.sl 2 (l.map pcE))), (1, I size), (2, I ck)]) rfl ?_
  refine vc_sr ?_
  refine vo ?_
  refine vnt ?_
  refine vc_seq' ?_
  refine vc_sr ?_
  iterate 2 refine vo ?_
  try first | refine vlb ?_ | refine vln ?_
  iterate 2 refine vo ?_
  refine vsp (fun g1 => ?_) (fun g1 => ?_)
  · iterate 3 refine vof ?_
    iterate 2 refine vo ?_
    iterate 3 refine vof ?_
    refine vo ?_
    refine vnt ?_
    refine vc_then ?_
    refine vc_sr ?_
    refine vo ?_
    refine vnt ?_
    refine vc_ret ?_
    refine thn_r ?_
    refine fin_i [(0, none)] rfl (fz ?_) (fz ?_)
    · trivial
    · rw [descr_n (.inl (List.eq_nil_of_length_eq_zero (by omega)))]; rfl
  · refine von ?_
    refine vocn c_impl_PiecesOk rfl rfl ?_
    refine von ?_
    iterate 2 refine vo ?_
    refine vsp (fun g2 => ?_) (fun g2 => ?_)
    · iterate 3 refine vof ?_
      refine vo ?_
      refine vnt ?_
      refine vc_then ?_
      refine vc_sr ?_
      refine vo ?_
      refine vnt ?_
      refine vc_ret ?_
      refine thn_r ?_
      refine fin_i [(0, none)] rfl (fz ?_) (fz ?_)
      · trivial
      · rw [descr_n (.inr (.inl g2))]; rfl
    · refine von ?_
      refine vocn c_impl_between rfl rfl ?_
      refine von ?_
      refine vo ?_
      refine vnt ?_
      refine vc_if (fun g3 => ?_) (fun g3 => ?_)
      · refine vc_sr ?_
        refine vo ?_
        refine vnt ?_
        refine vc_ret ?_
        refine thn_r ?_
        refine fin_i [(0, none)] rfl (fz ?_) (fz ?_)
        · trivial
        · rw [descr_n (.inr (.inr (.inl g3)))]; rfl
      · have hpl := pcs_len g2
        have hne : ¬ l = [] := fun h => by subst h; simp at g1
        have hz2 := inB_iff.1 g3
        refine vc_skip ?_
        refine thn ?_
        refine vc_sr ?_
        iterate 5 refine vo ?_
        refine vnt ?_
        refine vc_seq' ?_
        refine vc_sr ?_
        iterate 2 refine vo ?_
        try first | refine vlb ?_ | refine vln ?_
        refine vo ?_
        refine vnt ?_
        refine vc_block ?_
        refine vc_lp (σ := Nat) [0, 2, 30, 31] [] (fun i => [(7, .one (.hs 7)), (32, I (i : Nat))]) (fun i => [(7, .arr 89 6 ((dsF l size ck (i + 1)).map dscE))]) (fun i => i ≤ l.length) (fun i => l.length - i) 0 rfl rfl (sub_i [(7, some 232)] (fz ?_) (fz ?_)) ?_ fun i hI => ?_
        · first | trivial | rfl
        · first | trivial | rfl | simp [dsF, dAt, dscE]
        · exact Nat.zero_le _
        refine vc_nf rfl rfl ?_
        have hdl := dsF_len l size ck (i + 1)
        refine vc_sr ?_
        refine vo ?_
        refine vnt ?_
        refine vc_seq' ?_
        refine vc_if (fun g4 => ?_) (fun g4 => ?_)
        · refine vc_skip ?_
          refine thn ?_
          refine vc_seq' ?_
          refine vc_block ?_
          refine vc_sr ?_
          iterate 2 refine vo ?_
          try with_reducible (first | refine vep ?_ | refine vpt ?_)
          iterate 4 refine vo ?_
          refine vnt ?_
          refine vc_sr ?_
          iterate 8 refine vo ?_
          refine vnt ?_
          refine vc_seq' ?_
          refine vc_sr ?_
          iterate 3 refine vo ?_
          try first | refine vlb ?_ | refine vln ?_
          refine vo ?_
          try refine vwr ?_
          refine vo ?_
          refine vnt ?_
          refine vc_if (fun g5 => ?_) (fun g5 => ?_)
          · have hfl : (if i + 1 = l.length then (1 : Int) else 0) = 1 := if_pos (by omega)
            refine vc_region ?_
            iterate 2 refine vo ?_
            refine vnt ?_
            refine vc_region ?_
            iterate 5 refine vo ?_
            refine vnil ?_
            refine inB_n ?_
            refine thn ?_
            refine vc_region ?_
            refine vo ?_
            try refine vwr ?_
            refine vo ?_
            refine vnt ?_
            refine ⟨i + 1, ?_, ?_, sub_i [(7, some 416)] (fz ?_) (fz ?_)⟩
            · first | omega | exact ⟨by omega, by assumption⟩
            · omega
            · first | trivial | rfl | exact ⟨rfl, rfl⟩
            · rw [← dsF_stp]; simp [dscE, dAt, hfl]
          · have hfl : (if i + 1 = l.length then (1 : Int) else 0) = 0 := if_neg (by omega)
            refine vc_skip ?_
            refine thn ?_
            refine vc_region ?_
            iterate 5 refine vo ?_
            refine vnil ?_
            refine inB_n ?_
            refine thn ?_
            refine vc_region ?_
            refine vo ?_
            try refine vwr ?_
            refine vo ?_
            refine vnt ?_
            refine ⟨i + 1, ?_, ?_, sub_i [(7, some 416)] (fz ?_) (fz ?_)⟩
            · first | omega | exact ⟨by omega, by assumption⟩
            · omega
            · first | trivial | rfl | exact ⟨rfl, rfl⟩
            · rw [← dsF_stp]; simp [dscE, dAt, hfl]
        · have hil : i = l.length := by omega
          subst hil
          refine vc_exit ?_
          refine thn_x ?_
          refine thn_x ?_
          refine inB_x ?_
          refine thn ?_
          refine vc_seq' ?_
          refine vc_sr ?_
          iterate 2 refine vo ?_
          try first | refine vlb ?_ | refine vln ?_
          refine vo ?_
          refine vnt ?_
          refine vc_block ?_
          refine vc_lp (σ := Nat) [7, 54, 55] [7] (fun j => [(56, I (j : Nat))]) (fun j => []) (fun j => j ≤ l.length + 1 ∧ ∀ q, q < j → dOk (dAt l size ck q) = true) (fun j => l.length + 1 - j) 0 rfl rfl (sub_i [] (fz ?_) (fz ?_)) ?_ fun j hJ => ?_
          · first | trivial | rfl
          · first | trivial | rfl
          · exact ⟨Nat.zero_le _, fun q h => by omega⟩
          refine vc_nf rfl rfl ?_
          have hda : j < l.length + 1 → at' (dsF l size ck (l.length + 1)) j = dAt l size ck j := fun h => dsF_at h
          have hdl := dsF_len l size ck (l.length + 1)
          refine vc_sr ?_
          refine vo ?_
          refine vnt ?_
          refine vc_seq' ?_
          refine vc_if (fun g6 => ?_) (fun g6 => ?_)
          · refine vc_skip ?_
            refine thn ?_
            refine vc_seq' ?_
            refine vc_block ?_
            refine vc_sr ?_
            refine vo ?_
            try with_reducible (first | refine vep ?_ | refine vpt ?_)
            iterate 3 refine vo ?_
            refine vnt ?_
            refine vc_sr ?_
            refine vo ?_
            refine voc c_impl_DescOk rfl rfl ?_
            refine vo ?_
            refine vnt ?_
            refine vc_if (fun g7 => ?_) (fun g7 => ?_)
            · refine vc_sr ?_
              refine vo ?_
              refine vnt ?_
              refine vc_ret ?_
              refine inB_r ?_
              refine thn_r ?_
              refine thn_r ?_
              refine inB_r ?_
              refine thn_r ?_
              refine fin_i [(0, none)] rfl (fz ?_) (fz ?_)
              · trivial
              · rw [descr_bad (i := j) (by omega) (by rw [← hda (by omega)]; exact g7)]; rfl
            · refine vc_skip ?_
              refine inB_n ?_
              refine thn ?_
              refine vc_region ?_
              refine vo ?_
              try refine vwr ?_
              refine vo ?_
              refine vnt ?_
              refine ⟨j + 1, ?_, ?_, sub_i [] (fz ?_) (fz ?_)⟩
              · exact ⟨by omega, upto_stp hJ.2 (by rw [← hda (by omega)]; assumption)⟩
              · omega
              · first | trivial | rfl | exact ⟨rfl, rfl⟩
              · first | trivial | rfl
          · refine vc_exit ?_
            refine thn_x ?_
            refine thn_x ?_
            refine inB_x ?_
            refine thn ?_
            refine vc_sr ?_
            iterate 2 refine vo ?_
            refine vnt ?_
            refine vc_ret ?_
            refine fin_i [(0, some 7)] rfl (fz ?_) (fz ?_)
            · trivial
            · rw [descr_y hne g2 g3 (ds_all fun q hq => hJ.2 q (by omega))]
set_option maxHeartbeats 4000000 in
theorem c_spec_DescribePacket {l : List Pc} {size ck : Int} (hl_l : l.length ≤ 1099511627776 := by first | assumption | omega) : Con0 Tryz.prog 36 [.one (.sl 2 (l.map pcE)), I size, I ck] (.one (.hs 0)) [(0, .arr 89 6 ((descrF l size ck).map dscE))] := by
  refine con_i Tryz.func36 Tryz.ntmps36 (t := [(0, .one (.sl 2 (l.map pcE))), (1, I size), (2, I ck)]) rfl ?_
  refine vc_sr ?_
  refine vo ?_
  refine vnt ?_
  refine vc_sr ?_
  iterate 4 refine vo ?_
  refine vh1 (es' := [((2, 0, 0, 0, size, ck) : Dsc)].map dscE) rfl ?_
  refine vo ?_
  refine vnt ?_
  refine vc_seq' ?_
  refine vc_sr ?_
  iterate 2 refine vo ?_
  try first | refine vlb ?_ | refine vln ?_
  iterate 2 refine vo ?_
  refine vsp (fun g1 => ?_) (fun g1 => ?_)
  · iterate 3 refine vof ?_
    iterate 2 refine vo ?_
    iterate 3 refine vof ?_
    iterate 2 refine vo ?_
    iterate 5 refine vof ?_
    refine vo ?_
    refine vnt ?_
    refine vc_then ?_
    refine vc_sr ?_
    iterate 2 refine vo ?_
    refine vnt ?_
    refine vc_ret ?_
    refine thn_r ?_
    refine fin_i [(0, some 272)] rfl (fz ?_) (fz ?_)
    · trivial
    · rw [descr_n (.inl (List.eq_nil_of_length_eq_zero (by omega)))]; rfl
  · refine von ?_
    refine vocn c_spec_PiecesOk rfl rfl ?_
    refine von ?_
    iterate 2 refine vo ?_
    refine vsp (fun g2 => ?_) (fun g2 => ?_)
    · iterate 3 refine vof ?_
      iterate 2 refine vo ?_
      iterate 5 refine vof ?_
      refine vo ?_
      refine vnt ?_
      refine vc_then ?_
      refine vc_sr ?_
      iterate 2 refine vo ?_
      refine vnt ?_
      refine vc_ret ?_
      refine thn_r ?_
      refine fin_i [(0, some 272)] rfl (fz ?_) (fz ?_)
      · trivial
      · rw [descr_n (.inr (.inl g2))]; rfl
    · refine von ?_
      refine vocn c_spec_l01In rfl rfl ?_
      refine von ?_
      iterate 2 refine vo ?_
      refine vsp (fun g3 => ?_) (fun g3 => ?_)
      · iterate 5 refine vof ?_
        refine vo ?_
        refine vnt ?_
        refine vc_then ?_
        refine vc_sr ?_
        iterate 2 refine vo ?_
        refine vnt ?_
        refine vc_ret ?_
        refine thn_r ?_
        refine fin_i [(0, some 272)] rfl (fz ?_) (fz ?_)
        · trivial
        · rw [descr_n (.inr (.inr (.inl g3)))]; rfl
      · have hpl := pcs_len g2
        have hne : ¬ l = [] := fun h => by subst h; simp at g1
        have hz2 := inB_iff.1 g3
        iterate 2 refine von ?_
        first | refine vepl (j := 0) rfl ?_ | refine vptl (j := 0) rfl ?_
        refine von ?_
        refine vocn c_spec_DescOk rfl rfl ?_
        refine von ?_
        refine vo ?_
        refine vnt ?_
        refine vc_if (fun g4 => ?_) (fun g4 => ?_)
        · refine vc_sr ?_
          iterate 2 refine vo ?_
          refine vnt ?_
          refine vc_ret ?_
          refine thn_r ?_
          refine fin_i [(0, some 272)] rfl (fz ?_) (fz ?_)
          · trivial
          · rw [descr_bad (l := l) (size := size) (ck := ck) (i := 0) (by omega) g4]; rfl
        · have g4 : dOk (dAt l size ck 0) = true := g4
          refine vc_skip ?_
          refine thn ?_
          refine vc_seq' ?_
          refine vc_sr ?_
          refine vo ?_
          refine vnt ?_
          refine vc_block ?_
          refine vc_lp (σ := Nat) [0, 2] [] (fun i => [(7, .one (.hs 7)), (8, I (i : Nat))]) (fun i => [(7, .arr 89 6 ((dsF l size ck (i + 1)).map dscE))]) (fun i => i ≤ l.length ∧ ∀ q, q < i + 1 → dOk (dAt l size ck q) = true) (fun i => l.length - i) 0 rfl rfl (sub_i [(7, some 104)] (fz ?_) (fz ?_)) ?_ fun i hI => ?_
          · first | trivial | rfl
          · first | trivial | rfl | simp [dsF, dAt, dscE]
          · exact ⟨Nat.zero_le _, fun q h => by obtain rfl : q = 0 := (by omega); exact g4⟩
          refine vc_nf rfl rfl ?_
          have hdl := dsF_len l size ck (i + 1)
          refine vc_seq' ?_
          refine vc_sr ?_
          iterate 3 refine vo ?_
          try first | refine vlb ?_ | refine vln ?_
          refine vo ?_
          refine vnt ?_
          refine vc_if (fun g5 => ?_) (fun g5 => ?_)
          · refine vc_skip ?_
            refine thn ?_
            refine vc_seq' ?_
            refine vc_block ?_
            refine vc_sr ?_
            iterate 3 refine vo ?_
            try with_reducible (first | refine vep ?_ | refine vpt ?_)
            iterate 5 refine vo ?_
            try with_reducible (first | refine vep ?_ | refine vpt ?_)
            iterate 6 refine vo ?_
            refine vnt ?_
            refine vc_seq' ?_
            refine vc_sr ?_
            iterate 3 refine vo ?_
            try first | refine vlb ?_ | refine vln ?_
            refine vo ?_
            try refine vwr ?_
            refine vo ?_
            refine vnt ?_
            refine vc_if (fun g6 => ?_) (fun g6 => ?_)
            · have hfl : (if i + 1 = l.length then (1 : Int) else 0) = 1 := if_pos (by omega)
              refine vc_region ?_
              iterate 2 refine vo ?_
              refine vnt ?_
              refine vc_seq' ?_
              refine vc_sr ?_
              refine vo ?_
              refine voc c_spec_DescOk rfl rfl ?_
              refine vo ?_
              refine vnt ?_
              refine vc_if (fun g7 => ?_) (fun g7 => ?_)
              · refine vc_sr ?_
                iterate 2 refine vo ?_
                refine vnt ?_
                refine vc_ret ?_
                refine thn_r ?_
                refine inB_r ?_
                refine thn_r ?_
                refine thn_r ?_
                refine inB_r ?_
                refine thn_r ?_
                refine fin_i [(0, some 496)] rfl (fz ?_) (fz ?_)
                · trivial
                · rw [descr_bad (l := l) (size := size) (ck := ck) (i := i + 1) (by omega) (by rw [ds_at hfl]; exact g7)]; rfl
              · refine vc_skip ?_
                refine thn ?_
                refine vc_region ?_
                iterate 5 refine vo ?_
                refine vnil ?_
                refine inB_n ?_
                refine thn ?_
                refine vc_region ?_
                iterate 2 refine vo ?_
                try refine vwr ?_
                refine vo ?_
                refine vnt ?_
                refine ⟨i + 1, ?_, ?_, sub_i [(7, some 528)] (fz ?_) (fz ?_)⟩
                · exact ⟨by omega, upto_stp hI.2 (by rw [ds_at hfl]; assumption)⟩
                · omega
                · first | trivial | rfl | exact ⟨rfl, rfl⟩
                · rw [← dsF_stp]; simp [dscE, dAt, hfl]
            · have hfl : (if i + 1 = l.length then (1 : Int) else 0) = 0 := if_neg (by omega)
              refine vc_skip ?_
              refine thn ?_
              refine vc_seq' ?_
              refine vc_sr ?_
              refine vo ?_
              refine voc c_spec_DescOk rfl rfl ?_
              refine vo ?_
              refine vnt ?_
              refine vc_if (fun g8 => ?_) (fun g8 => ?_)
              · refine vc_sr ?_
                iterate 2 refine vo ?_
                refine vnt ?_
                refine vc_ret ?_
                refine thn_r ?_
                refine inB_r ?_
                refine thn_r ?_
                refine thn_r ?_
                refine inB_r ?_
                refine thn_r ?_
                refine fin_i [(0, some 496)] rfl (fz ?_) (fz ?_)
                · trivial
                · rw [descr_bad (l := l) (size := size) (ck := ck) (i := i + 1) (by omega) (by rw [ds_at hfl]; exact g8)]; rfl
              · refine vc_skip ?_
                refine thn ?_
                refine vc_region ?_
                iterate 5 refine vo ?_
                refine vnil ?_
                refine inB_n ?_
                refine thn ?_
                refine vc_region ?_
                iterate 2 refine vo ?_
                try refine vwr ?_
                refine vo ?_
                refine vnt ?_
                refine ⟨i + 1, ?_, ?_, sub_i [(7, some 528)] (fz ?_) (fz ?_)⟩
                · exact ⟨by omega, upto_stp hI.2 (by rw [ds_at hfl]; assumption)⟩
                · omega
                · first | trivial | rfl | exact ⟨rfl, rfl⟩
                · rw [← dsF_stp]; simp [dscE, dAt, hfl]
          · refine vc_exit ?_
            refine thn_x ?_
            refine thn_x ?_
            refine inB_x ?_
            refine thn ?_
            refine vc_sr ?_
            iterate 2 refine vo ?_
            refine vnt ?_
            refine vc_ret ?_
            refine fin_i [(0, some 7)] rfl (fz ?_) (fz ?_)
            · trivial
            · rw [descr_y hne g2 g3 (ds_all fun q hq => hI.2 q (by omega)), show l.length = i by omega]
end Go.Proofs.YtnikopahkjmneaaGreat
end
section
namespace Go.Proofs.YtnikopahkjmneaaGreat
open Go Go.RowKit Go.Vc
set_option linter.unusedVariables false
set_option linter.unusedSimpArgs false
set_option linter.unnecessarySimpa false
end Go.Proofs.YtnikopahkjmneaaGreat
end
section
namespace Go.Proofs.YtnikopahkjmneaaGreat
open Go Go.RowKit Go.Vc
set_option linter.unusedVariables false
set_option linter.unusedSimpArgs false
set_option linter.unnecessarySimpa false
def smA (s : ByteArray) : Int := if sumsA s + 46 ≤ s.size then sumsA s + 10 else -1
def smB (s : ByteArray) : Int := if sumsA s + 46 ≤ s.size then sumsB s else -1
end Go.Proofs.YtnikopahkjmneaaGreat
end
section
namespace Go.Proofs.YtnikopahkjmneaaGreat
open Go Go.RowKit Go.Vc
set_option linter.unusedVariables false
set_option linter.unusedSimpArgs false
set_option linter.unnecessarySimpa false
set_option maxHeartbeats 4000000 in
theorem c_impl_sumPlaces {s : ByteArray} (hs_s : s.size ≤ 1099511627776 := by first | with_reducible assumption | omega | (simp only [ByteArray.size_append, ByteArray.size_extract, strOfNums_size, List.length_cons, List.length_nil]; omega)) : Con0 Tryz.prog 96 [Z s] (.tup [I (sumsA s + 10), I (sumsB s)]) [] := by
  refine con_i Tryz.func96 Tryz.ntmps96 (t := [(0, Z s)]) rfl ?_
  refine vc_sr ?_
  iterate 2 refine vo ?_
  refine vnt ?_
  refine vc_sr ?_
  refine vo ?_
  refine vnt ?_
  refine vc_seq' ?_
  refine vc_sr ?_
  refine vo ?_
  refine voc c_impl_Get16 rfl rfl ?_
  refine vo ?_
  refine vnt ?_
  refine vc_if (fun g1 => ?_) (fun g1 => ?_)
  · refine vc_region ?_
    refine vo ?_
    refine vnt ?_
    refine vc_sr ?_
    refine vo ?_
    refine vnt ?_
    refine vc_seq' ?_
    refine vc_sr ?_
    iterate 2 refine vo ?_
    try refine vwr ?_
    iterate 3 refine vo ?_
    refine vnt ?_
    refine vc_if (fun g2 => ?_) (fun g2 => ?_)
    · refine vc_region ?_
      iterate 3 refine vo ?_
      try refine vwr ?_
      iterate 2 refine vo ?_
      try refine veq (i64_byt _ _) ?_
      refine vo ?_
      refine vnt ?_
      refine vc_sr ?_
      iterate 2 refine vo ?_
      try refine vwr ?_
      iterate 2 refine vo ?_
      try refine vwr ?_
      refine vo ?_
      refine voc c_impl_sumPlace rfl rfl ?_
      refine vo ?_
      try refine vwr ?_
      iterate 2 refine vo ?_
      refine vnt ?_
      refine vc_ret ?_
      refine fin_i [] rfl (fz ?_) trivial
      have ha : sumsA s = 18 := if_pos g1
      have hk : sumsK s = (bAt s ((18 : Int) + 9).toNat : Int) := by unfold sumsK; rw [ha]
      have hb := sumsB_bd s
      unfold sumsB at *
      rw [ha, hk] at *
      exact ⟨rfl, (wr_id (by omega) (by omega)).symm⟩
    · refine vc_skip ?_
      refine thn ?_
      refine vc_sr ?_
      iterate 2 refine vo ?_
      try refine vwr ?_
      iterate 2 refine vo ?_
      try refine vwr ?_
      refine vo ?_
      refine voc c_impl_sumPlace rfl rfl ?_
      refine vo ?_
      try refine vwr ?_
      iterate 2 refine vo ?_
      refine vnt ?_
      refine vc_ret ?_
      refine fin_i [] rfl (fz ?_) trivial
      have ha : sumsA s = 18 := if_pos g1
      have hk : sumsK s = 0 := by unfold sumsK; rw [ha, show bAt s ((18 : Int) + 9).toNat = 0 by unfold bAt; rw [dif_neg (by omega)]]; rfl
      have hb := sumsB_bd s
      unfold sumsB at *
      rw [ha, hk] at *
      exact ⟨rfl, (wr_id (by omega) (by omega)).symm⟩
  · refine vc_skip ?_
    refine thn ?_
    refine vc_sr ?_
    refine vo ?_
    refine vnt ?_
    refine vc_seq' ?_
    refine vc_sr ?_
    iterate 2 refine vo ?_
    try refine vwr ?_
    iterate 3 refine vo ?_
    refine vnt ?_
    refine vc_if (fun g3 => ?_) (fun g3 => ?_)
    · refine vc_region ?_
      iterate 3 refine vo ?_
      try refine vwr ?_
      iterate 2 refine vo ?_
      try refine veq (i64_byt _ _) ?_
      refine vo ?_
      refine vnt ?_
      refine vc_sr ?_
      iterate 2 refine vo ?_
      try refine vwr ?_
      iterate 2 refine vo ?_
      try refine vwr ?_
      refine vo ?_
      refine voc c_impl_sumPlace rfl rfl ?_
      refine vo ?_
      try refine vwr ?_
      iterate 2 refine vo ?_
      refine vnt ?_
      refine vc_ret ?_
      refine fin_i [] rfl (fz ?_) trivial
      have ha : sumsA s = 14 := if_neg g1
      have hk : sumsK s = (bAt s ((14 : Int) + 9).toNat : Int) := by unfold sumsK; rw [ha]
      have hb := sumsB_bd s
      unfold sumsB at *
      rw [ha, hk] at *
      exact ⟨rfl, (wr_id (by omega) (by omega)).symm⟩
    · refine vc_skip ?_
      refine thn ?_
      refine vc_sr ?_
      iterate 2 refine vo ?_
      try refine vwr ?_
      iterate 2 refine vo ?_
      try refine vwr ?_
      refine vo ?_
      refine voc c_impl_sumPlace rfl rfl ?_
      refine vo ?_
      try refine vwr ?_
      iterate 2 refine vo ?_
      refine vnt ?_
      refine vc_ret ?_
      refine fin_i [] rfl (fz ?_) trivial
      have ha : sumsA s = 14 := if_neg g1
      have hk : sumsK s = 0 := by unfold sumsK; rw [ha, show bAt s ((14 : Int) + 9).toNat = 0 by unfold bAt; rw [dif_neg (by omega)]]; rfl
      have hb := sumsB_bd s
      unfold sumsB at *
      rw [ha, hk] at *
      exact ⟨rfl, (wr_id (by omega) (by omega)).symm⟩
set_option maxHeartbeats 4000000 in
theorem c_spec_l22Sums {s : ByteArray} (hs_s : s.size ≤ 1099511627776 := by first | with_reducible assumption | omega | (simp only [ByteArray.size_append, ByteArray.size_extract, strOfNums_size, List.length_cons, List.length_nil]; omega)) : Con0 Tryz.prog 72 [Z s] (.tup [I (smA s), I (smB s)]) [] := by
  refine con_i Tryz.func72 Tryz.ntmps72 (t := [(0, Z s)]) rfl ?_
  refine vc_sr ?_
  iterate 2 refine vo ?_
  refine vnt ?_
  refine vc_sr ?_
  refine vo ?_
  refine vnt ?_
  refine vc_seq' ?_
  refine vc_sr ?_
  refine vo ?_
  refine voc c_spec_Get16 rfl rfl ?_
  refine vo ?_
  refine vnt ?_
  refine vc_if (fun g1 => ?_) (fun g1 => ?_)
  · refine vc_region ?_
    refine vo ?_
    refine vnt ?_
    refine vc_seq' ?_
    refine vc_sr ?_
    iterate 4 refine vo ?_
    try refine vwr ?_
    refine vo ?_
    refine vnt ?_
    refine vc_if (fun g2 => ?_) (fun g2 => ?_)
    · refine vc_sr ?_
      iterate 2 refine vo ?_
      refine vnt ?_
      refine vc_ret ?_
      refine thn_r ?_
      refine fin_i [] rfl (fz ?_) trivial
      have ha : sumsA s = 18 := if_pos g1
      unfold smA smB; rw [ha, if_neg (by omega), if_neg (by omega)]
      exact ⟨rfl, rfl⟩
    · refine vc_skip ?_
      refine thn ?_
      refine vc_seq' ?_
      refine vc_sr ?_
      iterate 3 refine vo ?_
      try refine vwr ?_
      iterate 2 refine vo ?_
      try refine veq (i64_byt _ _) ?_
      refine vo ?_
      refine vnt ?_
      refine vc_if (fun g3 => ?_) (fun g3 => ?_)
      · refine vc_sr ?_
        iterate 2 refine vo ?_
        try refine vwr ?_
        iterate 2 refine vo ?_
        try refine vwr ?_
        iterate 2 refine vo ?_
        refine vnt ?_
        refine vc_ret ?_
        refine thn_r ?_
        refine fin_i [] rfl (fz ?_) trivial
        have ha : sumsA s = 18 := if_pos g1
        unfold smA smB; rw [ha, if_pos (by omega), if_pos (by omega)]
        have hk : sumsK s = (bAt s ((18 : Int) + 9).toNat : Int) := by unfold sumsK; rw [ha]
        have hg := g3
        refine ⟨rfl, ?_⟩
        unfold sumsB sumPl
        rw [ha, hk, if_pos hg]
        try rfl
      · refine vc_skip ?_
        refine thn ?_
        refine vc_sr ?_
        iterate 2 refine vo ?_
        try refine vwr ?_
        iterate 2 refine vo ?_
        try refine vwr ?_
        iterate 2 refine vo ?_
        refine vnt ?_
        refine vc_ret ?_
        refine fin_i [] rfl (fz ?_) trivial
        have ha : sumsA s = 18 := if_pos g1
        unfold smA smB; rw [ha, if_pos (by omega), if_pos (by omega)]
        have hk : sumsK s = (bAt s ((18 : Int) + 9).toNat : Int) := by unfold sumsK; rw [ha]
        have hg := g3
        refine ⟨rfl, ?_⟩
        unfold sumsB sumPl
        rw [ha, hk, if_neg hg]
        try rfl
  · refine vc_skip ?_
    refine thn ?_
    refine vc_seq' ?_
    refine vc_sr ?_
    iterate 4 refine vo ?_
    try refine vwr ?_
    refine vo ?_
    refine vnt ?_
    refine vc_if (fun g4 => ?_) (fun g4 => ?_)
    · refine vc_sr ?_
      iterate 2 refine vo ?_
      refine vnt ?_
      refine vc_ret ?_
      refine thn_r ?_
      refine fin_i [] rfl (fz ?_) trivial
      have ha : sumsA s = 14 := if_neg g1
      unfold smA smB; rw [ha, if_neg (by omega), if_neg (by omega)]
      exact ⟨rfl, rfl⟩
    · refine vc_skip ?_
      refine thn ?_
      refine vc_seq' ?_
      refine vc_sr ?_
      iterate 3 refine vo ?_
      try refine vwr ?_
      iterate 2 refine vo ?_
      try refine veq (i64_byt _ _) ?_
      refine vo ?_
      refine vnt ?_
      refine vc_if (fun g5 => ?_) (fun g5 => ?_)
      · refine vc_sr ?_
        iterate 2 refine vo ?_
        try refine vwr ?_
        iterate 2 refine vo ?_
        try refine vwr ?_
        iterate 2 refine vo ?_
        refine vnt ?_
        refine vc_ret ?_
        refine thn_r ?_
        refine fin_i [] rfl (fz ?_) trivial
        have ha : sumsA s = 14 := if_neg g1
        unfold smA smB; rw [ha, if_pos (by omega), if_pos (by omega)]
        have hk : sumsK s = (bAt s ((14 : Int) + 9).toNat : Int) := by unfold sumsK; rw [ha]
        have hg := g5
        refine ⟨rfl, ?_⟩
        unfold sumsB sumPl
        rw [ha, hk, if_pos hg]
        try rfl
      · refine vc_skip ?_
        refine thn ?_
        refine vc_sr ?_
        iterate 2 refine vo ?_
        try refine vwr ?_
        iterate 2 refine vo ?_
        try refine vwr ?_
        iterate 2 refine vo ?_
        refine vnt ?_
        refine vc_ret ?_
        refine fin_i [] rfl (fz ?_) trivial
        have ha : sumsA s = 14 := if_neg g1
        unfold smA smB; rw [ha, if_pos (by omega), if_pos (by omega)]
        have hk : sumsK s = (bAt s ((14 : Int) + 9).toNat : Int) := by unfold sumsK; rw [ha]
        have hg := g5
        refine ⟨rfl, ?_⟩
        unfold sumsB sumPl
        rw [ha, hk, if_neg hg]
        try rfl
theorem im_sz {p : Pk} (h : p.sup = true) : p.im.size ≤ 1000 ∧ p.sc = true ∧ smA p.im = sumsA p.im + 10 ∧ smB p.im = sumsB p.im := by
  have h1 := sup_img h
  have h2 := (img_lay h).1
  refine ⟨h1.2, h1.1, ?_, ?_⟩
  · unfold smA; rw [if_pos (by omega)]
  · unfold smB; rw [if_pos (by omega)]
theorem sc_sup {p : Pk} (h : p.sc = false) : p.sup = false := by
  cases hs : p.sup with
  | false => rfl
  | true => rw [(im_sz hs).2.1] at h; cases h
theorem sc_sup2 {p : Pk} (h : p.sc = true) : p.sup = true := by
  unfold Pk.sc supC at h
  rw [Bool.and_eq_true] at h
  exact h.1
theorem tm_n {p : Pk} (h : p.sup = false) : p.tm = ⟨#[]⟩ := if_neg (by rw [h]; decide)
theorem tm_y {p : Pk} (h : p.sup = true) : p.tm = putBF (putBF p.im (sumsA p.im + 10) (word16 0)) (sumsB p.im) (word16 0) := if_pos h
set_option maxHeartbeats 4000000 in
theorem c_impl_Template {p : Pk} (hz_p : p.body.size ≤ 1099511627776 := by first | assumption | omega) : Con0 Tryz.prog 50 [.agg [V (p).dm, V (p).sm, V (p).vl, V (p).tos, V (p).id, V (p).ttl, V (p).si, V (p).di, V (p).kind, V (p).sp, V (p).dp, V (p).seq, V (p).ack, V (p).fl, V (p).win, VS (p).body]] (.tup [Z p.tm, B p.sup]) [] := by
  refine con_i Tryz.func50 Tryz.ntmps50 (t := [(0, .agg [V (p).dm, V (p).sm, V (p).vl, V (p).tos, V (p).id, V (p).ttl, V (p).si, V (p).di, V (p).kind, V (p).sp, V (p).dp, V (p).seq, V (p).ack, V (p).fl, V (p).win, VS (p).body])]) rfl ?_
  refine vc_sr ?_
  iterate 3 refine vo ?_
  refine vnt ?_
  refine vc_sr ?_
  refine vo ?_
  refine voc c_impl_BuildImage rfl rfl ?_
  iterate 5 refine vo ?_
  refine vnt ?_
  refine vc_seq' ?_
  refine vc_sr ?_
  iterate 2 refine vo ?_
  refine vnt ?_
  refine vc_if (fun g1 => ?_) (fun g1 => ?_)
  · refine vc_sr ?_
    iterate 2 refine vo ?_
    refine vnt ?_
    refine vc_ret ?_
    refine thn_r ?_
    refine fin_i [] rfl (fz ?_) trivial
    have hs : p.sup = false := sc_sup g1
    rw [tm_n hs, hs]
    trivial
  · have hs : p.sup = true := sc_sup2 g1
    obtain ⟨hz, _, ea, eb⟩ := im_sz hs
    have hz1 : (imgR p.dm p.sm p.vl p.tos p.id p.ttl p.si p.di p.kind p.sp p.dp p.seq p.ack p.fl p.win p.body).size ≤ 1000 := hz
    have hz2 : (imgR p.dm p.sm p.vl p.tos p.id p.ttl p.si p.di p.kind p.sp p.dp p.seq p.ack p.fl p.win p.body).size ≤ 1099511627776 := by omega
    refine vc_skip ?_
    refine thn ?_
    refine vc_sr ?_
    refine vo ?_
    refine voc c_impl_sumPlaces rfl rfl ?_
    iterate 5 refine vo ?_
    refine vnt ?_
    refine vc_sr ?_
    iterate 2 refine vo ?_
    refine voc c_impl_Word16 rfl rfl ?_
    refine vzs (word16_le _) fun z1 => ?_
    refine voc c_impl_PutBytes rfl rfl ?_
    refine vzs (Nat.le_of_eq (putBF_le _ _ _)) fun z2 => ?_
    refine vo ?_
    refine voc c_impl_Word16 rfl rfl ?_
    refine vzs (word16_le _) fun z3 => ?_
    refine voc c_impl_PutBytes rfl rfl ?_
    refine vzs (Nat.le_of_eq (putBF_le _ _ _)) fun z4 => ?_
    iterate 2 refine vo ?_
    refine vnt ?_
    refine vc_ret ?_
    refine fin_i [] rfl (fz ?_) trivial
    rw [tm_y hs, hs]
    first | exact ⟨rfl, rfl⟩ | (rw [← ea, ← eb]; exact ⟨rfl, rfl⟩)
set_option maxHeartbeats 4000000 in
theorem c_spec_Template {p : Pk} (hz_p : p.body.size ≤ 1099511627776 := by first | assumption | omega) : Con0 Tryz.prog 26 [.agg [V (p).dm, V (p).sm, V (p).vl, V (p).tos, V (p).id, V (p).ttl, V (p).si, V (p).di, V (p).kind, V (p).sp, V (p).dp, V (p).seq, V (p).ack, V (p).fl, V (p).win, VS (p).body]] (.tup [Z p.tm, B p.sup]) [] := by
  refine con_i Tryz.func26 Tryz.ntmps26 (t := [(0, .agg [V (p).dm, V (p).sm, V (p).vl, V (p).tos, V (p).id, V (p).ttl, V (p).si, V (p).di, V (p).kind, V (p).sp, V (p).dp, V (p).seq, V (p).ack, V (p).fl, V (p).win, VS (p).body])]) rfl ?_
  refine vc_sr ?_
  iterate 3 refine vo ?_
  refine vnt ?_
  refine vc_sr ?_
  refine vo ?_
  refine voc c_spec_BuildImage rfl rfl ?_
  iterate 5 refine vo ?_
  refine vnt ?_
  refine vc_seq' ?_
  refine vc_sr ?_
  iterate 2 refine vo ?_
  refine vnt ?_
  refine vc_if (fun g1 => ?_) (fun g1 => ?_)
  · refine vc_sr ?_
    iterate 2 refine vo ?_
    refine vnt ?_
    refine vc_ret ?_
    refine thn_r ?_
    refine fin_i [] rfl (fz ?_) trivial
    have hs : p.sup = false := sc_sup g1
    rw [tm_n hs, hs]
    trivial
  · have hs : p.sup = true := sc_sup2 g1
    obtain ⟨hz, _, ea, eb⟩ := im_sz hs
    have hz1 : (imgR p.dm p.sm p.vl p.tos p.id p.ttl p.si p.di p.kind p.sp p.dp p.seq p.ack p.fl p.win p.body).size ≤ 1000 := hz
    have hz2 : (imgR p.dm p.sm p.vl p.tos p.id p.ttl p.si p.di p.kind p.sp p.dp p.seq p.ack p.fl p.win p.body).size ≤ 1099511627776 := by omega
    refine vc_skip ?_
    refine thn ?_
    refine vc_sr ?_
    refine vo ?_
    refine voc c_spec_l22Sums rfl rfl ?_
    iterate 5 refine vo ?_
    refine vnt ?_
    refine vc_sr ?_
    iterate 2 refine vo ?_
    refine voc c_spec_Word16 rfl rfl ?_
    refine vzs (word16_le _) fun z1 => ?_
    refine voc c_spec_PutBytes rfl rfl ?_
    refine vzs (Nat.le_of_eq (putBF_le _ _ _)) fun z2 => ?_
    refine vo ?_
    refine voc c_spec_Word16 rfl rfl ?_
    refine vzs (word16_le _) fun z3 => ?_
    refine voc c_spec_PutBytes rfl rfl ?_
    refine vzs (Nat.le_of_eq (putBF_le _ _ _)) fun z4 => ?_
    iterate 2 refine vo ?_
    refine vnt ?_
    refine vc_ret ?_
    refine fin_i [] rfl (fz ?_) trivial
    rw [tm_y hs, hs]
    first | exact ⟨rfl, rfl⟩ | (rw [← ea, ← eb]; exact ⟨rfl, rfl⟩)
end Go.Proofs.YtnikopahkjmneaaGreat
end
section
namespace Go.Proofs.YtnikopahkjmneaaGreat
open Go Go.RowKit Go.Vc
set_option linter.unusedVariables false
set_option linter.unusedSimpArgs false
set_option linter.unnecessarySimpa false
set_option maxHeartbeats 4000000 in
theorem c_impl_DescribePacket_n {l : List Pc} {size ck : Int} (hl_l : l.length ≤ 1099511627776 := by first | assumption | omega) (hn : descrB l size ck = false) : Con0 Tryz.prog 55 [.one (.sl 2 (l.map pcE)), I size, I ck] (.one .nil) [] := by
  refine con_i Tryz.func55 Tryz.ntmps55 (t := [(0, .one (.sl 2 (l.map pcE))), (1, I size), (2, I ck)]) rfl ?_
  refine vc_sr ?_
  refine vo ?_
  refine vnt ?_
  refine vc_seq' ?_
  refine vc_sr ?_
  iterate 2 refine vo ?_
  try first | refine vlb ?_ | refine vln ?_
  iterate 2 refine vo ?_
  refine vsp (fun g1 => ?_) (fun g1 => ?_)
  · iterate 3 refine vof ?_
    iterate 2 refine vo ?_
    iterate 3 refine vof ?_
    refine vo ?_
    refine vnt ?_
    refine vc_then ?_
    refine vc_sr ?_
    refine vo ?_
    refine vnt ?_
    refine vc_ret ?_
    refine thn_r ?_
    refine fin_i [] rfl (fz ?_) (fz ?_) <;> first | trivial | rfl
  · refine von ?_
    refine vocn c_impl_PiecesOk rfl rfl ?_
    refine von ?_
    iterate 2 refine vo ?_
    refine vsp (fun g2 => ?_) (fun g2 => ?_)
    · iterate 3 refine vof ?_
      refine vo ?_
      refine vnt ?_
      refine vc_then ?_
      refine vc_sr ?_
      refine vo ?_
      refine vnt ?_
      refine vc_ret ?_
      refine thn_r ?_
      refine fin_i [] rfl (fz ?_) (fz ?_) <;> first | trivial | rfl
    · refine von ?_
      refine vocn c_impl_between rfl rfl ?_
      refine von ?_
      refine vo ?_
      refine vnt ?_
      refine vc_if (fun g3 => ?_) (fun g3 => ?_)
      · refine vc_sr ?_
        refine vo ?_
        refine vnt ?_
        refine vc_ret ?_
        refine thn_r ?_
        refine fin_i [] rfl (fz ?_) (fz ?_) <;> first | trivial | rfl
      · have hpl := pcs_len g2
        have hne : ¬ l = [] := fun h => by subst h; simp at g1
        have hz2 := inB_iff.1 g3
        refine vc_skip ?_
        refine thn ?_
        refine vc_sr ?_
        iterate 5 refine vo ?_
        refine vnt ?_
        refine vc_seq' ?_
        refine vc_sr ?_
        iterate 2 refine vo ?_
        try first | refine vlb ?_ | refine vln ?_
        refine vo ?_
        refine vnt ?_
        refine vc_block ?_
        refine vc_lp (σ := Nat) [0, 2, 30, 31] [] (fun i => [(7, .one (.hs 7)), (32, I (i : Nat))]) (fun i => [(7, .arr 89 6 ((dsF l size ck (i + 1)).map dscE))]) (fun i => i ≤ l.length) (fun i => l.length - i) 0 rfl rfl (sub_i [(7, some 232)] (fz ?_) (fz ?_)) ?_ fun i hI => ?_
        · first | trivial | rfl
        · first | trivial | rfl | simp [dsF, dAt, dscE]
        · exact Nat.zero_le _
        refine vc_nf rfl rfl ?_
        have hdl := dsF_len l size ck (i + 1)
        refine vc_sr ?_
        refine vo ?_
        refine vnt ?_
        refine vc_seq' ?_
        refine vc_if (fun g4 => ?_) (fun g4 => ?_)
        · refine vc_skip ?_
          refine thn ?_
          refine vc_seq' ?_
          refine vc_block ?_
          refine vc_sr ?_
          iterate 2 refine vo ?_
          try with_reducible (first | refine vep ?_ | refine vpt ?_)
          iterate 4 refine vo ?_
          refine vnt ?_
          refine vc_sr ?_
          iterate 8 refine vo ?_
          refine vnt ?_
          refine vc_seq' ?_
          refine vc_sr ?_
          iterate 3 refine vo ?_
          try first | refine vlb ?_ | refine vln ?_
          refine vo ?_
          try refine vwr ?_
          refine vo ?_
          refine vnt ?_
          refine vc_if (fun g5 => ?_) (fun g5 => ?_)
          · have hfl : (if i + 1 = l.length then (1 : Int) else 0) = 1 := if_pos (by omega)
            refine vc_region ?_
            iterate 2 refine vo ?_
            refine vnt ?_
            refine vc_region ?_
            iterate 5 refine vo ?_
            refine vnil ?_
            refine inB_n ?_
            refine thn ?_
            refine vc_region ?_
            refine vo ?_
            try refine vwr ?_
            refine vo ?_
            refine vnt ?_
            refine ⟨i + 1, ?_, ?_, sub_i [(7, some 416)] (fz ?_) (fz ?_)⟩
            · first | omega | exact ⟨by omega, by assumption⟩
            · omega
            · first | trivial | rfl | exact ⟨rfl, rfl⟩
            · rw [← dsF_stp]; simp [dscE, dAt, hfl]
          · have hfl : (if i + 1 = l.length then (1 : Int) else 0) = 0 := if_neg (by omega)
            refine vc_skip ?_
            refine thn ?_
            refine vc_region ?_
            iterate 5 refine vo ?_
            refine vnil ?_
            refine inB_n ?_
            refine thn ?_
            refine vc_region ?_
            refine vo ?_
            try refine vwr ?_
            refine vo ?_
            refine vnt ?_
            refine ⟨i + 1, ?_, ?_, sub_i [(7, some 416)] (fz ?_) (fz ?_)⟩
            · first | omega | exact ⟨by omega, by assumption⟩
            · omega
            · first | trivial | rfl | exact ⟨rfl, rfl⟩
            · rw [← dsF_stp]; simp [dscE, dAt, hfl]
        · have hil : i = l.length := by omega
          subst hil
          refine vc_exit ?_
          refine thn_x ?_
          refine thn_x ?_
          refine inB_x ?_
          refine thn ?_
          refine vc_seq' ?_
          refine vc_sr ?_
          iterate 2 refine vo ?_
          try first | refine vlb ?_ | refine vln ?_
          refine vo ?_
          refine vnt ?_
          refine vc_block ?_
          refine vc_lp (σ := Nat) [7, 54, 55] [7] (fun j => [(56, I (j : Nat))]) (fun j => []) (fun j => j ≤ l.length + 1 ∧ ∀ q, q < j → dOk (dAt l size ck q) = true) (fun j => l.length + 1 - j) 0 rfl rfl (sub_i [] (fz ?_) (fz ?_)) ?_ fun j hJ => ?_
          · first | trivial | rfl
          · first | trivial | rfl
          · exact ⟨Nat.zero_le _, fun q h => by omega⟩
          refine vc_nf rfl rfl ?_
          have hda : j < l.length + 1 → at' (dsF l size ck (l.length + 1)) j = dAt l size ck j := fun h => dsF_at h
          have hdl := dsF_len l size ck (l.length + 1)
          refine vc_sr ?_
          refine vo ?_
          refine vnt ?_
          refine vc_seq' ?_
          refine vc_if (fun g6 => ?_) (fun g6 => ?_)
          · refine vc_skip ?_
            refine thn ?_
            refine vc_seq' ?_
            refine vc_block ?_
            refine vc_sr ?_
            refine vo ?_
            try with_reducible (first | refine vep ?_ | refine vpt ?_)
            iterate 3 refine vo ?_
            refine vnt ?_
            refine vc_sr ?_
            refine vo ?_
            refine voc c_impl_DescOk rfl rfl ?_
            refine vo ?_
            refine vnt ?_
            refine vc_if (fun g7 => ?_) (fun g7 => ?_)
            · refine vc_sr ?_
              refine vo ?_
              refine vnt ?_
              refine vc_ret ?_
              refine inB_r ?_
              refine thn_r ?_
              refine thn_r ?_
              refine inB_r ?_
              refine thn_r ?_
              refine fin_i [] rfl (fz ?_) (fz ?_) <;> first | trivial | rfl
            · refine vc_skip ?_
              refine inB_n ?_
              refine thn ?_
              refine vc_region ?_
              refine vo ?_
              try refine vwr ?_
              refine vo ?_
              refine vnt ?_
              refine ⟨j + 1, ?_, ?_, sub_i [] (fz ?_) (fz ?_)⟩
              · exact ⟨by omega, upto_stp hJ.2 (by rw [← hda (by omega)]; assumption)⟩
              · omega
              · first | trivial | rfl | exact ⟨rfl, rfl⟩
              · first | trivial | rfl
          · refine vc_exit ?_
            refine thn_x ?_
            refine thn_x ?_
            refine inB_x ?_
            refine thn ?_
            refine vc_sr ?_
            iterate 2 refine vo ?_
            refine vnt ?_
            refine vc_ret ?_
            have hb : descrB l size ck = true := by unfold descrB; rw [decide_eq_false hne, g2, g3, ds_all fun q hq => hJ.2 q (by omega)]; rfl
            rw [hn] at hb; cases hb
set_option maxHeartbeats 4000000 in
theorem c_impl_DescribePacket_0 {size ck : Int} : Con0 Tryz.prog 55 [.one .nil, I size, I ck] (.one .nil) [] := by
  refine con_i Tryz.func55 Tryz.ntmps55 (t := [(0, .one .nil), (1, I size), (2, I ck)]) rfl ?_
  refine vc_sr ?_
  refine vo ?_
  refine vnt ?_
  refine vc_seq' ?_
  refine vc_sr ?_
  iterate 2 refine vo ?_
  try first | refine vlb ?_ | refine vln ?_
  iterate 2 refine vo ?_
  refine vsp (fun g1 => ?_) (fun g1 => ?_)
  · iterate 3 refine vof ?_
    iterate 2 refine vo ?_
    iterate 3 refine vof ?_
    refine vo ?_
    refine vnt ?_
    refine vc_then ?_
    refine vc_sr ?_
    refine vo ?_
    refine vnt ?_
    refine vc_ret ?_
    refine thn_r ?_
    refine fin_i [] rfl (fz ?_) (fz ?_) <;> first | trivial | rfl
  · exact absurd trivial g1
set_option maxHeartbeats 4000000 in
theorem c_impl_SendPacket {l : List Mp} {ps : Pg} {d b s h t pb pz pc nx size cut : Int} {fr : List Int} {ws : List Sn} {p : Pk} {r : TxR} (hr : sdF l ps d b s h t pb pz pc fr ws nx p size cut = r) (hl : l.length ≤ 1099511627776 := by first | with_reducible assumption | omega) (hp : ps.length ≤ 1099511627776 := by first | with_reducible assumption | omega) (hl_fr : fr.length ≤ 100000000 := by first | with_reducible assumption | omega) (hl_ws : ws.length ≤ 100000000 := by first | with_reducible assumption | omega) (hz_ws : (bufsF ws).length ≤ 100000000 := by first | with_reducible assumption | omega) (hz_p : p.body.size ≤ 1099511627776 := by first | assumption | omega) : Con0 Tryz.prog 13 [.one (.sl 4 (l.map mpE)), .agg [.sl 1 (ps.map strE)], I d, .agg [V b, V s, V h, V t, V pb, V pz, V pc, .sl 1 (fr.map intE), .rd (snQ (ws.map snE)), V nx], .agg [V (p).dm, V (p).sm, V (p).vl, V (p).tos, V (p).id, V (p).ttl, V (p).si, V (p).di, V (p).kind, V (p).sp, V (p).dp, V (p).seq, V (p).ack, V (p).fl, V (p).win, VS (p).body], I size, I cut] (.tup [.agg [.hs 0], .agg [V b, V s, V h, V r.2.1, V pb, V pz, V pc, .hs 1, .hs 2, V r.2.2.2.2.1], B r.2.2.2.2.2]) [(0, .arr 9 1 (r.1.map strE)), (1, .arr 3 1 (r.2.2.1.map intE)), (2, .own (sntOw 93 3 (r.2.2.2.1.map snE)))] := by
  refine con_i Tryz.func13 Tryz.ntmps13 (t := [(0, .one (.sl 4 (l.map mpE))), (1, .agg [.sl 1 (ps.map strE)]), (2, I d), (3, .agg [V b, V s, V h, V t, V pb, V pz, V pc, .sl 1 (fr.map intE), .rd (snQ (ws.map snE)), V nx]), (4, .agg [V (p).dm, V (p).sm, V (p).vl, V (p).tos, V (p).id, V (p).ttl, V (p).si, V (p).di, V (p).kind, V (p).sp, V (p).dp, V (p).seq, V (p).ack, V (p).fl, V (p).win, VS (p).body]), (5, I size), (6, I cut)]) rfl ?_
  refine vc_sr ?_
  iterate 6 refine vo ?_
  refine vnt ?_
  refine vc_sr ?_
  refine vo ?_
  refine voc c_impl_copyMemory rfl rfl ?_
  refine vo ?_
  refine voc c_impl_copyTx rfl rfl ?_
  iterate 4 refine vo ?_
  refine vnt ?_
  refine vc_seq' ?_
  refine vc_sr ?_
  refine vo ?_
  refine voc c_impl_TxOk rfl rfl ?_
  iterate 2 refine vo ?_
  refine vsp (fun g1 => ?_) (fun g1 => ?_)
  · iterate 3 refine vof ?_
    iterate 2 refine vo ?_
    iterate 6 refine vof ?_
    iterate 2 refine vo ?_
    iterate 3 refine vof ?_
    refine vo ?_
    refine vnt ?_
    refine vc_then ?_
    refine vc_sr ?_
    iterate 5 refine vo ?_
    refine vnt ?_
    refine vc_ret ?_
    refine thn_r ?_
    have hb : sdB l ps d b s h t pb pz pc fr ws nx p size cut = false := by unfold sdB; rw [g1]; rfl
    rw [sd_no hb] at hr
    subst hr
    refine fin_i [(0, some 272), (1, some 288), (2, some 289)] rfl (fz ?_) (fz ?_) <;> first | trivial | rfl | exact ⟨rfl, rfl⟩ | exact ⟨rfl, rfl, rfl⟩ | trace_state
  · obtain ⟨tx1, tx2, tx3, tx4, tx5⟩ := txOk_facts g1
    obtain ⟨tx6, tx7, tx8⟩ := txS_facts tx4
    obtain ⟨hs_, rb0, rb1, rs0, rs1, rh0, rh1, rt0, rt1, ru1, ru0⟩ := ringOk_facts tx1
    obtain ⟨pb0, pb1, pz0, pz1, pc0, pc1, hkk⟩ := poolB_facts tx2
    have hnx := inB_iff.1 tx3
    refine von ?_
    refine vocn c_impl_SuperOk rfl rfl ?_
    refine von ?_
    iterate 2 refine vo ?_
    refine vsp (fun g2 => ?_) (fun g2 => ?_)
    · have g2 : p.sup = false := g2
      iterate 6 refine vof ?_
      iterate 2 refine vo ?_
      iterate 3 refine vof ?_
      refine vo ?_
      refine vnt ?_
      refine vc_then ?_
      refine vc_sr ?_
      iterate 5 refine vo ?_
      refine vnt ?_
      refine vc_ret ?_
      refine thn_r ?_
      have hb : sdB l ps d b s h t pb pz pc fr ws nx p size cut = false := by unfold sdB; rw [g2]; simp
      rw [sd_no hb] at hr
      subst hr
      refine fin_i [(0, some 272), (1, some 288), (2, some 289)] rfl (fz ?_) (fz ?_) <;> first | trivial | rfl | exact ⟨rfl, rfl⟩ | exact ⟨rfl, rfl, rfl⟩ | trace_state
    · have g2 : p.sup = true := g2
      obtain ⟨tz0, tz1⟩ := tm_sz g2
      iterate 4 refine von ?_
      refine vocn c_impl_between rfl rfl ?_
      refine von ?_
      iterate 2 refine vo ?_
      refine vsp (fun g3 => ?_) (fun g3 => ?_)
      · iterate 3 refine vof ?_
        refine vo ?_
        refine vnt ?_
        refine vc_then ?_
        refine vc_sr ?_
        iterate 5 refine vo ?_
        refine vnt ?_
        refine vc_ret ?_
        refine thn_r ?_
        have hb : sdB l ps d b s h t pb pz pc fr ws nx p size cut = false := by unfold sdB; rw [g3]; simp
        rw [sd_no hb] at hr
        subst hr
        refine fin_i [(0, some 272), (1, some 288), (2, some 289)] rfl (fz ?_) (fz ?_) <;> first | trivial | rfl | exact ⟨rfl, rfl⟩ | exact ⟨rfl, rfl, rfl⟩ | trace_state
      · refine von ?_
        refine vocn c_impl_between rfl rfl ?_
        refine von ?_
        refine vo ?_
        refine vnt ?_
        refine vc_if (fun g4 => ?_) (fun g4 => ?_)
        · refine vc_sr ?_
          iterate 5 refine vo ?_
          refine vnt ?_
          refine vc_ret ?_
          refine thn_r ?_
          have hb : sdB l ps d b s h t pb pz pc fr ws nx p size cut = false := by unfold sdB; rw [g4]; simp
          rw [sd_no hb] at hr
          subst hr
          refine fin_i [(0, some 272), (1, some 288), (2, some 289)] rfl (fz ?_) (fz ?_) <;> first | trivial | rfl | exact ⟨rfl, rfl⟩ | exact ⟨rfl, rfl, rfl⟩ | trace_state
        · have hc3 := inB_iff.1 g3
          obtain ⟨nb0, nb1, nb2, nb3⟩ := sdN_bd (T := p.tm) (cut := cut) (by omega) (by omega)
          refine vc_skip ?_
          refine thn ?_
          refine vc_sr ?_
          refine vo ?_
          refine voc c_impl_Template rfl rfl ?_
          iterate 5 refine vo ?_
          refine vnt ?_
          refine vc_sr ?_
          iterate 4 refine vo ?_
          try refine vwr ?_
          refine vo ?_
          try refine vwr ?_
          iterate 2 refine vo ?_
          try refine veq (IntWalk.i64_quo _ _ (by omega)) ?_
          refine veq (show _ = sdN p.tm cut from rfl) ?_
          refine vo ?_
          refine vnt ?_
          refine vc_seq' ?_
          refine vc_sr ?_
          iterate 3 refine vo ?_
          refine vsp (fun g5 => ?_) (fun g5 => ?_)
          · iterate 6 refine vof ?_
            iterate 2 refine vo ?_
            iterate 9 refine vof ?_
            refine vo ?_
            refine vnt ?_
            refine vc_then ?_
            refine vc_sr ?_
            iterate 5 refine vo ?_
            refine vnt ?_
            refine vc_ret ?_
            refine thn_r ?_
            have hb : sdB l ps d b s h t pb pz pc fr ws nx p size cut = false := by unfold sdB; rw [decide_eq_false (show ¬ sdN p.tm cut ≤ 16 by omega)]; simp
            rw [sd_no hb] at hr
            subst hr
            refine fin_i [(0, some 272), (1, some 288), (2, some 289)] rfl (fz ?_) (fz ?_) <;> first | trivial | rfl | exact ⟨rfl, rfl⟩ | exact ⟨rfl, rfl, rfl⟩ | trace_state
          · iterate 2 refine von ?_
            try refine vwr ?_
            iterate 2 refine von ?_
            refine vocn c_impl_RingFree rfl rfl ?_
            refine von ?_
            iterate 2 refine vo ?_
            refine vsp (fun g6 => ?_) (fun g6 => ?_)
            · iterate 9 refine vof ?_
              refine vo ?_
              refine vnt ?_
              refine vc_then ?_
              refine vc_sr ?_
              iterate 5 refine vo ?_
              refine vnt ?_
              refine vc_ret ?_
              refine thn_r ?_
              have hb : sdB l ps d b s h t pb pz pc fr ws nx p size cut = false := by unfold sdB; rw [decide_eq_false (show ¬ sdN p.tm cut + 1 ≤ freeF b s h t by omega)]; simp
              rw [sd_no hb] at hr
              subst hr
              refine fin_i [(0, some 272), (1, some 288), (2, some 289)] rfl (fz ?_) (fz ?_) <;> first | trivial | rfl | exact ⟨rfl, rfl⟩ | exact ⟨rfl, rfl, rfl⟩ | trace_state
            · refine von ?_
              refine vocn (c_impl_slotsWaiting (h1 := tx6) (h2 := by omega)) rfl rfl ?_
              iterate 2 refine von ?_
              try refine vwr ?_
              refine von ?_
              try refine vwr ?_
              iterate 4 refine von ?_
              refine vo ?_
              refine vnt ?_
              refine vc_if (fun g7 => ?_) (fun g7 => ?_)
              · refine vc_sr ?_
                iterate 5 refine vo ?_
                refine vnt ?_
                refine vc_ret ?_
                refine thn_r ?_
                have hb : sdB l ps d b s h t pb pz pc fr ws nx p size cut = false := by unfold sdB; rw [decide_eq_false (show ¬ slotsF ws + sdN p.tm cut + 1 ≤ s by omega)]; simp
                rw [sd_no hb] at hr
                subst hr
                refine fin_i [(0, some 272), (1, some 288), (2, some 289)] rfl (fz ?_) (fz ?_) <;> first | trivial | rfl | exact ⟨rfl, rfl⟩ | exact ⟨rfl, rfl, rfl⟩ | trace_state
              · refine vc_skip ?_
                refine thn ?_
                refine vc_sr ?_
                refine vo ?_
                refine voc c_impl_copyTx rfl rfl ?_
                iterate 2 refine vo ?_
                refine vnt ?_
                refine vc_sr ?_
                iterate 3 refine vo ?_
                refine voc c_impl_TakeBuffers rfl rfl ?_
                iterate 8 refine vo ?_
                refine vnt ?_
                refine vc_seq' ?_
                refine vc_sr ?_
                iterate 2 refine vo ?_
                refine vnt ?_
                refine vc_if (fun g8 => ?_) (fun g8 => ?_)
                · refine vc_sr ?_
                  iterate 5 refine vo ?_
                  refine vnt ?_
                  refine vc_ret ?_
                  refine thn_r ?_
                  have hb : sdB l ps d b s h t pb pz pc fr ws nx p size cut = false := by unfold sdB; rw [g8]; simp
                  rw [sd_no hb] at hr
                  subst hr
                  refine fin_i [(0, some 272), (1, some 288), (2, some 289)] rfl (fz ?_) (fz ?_) <;> first | trivial | rfl | exact ⟨rfl, rfl⟩ | exact ⟨rfl, rfl, rfl⟩ | trace_state
                · have hkl : 0 < (sdKs pb pz pc fr p.tm cut).length := by have := takeL_len g8; unfold sdKs; omega
                  have hkl2 : (sdKs pb pz pc fr p.tm cut).length ≤ 16 := by have := takeL_len g8; unfold sdKs; omega
                  have hpl2 : (sdPc pb pz pc fr p.tm cut).length ≤ 16 := by rw [sdPc_len]; exact hkl2
                  have hwl : (sdW l d pb pz pc fr p.tm cut (sdKs pb pz pc fr p.tm cut) 0 ps).1.length = ps.length := sdW_ln _ _ _
                  refine vc_skip ?_
                  refine thn ?_
                  refine vc_sr ?_
                  iterate 3 refine vo ?_
                  refine vnt ?_
                  refine vc_sr ?_
                  iterate 2 refine vo ?_
                  refine voc c_impl_copyMemory rfl rfl ?_
                  iterate 6 refine vo ?_
                  rcases Bool.eq_false_or_eq_true ((sdWr l ps d pb pz pc fr p.tm cut).2) with q1 | q1
                  · refine voc (c_impl_fillBuffers_y (ks := sdKs pb pz pc fr p.tm cut) (h0 := by omega) (h1 := by omega) (hy := q1) (hne := hkl)) rfl rfl ?_
                    iterate 8 refine vo ?_
                    refine vnt ?_
                    refine vc_sr ?_
                    iterate 4 refine vo ?_
                    rcases Bool.eq_false_or_eq_true (descrB (sdPc pb pz pc fr p.tm cut) size nx) with q2 | q2
                    · refine voc (c_impl_DescribePacket (l := sdPc pb pz pc fr p.tm cut)) rfl rfl ?_
                      generalize hD : descrF (sdPc pb pz pc fr p.tm cut) size nx = D
                      have hdl : (D.length : Int) = sdN p.tm cut + 1 := by rw [← hD, descr_len q2, sdPc_len]; have := takeL_len g8; unfold sdKs; omega
                      refine vo ?_
                      refine vnt ?_
                      refine vc_seq' ?_
                      refine vc_sr ?_
                      iterate 3 refine vo ?_
                      refine von ?_
                      first | refine vqnf ?_ | refine vqnt ?_
                      refine vo ?_
                      refine vnt ?_
                      refine vc_else ?_
                      refine vc_skip ?_
                      refine thn ?_
                      refine vc_sr ?_
                      iterate 2 refine vo ?_
                      refine vnt ?_
                      refine vc_seq' ?_
                      refine vc_sr ?_
                      iterate 2 refine vo ?_
                      try first | refine vlb ?_ | refine vln ?_
                      refine vo ?_
                      refine vnt ?_
                      refine vc_block ?_
                      refine vc_lp (σ := Nat) [0, 2, 10, 14, 15, 17, 18, 22, 24, 26, 28, 139, 140] [80, 112, 120, 136, 144, 176, 208, 272, 288, 289, 768, 769, 808, 809, 968, 1032] (fun j => [(29, .one (.hs 7)), (141, I (j : Nat))]) (fun j => [(7, .arr 9 1 ((encL (D.take j)).map strE))]) (fun j => j ≤ D.length) (fun j => D.length - j) 0 rfl rfl (sub_i [(7, some 1104)] (fz ?_) (fz ?_)) ?_ fun j hJ => ?_
                      · first | trivial | rfl | exact ⟨rfl, rfl⟩ | exact ⟨rfl, rfl, rfl⟩ | trace_state
                      · first | trivial | rfl | exact ⟨rfl, rfl⟩ | exact ⟨rfl, rfl, rfl⟩ | trace_state
                      · exact Nat.zero_le _
                      refine vc_nf rfl rfl ?_
                      have hel : (encL (D.take j)).length ≤ j := by rw [encL_len, List.length_take]; omega
                      refine vc_sr ?_
                      refine vo ?_
                      refine vnt ?_
                      refine vc_seq' ?_
                      refine vc_if (fun g9 => ?_) (fun g9 => ?_)
                      · refine vc_skip ?_
                        refine thn ?_
                        refine vc_seq' ?_
                        refine vc_block ?_
                        refine vc_sr ?_
                        refine vo ?_
                        try with_reducible (first | refine vep ?_ | refine vpt ?_)
                        iterate 3 refine vo ?_
                        refine vnt ?_
                        refine vc_region ?_
                        iterate 2 refine vo ?_
                        refine voc c_impl_EncodeDesc rfl rfl ?_
                        iterate 3 refine vo ?_
                        refine vnil ?_
                        refine inB_n ?_
                        refine thn ?_
                        refine vc_region ?_
                        refine vo ?_
                        try refine vwr ?_
                        refine vo ?_
                        refine vnt ?_
                        refine ⟨j + 1, by omega, by omega, sub_i [(7, some 1192)] (fz ?_) (fz ?_)⟩
                        · first | trivial | rfl | simp
                        · first | exact (encL_stp g9).symm | trace_state
                      · have hez := encL_sz (D.take j)
                        have hel : (encL (D.take j)).length ≤ j := by rw [encL_len, List.length_take]; omega
                        refine vc_exit ?_
                        refine thn_x ?_
                        refine thn_x ?_
                        refine inB_x ?_
                        refine thn ?_
                        refine vc_sr ?_
                        iterate 6 refine vo ?_
                        refine voc c_impl_RingPutAll rfl rfl ?_
                        generalize hRR : rpaF l (sdW l d pb pz pc fr p.tm cut (sdKs pb pz pc fr p.tm cut) 0 ps).1 d b s h t (encL (D.take j)) = R
                        iterate 8 refine vo ?_
                        refine vnt ?_
                        refine vc_seq' ?_
                        refine vc_sr ?_
                        iterate 2 refine vo ?_
                        refine vnt ?_
                        refine vc_if (fun g10 => ?_) (fun g10 => ?_)
                        · refine vc_sr ?_
                          iterate 5 refine vo ?_
                          refine vnt ?_
                          refine vc_ret ?_
                          refine thn_r ?_
                          have hR : sdRg l ps d b s h t pb pz pc fr nx p.tm size cut = R := by unfold sdRg; rw [hD]; rw [encL_end g9] at hRR; exact hRR
                          have hb : sdB l ps d b s h t pb pz pc fr ws nx p size cut = false := by unfold sdB; rw [hR, g10]; simp
                          rw [sd_no hb] at hr
                          subst hr
                          refine fin_i [(0, some 272), (1, some 288), (2, some 289)] rfl (fz ?_) (fz ?_) <;> first | trivial | rfl | exact ⟨rfl, rfl⟩ | exact ⟨rfl, rfl, rfl⟩ | trace_state
                        · refine vc_skip ?_
                          refine thn ?_
                          refine vc_sr ?_
                          iterate 3 refine vo ?_
                          refine vnt ?_
                          refine vc_sr ?_
                          iterate 6 refine vo ?_
                          try first | refine vlb ?_ | refine vln ?_
                          iterate 2 refine vo ?_
                          refine vqb ?_
                          refine vqa ?_
                          iterate 2 refine vo ?_
                          refine vnt ?_
                          refine vc_sr ?_
                          iterate 3 refine vo ?_
                          try refine vwr ?_
                          refine vo ?_
                          try refine veq (Int.tmod_eq_emod_of_nonneg (by omega)) ?_
                          iterate 2 refine vo ?_
                          refine vnt ?_
                          refine vc_sr ?_
                          iterate 5 refine vo ?_
                          refine vnt ?_
                          refine vc_ret ?_
                          have hR : sdRg l ps d b s h t pb pz pc fr nx p.tm size cut = R := by unfold sdRg; rw [hD]; rw [encL_end g9] at hRR; exact hRR
                          rw [sd_yes g1 g2 g3 g4 (by omega) (by omega) (by omega) g8 q1 q2 hR g10] at hr
                          subst hr
                          refine fin_i [(0, some 1264), (1, some 808), (2, some 1416)] rfl (fz ?_) (fz ?_)
                          · first | trivial | rfl | exact ⟨rfl, rfl⟩ | trace_state
                          · rw [hdl]; first | trivial | rfl | exact ⟨rfl, rfl⟩ | exact ⟨rfl, rfl, rfl⟩ | (rw [List.map_append]; first | rfl | exact ⟨rfl, rfl, rfl⟩) | trace_state
                    · refine voc (c_impl_DescribePacket_n (l := sdPc pb pz pc fr p.tm cut) (hn := q2)) rfl rfl ?_
                      refine vo ?_
                      refine vnt ?_
                      refine vc_seq' ?_
                      refine vc_sr ?_
                      iterate 3 refine vo ?_
                      refine von ?_
                      first | refine vqnf ?_ | refine vqnt ?_
                      refine vo ?_
                      refine vnt ?_
                      refine vc_then ?_
                      refine vc_sr ?_
                      iterate 5 refine vo ?_
                      refine vnt ?_
                      refine vc_ret ?_
                      refine thn_r ?_
                      have hb : sdB l ps d b s h t pb pz pc fr ws nx p size cut = false := by unfold sdB; rw [q2]; simp
                      rw [sd_no hb] at hr
                      subst hr
                      refine fin_i [(0, some 272), (1, some 288), (2, some 289)] rfl (fz ?_) (fz ?_) <;> first | trivial | rfl | exact ⟨rfl, rfl⟩ | exact ⟨rfl, rfl, rfl⟩ | trace_state
                  · refine voc (c_impl_fillBuffers_n (ks := sdKs pb pz pc fr p.tm cut) (h0 := by omega) (h1 := by omega) (hy := q1) (hne := hkl)) rfl rfl ?_
                    iterate 8 refine vo ?_
                    refine vnt ?_
                    refine vc_sr ?_
                    iterate 4 refine vo ?_
                    rcases Bool.eq_false_or_eq_true (descrB (sdPc pb pz pc fr p.tm cut) size nx) with q2 | q2
                    · refine voc c_impl_DescribePacket_0 rfl rfl ?_
                      refine vo ?_
                      refine vnt ?_
                      refine vc_seq' ?_
                      refine vc_sr ?_
                      iterate 3 refine vo ?_
                      iterate 2 refine vof ?_
                      refine vo ?_
                      refine vnt ?_
                      refine vc_then ?_
                      refine vc_sr ?_
                      iterate 5 refine vo ?_
                      refine vnt ?_
                      refine vc_ret ?_
                      refine thn_r ?_
                      have hb : sdB l ps d b s h t pb pz pc fr ws nx p size cut = false := by unfold sdB; rw [q1]; simp
                      rw [sd_no hb] at hr
                      subst hr
                      refine fin_i [(0, some 272), (1, some 288), (2, some 289)] rfl (fz ?_) (fz ?_) <;> first | trivial | rfl | exact ⟨rfl, rfl⟩ | exact ⟨rfl, rfl, rfl⟩ | trace_state
                    · refine voc c_impl_DescribePacket_0 rfl rfl ?_
                      refine vo ?_
                      refine vnt ?_
                      refine vc_seq' ?_
                      refine vc_sr ?_
                      iterate 3 refine vo ?_
                      iterate 2 refine vof ?_
                      refine vo ?_
                      refine vnt ?_
                      refine vc_then ?_
                      refine vc_sr ?_
                      iterate 5 refine vo ?_
                      refine vnt ?_
                      refine vc_ret ?_
                      refine thn_r ?_
                      have hb : sdB l ps d b s h t pb pz pc fr ws nx p size cut = false := by unfold sdB; rw [q1]; simp
                      rw [sd_no hb] at hr
                      subst hr
                      refine fin_i [(0, some 272), (1, some 288), (2, some 289)] rfl (fz ?_) (fz ?_) <;> first | trivial | rfl | exact ⟨rfl, rfl⟩ | exact ⟨rfl, rfl, rfl⟩ | trace_state
set_option maxHeartbeats 4000000 in
theorem c_spec_SendPacket {l : List Mp} {ps : Pg} {d b s h t pb pz pc nx size cut : Int} {fr : List Int} {ws : List Sn} {p : Pk} {r : TxR} (hr : sdF l ps d b s h t pb pz pc fr ws nx p size cut = r) (hl : l.length ≤ 1099511627776 := by first | with_reducible assumption | omega) (hp : ps.length ≤ 1099511627776 := by first | with_reducible assumption | omega) (hl_fr : fr.length ≤ 100000000 := by first | with_reducible assumption | omega) (hl_ws : ws.length ≤ 100000000 := by first | with_reducible assumption | omega) (hz_ws : (bufsF ws).length ≤ 100000000 := by first | with_reducible assumption | omega) (hz_p : p.body.size ≤ 1099511627776 := by first | assumption | omega) : Con0 Tryz.prog 8 [.one (.sl 4 (l.map mpE)), .agg [.sl 1 (ps.map strE)], I d, .agg [V b, V s, V h, V t, V pb, V pz, V pc, .sl 1 (fr.map intE), .rd (snQ (ws.map snE)), V nx], .agg [V (p).dm, V (p).sm, V (p).vl, V (p).tos, V (p).id, V (p).ttl, V (p).si, V (p).di, V (p).kind, V (p).sp, V (p).dp, V (p).seq, V (p).ack, V (p).fl, V (p).win, VS (p).body], I size, I cut] (.tup [.agg [.hs 0], .agg [V b, V s, V h, V r.2.1, V pb, V pz, V pc, .hs 1, .hs 2, V r.2.2.2.2.1], B r.2.2.2.2.2]) [(0, .arr 9 1 (r.1.map strE)), (1, .arr 3 1 (r.2.2.1.map intE)), (2, .own (sntOw 93 3 (r.2.2.2.1.map snE)))] := by
  refine con_i Tryz.func8 Tryz.ntmps8 (t := [(0, .one (.sl 4 (l.map mpE))), (1, .agg [.sl 1 (ps.map strE)]), (2, I d), (3, .agg [V b, V s, V h, V t, V pb, V pz, V pc, .sl 1 (fr.map intE), .rd (snQ (ws.map snE)), V nx]), (4, .agg [V (p).dm, V (p).sm, V (p).vl, V (p).tos, V (p).id, V (p).ttl, V (p).si, V (p).di, V (p).kind, V (p).sp, V (p).dp, V (p).seq, V (p).ack, V (p).fl, V (p).win, VS (p).body]), (5, I size), (6, I cut)]) rfl ?_
  refine vc_sr ?_
  iterate 6 refine vo ?_
  refine vnt ?_
  refine vc_sr ?_
  refine vo ?_
  refine voc c_spec_Template rfl rfl ?_
  iterate 5 refine vo ?_
  refine vnt ?_
  refine vc_seq' ?_
  refine vc_sr ?_
  refine vo ?_
  refine voc c_spec_TxOk rfl rfl ?_
  iterate 2 refine vo ?_
  refine vsp (fun g1 => ?_) (fun g1 => ?_)
  · iterate 2 refine vof ?_
    iterate 2 refine vo ?_
    iterate 6 refine vof ?_
    iterate 2 refine vo ?_
    iterate 3 refine vof ?_
    refine vo ?_
    refine vnt ?_
    refine vc_then ?_
    refine vc_sr ?_
    refine vo ?_
    refine voc c_spec_l16Copy rfl rfl ?_
    refine vo ?_
    refine voc c_spec_l22Copy rfl rfl ?_
    iterate 3 refine vo ?_
    refine vnt ?_
    refine vc_ret ?_
    refine thn_r ?_
    have hb : sdB l ps d b s h t pb pz pc fr ws nx p size cut = false := by unfold sdB; rw [g1]; rfl
    rw [sd_no hb] at hr
    subst hr
    refine fin_i [(0, some 480), (1, some 496), (2, some 497)] rfl (fz ?_) (fz ?_) <;> first | trivial | rfl | exact ⟨rfl, rfl⟩ | exact ⟨rfl, rfl, rfl⟩ | trace_state
  · obtain ⟨tx1, tx2, tx3, tx4, tx5⟩ := txOk_facts g1
    obtain ⟨tx6, tx7, tx8⟩ := txS_facts tx4
    obtain ⟨hs_, rb0, rb1, rs0, rs1, rh0, rh1, rt0, rt1, ru1, ru0⟩ := ringOk_facts tx1
    obtain ⟨pb0, pb1, pz0, pz1, pc0, pc1, hkk⟩ := poolB_facts tx2
    have hnx := inB_iff.1 tx3
    iterate 2 refine von ?_
    iterate 2 refine vo ?_
    refine vsp (fun g2 => ?_) (fun g2 => ?_)
    · have g2 : p.sup = false := g2
      iterate 6 refine vof ?_
      iterate 2 refine vo ?_
      iterate 3 refine vof ?_
      refine vo ?_
      refine vnt ?_
      refine vc_then ?_
      refine vc_sr ?_
      refine vo ?_
      refine voc c_spec_l16Copy rfl rfl ?_
      refine vo ?_
      refine voc c_spec_l22Copy rfl rfl ?_
      iterate 3 refine vo ?_
      refine vnt ?_
      refine vc_ret ?_
      refine thn_r ?_
      have hb : sdB l ps d b s h t pb pz pc fr ws nx p size cut = false := by unfold sdB; rw [g2]; simp
      rw [sd_no hb] at hr
      subst hr
      refine fin_i [(0, some 480), (1, some 496), (2, some 497)] rfl (fz ?_) (fz ?_) <;> first | trivial | rfl | exact ⟨rfl, rfl⟩ | exact ⟨rfl, rfl, rfl⟩ | trace_state
    · have g2 : p.sup = true := g2
      obtain ⟨tz0, tz1⟩ := tm_sz g2
      iterate 4 refine von ?_
      refine vocn c_spec_l01In rfl rfl ?_
      refine von ?_
      iterate 2 refine vo ?_
      refine vsp (fun g3 => ?_) (fun g3 => ?_)
      · iterate 3 refine vof ?_
        refine vo ?_
        refine vnt ?_
        refine vc_then ?_
        refine vc_sr ?_
        refine vo ?_
        refine voc c_spec_l16Copy rfl rfl ?_
        refine vo ?_
        refine voc c_spec_l22Copy rfl rfl ?_
        iterate 3 refine vo ?_
        refine vnt ?_
        refine vc_ret ?_
        refine thn_r ?_
        have hb : sdB l ps d b s h t pb pz pc fr ws nx p size cut = false := by unfold sdB; rw [g3]; simp
        rw [sd_no hb] at hr
        subst hr
        refine fin_i [(0, some 480), (1, some 496), (2, some 497)] rfl (fz ?_) (fz ?_) <;> first | trivial | rfl | exact ⟨rfl, rfl⟩ | exact ⟨rfl, rfl, rfl⟩ | trace_state
      · refine von ?_
        refine vocn c_spec_l01In rfl rfl ?_
        refine von ?_
        refine vo ?_
        refine vnt ?_
        refine vc_if (fun g4 => ?_) (fun g4 => ?_)
        · refine vc_sr ?_
          refine vo ?_
          refine voc c_spec_l16Copy rfl rfl ?_
          refine vo ?_
          refine voc c_spec_l22Copy rfl rfl ?_
          iterate 3 refine vo ?_
          refine vnt ?_
          refine vc_ret ?_
          refine thn_r ?_
          have hb : sdB l ps d b s h t pb pz pc fr ws nx p size cut = false := by unfold sdB; rw [g4]; simp
          rw [sd_no hb] at hr
          subst hr
          refine fin_i [(0, some 480), (1, some 496), (2, some 497)] rfl (fz ?_) (fz ?_) <;> first | trivial | rfl | exact ⟨rfl, rfl⟩ | exact ⟨rfl, rfl, rfl⟩ | trace_state
        · have hc3 := inB_iff.1 g3
          obtain ⟨nb0, nb1, nb2, nb3⟩ := sdN_bd (T := p.tm) (cut := cut) (by omega) (by omega)
          refine vc_skip ?_
          refine thn ?_
          refine vc_sr ?_
          iterate 4 refine vo ?_
          try refine vwr ?_
          refine vo ?_
          try refine vwr ?_
          iterate 2 refine vo ?_
          try refine veq (IntWalk.i64_quo _ _ (by omega)) ?_
          refine veq (show _ = sdN p.tm cut from rfl) ?_
          refine vo ?_
          refine vnt ?_
          refine vc_sr ?_
          iterate 3 refine vo ?_
          refine voc c_spec_TakeBuffers rfl rfl ?_
          iterate 8 refine vo ?_
          refine vnt ?_
          refine vc_seq' ?_
          refine vc_sr ?_
          iterate 3 refine vo ?_
          refine vsp (fun g5 => ?_) (fun g5 => ?_)
          · iterate 2 refine vof ?_
            iterate 2 refine vo ?_
            iterate 6 refine vof ?_
            iterate 2 refine vo ?_
            iterate 9 refine vof ?_
            refine vo ?_
            refine vnt ?_
            refine vc_then ?_
            refine vc_sr ?_
            refine vo ?_
            refine voc c_spec_l16Copy rfl rfl ?_
            refine vo ?_
            refine voc c_spec_l22Copy rfl rfl ?_
            iterate 3 refine vo ?_
            refine vnt ?_
            refine vc_ret ?_
            refine thn_r ?_
            have hb : sdB l ps d b s h t pb pz pc fr ws nx p size cut = false := by unfold sdB; rw [g5]; simp
            rw [sd_no hb] at hr
            subst hr
            refine fin_i [(0, some 832), (1, some 848), (2, some 849)] rfl (fz ?_) (fz ?_) <;> first | trivial | rfl | exact ⟨rfl, rfl⟩ | exact ⟨rfl, rfl, rfl⟩ | trace_state
          · have hkn := takeL_len g5
            iterate 2 refine von ?_
            iterate 2 refine vo ?_
            refine vsp (fun g6 => ?_) (fun g6 => ?_)
            · iterate 6 refine vof ?_
              iterate 2 refine vo ?_
              iterate 9 refine vof ?_
              refine vo ?_
              refine vnt ?_
              refine vc_then ?_
              refine vc_sr ?_
              refine vo ?_
              refine voc c_spec_l16Copy rfl rfl ?_
              refine vo ?_
              refine voc c_spec_l22Copy rfl rfl ?_
              iterate 3 refine vo ?_
              refine vnt ?_
              refine vc_ret ?_
              refine thn_r ?_
              have hb : sdB l ps d b s h t pb pz pc fr ws nx p size cut = false := by unfold sdB; rw [decide_eq_false (show ¬ sdN p.tm cut ≤ 16 by omega)]; simp
              rw [sd_no hb] at hr
              subst hr
              refine fin_i [(0, some 832), (1, some 848), (2, some 849)] rfl (fz ?_) (fz ?_) <;> first | trivial | rfl | exact ⟨rfl, rfl⟩ | exact ⟨rfl, rfl, rfl⟩ | trace_state
            · iterate 2 refine von ?_
              try refine vwr ?_
              iterate 2 refine von ?_
              refine vocn c_spec_RingFree rfl rfl ?_
              refine von ?_
              iterate 2 refine vo ?_
              refine vsp (fun g7 => ?_) (fun g7 => ?_)
              · iterate 9 refine vof ?_
                refine vo ?_
                refine vnt ?_
                refine vc_then ?_
                refine vc_sr ?_
                refine vo ?_
                refine voc c_spec_l16Copy rfl rfl ?_
                refine vo ?_
                refine voc c_spec_l22Copy rfl rfl ?_
                iterate 3 refine vo ?_
                refine vnt ?_
                refine vc_ret ?_
                refine thn_r ?_
                have hb : sdB l ps d b s h t pb pz pc fr ws nx p size cut = false := by unfold sdB; rw [decide_eq_false (show ¬ sdN p.tm cut + 1 ≤ freeF b s h t by omega)]; simp
                rw [sd_no hb] at hr
                subst hr
                refine fin_i [(0, some 832), (1, some 848), (2, some 849)] rfl (fz ?_) (fz ?_) <;> first | trivial | rfl | exact ⟨rfl, rfl⟩ | exact ⟨rfl, rfl, rfl⟩ | trace_state
              · refine von ?_
                refine vocn (c_spec_l22Slots (h1 := tx6) (h2 := by omega)) rfl rfl ?_
                iterate 2 refine von ?_
                try refine vwr ?_
                refine von ?_
                try refine vwr ?_
                iterate 4 refine von ?_
                refine vo ?_
                refine vnt ?_
                refine vc_if (fun g8 => ?_) (fun g8 => ?_)
                · refine vc_sr ?_
                  refine vo ?_
                  refine voc c_spec_l16Copy rfl rfl ?_
                  refine vo ?_
                  refine voc c_spec_l22Copy rfl rfl ?_
                  iterate 3 refine vo ?_
                  refine vnt ?_
                  refine vc_ret ?_
                  refine thn_r ?_
                  have hb : sdB l ps d b s h t pb pz pc fr ws nx p size cut = false := by unfold sdB; rw [decide_eq_false (show ¬ slotsF ws + sdN p.tm cut + 1 ≤ s by omega)]; simp
                  rw [sd_no hb] at hr
                  subst hr
                  refine fin_i [(0, some 832), (1, some 848), (2, some 849)] rfl (fz ?_) (fz ?_) <;> first | trivial | rfl | exact ⟨rfl, rfl⟩ | exact ⟨rfl, rfl, rfl⟩ | trace_state
                · refine vc_skip ?_
                  refine thn ?_
                  refine vc_sr ?_
                  refine vo ?_
                  refine voc c_spec_l16Copy rfl rfl ?_
                  iterate 2 refine vo ?_
                  refine vnt ?_
                  refine vc_sr ?_
                  iterate 2 refine vo ?_
                  refine vnt ?_
                  refine vc_seq' ?_
                  refine vc_sr ?_
                  refine vo ?_
                  refine vnt ?_
                  refine vc_block ?_
                  refine vc_lp2 [0, 2, 5, 6, 8, 10, 14, 15, 17, 19, 20, 21, 22] [64, 80, 112, 120, 160, 592, 593] (fun (i : Nat) (q : Pg) => [(23, .one (.hs 9)), (24, I (i : Nat))]) (fun (i : Nat) (q : Pg) => [(7, .arr 9 1 (q.map strE)), (9, .arr 84 2 ((sdQ pb pz pc fr p.tm cut (takeL pb pz pc fr (sdN p.tm cut)) i).map pcE)), (176, .row 42 [.hs 7])]) (fun (i : Nat) (q : Pg) => sdW l d pb pz pc fr p.tm cut (takeL pb pz pc fr (sdN p.tm cut)) 0 ps = sdW l d pb pz pc fr p.tm cut ((takeL pb pz pc fr (sdN p.tm cut)).drop i) i q ∧ i ≤ (takeL pb pz pc fr (sdN p.tm cut)).length ∧ q.length = ps.length) (fun (i : Nat) (q : Pg) => (takeL pb pz pc fr (sdN p.tm cut)).length - i) 0 ps rfl rfl (sub_i [(176, some 176), (7, some 864), (9, some 872)] (fz ?_) (fz ?_)) ?_ fun i q hI => ?_
                  · first | trivial | rfl | exact ⟨rfl, rfl⟩ | exact ⟨rfl, rfl, rfl⟩ | trace_state
                  · first | trivial | rfl | exact ⟨rfl, rfl⟩ | exact ⟨rfl, rfl, rfl⟩ | trace_state
                  · exact ⟨rfl, Nat.zero_le _, rfl⟩
                  refine vc_nf rfl rfl ?_
                  have hql := hI.2.2
                  have hsq := sdQ_len pb pz pc fr p.tm cut (takeL pb pz pc fr (sdN p.tm cut)) i
                  refine vc_seq' ?_
                  refine vc_sr ?_
                  iterate 3 refine vo ?_
                  refine vnt ?_
                  refine vc_if (fun g9 => ?_) (fun g9 => ?_)
                  · have hik : i < (takeL pb pz pc fr (sdN p.tm cut)).length := by omega
                    have hin := sd_in (T := p.tm) (cut := cut) (i := i) (by omega) (by omega) g9
                    have hsm := suc_mul i cut
                    have hbb := bufA_bd pb pz pc fr (at' (takeL pb pz pc fr (sdN p.tm cut)) i)
                    have hpz := sdP_sz p.tm cut i
                    refine vc_skip ?_
                    refine thn ?_
                    refine vc_seq' ?_
                    refine vc_block ?_
                    refine vc_sr ?_
                    iterate 4 refine vo ?_
                    try refine vwr ?_
                    iterate 4 refine vo ?_
                    try refine vwr ?_
                    iterate 2 refine vo ?_
                    try refine vwr ?_
                    iterate 2 refine vo ?_
                    try first | refine vdr ?_ | refine vtk ?_
                    refine vstr (show _ = sdP p.tm cut i from rfl) ?_
                    refine vo ?_
                    refine vnt ?_
                    refine vc_sr ?_
                    iterate 5 refine vo ?_
                    try with_reducible (first | refine vep ?_ | refine vpt ?_)
                    refine vo ?_
                    refine voc c_spec_BufferAddress rfl rfl ?_
                    refine vo ?_
                    refine vnt ?_
                    refine vc_sr ?_
                    iterate 5 refine vo ?_
                    refine voc c_spec_HostWrite rfl rfl ?_
                    iterate 6 refine vo ?_
                    refine vnt ?_
                    refine vc_seq' ?_
                    refine vc_sr ?_
                    iterate 2 refine vo ?_
                    refine vnt ?_
                    refine vc_if (fun g10 => ?_) (fun g10 => ?_)
                    · refine vc_sr ?_
                      refine vo ?_
                      refine voc c_spec_l16Copy rfl rfl ?_
                      refine vo ?_
                      refine voc c_spec_l22Copy rfl rfl ?_
                      iterate 3 refine vo ?_
                      refine vnt ?_
                      refine vc_ret ?_
                      refine thn_r ?_
                      refine inB_r ?_
                      refine thn_r ?_
                      refine thn_r ?_
                      refine inB_r ?_
                      refine thn_r ?_
                      have hw : (sdWr l ps d pb pz pc fr p.tm cut).2 = false := by show (sdW l d pb pz pc fr p.tm cut (takeL pb pz pc fr (sdN p.tm cut)) 0 ps).2 = false; rw [hI.1, sdW_no hik g10]
                      have hb : sdB l ps d b s h t pb pz pc fr ws nx p size cut = false := by unfold sdB; rw [hw]; simp
                      rw [sd_no hb] at hr
                      subst hr
                      refine fin_i [(0, some 1168), (1, some 1184), (2, some 1185)] rfl (fz ?_) (fz ?_) <;> first | trivial | rfl | exact ⟨rfl, rfl⟩ | exact ⟨rfl, rfl, rfl⟩ | trace_state
                    · refine vc_skip ?_
                      refine thn ?_
                      refine vc_sr ?_
                      iterate 2 refine vo ?_
                      refine vnt ?_
                      refine vc_region ?_
                      iterate 8 refine vo ?_
                      refine vnil ?_
                      refine inB_n ?_
                      refine thn ?_
                      refine vc_region ?_
                      iterate 2 refine vo ?_
                      try refine vwr ?_
                      refine vo ?_
                      refine vnt ?_
                      refine ⟨i + 1, (dmaWF l q d (bufA pb pz pc fr (at' (takeL pb pz pc fr (sdN p.tm cut)) i)) (sdP p.tm cut i) false).1, ⟨hI.1.trans (sdW_stp hik g10), by omega, by rw [dw_ln]; exact hql⟩, by omega, sub_i [(176, some 176), (7, some 1120), (9, some 1248)] (fz ?_) (fz ?_)⟩
                      · first | trivial | rfl | simp | trace_state
                      · first | exact (by rw [← sdQ_stp, List.map_append]; rfl) | (rw [← sdQ_stp, List.map_append]; exact ⟨rfl, rfl⟩) | trace_state
                  · obtain rfl : i = (takeL pb pz pc fr (sdN p.tm cut)).length := by omega
                    refine vc_exit ?_
                    refine thn_x ?_
                    refine thn_x ?_
                    refine inB_x ?_
                    refine thn ?_
                    refine vc_sr ?_
                    iterate 2 refine vo ?_
                    refine vnt ?_
                    refine vc_sr ?_
                    iterate 4 refine vo ?_
                    refine voc c_spec_DescribePacket rfl rfl ?_
                    generalize hD : descrF (sdQ pb pz pc fr p.tm cut (takeL pb pz pc fr (sdN p.tm cut)) (takeL pb pz pc fr (sdN p.tm cut)).length) size nx = D
                    have hdl : D.length ≤ 17 := by rw [← hD]; have := descrF_le (sdQ pb pz pc fr p.tm cut (takeL pb pz pc fr (sdN p.tm cut)) (takeL pb pz pc fr (sdN p.tm cut)).length) size nx; omega
                    refine vo ?_
                    refine vnt ?_
                    refine vc_seq' ?_
                    refine vc_sr ?_
                    refine vo ?_
                    refine vnt ?_
                    refine vc_block ?_
                    refine vc_lp (σ := Nat) [0, 2, 8, 10, 14, 15, 19, 20, 21, 22, 30] [7, 64, 80, 112, 120, 160, 176, 592, 593, 1296] (fun j => [(29, .one (.hs 10)), (31, I (j : Nat))]) (fun j => [(10, .arr 9 1 ((encL (D.take j)).map strE))]) (fun j => j ≤ D.length) (fun j => D.length - j) 0 rfl rfl (sub_i [(10, some 1256)] (fz ?_) (fz ?_)) ?_ fun j hJ => ?_
                    · first | trivial | rfl | exact ⟨rfl, rfl⟩ | exact ⟨rfl, rfl, rfl⟩ | trace_state
                    · first | trivial | rfl | exact ⟨rfl, rfl⟩ | exact ⟨rfl, rfl, rfl⟩ | trace_state
                    · exact Nat.zero_le _
                    refine vc_nf rfl rfl ?_
                    have hel : (encL (D.take j)).length ≤ j := by rw [encL_len, List.length_take]; omega
                    refine vc_seq' ?_
                    refine vc_sr ?_
                    iterate 3 refine vo ?_
                    try first | refine vlb ?_ | refine vln ?_
                    refine vo ?_
                    refine vnt ?_
                    refine vc_if (fun g11 => ?_) (fun g11 => ?_)
                    · refine vc_skip ?_
                      refine thn ?_
                      refine vc_seq' ?_
                      refine vc_block ?_
                      refine vc_region ?_
                      iterate 4 refine vo ?_
                      try with_reducible (first | refine vep ?_ | refine vpt ?_)
                      refine vo ?_
                      refine voc c_spec_EncodeDesc rfl rfl ?_
                      iterate 3 refine vo ?_
                      refine vnil ?_
                      refine inB_n ?_
                      refine thn ?_
                      refine vc_region ?_
                      iterate 2 refine vo ?_
                      try refine vwr ?_
                      refine vo ?_
                      refine vnt ?_
                      refine ⟨j + 1, by omega, by omega, sub_i [(10, some 1408)] (fz ?_) (fz ?_)⟩
                      · first | trivial | rfl | simp
                      · first | exact (encL_stp g11).symm | trace_state
                    · have hez := encL_sz (D.take j)
                      have hel : (encL (D.take j)).length ≤ j := by rw [encL_len, List.length_take]; omega
                      refine vc_exit ?_
                      refine thn_x ?_
                      refine thn_x ?_
                      refine inB_x ?_
                      refine thn ?_
                      refine vc_sr ?_
                      iterate 6 refine vo ?_
                      refine voc c_spec_RingPutAll rfl rfl ?_
                      generalize hRR : rpaF l q d b s h t (encL (D.take j)) = R
                      iterate 8 refine vo ?_
                      refine vnt ?_
                      refine vc_seq' ?_
                      refine vc_sr ?_
                      iterate 3 refine vo ?_
                      refine vsp (fun g12 => ?_) (fun g12 => ?_)
                      · iterate 3 refine vof ?_
                        refine vo ?_
                        refine vnt ?_
                        refine vc_then ?_
                        refine vc_sr ?_
                        refine vo ?_
                        refine voc c_spec_l16Copy rfl rfl ?_
                        refine vo ?_
                        refine voc c_spec_l22Copy rfl rfl ?_
                        iterate 3 refine vo ?_
                        refine vnt ?_
                        refine vc_ret ?_
                        refine thn_r ?_
                        have hw : sdW l d pb pz pc fr p.tm cut (takeL pb pz pc fr (sdN p.tm cut)) 0 ps = (q, true) := hI.1.trans (sdW_end (by omega))
                        have hR : sdRg l ps d b s h t pb pz pc fr nx p.tm size cut = R := by
                          show rpaF l (sdW l d pb pz pc fr p.tm cut (takeL pb pz pc fr (sdN p.tm cut)) 0 ps).1 d b s h t (encL (descrF (sdQ pb pz pc fr p.tm cut (takeL pb pz pc fr (sdN p.tm cut)) (takeL pb pz pc fr (sdN p.tm cut)).length) size nx)) = R
                          rw [hw, hD]; rw [encL_end g11] at hRR; exact hRR
                        have hb : sdB l ps d b s h t pb pz pc fr ws nx p size cut = false := by unfold sdB; rw [hR, g12]; simp
                        rw [sd_no hb] at hr
                        subst hr
                        refine fin_i [(0, some 1568), (1, some 1584), (2, some 1585)] rfl (fz ?_) (fz ?_) <;> first | trivial | rfl | exact ⟨rfl, rfl⟩ | exact ⟨rfl, rfl, rfl⟩ | trace_state
                      · iterate 2 refine von ?_
                        try first | refine vlb ?_ | refine vln ?_
                        refine von ?_
                        refine vo ?_
                        refine vnt ?_
                        refine vc_if (fun g13 => ?_) (fun g13 => ?_)
                        · refine vc_sr ?_
                          refine vo ?_
                          refine voc c_spec_l16Copy rfl rfl ?_
                          refine vo ?_
                          refine voc c_spec_l22Copy rfl rfl ?_
                          iterate 3 refine vo ?_
                          refine vnt ?_
                          refine vc_ret ?_
                          refine thn_r ?_
                          have q2 : descrB (sdPc pb pz pc fr p.tm cut) size nx = false := by
                            cases hq : descrB (sdPc pb pz pc fr p.tm cut) size nx with
                            | false => rfl
                            | true => have hx := descr_len hq; rw [show descrF (sdPc pb pz pc fr p.tm cut) size nx = D from hD] at hx; omega
                          have hb : sdB l ps d b s h t pb pz pc fr ws nx p size cut = false := by unfold sdB; rw [q2]; simp
                          rw [sd_no hb] at hr
                          subst hr
                          refine fin_i [(0, some 1568), (1, some 1584), (2, some 1585)] rfl (fz ?_) (fz ?_) <;> first | trivial | rfl | exact ⟨rfl, rfl⟩ | exact ⟨rfl, rfl, rfl⟩ | trace_state
                        · refine vc_skip ?_
                          refine thn ?_
                          refine vc_sr ?_
                          refine vo ?_
                          refine voc c_spec_l22Copy rfl rfl ?_
                          iterate 2 refine vo ?_
                          refine vnt ?_
                          refine vc_sr ?_
                          iterate 3 refine vo ?_
                          refine vnt ?_
                          refine vc_sr ?_
                          iterate 3 refine vo ?_
                          refine vnt ?_
                          refine vc_sr ?_
                          iterate 6 refine vo ?_
                          try refine vwr ?_
                          iterate 2 refine vo ?_
                          refine vqb ?_
                          refine vqa ?_
                          iterate 2 refine vo ?_
                          refine vnt ?_
                          refine vc_sr ?_
                          iterate 3 refine vo ?_
                          try refine vwr ?_
                          refine vo ?_
                          try refine veq (Int.tmod_eq_emod_of_nonneg (by omega)) ?_
                          iterate 2 refine vo ?_
                          refine vnt ?_
                          refine vc_sr ?_
                          iterate 5 refine vo ?_
                          refine vnt ?_
                          refine vc_ret ?_
                          have hw : sdW l d pb pz pc fr p.tm cut (takeL pb pz pc fr (sdN p.tm cut)) 0 ps = (q, true) := hI.1.trans (sdW_end (by omega))
                          have hR : sdRg l ps d b s h t pb pz pc fr nx p.tm size cut = R := by
                            show rpaF l (sdW l d pb pz pc fr p.tm cut (takeL pb pz pc fr (sdN p.tm cut)) 0 ps).1 d b s h t (encL (descrF (sdQ pb pz pc fr p.tm cut (takeL pb pz pc fr (sdN p.tm cut)) (takeL pb pz pc fr (sdN p.tm cut)).length) size nx)) = R
                            rw [hw, hD]; rw [encL_end g11] at hRR; exact hRR
                          have q2 : descrB (sdPc pb pz pc fr p.tm cut) size nx = true := by
                            cases hq : descrB (sdPc pb pz pc fr p.tm cut) size nx with
                            | true => rfl
                            | false => have hx := descr_nil hq; rw [show descrF (sdPc pb pz pc fr p.tm cut) size nx = D from hD] at hx; subst hx; exact absurd rfl g13
                          rw [sd_yes g1 g2 g3 g4 (by omega) (by omega) (by omega) g5 (show (sdW l d pb pz pc fr p.tm cut (takeL pb pz pc fr (sdN p.tm cut)) 0 ps).2 = true by rw [hw]) q2 hR g12] at hr
                          subst hr
                          refine fin_i [(0, some 1472), (1, some 592), (2, some 1712)] rfl (fz ?_) (fz ?_)
                          · first | trivial | rfl | exact ⟨rfl, rfl⟩ | trace_state
                          · first | trivial | rfl | exact ⟨rfl, rfl⟩ | exact ⟨rfl, rfl, rfl⟩ | (rw [List.map_append]; first | rfl | exact ⟨rfl, rfl, rfl⟩) | trace_state
end Go.Proofs.YtnikopahkjmneaaGreat
end
section
namespace Go.Proofs.YtnikopahkjmneaaGreat
open Go Go.RowKit Go.Vc
set_option linter.unusedVariables false
set_option linter.unusedSimpArgs false
set_option linter.unnecessarySimpa false
theorem sum_mem {α : Type} (f : α → Nat) : ∀ {l : List α} {x : α}, x ∈ l → f x ≤ sumL f l
  | y :: l, x, h => by
    show f x ≤ f y + sumL f l
    rcases List.mem_cons.1 h with rfl | h
    · omega
    · have := sum_mem f h; omega
theorem sum_app {α : Type} (f : α → Nat) (a b : List α) : sumL f (a ++ b) = sumL f a + sumL f b := by simp [sumL]
theorem bufs_ln : ∀ ws : List Sn, (bufsF ws).length = sumL (fun x : Sn => x.2.2.length) ws
  | [] => rfl
  | x :: ws => by
    show (x.2.2 ++ bufsF ws).length = x.2.2.length + sumL (fun x : Sn => x.2.2.length) ws
    rw [List.length_append, bufs_ln ws]
theorem rpa_ln {l : List Mp} {d b s h : Int} : ∀ (es : List ByteArray) (ps : Pg) (t : Int), (rpa l d b s h es ps t).1.length = ps.length
  | [], _, _ => rfl
  | e :: r, ps, t => by
    simp only [rpa]
    split
    · rw [rpa_ln r, rp_ln]
    · rfl
theorem rpaF_ln (l : List Mp) (d b s h : Int) (es : List ByteArray) (ps : Pg) (t : Int) : (rpaF l ps d b s h t es).1.length = ps.length := by
  unfold rpaF
  split
  · exact rpa_ln ..
  · rfl
theorem sd_bd {l : List Mp} {ps : Pg} {d b s h t pb pz pc nx size cut : Int} {fr : List Int} {ws : List Sn} {p : Pk} {r : TxR} (hr : sdF l ps d b s h t pb pz pc fr ws nx p size cut = r) (hf : fr.length ≤ 1048576) (hw : ws.length + sumL (fun x : Sn => x.2.2.length) ws ≤ 1048576) :
    r.1.length = ps.length ∧ r.2.2.1.length ≤ 1048576 ∧ r.2.2.2.1.length ≤ 1048577 ∧ preW r.2.2.2.1 r.2.2.2.1.length ≤ 8388608 ∧ ∀ x ∈ r.2.2.2.1, x.2.2.length ≤ 1099511627776 := by
  have hp : ∀ ws : List Sn, preW ws ws.length = 2 * ws.length + sumL (fun x : Sn => x.2.2.length) ws := fun ws => by unfold preW; rw [List.take_length]
  have hB : ∀ ws : List Sn, sumL (fun x : Sn => x.2.2.length) ws ≤ 2097152 → ∀ x ∈ ws, x.2.2.length ≤ 1099511627776 := fun ws hh x hx => by
    have := sum_mem (fun x : Sn => x.2.2.length) hx
    omega
  cases hb : sdB l ps d b s h t pb pz pc fr ws nx p size cut with
  | false =>
    rw [sd_no hb] at hr
    subst hr
    refine ⟨rfl, by show fr.length ≤ _; omega, by show ws.length ≤ _; omega, ?_, hB ws (by omega)⟩
    show preW ws ws.length ≤ _
    rw [hp]; omega
  | true =>
    unfold sdF at hr
    rw [if_pos hb] at hr
    subst hr
    have hk := takeL_le pb pz pc fr (sdN p.tm cut)
    have hk2 : (sdKs pb pz pc fr p.tm cut).length ≤ fr.length := hk
    have hs : sumL (fun x : Sn => x.2.2.length) (ws ++ [(nx, sdN p.tm cut + 1, sdKs pb pz pc fr p.tm cut)]) ≤ 2097152 := by
      rw [sum_app]
      show _ + ((sdKs pb pz pc fr p.tm cut).length + 0) ≤ _
      omega
    have hl : (ws ++ [(nx, sdN p.tm cut + 1, sdKs pb pz pc fr p.tm cut)]).length = ws.length + 1 := by simp
    refine ⟨?_, ?_, ?_, ?_, hB _ hs⟩
    · show (sdRg l ps d b s h t pb pz pc fr nx p.tm size cut).1.length = ps.length
      unfold sdRg sdWr
      rw [rpaF_ln, sdW_ln]
    · have := takeR_le pb pz pc fr (sdN p.tm cut)
      show (takeR pb pz pc fr (sdN p.tm cut)).length ≤ _
      omega
    · show (ws ++ [(nx, sdN p.tm cut + 1, sdKs pb pz pc fr p.tm cut)]).length ≤ _
      omega
    · show preW (ws ++ [(nx, sdN p.tm cut + 1, sdKs pb pz pc fr p.tm cut)]) (ws ++ [(nx, sdN p.tm cut + 1, sdKs pb pz pc fr p.tm cut)]).length ≤ _
      rw [hp]; omega
theorem c_szPk {p : Pk} {left : Int} (h0 : 0 ≤ left := by omega) (h1 : left ≤ 1048576 := by omega) (hs : p.body.size ≤ 9223372036854775807 := by first | with_reducible assumption | omega) : Con0 Tryz.prog 7 [.agg [V p.dm, V p.sm, V p.vl, V p.tos, V p.id, V p.ttl, V p.si, V p.di, V p.kind, V p.sp, V p.dp, V p.seq, V p.ack, V p.fl, V p.win, VS p.body], I left] (I (szF p.body.size left)) [] := by
  rcases Int.lt_or_le left p.body.size with h | h
  · rw [sz_n (by omega)]; exact c_laws_szPacket_gt
  · rw [sz_y h]; exact c_laws_szPacket_le
set_option maxRecDepth 20000 in
set_option maxHeartbeats 40000000 in
theorem c_laws_FnExactSendPacket {l : List Mp} {ps : Pg} {d b s h t pb pz pc nx size cut : Int} {fr : List Int} {ws : List Sn} {p : Pk} (hl_l : l.length ≤ 9223372036854775807) (hl_ps : ps.length ≤ 9223372036854775807) (hz : ∀ p ∈ ps, p.size ≤ 9223372036854775807) (hl_fr : fr.length ≤ 9223372036854775807) (hl_ws : ws.length ≤ 9223372036854775807) (hb : ∀ x ∈ ws, x.2.2.length ≤ 9223372036854775807) (hz_p : p.body.size ≤ 9223372036854775807) : Con0 Tryz.prog 3 [.one (.sl 4 (l.map mpE)), .agg [.sl 1 (ps.map strE)], I d, .agg [V b, V s, V h, V t, V pb, V pz, V pc, .sl 1 (fr.map intE), .rd (snQ (ws.map snE)), V nx], .agg [V p.dm, V p.sm, V p.vl, V p.tos, V p.id, V p.ttl, V p.si, V p.di, V p.kind, V p.sp, V p.dp, V p.seq, V p.ack, V p.fl, V p.win, VS p.body], I size, I cut] (B true) [] := by
  refine con_i Tryz.func3 Tryz.ntmps3 (t := [(0, .one (.sl 4 (l.map mpE))), (1, .agg [.sl 1 (ps.map strE)]), (2, I d), (3, .agg [V b, V s, V h, V t, V pb, V pz, V pc, .sl 1 (fr.map intE), .rd (snQ (ws.map snE)), V nx]), (4, .agg [V p.dm, V p.sm, V p.vl, V p.tos, V p.id, V p.ttl, V p.si, V p.di, V p.kind, V p.sp, V p.dp, V p.seq, V p.ack, V p.fl, V p.win, VS p.body]), (5, I size), (6, I cut)]) rfl ?_
  refine vc_sr ?_
  iterate 4 refine vo ?_
  refine vnt ?_
  refine vc_sr ?_
  refine vo ?_
  refine vnt ?_
  refine vc_sr ?_
  iterate 2 refine vo ?_
  refine voc (c_laws_szMappingS (xs := l)) rfl rfl ?_
  refine vo ?_
  refine vnt ?_
  refine vc_seq' ?_
  refine vc_sr ?_
  iterate 2 refine vo ?_
  refine vnt ?_
  refine vc_if (fun g1 => ?_) (fun g1 => ?_)
  · refine vc_sr ?_
    refine vo ?_
    refine vnt ?_
    refine vc_ret ?_
    refine thn_r ?_
    refine fin_i [] rfl (fz ?_) (fz ?_) <;> first | trivial | rfl
  · have p1 := sz_pos (show 0 ≤ szF l.length 1048576 by omega)
    have e1 := sz_y p1
    refine vc_skip ?_
    refine thn ?_
    refine vc_sr ?_
    iterate 2 refine vo ?_
    refine voc (c_laws_szMemory (ps := ps) (left := szF l.length 1048576)) rfl rfl ?_
    refine vo ?_
    refine vnt ?_
    refine vc_seq' ?_
    refine vc_sr ?_
    iterate 2 refine vo ?_
    refine vnt ?_
    refine vc_if (fun g2 => ?_) (fun g2 => ?_)
    · refine vc_sr ?_
      refine vo ?_
      refine vnt ?_
      refine vc_ret ?_
      refine thn_r ?_
      refine fin_i [] rfl (fz ?_) (fz ?_) <;> first | trivial | rfl
    · have p2 := sz_pos (show 0 ≤ szF (tS ps) (szF l.length 1048576) by omega)
      have e2 := sz_y p2
      refine vc_skip ?_
      refine thn ?_
      refine vc_sr ?_
      iterate 2 refine vo ?_
      refine voc (c_laws_szTxQueue (fr := fr) (ws := ws) (left := szF (tS ps) (szF l.length 1048576))) rfl rfl ?_
      refine vo ?_
      refine vnt ?_
      refine vc_seq' ?_
      refine vc_sr ?_
      iterate 2 refine vo ?_
      refine vnt ?_
      refine vc_if (fun g3 => ?_) (fun g3 => ?_)
      · refine vc_sr ?_
        refine vo ?_
        refine vnt ?_
        refine vc_ret ?_
        refine thn_r ?_
        refine fin_i [] rfl (fz ?_) (fz ?_) <;> first | trivial | rfl
      · have p3 := sz_pos (show 0 ≤ szF (fr.length + tW ws) (szF (tS ps) (szF l.length 1048576)) by omega)
        have e3 := sz_y p3
        refine vc_skip ?_
        refine thn ?_
        refine vc_sr ?_
        iterate 2 refine vo ?_
        refine voc (c_szPk (p := p) (left := szF (fr.length + tW ws) (szF (tS ps) (szF l.length 1048576)))) rfl rfl ?_
        refine vo ?_
        refine vnt ?_
        refine vc_seq' ?_
        refine vc_sr ?_
        iterate 2 refine vo ?_
        refine vnt ?_
        refine vc_if (fun g4 => ?_) (fun g4 => ?_)
        · refine vc_sr ?_
          refine vo ?_
          refine vnt ?_
          refine vc_ret ?_
          refine thn_r ?_
          refine fin_i [] rfl (fz ?_) (fz ?_) <;> first | trivial | rfl
        · have p4 := sz_pos (show 0 ≤ szF p.body.size (szF (fr.length + tW ws) (szF (tS ps) (szF l.length 1048576))) by omega)
          have e4 := sz_y p4
          have hT : tS ps = ps.length + sumL ByteArray.size ps := rfl
          have hW : tW ws = ws.length + sumL (fun x : Sn => x.2.2.length) ws := rfl
          have hbl := bufs_ln ws
          have hb2 : ∀ x ∈ ws, x.2.2.length ≤ 1099511627776 := fun x hx => by have := sum_mem (fun x : Sn => x.2.2.length) hx; omega
          have hpW : preW ws ws.length = 2 * ws.length + sumL (fun x : Sn => x.2.2.length) ws := by unfold preW; rw [List.take_length]
          obtain ⟨r, hr⟩ : ∃ r, sdF l ps d b s h t pb pz pc fr ws nx p size cut = r := ⟨_, rfl⟩
          obtain ⟨r1, r2, r3, r4, r5⟩ := sd_bd hr (by omega) (by omega)
          refine vc_skip ?_
          refine thn ?_
          refine vc_sr ?_
          refine vo ?_
          refine voc (c_laws_toMappingS (xs := l)) rfl rfl ?_
          refine vo ?_
          refine voc (c_laws_toMemory (ps := ps)) rfl rfl ?_
          iterate 2 refine vo ?_
          refine voc (c_laws_toTxQueue (fr := fr) (ws := ws)) rfl rfl ?_
          refine vo ?_
          refine voc c_laws_toPacket rfl rfl ?_
          iterate 2 refine vo ?_
          refine voc (c_spec_SendPacket (hr := hr)) rfl rfl ?_
          iterate 9 refine vo ?_
          refine vnt ?_
          refine vc_sr ?_
          refine vo ?_
          refine voc (c_laws_toMappingS (xs := l)) rfl rfl ?_
          refine vo ?_
          refine vnt ?_
          refine vc_sr ?_
          refine vo ?_
          refine voc (c_laws_toMemory (ps := ps)) rfl rfl ?_
          iterate 2 refine vo ?_
          refine vnt ?_
          refine vc_sr ?_
          refine vo ?_
          refine voc (c_laws_toTxQueue (fr := fr) (ws := ws)) rfl rfl ?_
          iterate 2 refine vo ?_
          refine vnt ?_
          refine vc_sr ?_
          iterate 5 refine vo ?_
          refine voc c_laws_toPacket rfl rfl ?_
          iterate 2 refine vo ?_
          refine voc (c_impl_SendPacket (hr := hr)) rfl rfl ?_
          iterate 9 refine vo ?_
          refine vnt ?_
          refine vc_seq' ?_
          refine vc_sr ?_
          iterate 2 refine vo ?_
          refine voc (c_laws_eqMemory (ps := r.1)) rfl rfl ?_
          iterate 2 refine vo ?_
          iterate 2 refine von ?_
          refine vocn (c_laws_eqTxQueue (fr := r.2.2.1) (ws := r.2.2.2.1)) rfl rfl ?_
          refine von ?_
          iterate 2 refine vo ?_
          iterate 3 refine von ?_
          refine vo ?_
          refine vnt ?_
          refine vc_if (fun g5 => ?_) (fun g5 => ?_)
          · first | exact absurd g5 (by omega) | exact absurd g5 (by simp) | trace_state
          · refine vc_skip ?_
            refine thn ?_
            refine vc_seq' ?_
            refine vc_sr ?_
            iterate 2 refine vo ?_
            refine voc (c_laws_toMappingS (xs := l)) rfl rfl ?_
            refine voc (c_laws_eqMappingS (xs := l)) rfl rfl ?_
            refine vo ?_
            refine vnt ?_
            refine vc_else ?_
            refine vc_skip ?_
            refine thn ?_
            refine vc_seq' ?_
            refine vc_sr ?_
            iterate 2 refine vo ?_
            refine voc (c_laws_toMemory (ps := ps)) rfl rfl ?_
            refine voc (c_laws_eqMemory (ps := ps)) rfl rfl ?_
            refine vo ?_
            refine vnt ?_
            refine vc_else ?_
            refine vc_skip ?_
            refine thn ?_
            refine vc_seq' ?_
            refine vc_sr ?_
            iterate 2 refine vo ?_
            refine voc (c_laws_toTxQueue (fr := fr) (ws := ws)) rfl rfl ?_
            refine voc (c_laws_eqTxQueue (fr := fr) (ws := ws)) rfl rfl ?_
            refine vo ?_
            refine vnt ?_
            refine vc_else ?_
            refine vc_skip ?_
            refine thn ?_
            refine vc_sr ?_
            refine vo ?_
            refine vnt ?_
            refine vc_sr ?_
            iterate 2 refine vo ?_
            refine vlt0 (c_laws_markMappingS (xs := l) (k := 1)) ?_
            refine vo ?_
            refine vnt ?_
            refine vc_sr ?_
            iterate 2 refine vo ?_
            refine vlt0 (c_laws_markMemory (ps := ps) (k := 1 + 4 * (l.length : Int))) ?_
            refine vo ?_
            refine vnt ?_
            refine vc_sr ?_
            iterate 2 refine vo ?_
            refine vlt2 (c_laws_markTxQueue (xs := fr) (ws := ws) (k := 1 + 4 * (l.length : Int) + ps.length)) ?_
            refine vo ?_
            refine vnt ?_
            refine vc_seq' ?_
            refine vc_sr ?_
            iterate 3 refine vo ?_
            refine vsp (fun g6 => ?_) (fun g6 => ?_)
            · first | exact absurd g6 (by omega) | exact absurd g6 (by simp) | trace_state
            · iterate 2 refine von ?_
              refine vocn (c_laws_eqMemory (ps := r.1)) rfl rfl ?_
              refine von ?_
              iterate 2 refine vo ?_
              iterate 2 refine von ?_
              refine vocn (c_laws_eqTxQueue (fr := r.2.2.1) (ws := r.2.2.2.1)) rfl rfl ?_
              refine von ?_
              iterate 2 refine vo ?_
              iterate 3 refine von ?_
              refine vo ?_
              refine vnt ?_
              refine vc_if (fun g7 => ?_) (fun g7 => ?_)
              · first | exact absurd g7 (by omega) | exact absurd g7 (by simp) | trace_state
              · refine vc_skip ?_
                refine thn ?_
                refine vc_sr ?_
                refine vo ?_
                refine vnt ?_
                refine vc_sr ?_
                iterate 2 refine vo ?_
                refine vlt0 (c_laws_markMemory (ps := r.1) (k := 1)) ?_
                refine vo ?_
                refine vnt ?_
                refine vc_sr ?_
                iterate 2 refine vo ?_
                refine vlt2 (c_laws_markTxQueue (xs := r.2.2.1) (ws := r.2.2.2.1) (k := 1 + r.1.length)) ?_
                refine vo ?_
                refine vnt ?_
                refine vc_sr ?_
                refine vo ?_
                refine vnt ?_
                refine vc_sr ?_
                iterate 2 refine vo ?_
                refine voc (c_laws_heldMemory (n := r.1.length) (k := 1)) rfl rfl ?_
                refine vo ?_
                refine vnt ?_
                refine vc_seq' ?_
                refine vc_sr ?_
                iterate 2 refine vo ?_
                refine vnt ?_
                refine vc_if (fun g8 => ?_) (fun g8 => ?_)
                · first | exact absurd g8 (by omega) | exact absurd g8 (by simp) | trace_state
                · refine vc_skip ?_
                  refine thn ?_
                  refine vc_sr ?_
                  iterate 2 refine vo ?_
                  refine voc (c_laws_heldTxQueue (n := r.2.2.1.length) (ws := r.2.2.2.1) (k := 1 + r.1.length)) rfl rfl ?_
                  refine vo ?_
                  refine vnt ?_
                  refine vc_seq' ?_
                  refine vc_sr ?_
                  iterate 2 refine vo ?_
                  refine vnt ?_
                  refine vc_if (fun g9 => ?_) (fun g9 => ?_)
                  · first | exact absurd g9 (by omega) | exact absurd g9 (by simp) | trace_state
                  · refine vc_skip ?_
                    refine thn ?_
                    refine vc_seq' ?_
                    refine vc_sr ?_
                    iterate 3 refine vo ?_
                    refine vnt ?_
                    refine vc_if (fun g10 => ?_) (fun g10 => ?_)
                    · first | exact absurd g10 (by omega) | exact absurd g10 (by simp) | trace_state
                    · refine vc_skip ?_
                      refine thn ?_
                      refine vc_sr ?_
                      refine vo ?_
                      refine voc (c_laws_toMappingS (xs := l)) rfl rfl ?_
                      refine vo ?_
                      refine voc (c_laws_toMemory (ps := ps)) rfl rfl ?_
                      iterate 2 refine vo ?_
                      refine voc (c_laws_toTxQueue (fr := fr) (ws := ws)) rfl rfl ?_
                      refine vo ?_
                      refine voc c_laws_toPacket rfl rfl ?_
                      iterate 2 refine vo ?_
                      refine voc (c_impl_SendPacket (hr := hr)) rfl rfl ?_
                      iterate 9 refine vo ?_
                      refine vnt ?_
                      refine vc_seq' ?_
                      refine vc_sr ?_
                      iterate 2 refine vo ?_
                      refine voc (c_laws_eqMemory (ps := r.1)) rfl rfl ?_
                      iterate 2 refine vo ?_
                      iterate 2 refine von ?_
                      refine vocn (c_laws_eqTxQueue (fr := r.2.2.1) (ws := r.2.2.2.1)) rfl rfl ?_
                      refine von ?_
                      iterate 2 refine vo ?_
                      iterate 3 refine von ?_
                      refine vo ?_
                      refine vnt ?_
                      refine vc_if (fun g11 => ?_) (fun g11 => ?_)
                      · first | exact absurd g11 (by omega) | exact absurd g11 (by simp) | trace_state
                      · refine vc_skip ?_
                        refine thn ?_
                        refine vc_sr ?_
                        refine vo ?_
                        refine vnt ?_
                        refine vc_sr ?_
                        iterate 2 refine vo ?_
                        refine voc (c_laws_heldMemory (n := r.1.length) (k := 1)) rfl rfl ?_
                        refine vo ?_
                        refine vnt ?_
                        refine vc_seq' ?_
                        refine vc_sr ?_
                        iterate 2 refine vo ?_
                        refine vnt ?_
                        refine vc_if (fun g12 => ?_) (fun g12 => ?_)
                        · first | exact absurd g12 (by omega) | exact absurd g12 (by simp) | trace_state
                        · refine vc_skip ?_
                          refine thn ?_
                          refine vc_sr ?_
                          iterate 2 refine vo ?_
                          refine voc (c_laws_heldTxQueue (n := r.2.2.1.length) (ws := r.2.2.2.1) (k := 1 + r.1.length)) rfl rfl ?_
                          refine vo ?_
                          refine vnt ?_
                          refine vc_seq' ?_
                          refine vc_sr ?_
                          iterate 2 refine vo ?_
                          refine vnt ?_
                          refine vc_if (fun g13 => ?_) (fun g13 => ?_)
                          · first | exact absurd g13 (by omega) | exact absurd g13 (by simp) | trace_state
                          · refine vc_skip ?_
                            refine thn ?_
                            refine vc_seq' ?_
                            refine vc_sr ?_
                            iterate 3 refine vo ?_
                            refine vnt ?_
                            refine vc_if (fun g14 => ?_) (fun g14 => ?_)
                            · first | exact absurd g14 (by omega) | exact absurd g14 (by simp) | trace_state
                            · refine vc_skip ?_
                              refine thn ?_
                              refine vc_sr ?_
                              refine vo ?_
                              refine vnt ?_
                              refine vc_ret ?_
                              refine fin_i [] rfl (fz ?_) (fz ?_) <;> first | trivial | rfl
end Go.Proofs.YtnikopahkjmneaaGreat
end
section
namespace Go.Proofs.YtnikopahkjmneaaGreat
open Go Go.RowKit Go.Vc
set_option linter.unusedVariables false
set_option linter.unusedSimpArgs false
set_option linter.unnecessarySimpa false
theorem f2_map {ι α β : Type} {R : α → β → Prop} {f : ι → α} {g : ι → β} : ∀ {l : List ι}, (∀ i ∈ l, R (f i) (g i)) → F2 R (l.map f) (l.map g)
  | [], _ => .nil
  | i :: l, h => .cons (h i (List.mem_cons_self ..)) (f2_map fun j hj => h j (List.mem_cons_of_mem _ hj))
theorem ab_sns {w : World} {ws : List Sn} {u : Value} (h : Holds w ws [u]) : AB w (.one (.rd (snQ (ws.map snE)))) u ∧ ws.length ≤ maxLen ∧ ∀ x ∈ ws, x.2.2.length ≤ maxLen := by
  obtain ⟨a, cap, e, h1, h2, h3⟩ := h.slice
  obtain rfl : u = .slice a ws.length cap := by simpa using e
  have key : ∀ i, i < ws.length → ∃ e : List Value, sntR w (snE (at' ws i)) e ∧ (e.length = 3 ∧ e.all (·.oneCell') = true) ∧ (∃ b off, a = some ⟨b, off, none⟩ ∧ ∀ j, j < 3 → w.cell? ⟨b, off + i * 3 + j, none⟩ = e[j]?) ∧ (at' ws i).2.2.length ≤ maxLen := fun i hi => by
    obtain ⟨b, off, ts, ha, ht, hc⟩ := h3 i hi
    rw [← atp_eq hi] at ht
    obtain ⟨bs, v1, v2, b1, b2, rfl, _, ⟨rfl, _, _⟩, v3, v4, b3, b4, rfl, _, ⟨rfl, _, _⟩, t⟩ := ht
    have hv : Holds w (at' ws i).2.2 v4 := ⟨b4, t⟩
    obtain ⟨c, cp, rfl, q1, q2, _⟩ := hv.slice
    exact ⟨_, ⟨_, rfl, rb_sl (fun _ => rfl) hv⟩, ⟨rfl, rfl⟩, ⟨b, off, ha, hc⟩, by omega⟩
  obtain ⟨F, hF⟩ := Deep.choose_lt key
  have hr : RB w (.rd (snQ (ws.map snE))) (.slice a ws.length cap) := by
    show (snQ (ws.map snE)).P w _
    refine ⟨(List.range ws.length).map F, ⟨a, cap, by simp, by simpa using h1, h2, fun e he => ?_, fun hne => ?_⟩, ?_⟩
    · obtain ⟨i, hi, rfl⟩ := List.mem_map.1 he
      exact (hF i (List.mem_range.1 hi)).2.1
    · have hl : 0 < ws.length := by
        rcases Nat.eq_zero_or_pos ws.length with h0 | h0
        · rw [h0] at hne; exact (hne rfl).elim
        · exact h0
      obtain ⟨b, off, ha, _⟩ := (hF 0 hl).2.2.1
      refine ⟨b, off, ha, fun i e he j hj => ?_⟩
      rw [List.getElem?_map] at he
      obtain ⟨x, hx, rfl⟩ := Option.map_eq_some_iff.1 he
      obtain ⟨hi, rfl⟩ := List.getElem?_eq_some_iff.1 hx
      rw [List.length_range] at hi
      obtain ⟨b', off', ha', hc⟩ := (hF i hi).2.2.1
      rw [ha] at ha'
      simp only [Option.some.injEq, Addr.mk.injEq, and_true] at ha'
      obtain ⟨rfl, rfl⟩ := ha'
      rw [List.getElem_range]
      exact hc j hj
    · have e : ws.map snE = (List.range ws.length).map fun i => snE (at' ws i) := by
        conv => lhs; rw [← rg_self (l := ws)]
        unfold rgX
        rw [List.map_map]; rfl
      rw [e]
      exact f2_map fun i hi => (hF i (List.mem_range.1 hi)).1
  refine ⟨R.of_rb (w0 := w) (D := fun _ => False) (ρ := fun _ => undef) hr, by omega, fun x hx => ?_⟩
  obtain ⟨i, hi, rfl⟩ := List.getElem_of_mem hx
  rw [← atp_eq hi]
  exact (hF i hi).2.2.2
theorem holds_tx {w : World} {D : (Int × Int × Int × Int) × (Int × Int × Int × List Int) × List (Int × Int × List Int) × Int} {vs : List Value} (h : Holds w D vs) : ∃ v u, vs = [.int .i64 D.1.1, .int .i64 D.1.2.1, .int .i64 D.1.2.2.1, .int .i64 D.1.2.2.2, .int .i64 D.2.1.1, .int .i64 D.2.1.2.1, .int .i64 D.2.1.2.2.1, v, u, .int .i64 D.2.2.2] ∧ Holds w D.2.1.2.2.2 [v] ∧ Holds w D.2.2.1 [u] := by
  obtain ⟨bs, v1, v2, b1, b2, rfl, _, t1, v3, v4, b3, b4, rfl, _, t2, v5, v6, b5, b6, rfl, _, t3, t4⟩ := h
  obtain ⟨_, _, _, _, rfl, _, ⟨rfl, _, _⟩, _, _, _, _, rfl, _, ⟨rfl, _, _⟩, _, _, _, _, rfl, _, ⟨rfl, _, _⟩, ⟨rfl, _, _⟩⟩ := t1
  obtain ⟨_, _, _, _, rfl, _, ⟨rfl, _, _⟩, _, _, _, _, rfl, _, ⟨rfl, _, _⟩, _, v9, _, b9, rfl, _, ⟨rfl, _, _⟩, t5⟩ := t2
  obtain ⟨rfl, _, _⟩ := t4
  have h3 : Holds w D.2.2.1 v5 := ⟨_, t3⟩
  have h5 : Holds w D.2.1.2.2.2 v9 := ⟨b9, t5⟩
  obtain ⟨a, c, e3, _⟩ := h3.slice
  obtain ⟨a2, c2, e5, _⟩ := h5.slice
  rw [e3] at h3 ⊢
  rw [e5] at h5 ⊢
  exact ⟨_, _, rfl, h5, h3⟩
theorem walk_FnExactSendPacket (w : World) (aList : Value) (aListD : List (Int × Int × Int × Bool)) (haList : Holds w aListD [aList]) (aM : Array Value) (aMD : List ByteArray) (haM : Holds w aMD aM.toList) (aDomain : Int) (haDomain : i64ok aDomain) (aQ : Array Value) (aQD : (Int × Int × Int × Int) × (Int × Int × Int × List Int) × List (Int × Int × List Int) × Int) (haQ : Holds w aQD aQ.toList) (aP_DstMac : Int) (haP_DstMac : i64ok aP_DstMac) (aP_SrcMac : Int) (haP_SrcMac : i64ok aP_SrcMac) (aP_Vlan : Int) (haP_Vlan : i64ok aP_Vlan) (aP_Tos : Int) (haP_Tos : i64ok aP_Tos) (aP_Id : Int) (haP_Id : i64ok aP_Id) (aP_Ttl : Int) (haP_Ttl : i64ok aP_Ttl) (aP_SrcIp : Int) (haP_SrcIp : i64ok aP_SrcIp) (aP_DstIp : Int) (haP_DstIp : i64ok aP_DstIp) (aP_Seg_Kind : Int) (haP_Seg_Kind : i64ok aP_Seg_Kind) (aP_Seg_SrcPort : Int) (haP_Seg_SrcPort : i64ok aP_Seg_SrcPort) (aP_Seg_DstPort : Int) (haP_Seg_DstPort : i64ok aP_Seg_DstPort) (aP_Seg_Seq : Int) (haP_Seg_Seq : i64ok aP_Seg_Seq) (aP_Seg_Ack : Int) (haP_Seg_Ack : i64ok aP_Seg_Ack) (aP_Seg_Flags : Int) (haP_Seg_Flags : i64ok aP_Seg_Flags) (aP_Seg_Window : Int) (haP_Seg_Window : i64ok aP_Seg_Window) (aP_Seg_Body : ByteArray) (haP_Seg_Body : aP_Seg_Body.size ≤ maxLen) (aSize : Int) (haSize : i64ok aSize) (aCut : Int) (haCut : i64ok aCut) :
    Calls Tryz.prog 3 #[aList, .agg aM, .int .i64 aDomain, .agg aQ, .agg #[.int .i64 aP_DstMac, .int .i64 aP_SrcMac, .int .i64 aP_Vlan, .int .i64 aP_Tos, .int .i64 aP_Id, .int .i64 aP_Ttl, .int .i64 aP_SrcIp, .int .i64 aP_DstIp, .int .i64 aP_Seg_Kind, .int .i64 aP_Seg_SrcPort, .int .i64 aP_Seg_DstPort, .int .i64 aP_Seg_Seq, .int .i64 aP_Seg_Ack, .int .i64 aP_Seg_Flags, .int .i64 aP_Seg_Window, .string aP_Seg_Body], .int .i64 aSize, .int .i64 aCut] w fun e w' => e = .returned (.bool true) ∧ Ex w w' := by
  obtain ⟨v, u, eQ, hv, hu⟩ := holds_tx haQ
  obtain ⟨vM, rfl⟩ : ∃ v, aM = #[v] := by
    obtain ⟨bs, a, c, hv, _⟩ := haM
    exact ⟨_, Array.toList_inj.1 hv⟩
  have hM : Holds w aMD [vM] := haM
  have e2 : aQ = aQ.toList.toArray := by simp
  rw [eQ] at e2
  subst e2
  obtain ⟨_, _, _, p1, p2, _, p3⟩ := haList.flat
  obtain ⟨_, _, _, m1, m2, _, m3⟩ := hM.flat
  obtain ⟨_, _, _, f1, f2, _, f3⟩ := hv.flat
  obtain ⟨s1, s2, s3⟩ := ab_sns hu
  have hML : maxLen = 9223372036854775807 := rfl
  have hc := c_laws_FnExactSendPacket (l := aListD) (ps := aMD) (d := aDomain) (b := aQD.1.1) (s := aQD.1.2.1) (h := aQD.1.2.2.1) (t := aQD.1.2.2.2) (pb := aQD.2.1.1) (pz := aQD.2.1.2.1) (pc := aQD.2.1.2.2.1) (nx := aQD.2.2.2) (size := aSize) (cut := aCut) (fr := aQD.2.1.2.2.2) (ws := aQD.2.2.1) (p := ⟨aP_DstMac, aP_SrcMac, aP_Vlan, aP_Tos, aP_Id, aP_Ttl, aP_SrcIp, aP_DstIp, aP_Seg_Kind, aP_Seg_SrcPort, aP_Seg_DstPort, aP_Seg_Seq, aP_Seg_Ack, aP_Seg_Flags, aP_Seg_Window, aP_Seg_Body⟩) (by omega) (by omega) (fun p hp => m3 p hp) (by omega) (by omega) (fun x hx => s3 x hx) haP_Seg_Body
  exact old_one hc (w := w) (vs := [aList, .agg #[vM], .int .i64 aDomain, .agg #[.int .i64 aQD.1.1, .int .i64 aQD.1.2.1, .int .i64 aQD.1.2.2.1, .int .i64 aQD.1.2.2.2, .int .i64 aQD.2.1.1, .int .i64 aQD.2.1.2.1, .int .i64 aQD.2.1.2.2.1, v, u, .int .i64 aQD.2.2.2], .agg #[.int .i64 aP_DstMac, .int .i64 aP_SrcMac, .int .i64 aP_Vlan, .int .i64 aP_Tos, .int .i64 aP_Id, .int .i64 aP_Ttl, .int .i64 aP_SrcIp, .int .i64 aP_DstIp, .int .i64 aP_Seg_Kind, .int .i64 aP_Seg_SrcPort, .int .i64 aP_Seg_DstPort, .int .i64 aP_Seg_Seq, .int .i64 aP_Seg_Ack, .int .i64 aP_Seg_Flags, .int .i64 aP_Seg_Window, .string aP_Seg_Body], .int .i64 aSize, .int .i64 aCut])
    (.cons (ab_mps haList) (.cons (ab_mem hM) (.cons ⟨rfl, rfl⟩ (.cons ⟨_, rfl, .cons ⟨rfl, rfl⟩ (.cons ⟨rfl, rfl⟩ (.cons ⟨rfl, rfl⟩ (.cons ⟨rfl, rfl⟩ (.cons ⟨rfl, rfl⟩ (.cons ⟨rfl, rfl⟩ (.cons ⟨rfl, rfl⟩ (.cons (R.of_rb (rb_sl (fun _ => rfl) hv)) (.cons s1 (.cons ⟨rfl, rfl⟩ .nil)))))))))⟩ (.cons (ab_agg [.int .i64 aP_DstMac, .int .i64 aP_SrcMac, .int .i64 aP_Vlan, .int .i64 aP_Tos, .int .i64 aP_Id, .int .i64 aP_Ttl, .int .i64 aP_SrcIp, .int .i64 aP_DstIp, .int .i64 aP_Seg_Kind, .int .i64 aP_Seg_SrcPort, .int .i64 aP_Seg_DstPort, .int .i64 aP_Seg_Seq, .int .i64 aP_Seg_Ack, .int .i64 aP_Seg_Flags, .int .i64 aP_Seg_Window, .string aP_Seg_Body] rfl) (.cons ⟨rfl, rfl⟩ (.cons ⟨rfl, rfl⟩ .nil)))))))
end Go.Proofs.YtnikopahkjmneaaGreat
end

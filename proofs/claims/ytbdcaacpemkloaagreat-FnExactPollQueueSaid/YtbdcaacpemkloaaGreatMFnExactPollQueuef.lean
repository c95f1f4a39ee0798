/- Part 6 of what the proof of FnExactPollQueue rests on: an idealised machine, contracts of functions, and the walk of the law. No condition. -/
import Derived.Test.YtbdcaacpemkloaaGreatMFnExactPollQueuee
section
namespace Go.Proofs.YtbdcaacpemkloaaGreat
open Go Go.RowKit Go.Vc
set_option linter.unusedVariables false
set_option linter.unusedSimpArgs false
set_option linter.unnecessarySimpa false
theorem eth_sz {s : ByteArray} (h : (ethX s).ok = true) : 18 ≤ s.size := by
  have h2 : inB ((ethX s).body.size : Int) 46 400 = true := by
    unfold EthX.ok ethOkB at h
    simp only [Bool.and_eq_true] at h
    exact h.2
  have := inB_iff.1 h2
  have := ethX_body s
  omega
theorem eth_n {s : ByteArray} {e : EthX} (hx : ethX s = e) (h : s.size < 18 ∨ e.ok = false) : ethPF s = ⟨0, 0, 0, 0, ⟨#[]⟩⟩ ∧ ethPB s = false := by
  have hb : ethPB s = false := by
    unfold ethPB
    rcases h with h | h
    · rw [decide_eq_false (by omega)]; rfl
    · rw [hx, h, Bool.and_false]
  exact ⟨ethPF_n hb, hb⟩
theorem eth_y {s : ByteArray} {e : EthX} (hx : ethX s = e) (h : e.ok = true) : ethPF s = e ∧ ethPB s = true := by
  have hb : ethPB s = true := by
    have := eth_sz (hx ▸ h)
    unfold ethPB
    rw [decide_eq_true this, hx, h]; rfl
  exact ⟨(ethPF_y hb).trans hx, hb⟩
theorem ip_n {s : ByteArray} (h : s.size < 20 ∨ get16 s 2 < 20 ∨ (s.size : Int) < get16 s 2 ∨ (ipX s).ok = false ∨ ¬ (ipX s).im = s.extract (Int.toNat 0) (get16 s 2).toNat) : ipPF s = ⟨0, 0, 0, 0, 0, 0, ⟨#[]⟩⟩ ∧ ipPB s = false := by
  have hb : ipPB s = false := by
    unfold ipPB
    rcases h with h | h | h | h | h
    · rw [decide_eq_false (by omega)]; rfl
    · rw [decide_eq_false (p := 20 ≤ get16 s 2) (by omega)]; simp
    · rw [decide_eq_false (p := get16 s 2 ≤ s.size) (by omega)]; simp
    · rw [h]; simp
    · rw [decide_eq_false h]; simp
  exact ⟨ipPF_n hb, hb⟩
theorem ip_y {s : ByteArray} (h1 : 20 ≤ s.size) (h2 : 20 ≤ get16 s 2) (h3 : get16 s 2 ≤ s.size) (h4 : (ipX s).ok = true) (h5 : (ipX s).im = s.extract (Int.toNat 0) (get16 s 2).toNat) : ipPF s = ipX s ∧ ipPB s = true := by
  have hb : ipPB s = true := by
    unfold ipPB
    rw [decide_eq_true h1, decide_eq_true h2, decide_eq_true h3, h4, decide_eq_true h5]; rfl
  exact ⟨ipPF_y hb, hb⟩
theorem seg_n0 {src dst kind : Int} {s : ByteArray} (h1 : ¬ (kind = 6 ∧ 20 ≤ s.size)) (h2 : ¬ (kind = 17 ∧ 8 ≤ s.size)) : segPF src dst kind s = ⟨0, 0, 0, 0, 0, 0, 0, ⟨#[]⟩⟩ ∧ segPB src dst kind s = false := by
  have hb : segPB src dst kind s = false := by
    unfold segPB
    have e1 : (decide (kind = 6) && decide (20 ≤ s.size)) = false := by rw [← Bool.decide_and]; exact decide_eq_false h1
    have e2 : (decide (kind = 17) && decide (8 ≤ s.size)) = false := by rw [← Bool.decide_and]; exact decide_eq_false h2
    rw [e1, e2]; rfl
  exact ⟨segPF_n hb, hb⟩
theorem seg_nx {src dst kind : Int} {s : ByteArray} {g : SegX} (hx : segX kind s = g) (h : g.ok src dst = false ∨ ¬ g.im src dst = s) : segPF src dst kind s = ⟨0, 0, 0, 0, 0, 0, 0, ⟨#[]⟩⟩ ∧ segPB src dst kind s = false := by
  have hb : segPB src dst kind s = false := by
    unfold segPB
    rw [hx]
    rcases h with h | h
    · rw [h]; simp
    · rw [decide_eq_false h]; simp
  exact ⟨segPF_n hb, hb⟩
theorem seg_yx {src dst kind : Int} {s : ByteArray} {g : SegX} (hx : segX kind s = g) (hk : (kind = 6 ∧ 20 ≤ s.size) ∨ (kind = 17 ∧ 8 ≤ s.size)) (h1 : g.ok src dst = true) (h2 : g.im src dst = s) : segPF src dst kind s = g ∧ segPB src dst kind s = true := by
  have hb : segPB src dst kind s = true := by
    unfold segPB
    rw [hx, h1, decide_eq_true h2]
    rcases hk with ⟨a, b⟩ | ⟨a, b⟩ <;> rw [decide_eq_true a, decide_eq_true b] <;> simp
  exact ⟨(segPF_y hb).trans hx, hb⟩
set_option maxHeartbeats 4000000 in
theorem c_impl_ParseEth {s : ByteArray} (hs_s : s.size ≤ 1099511627776 := by first | assumption | omega | (simp only [ByteArray.size_append, ByteArray.size_extract, strOfNums_size, List.length_cons, List.length_nil]; omega)) : Con0 Tryz.prog 178 [Z s] (.tup [.agg [V (ethPF s).dst, V (ethPF s).src, V (ethPF s).vl, V (ethPF s).ty, VS (ethPF s).body], B (ethPB s)]) [] := by
  refine con_i Tryz.func178 Tryz.ntmps178 (t := [(0, Z s)]) rfl ?_
  refine vc_sr ?_
  iterate 2 refine vo ?_
  refine vnt ?_
  refine vc_seq' ?_
  refine vc_sr ?_
  iterate 3 refine vo ?_
  refine vnt ?_
  refine vc_if (fun g1 => ?_) (fun g1 => ?_)
  · refine vc_sr ?_
    iterate 3 refine vo ?_
    refine vnt ?_
    refine vc_ret ?_
    refine thn_r ?_
    refine fin_i [] rfl (fz ?_) trivial
    have hh := eth_n (s := s) rfl (.inl (by omega))
    rw [hh.1, hh.2]
    trivial
  · have k0 := get16_in (s := s) (i := 0) (by omega) (by omega)
    have k1 := get32_in (s := s) (i := 2) (by omega) (by omega)
    have k2 := get16_in (s := s) (i := 6) (by omega) (by omega)
    have k3 := get32_in (s := s) (i := 8) (by omega) (by omega)
    refine vc_skip ?_
    refine thn ?_
    refine vc_sr ?_
    refine vo ?_
    refine voc c_impl_Get16 rfl rfl ?_
    iterate 2 refine vo ?_
    refine voc c_impl_Get32 rfl rfl ?_
    refine vo ?_
    refine veq (m6_sh k0 k1) ?_
    refine vo ?_
    refine voc c_impl_Get16 rfl rfl ?_
    iterate 2 refine vo ?_
    refine voc c_impl_Get32 rfl rfl ?_
    refine vo ?_
    refine veq (m6_sh k2 k3) ?_
    refine vo ?_
    refine voc c_impl_Get16 rfl rfl ?_
    iterate 2 refine vo ?_
    try first | refine vdr ?_ | refine vtk ?_
    iterate 3 refine vo ?_
    refine vnt ?_
    refine vc_seq' ?_
    refine vc_sr ?_
    iterate 4 refine vo ?_
    refine vsp (fun g2 => ?_) (fun g2 => ?_)
    · iterate 3 refine von ?_
      refine vo ?_
      refine vnt ?_
      refine vc_if (fun g3 => ?_) (fun g3 => ?_)
      · refine vc_sr ?_
        refine vo ?_
        refine voc c_impl_Get16 rfl rfl ?_
        iterate 2 refine vo ?_
        refine vnt ?_
        refine vc_sr ?_
        refine vo ?_
        refine voc c_impl_Get16 rfl rfl ?_
        iterate 2 refine vo ?_
        refine vnt ?_
        refine vc_region ?_
        iterate 2 refine vo ?_
        try first | refine vdr ?_ | refine vtk ?_
        iterate 2 refine vo ?_
        refine vnt ?_
        refine vc_seq' ?_
        refine vc_sr ?_
        refine vo ?_
        refine voc c_impl_EthOk rfl rfl ?_
        refine vo ?_
        refine vnt ?_
        refine vc_if (fun g4 => ?_) (fun g4 => ?_)
        · refine vc_sr ?_
          iterate 3 refine vo ?_
          refine vnt ?_
          refine vc_ret ?_
          refine thn_r ?_
          refine fin_i [] rfl (fz ?_) trivial
          have hx : ethX s = ⟨m6 s 0, m6 s 6, get16 s 14, get16 s 16, s.extract (Int.toNat 18) s.size⟩ := if_pos ⟨by omega, by omega⟩
          have hh := eth_n hx (.inr g4)
          rw [hh.1, hh.2]
          trivial
        · refine vc_skip ?_
          refine thn ?_
          refine vc_sr ?_
          iterate 3 refine vo ?_
          refine vnt ?_
          refine vc_ret ?_
          refine fin_i [] rfl (fz ?_) trivial
          have hx : ethX s = ⟨m6 s 0, m6 s 6, get16 s 14, get16 s 16, s.extract (Int.toNat 18) s.size⟩ := if_pos ⟨by omega, by omega⟩
          have hh := eth_y hx g4
          rw [hh.1, hh.2]
          first | trivial | (repeat' (refine And.intro ?_ ?_)) <;> first | rfl | trivial | omega | simp [m6]
      · refine vc_skip ?_
        refine thn ?_
        refine vc_seq' ?_
        refine vc_sr ?_
        refine vo ?_
        refine voc c_impl_EthOk rfl rfl ?_
        refine vo ?_
        refine vnt ?_
        refine vc_if (fun g5 => ?_) (fun g5 => ?_)
        · refine vc_sr ?_
          iterate 3 refine vo ?_
          refine vnt ?_
          refine vc_ret ?_
          refine thn_r ?_
          refine fin_i [] rfl (fz ?_) trivial
          have hx : ethX s = ⟨m6 s 0, m6 s 6, -1, get16 s 12, s.extract (Int.toNat 14) s.size⟩ := if_neg (by omega)
          have hh := eth_n hx (.inr g5)
          rw [hh.1, hh.2]
          trivial
        · refine vc_skip ?_
          refine thn ?_
          refine vc_sr ?_
          iterate 3 refine vo ?_
          refine vnt ?_
          refine vc_ret ?_
          refine fin_i [] rfl (fz ?_) trivial
          have hx : ethX s = ⟨m6 s 0, m6 s 6, -1, get16 s 12, s.extract (Int.toNat 14) s.size⟩ := if_neg (by omega)
          have hh := eth_y hx g5
          rw [hh.1, hh.2]
          first | trivial | (repeat' (refine And.intro ?_ ?_)) <;> first | rfl | trivial | omega | simp [m6]
    · iterate 3 refine vof ?_
      refine vo ?_
      refine vnt ?_
      refine vc_else ?_
      refine vc_skip ?_
      refine thn ?_
      refine vc_seq' ?_
      refine vc_sr ?_
      refine vo ?_
      refine voc c_impl_EthOk rfl rfl ?_
      refine vo ?_
      refine vnt ?_
      refine vc_if (fun g6 => ?_) (fun g6 => ?_)
      · refine vc_sr ?_
        iterate 3 refine vo ?_
        refine vnt ?_
        refine vc_ret ?_
        refine thn_r ?_
        refine fin_i [] rfl (fz ?_) trivial
        have hx : ethX s = ⟨m6 s 0, m6 s 6, -1, get16 s 12, s.extract (Int.toNat 14) s.size⟩ := if_neg (by omega)
        have hh := eth_n hx (.inr g6)
        rw [hh.1, hh.2]
        trivial
      · refine vc_skip ?_
        refine thn ?_
        refine vc_sr ?_
        iterate 3 refine vo ?_
        refine vnt ?_
        refine vc_ret ?_
        refine fin_i [] rfl (fz ?_) trivial
        have hx : ethX s = ⟨m6 s 0, m6 s 6, -1, get16 s 12, s.extract (Int.toNat 14) s.size⟩ := if_neg (by omega)
        have hh := eth_y hx g6
        rw [hh.1, hh.2]
        first | trivial | (repeat' (refine And.intro ?_ ?_)) <;> first | rfl | trivial | omega | simp [m6]
set_option maxHeartbeats 4000000 in
theorem c_impl_ParseIp {s : ByteArray} (hs_s : s.size ≤ 1099511627776 := by first | assumption | omega | (simp only [ByteArray.size_append, ByteArray.size_extract, strOfNums_size, List.length_cons, List.length_nil]; omega)) : Con0 Tryz.prog 184 [Z s] (.tup [.agg [V (ipPF s).tos, V (ipPF s).id, V (ipPF s).ttl, V (ipPF s).pr, V (ipPF s).src, V (ipPF s).dst, VS (ipPF s).body], B (ipPB s)]) [] := by
  refine con_i Tryz.func184 Tryz.ntmps184 (t := [(0, Z s)]) rfl ?_
  refine vc_sr ?_
  iterate 2 refine vo ?_
  refine vnt ?_
  refine vc_sr ?_
  refine vo ?_
  refine voc c_impl_Get16 rfl rfl ?_
  refine vo ?_
  refine vnt ?_
  refine vc_seq' ?_
  refine vc_sr ?_
  iterate 4 refine vo ?_
  refine vsp (fun g1 => ?_) (fun g1 => ?_)
  · iterate 2 refine vof ?_
    iterate 2 refine vo ?_
    iterate 4 refine vof ?_
    refine vo ?_
    refine vnt ?_
    refine vc_then ?_
    refine vc_sr ?_
    iterate 3 refine vo ?_
    refine vnt ?_
    refine vc_ret ?_
    refine thn_r ?_
    refine fin_i [] rfl (fz ?_) trivial
    have hh := ip_n (s := s) (.inl (by omega))
    rw [hh.1, hh.2]
    trivial
  · iterate 2 refine von ?_
    iterate 2 refine vo ?_
    refine vsp (fun g2 => ?_) (fun g2 => ?_)
    · iterate 4 refine vof ?_
      refine vo ?_
      refine vnt ?_
      refine vc_then ?_
      refine vc_sr ?_
      iterate 3 refine vo ?_
      refine vnt ?_
      refine vc_ret ?_
      refine thn_r ?_
      refine fin_i [] rfl (fz ?_) trivial
      have hh := ip_n (s := s) (.inr (.inl (by omega)))
      rw [hh.1, hh.2]
      trivial
    · iterate 4 refine von ?_
      refine vo ?_
      refine vnt ?_
      refine vc_if (fun g3 => ?_) (fun g3 => ?_)
      · refine vc_sr ?_
        iterate 3 refine vo ?_
        refine vnt ?_
        refine vc_ret ?_
        refine thn_r ?_
        refine fin_i [] rfl (fz ?_) trivial
        have hh := ip_n (s := s) (.inr (.inr (.inl (by omega))))
        rw [hh.1, hh.2]
        trivial
      · refine vc_skip ?_
        refine thn ?_
        refine vc_sr ?_
        iterate 3 refine vo ?_
        try refine veq (i64_byt _ _) ?_
        refine vo ?_
        refine voc c_impl_Get16 rfl rfl ?_
        iterate 3 refine vo ?_
        try refine veq (i64_byt _ _) ?_
        iterate 3 refine vo ?_
        try refine veq (i64_byt _ _) ?_
        refine vo ?_
        refine voc c_impl_Get32 rfl rfl ?_
        refine vo ?_
        refine voc c_impl_Get32 rfl rfl ?_
        iterate 3 refine vo ?_
        try first | refine vdr ?_ | refine vtk ?_
        iterate 3 refine vo ?_
        refine vnt ?_
        refine vc_sr ?_
        refine vo ?_
        refine voc c_impl_BuildIp rfl rfl ?_
        iterate 5 refine vo ?_
        refine vnt ?_
        refine vc_seq' ?_
        refine vc_sr ?_
        iterate 3 refine vo ?_
        refine vsp (fun g4 => ?_) (fun g4 => ?_)
        · iterate 5 refine vof ?_
          refine vo ?_
          refine vnt ?_
          refine vc_then ?_
          refine vc_sr ?_
          iterate 3 refine vo ?_
          refine vnt ?_
          refine vc_ret ?_
          refine thn_r ?_
          refine fin_i [] rfl (fz ?_) trivial
          have hh := ip_n (s := s) (.inr (.inr (.inr (.inl g4))))
          rw [hh.1, hh.2]
          trivial
        · iterate 4 refine von ?_
          try first | refine vdr ?_ | refine vtk ?_
          refine von ?_
          refine vo ?_
          refine vnt ?_
          refine vc_if (fun g5 => ?_) (fun g5 => ?_)
          · refine vc_sr ?_
            iterate 3 refine vo ?_
            refine vnt ?_
            refine vc_ret ?_
            refine thn_r ?_
            refine fin_i [] rfl (fz ?_) trivial
            have hh := ip_n (s := s) (.inr (.inr (.inr (.inr g5))))
            rw [hh.1, hh.2]
            trivial
          · refine vc_skip ?_
            refine thn ?_
            refine vc_sr ?_
            iterate 3 refine vo ?_
            refine vnt ?_
            refine vc_ret ?_
            refine fin_i [] rfl (fz ?_) trivial
            have hh := ip_y (s := s) (by omega) (by omega) (by omega) g4 g5
            rw [hh.1, hh.2]
            first | trivial | (repeat' (refine And.intro ?_ ?_)) <;> first | rfl | trivial | omega | simp [m6]
set_option maxHeartbeats 4000000 in
theorem c_impl_ParseSegment {src dst kind : Int} {s : ByteArray} (hs_s : s.size ≤ 1099511627776 := by first | assumption | omega | (simp only [ByteArray.size_append, ByteArray.size_extract, strOfNums_size, List.length_cons, List.length_nil]; omega)) : Con0 Tryz.prog 185 [I src, I dst, I kind, Z s] (.tup [.agg [V (segPF src dst kind s).kind, V (segPF src dst kind s).sp, V (segPF src dst kind s).dp, V (segPF src dst kind s).seq, V (segPF src dst kind s).ack, V (segPF src dst kind s).fl, V (segPF src dst kind s).win, VS (segPF src dst kind s).body], B (segPB src dst kind s)]) [] := by
  refine con_i Tryz.func185 Tryz.ntmps185 (t := [(0, I src), (1, I dst), (2, I kind), (3, Z s)]) rfl ?_
  refine vc_sr ?_
  iterate 2 refine vo ?_
  refine vnt ?_
  refine vc_sr ?_
  iterate 2 refine vo ?_
  refine voc c_impl_Get16 rfl rfl ?_
  refine vo ?_
  refine voc c_impl_Get16 rfl rfl ?_
  iterate 3 refine vo ?_
  refine vnt ?_
  refine vc_seq' ?_
  refine vc_block ?_
  refine vc_sr ?_
  iterate 3 refine vo ?_
  refine vsp (fun g1 => ?_) (fun g1 => ?_)
  · iterate 3 refine von ?_
    iterate 2 refine vo ?_
    refine vnt ?_
    refine vc_if (fun g2 => ?_) (fun g2 => ?_)
    · refine vc_sr ?_
      refine vo ?_
      refine voc c_impl_Get32 rfl rfl ?_
      iterate 2 refine vo ?_
      refine vnt ?_
      refine vc_sr ?_
      refine vo ?_
      refine voc c_impl_Get32 rfl rfl ?_
      iterate 2 refine vo ?_
      refine vnt ?_
      refine vc_sr ?_
      iterate 3 refine vo ?_
      try refine veq (i64_byt _ _) ?_
      iterate 2 refine vo ?_
      refine vnt ?_
      refine vc_sr ?_
      refine vo ?_
      refine voc c_impl_Get16 rfl rfl ?_
      iterate 2 refine vo ?_
      refine vnt ?_
      refine vc_region ?_
      iterate 2 refine vo ?_
      try first | refine vdr ?_ | refine vtk ?_
      iterate 2 refine vo ?_
      refine vnil ?_
      refine inB_n ?_
      refine thn ?_
      refine vc_sr ?_
      iterate 3 refine vo ?_
      refine voc c_impl_BuildSegment rfl rfl ?_
      iterate 5 refine vo ?_
      refine vnt ?_
      refine vc_seq' ?_
      refine vc_sr ?_
      iterate 3 refine vo ?_
      refine vsp (fun g3 => ?_) (fun g3 => ?_)
      · iterate 3 refine vof ?_
        refine vo ?_
        refine vnt ?_
        refine vc_then ?_
        refine vc_sr ?_
        iterate 3 refine vo ?_
        refine vnt ?_
        refine vc_ret ?_
        refine thn_r ?_
        refine fin_i [] rfl (fz ?_) trivial
        have hx : segX kind s = ⟨kind, get16 s 0, get16 s 2, get32 s 4, get32 s 8, bAt s 13, get16 s 14, s.extract (Int.toNat 20) s.size⟩ := if_pos (by omega)
        have hh := seg_nx (src := src) (dst := dst) hx (.inl g3)
        rw [hh.1, hh.2]
        trivial
      · iterate 3 refine von ?_
        refine vo ?_
        refine vnt ?_
        refine vc_if (fun g4 => ?_) (fun g4 => ?_)
        · refine vc_sr ?_
          iterate 3 refine vo ?_
          refine vnt ?_
          refine vc_ret ?_
          refine thn_r ?_
          refine fin_i [] rfl (fz ?_) trivial
          have hx : segX kind s = ⟨kind, get16 s 0, get16 s 2, get32 s 4, get32 s 8, bAt s 13, get16 s 14, s.extract (Int.toNat 20) s.size⟩ := if_pos (by omega)
          have hh := seg_nx (src := src) (dst := dst) hx (.inr g4)
          rw [hh.1, hh.2]
          trivial
        · refine vc_skip ?_
          refine thn ?_
          refine vc_sr ?_
          iterate 3 refine vo ?_
          refine vnt ?_
          refine vc_ret ?_
          refine fin_i [] rfl (fz ?_) trivial
          have hx : segX kind s = ⟨kind, get16 s 0, get16 s 2, get32 s 4, get32 s 8, bAt s 13, get16 s 14, s.extract (Int.toNat 20) s.size⟩ := if_pos (by omega)
          have hh := seg_yx (src := src) (dst := dst) hx (.inl ⟨by omega, by omega⟩) g3 g4
          rw [hh.1, hh.2]
          first | trivial | (repeat' (refine And.intro ?_ ?_)) <;> first | rfl | trivial | omega | simp [m6]
    · refine vc_sr ?_
      iterate 3 refine vo ?_
      refine vsp (fun g5 => ?_) (fun g5 => ?_)
      · iterate 3 refine von ?_
        iterate 2 refine vo ?_
        refine vnt ?_
        refine vc_if (fun g6 => ?_) (fun g6 => ?_)
        · refine vc_region ?_
          iterate 2 refine vo ?_
          try first | refine vdr ?_ | refine vtk ?_
          iterate 2 refine vo ?_
          refine vnil ?_
          refine inB_n ?_
          refine thn ?_
          refine vc_sr ?_
          iterate 3 refine vo ?_
          refine voc c_impl_BuildSegment rfl rfl ?_
          iterate 5 refine vo ?_
          refine vnt ?_
          refine vc_seq' ?_
          refine vc_sr ?_
          iterate 3 refine vo ?_
          refine vsp (fun g7 => ?_) (fun g7 => ?_)
          · iterate 3 refine vof ?_
            refine vo ?_
            refine vnt ?_
            refine vc_then ?_
            refine vc_sr ?_
            iterate 3 refine vo ?_
            refine vnt ?_
            refine vc_ret ?_
            refine thn_r ?_
            refine fin_i [] rfl (fz ?_) trivial
            have hx : segX kind s = ⟨kind, get16 s 0, get16 s 2, 0, 0, 0, 0, s.extract (Int.toNat 8) s.size⟩ := if_neg (by omega)
            have hh := seg_nx (src := src) (dst := dst) hx (.inl g7)
            rw [hh.1, hh.2]
            trivial
          · iterate 3 refine von ?_
            refine vo ?_
            refine vnt ?_
            refine vc_if (fun g8 => ?_) (fun g8 => ?_)
            · refine vc_sr ?_
              iterate 3 refine vo ?_
              refine vnt ?_
              refine vc_ret ?_
              refine thn_r ?_
              refine fin_i [] rfl (fz ?_) trivial
              have hx : segX kind s = ⟨kind, get16 s 0, get16 s 2, 0, 0, 0, 0, s.extract (Int.toNat 8) s.size⟩ := if_neg (by omega)
              have hh := seg_nx (src := src) (dst := dst) hx (.inr g8)
              rw [hh.1, hh.2]
              trivial
            · refine vc_skip ?_
              refine thn ?_
              refine vc_sr ?_
              iterate 3 refine vo ?_
              refine vnt ?_
              refine vc_ret ?_
              refine fin_i [] rfl (fz ?_) trivial
              have hx : segX kind s = ⟨kind, get16 s 0, get16 s 2, 0, 0, 0, 0, s.extract (Int.toNat 8) s.size⟩ := if_neg (by omega)
              have hh := seg_yx (src := src) (dst := dst) hx (.inr ⟨by omega, by omega⟩) g7 g8
              rw [hh.1, hh.2]
              first | trivial | (repeat' (refine And.intro ?_ ?_)) <;> first | rfl | trivial | omega | simp [m6]
        · refine vc_sr ?_
          iterate 3 refine vo ?_
          refine vnt ?_
          refine vc_ret ?_
          refine inB_r ?_
          refine thn_r ?_
          refine fin_i [] rfl (fz ?_) trivial
          have hh := seg_n0 (src := src) (dst := dst) (kind := kind) (s := s) (by omega) (by omega)
          rw [hh.1, hh.2]
          trivial
      · iterate 3 refine vof ?_
        iterate 2 refine vo ?_
        refine vnt ?_
        refine vc_else ?_
        refine vc_sr ?_
        iterate 3 refine vo ?_
        refine vnt ?_
        refine vc_ret ?_
        refine inB_r ?_
        refine thn_r ?_
        refine fin_i [] rfl (fz ?_) trivial
        have hh := seg_n0 (src := src) (dst := dst) (kind := kind) (s := s) (by omega) (by omega)
        rw [hh.1, hh.2]
        trivial
  · iterate 3 refine vof ?_
    iterate 2 refine vo ?_
    refine vnt ?_
    refine vc_else ?_
    refine vc_sr ?_
    iterate 3 refine vo ?_
    refine vsp (fun g9 => ?_) (fun g9 => ?_)
    · iterate 3 refine von ?_
      iterate 2 refine vo ?_
      refine vnt ?_
      refine vc_if (fun g10 => ?_) (fun g10 => ?_)
      · refine vc_region ?_
        iterate 2 refine vo ?_
        try first | refine vdr ?_ | refine vtk ?_
        iterate 2 refine vo ?_
        refine vnil ?_
        refine inB_n ?_
        refine thn ?_
        refine vc_sr ?_
        iterate 3 refine vo ?_
        refine voc c_impl_BuildSegment rfl rfl ?_
        iterate 5 refine vo ?_
        refine vnt ?_
        refine vc_seq' ?_
        refine vc_sr ?_
        iterate 3 refine vo ?_
        refine vsp (fun g11 => ?_) (fun g11 => ?_)
        · iterate 3 refine vof ?_
          refine vo ?_
          refine vnt ?_
          refine vc_then ?_
          refine vc_sr ?_
          iterate 3 refine vo ?_
          refine vnt ?_
          refine vc_ret ?_
          refine thn_r ?_
          refine fin_i [] rfl (fz ?_) trivial
          have hx : segX kind s = ⟨kind, get16 s 0, get16 s 2, 0, 0, 0, 0, s.extract (Int.toNat 8) s.size⟩ := if_neg (by omega)
          have hh := seg_nx (src := src) (dst := dst) hx (.inl g11)
          rw [hh.1, hh.2]
          trivial
        · iterate 3 refine von ?_
          refine vo ?_
          refine vnt ?_
          refine vc_if (fun g12 => ?_) (fun g12 => ?_)
          · refine vc_sr ?_
            iterate 3 refine vo ?_
            refine vnt ?_
            refine vc_ret ?_
            refine thn_r ?_
            refine fin_i [] rfl (fz ?_) trivial
            have hx : segX kind s = ⟨kind, get16 s 0, get16 s 2, 0, 0, 0, 0, s.extract (Int.toNat 8) s.size⟩ := if_neg (by omega)
            have hh := seg_nx (src := src) (dst := dst) hx (.inr g12)
            rw [hh.1, hh.2]
            trivial
          · refine vc_skip ?_
            refine thn ?_
            refine vc_sr ?_
            iterate 3 refine vo ?_
            refine vnt ?_
            refine vc_ret ?_
            refine fin_i [] rfl (fz ?_) trivial
            have hx : segX kind s = ⟨kind, get16 s 0, get16 s 2, 0, 0, 0, 0, s.extract (Int.toNat 8) s.size⟩ := if_neg (by omega)
            have hh := seg_yx (src := src) (dst := dst) hx (.inr ⟨by omega, by omega⟩) g11 g12
            rw [hh.1, hh.2]
            first | trivial | (repeat' (refine And.intro ?_ ?_)) <;> first | rfl | trivial | omega | simp [m6]
      · refine vc_sr ?_
        iterate 3 refine vo ?_
        refine vnt ?_
        refine vc_ret ?_
        refine inB_r ?_
        refine thn_r ?_
        refine fin_i [] rfl (fz ?_) trivial
        have hh := seg_n0 (src := src) (dst := dst) (kind := kind) (s := s) (by omega) (by omega)
        rw [hh.1, hh.2]
        trivial
    · iterate 3 refine vof ?_
      iterate 2 refine vo ?_
      refine vnt ?_
      refine vc_else ?_
      refine vc_sr ?_
      iterate 3 refine vo ?_
      refine vnt ?_
      refine vc_ret ?_
      refine inB_r ?_
      refine thn_r ?_
      refine fin_i [] rfl (fz ?_) trivial
      have hh := seg_n0 (src := src) (dst := dst) (kind := kind) (s := s) (by omega) (by omega)
      rw [hh.1, hh.2]
      trivial
set_option maxHeartbeats 4000000 in
theorem c_impl_ReadImage {s : ByteArray} (hs_s : s.size ≤ 1099511627776 := by first | assumption | omega | (simp only [ByteArray.size_append, ByteArray.size_extract, strOfNums_size, List.length_cons, List.length_nil]; omega)) : Con0 Tryz.prog 88 [Z s] (.tup [.agg [V (rdF s).dm, V (rdF s).sm, V (rdF s).vl, V (rdF s).tos, V (rdF s).id, V (rdF s).ttl, V (rdF s).si, V (rdF s).di, V (rdF s).kind, V (rdF s).sp, V (rdF s).dp, V (rdF s).seq, V (rdF s).ack, V (rdF s).fl, V (rdF s).win, VS (rdF s).body], I (rdC s)]) [] := by
  refine con_i Tryz.func88 Tryz.ntmps88 (t := [(0, Z s)]) rfl ?_
  refine vc_sr ?_
  iterate 2 refine vo ?_
  refine vnt ?_
  refine vc_sr ?_
  refine vo ?_
  refine voc c_impl_ParseEth rfl rfl ?_
  iterate 6 refine vo ?_
  refine vnt ?_
  refine vc_seq' ?_
  refine vc_sr ?_
  iterate 3 refine vo ?_
  refine vsp (fun g1 => ?_) (fun g1 => ?_)
  · iterate 3 refine vof ?_
    refine vo ?_
    refine vnt ?_
    refine vc_then ?_
    refine vc_sr ?_
    iterate 3 refine vo ?_
    refine vnt ?_
    refine vc_ret ?_
    refine thn_r ?_
    refine fin_i [] rfl (fz ?_) trivial
    have hh := rd_2 (.inl g1)
    rw [hh.1, hh.2]
    trivial
  · rw [ethPF_y g1]
    have z1 : (ethX s).body.size ≤ 1099511627776 := Nat.le_trans (ethX_body s) hs_s
    iterate 3 refine von ?_
    refine vo ?_
    refine vnt ?_
    refine vc_if (fun g2 => ?_) (fun g2 => ?_)
    · refine vc_sr ?_
      iterate 3 refine vo ?_
      refine vnt ?_
      refine vc_ret ?_
      refine thn_r ?_
      refine fin_i [] rfl (fz ?_) trivial
      have hh := rd_2 (.inr g2)
      rw [hh.1, hh.2]
      trivial
    · refine vc_skip ?_
      refine thn ?_
      refine vc_sr ?_
      iterate 2 refine vo ?_
      refine voc c_impl_ParseIp rfl rfl ?_
      iterate 6 refine vo ?_
      refine vnt ?_
      refine vc_seq' ?_
      refine vc_sr ?_
      iterate 2 refine vo ?_
      refine vnt ?_
      refine vc_if (fun g3 => ?_) (fun g3 => ?_)
      · refine vc_sr ?_
        iterate 3 refine vo ?_
        refine vnt ?_
        refine vc_ret ?_
        refine thn_r ?_
        refine fin_i [] rfl (fz ?_) trivial
        have hh := rd_3 g1 g2 g3
        rw [hh.1, hh.2]
        trivial
      · rw [ipPF_y g3]
        have z2 : (ipX (ethX s).body).body.size ≤ 1099511627776 := Nat.le_trans (ipX_body (ethX s).body) z1
        refine vc_skip ?_
        refine thn ?_
        refine vc_sr ?_
        iterate 8 refine vo ?_
        refine voc c_impl_ParseSegment rfl rfl ?_
        iterate 6 refine vo ?_
        refine vnt ?_
        refine vc_seq' ?_
        refine vc_sr ?_
        iterate 2 refine vo ?_
        refine vnt ?_
        refine vc_if (fun g4 => ?_) (fun g4 => ?_)
        · refine vc_sr ?_
          iterate 3 refine vo ?_
          refine vnt ?_
          refine vc_ret ?_
          refine thn_r ?_
          refine fin_i [] rfl (fz ?_) trivial
          have hh := rd_4 g1 g2 g3 g4
          rw [hh.1, hh.2]
          trivial
        · rw [segPF_y g4]
          have z3 : (segX (ipX (ethX s).body).pr (ipX (ethX s).body).body).body.size ≤ 1099511627776 := Nat.le_trans (segX_body _ _) z2
          refine vc_skip ?_
          refine thn ?_
          refine vc_sr ?_
          iterate 20 refine vo ?_
          refine vnt ?_
          refine vc_seq' ?_
          refine vc_sr ?_
          refine vo ?_
          refine voc c_impl_SuperOk rfl rfl ?_
          refine vo ?_
          refine vnt ?_
          refine vc_if (fun g5 => ?_) (fun g5 => ?_)
          · refine vc_sr ?_
            iterate 3 refine vo ?_
            refine vnt ?_
            refine vc_ret ?_
            refine thn_r ?_
            refine fin_i [] rfl (fz ?_) trivial
            have hh := rd_5 g1 g2 g3 g4 g5
            rw [hh.1, hh.2]
            trivial
          · refine vc_skip ?_
            refine thn ?_
            refine vc_sr ?_
            iterate 3 refine vo ?_
            refine vnt ?_
            refine vc_ret ?_
            refine fin_i [] rfl (fz ?_) trivial
            have hh := rd_0 g1 g2 g3 g4 g5
            rw [hh.1, hh.2]
            simp only [rdX, mkPk, and_self]
set_option maxHeartbeats 4000000 in
theorem c_spec_ParseEth {s : ByteArray} (hs_s : s.size ≤ 1099511627776 := by first | assumption | omega | (simp only [ByteArray.size_append, ByteArray.size_extract, strOfNums_size, List.length_cons, List.length_nil]; omega)) : Con0 Tryz.prog 198 [Z s] (.tup [.agg [V (ethPF s).dst, V (ethPF s).src, V (ethPF s).vl, V (ethPF s).ty, VS (ethPF s).body], B (ethPB s)]) [] := by
  refine con_i Tryz.func198 Tryz.ntmps198 (t := [(0, Z s)]) rfl ?_
  refine vc_sr ?_
  iterate 2 refine vo ?_
  refine vnt ?_
  refine vc_seq' ?_
  refine vc_sr ?_
  iterate 3 refine vo ?_
  refine vnt ?_
  refine vc_if (fun g1 => ?_) (fun g1 => ?_)
  · refine vc_sr ?_
    iterate 3 refine vo ?_
    refine vnt ?_
    refine vc_ret ?_
    refine thn_r ?_
    refine fin_i [] rfl (fz ?_) trivial
    have hh := eth_n (s := s) rfl (.inl (by omega))
    rw [hh.1, hh.2]
    trivial
  · have k0 := get16_in (s := s) (i := 0) (by omega) (by omega)
    have k1 := get32_in (s := s) (i := 2) (by omega) (by omega)
    have k2 := get16_in (s := s) (i := 6) (by omega) (by omega)
    have k3 := get32_in (s := s) (i := 8) (by omega) (by omega)
    refine vc_skip ?_
    refine thn ?_
    refine vc_sr ?_
    refine vo ?_
    refine voc c_spec_Get16 rfl rfl ?_
    iterate 2 refine vo ?_
    refine voc c_spec_Get32 rfl rfl ?_
    refine vo ?_
    try refine vwr ?_
    refine veq (m6_ad k0 k1) ?_
    refine vo ?_
    refine voc c_spec_Get16 rfl rfl ?_
    iterate 2 refine vo ?_
    refine voc c_spec_Get32 rfl rfl ?_
    refine vo ?_
    try refine vwr ?_
    refine veq (m6_ad k2 k3) ?_
    refine vo ?_
    refine voc c_spec_Get16 rfl rfl ?_
    iterate 2 refine vo ?_
    try first | refine vdr ?_ | refine vtk ?_
    iterate 3 refine vo ?_
    refine vnt ?_
    refine vc_seq' ?_
    refine vc_sr ?_
    iterate 3 refine vo ?_
    refine vnt ?_
    refine vc_if (fun g2 => ?_) (fun g2 => ?_)
    · refine vc_sr ?_
      refine vo ?_
      refine voc c_spec_Get16 rfl rfl ?_
      iterate 2 refine vo ?_
      refine vnt ?_
      refine vc_sr ?_
      refine vo ?_
      refine voc c_spec_Get16 rfl rfl ?_
      iterate 2 refine vo ?_
      refine vnt ?_
      refine vc_region ?_
      iterate 2 refine vo ?_
      try first | refine vdr ?_ | refine vtk ?_
      iterate 2 refine vo ?_
      refine vnt ?_
      refine vc_seq' ?_
      refine vc_sr ?_
      refine vo ?_
      refine voc c_spec_EthOk rfl rfl ?_
      refine vo ?_
      refine vnt ?_
      refine vc_if (fun g3 => ?_) (fun g3 => ?_)
      · refine vc_sr ?_
        iterate 3 refine vo ?_
        refine vnt ?_
        refine vc_ret ?_
        refine thn_r ?_
        refine fin_i [] rfl (fz ?_) trivial
        have hx : ethX s = ⟨m6 s 0, m6 s 6, get16 s 14, get16 s 16, s.extract (Int.toNat 18) s.size⟩ := if_pos ⟨by omega, by omega⟩
        have hh := eth_n hx (.inr g3)
        rw [hh.1, hh.2]
        trivial
      · refine vc_skip ?_
        refine thn ?_
        refine vc_sr ?_
        iterate 3 refine vo ?_
        refine vnt ?_
        refine vc_ret ?_
        refine fin_i [] rfl (fz ?_) trivial
        have hx : ethX s = ⟨m6 s 0, m6 s 6, get16 s 14, get16 s 16, s.extract (Int.toNat 18) s.size⟩ := if_pos ⟨by omega, by omega⟩
        have hh := eth_y hx g3
        rw [hh.1, hh.2]
        first | trivial | (repeat' (refine And.intro ?_ ?_)) <;> first | rfl | trivial | omega | simp [m6]
    · refine vc_skip ?_
      refine thn ?_
      refine vc_seq' ?_
      refine vc_sr ?_
      refine vo ?_
      refine voc c_spec_EthOk rfl rfl ?_
      refine vo ?_
      refine vnt ?_
      refine vc_if (fun g4 => ?_) (fun g4 => ?_)
      · refine vc_sr ?_
        iterate 3 refine vo ?_
        refine vnt ?_
        refine vc_ret ?_
        refine thn_r ?_
        refine fin_i [] rfl (fz ?_) trivial
        have hx : ethX s = ⟨m6 s 0, m6 s 6, -1, get16 s 12, s.extract (Int.toNat 14) s.size⟩ := if_neg (by omega)
        have hh := eth_n hx (.inr g4)
        rw [hh.1, hh.2]
        trivial
      · refine vc_skip ?_
        refine thn ?_
        refine vc_sr ?_
        iterate 3 refine vo ?_
        refine vnt ?_
        refine vc_ret ?_
        refine fin_i [] rfl (fz ?_) trivial
        have hx : ethX s = ⟨m6 s 0, m6 s 6, -1, get16 s 12, s.extract (Int.toNat 14) s.size⟩ := if_neg (by omega)
        have hh := eth_y hx g4
        rw [hh.1, hh.2]
        first | trivial | (repeat' (refine And.intro ?_ ?_)) <;> first | rfl | trivial | omega | simp [m6]
set_option maxHeartbeats 4000000 in
theorem c_spec_ParseIp {s : ByteArray} (hs_s : s.size ≤ 1099511627776 := by first | assumption | omega | (simp only [ByteArray.size_append, ByteArray.size_extract, strOfNums_size, List.length_cons, List.length_nil]; omega)) : Con0 Tryz.prog 199 [Z s] (.tup [.agg [V (ipPF s).tos, V (ipPF s).id, V (ipPF s).ttl, V (ipPF s).pr, V (ipPF s).src, V (ipPF s).dst, VS (ipPF s).body], B (ipPB s)]) [] := by
  refine con_i Tryz.func199 Tryz.ntmps199 (t := [(0, Z s)]) rfl ?_
  refine vc_sr ?_
  iterate 2 refine vo ?_
  refine vnt ?_
  refine vc_sr ?_
  refine vo ?_
  refine voc c_spec_Get16 rfl rfl ?_
  refine vo ?_
  refine vnt ?_
  refine vc_seq' ?_
  refine vc_sr ?_
  iterate 4 refine vo ?_
  refine vsp (fun g1 => ?_) (fun g1 => ?_)
  · iterate 2 refine vof ?_
    iterate 2 refine vo ?_
    iterate 4 refine vof ?_
    refine vo ?_
    refine vnt ?_
    refine vc_then ?_
    refine vc_sr ?_
    iterate 3 refine vo ?_
    refine vnt ?_
    refine vc_ret ?_
    refine thn_r ?_
    refine fin_i [] rfl (fz ?_) trivial
    have hh := ip_n (s := s) (.inl (by omega))
    rw [hh.1, hh.2]
    trivial
  · iterate 2 refine von ?_
    iterate 2 refine vo ?_
    refine vsp (fun g2 => ?_) (fun g2 => ?_)
    · iterate 4 refine vof ?_
      refine vo ?_
      refine vnt ?_
      refine vc_then ?_
      refine vc_sr ?_
      iterate 3 refine vo ?_
      refine vnt ?_
      refine vc_ret ?_
      refine thn_r ?_
      refine fin_i [] rfl (fz ?_) trivial
      have hh := ip_n (s := s) (.inr (.inl (by omega)))
      rw [hh.1, hh.2]
      trivial
    · iterate 4 refine von ?_
      refine vo ?_
      refine vnt ?_
      refine vc_if (fun g3 => ?_) (fun g3 => ?_)
      · refine vc_sr ?_
        iterate 3 refine vo ?_
        refine vnt ?_
        refine vc_ret ?_
        refine thn_r ?_
        refine fin_i [] rfl (fz ?_) trivial
        have hh := ip_n (s := s) (.inr (.inr (.inl (by omega))))
        rw [hh.1, hh.2]
        trivial
      · refine vc_skip ?_
        refine thn ?_
        refine vc_sr ?_
        iterate 3 refine vo ?_
        try refine veq (i64_byt _ _) ?_
        refine vo ?_
        refine voc c_spec_Get16 rfl rfl ?_
        iterate 3 refine vo ?_
        try refine veq (i64_byt _ _) ?_
        iterate 3 refine vo ?_
        try refine veq (i64_byt _ _) ?_
        refine vo ?_
        refine voc c_spec_Get32 rfl rfl ?_
        refine vo ?_
        refine voc c_spec_Get32 rfl rfl ?_
        iterate 3 refine vo ?_
        try first | refine vdr ?_ | refine vtk ?_
        iterate 3 refine vo ?_
        refine vnt ?_
        refine vc_sr ?_
        refine vo ?_
        refine voc c_spec_BuildIp rfl rfl ?_
        iterate 5 refine vo ?_
        refine vnt ?_
        refine vc_seq' ?_
        refine vc_sr ?_
        iterate 3 refine vo ?_
        refine vsp (fun g4 => ?_) (fun g4 => ?_)
        · iterate 5 refine vof ?_
          refine vo ?_
          refine vnt ?_
          refine vc_then ?_
          refine vc_sr ?_
          iterate 3 refine vo ?_
          refine vnt ?_
          refine vc_ret ?_
          refine thn_r ?_
          refine fin_i [] rfl (fz ?_) trivial
          have hh := ip_n (s := s) (.inr (.inr (.inr (.inl g4))))
          rw [hh.1, hh.2]
          trivial
        · iterate 4 refine von ?_
          try first | refine vdr ?_ | refine vtk ?_
          refine von ?_
          refine vo ?_
          refine vnt ?_
          refine vc_if (fun g5 => ?_) (fun g5 => ?_)
          · refine vc_sr ?_
            iterate 3 refine vo ?_
            refine vnt ?_
            refine vc_ret ?_
            refine thn_r ?_
            refine fin_i [] rfl (fz ?_) trivial
            have hh := ip_n (s := s) (.inr (.inr (.inr (.inr g5))))
            rw [hh.1, hh.2]
            trivial
          · refine vc_skip ?_
            refine thn ?_
            refine vc_sr ?_
            iterate 3 refine vo ?_
            refine vnt ?_
            refine vc_ret ?_
            refine fin_i [] rfl (fz ?_) trivial
            have hh := ip_y (s := s) (by omega) (by omega) (by omega) g4 g5
            rw [hh.1, hh.2]
            first | trivial | (repeat' (refine And.intro ?_ ?_)) <;> first | rfl | trivial | omega | simp [m6]
set_option maxHeartbeats 4000000 in
theorem c_spec_ParseSegment {src dst kind : Int} {s : ByteArray} (hs_s : s.size ≤ 1099511627776 := by first | assumption | omega | (simp only [ByteArray.size_append, ByteArray.size_extract, strOfNums_size, List.length_cons, List.length_nil]; omega)) : Con0 Tryz.prog 200 [I src, I dst, I kind, Z s] (.tup [.agg [V (segPF src dst kind s).kind, V (segPF src dst kind s).sp, V (segPF src dst kind s).dp, V (segPF src dst kind s).seq, V (segPF src dst kind s).ack, V (segPF src dst kind s).fl, V (segPF src dst kind s).win, VS (segPF src dst kind s).body], B (segPB src dst kind s)]) [] := by
  refine con_i Tryz.func200 Tryz.ntmps200 (t := [(0, I src), (1, I dst), (2, I kind), (3, Z s)]) rfl ?_
  refine vc_sr ?_
  iterate 2 refine vo ?_
  refine vnt ?_
  refine vc_sr ?_
  iterate 2 refine vo ?_
  refine voc c_spec_Get16 rfl rfl ?_
  refine vo ?_
  refine voc c_spec_Get16 rfl rfl ?_
  iterate 3 refine vo ?_
  refine vnt ?_
  refine vc_seq' ?_
  refine vc_block ?_
  refine vc_sr ?_
  iterate 3 refine vo ?_
  refine vsp (fun g1 => ?_) (fun g1 => ?_)
  · iterate 3 refine von ?_
    iterate 2 refine vo ?_
    refine vnt ?_
    refine vc_if (fun g2 => ?_) (fun g2 => ?_)
    · refine vc_sr ?_
      refine vo ?_
      refine voc c_spec_Get32 rfl rfl ?_
      iterate 2 refine vo ?_
      refine vnt ?_
      refine vc_sr ?_
      refine vo ?_
      refine voc c_spec_Get32 rfl rfl ?_
      iterate 2 refine vo ?_
      refine vnt ?_
      refine vc_sr ?_
      iterate 3 refine vo ?_
      try refine veq (i64_byt _ _) ?_
      iterate 2 refine vo ?_
      refine vnt ?_
      refine vc_sr ?_
      refine vo ?_
      refine voc c_spec_Get16 rfl rfl ?_
      iterate 2 refine vo ?_
      refine vnt ?_
      refine vc_region ?_
      iterate 2 refine vo ?_
      try first | refine vdr ?_ | refine vtk ?_
      iterate 2 refine vo ?_
      refine vnil ?_
      refine inB_n ?_
      refine thn ?_
      refine vc_sr ?_
      iterate 3 refine vo ?_
      refine voc c_spec_BuildSegment rfl rfl ?_
      iterate 5 refine vo ?_
      refine vnt ?_
      refine vc_seq' ?_
      refine vc_sr ?_
      iterate 3 refine vo ?_
      refine vsp (fun g3 => ?_) (fun g3 => ?_)
      · iterate 3 refine vof ?_
        refine vo ?_
        refine vnt ?_
        refine vc_then ?_
        refine vc_sr ?_
        iterate 3 refine vo ?_
        refine vnt ?_
        refine vc_ret ?_
        refine thn_r ?_
        refine fin_i [] rfl (fz ?_) trivial
        have hx : segX kind s = ⟨kind, get16 s 0, get16 s 2, get32 s 4, get32 s 8, bAt s 13, get16 s 14, s.extract (Int.toNat 20) s.size⟩ := if_pos (by omega)
        have hh := seg_nx (src := src) (dst := dst) hx (.inl g3)
        rw [hh.1, hh.2]
        trivial
      · iterate 3 refine von ?_
        refine vo ?_
        refine vnt ?_
        refine vc_if (fun g4 => ?_) (fun g4 => ?_)
        · refine vc_sr ?_
          iterate 3 refine vo ?_
          refine vnt ?_
          refine vc_ret ?_
          refine thn_r ?_
          refine fin_i [] rfl (fz ?_) trivial
          have hx : segX kind s = ⟨kind, get16 s 0, get16 s 2, get32 s 4, get32 s 8, bAt s 13, get16 s 14, s.extract (Int.toNat 20) s.size⟩ := if_pos (by omega)
          have hh := seg_nx (src := src) (dst := dst) hx (.inr g4)
          rw [hh.1, hh.2]
          trivial
        · refine vc_skip ?_
          refine thn ?_
          refine vc_sr ?_
          iterate 3 refine vo ?_
          refine vnt ?_
          refine vc_ret ?_
          refine fin_i [] rfl (fz ?_) trivial
          have hx : segX kind s = ⟨kind, get16 s 0, get16 s 2, get32 s 4, get32 s 8, bAt s 13, get16 s 14, s.extract (Int.toNat 20) s.size⟩ := if_pos (by omega)
          have hh := seg_yx (src := src) (dst := dst) hx (.inl ⟨by omega, by omega⟩) g3 g4
          rw [hh.1, hh.2]
          first | trivial | (repeat' (refine And.intro ?_ ?_)) <;> first | rfl | trivial | omega | simp [m6]
    · refine vc_sr ?_
      iterate 3 refine vo ?_
      refine vsp (fun g5 => ?_) (fun g5 => ?_)
      · iterate 3 refine von ?_
        iterate 2 refine vo ?_
        refine vnt ?_
        refine vc_if (fun g6 => ?_) (fun g6 => ?_)
        · refine vc_region ?_
          iterate 2 refine vo ?_
          try first | refine vdr ?_ | refine vtk ?_
          iterate 2 refine vo ?_
          refine vnil ?_
          refine inB_n ?_
          refine thn ?_
          refine vc_sr ?_
          iterate 3 refine vo ?_
          refine voc c_spec_BuildSegment rfl rfl ?_
          iterate 5 refine vo ?_
          refine vnt ?_
          refine vc_seq' ?_
          refine vc_sr ?_
          iterate 3 refine vo ?_
          refine vsp (fun g7 => ?_) (fun g7 => ?_)
          · iterate 3 refine vof ?_
            refine vo ?_
            refine vnt ?_
            refine vc_then ?_
            refine vc_sr ?_
            iterate 3 refine vo ?_
            refine vnt ?_
            refine vc_ret ?_
            refine thn_r ?_
            refine fin_i [] rfl (fz ?_) trivial
            have hx : segX kind s = ⟨kind, get16 s 0, get16 s 2, 0, 0, 0, 0, s.extract (Int.toNat 8) s.size⟩ := if_neg (by omega)
            have hh := seg_nx (src := src) (dst := dst) hx (.inl g7)
            rw [hh.1, hh.2]
            trivial
          · iterate 3 refine von ?_
            refine vo ?_
            refine vnt ?_
            refine vc_if (fun g8 => ?_) (fun g8 => ?_)
            · refine vc_sr ?_
              iterate 3 refine vo ?_
              refine vnt ?_
              refine vc_ret ?_
              refine thn_r ?_
              refine fin_i [] rfl (fz ?_) trivial
              have hx : segX kind s = ⟨kind, get16 s 0, get16 s 2, 0, 0, 0, 0, s.extract (Int.toNat 8) s.size⟩ := if_neg (by omega)
              have hh := seg_nx (src := src) (dst := dst) hx (.inr g8)
              rw [hh.1, hh.2]
              trivial
            · refine vc_skip ?_
              refine thn ?_
              refine vc_sr ?_
              iterate 3 refine vo ?_
              refine vnt ?_
              refine vc_ret ?_
              refine fin_i [] rfl (fz ?_) trivial
              have hx : segX kind s = ⟨kind, get16 s 0, get16 s 2, 0, 0, 0, 0, s.extract (Int.toNat 8) s.size⟩ := if_neg (by omega)
              have hh := seg_yx (src := src) (dst := dst) hx (.inr ⟨by omega, by omega⟩) g7 g8
              rw [hh.1, hh.2]
              first | trivial | (repeat' (refine And.intro ?_ ?_)) <;> first | rfl | trivial | omega | simp [m6]
        · refine vc_sr ?_
          iterate 3 refine vo ?_
          refine vnt ?_
          refine vc_ret ?_
          refine inB_r ?_
          refine thn_r ?_
          refine fin_i [] rfl (fz ?_) trivial
          have hh := seg_n0 (src := src) (dst := dst) (kind := kind) (s := s) (by omega) (by omega)
          rw [hh.1, hh.2]
          trivial
      · iterate 3 refine vof ?_
        iterate 2 refine vo ?_
        refine vnt ?_
        refine vc_else ?_
        refine vc_sr ?_
        iterate 3 refine vo ?_
        refine vnt ?_
        refine vc_ret ?_
        refine inB_r ?_
        refine thn_r ?_
        refine fin_i [] rfl (fz ?_) trivial
        have hh := seg_n0 (src := src) (dst := dst) (kind := kind) (s := s) (by omega) (by omega)
        rw [hh.1, hh.2]
        trivial
  · iterate 3 refine vof ?_
    iterate 2 refine vo ?_
    refine vnt ?_
    refine vc_else ?_
    refine vc_sr ?_
    iterate 3 refine vo ?_
    refine vsp (fun g9 => ?_) (fun g9 => ?_)
    · iterate 3 refine von ?_
      iterate 2 refine vo ?_
      refine vnt ?_
      refine vc_if (fun g10 => ?_) (fun g10 => ?_)
      · refine vc_region ?_
        iterate 2 refine vo ?_
        try first | refine vdr ?_ | refine vtk ?_
        iterate 2 refine vo ?_
        refine vnil ?_
        refine inB_n ?_
        refine thn ?_
        refine vc_sr ?_
        iterate 3 refine vo ?_
        refine voc c_spec_BuildSegment rfl rfl ?_
        iterate 5 refine vo ?_
        refine vnt ?_
        refine vc_seq' ?_
        refine vc_sr ?_
        iterate 3 refine vo ?_
        refine vsp (fun g11 => ?_) (fun g11 => ?_)
        · iterate 3 refine vof ?_
          refine vo ?_
          refine vnt ?_
          refine vc_then ?_
          refine vc_sr ?_
          iterate 3 refine vo ?_
          refine vnt ?_
          refine vc_ret ?_
          refine thn_r ?_
          refine fin_i [] rfl (fz ?_) trivial
          have hx : segX kind s = ⟨kind, get16 s 0, get16 s 2, 0, 0, 0, 0, s.extract (Int.toNat 8) s.size⟩ := if_neg (by omega)
          have hh := seg_nx (src := src) (dst := dst) hx (.inl g11)
          rw [hh.1, hh.2]
          trivial
        · iterate 3 refine von ?_
          refine vo ?_
          refine vnt ?_
          refine vc_if (fun g12 => ?_) (fun g12 => ?_)
          · refine vc_sr ?_
            iterate 3 refine vo ?_
            refine vnt ?_
            refine vc_ret ?_
            refine thn_r ?_
            refine fin_i [] rfl (fz ?_) trivial
            have hx : segX kind s = ⟨kind, get16 s 0, get16 s 2, 0, 0, 0, 0, s.extract (Int.toNat 8) s.size⟩ := if_neg (by omega)
            have hh := seg_nx (src := src) (dst := dst) hx (.inr g12)
            rw [hh.1, hh.2]
            trivial
          · refine vc_skip ?_
            refine thn ?_
            refine vc_sr ?_
            iterate 3 refine vo ?_
            refine vnt ?_
            refine vc_ret ?_
            refine fin_i [] rfl (fz ?_) trivial
            have hx : segX kind s = ⟨kind, get16 s 0, get16 s 2, 0, 0, 0, 0, s.extract (Int.toNat 8) s.size⟩ := if_neg (by omega)
            have hh := seg_yx (src := src) (dst := dst) hx (.inr ⟨by omega, by omega⟩) g11 g12
            rw [hh.1, hh.2]
            first | trivial | (repeat' (refine And.intro ?_ ?_)) <;> first | rfl | trivial | omega | simp [m6]
      · refine vc_sr ?_
        iterate 3 refine vo ?_
        refine vnt ?_
        refine vc_ret ?_
        refine inB_r ?_
        refine thn_r ?_
        refine fin_i [] rfl (fz ?_) trivial
        have hh := seg_n0 (src := src) (dst := dst) (kind := kind) (s := s) (by omega) (by omega)
        rw [hh.1, hh.2]
        trivial
    · iterate 3 refine vof ?_
      iterate 2 refine vo ?_
      refine vnt ?_
      refine vc_else ?_
      refine vc_sr ?_
      iterate 3 refine vo ?_
      refine vnt ?_
      refine vc_ret ?_
      refine inB_r ?_
      refine thn_r ?_
      refine fin_i [] rfl (fz ?_) trivial
      have hh := seg_n0 (src := src) (dst := dst) (kind := kind) (s := s) (by omega) (by omega)
      rw [hh.1, hh.2]
      trivial
set_option maxHeartbeats 4000000 in
theorem c_spec_ReadImage {s : ByteArray} (hs_s : s.size ≤ 1099511627776 := by first | assumption | omega | (simp only [ByteArray.size_append, ByteArray.size_extract, strOfNums_size, List.length_cons, List.length_nil]; omega)) : Con0 Tryz.prog 121 [Z s] (.tup [.agg [V (rdF s).dm, V (rdF s).sm, V (rdF s).vl, V (rdF s).tos, V (rdF s).id, V (rdF s).ttl, V (rdF s).si, V (rdF s).di, V (rdF s).kind, V (rdF s).sp, V (rdF s).dp, V (rdF s).seq, V (rdF s).ack, V (rdF s).fl, V (rdF s).win, VS (rdF s).body], I (rdC s)]) [] := by
  refine con_i Tryz.func121 Tryz.ntmps121 (t := [(0, Z s)]) rfl ?_
  refine vc_sr ?_
  iterate 2 refine vo ?_
  refine vnt ?_
  refine vc_sr ?_
  refine vo ?_
  refine voc c_spec_ParseEth rfl rfl ?_
  iterate 6 refine vo ?_
  refine vnt ?_
  refine vc_seq' ?_
  refine vc_sr ?_
  iterate 3 refine vo ?_
  refine vsp (fun g1 => ?_) (fun g1 => ?_)
  · iterate 3 refine vof ?_
    refine vo ?_
    refine vnt ?_
    refine vc_then ?_
    refine vc_sr ?_
    iterate 3 refine vo ?_
    refine vnt ?_
    refine vc_ret ?_
    refine thn_r ?_
    refine fin_i [] rfl (fz ?_) trivial
    have hh := rd_2 (.inl g1)
    rw [hh.1, hh.2]
    trivial
  · rw [ethPF_y g1]
    have z1 : (ethX s).body.size ≤ 1099511627776 := Nat.le_trans (ethX_body s) hs_s
    iterate 3 refine von ?_
    refine vo ?_
    refine vnt ?_
    refine vc_if (fun g2 => ?_) (fun g2 => ?_)
    · refine vc_sr ?_
      iterate 3 refine vo ?_
      refine vnt ?_
      refine vc_ret ?_
      refine thn_r ?_
      refine fin_i [] rfl (fz ?_) trivial
      have hh := rd_2 (.inr g2)
      rw [hh.1, hh.2]
      trivial
    · refine vc_skip ?_
      refine thn ?_
      refine vc_sr ?_
      iterate 2 refine vo ?_
      refine voc c_spec_ParseIp rfl rfl ?_
      iterate 6 refine vo ?_
      refine vnt ?_
      refine vc_seq' ?_
      refine vc_sr ?_
      iterate 2 refine vo ?_
      refine vnt ?_
      refine vc_if (fun g3 => ?_) (fun g3 => ?_)
      · refine vc_sr ?_
        iterate 3 refine vo ?_
        refine vnt ?_
        refine vc_ret ?_
        refine thn_r ?_
        refine fin_i [] rfl (fz ?_) trivial
        have hh := rd_3 g1 g2 g3
        rw [hh.1, hh.2]
        trivial
      · rw [ipPF_y g3]
        have z2 : (ipX (ethX s).body).body.size ≤ 1099511627776 := Nat.le_trans (ipX_body (ethX s).body) z1
        refine vc_skip ?_
        refine thn ?_
        refine vc_sr ?_
        iterate 8 refine vo ?_
        refine voc c_spec_ParseSegment rfl rfl ?_
        iterate 6 refine vo ?_
        refine vnt ?_
        refine vc_seq' ?_
        refine vc_sr ?_
        iterate 2 refine vo ?_
        refine vnt ?_
        refine vc_if (fun g4 => ?_) (fun g4 => ?_)
        · refine vc_sr ?_
          iterate 3 refine vo ?_
          refine vnt ?_
          refine vc_ret ?_
          refine thn_r ?_
          refine fin_i [] rfl (fz ?_) trivial
          have hh := rd_4 g1 g2 g3 g4
          rw [hh.1, hh.2]
          trivial
        · rw [segPF_y g4]
          have z3 : (segX (ipX (ethX s).body).pr (ipX (ethX s).body).body).body.size ≤ 1099511627776 := Nat.le_trans (segX_body _ _) z2
          refine vc_skip ?_
          refine thn ?_
          refine vc_sr ?_
          iterate 20 refine vo ?_
          refine vnt ?_
          refine vc_seq' ?_
          refine vc_sr ?_
          refine vo ?_
          refine voc c_spec_SuperOk rfl rfl ?_
          refine vo ?_
          refine vnt ?_
          refine vc_if (fun g5 => ?_) (fun g5 => ?_)
          · refine vc_sr ?_
            iterate 3 refine vo ?_
            refine vnt ?_
            refine vc_ret ?_
            refine thn_r ?_
            refine fin_i [] rfl (fz ?_) trivial
            have hh := rd_5 g1 g2 g3 g4 g5
            rw [hh.1, hh.2]
            trivial
          · refine vc_skip ?_
            refine thn ?_
            refine vc_sr ?_
            iterate 3 refine vo ?_
            refine vnt ?_
            refine vc_ret ?_
            refine fin_i [] rfl (fz ?_) trivial
            have hh := rd_0 g1 g2 g3 g4 g5
            rw [hh.1, hh.2]
            simp only [rdX, mkPk, and_self]
end Go.Proofs.YtbdcaacpemkloaaGreat
end
section
namespace Go.Proofs.YtbdcaacpemkloaaGreat
open Go Go.RowKit Go.Vc
set_option linter.unusedVariables false
set_option linter.unusedSimpArgs false
set_option linter.unnecessarySimpa false
theorem dma_sz (l : List Mp) (ps : Pg) (d a n : Int) (hn : n ≤ 65535) : (dmaRF l ps d a n).1.size ≤ 65535 := by
  cases hq : (dmaRF l ps d a n).2 with
  | true =>
    have := dmaRF_size (l := l) (ps := ps) (d := d) (a := a) (n := n) (t := (dmaRF l ps d a n).1) (by rw [← hq])
    omega
  | false =>
    have : (dmaRF l ps d a n).1 = ⟨#[]⟩ := by
      unfold dmaRF at hq ⊢
      split <;> rename_i e
      · rw [e] at hq; cases hq
      · rfl
    rw [this]; exact Nat.zero_le _
theorem give_len (pb pz pc : Int) (fr : List Int) (k : Int) : (giveF pb pz pc fr [k]).length ≤ fr.length + 1 := by
  unfold giveF
  split <;> simp
theorem pks_n {l : List Mp} {ps : Pg} {d pb pz pc : Int} {fr : List Int} {x : Comp} {sm : List Sm} (h : pkB l ps d pb pz pc fr x = false) : pkS l ps d pb pz pc fr x sm = sm := if_neg (by rw [h]; decide)
theorem pks_y {l : List Mp} {ps : Pg} {d pb pz pc : Int} {fr : List Int} {x : Comp} {sm : List Sm} {D : ByteArray × Bool} (hD : dmaRF l ps d (bufA pb pz pc fr x.1) x.2.1 = D) (h1 : D.2 = true) (h2 : rdC D.1 = 0) : pkS l ps d pb pz pc fr x sm = dlF sm (rdF D.1) := by
  subst hD
  exact if_pos (by unfold pkB; rw [h1, decide_eq_true h2]; rfl)
theorem pkb_n {l : List Mp} {ps : Pg} {d pb pz pc : Int} {fr : List Int} {x : Comp} {D : ByteArray × Bool} (hD : dmaRF l ps d (bufA pb pz pc fr x.1) x.2.1 = D) (h : D.2 = false ∨ ¬ rdC D.1 = 0) : pkB l ps d pb pz pc fr x = false := by
  subst hD
  unfold pkB
  rcases h with h | h
  · rw [h]; rfl
  · rw [decide_eq_false h]; simp
theorem poll_st {l : List Mp} {ps : Pg} {d pb pz pc vb vs c : Int} {m n : Nat} {f : List Int} {g g2 : List Sm} {X : Comp × Int × Bool} (hX : nextF l ps d vb vs c = X) (hf : n < m) (h : X.2.2 = true) (hg : pkS l ps d pb pz pc f X.1 g = g2) : pollL l ps d pb pz pc vb vs (m - n) f g c n = pollL l ps d pb pz pc vb vs (m - (n + 1)) (giveF pb pz pc f [X.1.1]) g2 X.2.1 ((n + 1 : Nat) : Int) := by
  subst hX
  rw [poll_go (by omega) h, hg, Nat.sub_sub]; rfl
def pqF (ok : Bool) (l : List Mp) (ps : Pg) (d rb rs rh rt vb vs vc pb pz pc : Int) (fr : List Int) (sm : List Sm) (bud : Int) : Pg × Int × Int × List Int × List Sm × Int :=
  bif ok then ((fillRF l ps d rb rs rh rt pb pz pc (pollL l ps d pb pz pc vb vs bud.toNat fr sm vc 0).1).1, (fillRF l ps d rb rs rh rt pb pz pc (pollL l ps d pb pz pc vb vs bud.toNat fr sm vc 0).1).2.1, (pollL l ps d pb pz pc vb vs bud.toNat fr sm vc 0).2.2.1, (fillRF l ps d rb rs rh rt pb pz pc (pollL l ps d pb pz pc vb vs bud.toNat fr sm vc 0).1).2.2.1, (pollL l ps d pb pz pc vb vs bud.toNat fr sm vc 0).2.1, (pollL l ps d pb pz pc vb vs bud.toNat fr sm vc 0).2.2.2) else (ps, rt, vc, fr, sm, 0)
theorem pq_y {l : List Mp} {ps : Pg} {d rb rs rh rt vb vs vc pb pz pc bud c n : Int} {fr f : List Int} {sm g : List Sm} (h : pollL l ps d pb pz pc vb vs bud.toNat fr sm vc 0 = (f, g, c, n)) : pqF true l ps d rb rs rh rt vb vs vc pb pz pc fr sm bud = ((fillRF l ps d rb rs rh rt pb pz pc f).1, (fillRF l ps d rb rs rh rt pb pz pc f).2.1, c, (fillRF l ps d rb rs rh rt pb pz pc f).2.2.1, g, n) := by
  unfold pqF
  rw [h]; rfl
theorem poll_e2 {l : List Mp} {ps : Pg} {d pb pz pc vb vs c : Int} {m n : Nat} {f : List Int} {g : List Sm} (hn : ¬ n < m) : pollL l ps d pb pz pc vb vs (m - n) f g c n = (f, g, c, (n : Int)) := by
  rw [Nat.sub_eq_zero_of_le (by omega)]; rfl
set_option maxHeartbeats 4000000 in
theorem c_impl_PollQueue {l : List Mp} {ps : Pg} {d pb pz pc bud : Int} {rb rs rh rt db ds dc vb vs vc dm sm vl tos id ttl si di kind sp dp seq ack fl win size count dropped : Int} {body : ByteArray} {hold : Bool} {fr : List Int} {gs : List Sm} {r : Pg × Int × Int × List Int × List Sm × Int} (hr : pqF (rxOkB rb rs rh rt db ds dc vb vs vc dm sm vl tos id ttl si di kind sp dp seq ack fl win body size count hold dropped && (poolB pb pz pc fr && inB bud 0 1000)) l ps d rb rs rh rt vb vs vc pb pz pc fr gs bud = r) (hl : l.length ≤ 1099511627776 := by first | with_reducible assumption | omega) (hp : ps.length ≤ 1099511627776 := by first | with_reducible assumption | omega) (hl_fr : fr.length ≤ 100000000 := by first | with_reducible assumption | omega) (hl_gs : gs.length ≤ 100000000 := by first | with_reducible assumption | omega) (hz_gs : ∀ s ∈ gs, s.data.size ≤ 100000000000 := by with_reducible assumption) : Con0 Tryz.prog 46 [.one (.sl 4 (l.map mpE)), .agg [.sl 1 (ps.map strE)], I d, .agg [V rb, V rs, V rh, V rt, V db, V ds, V dc, V vb, V vs, V vc, V dm, V sm, V vl, V tos, V id, V ttl, V si, V di, V kind, V sp, V dp, V seq, V ack, V fl, V win, VS body, V size, V count, VB hold, V dropped], .agg [V pb, V pz, V pc, .sl 1 (fr.map intE)], .one (.sl 8 (gs.map smE)), I bud] (.tup [.agg [.hs 0], .agg [V rb, V rs, V rh, V r.2.1, V db, V ds, V dc, V vb, V vs, V r.2.2.1, V dm, V sm, V vl, V tos, V id, V ttl, V si, V di, V kind, V sp, V dp, V seq, V ack, V fl, V win, VS body, V size, V count, VB hold, V dropped], .agg [V pb, V pz, V pc, .hs 1], .one (.hs 2), I r.2.2.2.2.2]) [(0, .arr 9 1 (r.1.map strE)), (1, .arr 3 1 (r.2.2.2.1.map intE)), (2, .arr 196 8 (r.2.2.2.2.1.map smE))] := by
  refine con_i Tryz.func46 Tryz.ntmps46 (t := [(0, .one (.sl 4 (l.map mpE))), (1, .agg [.sl 1 (ps.map strE)]), (2, I d), (3, .agg [V rb, V rs, V rh, V rt, V db, V ds, V dc, V vb, V vs, V vc, V dm, V sm, V vl, V tos, V id, V ttl, V si, V di, V kind, V sp, V dp, V seq, V ack, V fl, V win, VS body, V size, V count, VB hold, V dropped]), (4, .agg [V pb, V pz, V pc, .sl 1 (fr.map intE)]), (5, .one (.sl 8 (gs.map smE))), (6, I bud)]) rfl ?_
  refine vc_sr ?_
  iterate 8 refine vo ?_
  refine vnt ?_
  refine vc_sr ?_
  refine vo ?_
  refine voc c_impl_copyMemory rfl rfl ?_
  refine vo ?_
  refine voc c_impl_copyPool rfl rfl ?_
  refine vo ?_
  refine voc c_impl_copyStreams rfl rfl ?_
  iterate 5 refine vo ?_
  refine vnt ?_
  refine vc_seq' ?_
  refine vc_sr ?_
  refine vo ?_
  refine voc c_impl_RxOk rfl rfl ?_
  iterate 2 refine vo ?_
  refine vsp (fun g1 => ?_) (fun g1 => ?_)
  · iterate 3 refine vof ?_
    iterate 2 refine vo ?_
    iterate 3 refine vof ?_
    refine vo ?_
    refine vnt ?_
    refine vc_then ?_
    refine vc_sr ?_
    iterate 9 refine vo ?_
    refine vnt ?_
    refine vc_ret ?_
    refine thn_r ?_
    have hk : (rxOkB rb rs rh rt db ds dc vb vs vc dm sm vl tos id ttl si di kind sp dp seq ack fl win body size count hold dropped && (poolB pb pz pc fr && inB bud 0 1000)) = false := by rw [g1]; simp
    rw [hk] at hr
    subst hr
    refine fin_i [(0, some 248), (1, some 264), (2, some 280)] rfl (fz ?_) (fz ?_) <;> first | trivial | rfl | exact ⟨rfl, rfl, rfl⟩
  · refine von ?_
    refine vocn c_impl_PoolOk rfl rfl ?_
    refine von ?_
    iterate 2 refine vo ?_
    refine vsp (fun g2 => ?_) (fun g2 => ?_)
    · iterate 3 refine vof ?_
      refine vo ?_
      refine vnt ?_
      refine vc_then ?_
      refine vc_sr ?_
      iterate 9 refine vo ?_
      refine vnt ?_
      refine vc_ret ?_
      refine thn_r ?_
      have hk : (rxOkB rb rs rh rt db ds dc vb vs vc dm sm vl tos id ttl si di kind sp dp seq ack fl win body size count hold dropped && (poolB pb pz pc fr && inB bud 0 1000)) = false := by rw [g2]; simp
      rw [hk] at hr
      subst hr
      refine fin_i [(0, some 248), (1, some 264), (2, some 280)] rfl (fz ?_) (fz ?_) <;> first | trivial | rfl | exact ⟨rfl, rfl, rfl⟩
    · refine von ?_
      refine vocn c_impl_between rfl rfl ?_
      refine von ?_
      refine vo ?_
      refine vnt ?_
      refine vc_if (fun g3 => ?_) (fun g3 => ?_)
      · refine vc_sr ?_
        iterate 9 refine vo ?_
        refine vnt ?_
        refine vc_ret ?_
        refine thn_r ?_
        have hk : (rxOkB rb rs rh rt db ds dc vb vs vc dm sm vl tos id ttl si di kind sp dp seq ack fl win body size count hold dropped && (poolB pb pz pc fr && inB bud 0 1000)) = false := by rw [g3]; simp
        rw [hk] at hr
        subst hr
        refine fin_i [(0, some 248), (1, some 264), (2, some 280)] rfl (fz ?_) (fz ?_) <;> first | trivial | rfl | exact ⟨rfl, rfl, rfl⟩
      · refine vc_skip ?_
        refine thn ?_
        refine vc_sr ?_
        refine vo ?_
        refine vnt ?_
        refine vc_seq' ?_
        refine vc_block ?_
        refine vc_lp4 [0, 2, 6, 10, 14, 15, 16, 19, 20] [112, 120, 128, 152, 248] (fun (f : List Int) (g : List Sm) (c : Int) (n : Nat) => [(21, .one (.hs 10)), (22, I (n : Nat))]) (fun (f : List Int) (g : List Sm) (c : Int) (n : Nat) => [(9, .arr 3 1 (f.map intE)), (10, .arr 196 8 (g.map smE)), (80, .row 99 [V rb, V rs, V rh, V rt, V db, V ds, V dc, V vb, V vs, V c, V dm, V sm, V vl, V tos, V id, V ttl, V si, V di, V kind, V sp, V dp, V seq, V ack, V fl, V win, VS body, V size, V count, VB hold, V dropped]), (160, .row 32 [V pb, V pz, V pc, .hs 9])]) (fun (f : List Int) (g : List Sm) (c : Int) (n : Nat) => pollL l ps d pb pz pc vb vs bud.toNat fr gs vc 0 = pollL l ps d pb pz pc vb vs (bud.toNat - n) f g c n ∧ n ≤ bud.toNat ∧ f.length ≤ fr.length + n ∧ g.length ≤ gs.length + n ∧ ∀ s ∈ g, s.data.size ≤ 100000000000 + 400 * n) (fun (f : List Int) (g : List Sm) (c : Int) (n : Nat) => bud.toNat - n) fr gs vc 0 rfl rfl (sub_i [(80, some 80), (160, some 160), (9, some 264), (10, some 280)] (fz ?_) (fz ?_)) ?_ fun f g c n hI => ?_
        · first | trivial | rfl
        · first | trivial | rfl | exact ⟨rfl, rfl⟩ | exact ⟨rfl, rfl, rfl⟩ | exact ⟨rfl, rfl, rfl, rfl⟩ | trace_state
        · exact ⟨rfl, Nat.zero_le _, Nat.le_refl _, Nat.le_refl _, hz_gs⟩
        refine vc_nf rfl rfl ?_
        have hg3 := inB_iff.1 g3
        have hfl : f.length ≤ 1000000000 := by have := hI.2.2.1; omega
        have hgl : g.length ≤ 1000000000 := by have := hI.2.2.2.1; omega
        have hgz : ∀ s ∈ g, s.data.size ≤ 1000000000000 := fun s hs => Nat.le_trans (hI.2.2.2.2 s hs) (by omega)
        refine vc_seq' ?_
        refine vc_sr ?_
        iterate 3 refine vo ?_
        refine vnt ?_
        refine vc_if (fun g4 => ?_) (fun g4 => ?_)
        · refine vc_skip ?_
          refine thn ?_
          refine vc_block ?_
          refine vc_sr ?_
          iterate 5 refine vo ?_
          refine voc c_impl_NextCompletion rfl rfl ?_
          generalize hX : nextF l ps d vb vs c = X
          have hXb : X.1.2.1 ≤ 65535 := hX ▸ nx_bd l ps d vb vs c
          have hbb := bufA_bd pb pz pc f X.1.1
          iterate 9 refine vo ?_
          refine vnt ?_
          refine vc_seq' ?_
          refine vc_sr ?_
          iterate 2 refine vo ?_
          refine vnt ?_
          refine vc_if (fun g5 => ?_) (fun g5 => ?_)
          · refine vc_exit ?_
            refine thn_x ?_
            refine inB_y ?_
            refine thn_x ?_
            refine inB_x ?_
            refine thn ?_
            refine vc_sr ?_
            iterate 6 refine vo ?_
            refine voc c_impl_FillRing rfl rfl ?_
            iterate 9 refine vo ?_
            refine vnt ?_
            refine vc_sr ?_
            iterate 10 refine vo ?_
            refine vnt ?_
            refine vc_ret ?_
            have hk : (rxOkB rb rs rh rt db ds dc vb vs vc dm sm vl tos id ttl si di kind sp dp seq ack fl win body size count hold dropped && (poolB pb pz pc fr && inB bud 0 1000)) = true := by rw [g1, g2, g3]; rfl
            rw [hk, pq_y (hI.1.trans (poll_no (by rw [hX]; exact g5)))] at hr
            subst hr
            refine fin_i [(0, some 888), (1, some 889), (2, some 10)] rfl (fz ?_) (fz ?_) <;> first | trivial | rfl | exact ⟨rfl, rfl, rfl⟩ | trace_state
          · refine vc_skip ?_
            refine thn ?_
            refine vc_sr ?_
            iterate 3 refine vo ?_
            refine vnt ?_
            refine vc_sr ?_
            iterate 2 refine vo ?_
            try refine vwr ?_
            refine vo ?_
            refine vnt ?_
            refine vc_seq' ?_
            refine vc_sr ?_
            iterate 6 refine vo ?_
            refine voc c_impl_BufferAddress rfl rfl ?_
            iterate 2 refine vo ?_
            refine voc c_impl_DmaRead rfl rfl ?_
            generalize hD : dmaRF l ps d (bufA pb pz pc f X.1.1) X.1.2.1 = D
            have hDz : D.1.size ≤ 1099511627776 := hD ▸ Nat.le_trans (dma_sz l ps d (bufA pb pz pc f X.1.1) X.1.2.1 hXb) (by decide)
            iterate 5 refine vo ?_
            refine vnt ?_
            refine vc_sr ?_
            refine vo ?_
            refine vnt ?_
            refine vc_if (fun g6 => ?_) (fun g6 => ?_)
            · refine vc_sr ?_
              refine vo ?_
              refine voc c_impl_ReadImage rfl rfl ?_
              iterate 6 refine vo ?_
              refine vnt ?_
              refine vc_sr ?_
              iterate 2 refine vo ?_
              refine vnt ?_
              refine vc_if (fun g7 => ?_) (fun g7 => ?_)
              · refine vc_region ?_
                iterate 2 refine vo ?_
                refine voc c_impl_Deliver rfl rfl ?_
                refine vo ?_
                refine vnt ?_
                refine vc_region ?_
                iterate 4 refine vo ?_
                refine voc (c_impl_GiveBuffers (ks := [X.1.1]) (hl_ks := by show 1 ≤ 1000000000; omega)) rfl rfl ?_
                iterate 4 refine vo ?_
                refine vnil ?_
                refine inB_n ?_
                refine thn ?_
                have hps : pkS l ps d pb pz pc f X.1 g = dlF g (rdF D.1) := pks_y hD g6 g7
                have hgv := give_len pb pz pc f X.1.1
                have hdl := dlF_len g (rdF D.1)
                have hdz := dlF_sz (p := rdF D.1) hI.2.2.2.2
                refine ⟨giveF pb pz pc f [X.1.1], dlF g (rdF D.1), X.2.1, n + 1, ?_, ?_, sub_i [(80, some 80), (160, some 160), (9, some 808), (10, some 760)] (fz ?_) (fz ?_)⟩
                · exact ⟨hI.1.trans (poll_st hX (by omega) g5 hps), by omega, by omega, by omega, fun s hs => Nat.le_trans (hdz s hs) (by omega)⟩
                · omega
                · first | trivial | rfl | exact ⟨rfl, rfl⟩ | trace_state
                · first | trivial | rfl | exact ⟨rfl, rfl⟩ | exact ⟨rfl, rfl, rfl⟩ | exact ⟨rfl, rfl, rfl, rfl⟩ | trace_state
              · refine vc_skip ?_
                refine thn ?_
                refine vc_region ?_
                iterate 4 refine vo ?_
                refine voc (c_impl_GiveBuffers (ks := [X.1.1]) (hl_ks := by show 1 ≤ 1000000000; omega)) rfl rfl ?_
                iterate 4 refine vo ?_
                refine vnil ?_
                refine inB_n ?_
                refine thn ?_
                have hps : pkS l ps d pb pz pc f X.1 g = g := pks_n (pkb_n hD (.inr g7))
                have hgv := give_len pb pz pc f X.1.1
                refine ⟨giveF pb pz pc f [X.1.1], g, X.2.1, n + 1, ?_, ?_, sub_i [(80, some 80), (160, some 160), (9, some 808), (10, some 10)] (fz ?_) (fz ?_)⟩
                · exact ⟨hI.1.trans (poll_st hX (by omega) g5 hps), by omega, by omega, by omega, fun s hs => Nat.le_trans (hI.2.2.2.2 s hs) (by omega)⟩
                · omega
                · first | trivial | rfl | exact ⟨rfl, rfl⟩ | trace_state
                · first | trivial | rfl | exact ⟨rfl, rfl⟩ | exact ⟨rfl, rfl, rfl⟩ | exact ⟨rfl, rfl, rfl, rfl⟩ | trace_state
            · refine vc_skip ?_
              refine thn ?_
              refine vc_region ?_
              iterate 4 refine vo ?_
              refine voc (c_impl_GiveBuffers (ks := [X.1.1]) (hl_ks := by show 1 ≤ 1000000000; omega)) rfl rfl ?_
              iterate 4 refine vo ?_
              refine vnil ?_
              refine inB_n ?_
              refine thn ?_
              have hps : pkS l ps d pb pz pc f X.1 g = g := pks_n (pkb_n hD (.inl g6))
              have hgv := give_len pb pz pc f X.1.1
              refine ⟨giveF pb pz pc f [X.1.1], g, X.2.1, n + 1, ?_, ?_, sub_i [(80, some 80), (160, some 160), (9, some 808), (10, some 10)] (fz ?_) (fz ?_)⟩
              · exact ⟨hI.1.trans (poll_st hX (by omega) g5 hps), by omega, by omega, by omega, fun s hs => Nat.le_trans (hI.2.2.2.2 s hs) (by omega)⟩
              · omega
              · first | trivial | rfl | exact ⟨rfl, rfl⟩ | trace_state
              · first | trivial | rfl | exact ⟨rfl, rfl⟩ | exact ⟨rfl, rfl, rfl⟩ | exact ⟨rfl, rfl, rfl, rfl⟩ | trace_state
        · refine vc_exit ?_
          refine thn_x ?_
          refine thn_x ?_
          refine inB_x ?_
          refine thn ?_
          refine vc_sr ?_
          iterate 6 refine vo ?_
          refine voc c_impl_FillRing rfl rfl ?_
          iterate 9 refine vo ?_
          refine vnt ?_
          refine vc_sr ?_
          iterate 10 refine vo ?_
          refine vnt ?_
          refine vc_ret ?_
          have hk : (rxOkB rb rs rh rt db ds dc vb vs vc dm sm vl tos id ttl si di kind sp dp seq ack fl win body size count hold dropped && (poolB pb pz pc fr && inB bud 0 1000)) = true := by rw [g1, g2, g3]; rfl
          rw [hk, pq_y (hI.1.trans (poll_e2 (by omega)))] at hr
          subst hr
          refine fin_i [(0, some 888), (1, some 889), (2, some 10)] rfl (fz ?_) (fz ?_) <;> first | trivial | rfl | exact ⟨rfl, rfl, rfl⟩ | trace_state
set_option maxHeartbeats 4000000 in
theorem c_spec_PollQueue {l : List Mp} {ps : Pg} {d pb pz pc bud : Int} {rb rs rh rt db ds dc vb vs vc dm sm vl tos id ttl si di kind sp dp seq ack fl win size count dropped : Int} {body : ByteArray} {hold : Bool} {fr : List Int} {gs : List Sm} {r : Pg × Int × Int × List Int × List Sm × Int} (hr : pqF (rxOkB rb rs rh rt db ds dc vb vs vc dm sm vl tos id ttl si di kind sp dp seq ack fl win body size count hold dropped && (poolB pb pz pc fr && inB bud 0 1000)) l ps d rb rs rh rt vb vs vc pb pz pc fr gs bud = r) (hl : l.length ≤ 1099511627776 := by first | with_reducible assumption | omega) (hp : ps.length ≤ 1099511627776 := by first | with_reducible assumption | omega) (hl_fr : fr.length ≤ 100000000 := by first | with_reducible assumption | omega) (hl_gs : gs.length ≤ 100000000 := by first | with_reducible assumption | omega) (hz_gs : ∀ s ∈ gs, s.data.size ≤ 100000000000 := by with_reducible assumption) : Con0 Tryz.prog 42 [.one (.sl 4 (l.map mpE)), .agg [.sl 1 (ps.map strE)], I d, .agg [V rb, V rs, V rh, V rt, V db, V ds, V dc, V vb, V vs, V vc, V dm, V sm, V vl, V tos, V id, V ttl, V si, V di, V kind, V sp, V dp, V seq, V ack, V fl, V win, VS body, V size, V count, VB hold, V dropped], .agg [V pb, V pz, V pc, .sl 1 (fr.map intE)], .one (.sl 8 (gs.map smE)), I bud] (.tup [.agg [.hs 0], .agg [V rb, V rs, V rh, V r.2.1, V db, V ds, V dc, V vb, V vs, V r.2.2.1, V dm, V sm, V vl, V tos, V id, V ttl, V si, V di, V kind, V sp, V dp, V seq, V ack, V fl, V win, VS body, V size, V count, VB hold, V dropped], .agg [V pb, V pz, V pc, .hs 1], .one (.hs 2), I r.2.2.2.2.2]) [(0, .arr 9 1 (r.1.map strE)), (1, .arr 3 1 (r.2.2.2.1.map intE)), (2, .arr 196 8 (r.2.2.2.2.1.map smE))] := by
  refine con_i Tryz.func42 Tryz.ntmps42 (t := [(0, .one (.sl 4 (l.map mpE))), (1, .agg [.sl 1 (ps.map strE)]), (2, I d), (3, .agg [V rb, V rs, V rh, V rt, V db, V ds, V dc, V vb, V vs, V vc, V dm, V sm, V vl, V tos, V id, V ttl, V si, V di, V kind, V sp, V dp, V seq, V ack, V fl, V win, VS body, V size, V count, VB hold, V dropped]), (4, .agg [V pb, V pz, V pc, .sl 1 (fr.map intE)]), (5, .one (.sl 8 (gs.map smE))), (6, I bud)]) rfl ?_
  refine vc_sr ?_
  iterate 8 refine vo ?_
  refine vnt ?_
  refine vc_sr ?_
  iterate 3 refine vo ?_
  rw [List.nil_append]
  refine vo ?_
  refine vnt ?_
  refine vc_sr ?_
  refine vo ?_
  refine voc c_spec_l21Copy rfl rfl ?_
  iterate 2 refine vo ?_
  refine vnt ?_
  refine vc_sr ?_
  refine vo ?_
  refine vnt ?_
  refine vc_seq' ?_
  refine vc_sr ?_
  refine vo ?_
  refine voc c_spec_RxOk rfl rfl ?_
  iterate 2 refine vo ?_
  refine vsp (fun g1 => ?_) (fun g1 => ?_)
  · iterate 3 refine vof ?_
    iterate 2 refine vo ?_
    iterate 3 refine vof ?_
    refine vo ?_
    refine vnt ?_
    refine vc_then ?_
    refine vc_sr ?_
    refine vo ?_
    refine voc c_spec_l16Copy rfl rfl ?_
    iterate 8 refine vo ?_
    refine vnt ?_
    refine vc_ret ?_
    refine thn_r ?_
    have hk : (rxOkB rb rs rh rt db ds dc vb vs vc dm sm vl tos id ttl si di kind sp dp seq ack fl win body size count hold dropped && (poolB pb pz pc fr && inB bud 0 1000)) = false := by rw [g1]; simp
    rw [hk] at hr
    subst hr
    refine fin_i [(0, some 416), (1, some 296), (2, some 280)] rfl (fz ?_) (fz ?_) <;> first | trivial | rfl | exact ⟨rfl, rfl, rfl⟩
  · refine von ?_
    refine vocn c_spec_PoolOk rfl rfl ?_
    refine von ?_
    iterate 2 refine vo ?_
    refine vsp (fun g2 => ?_) (fun g2 => ?_)
    · iterate 3 refine vof ?_
      refine vo ?_
      refine vnt ?_
      refine vc_then ?_
      refine vc_sr ?_
      refine vo ?_
      refine voc c_spec_l16Copy rfl rfl ?_
      iterate 8 refine vo ?_
      refine vnt ?_
      refine vc_ret ?_
      refine thn_r ?_
      have hk : (rxOkB rb rs rh rt db ds dc vb vs vc dm sm vl tos id ttl si di kind sp dp seq ack fl win body size count hold dropped && (poolB pb pz pc fr && inB bud 0 1000)) = false := by rw [g2]; simp
      rw [hk] at hr
      subst hr
      refine fin_i [(0, some 416), (1, some 296), (2, some 280)] rfl (fz ?_) (fz ?_) <;> first | trivial | rfl | exact ⟨rfl, rfl, rfl⟩
    · refine von ?_
      refine vocn c_spec_l01In rfl rfl ?_
      refine von ?_
      refine vo ?_
      refine vnt ?_
      refine vc_if (fun g3 => ?_) (fun g3 => ?_)
      · refine vc_sr ?_
        refine vo ?_
        refine voc c_spec_l16Copy rfl rfl ?_
        iterate 8 refine vo ?_
        refine vnt ?_
        refine vc_ret ?_
        refine thn_r ?_
        have hk : (rxOkB rb rs rh rt db ds dc vb vs vc dm sm vl tos id ttl si di kind sp dp seq ack fl win body size count hold dropped && (poolB pb pz pc fr && inB bud 0 1000)) = false := by rw [g3]; simp
        rw [hk] at hr
        subst hr
        refine fin_i [(0, some 416), (1, some 296), (2, some 280)] rfl (fz ?_) (fz ?_) <;> first | trivial | rfl | exact ⟨rfl, rfl, rfl⟩
      · refine vc_skip ?_
        refine thn ?_
        refine vc_seq' ?_
        refine vc_block ?_
        refine vc_lp4 [0, 2, 6, 8, 10, 14, 15, 16, 20] [64, 112, 120, 128] (fun (f : List Int) (g : List Sm) (c : Int) (n : Nat) => [(19, .one (.hs 10)), (21, I (n : Nat))]) (fun (f : List Int) (g : List Sm) (c : Int) (n : Nat) => [(9, .arr 3 1 (f.map intE)), (10, .arr 196 8 (g.map smE)), (80, .row 99 [V rb, V rs, V rh, V rt, V db, V ds, V dc, V vb, V vs, V c, V dm, V sm, V vl, V tos, V id, V ttl, V si, V di, V kind, V sp, V dp, V seq, V ack, V fl, V win, VS body, V size, V count, VB hold, V dropped]), (160, .row 32 [V pb, V pz, V pc, .hs 9])]) (fun (f : List Int) (g : List Sm) (c : Int) (n : Nat) => pollL l ps d pb pz pc vb vs bud.toNat fr gs vc 0 = pollL l ps d pb pz pc vb vs (bud.toNat - n) f g c n ∧ n ≤ bud.toNat ∧ f.length ≤ fr.length + n ∧ g.length ≤ gs.length + n ∧ ∀ s ∈ g, s.data.size ≤ 100000000000 + 400 * n) (fun (f : List Int) (g : List Sm) (c : Int) (n : Nat) => bud.toNat - n) fr gs vc 0 rfl rfl (sub_i [(80, some 80), (160, some 160), (9, some 296), (10, some 280)] (fz ?_) (fz ?_)) ?_ fun f g c n hI => ?_
        · first | trivial | rfl
        · first | trivial | rfl | exact ⟨rfl, rfl⟩ | exact ⟨rfl, rfl, rfl⟩ | exact ⟨rfl, rfl, rfl, rfl⟩ | trace_state
        · exact ⟨rfl, Nat.zero_le _, Nat.le_refl _, Nat.le_refl _, hz_gs⟩
        refine vc_nf rfl rfl ?_
        have hg3 := inB_iff.1 g3
        have hfl : f.length ≤ 1000000000 := by have := hI.2.2.1; omega
        have hgl : g.length ≤ 1000000000 := by have := hI.2.2.2.1; omega
        have hgz : ∀ s ∈ g, s.data.size ≤ 1000000000000 := fun s hs => Nat.le_trans (hI.2.2.2.2 s hs) (by omega)
        refine vc_seq' ?_
        refine vc_sr ?_
        iterate 3 refine vo ?_
        refine vnt ?_
        refine vc_if (fun g4 => ?_) (fun g4 => ?_)
        · refine vc_skip ?_
          refine thn ?_
          refine vc_block ?_
          refine vc_sr ?_
          iterate 5 refine vo ?_
          refine voc c_spec_NextCompletion rfl rfl ?_
          generalize hX : nextF l ps d vb vs c = X
          have hXb : X.1.2.1 ≤ 65535 := hX ▸ nx_bd l ps d vb vs c
          have hbb := bufA_bd pb pz pc f X.1.1
          iterate 9 refine vo ?_
          refine vnt ?_
          refine vc_seq' ?_
          refine vc_sr ?_
          iterate 2 refine vo ?_
          refine vnt ?_
          refine vc_if (fun g5 => ?_) (fun g5 => ?_)
          · refine vc_exit ?_
            refine thn_x ?_
            refine inB_y ?_
            refine thn_x ?_
            refine inB_x ?_
            refine thn ?_
            refine vc_sr ?_
            iterate 6 refine vo ?_
            refine voc c_spec_FillRing rfl rfl ?_
            iterate 11 refine vo ?_
            refine vnt ?_
            refine vc_sr ?_
            iterate 3 refine vo ?_
            refine vnt ?_
            refine vc_sr ?_
            iterate 10 refine vo ?_
            refine vnt ?_
            refine vc_ret ?_
            have hk : (rxOkB rb rs rh rt db ds dc vb vs vc dm sm vl tos id ttl si di kind sp dp seq ack fl win body size count hold dropped && (poolB pb pz pc fr && inB bud 0 1000)) = true := by rw [g1, g2, g3]; rfl
            rw [hk, pq_y (hI.1.trans (poll_no (by rw [hX]; exact g5)))] at hr
            subst hr
            refine fin_i [(0, some 968), (1, some 969), (2, some 10)] rfl (fz ?_) (fz ?_) <;> first | trivial | rfl | exact ⟨rfl, rfl, rfl⟩ | trace_state
          · refine vc_skip ?_
            refine thn ?_
            refine vc_sr ?_
            iterate 2 refine vo ?_
            try refine vwr ?_
            refine vo ?_
            refine vnt ?_
            refine vc_sr ?_
            iterate 3 refine vo ?_
            refine vnt ?_
            refine vc_sr ?_
            iterate 3 refine vo ?_
            refine voc c_spec_BufferAddress rfl rfl ?_
            refine vo ?_
            refine vnt ?_
            refine vc_sr ?_
            iterate 6 refine vo ?_
            refine voc c_spec_DmaRead rfl rfl ?_
            generalize hD : dmaRF l ps d (bufA pb pz pc f X.1.1) X.1.2.1 = D
            have hDz : D.1.size ≤ 1099511627776 := hD ▸ Nat.le_trans (dma_sz l ps d (bufA pb pz pc f X.1.1) X.1.2.1 hXb) (by decide)
            iterate 5 refine vo ?_
            refine vnt ?_
            refine vc_sr ?_
            refine vo ?_
            refine voc c_spec_ReadImage rfl rfl ?_
            iterate 6 refine vo ?_
            refine vnt ?_
            refine vc_seq' ?_
            refine vc_sr ?_
            iterate 3 refine vo ?_
            refine vsp (fun g6 => ?_) (fun g6 => ?_)
            · refine von ?_
              iterate 2 refine vo ?_
              refine vsp (fun g7 => ?_) (fun g7 => ?_)
              · iterate 2 refine von ?_
                refine vo ?_
                refine vnt ?_
                refine vc_if (fun g8 => ?_) (fun g8 => ?_)
                · refine vc_region ?_
                  iterate 2 refine vo ?_
                  refine voc c_spec_Deliver rfl rfl ?_
                  refine vo ?_
                  refine vnt ?_
                  refine vc_region ?_
                  iterate 4 refine vo ?_
                  refine voc (c_spec_GiveBuffers (ks := [X.1.1]) (hl_ks := by show 1 ≤ 1000000000; omega)) rfl rfl ?_
                  iterate 4 refine vo ?_
                  refine vnil ?_
                  refine inB_n ?_
                  refine thn ?_
                  have hps : pkS l ps d pb pz pc f X.1 g = dlF g (rdF D.1) := pks_y hD g7 g8
                  have hgv := give_len pb pz pc f X.1.1
                  have hdl := dlF_len g (rdF D.1)
                  have hdz := dlF_sz (p := rdF D.1) hI.2.2.2.2
                  refine ⟨giveF pb pz pc f [X.1.1], dlF g (rdF D.1), X.2.1, n + 1, ?_, ?_, sub_i [(80, some 80), (160, some 160), (9, some 888), (10, some 840)] (fz ?_) (fz ?_)⟩
                  · exact ⟨hI.1.trans (poll_st hX (by omega) g5 hps), by omega, by omega, by omega, fun s hs => Nat.le_trans (hdz s hs) (by omega)⟩
                  · omega
                  · first | trivial | rfl | exact ⟨rfl, rfl⟩ | trace_state
                  · first | trivial | rfl | exact ⟨rfl, rfl⟩ | exact ⟨rfl, rfl, rfl⟩ | exact ⟨rfl, rfl, rfl, rfl⟩ | trace_state
                · refine vc_skip ?_
                  refine thn ?_
                  refine vc_region ?_
                  iterate 4 refine vo ?_
                  refine voc (c_spec_GiveBuffers (ks := [X.1.1]) (hl_ks := by show 1 ≤ 1000000000; omega)) rfl rfl ?_
                  iterate 4 refine vo ?_
                  refine vnil ?_
                  refine inB_n ?_
                  refine thn ?_
                  have hps : pkS l ps d pb pz pc f X.1 g = g := pks_n (pkb_n hD (.inr g8))
                  have hgv := give_len pb pz pc f X.1.1
                  refine ⟨giveF pb pz pc f [X.1.1], g, X.2.1, n + 1, ?_, ?_, sub_i [(80, some 80), (160, some 160), (9, some 888), (10, some 10)] (fz ?_) (fz ?_)⟩
                  · exact ⟨hI.1.trans (poll_st hX (by omega) g5 hps), by omega, by omega, by omega, fun s hs => Nat.le_trans (hI.2.2.2.2 s hs) (by omega)⟩
                  · omega
                  · first | trivial | rfl | exact ⟨rfl, rfl⟩ | trace_state
                  · first | trivial | rfl | exact ⟨rfl, rfl⟩ | exact ⟨rfl, rfl, rfl⟩ | exact ⟨rfl, rfl, rfl, rfl⟩ | trace_state
              · iterate 2 refine vof ?_
                refine vo ?_
                refine vnt ?_
                refine vc_else ?_
                refine vc_skip ?_
                refine thn ?_
                refine vc_region ?_
                iterate 4 refine vo ?_
                refine voc (c_spec_GiveBuffers (ks := [X.1.1]) (hl_ks := by show 1 ≤ 1000000000; omega)) rfl rfl ?_
                iterate 4 refine vo ?_
                refine vnil ?_
                refine inB_n ?_
                refine thn ?_
                have hps : pkS l ps d pb pz pc f X.1 g = g := pks_n (pkb_n hD (.inl g7))
                have hgv := give_len pb pz pc f X.1.1
                refine ⟨giveF pb pz pc f [X.1.1], g, X.2.1, n + 1, ?_, ?_, sub_i [(80, some 80), (160, some 160), (9, some 888), (10, some 10)] (fz ?_) (fz ?_)⟩
                · exact ⟨hI.1.trans (poll_st hX (by omega) g5 hps), by omega, by omega, by omega, fun s hs => Nat.le_trans (hI.2.2.2.2 s hs) (by omega)⟩
                · omega
                · first | trivial | rfl | exact ⟨rfl, rfl⟩ | trace_state
                · first | trivial | rfl | exact ⟨rfl, rfl⟩ | exact ⟨rfl, rfl, rfl⟩ | exact ⟨rfl, rfl, rfl, rfl⟩ | trace_state
            · refine vof ?_
              iterate 2 refine vo ?_
              iterate 2 refine vof ?_
              refine vo ?_
              refine vnt ?_
              refine vc_else ?_
              refine vc_skip ?_
              refine thn ?_
              refine vc_region ?_
              iterate 4 refine vo ?_
              refine voc (c_spec_GiveBuffers (ks := [X.1.1]) (hl_ks := by show 1 ≤ 1000000000; omega)) rfl rfl ?_
              iterate 4 refine vo ?_
              refine vnil ?_
              refine inB_n ?_
              refine thn ?_
              have hps : pkS l ps d pb pz pc f X.1 g = g := pks_n (pkB_neg (by omega))
              have hgv := give_len pb pz pc f X.1.1
              refine ⟨giveF pb pz pc f [X.1.1], g, X.2.1, n + 1, ?_, ?_, sub_i [(80, some 80), (160, some 160), (9, some 888), (10, some 10)] (fz ?_) (fz ?_)⟩
              · exact ⟨hI.1.trans (poll_st hX (by omega) g5 hps), by omega, by omega, by omega, fun s hs => Nat.le_trans (hI.2.2.2.2 s hs) (by omega)⟩
              · omega
              · first | trivial | rfl | exact ⟨rfl, rfl⟩ | trace_state
              · first | trivial | rfl | exact ⟨rfl, rfl⟩ | exact ⟨rfl, rfl, rfl⟩ | exact ⟨rfl, rfl, rfl, rfl⟩ | trace_state
        · refine vc_exit ?_
          refine thn_x ?_
          refine thn_x ?_
          refine inB_x ?_
          refine thn ?_
          refine vc_sr ?_
          iterate 6 refine vo ?_
          refine voc c_spec_FillRing rfl rfl ?_
          iterate 11 refine vo ?_
          refine vnt ?_
          refine vc_sr ?_
          iterate 3 refine vo ?_
          refine vnt ?_
          refine vc_sr ?_
          iterate 10 refine vo ?_
          refine vnt ?_
          refine vc_ret ?_
          have hk : (rxOkB rb rs rh rt db ds dc vb vs vc dm sm vl tos id ttl si di kind sp dp seq ack fl win body size count hold dropped && (poolB pb pz pc fr && inB bud 0 1000)) = true := by rw [g1, g2, g3]; rfl
          rw [hk, pq_y (hI.1.trans (poll_e2 (by omega)))] at hr
          subst hr
          refine fin_i [(0, some 968), (1, some 969), (2, some 10)] rfl (fz ?_) (fz ?_) <;> first | trivial | rfl | exact ⟨rfl, rfl, rfl⟩ | trace_state
end Go.Proofs.YtbdcaacpemkloaaGreat
end
section
namespace Go.Proofs.YtbdcaacpemkloaaGreat
open Go Go.RowKit Go.Vc
set_option linter.unusedVariables false
set_option linter.unusedSimpArgs false
set_option linter.unnecessarySimpa false
def tS (x : DtStream) : Sm := ⟨x.1.1, x.1.2.1, x.1.2.2.1, x.1.2.2.2.1, x.1.2.2.2.2, x.2.1, x.2.2.1, x.2.2.2⟩
def uS (s : Sm) : DtStream := ((s.kind, s.si, s.di, s.sp, s.dp), s.next, s.data, s.done)
theorem ts_flat (l : List DtStream) : ((l.map tS).map smE).flatten = l.flatMap Flat.cells := by
  rw [List.map_map, List.flatMap_def]; rfl
theorem is_flat (l : List Int) : (l.map intE).flatten = l.flatMap Flat.cells := by rw [List.flatMap_def]; rfl
section
open Go.Vc
variable {P : Program} {f : FuncId} {args : List AV} {vs : List Value} {w : World}
theorem ab_pool {fr : List Int} {pb pz pc : Int} {v : Value} (h : Holds w fr [v]) : AB w (.agg [V pb, V pz, V pc, .sl 1 (fr.map intE)]) (.agg #[.int .i64 pb, .int .i64 pz, .int .i64 pc, v]) := ⟨[.int .i64 pb, .int .i64 pz, .int .i64 pc, v], rfl, .cons ⟨rfl, rfl⟩ (.cons ⟨rfl, rfl⟩ (.cons ⟨rfl, rfl⟩ (.cons (R.of_rb (rb_sl (fun _ => rfl) h)) .nil)))⟩
theorem ab_sms {l : List DtStream} {v : Value} (h : Holds w l [v]) : AB w (.one (.sl 8 ((l.map tS).map smE))) v := by
  rw [List.map_map]
  exact R.of_rb (w0 := w) (D := fun _ => False) (ρ := fun _ => undef) (rb_sl (fun _ => rfl) h)
theorem old_pq {ps : Pg} {fs : List Int} {gs : List Sm} {xs : List DtStream} {cs : List Value} {pb pz pc n : Int} {E F G : TypeId} (hc : Con0 P f args (.tup [.agg [.hs 0], .agg (cs.map .v), .agg [V pb, V pz, V pc, .hs 1], .one (.hs 2), I n]) [(0, .arr E 1 (ps.map strE)), (1, .arr F 1 (fs.map intE)), (2, .arr G 8 (gs.map smE))]) (ha : F2 (AB w) args vs) (hg : gs = xs.map tS) (hok : ∀ p ∈ ps, p.size ≤ maxLen) (hok2 : ∀ x ∈ fs, Flat.ok x) (hok3 : ∀ x ∈ xs, Flat.ok x) :
    Calls P f vs.toArray w fun e w' => ∃ a c a2 c2 a3 c3, e = .returned (.tuple #[.agg #[.slice a ps.length c], .agg cs.toArray, .agg #[.int .i64 pb, .int .i64 pz, .int .i64 pc, .slice a2 fs.length c2], .slice a3 xs.length c3, .int .i64 n]) ∧ Owns w.heap.size w' (ps, fs, xs) ([.slice a ps.length c] ++ ([.slice a2 fs.length c2] ++ [.slice a3 xs.length c3])) ∧ Ex w w' := by
  subst hg
  refine (hc.2 w vs ha 0).mono fun e w' h => ?_
  obtain ⟨u, ρ, rfl, h1, _, _, _, As, h2, h3⟩ := h
  obtain ⟨us, rfl, h1⟩ : ∃ us : List Value, u = .tuple us.toArray ∧ F2 (AR1 w _ ρ) [.agg [.hs (0 + 0)], .agg ((cs.map PV.v).map (shP 0)), .agg [V pb, V pz, V pc, .hs (0 + 1)], .one (.hs (0 + 2)), I n] us := h1
  cases h1 with
  | cons g1 h1 =>
  cases h1 with
  | cons g2 h1 =>
  cases h1 with
  | cons g3 h1 =>
  cases h1 with
  | cons g4 h1 =>
  cases h1 with
  | cons g5 h1 =>
  cases h1
  obtain ⟨us1, rfl, k1⟩ := g1
  obtain ⟨us2, rfl, k2⟩ := g2
  obtain ⟨us3, rfl, k3⟩ := g3
  obtain ⟨_, rfl, _⟩ := g4
  obtain ⟨rfl, _⟩ := g5
  rw [shP_v] at k2
  obtain ⟨rfl, _⟩ := F2.map_v k2
  cases k1 with
  | cons k1 kk =>
  cases kk
  obtain ⟨_, rfl, _⟩ := k1
  cases k3 with
  | cons q1 k3 =>
  cases k3 with
  | cons q2 k3 =>
  cases k3 with
  | cons q3 k3 =>
  cases k3 with
  | cons q4 k3 =>
  cases k3
  obtain ⟨rfl, _⟩ := q1
  obtain ⟨rfl, _⟩ := q2
  obtain ⟨rfl, _⟩ := q3
  obtain ⟨_, rfl, _⟩ := q4
  cases h2 with
  | cons q1 h2 =>
  cases h2 with
  | cons q2 h2 =>
  cases h2 with
  | cons q3 h2 =>
  cases h2
  obtain ⟨_, rfl⟩ := q1
  obtain ⟨_, rfl⟩ := q2
  obtain ⟨_, rfl⟩ := q3
  rw [pg_flat, is_flat, ts_flat] at h3
  have e1 := h3.shut (α := DtStream) (.tail (.tail .head)) rfl hok3
  have e2 := e1.shut (α := Int) (.tail (.tail .head)) rfl hok2
  have o3 := (e1.owns .head).holds.flat
  have o2 := (e2.owns .head).holds.flat
  have e3 := e2.join.shut (α := ByteArray) (.tail .head) rfl hok
  have o1 := (e3.owns .head).holds.flat
  have ho := e3.join.owns .head
  obtain ⟨a, c, hv1, _⟩ := o1
  obtain ⟨a2, c2, hv2, _⟩ := o2
  obtain ⟨a3, c3, hv3, _⟩ := o3
  simp only [List.cons.injEq, and_true] at hv1 hv2 hv3
  rw [hv1, hv2, hv3] at ho
  refine ⟨a, c, a2, c2, a3, c3, ?_, ho, h3.ex⟩
  rw [show ρ (0 + 0) = _ from hv1, show ρ (0 + 1) = _ from hv2, show ρ (0 + 2) = _ from hv3]
end
end Go.Proofs.YtbdcaacpemkloaaGreat
end
section
namespace Go.Proofs.YtbdcaacpemkloaaGreat
open Go Go.RowKit Go.Vc
set_option linter.unusedVariables false
set_option linter.unusedSimpArgs false
set_option linter.unnecessarySimpa false
def smI (s : Sm) : Prop := i64ok s.kind ∧ i64ok s.si ∧ i64ok s.di ∧ i64ok s.sp ∧ i64ok s.dp ∧ i64ok s.next
theorem sup_i64 {p : Pk} (h : p.sup = true) : i64ok p.kind ∧ i64ok p.si ∧ i64ok p.di ∧ i64ok p.sp ∧ i64ok p.dp := by
  unfold Pk.sup at h
  simp only [superOkB, segOkB, Bool.and_eq_true, Bool.or_eq_true, inB_iff, Bool.not_eq_true', decide_eq_false_iff_not, beq_iff_eq, decide_eq_true_eq] at h
  unfold i64ok
  omega
theorem dlF_I {l : List Sm} {p : Pk} (h : ∀ s ∈ l, smI s) : ∀ s ∈ dlF l p, smI s := by
  intro s hs
  have hge : ∀ i, i < l.length → smI (at' l i) := fun i hi => h _ (atp_mem hi)
  have h0 : i64ok 0 := by unfold i64ok; omega
  have hset : ∀ (i : Nat) (y : Sm), (i < l.length → smI y) → s ∈ l.set i y → smI s := fun i y hy hm => by
    rcases List.mem_or_eq_of_mem_set hm with hm | rfl
    · exact h _ hm
    · by_cases hi : i < l.length
      · exact hy hi
      · rw [List.set_eq_of_length_le (by omega)] at hm; exact h _ hm
  by_cases hp : p.sup = true
  · obtain ⟨a, b, c, d, e⟩ := sup_i64 hp
    have hn : i64ok ((p.seq + 1) % 4294967296) := by unfold i64ok; omega
    unfold dlF at hs
    rw [if_pos hp] at hs
    split at hs
    · split at hs
      · rcases List.mem_append.1 hs with hs | hs
        · exact h _ hs
        · rw [List.mem_singleton.1 hs]; exact ⟨a, b, c, d, e, h0⟩
      · refine hset _ _ (fun hi => ?_) hs
        exact hge _ hi
    · split at hs
      · split at hs
        · rcases List.mem_append.1 hs with hs | hs
          · exact h _ hs
          · rw [List.mem_singleton.1 hs]; exact ⟨a, b, c, d, e, hn⟩
        · exact h _ hs
      · split at hs
        · exact h _ hs
        · split at hs
          · refine hset _ _ (fun hi => ?_) hs
            obtain ⟨q1, q2, q3, q4, q5, q6⟩ := hge _ hi
            exact ⟨q1, q2, q3, q4, q5, by unfold dlS i64ok; simp only; omega⟩
          · exact h _ hs
  · rw [dl_n (by simpa using hp)] at hs; exact h _ hs
theorem pkS_I {l : List Mp} {ps : Pg} {d pb pz pc : Int} {fr : List Int} {x : Comp} {sm : List Sm} (h : ∀ s ∈ sm, smI s) : ∀ s ∈ pkS l ps d pb pz pc fr x sm, smI s := by
  unfold pkS
  split
  · exact dlF_I h
  · exact h
theorem pkS_sz {l : List Mp} {ps : Pg} {d pb pz pc : Int} {fr : List Int} {x : Comp} {sm : List Sm} {M : Nat} (h : ∀ s ∈ sm, s.data.size ≤ M) : (∀ s ∈ pkS l ps d pb pz pc fr x sm, s.data.size ≤ M + 400) ∧ (pkS l ps d pb pz pc fr x sm).length ≤ sm.length + 1 := by
  unfold pkS
  split
  · exact ⟨dlF_sz h, dlF_len ..⟩
  · exact ⟨fun s hs => by have := h s hs; omega, by omega⟩
theorem giveF_I {pb pz pc : Int} {fr : List Int} {k : Int} (h : ∀ x ∈ fr, i64ok x) : ∀ x ∈ giveF pb pz pc fr [k], i64ok x := by
  unfold giveF
  split
  · rename_i g
    unfold giveB at g
    rw [Bool.and_eq_true] at g
    obtain ⟨_, _, _, _, _, c1, hk⟩ := poolB_facts g.2
    exact fun x hx => by have := hk x hx; unfold i64ok; omega
  · exact h
theorem poll_in {l : List Mp} {ps : Pg} {d pb pz pc vb vs : Int} : ∀ (f : Nat) (fr : List Int) (sm : List Sm) (c n : Int) (M : Nat), (∀ x ∈ fr, i64ok x) → (∀ s ∈ sm, smI s) → (∀ s ∈ sm, s.data.size ≤ M) → (∀ x ∈ (pollL l ps d pb pz pc vb vs f fr sm c n).1, i64ok x) ∧ (pollL l ps d pb pz pc vb vs f fr sm c n).1.length ≤ fr.length + f ∧ (∀ s ∈ (pollL l ps d pb pz pc vb vs f fr sm c n).2.1, smI s) ∧ (∀ s ∈ (pollL l ps d pb pz pc vb vs f fr sm c n).2.1, s.data.size ≤ M + 400 * f) ∧ (pollL l ps d pb pz pc vb vs f fr sm c n).2.1.length ≤ sm.length + f
  | 0, fr, sm, c, n, M, h1, h2, h3 => ⟨h1, Nat.le_refl _, h2, fun s hs => by have := h3 s hs; omega, Nat.le_refl _⟩
  | f + 1, fr, sm, c, n, M, h1, h2, h3 => by
    simp only [pollL]
    split
    · have hz := pkS_sz (l := l) (ps := ps) (d := d) (pb := pb) (pz := pz) (pc := pc) (fr := fr) (x := (nextF l ps d vb vs c).1) h3
      obtain ⟨a, b, e, g, k⟩ := poll_in f (giveF pb pz pc fr [(nextF l ps d vb vs c).1.1]) (pkS l ps d pb pz pc fr (nextF l ps d vb vs c).1 sm) (nextF l ps d vb vs c).2.1 (n + 1) (M + 400) (giveF_I h1) (pkS_I h2) hz.1
      have hl := give_len pb pz pc fr (nextF l ps d vb vs c).1.1
      exact ⟨a, by omega, e, fun s hs => by have := g s hs; omega, by omega⟩
    · exact ⟨h1, by simp only; omega, h2, fun s hs => by have := h3 s hs; omega, by simp only; omega⟩
end Go.Proofs.YtbdcaacpemkloaaGreat
end
section
namespace Go.Proofs.YtbdcaacpemkloaaGreat
open Go Go.RowKit Go.Vc
set_option linter.unusedVariables false
set_option linter.unusedSimpArgs false
set_option linter.unnecessarySimpa false
def Keep (ps qs : Pg) : Prop := qs.length = ps.length ∧ ((∀ p ∈ ps, p.size ≤ maxLen) → ∀ p ∈ qs, p.size ≤ maxLen)
theorem Keep.refl (ps : Pg) : Keep ps ps := ⟨rfl, id⟩
theorem Keep.trans {a b c : Pg} (h : Keep a b) (k : Keep b c) : Keep a c := ⟨k.1.trans h.1, fun g => k.2 (h.2 g)⟩
theorem keep_dma (l : List Mp) (ps : Pg) (d a : Int) (s : ByteArray) (wt : Bool) : Keep ps (dmaWF l ps d a s wt).1 := by
  unfold dmaWF
  split
  · rename_i qs h
    obtain ⟨h1, h2, _⟩ := dmaW_ok h
    refine ⟨h2, fun _ p hp => ?_⟩
    obtain ⟨i, hi, rfl⟩ := List.getElem_of_mem hp
    have e : qs[i].size = 128 := h1.2 i hi
    show qs[i].size ≤ maxLen
    unfold maxLen; omega
  · exact .refl ps
theorem keep_rput (l : List Mp) (ps : Pg) (d b s h t : Int) (e : ByteArray) : Keep ps (rputF l ps d b s h t e).1 := by
  unfold rputF
  split
  · exact .refl ps
  · split
    · have q := keep_dma l ps d (rslot b s t) e true
      split <;> rename_i g
      · rw [g] at q; exact q
      · exact .refl ps
    · exact .refl ps
theorem keep_fillG {l : List Mp} {d b s h pb pz : Int} : ∀ (ks : List Int) (ps : Pg) (t : Int) (n : Nat), Keep ps (fillG l d b s h pb pz ks ps t n).1
  | [], ps, t, n => .refl ps
  | k :: ks, ps, t, n => by
    have q := keep_rput l ps d b s h t (encDF 3 0 pz (pb + k * pz) 0 k)
    rw [fillG]
    split
    · rename_i g; rw [g] at q; exact q.trans (keep_fillG ks _ _ _)
    · exact .refl ps
theorem fill_in {l : List Mp} {ps : Pg} {d b s h t pb pz pc : Int} {fr : List Int} (hf : ∀ x ∈ fr, i64ok x) : Keep ps (fillRF l ps d b s h t pb pz pc fr).1 ∧ (fillRF l ps d b s h t pb pz pc fr).2.2.1.length ≤ fr.length ∧ ∀ x ∈ (fillRF l ps d b s h t pb pz pc fr).2.2.1, i64ok x := by
  unfold fillRF
  split
  · exact ⟨keep_fillG .., by simp, fun x hx => hf x (List.mem_of_mem_drop hx)⟩
  · exact ⟨.refl ps, Nat.le_refl _, hf⟩
theorem pq_in {ok : Bool} {l : List Mp} {ps : Pg} {d rb rs rh rt vb vs vc pb pz pc bud : Int} {fr : List Int} {sm : List Sm} {M : Nat} (hb : ok = true → bud ≤ 1000) (h1 : ∀ x ∈ fr, i64ok x) (h2 : ∀ s ∈ sm, smI s) (h3 : ∀ s ∈ sm, s.data.size ≤ M) {r : Pg × Int × Int × List Int × List Sm × Int} (hr : pqF ok l ps d rb rs rh rt vb vs vc pb pz pc fr sm bud = r) : Keep ps r.1 ∧ (∀ x ∈ r.2.2.2.1, i64ok x) ∧ r.2.2.2.1.length ≤ fr.length + 1000 ∧ (∀ s ∈ r.2.2.2.2.1, smI s) ∧ (∀ s ∈ r.2.2.2.2.1, s.data.size ≤ M + 400000) ∧ r.2.2.2.2.1.length ≤ sm.length + 1000 := by
  subst hr
  cases ok with
  | false => exact ⟨.refl ps, h1, Nat.le_add_right .., h2, fun s hs => Nat.le_trans (h3 s hs) (Nat.le_add_right ..), Nat.le_add_right ..⟩
  | true =>
    have hb2 := hb rfl
    obtain ⟨a, b, e, g, k⟩ := poll_in (l := l) (ps := ps) (d := d) (pb := pb) (pz := pz) (pc := pc) (vb := vb) (vs := vs) bud.toNat fr sm vc 0 M h1 h2 h3
    obtain ⟨f1, f2, f3⟩ := fill_in (l := l) (ps := ps) (d := d) (b := rb) (s := rs) (h := rh) (t := rt) (pb := pb) (pz := pz) (pc := pc) a
    refine ⟨f1, f3, ?_, e, fun s hs => Nat.le_trans (g s hs) (by omega), ?_⟩
    · exact Nat.le_trans f2 (by omega)
    · exact Nat.le_trans k (by omega)
end Go.Proofs.YtbdcaacpemkloaaGreat
end
section
namespace Go.Proofs.YtbdcaacpemkloaaGreat
open Go.RowKit
set_option linter.unusedVariables false
set_option linter.unusedSimpArgs false
section
open Go.Vc
theorem both_PollQueue (aListD : List Mp) (aMD : Pg) (aDomain : Int) (aQ_Ring_Base : Int) (aQ_Ring_Size : Int) (aQ_Ring_Head : Int) (aQ_Ring_Tail : Int) (aQ_Device_Base : Int) (aQ_Device_Size : Int) (aQ_Device_Count : Int) (aQ_Driver_Base : Int) (aQ_Driver_Size : Int) (aQ_Driver_Count : Int) (aQ_Held_Packet_DstMac : Int) (aQ_Held_Packet_SrcMac : Int) (aQ_Held_Packet_Vlan : Int) (aQ_Held_Packet_Tos : Int) (aQ_Held_Packet_Id : Int) (aQ_Held_Packet_Ttl : Int) (aQ_Held_Packet_SrcIp : Int) (aQ_Held_Packet_DstIp : Int) (aQ_Held_Packet_Seg_Kind : Int) (aQ_Held_Packet_Seg_SrcPort : Int) (aQ_Held_Packet_Seg_DstPort : Int) (aQ_Held_Packet_Seg_Seq : Int) (aQ_Held_Packet_Seg_Ack : Int) (aQ_Held_Packet_Seg_Flags : Int) (aQ_Held_Packet_Seg_Window : Int) (aQ_Held_Packet_Seg_Body : ByteArray) (aQ_Held_Size : Int) (aQ_Held_Count : Int) (aQ_Holding : Bool) (aQ_Dropped : Int) (pb pz pc : Int) (fr : List Int) (gs : List DtStream) (aBudget : Int) (hl : aListD.length ≤ 1099511627776) (hp : aMD.length ≤ 1099511627776) (hlf : fr.length ≤ 1048576) (hlg0 : gs.length ≤ 1048576) (hz : ∀ x ∈ gs, x.2.2.1.size ≤ 1048576) (hok : ∀ p ∈ aMD, p.size ≤ maxLen) (hfi : ∀ x ∈ fr, Flat.ok x) (hgi : ∀ x ∈ gs, Flat.ok x) : ∃ (qs : Pg) (t9 c9 : Int) (fr9 : List Int) (gs9 : List DtStream) (n9 : Int), qs.length = aMD.length ∧ fr9.length ≤ fr.length + 1000 ∧ gs9.length ≤ gs.length + 1000 ∧ (∀ (w : World) (v1 v2 v3 v4 : Value), Holds w aListD [v1] → Holds w aMD [v2] → Holds w fr [v3] → Holds w gs [v4] → Calls Tryz.prog 46 #[v1, .agg #[v2], .int .i64 aDomain, .agg #[.int .i64 aQ_Ring_Base, .int .i64 aQ_Ring_Size, .int .i64 aQ_Ring_Head, .int .i64 aQ_Ring_Tail, .int .i64 aQ_Device_Base, .int .i64 aQ_Device_Size, .int .i64 aQ_Device_Count, .int .i64 aQ_Driver_Base, .int .i64 aQ_Driver_Size, .int .i64 aQ_Driver_Count, .int .i64 aQ_Held_Packet_DstMac, .int .i64 aQ_Held_Packet_SrcMac, .int .i64 aQ_Held_Packet_Vlan, .int .i64 aQ_Held_Packet_Tos, .int .i64 aQ_Held_Packet_Id, .int .i64 aQ_Held_Packet_Ttl, .int .i64 aQ_Held_Packet_SrcIp, .int .i64 aQ_Held_Packet_DstIp, .int .i64 aQ_Held_Packet_Seg_Kind, .int .i64 aQ_Held_Packet_Seg_SrcPort, .int .i64 aQ_Held_Packet_Seg_DstPort, .int .i64 aQ_Held_Packet_Seg_Seq, .int .i64 aQ_Held_Packet_Seg_Ack, .int .i64 aQ_Held_Packet_Seg_Flags, .int .i64 aQ_Held_Packet_Seg_Window, .string aQ_Held_Packet_Seg_Body, .int .i64 aQ_Held_Size, .int .i64 aQ_Held_Count, .bool aQ_Holding, .int .i64 aQ_Dropped], .agg #[.int .i64 pb, .int .i64 pz, .int .i64 pc, v3], v4, .int .i64 aBudget] w fun e w' => ∃ a c a2 c2 a3 c3, e = .returned (.tuple #[.agg #[.slice a qs.length c], .agg #[.int .i64 aQ_Ring_Base, .int .i64 aQ_Ring_Size, .int .i64 aQ_Ring_Head, .int .i64 t9, .int .i64 aQ_Device_Base, .int .i64 aQ_Device_Size, .int .i64 aQ_Device_Count, .int .i64 aQ_Driver_Base, .int .i64 aQ_Driver_Size, .int .i64 c9, .int .i64 aQ_Held_Packet_DstMac, .int .i64 aQ_Held_Packet_SrcMac, .int .i64 aQ_Held_Packet_Vlan, .int .i64 aQ_Held_Packet_Tos, .int .i64 aQ_Held_Packet_Id, .int .i64 aQ_Held_Packet_Ttl, .int .i64 aQ_Held_Packet_SrcIp, .int .i64 aQ_Held_Packet_DstIp, .int .i64 aQ_Held_Packet_Seg_Kind, .int .i64 aQ_Held_Packet_Seg_SrcPort, .int .i64 aQ_Held_Packet_Seg_DstPort, .int .i64 aQ_Held_Packet_Seg_Seq, .int .i64 aQ_Held_Packet_Seg_Ack, .int .i64 aQ_Held_Packet_Seg_Flags, .int .i64 aQ_Held_Packet_Seg_Window, .string aQ_Held_Packet_Seg_Body, .int .i64 aQ_Held_Size, .int .i64 aQ_Held_Count, .bool aQ_Holding, .int .i64 aQ_Dropped], .agg #[.int .i64 pb, .int .i64 pz, .int .i64 pc, .slice a2 fr9.length c2], .slice a3 gs9.length c3, .int .i64 n9]) ∧ Owns w.heap.size w' (qs, fr9, gs9) ([.slice a qs.length c] ++ ([.slice a2 fr9.length c2] ++ [.slice a3 gs9.length c3])) ∧ Ex w w') ∧ (∀ (w : World) (v1 v2 v3 v4 : Value), Holds w aListD [v1] → Holds w aMD [v2] → Holds w fr [v3] → Holds w gs [v4] → Calls Tryz.prog 42 #[v1, .agg #[v2], .int .i64 aDomain, .agg #[.int .i64 aQ_Ring_Base, .int .i64 aQ_Ring_Size, .int .i64 aQ_Ring_Head, .int .i64 aQ_Ring_Tail, .int .i64 aQ_Device_Base, .int .i64 aQ_Device_Size, .int .i64 aQ_Device_Count, .int .i64 aQ_Driver_Base, .int .i64 aQ_Driver_Size, .int .i64 aQ_Driver_Count, .int .i64 aQ_Held_Packet_DstMac, .int .i64 aQ_Held_Packet_SrcMac, .int .i64 aQ_Held_Packet_Vlan, .int .i64 aQ_Held_Packet_Tos, .int .i64 aQ_Held_Packet_Id, .int .i64 aQ_Held_Packet_Ttl, .int .i64 aQ_Held_Packet_SrcIp, .int .i64 aQ_Held_Packet_DstIp, .int .i64 aQ_Held_Packet_Seg_Kind, .int .i64 aQ_Held_Packet_Seg_SrcPort, .int .i64 aQ_Held_Packet_Seg_DstPort, .int .i64 aQ_Held_Packet_Seg_Seq, .int .i64 aQ_Held_Packet_Seg_Ack, .int .i64 aQ_Held_Packet_Seg_Flags, .int .i64 aQ_Held_Packet_Seg_Window, .string aQ_Held_Packet_Seg_Body, .int .i64 aQ_Held_Size, .int .i64 aQ_Held_Count, .bool aQ_Holding, .int .i64 aQ_Dropped], .agg #[.int .i64 pb, .int .i64 pz, .int .i64 pc, v3], v4, .int .i64 aBudget] w fun e w' => ∃ a c a2 c2 a3 c3, e = .returned (.tuple #[.agg #[.slice a qs.length c], .agg #[.int .i64 aQ_Ring_Base, .int .i64 aQ_Ring_Size, .int .i64 aQ_Ring_Head, .int .i64 t9, .int .i64 aQ_Device_Base, .int .i64 aQ_Device_Size, .int .i64 aQ_Device_Count, .int .i64 aQ_Driver_Base, .int .i64 aQ_Driver_Size, .int .i64 c9, .int .i64 aQ_Held_Packet_DstMac, .int .i64 aQ_Held_Packet_SrcMac, .int .i64 aQ_Held_Packet_Vlan, .int .i64 aQ_Held_Packet_Tos, .int .i64 aQ_Held_Packet_Id, .int .i64 aQ_Held_Packet_Ttl, .int .i64 aQ_Held_Packet_SrcIp, .int .i64 aQ_Held_Packet_DstIp, .int .i64 aQ_Held_Packet_Seg_Kind, .int .i64 aQ_Held_Packet_Seg_SrcPort, .int .i64 aQ_Held_Packet_Seg_DstPort, .int .i64 aQ_Held_Packet_Seg_Seq, .int .i64 aQ_Held_Packet_Seg_Ack, .int .i64 aQ_Held_Packet_Seg_Flags, .int .i64 aQ_Held_Packet_Seg_Window, .string aQ_Held_Packet_Seg_Body, .int .i64 aQ_Held_Size, .int .i64 aQ_Held_Count, .bool aQ_Holding, .int .i64 aQ_Dropped], .agg #[.int .i64 pb, .int .i64 pz, .int .i64 pc, .slice a2 fr9.length c2], .slice a3 gs9.length c3, .int .i64 n9]) ∧ Owns w.heap.size w' (qs, fr9, gs9) ([.slice a qs.length c] ++ ([.slice a2 fr9.length c2] ++ [.slice a3 gs9.length c3])) ∧ Ex w w') := by
  have hlg : (gs.map tS).length ≤ 100000000 := by rw [List.length_map]; omega
  have hlf2 : fr.length ≤ 100000000 := by omega
  have hz1 : ∀ s ∈ gs.map tS, s.data.size ≤ 1048576 := fun s hs => by
    obtain ⟨x, hx, rfl⟩ := List.mem_map.1 hs
    exact hz x hx
  have hz2 : ∀ s ∈ gs.map tS, s.data.size ≤ 100000000000 := fun s hs => Nat.le_trans (hz1 s hs) (by decide)
  have hI : ∀ s ∈ gs.map tS, smI s := fun s hs => by
    obtain ⟨x, hx, rfl⟩ := List.mem_map.1 hs
    obtain ⟨⟨q1, q2, q3, q4, q5⟩, q6, _⟩ := hgi x hx
    exact ⟨q1, q2, q3, q4, q5, q6⟩
  obtain ⟨r, hr⟩ : ∃ r, pqF (rxOkB aQ_Ring_Base aQ_Ring_Size aQ_Ring_Head aQ_Ring_Tail aQ_Device_Base aQ_Device_Size aQ_Device_Count aQ_Driver_Base aQ_Driver_Size aQ_Driver_Count aQ_Held_Packet_DstMac aQ_Held_Packet_SrcMac aQ_Held_Packet_Vlan aQ_Held_Packet_Tos aQ_Held_Packet_Id aQ_Held_Packet_Ttl aQ_Held_Packet_SrcIp aQ_Held_Packet_DstIp aQ_Held_Packet_Seg_Kind aQ_Held_Packet_Seg_SrcPort aQ_Held_Packet_Seg_DstPort aQ_Held_Packet_Seg_Seq aQ_Held_Packet_Seg_Ack aQ_Held_Packet_Seg_Flags aQ_Held_Packet_Seg_Window aQ_Held_Packet_Seg_Body aQ_Held_Size aQ_Held_Count aQ_Holding aQ_Dropped && (poolB pb pz pc fr && inB aBudget 0 1000)) aListD aMD aDomain aQ_Ring_Base aQ_Ring_Size aQ_Ring_Head aQ_Ring_Tail aQ_Driver_Base aQ_Driver_Size aQ_Driver_Count pb pz pc fr (gs.map tS) aBudget = r := ⟨_, rfl⟩
  obtain ⟨k1, k2, k3, k4, k5, k6⟩ := pq_in (fun hb => by simp only [Bool.and_eq_true, inB_iff] at hb; exact hb.2.2.2) hfi hI hz1 hr
  rw [List.length_map] at k6
  have hg : r.2.2.2.2.1 = (r.2.2.2.2.1.map uS).map tS := by rw [List.map_map]; exact (List.map_id _).symm
  have hgo : ∀ x ∈ r.2.2.2.2.1.map uS, Flat.ok x := fun x hx => by
    obtain ⟨s, hs, rfl⟩ := List.mem_map.1 hx
    obtain ⟨q1, q2, q3, q4, q5, q6⟩ := k4 s hs
    have q7 : s.data.size ≤ maxLen := Nat.le_trans (k5 s hs) (by decide)
    exact ⟨⟨q1, q2, q3, q4, q5⟩, q6, q7, trivial⟩
  refine ⟨r.1, r.2.1, r.2.2.1, r.2.2.2.1, r.2.2.2.2.1.map uS, r.2.2.2.2.2, k1.1, k3, by rw [List.length_map]; exact k6, ?_, ?_⟩
  · exact fun w v1 v2 v3 v4 h1 h2 h3 h4 => old_pq (cs := [.int .i64 aQ_Ring_Base, .int .i64 aQ_Ring_Size, .int .i64 aQ_Ring_Head, .int .i64 _, .int .i64 aQ_Device_Base, .int .i64 aQ_Device_Size, .int .i64 aQ_Device_Count, .int .i64 aQ_Driver_Base, .int .i64 aQ_Driver_Size, .int .i64 _, .int .i64 aQ_Held_Packet_DstMac, .int .i64 aQ_Held_Packet_SrcMac, .int .i64 aQ_Held_Packet_Vlan, .int .i64 aQ_Held_Packet_Tos, .int .i64 aQ_Held_Packet_Id, .int .i64 aQ_Held_Packet_Ttl, .int .i64 aQ_Held_Packet_SrcIp, .int .i64 aQ_Held_Packet_DstIp, .int .i64 aQ_Held_Packet_Seg_Kind, .int .i64 aQ_Held_Packet_Seg_SrcPort, .int .i64 aQ_Held_Packet_Seg_DstPort, .int .i64 aQ_Held_Packet_Seg_Seq, .int .i64 aQ_Held_Packet_Seg_Ack, .int .i64 aQ_Held_Packet_Seg_Flags, .int .i64 aQ_Held_Packet_Seg_Window, .string aQ_Held_Packet_Seg_Body, .int .i64 aQ_Held_Size, .int .i64 aQ_Held_Count, .bool aQ_Holding, .int .i64 aQ_Dropped]) (xs := r.2.2.2.2.1.map uS) (c_impl_PollQueue hr (hz_gs := hz2)) (.cons (ab_mps h1) (.cons (ab_mem h2) (.cons ⟨rfl, rfl⟩ (.cons (ab_agg [.int .i64 aQ_Ring_Base, .int .i64 aQ_Ring_Size, .int .i64 aQ_Ring_Head, .int .i64 aQ_Ring_Tail, .int .i64 aQ_Device_Base, .int .i64 aQ_Device_Size, .int .i64 aQ_Device_Count, .int .i64 aQ_Driver_Base, .int .i64 aQ_Driver_Size, .int .i64 aQ_Driver_Count, .int .i64 aQ_Held_Packet_DstMac, .int .i64 aQ_Held_Packet_SrcMac, .int .i64 aQ_Held_Packet_Vlan, .int .i64 aQ_Held_Packet_Tos, .int .i64 aQ_Held_Packet_Id, .int .i64 aQ_Held_Packet_Ttl, .int .i64 aQ_Held_Packet_SrcIp, .int .i64 aQ_Held_Packet_DstIp, .int .i64 aQ_Held_Packet_Seg_Kind, .int .i64 aQ_Held_Packet_Seg_SrcPort, .int .i64 aQ_Held_Packet_Seg_DstPort, .int .i64 aQ_Held_Packet_Seg_Seq, .int .i64 aQ_Held_Packet_Seg_Ack, .int .i64 aQ_Held_Packet_Seg_Flags, .int .i64 aQ_Held_Packet_Seg_Window, .string aQ_Held_Packet_Seg_Body, .int .i64 aQ_Held_Size, .int .i64 aQ_Held_Count, .bool aQ_Holding, .int .i64 aQ_Dropped] rfl) (.cons (ab_pool h3) (.cons (ab_sms h4) (.cons ⟨rfl, rfl⟩ .nil))))))) hg (k1.2 hok) k2 hgo
  · exact fun w v1 v2 v3 v4 h1 h2 h3 h4 => old_pq (cs := [.int .i64 aQ_Ring_Base, .int .i64 aQ_Ring_Size, .int .i64 aQ_Ring_Head, .int .i64 _, .int .i64 aQ_Device_Base, .int .i64 aQ_Device_Size, .int .i64 aQ_Device_Count, .int .i64 aQ_Driver_Base, .int .i64 aQ_Driver_Size, .int .i64 _, .int .i64 aQ_Held_Packet_DstMac, .int .i64 aQ_Held_Packet_SrcMac, .int .i64 aQ_Held_Packet_Vlan, .int .i64 aQ_Held_Packet_Tos, .int .i64 aQ_Held_Packet_Id, .int .i64 aQ_Held_Packet_Ttl, .int .i64 aQ_Held_Packet_SrcIp, .int .i64 aQ_Held_Packet_DstIp, .int .i64 aQ_Held_Packet_Seg_Kind, .int .i64 aQ_Held_Packet_Seg_SrcPort, .int .i64 aQ_Held_Packet_Seg_DstPort, .int .i64 aQ_Held_Packet_Seg_Seq, .int .i64 aQ_Held_Packet_Seg_Ack, .int .i64 aQ_Held_Packet_Seg_Flags, .int .i64 aQ_Held_Packet_Seg_Window, .string aQ_Held_Packet_Seg_Body, .int .i64 aQ_Held_Size, .int .i64 aQ_Held_Count, .bool aQ_Holding, .int .i64 aQ_Dropped]) (xs := r.2.2.2.2.1.map uS) (c_spec_PollQueue hr (hz_gs := hz2)) (.cons (ab_mps h1) (.cons (ab_mem h2) (.cons ⟨rfl, rfl⟩ (.cons (ab_agg [.int .i64 aQ_Ring_Base, .int .i64 aQ_Ring_Size, .int .i64 aQ_Ring_Head, .int .i64 aQ_Ring_Tail, .int .i64 aQ_Device_Base, .int .i64 aQ_Device_Size, .int .i64 aQ_Device_Count, .int .i64 aQ_Driver_Base, .int .i64 aQ_Driver_Size, .int .i64 aQ_Driver_Count, .int .i64 aQ_Held_Packet_DstMac, .int .i64 aQ_Held_Packet_SrcMac, .int .i64 aQ_Held_Packet_Vlan, .int .i64 aQ_Held_Packet_Tos, .int .i64 aQ_Held_Packet_Id, .int .i64 aQ_Held_Packet_Ttl, .int .i64 aQ_Held_Packet_SrcIp, .int .i64 aQ_Held_Packet_DstIp, .int .i64 aQ_Held_Packet_Seg_Kind, .int .i64 aQ_Held_Packet_Seg_SrcPort, .int .i64 aQ_Held_Packet_Seg_DstPort, .int .i64 aQ_Held_Packet_Seg_Seq, .int .i64 aQ_Held_Packet_Seg_Ack, .int .i64 aQ_Held_Packet_Seg_Flags, .int .i64 aQ_Held_Packet_Seg_Window, .string aQ_Held_Packet_Seg_Body, .int .i64 aQ_Held_Size, .int .i64 aQ_Held_Count, .bool aQ_Holding, .int .i64 aQ_Dropped] rfl) (.cons (ab_pool h3) (.cons (ab_sms h4) (.cons ⟨rfl, rfl⟩ .nil))))))) hg (k1.2 hok) k2 hgo
end
theorem _root_.Go.St.splitT {α β : Type} [Rep α] [Rep β] {w0 w : World} {Is Js : List Asn} {x : α} {y : β} {v1 v2 : List Value} (h : St w0 w Is) (t : Take Is (ownA (x, y) (v1 ++ v2)) Js) (hl : v1.length = Rep.size α) : St w0 w (ownA x v1 :: ownA y v2 :: Js) := (h.take t).split hl
theorem markMappingS_i {w0 w : World} {Js : List Asn} {v : Value} {l : List Mp} (q : Nat) {k : Int} (HS : St w0 w (ownA l [v] :: Js)) (h1 : q + 4 * l.length ≤ 4611686018427386000) (hk : k = (q : Int)) :
    Calls Tryz.prog 31 #[v, .int .i64 k] w (fun e w' => e = .returned (.int .i64 ((q + 4 * l.length : Nat) : Int)) ∧ St w0 w' (ownA (markMp l.length q) [v] :: Js)) := hk ▸ markMappingS_st v l q w HS h1
theorem markMemory_i {w0 w : World} {Js : List Asn} {v : Value} {ps : Pg} (q : Nat) {k : Int} (HS : St w0 w (ownA ps [v] :: Js)) (h0 : 0 < q) (h1 : q + ps.length ≤ 4611686018427387903) (hk : k = (q : Int)) :
    Calls Tryz.prog 32 #[.agg #[v], .int .i64 k] w (fun e w' => e = .returned (.int .i64 ((q + ps.length : Nat) : Int)) ∧ St w0 w' (ownA (mtexts ps.length q) [v] :: Js)) := hk ▸ markMemory_st v ps q w HS h0 h1
theorem heldMemory_i {w : World} {v : Value} (n q : Nat) {k : Int} (k1 : Holds w (mtexts n q) [v]) (h0 : 0 < q) (h1 : q + n ≤ 4611686018427387903) (hk : k = (q : Int)) :
    Calls Tryz.prog 34 #[.agg #[v], .int .i64 k] w fun e w' => e = .returned (.int .i64 ((q + n : Nat) : Int)) ∧ Ex w w' := hk ▸ heldMemory_any v n q w k1 h0 h1
theorem openPool {w : World} {b z c : Int} {fr : List Int} {vs : List Value} (h : Holds w (b, z, c, fr) vs) : ∃ v, vs = [.int .i64 b, .int .i64 z, .int .i64 c, v] ∧ Holds w fr [v] := by
  obtain ⟨bs, _, _, _, _, rfl, _, ⟨rfl, _, hb⟩, _, _, _, _, rfl, _, ⟨rfl, _, hz⟩, _, _, _, _, rfl, _, ⟨rfl, _, hc⟩, t⟩ := h
  have t' := t
  obtain ⟨a, cap, rfl, _⟩ := t'
  exact ⟨_, rfl, _, t⟩
theorem tot_mem : ∀ {l : List DtStream} {x : DtStream}, x ∈ l → x.2.2.1.size ≤ totStream l
  | y :: l, x, h => by
    have e : totStream (y :: l) = y.2.2.1.size + totStream l := rfl
    rcases List.mem_cons.1 h with rfl | h
    · omega
    · have := tot_mem h; omega
set_option maxRecDepth 100000 in
set_option maxHeartbeats 16000000 in
theorem walk_FnExactPollQueue (w : World) (aList : Value) (aListD : List (Int × Int × Int × Bool)) (haList : Holds w aListD [aList]) (aM : Array Value) (aMD : List ByteArray) (haM : Holds w aMD aM.toList) (aDomain : Int) (haDomain : i64ok aDomain) (aQ_Ring_Base : Int) (haQ_Ring_Base : i64ok aQ_Ring_Base) (aQ_Ring_Size : Int) (haQ_Ring_Size : i64ok aQ_Ring_Size) (aQ_Ring_Head : Int) (haQ_Ring_Head : i64ok aQ_Ring_Head) (aQ_Ring_Tail : Int) (haQ_Ring_Tail : i64ok aQ_Ring_Tail) (aQ_Device_Base : Int) (haQ_Device_Base : i64ok aQ_Device_Base) (aQ_Device_Size : Int) (haQ_Device_Size : i64ok aQ_Device_Size) (aQ_Device_Count : Int) (haQ_Device_Count : i64ok aQ_Device_Count) (aQ_Driver_Base : Int) (haQ_Driver_Base : i64ok aQ_Driver_Base) (aQ_Driver_Size : Int) (haQ_Driver_Size : i64ok aQ_Driver_Size) (aQ_Driver_Count : Int) (haQ_Driver_Count : i64ok aQ_Driver_Count) (aQ_Held_Packet_DstMac : Int) (haQ_Held_Packet_DstMac : i64ok aQ_Held_Packet_DstMac) (aQ_Held_Packet_SrcMac : Int) (haQ_Held_Packet_SrcMac : i64ok aQ_Held_Packet_SrcMac) (aQ_Held_Packet_Vlan : Int) (haQ_Held_Packet_Vlan : i64ok aQ_Held_Packet_Vlan) (aQ_Held_Packet_Tos : Int) (haQ_Held_Packet_Tos : i64ok aQ_Held_Packet_Tos) (aQ_Held_Packet_Id : Int) (haQ_Held_Packet_Id : i64ok aQ_Held_Packet_Id) (aQ_Held_Packet_Ttl : Int) (haQ_Held_Packet_Ttl : i64ok aQ_Held_Packet_Ttl) (aQ_Held_Packet_SrcIp : Int) (haQ_Held_Packet_SrcIp : i64ok aQ_Held_Packet_SrcIp) (aQ_Held_Packet_DstIp : Int) (haQ_Held_Packet_DstIp : i64ok aQ_Held_Packet_DstIp) (aQ_Held_Packet_Seg_Kind : Int) (haQ_Held_Packet_Seg_Kind : i64ok aQ_Held_Packet_Seg_Kind) (aQ_Held_Packet_Seg_SrcPort : Int) (haQ_Held_Packet_Seg_SrcPort : i64ok aQ_Held_Packet_Seg_SrcPort) (aQ_Held_Packet_Seg_DstPort : Int) (haQ_Held_Packet_Seg_DstPort : i64ok aQ_Held_Packet_Seg_DstPort) (aQ_Held_Packet_Seg_Seq : Int) (haQ_Held_Packet_Seg_Seq : i64ok aQ_Held_Packet_Seg_Seq) (aQ_Held_Packet_Seg_Ack : Int) (haQ_Held_Packet_Seg_Ack : i64ok aQ_Held_Packet_Seg_Ack) (aQ_Held_Packet_Seg_Flags : Int) (haQ_Held_Packet_Seg_Flags : i64ok aQ_Held_Packet_Seg_Flags) (aQ_Held_Packet_Seg_Window : Int) (haQ_Held_Packet_Seg_Window : i64ok aQ_Held_Packet_Seg_Window) (aQ_Held_Packet_Seg_Body : ByteArray) (haQ_Held_Packet_Seg_Body : aQ_Held_Packet_Seg_Body.size ≤ maxLen) (aQ_Held_Size : Int) (haQ_Held_Size : i64ok aQ_Held_Size) (aQ_Held_Count : Int) (haQ_Held_Count : i64ok aQ_Held_Count) (aQ_Holding : Bool) (aQ_Dropped : Int) (haQ_Dropped : i64ok aQ_Dropped) (aP : Array Value) (aPD : Int × Int × Int × List Int) (haP : Holds w aPD aP.toList) (aStreams : Value) (aStreamsD : List ((Int × Int × Int × Int × Int) × Int × ByteArray × Bool)) (haStreams : Holds w aStreamsD [aStreams]) (aBudget : Int) (haBudget : i64ok aBudget) :
    Calls Tryz.prog 7 #[aList, .agg aM, .int .i64 aDomain, .agg #[.int .i64 aQ_Ring_Base, .int .i64 aQ_Ring_Size, .int .i64 aQ_Ring_Head, .int .i64 aQ_Ring_Tail, .int .i64 aQ_Device_Base, .int .i64 aQ_Device_Size, .int .i64 aQ_Device_Count, .int .i64 aQ_Driver_Base, .int .i64 aQ_Driver_Size, .int .i64 aQ_Driver_Count, .int .i64 aQ_Held_Packet_DstMac, .int .i64 aQ_Held_Packet_SrcMac, .int .i64 aQ_Held_Packet_Vlan, .int .i64 aQ_Held_Packet_Tos, .int .i64 aQ_Held_Packet_Id, .int .i64 aQ_Held_Packet_Ttl, .int .i64 aQ_Held_Packet_SrcIp, .int .i64 aQ_Held_Packet_DstIp, .int .i64 aQ_Held_Packet_Seg_Kind, .int .i64 aQ_Held_Packet_Seg_SrcPort, .int .i64 aQ_Held_Packet_Seg_DstPort, .int .i64 aQ_Held_Packet_Seg_Seq, .int .i64 aQ_Held_Packet_Seg_Ack, .int .i64 aQ_Held_Packet_Seg_Flags, .int .i64 aQ_Held_Packet_Seg_Window, .string aQ_Held_Packet_Seg_Body, .int .i64 aQ_Held_Size, .int .i64 aQ_Held_Count, .bool aQ_Holding, .int .i64 aQ_Dropped], .agg aP, aStreams, .int .i64 aBudget] w fun e w' => e = .returned (.bool true) ∧ Ex w w' := by
  obtain ⟨AA, cap, rfl, z1, z2⟩ := haList.fl
  unfold maxLen at z2
  obtain ⟨vM, rfl⟩ : ∃ v, aM = #[v] := by
    obtain ⟨bs, a, c, hv, _⟩ := haM
    exact ⟨_, Array.toList_inj.1 hv⟩
  have k2 : Holds w aMD [vM] := haM
  have k1 := haList
  obtain ⟨BB, cap2, rfl, y1, y2⟩ := k2.fl
  unfold maxLen at y2
  clear haM haList
  obtain ⟨pb, pz, pc, fr⟩ := aPD
  obtain ⟨vP, eP, k3⟩ := openPool haP
  obtain rfl : aP = #[.int .i64 pb, .int .i64 pz, .int .i64 pc, vP] := Array.toList_inj.1 eP
  obtain ⟨CC, cap3, rfl, x1, x2⟩ := k3.fl
  unfold maxLen at x2
  clear haP eP
  obtain ⟨gs, hgs⟩ : ∃ g : List DtStream, g = aStreamsD := ⟨_, rfl⟩
  subst hgs
  have k4 : Holds w gs [aStreams] := haStreams
  clear haStreams
  obtain ⟨DD, cap4, rfl, u1, u2⟩ := k4.fl
  unfold maxLen at u2
  by_cases hb0 : (1048576 : Int) < aListD.length
  case pos =>
    have HS := St.start w
    go_enter Tryz.func7, Tryz.ntmps7
    go_wp2_with (first
          | (go_at_call 20; (with_reducible refine (szMappingS_gt _ aListD _ _ (k1.ex HS.ex) (by omega) (by omega) (by omega)).mono ?_); rintro e w' ⟨rfl, hx⟩; replace HS := HS.grow hx; clear hx)
          | ((with_reducible (show wpList _ _ _ (Oper.mk (some 8) (Op.box _ _) _ _ _ _ :: _) _ _)); refine wpList_box_st (o := ⟨some 8, .box _ _, _, _, _, _⟩) rfl _ _ rfl (v := .agg (List.toArray _)) rfl HS ?_; clear HS; intro w8 b8 hb8 HS; simp only [Value.cells] at HS)
          | ((with_reducible (show wpList _ _ _ (Oper.mk (some 10) (Op.box _ _) _ _ _ _ :: _) _ _)); refine wpList_box_st (o := ⟨some 10, .box _ _, _, _, _, _⟩) rfl _ _ rfl (v := .agg (List.toArray _)) rfl HS ?_; clear HS; intro w10 b10 hb10 HS; simp only [Value.cells] at HS)
          | ((with_reducible (show wpList _ _ _ (Oper.mk (some 11) (Op.box _ _) _ _ _ _ :: _) _ _)); refine wpList_box_st (o := ⟨some 11, .box _ _, _, _, _, _⟩) rfl _ _ rfl (v := .agg (List.toArray _)) rfl HS ?_; clear HS; intro w11 b11 hb11 HS; simp only [Value.cells] at HS))
    go_ret
    exact ⟨rfl, HS.ex⟩
  case neg =>
  by_cases hb1 : (1048576 : Int) - aListD.length < ((aMD.length + totS aMD : Nat) : Int)
  case pos =>
    have HS := St.start w
    go_enter Tryz.func7, Tryz.ntmps7
    go_wp2_with (first
          | (go_at_call 20; (with_reducible refine (szMappingS_le _ aListD _ _ (k1.ex HS.ex) (by omega) (by omega)).mono ?_); rintro e w' ⟨rfl, hx⟩; replace HS := HS.grow hx; clear hx)
          | (go_at_call 21; (with_reducible refine (szMemory_gt _ aMD _ _ (k2.ex HS.ex) (by omega) (by omega) (by omega)).mono ?_); rintro e w' ⟨rfl, hx⟩; replace HS := HS.grow hx; clear hx)
          | ((with_reducible (show wpList _ _ _ (Oper.mk (some 8) (Op.box _ _) _ _ _ _ :: _) _ _)); refine wpList_box_st (o := ⟨some 8, .box _ _, _, _, _, _⟩) rfl _ _ rfl (v := .agg (List.toArray _)) rfl HS ?_; clear HS; intro w8 b8 hb8 HS; simp only [Value.cells] at HS)
          | ((with_reducible (show wpList _ _ _ (Oper.mk (some 10) (Op.box _ _) _ _ _ _ :: _) _ _)); refine wpList_box_st (o := ⟨some 10, .box _ _, _, _, _, _⟩) rfl _ _ rfl (v := .agg (List.toArray _)) rfl HS ?_; clear HS; intro w10 b10 hb10 HS; simp only [Value.cells] at HS)
          | ((with_reducible (show wpList _ _ _ (Oper.mk (some 11) (Op.box _ _) _ _ _ _ :: _) _ _)); refine wpList_box_st (o := ⟨some 11, .box _ _, _, _, _, _⟩) rfl _ _ rfl (v := .agg (List.toArray _)) rfl HS ?_; clear HS; intro w11 b11 hb11 HS; simp only [Value.cells] at HS)
          | ((with_reducible (show wpList _ _ _ (Oper.mk (some 43) (Op.load _ _) _ _ _ _ :: _) _ _)); refine wpList_loadA_st (o := ⟨some 43, .load _ _, _, _, _, _⟩) rfl _ _ rfl rfl HS tk ag_laws_Memory lit rfl ?_))
    go_ret
    exact ⟨rfl, HS.ex⟩
  case neg =>
  by_cases hb2 : (1048576 : Int) - aListD.length - ((aMD.length + totS aMD : Nat) : Int) < (aQ_Held_Packet_Seg_Body.size : Int)
  case pos =>
    have HS := St.start w
    go_enter Tryz.func7, Tryz.ntmps7
    go_wp2_with (first
          | (go_at_call 20; (with_reducible refine (szMappingS_le _ aListD _ _ (k1.ex HS.ex) (by omega) (by omega)).mono ?_); rintro e w' ⟨rfl, hx⟩; replace HS := HS.grow hx; clear hx)
          | (go_at_call 21; (with_reducible refine (szMemory_le _ aMD _ _ (k2.ex HS.ex) (by omega) (by omega)).mono ?_); rintro e w' ⟨rfl, hx⟩; replace HS := HS.grow hx; clear hx)
          | (go_at_call 39; (with_reducible refine (szRxQueue_gt_w aQ_Ring_Base aQ_Ring_Size aQ_Ring_Head aQ_Ring_Tail aQ_Device_Base aQ_Device_Size aQ_Device_Count aQ_Driver_Base aQ_Driver_Size aQ_Driver_Count aQ_Held_Packet_DstMac aQ_Held_Packet_SrcMac aQ_Held_Packet_Vlan aQ_Held_Packet_Tos aQ_Held_Packet_Id aQ_Held_Packet_Ttl aQ_Held_Packet_SrcIp aQ_Held_Packet_DstIp aQ_Held_Packet_Seg_Kind aQ_Held_Packet_Seg_SrcPort aQ_Held_Packet_Seg_DstPort aQ_Held_Packet_Seg_Seq aQ_Held_Packet_Seg_Ack aQ_Held_Packet_Seg_Flags aQ_Held_Packet_Seg_Window aQ_Held_Packet_Seg_Body aQ_Held_Size aQ_Held_Count aQ_Holding aQ_Dropped _ _ (by omega) (by omega) (by omega) haQ_Held_Packet_Seg_Body).mono ?_); rintro e w' ⟨rfl, hx⟩; replace HS := HS.grow hx; clear hx)
          | ((with_reducible (show wpList _ _ _ (Oper.mk (some 8) (Op.box _ _) _ _ _ _ :: _) _ _)); refine wpList_box_st (o := ⟨some 8, .box _ _, _, _, _, _⟩) rfl _ _ rfl (v := .agg (List.toArray _)) rfl HS ?_; clear HS; intro w8 b8 hb8 HS; simp only [Value.cells] at HS)
          | ((with_reducible (show wpList _ _ _ (Oper.mk (some 10) (Op.box _ _) _ _ _ _ :: _) _ _)); refine wpList_box_st (o := ⟨some 10, .box _ _, _, _, _, _⟩) rfl _ _ rfl (v := .agg (List.toArray _)) rfl HS ?_; clear HS; intro w10 b10 hb10 HS; simp only [Value.cells] at HS)
          | ((with_reducible (show wpList _ _ _ (Oper.mk (some 11) (Op.box _ _) _ _ _ _ :: _) _ _)); refine wpList_box_st (o := ⟨some 11, .box _ _, _, _, _, _⟩) rfl _ _ rfl (v := .agg (List.toArray _)) rfl HS ?_; clear HS; intro w11 b11 hb11 HS; simp only [Value.cells] at HS)
          | ((with_reducible (show wpList _ _ _ (Oper.mk (some 43) (Op.load _ _) _ _ _ _ :: _) _ _)); refine wpList_loadA_st (o := ⟨some 43, .load _ _, _, _, _, _⟩) rfl _ _ rfl rfl HS tk ag_laws_Memory lit rfl ?_)
          | ((with_reducible (show wpList _ _ _ (Oper.mk (some 48) (Op.load _ _) _ _ _ _ :: _) _ _)); refine wpList_loadA_st (o := ⟨some 48, .load _ _, _, _, _, _⟩) rfl _ _ rfl rfl HS tk ag_laws_RxQueue lit rfl ?_))
    go_ret
    exact ⟨rfl, HS.ex⟩
  case neg =>
  by_cases hb3 : (1048576 : Int) - aListD.length - ((aMD.length + totS aMD : Nat) : Int) - (aQ_Held_Packet_Seg_Body.size : Int) < (fr.length : Int)
  case pos =>
    have HS := St.start w
    go_enter Tryz.func7, Tryz.ntmps7
    go_wp2_with (first
          | (go_at_call 20; (with_reducible refine (szMappingS_le _ aListD _ _ (k1.ex HS.ex) (by omega) (by omega)).mono ?_); rintro e w' ⟨rfl, hx⟩; replace HS := HS.grow hx; clear hx)
          | (go_at_call 21; (with_reducible refine (szMemory_le _ aMD _ _ (k2.ex HS.ex) (by omega) (by omega)).mono ?_); rintro e w' ⟨rfl, hx⟩; replace HS := HS.grow hx; clear hx)
          | (go_at_call 39; (with_reducible refine (szRxQueue_le_w aQ_Ring_Base aQ_Ring_Size aQ_Ring_Head aQ_Ring_Tail aQ_Device_Base aQ_Device_Size aQ_Device_Count aQ_Driver_Base aQ_Driver_Size aQ_Driver_Count aQ_Held_Packet_DstMac aQ_Held_Packet_SrcMac aQ_Held_Packet_Vlan aQ_Held_Packet_Tos aQ_Held_Packet_Id aQ_Held_Packet_Ttl aQ_Held_Packet_SrcIp aQ_Held_Packet_DstIp aQ_Held_Packet_Seg_Kind aQ_Held_Packet_Seg_SrcPort aQ_Held_Packet_Seg_DstPort aQ_Held_Packet_Seg_Seq aQ_Held_Packet_Seg_Ack aQ_Held_Packet_Seg_Flags aQ_Held_Packet_Seg_Window aQ_Held_Packet_Seg_Body aQ_Held_Size aQ_Held_Count aQ_Holding aQ_Dropped _ _ (by omega) (by omega) haQ_Held_Packet_Seg_Body).mono ?_); rintro e w' ⟨rfl, hx⟩; replace HS := HS.grow hx; clear hx)
          | (go_at_call 40; (with_reducible refine (szPool_gt _ fr pb pz pc _ _ (k3.ex HS.ex) (by omega) (by omega) (by omega)).mono ?_); rintro e w' ⟨rfl, hx⟩; replace HS := HS.grow hx; clear hx)
          | ((with_reducible (show wpList _ _ _ (Oper.mk (some 8) (Op.box _ _) _ _ _ _ :: _) _ _)); refine wpList_box_st (o := ⟨some 8, .box _ _, _, _, _, _⟩) rfl _ _ rfl (v := .agg (List.toArray _)) rfl HS ?_; clear HS; intro w8 b8 hb8 HS; simp only [Value.cells] at HS)
          | ((with_reducible (show wpList _ _ _ (Oper.mk (some 10) (Op.box _ _) _ _ _ _ :: _) _ _)); refine wpList_box_st (o := ⟨some 10, .box _ _, _, _, _, _⟩) rfl _ _ rfl (v := .agg (List.toArray _)) rfl HS ?_; clear HS; intro w10 b10 hb10 HS; simp only [Value.cells] at HS)
          | ((with_reducible (show wpList _ _ _ (Oper.mk (some 11) (Op.box _ _) _ _ _ _ :: _) _ _)); refine wpList_box_st (o := ⟨some 11, .box _ _, _, _, _, _⟩) rfl _ _ rfl (v := .agg (List.toArray _)) rfl HS ?_; clear HS; intro w11 b11 hb11 HS; simp only [Value.cells] at HS)
          | ((with_reducible (show wpList _ _ _ (Oper.mk (some 43) (Op.load _ _) _ _ _ _ :: _) _ _)); refine wpList_loadA_st (o := ⟨some 43, .load _ _, _, _, _, _⟩) rfl _ _ rfl rfl HS tk ag_laws_Memory lit rfl ?_)
          | ((with_reducible (show wpList _ _ _ (Oper.mk (some 48) (Op.load _ _) _ _ _ _ :: _) _ _)); refine wpList_loadA_st (o := ⟨some 48, .load _ _, _, _, _, _⟩) rfl _ _ rfl rfl HS tk ag_laws_RxQueue lit rfl ?_)
          | ((with_reducible (show wpList _ _ _ (Oper.mk (some 53) (Op.load _ _) _ _ _ _ :: _) _ _)); refine wpList_loadA_st (o := ⟨some 53, .load _ _, _, _, _, _⟩) rfl _ _ rfl rfl HS tk ag_laws_Pool lit rfl ?_))
    go_ret
    exact ⟨rfl, HS.ex⟩
  case neg =>
  by_cases hb4 : (1048576 : Int) - aListD.length - ((aMD.length + totS aMD : Nat) : Int) - (aQ_Held_Packet_Seg_Body.size : Int) - (fr.length : Int) < ((gs.length + totStream gs : Nat) : Int)
  case pos =>
    have HS := St.start w
    go_enter Tryz.func7, Tryz.ntmps7
    go_wp2_with (first
          | (go_at_call 20; (with_reducible refine (szMappingS_le _ aListD _ _ (k1.ex HS.ex) (by omega) (by omega)).mono ?_); rintro e w' ⟨rfl, hx⟩; replace HS := HS.grow hx; clear hx)
          | (go_at_call 21; (with_reducible refine (szMemory_le _ aMD _ _ (k2.ex HS.ex) (by omega) (by omega)).mono ?_); rintro e w' ⟨rfl, hx⟩; replace HS := HS.grow hx; clear hx)
          | (go_at_call 39; (with_reducible refine (szRxQueue_le_w aQ_Ring_Base aQ_Ring_Size aQ_Ring_Head aQ_Ring_Tail aQ_Device_Base aQ_Device_Size aQ_Device_Count aQ_Driver_Base aQ_Driver_Size aQ_Driver_Count aQ_Held_Packet_DstMac aQ_Held_Packet_SrcMac aQ_Held_Packet_Vlan aQ_Held_Packet_Tos aQ_Held_Packet_Id aQ_Held_Packet_Ttl aQ_Held_Packet_SrcIp aQ_Held_Packet_DstIp aQ_Held_Packet_Seg_Kind aQ_Held_Packet_Seg_SrcPort aQ_Held_Packet_Seg_DstPort aQ_Held_Packet_Seg_Seq aQ_Held_Packet_Seg_Ack aQ_Held_Packet_Seg_Flags aQ_Held_Packet_Seg_Window aQ_Held_Packet_Seg_Body aQ_Held_Size aQ_Held_Count aQ_Holding aQ_Dropped _ _ (by omega) (by omega) haQ_Held_Packet_Seg_Body).mono ?_); rintro e w' ⟨rfl, hx⟩; replace HS := HS.grow hx; clear hx)
          | (go_at_call 40; (with_reducible refine (szPool_le _ fr pb pz pc _ _ (k3.ex HS.ex) (by omega) (by omega)).mono ?_); rintro e w' ⟨rfl, hx⟩; replace HS := HS.grow hx; clear hx)
          | (go_at_call 41; (with_reducible refine (szStreamS_gt _ gs _ _ (k4.ex HS.ex) (by omega) (by omega) (by omega)).mono ?_); rintro e w' ⟨rfl, hx⟩; replace HS := HS.grow hx; clear hx)
          | ((with_reducible (show wpList _ _ _ (Oper.mk (some 8) (Op.box _ _) _ _ _ _ :: _) _ _)); refine wpList_box_st (o := ⟨some 8, .box _ _, _, _, _, _⟩) rfl _ _ rfl (v := .agg (List.toArray _)) rfl HS ?_; clear HS; intro w8 b8 hb8 HS; simp only [Value.cells] at HS)
          | ((with_reducible (show wpList _ _ _ (Oper.mk (some 10) (Op.box _ _) _ _ _ _ :: _) _ _)); refine wpList_box_st (o := ⟨some 10, .box _ _, _, _, _, _⟩) rfl _ _ rfl (v := .agg (List.toArray _)) rfl HS ?_; clear HS; intro w10 b10 hb10 HS; simp only [Value.cells] at HS)
          | ((with_reducible (show wpList _ _ _ (Oper.mk (some 11) (Op.box _ _) _ _ _ _ :: _) _ _)); refine wpList_box_st (o := ⟨some 11, .box _ _, _, _, _, _⟩) rfl _ _ rfl (v := .agg (List.toArray _)) rfl HS ?_; clear HS; intro w11 b11 hb11 HS; simp only [Value.cells] at HS)
          | ((with_reducible (show wpList _ _ _ (Oper.mk (some 43) (Op.load _ _) _ _ _ _ :: _) _ _)); refine wpList_loadA_st (o := ⟨some 43, .load _ _, _, _, _, _⟩) rfl _ _ rfl rfl HS tk ag_laws_Memory lit rfl ?_)
          | ((with_reducible (show wpList _ _ _ (Oper.mk (some 48) (Op.load _ _) _ _ _ _ :: _) _ _)); refine wpList_loadA_st (o := ⟨some 48, .load _ _, _, _, _, _⟩) rfl _ _ rfl rfl HS tk ag_laws_RxQueue lit rfl ?_)
          | ((with_reducible (show wpList _ _ _ (Oper.mk (some 53) (Op.load _ _) _ _ _ _ :: _) _ _)); refine wpList_loadA_st (o := ⟨some 53, .load _ _, _, _, _, _⟩) rfl _ _ rfl rfl HS tk ag_laws_Pool lit rfl ?_))
    go_ret
    exact ⟨rfl, HS.ex⟩
  case neg =>
  have hlm : aMD.length ≤ 1099511627776 := by omega
  obtain ⟨qs, t9, c9, fr9, gs9, n9, hql, hfl9, hgl9, HI, HP⟩ := both_PollQueue aListD aMD aDomain aQ_Ring_Base aQ_Ring_Size aQ_Ring_Head aQ_Ring_Tail aQ_Device_Base aQ_Device_Size aQ_Device_Count aQ_Driver_Base aQ_Driver_Size aQ_Driver_Count aQ_Held_Packet_DstMac aQ_Held_Packet_SrcMac aQ_Held_Packet_Vlan aQ_Held_Packet_Tos aQ_Held_Packet_Id aQ_Held_Packet_Ttl aQ_Held_Packet_SrcIp aQ_Held_Packet_DstIp aQ_Held_Packet_Seg_Kind aQ_Held_Packet_Seg_SrcPort aQ_Held_Packet_Seg_DstPort aQ_Held_Packet_Seg_Seq aQ_Held_Packet_Seg_Ack aQ_Held_Packet_Seg_Flags aQ_Held_Packet_Seg_Window aQ_Held_Packet_Seg_Body aQ_Held_Size aQ_Held_Count aQ_Holding aQ_Dropped pb pz pc fr gs aBudget (by omega) hlm (by omega) (by omega) (fun x hx => by have := tot_mem hx; omega) (by obtain ⟨_, _, _, _, _, _, h⟩ := k2.flat; exact h) (fun x hx => k3.flok hx) (fun x hx => k4.flok hx)
  replace HI := hid HI
  replace HP := hid HP
  have hql2 : qs.length ≤ 1048576 := by omega
  clear hql
  have HS := St.start w
  go_enter Tryz.func7, Tryz.ntmps7
  go_wp2_with (first
        | (go_at_call 20; (with_reducible refine (szMappingS_le _ aListD _ _ (k1.ex HS.ex) (by omega) (by omega)).mono ?_); rintro e w' ⟨rfl, hx⟩; replace HS := HS.grow hx; clear hx)
        | (go_at_call 21; (with_reducible refine (szMemory_le _ aMD _ _ (k2.ex HS.ex) (by omega) (by omega)).mono ?_); rintro e w' ⟨rfl, hx⟩; replace HS := HS.grow hx; clear hx)
        | (go_at_call 39; (with_reducible refine (szRxQueue_le_w aQ_Ring_Base aQ_Ring_Size aQ_Ring_Head aQ_Ring_Tail aQ_Device_Base aQ_Device_Size aQ_Device_Count aQ_Driver_Base aQ_Driver_Size aQ_Driver_Count aQ_Held_Packet_DstMac aQ_Held_Packet_SrcMac aQ_Held_Packet_Vlan aQ_Held_Packet_Tos aQ_Held_Packet_Id aQ_Held_Packet_Ttl aQ_Held_Packet_SrcIp aQ_Held_Packet_DstIp aQ_Held_Packet_Seg_Kind aQ_Held_Packet_Seg_SrcPort aQ_Held_Packet_Seg_DstPort aQ_Held_Packet_Seg_Seq aQ_Held_Packet_Seg_Ack aQ_Held_Packet_Seg_Flags aQ_Held_Packet_Seg_Window aQ_Held_Packet_Seg_Body aQ_Held_Size aQ_Held_Count aQ_Holding aQ_Dropped _ _ (by omega) (by omega) haQ_Held_Packet_Seg_Body).mono ?_); rintro e w' ⟨rfl, hx⟩; replace HS := HS.grow hx; clear hx)
        | (go_at_call 40; (with_reducible refine (szPool_le _ fr pb pz pc _ _ (k3.ex HS.ex) (by omega) (by omega)).mono ?_); rintro e w' ⟨rfl, hx⟩; replace HS := HS.grow hx; clear hx)
        | (go_at_call 41; (with_reducible refine (szStreamS_le _ gs _ _ (k4.ex HS.ex) (by omega) (by omega)).mono ?_); rintro e w' ⟨rfl, hx⟩; replace HS := HS.grow hx; clear hx)
        | ((with_reducible (show wpList _ _ _ (Oper.mk (some 8) (Op.box _ _) _ _ _ _ :: _) _ _)); refine wpList_box_st (o := ⟨some 8, .box _ _, _, _, _, _⟩) rfl _ _ rfl (v := .agg (List.toArray _)) rfl HS ?_; clear HS; intro w8 b8 hb8 HS; simp only [Value.cells] at HS)
        | ((with_reducible (show wpList _ _ _ (Oper.mk (some 10) (Op.box _ _) _ _ _ _ :: _) _ _)); refine wpList_box_st (o := ⟨some 10, .box _ _, _, _, _, _⟩) rfl _ _ rfl (v := .agg (List.toArray _)) rfl HS ?_; clear HS; intro w10 b10 hb10 HS; simp only [Value.cells] at HS)
        | ((with_reducible (show wpList _ _ _ (Oper.mk (some 11) (Op.box _ _) _ _ _ _ :: _) _ _)); refine wpList_box_st (o := ⟨some 11, .box _ _, _, _, _, _⟩) rfl _ _ rfl (v := .agg (List.toArray _)) rfl HS ?_; clear HS; intro w11 b11 hb11 HS; simp only [Value.cells] at HS)
        | ((with_reducible (show wpList _ _ _ (Oper.mk (some 43) (Op.load _ _) _ _ _ _ :: _) _ _)); refine wpList_loadA_st (o := ⟨some 43, .load _ _, _, _, _, _⟩) rfl _ _ rfl rfl HS tk ag_laws_Memory lit rfl ?_)
        | ((with_reducible (show wpList _ _ _ (Oper.mk (some 48) (Op.load _ _) _ _ _ _ :: _) _ _)); refine wpList_loadA_st (o := ⟨some 48, .load _ _, _, _, _, _⟩) rfl _ _ rfl rfl HS tk ag_laws_RxQueue lit rfl ?_)
        | ((with_reducible (show wpList _ _ _ (Oper.mk (some 53) (Op.load _ _) _ _ _ _ :: _) _ _)); refine wpList_loadA_st (o := ⟨some 53, .load _ _, _, _, _, _⟩) rfl _ _ rfl rfl HS tk ag_laws_Pool lit rfl ?_))
  refine wp_region_fl HS (show Arr _ [rowA b8 _ _, rowA b10 _ _, rowA b11 _ _] from ary) (.early 0 (.early 2 (.early 4 (.early 5 (.early 7 (.early 9 (.early 11 (.forced 1 1 (.forced 3 1 (.forced 6 1 (.forced 8 1 (.forced 10 1 (.forced 12 1 (.pure 13 (.pure 14 (.pure 15 (.pure 16 (.pure 17 (.pure 18 (.land 19 (.land 20 (.land 21 (.forced 22 2 (.forced 23 2 (.forced 24 2 (.pure 25 (.pure 26 .done))))))))))))))))))))))))))) [19, 20, 21] (by kernel_rfl) (by as_aux_lemma => kernel_rfl) ?_
  intro hne
  clear HS
  try go_simp
  repeat' (first
    | (with_reducible refine wpF_forced ?_)
    | ((with_reducible (first | (show wpF _ _ _ _ _ (.early 0 _) _ _) | (show wpF _ _ _ _ _ (.early 4 _) _ _) | (show wpF _ _ _ _ _ (.early 9 _) _ _) | (show wpF _ _ _ _ _ (.early 11 _) _ _))); (first | (refine wpF_skipE rfl rfl ?_; (try go_simp)) | (refine wpF_early rfl rfl ?_; intro K hK; (first | go_big_quiet_op); (first | go_big_quiet_on | (refine ⟨_, fun _ => rfl, ?_⟩; go_big_quiet_on)))))
    | ((with_reducible ((show wpF _ _ _ _ _ (.early 2 _) _ _))); (first | (refine wpF_skipE rfl rfl ?_; (try go_simp)) | (refine wpF_early rfl rfl ?_; intro K hK; (first | ((refine quiet_loadA_st  _ _ rfl rfl tk ag_laws_Memory lit rfl ?_); (try go_simp)) | go_big_quiet_op); (first | go_big_quiet_on | (refine ⟨_, fun _ => rfl, ?_⟩; go_big_quiet_on)))))
    | ((with_reducible ((show wpF _ _ _ _ _ (.early 5 _) _ _))); (first | (refine wpF_skipE rfl rfl ?_; (try go_simp)) | (refine wpF_early rfl rfl ?_; intro K hK; (first | ((refine quiet_loadA_st  _ _ rfl rfl tk ag_laws_RxQueue lit rfl ?_); (try go_simp)) | go_big_quiet_op); (first | go_big_quiet_on | (refine ⟨_, fun _ => rfl, ?_⟩; go_big_quiet_on)))))
    | ((with_reducible ((show wpF _ _ _ _ _ (.early 7 _) _ _))); (first | (refine wpF_skipE rfl rfl ?_; (try go_simp)) | (refine wpF_early rfl rfl ?_; intro K hK; (first | ((refine quiet_loadA_st  _ _ rfl rfl tk ag_laws_Pool lit rfl ?_); (try go_simp)) | go_big_quiet_op); (first | go_big_quiet_on | (refine ⟨_, fun _ => rfl, ?_⟩; go_big_quiet_on)))))
    | ((with_reducible ((show OneF _ _ _ _ _ 1 1 _ _ _))); (first | (refine oneF_skip rfl rfl ?_; (try go_simp)) | (refine oneF_1 rfl rfl ?_; intro wq Fq HS K hK; go_simp; (first | (go_at_call 24; (with_reducible refine (toMappingS_any _ aListD _ (k1.ex HS.ex) (by omega)).mono ?_); rintro e w' ⟨A65, c65, rfl, ho, hx⟩; replace HS := HS.own ho hx; clear ho hx)); (try go_simp); refine hK _ _ _ ?_ (HS.take tk) ?_; (focus (exact stw HS)); clear HS hK K)))
    | ((with_reducible ((show OneF _ _ _ _ _ 3 1 _ _ _))); (first | (refine oneF_skip rfl rfl ?_; (try go_simp)) | (refine oneF_1 rfl rfl ?_; intro wq Fq HS K hK; go_simp; (first | (go_at_call 25; (with_reducible refine (toMemory_any _ aMD _ (k2.ex HS.ex) (by omega)).mono ?_); rintro e w' ⟨A67, c67, rfl, ho, hx⟩; replace HS := HS.own ho hx; clear ho hx)); (try go_simp); refine hK _ _ _ ?_ (HS.take tk) ?_; (focus (exact stw HS)); clear HS hK K)))
    | ((with_reducible ((show OneF _ _ _ _ _ 6 1 _ _ _))); (first | (refine oneF_skip rfl rfl ?_; (try go_simp)) | (refine oneF_1 rfl rfl ?_; intro wq Fq HS K hK; go_simp; (first | (go_at_call 43; (with_reducible refine (toRxQueue_w aQ_Ring_Base aQ_Ring_Size aQ_Ring_Head aQ_Ring_Tail aQ_Device_Base aQ_Device_Size aQ_Device_Count aQ_Driver_Base aQ_Driver_Size aQ_Driver_Count aQ_Held_Packet_DstMac aQ_Held_Packet_SrcMac aQ_Held_Packet_Vlan aQ_Held_Packet_Tos aQ_Held_Packet_Id aQ_Held_Packet_Ttl aQ_Held_Packet_SrcIp aQ_Held_Packet_DstIp aQ_Held_Packet_Seg_Kind aQ_Held_Packet_Seg_SrcPort aQ_Held_Packet_Seg_DstPort aQ_Held_Packet_Seg_Seq aQ_Held_Packet_Seg_Ack aQ_Held_Packet_Seg_Flags aQ_Held_Packet_Seg_Window aQ_Held_Packet_Seg_Body aQ_Held_Size aQ_Held_Count aQ_Holding aQ_Dropped _).mono ?_); rintro e w' ⟨rfl, hx⟩; replace HS := HS.grow hx; clear hx)); (try go_simp); refine hK _ _ _ ?_ (HS.take tk) ?_; (focus (exact stw HS)); clear HS hK K)))
    | ((with_reducible ((show OneF _ _ _ _ _ 8 1 _ _ _))); (first | (refine oneF_skip rfl rfl ?_; (try go_simp)) | (refine oneF_1 rfl rfl ?_; intro wq Fq HS K hK; go_simp; (first | (go_at_call 44; (with_reducible refine (toPool_any _ fr pb pz pc _ (k3.ex HS.ex) (by omega)).mono ?_); rintro e w' ⟨A72, c72, rfl, ho, hx⟩; replace HS := HS.own ho hx; clear ho hx)); (try go_simp); refine hK _ _ _ ?_ (HS.take tk) ?_; (focus (exact stw HS)); clear HS hK K)))
    | ((with_reducible ((show OneF _ _ _ _ _ 10 1 _ _ _))); (first | (refine oneF_skip rfl rfl ?_; (try go_simp)) | (refine oneF_1 rfl rfl ?_; intro wq Fq HS K hK; go_simp; (first | (go_at_call 45; (with_reducible refine (toStreamS_any _ gs _ (k4.ex HS.ex) (by omega)).mono ?_); rintro e w' ⟨A74, c74, rfl, ho, hx⟩; replace HS := HS.own ho hx; clear ho hx)); (try go_simp); refine hK _ _ _ ?_ (HS.take tk) ?_; (focus (exact stw HS)); clear HS hK K)))
    | ((with_reducible ((show OneF _ _ _ _ _ 12 1 _ _ _))); (first | (refine oneF_skip rfl rfl ?_; (try go_simp)) | (refine oneF_1 rfl rfl ?_; intro wq Fq HS K hK; go_simp; (first | (go_at_call 42; (with_reducible refine (HP.out _ _ _ _ _ (HS.holds tk) (HS.holds tk) (HS.holds tk) (HS.holds tk)).mono ?_); rintro e w' ⟨A76, c76, P76, p76, S76, s76, rfl, ho, hx⟩; replace HS := (HS.own (vs := [_] ++ ([_] ++ [_])) ho hx).split rfl; clear ho hx; replace HS := HS.splitT (v1 := [_]) (v2 := [_]) (show Take _ (ownA (fr9, gs9) ([_] ++ [_])) _ from .tail .head) rfl)); (try go_simp); refine hK _ _ _ ?_ (HS.take tk) ?_; (focus (exact stw HS)); clear HS hK K)))
    | ((with_reducible ((show wpF _ _ _ _ _ (.pure _ _) _ _))); (first | (refine wpF_skipP rfl rfl ?_; (try go_simp)) | (refine wpF_pure rfl rfl ?_; intro K hK; go_big_quiet_op; (first | go_big_quiet_on | (refine ⟨_, fun _ => rfl, ?_⟩; go_big_quiet_on)))))
    | ((with_reducible ((show wpF _ _ _ _ _ (.land 19 _) _ _))); (refine wpF_land rfl rfl zc_impl_Memory ?_; intro b16; (try go_simp)))
    | ((with_reducible ((show wpF _ _ _ _ _ (.land 20 _) _ _))); (refine wpF_land rfl rfl zc_impl_RxQueue ?_; intro b17; (try go_simp)))
    | ((with_reducible ((show wpF _ _ _ _ _ (.land 21 _) _ _))); (refine wpF_land rfl rfl zc_impl_Pool ?_; intro b18; (try go_simp)))
    | ((with_reducible ((show OneF _ _ _ _ _ 22 2 _ _ _))); (first | (refine oneF_skip rfl rfl ?_; (try go_simp)) | (refine oneF_2 rfl rfl ?_; intro wq Fq HS K hK; (first | (refine wp_store_st  _ _ _ rfl rfl (v := .agg (List.toArray _)) rfl HS tk sz_impl_Memory vcs rfx rfx (by simp) ?_ rfl; clear HS; intro w17_22 hz17_22 HS; simp only [nicL, Value.cells, List.append_nil] at HS) | (refine wp_store_st  _ _ _ rfl rfl (v := .agg _) rfl HS tk sz_impl_Memory vcs rfx rfx (by simp) ?_ rfl; clear HS; intro w17_22 hz17_22 HS; simp only [nicL, Value.cells, List.append_nil] at HS)); (try go_simp); refine hK _ _ _ (HS.take tk) ?_; clear HS hK K)))
    | ((with_reducible ((show OneF _ _ _ _ _ 23 2 _ _ _))); (first | (refine oneF_skip rfl rfl ?_; (try go_simp)) | (refine oneF_2 rfl rfl ?_; intro wq Fq HS K hK; (first | (refine wp_store_st  _ _ _ rfl rfl (v := .agg (List.toArray _)) rfl HS tk sz_impl_RxQueue vcs rfx rfx (by simp) ?_ rfl; clear HS; intro w17_23 hz17_23 HS; simp only [nicL, Value.cells, List.append_nil] at HS) | (refine wp_store_st  _ _ _ rfl rfl (v := .agg _) rfl HS tk sz_impl_RxQueue vcs rfx rfx (by simp) ?_ rfl; clear HS; intro w17_23 hz17_23 HS; simp only [nicL, Value.cells, List.append_nil] at HS)); (try go_simp); refine hK _ _ _ (HS.take tk) ?_; clear HS hK K)))
    | ((with_reducible ((show OneF _ _ _ _ _ 24 2 _ _ _))); (first | (refine oneF_skip rfl rfl ?_; (try go_simp)) | (refine oneF_2 rfl rfl ?_; intro wq Fq HS K hK; (first | (refine wp_store_st  _ _ _ rfl rfl (v := .agg (List.toArray _)) rfl HS tk sz_impl_Pool vcs rfx rfx (by simp) ?_ rfl; clear HS; intro w17_24 hz17_24 HS; simp only [nicL, Value.cells, List.append_nil] at HS) | (refine wp_store_st  _ _ _ rfl rfl (v := .agg _) rfl HS tk sz_impl_Pool vcs rfx rfx (by simp) ?_ rfl; clear HS; intro w17_24 hz17_24 HS; simp only [nicL, Value.cells, List.append_nil] at HS)); (try go_simp); refine hK _ _ _ (HS.take tk) ?_; clear HS hK K)))
    | (with_reducible refine wpF_done ?_))
  all_goals intro w9 HS
  go_wp2_with (first
        | (go_at_call 24; (with_reducible refine (toMappingS_any _ aListD _ (k1.ex HS.ex) (by omega)).mono ?_); rintro e w' ⟨A83, c83, rfl, ho, hx⟩; replace HS := HS.own ho hx; clear ho hx)
        | (go_at_call 25; (with_reducible refine (toMemory_any _ aMD _ (k2.ex HS.ex) (by omega)).mono ?_); rintro e w' ⟨A85, c85, rfl, ho, hx⟩; replace HS := HS.own ho hx; clear ho hx)
        | (go_at_call 44; (with_reducible refine (toPool_any _ fr pb pz pc _ (k3.ex HS.ex) (by omega)).mono ?_); rintro e w' ⟨A87, c87, rfl, ho, hx⟩; replace HS := HS.own ho hx; clear ho hx)
        | (go_at_call 45; (with_reducible refine (toStreamS_any _ gs _ (k4.ex HS.ex) (by omega)).mono ?_); rintro e w' ⟨A89, c89, rfl, ho, hx⟩; replace HS := HS.own ho hx; clear ho hx)
        | ((with_reducible (show wpList _ _ _ (Oper.mk (some 84) (Op.load _ _) _ _ _ _ :: _) _ _)); refine wpList_loadA_st (o := ⟨some 84, .load _ _, _, _, _, _⟩) rfl _ _ rfl rfl HS tk ag_laws_Memory lit rfl ?_)
        | ((with_reducible (show wpList _ _ _ (Oper.mk (some 22) (Op.alloc _) _ _ _ _ :: _) _ _)); refine wpList_alloc_st (o := ⟨some 22, .alloc _, _, _, _, _⟩) rfl _ rfl zc_impl_Memory HS ?_; clear HS; intro w22 b22 hb22 HS)
        | ((with_reducible (show wpList _ _ _ (Oper.mk none (Op.store _ (.tmp 22) _) _ _ _ _ :: _) _ _)); refine wpList_store_st (o := ⟨none, .store _ (.tmp 22) _, _, _, _, _⟩) rfl _ _ _ rfl rfl (v := .agg (List.toArray _)) rfl HS tk sz_impl_Memory vcs rfx rfx (by simp) ?_ rfl; clear HS; intro w19_3 hz19_3 HS; simp only [nicL, Value.cells, List.append_nil] at HS)
        | ((with_reducible (show wpList _ _ _ (Oper.mk (some 86) (Op.load _ _) _ _ _ _ :: _) _ _)); refine wpList_loadA_st (o := ⟨some 86, .load _ _, _, _, _, _⟩) rfl _ _ rfl rfl HS tk ag_laws_Pool lit rfl ?_)
        | ((with_reducible (show wpList _ _ _ (Oper.mk (some 23) (Op.alloc _) _ _ _ _ :: _) _ _)); refine wpList_alloc_st (o := ⟨some 23, .alloc _, _, _, _, _⟩) rfl _ rfl zc_impl_Pool HS ?_; clear HS; intro w23 b23 hb23 HS)
        | ((with_reducible (show wpList _ _ _ (Oper.mk none (Op.store _ (.tmp 23) _) _ _ _ _ :: _) _ _)); refine wpList_store_st (o := ⟨none, .store _ (.tmp 23) _, _, _, _, _⟩) rfl _ _ _ rfl rfl (v := .agg (List.toArray _)) rfl HS tk sz_impl_Pool vcs rfx rfx (by simp) ?_ rfl; clear HS; intro w20_3 hz20_3 HS; simp only [nicL, Value.cells, List.append_nil] at HS))
  refine wp_region_fl HS (show Arr _ [rowA b22 _ _, rowA b23 _ _, rowA b10 _ _, rowA b11 _ _] from ary) (.early 0 (.early 1 (.early 2 (.early 3 (.early 5 (.early 6 (.early 7 (.forced 4 1 (.forced 8 1 (.pure 9 (.pure 10 (.pure 11 (.pure 12 (.pure 13 (.pure 14 (.land 15 (.land 16 (.land 17 (.forced 18 2 (.forced 19 2 (.forced 20 2 (.pure 21 (.pure 22 .done))))))))))))))))))))))) [15, 16, 17] (by kernel_rfl) (by as_aux_lemma => kernel_rfl) ?_
  intro hne
  clear HS
  try go_simp
  repeat' (first
    | (with_reducible refine wpF_forced ?_)
    | ((with_reducible (first | (show wpF _ _ _ _ _ (.early 0 _) _ _) | (show wpF _ _ _ _ _ (.early 2 _) _ _) | (show wpF _ _ _ _ _ (.early 6 _) _ _) | (show wpF _ _ _ _ _ (.early 7 _) _ _))); (first | (refine wpF_skipE rfl rfl ?_; (try go_simp)) | (refine wpF_early rfl rfl ?_; intro K hK; (first | go_big_quiet_op); (first | go_big_quiet_on | (refine ⟨_, fun _ => rfl, ?_⟩; go_big_quiet_on)))))
    | ((with_reducible ((show wpF _ _ _ _ _ (.early 1 _) _ _))); (first | (refine wpF_skipE rfl rfl ?_; (try go_simp)) | (refine wpF_early rfl rfl ?_; intro K hK; (first | ((refine quiet_loadA_st  _ _ rfl rfl tk ag_impl_Memory lit rfl ?_); (try go_simp)) | go_big_quiet_op); (first | go_big_quiet_on | (refine ⟨_, fun _ => rfl, ?_⟩; go_big_quiet_on)))))
    | ((with_reducible ((show wpF _ _ _ _ _ (.early 3 _) _ _))); (first | (refine wpF_skipE rfl rfl ?_; (try go_simp)) | (refine wpF_early rfl rfl ?_; intro K hK; (first | ((refine quiet_loadA_st  _ _ rfl rfl tk ag_laws_RxQueue lit rfl ?_); (try go_simp)) | go_big_quiet_op); (first | go_big_quiet_on | (refine ⟨_, fun _ => rfl, ?_⟩; go_big_quiet_on)))))
    | ((with_reducible ((show wpF _ _ _ _ _ (.early 5 _) _ _))); (first | (refine wpF_skipE rfl rfl ?_; (try go_simp)) | (refine wpF_early rfl rfl ?_; intro K hK; (first | ((refine quiet_loadA_st  _ _ rfl rfl tk ag_impl_Pool lit rfl ?_); (try go_simp)) | go_big_quiet_op); (first | go_big_quiet_on | (refine ⟨_, fun _ => rfl, ?_⟩; go_big_quiet_on)))))
    | ((with_reducible ((show OneF _ _ _ _ _ 4 1 _ _ _))); (first | (refine oneF_skip rfl rfl ?_; (try go_simp)) | (refine oneF_1 rfl rfl ?_; intro wq Fq HS K hK; go_simp; (first | (go_at_call 43; (with_reducible refine (toRxQueue_w aQ_Ring_Base aQ_Ring_Size aQ_Ring_Head aQ_Ring_Tail aQ_Device_Base aQ_Device_Size aQ_Device_Count aQ_Driver_Base aQ_Driver_Size aQ_Driver_Count aQ_Held_Packet_DstMac aQ_Held_Packet_SrcMac aQ_Held_Packet_Vlan aQ_Held_Packet_Tos aQ_Held_Packet_Id aQ_Held_Packet_Ttl aQ_Held_Packet_SrcIp aQ_Held_Packet_DstIp aQ_Held_Packet_Seg_Kind aQ_Held_Packet_Seg_SrcPort aQ_Held_Packet_Seg_DstPort aQ_Held_Packet_Seg_Seq aQ_Held_Packet_Seg_Ack aQ_Held_Packet_Seg_Flags aQ_Held_Packet_Seg_Window aQ_Held_Packet_Seg_Body aQ_Held_Size aQ_Held_Count aQ_Holding aQ_Dropped _).mono ?_); rintro e w' ⟨rfl, hx⟩; replace HS := HS.grow hx; clear hx)); (try go_simp); refine hK _ _ _ ?_ (HS.take tk) ?_; (focus (exact stw HS)); clear HS hK K)))
    | ((with_reducible ((show OneF _ _ _ _ _ 8 1 _ _ _))); (first | (refine oneF_skip rfl rfl ?_; (try go_simp)) | (refine oneF_1 rfl rfl ?_; intro wq Fq HS K hK; go_simp; (first | (go_at_call 46; (with_reducible refine (HI.out _ _ _ _ _ (HS.holds tk) (HS.holds tk) (HS.holds tk) (HS.holds tk)).mono ?_); rintro e w' ⟨A99, c99, P99, p99, S99, s99, rfl, ho, hx⟩; replace HS := (HS.own (vs := [_] ++ ([_] ++ [_])) ho hx).split rfl; clear ho hx; replace HS := HS.splitT (v1 := [_]) (v2 := [_]) (show Take _ (ownA (fr9, gs9) ([_] ++ [_])) _ from .tail .head) rfl)); (try go_simp); refine hK _ _ _ ?_ (HS.take tk) ?_; (focus (exact stw HS)); clear HS hK K)))
    | ((with_reducible ((show wpF _ _ _ _ _ (.pure _ _) _ _))); (first | (refine wpF_skipP rfl rfl ?_; (try go_simp)) | (refine wpF_pure rfl rfl ?_; intro K hK; go_big_quiet_op; (first | go_big_quiet_on | (refine ⟨_, fun _ => rfl, ?_⟩; go_big_quiet_on)))))
    | ((with_reducible ((show wpF _ _ _ _ _ (.land 15 _) _ _))); (refine wpF_land rfl rfl zc_impl_Memory ?_; intro b25; (try go_simp)))
    | ((with_reducible ((show wpF _ _ _ _ _ (.land 16 _) _ _))); (refine wpF_land rfl rfl zc_impl_RxQueue ?_; intro b26; (try go_simp)))
    | ((with_reducible ((show wpF _ _ _ _ _ (.land 17 _) _ _))); (refine wpF_land rfl rfl zc_impl_Pool ?_; intro b27; (try go_simp)))
    | ((with_reducible ((show OneF _ _ _ _ _ 18 2 _ _ _))); (first | (refine oneF_skip rfl rfl ?_; (try go_simp)) | (refine oneF_2 rfl rfl ?_; intro wq Fq HS K hK; (first | (refine wp_store_st  _ _ _ rfl rfl (v := .agg (List.toArray _)) rfl HS tk sz_impl_Memory vcs rfx rfx (by simp) ?_ rfl; clear HS; intro w22_18 hz22_18 HS; simp only [nicL, Value.cells, List.append_nil] at HS) | (refine wp_store_st  _ _ _ rfl rfl (v := .agg _) rfl HS tk sz_impl_Memory vcs rfx rfx (by simp) ?_ rfl; clear HS; intro w22_18 hz22_18 HS; simp only [nicL, Value.cells, List.append_nil] at HS)); (try go_simp); refine hK _ _ _ (HS.take tk) ?_; clear HS hK K)))
    | ((with_reducible ((show OneF _ _ _ _ _ 19 2 _ _ _))); (first | (refine oneF_skip rfl rfl ?_; (try go_simp)) | (refine oneF_2 rfl rfl ?_; intro wq Fq HS K hK; (first | (refine wp_store_st  _ _ _ rfl rfl (v := .agg (List.toArray _)) rfl HS tk sz_impl_RxQueue vcs rfx rfx (by simp) ?_ rfl; clear HS; intro w22_19 hz22_19 HS; simp only [nicL, Value.cells, List.append_nil] at HS) | (refine wp_store_st  _ _ _ rfl rfl (v := .agg _) rfl HS tk sz_impl_RxQueue vcs rfx rfx (by simp) ?_ rfl; clear HS; intro w22_19 hz22_19 HS; simp only [nicL, Value.cells, List.append_nil] at HS)); (try go_simp); refine hK _ _ _ (HS.take tk) ?_; clear HS hK K)))
    | ((with_reducible ((show OneF _ _ _ _ _ 20 2 _ _ _))); (first | (refine oneF_skip rfl rfl ?_; (try go_simp)) | (refine oneF_2 rfl rfl ?_; intro wq Fq HS K hK; (first | (refine wp_store_st  _ _ _ rfl rfl (v := .agg (List.toArray _)) rfl HS tk sz_impl_Pool vcs rfx rfx (by simp) ?_ rfl; clear HS; intro w22_20 hz22_20 HS; simp only [nicL, Value.cells, List.append_nil] at HS) | (refine wp_store_st  _ _ _ rfl rfl (v := .agg _) rfl HS tk sz_impl_Pool vcs rfx rfx (by simp) ?_ rfl; clear HS; intro w22_20 hz22_20 HS; simp only [nicL, Value.cells, List.append_nil] at HS)); (try go_simp); refine hK _ _ _ (HS.take tk) ?_; clear HS hK K)))
    | (with_reducible refine wpF_done ?_))
  all_goals intro w9 HS
  go_wp2_with (first
        | (go_at_call 28; (with_reducible refine (eqMemory_same _ _ _ _ (HS.holds tk) (HS.holds tk)).mono ?_); rintro e w' ⟨rfl, hx⟩; replace HS := HS.grow hx; clear hx)
        | (go_at_call 47; (with_reducible refine (eqRxQueue_w aQ_Ring_Base aQ_Ring_Size aQ_Ring_Head t9 aQ_Device_Base aQ_Device_Size aQ_Device_Count aQ_Driver_Base aQ_Driver_Size c9 aQ_Held_Packet_DstMac aQ_Held_Packet_SrcMac aQ_Held_Packet_Vlan aQ_Held_Packet_Tos aQ_Held_Packet_Id aQ_Held_Packet_Ttl aQ_Held_Packet_SrcIp aQ_Held_Packet_DstIp aQ_Held_Packet_Seg_Kind aQ_Held_Packet_Seg_SrcPort aQ_Held_Packet_Seg_DstPort aQ_Held_Packet_Seg_Seq aQ_Held_Packet_Seg_Ack aQ_Held_Packet_Seg_Flags aQ_Held_Packet_Seg_Window aQ_Held_Packet_Seg_Body aQ_Held_Size aQ_Held_Count aQ_Holding aQ_Dropped _).mono ?_); rintro e w' ⟨rfl, hx⟩; replace HS := HS.grow hx; clear hx)
        | (go_at_call 48; (with_reducible refine (eqPool_same _ _ _ pb pz pc _ (HS.holds tk) (HS.holds tk)).mono ?_); rintro e w' ⟨rfl, hx⟩; replace HS := HS.grow hx; clear hx)
        | (go_at_call 49; (with_reducible refine (eqStreamS_same _ _ _ _ (HS.holds tk) (HS.holds tk)).mono ?_); rintro e w' ⟨rfl, hx⟩; replace HS := HS.grow hx; clear hx)
        | (go_at_call 24; (with_reducible refine (toMappingS_any _ aListD _ (k1.ex HS.ex) (by omega)).mono ?_); rintro e w' ⟨A134, c134, rfl, ho, hx⟩; replace HS := HS.own ho hx; clear ho hx)
        | (go_at_call 30; (with_reducible refine (eqMappingS_same _ _ aListD _ (HS.holds tk) (HS.holds tk)).mono ?_); rintro e w' ⟨rfl, hx⟩; replace HS := HS.grow hx; clear hx)
        | ((with_reducible (show wpList _ _ _ (Oper.mk (some 105) (Op.load _ _) _ _ _ _ :: _) _ _)); refine wpList_loadA_st (o := ⟨some 105, .load _ _, _, _, _, _⟩) rfl _ _ rfl rfl HS tk ag_impl_Memory lit rfl ?_)
        | ((with_reducible (show wpList _ _ _ (Oper.mk (some 106) (Op.load _ _) _ _ _ _ :: _) _ _)); refine wpList_loadA_st (o := ⟨some 106, .load _ _, _, _, _, _⟩) rfl _ _ rfl rfl HS tk ag_impl_Memory lit rfl ?_)
        | ((with_reducible (show wpList _ _ _ (Oper.mk (some 110) (Op.load _ _) _ _ _ _ :: _) _ _)); refine wpList_loadA_st (o := ⟨some 110, .load _ _, _, _, _, _⟩) rfl _ _ rfl rfl HS tk ag_impl_RxQueue lit rfl ?_)
        | ((with_reducible (show wpList _ _ _ (Oper.mk (some 111) (Op.load _ _) _ _ _ _ :: _) _ _)); refine wpList_loadA_st (o := ⟨some 111, .load _ _, _, _, _, _⟩) rfl _ _ rfl rfl HS tk ag_impl_RxQueue lit rfl ?_)
        | ((with_reducible (show wpList _ _ _ (Oper.mk (some 116) (Op.load _ _) _ _ _ _ :: _) _ _)); refine wpList_loadA_st (o := ⟨some 116, .load _ _, _, _, _, _⟩) rfl _ _ rfl rfl HS tk ag_impl_Pool lit rfl ?_)
        | ((with_reducible (show wpList _ _ _ (Oper.mk (some 117) (Op.load _ _) _ _ _ _ :: _) _ _)); refine wpList_loadA_st (o := ⟨some 117, .load _ _, _, _, _, _⟩) rfl _ _ rfl rfl HS tk ag_impl_Pool lit rfl ?_))
  refine wp_region_fl HS (take_all _) (.early 0 (.early 1 (.forced 2 1 (.forced 3 2 (.pure 4 .done))))) [] (by kernel_rfl) (by as_aux_lemma => kernel_rfl) ?_
  intro hne
  clear HS
  try go_simp
  repeat' (first
    | (with_reducible refine wpF_forced ?_)
    | ((with_reducible ((show wpF _ _ _ _ _ (.early 0 _) _ _))); (first | (refine wpF_skipE rfl rfl ?_; (try go_simp)) | (refine wpF_early rfl rfl ?_; intro K hK; (first | ((refine quiet_loadA_st  _ _ rfl rfl tk ag_impl_Memory lit rfl ?_); (try go_simp)) | go_big_quiet_op); (first | go_big_quiet_on | (refine ⟨_, fun _ => rfl, ?_⟩; go_big_quiet_on)))))
    | ((with_reducible ((show wpF _ _ _ _ _ (.early 1 _) _ _))); (first | (refine wpF_skipE rfl rfl ?_; (try go_simp)) | (refine wpF_early rfl rfl ?_; intro K hK; (first | ((refine quiet_loadA_st  _ _ rfl rfl tk ag_laws_Memory lit rfl ?_); (try go_simp)) | go_big_quiet_op); (first | go_big_quiet_on | (refine ⟨_, fun _ => rfl, ?_⟩; go_big_quiet_on)))))
    | ((with_reducible ((show OneF _ _ _ _ _ 2 1 _ _ _))); (first | (refine oneF_skip rfl rfl ?_; (try go_simp)) | (refine oneF_1 rfl rfl ?_; intro wq Fq HS K hK; go_simp; (first | (go_at_call 25; (with_reducible refine (toMemory_any _ aMD _ (k2.ex HS.ex) (by omega)).mono ?_); rintro e w' ⟨A139, c139, rfl, ho, hx⟩; replace HS := HS.own ho hx; clear ho hx)); (try go_simp); refine hK _ _ _ ?_ (HS.take tk) ?_; (focus (exact stw HS)); clear HS hK K)))
    | ((with_reducible ((show OneF _ _ _ _ _ 3 2 _ _ _))); (first | (refine oneF_skip rfl rfl ?_; (try go_simp)) | (refine oneF_2 rfl rfl ?_; intro wq Fq HS K hK; go_simp; (first | (go_at_call 28; (with_reducible refine (eqMemory_same _ _ _ _ (HS.holds tk) (HS.holds tk)).mono ?_); rintro e w' ⟨rfl, hx⟩; replace HS := HS.grow hx; clear hx)); (try go_simp); refine hK _ _ _ (HS.take tk) ?_; clear HS hK K)))
    | ((with_reducible ((show wpF _ _ _ _ _ (.pure _ _) _ _))); (first | (refine wpF_skipP rfl rfl ?_; (try go_simp)) | (refine wpF_pure rfl rfl ?_; intro K hK; go_big_quiet_op; (first | go_big_quiet_on | (refine ⟨_, fun _ => rfl, ?_⟩; go_big_quiet_on)))))
    | (with_reducible refine wpF_done ?_))
  all_goals intro w9 HS
  go_wp2
  refine wp_region_fl HS (take_all _) (.early 0 (.early 1 (.forced 2 1 (.forced 3 2 (.pure 4 .done))))) [] (by kernel_rfl) (by as_aux_lemma => kernel_rfl) ?_
  intro hne
  clear HS
  try go_simp
  repeat' (first
    | (with_reducible refine wpF_forced ?_)
    | ((with_reducible ((show wpF _ _ _ _ _ (.early 0 _) _ _))); (first | (refine wpF_skipE rfl rfl ?_; (try go_simp)) | (refine wpF_early rfl rfl ?_; intro K hK; (first | ((refine quiet_loadA_st  _ _ rfl rfl tk ag_impl_Pool lit rfl ?_); (try go_simp)) | go_big_quiet_op); (first | go_big_quiet_on | (refine ⟨_, fun _ => rfl, ?_⟩; go_big_quiet_on)))))
    | ((with_reducible ((show wpF _ _ _ _ _ (.early 1 _) _ _))); (first | (refine wpF_skipE rfl rfl ?_; (try go_simp)) | (refine wpF_early rfl rfl ?_; intro K hK; (first | ((refine quiet_loadA_st  _ _ rfl rfl tk ag_laws_Pool lit rfl ?_); (try go_simp)) | go_big_quiet_op); (first | go_big_quiet_on | (refine ⟨_, fun _ => rfl, ?_⟩; go_big_quiet_on)))))
    | ((with_reducible ((show OneF _ _ _ _ _ 2 1 _ _ _))); (first | (refine oneF_skip rfl rfl ?_; (try go_simp)) | (refine oneF_1 rfl rfl ?_; intro wq Fq HS K hK; go_simp; (first | (go_at_call 44; (with_reducible refine (toPool_any _ fr pb pz pc _ (k3.ex HS.ex) (by omega)).mono ?_); rintro e w' ⟨A144, c144, rfl, ho, hx⟩; replace HS := HS.own ho hx; clear ho hx)); (try go_simp); refine hK _ _ _ ?_ (HS.take tk) ?_; (focus (exact stw HS)); clear HS hK K)))
    | ((with_reducible ((show OneF _ _ _ _ _ 3 2 _ _ _))); (first | (refine oneF_skip rfl rfl ?_; (try go_simp)) | (refine oneF_2 rfl rfl ?_; intro wq Fq HS K hK; go_simp; (first | (go_at_call 48; (with_reducible refine (eqPool_same _ _ _ pb pz pc _ (HS.holds tk) (HS.holds tk)).mono ?_); rintro e w' ⟨rfl, hx⟩; replace HS := HS.grow hx; clear hx)); (try go_simp); refine hK _ _ _ (HS.take tk) ?_; clear HS hK K)))
    | ((with_reducible ((show wpF _ _ _ _ _ (.pure _ _) _ _))); (first | (refine wpF_skipP rfl rfl ?_; (try go_simp)) | (refine wpF_pure rfl rfl ?_; intro K hK; go_big_quiet_op; (first | go_big_quiet_on | (refine ⟨_, fun _ => rfl, ?_⟩; go_big_quiet_on)))))
    | (with_reducible refine wpF_done ?_))
  all_goals intro w9 HS
  go_wp2_with (first
        | (go_at_call 45; (with_reducible refine (toStreamS_any _ gs _ (k4.ex HS.ex) (by omega)).mono ?_); rintro e w' ⟨A149, c149, rfl, ho, hx⟩; replace HS := HS.own ho hx; clear ho hx)
        | (go_at_call 49; (with_reducible refine (eqStreamS_same _ _ _ _ (HS.holds tk) (HS.holds tk)).mono ?_); rintro e w' ⟨rfl, hx⟩; replace HS := HS.grow hx; clear hx)
        | (go_at_call 28; (with_reducible refine (eqMemory_same _ _ _ _ (HS.holds tk) (HS.holds tk)).mono ?_); rintro e w' ⟨rfl, hx⟩; replace HS := HS.grow hx; clear hx)
        | (go_at_call 47; (with_reducible refine (eqRxQueue_w aQ_Ring_Base aQ_Ring_Size aQ_Ring_Head t9 aQ_Device_Base aQ_Device_Size aQ_Device_Count aQ_Driver_Base aQ_Driver_Size c9 aQ_Held_Packet_DstMac aQ_Held_Packet_SrcMac aQ_Held_Packet_Vlan aQ_Held_Packet_Tos aQ_Held_Packet_Id aQ_Held_Packet_Ttl aQ_Held_Packet_SrcIp aQ_Held_Packet_DstIp aQ_Held_Packet_Seg_Kind aQ_Held_Packet_Seg_SrcPort aQ_Held_Packet_Seg_DstPort aQ_Held_Packet_Seg_Seq aQ_Held_Packet_Seg_Ack aQ_Held_Packet_Seg_Flags aQ_Held_Packet_Seg_Window aQ_Held_Packet_Seg_Body aQ_Held_Size aQ_Held_Count aQ_Holding aQ_Dropped _).mono ?_); rintro e w' ⟨rfl, hx⟩; replace HS := HS.grow hx; clear hx)
        | (go_at_call 48; (with_reducible refine (eqPool_same _ _ _ pb pz pc _ (HS.holds tk) (HS.holds tk)).mono ?_); rintro e w' ⟨rfl, hx⟩; replace HS := HS.grow hx; clear hx)
        | (go_at_call 31; (with_reducible refine (markMappingS_i 1 (HS.take tk) (by omega) (by omega)).mono ?_); rintro e w' ⟨rfl, HS9⟩; clear HS; have HS := HS9; clear HS9)
        | (go_at_call 32; (with_reducible refine (markMemory_i (ps := aMD) (1 + 4 * aListD.length) (HS.take tk) (by omega) (by omega) (by omega)).mono ?_); rintro e w' ⟨rfl, HS9⟩; clear HS; have HS := HS9; clear HS9)
        | (go_at_call 50; (with_reducible refine (markPool_st _ fr pb pz pc (1 + 4 * aListD.length + aMD.length) _ (HS.take tk) (by omega) (by omega)).mono ?_); rintro e w' ⟨rfl, HS9⟩; clear HS; have HS := HS9; clear HS9)
        | (go_at_call 51; (with_reducible refine (markStreamS_st _ gs (1 + 4 * aListD.length + aMD.length + fr.length) _ (HS.take tk) (by omega) (by omega) (by omega)).mono ?_); rintro e w' ⟨rfl, HS9⟩; clear HS; have HS := HS9; clear HS9)
        | ((with_reducible (show wpList _ _ _ (Oper.mk (some 155) (Op.load _ _) _ _ _ _ :: _) _ _)); refine wpList_loadA_st (o := ⟨some 155, .load _ _, _, _, _, _⟩) rfl _ _ rfl rfl HS tk ag_impl_Memory lit rfl ?_)
        | ((with_reducible (show wpList _ _ _ (Oper.mk (some 158) (Op.load _ _) _ _ _ _ :: _) _ _)); refine wpList_loadA_st (o := ⟨some 158, .load _ _, _, _, _, _⟩) rfl _ _ rfl rfl HS tk ag_impl_Pool lit rfl ?_)
        | ((with_reducible (show wpList _ _ _ (Oper.mk (some 167) (Op.load _ _) _ _ _ _ :: _) _ _)); refine wpList_loadA_st (o := ⟨some 167, .load _ _, _, _, _, _⟩) rfl _ _ rfl rfl HS tk ag_impl_Memory lit rfl ?_)
        | ((with_reducible (show wpList _ _ _ (Oper.mk (some 168) (Op.load _ _) _ _ _ _ :: _) _ _)); refine wpList_loadA_st (o := ⟨some 168, .load _ _, _, _, _, _⟩) rfl _ _ rfl rfl HS tk ag_impl_Memory lit rfl ?_)
        | ((with_reducible (show wpList _ _ _ (Oper.mk (some 173) (Op.load _ _) _ _ _ _ :: _) _ _)); refine wpList_loadA_st (o := ⟨some 173, .load _ _, _, _, _, _⟩) rfl _ _ rfl rfl HS tk ag_impl_RxQueue lit rfl ?_)
        | ((with_reducible (show wpList _ _ _ (Oper.mk (some 174) (Op.load _ _) _ _ _ _ :: _) _ _)); refine wpList_loadA_st (o := ⟨some 174, .load _ _, _, _, _, _⟩) rfl _ _ rfl rfl HS tk ag_impl_RxQueue lit rfl ?_)
        | ((with_reducible (show wpList _ _ _ (Oper.mk (some 179) (Op.load _ _) _ _ _ _ :: _) _ _)); refine wpList_loadA_st (o := ⟨some 179, .load _ _, _, _, _, _⟩) rfl _ _ rfl rfl HS tk ag_impl_Pool lit rfl ?_)
        | ((with_reducible (show wpList _ _ _ (Oper.mk (some 180) (Op.load _ _) _ _ _ _ :: _) _ _)); refine wpList_loadA_st (o := ⟨some 180, .load _ _, _, _, _, _⟩) rfl _ _ rfl rfl HS tk ag_impl_Pool lit rfl ?_)
        | ((with_reducible (show wpList _ _ _ (Oper.mk (some 195) (Op.load _ _) _ _ _ _ :: _) _ _)); refine wpList_loadA_st (o := ⟨some 195, .load _ _, _, _, _, _⟩) rfl _ _ rfl rfl HS tk ag_impl_Memory lit rfl ?_))
  go_wp2_with (first
        | (go_at_call 32; (with_reducible refine (markMemory_i (ps := qs) (1) (HS.take tk) (by omega) (by omega) (by omega)).mono ?_); rintro e w' ⟨rfl, HS9⟩; clear HS; have HS := HS9; clear HS9)
        | (go_at_call 50; (with_reducible refine (markPool_st _ fr9 pb pz pc (1 + qs.length) _ (HS.take tk) (by omega) (by omega)).mono ?_); rintro e w' ⟨rfl, HS9⟩; clear HS; have HS := HS9; clear HS9)
        | (go_at_call 51; (with_reducible refine (markStreamS_st _ gs9 (1 + qs.length + fr9.length) _ (HS.take tk) (by omega) (by omega) (by omega)).mono ?_); rintro e w' ⟨rfl, HS9⟩; clear HS; have HS := HS9; clear HS9)
        | (go_at_call 34; (with_reducible refine (heldMemory_i qs.length 1 (HS.holds tk) (by omega) (by omega) (by omega)).mono ?_); rintro e w' ⟨rfl, hx⟩; replace HS := HS.grow hx; clear hx)
        | (go_at_call 52; (with_reducible refine (heldPool_any _ pb pz pc fr9.length (1 + qs.length) _ _ (HS.holds tk) (by omega) (by omega) (by omega)).mono ?_); rintro e w' ⟨rfl, hx⟩; replace HS := HS.grow hx; clear hx)
        | (go_at_call 53; (with_reducible refine (heldStreamS_any _ gs9.length (1 + qs.length + fr9.length) _ (HS.holds tk) (by omega) (by omega) (by omega)).mono ?_); rintro e w' ⟨rfl, hx⟩; replace HS := HS.grow hx; clear hx)
        | ((with_reducible (show wpList _ _ _ (Oper.mk (some 198) (Op.load _ _) _ _ _ _ :: _) _ _)); refine wpList_loadA_st (o := ⟨some 198, .load _ _, _, _, _, _⟩) rfl _ _ rfl rfl HS tk ag_impl_Pool lit rfl ?_)
        | ((with_reducible (show wpList _ _ _ (Oper.mk (some 204) (Op.load _ _) _ _ _ _ :: _) _ _)); refine wpList_loadA_st (o := ⟨some 204, .load _ _, _, _, _, _⟩) rfl _ _ rfl rfl HS tk ag_impl_Memory lit rfl ?_)
        | ((with_reducible (show wpList _ _ _ (Oper.mk (some 209) (Op.load _ _) _ _ _ _ :: _) _ _)); refine wpList_loadA_st (o := ⟨some 209, .load _ _, _, _, _, _⟩) rfl _ _ rfl rfl HS tk ag_impl_Pool lit rfl ?_))
  refine wp_region_fl HS (show Arr _ [rowA b8 _ _, rowA b10 _ _, rowA b11 _ _] from ary) (.early 0 (.early 2 (.early 4 (.early 5 (.early 7 (.early 9 (.early 11 (.forced 1 1 (.forced 3 1 (.forced 6 1 (.forced 8 1 (.forced 10 1 (.forced 12 1 (.pure 13 (.pure 14 (.pure 15 (.pure 16 (.pure 17 (.pure 18 (.land 19 (.land 20 (.land 21 (.forced 22 2 (.forced 23 2 (.forced 24 2 (.pure 25 (.pure 26 .done))))))))))))))))))))))))))) [19, 20, 21] (by kernel_rfl) (by as_aux_lemma => kernel_rfl) ?_
  intro hne
  clear HS
  try go_simp
  repeat' (first
    | (with_reducible refine wpF_forced ?_)
    | ((with_reducible (first | (show wpF _ _ _ _ _ (.early 0 _) _ _) | (show wpF _ _ _ _ _ (.early 4 _) _ _) | (show wpF _ _ _ _ _ (.early 9 _) _ _) | (show wpF _ _ _ _ _ (.early 11 _) _ _))); (first | (refine wpF_skipE rfl rfl ?_; (try go_simp)) | (refine wpF_early rfl rfl ?_; intro K hK; (first | go_big_quiet_op); (first | go_big_quiet_on | (refine ⟨_, fun _ => rfl, ?_⟩; go_big_quiet_on)))))
    | ((with_reducible ((show wpF _ _ _ _ _ (.early 2 _) _ _))); (first | (refine wpF_skipE rfl rfl ?_; (try go_simp)) | (refine wpF_early rfl rfl ?_; intro K hK; (first | ((refine quiet_loadA_st  _ _ rfl rfl tk ag_laws_Memory lit rfl ?_); (try go_simp)) | go_big_quiet_op); (first | go_big_quiet_on | (refine ⟨_, fun _ => rfl, ?_⟩; go_big_quiet_on)))))
    | ((with_reducible ((show wpF _ _ _ _ _ (.early 5 _) _ _))); (first | (refine wpF_skipE rfl rfl ?_; (try go_simp)) | (refine wpF_early rfl rfl ?_; intro K hK; (first | ((refine quiet_loadA_st  _ _ rfl rfl tk ag_laws_RxQueue lit rfl ?_); (try go_simp)) | go_big_quiet_op); (first | go_big_quiet_on | (refine ⟨_, fun _ => rfl, ?_⟩; go_big_quiet_on)))))
    | ((with_reducible ((show wpF _ _ _ _ _ (.early 7 _) _ _))); (first | (refine wpF_skipE rfl rfl ?_; (try go_simp)) | (refine wpF_early rfl rfl ?_; intro K hK; (first | ((refine quiet_loadA_st  _ _ rfl rfl tk ag_laws_Pool lit rfl ?_); (try go_simp)) | go_big_quiet_op); (first | go_big_quiet_on | (refine ⟨_, fun _ => rfl, ?_⟩; go_big_quiet_on)))))
    | ((with_reducible ((show OneF _ _ _ _ _ 1 1 _ _ _))); (first | (refine oneF_skip rfl rfl ?_; (try go_simp)) | (refine oneF_1 rfl rfl ?_; intro wq Fq HS K hK; go_simp; (first | (go_at_call 24; (with_reducible refine (toMappingS_any _ aListD _ (k1.ex HS.ex) (by omega)).mono ?_); rintro e w' ⟨A224, c224, rfl, ho, hx⟩; replace HS := HS.own ho hx; clear ho hx)); (try go_simp); refine hK _ _ _ ?_ (HS.take tk) ?_; (focus (exact stw HS)); clear HS hK K)))
    | ((with_reducible ((show OneF _ _ _ _ _ 3 1 _ _ _))); (first | (refine oneF_skip rfl rfl ?_; (try go_simp)) | (refine oneF_1 rfl rfl ?_; intro wq Fq HS K hK; go_simp; (first | (go_at_call 25; (with_reducible refine (toMemory_any _ aMD _ (k2.ex HS.ex) (by omega)).mono ?_); rintro e w' ⟨A226, c226, rfl, ho, hx⟩; replace HS := HS.own ho hx; clear ho hx)); (try go_simp); refine hK _ _ _ ?_ (HS.take tk) ?_; (focus (exact stw HS)); clear HS hK K)))
    | ((with_reducible ((show OneF _ _ _ _ _ 6 1 _ _ _))); (first | (refine oneF_skip rfl rfl ?_; (try go_simp)) | (refine oneF_1 rfl rfl ?_; intro wq Fq HS K hK; go_simp; (first | (go_at_call 43; (with_reducible refine (toRxQueue_w aQ_Ring_Base aQ_Ring_Size aQ_Ring_Head aQ_Ring_Tail aQ_Device_Base aQ_Device_Size aQ_Device_Count aQ_Driver_Base aQ_Driver_Size aQ_Driver_Count aQ_Held_Packet_DstMac aQ_Held_Packet_SrcMac aQ_Held_Packet_Vlan aQ_Held_Packet_Tos aQ_Held_Packet_Id aQ_Held_Packet_Ttl aQ_Held_Packet_SrcIp aQ_Held_Packet_DstIp aQ_Held_Packet_Seg_Kind aQ_Held_Packet_Seg_SrcPort aQ_Held_Packet_Seg_DstPort aQ_Held_Packet_Seg_Seq aQ_Held_Packet_Seg_Ack aQ_Held_Packet_Seg_Flags aQ_Held_Packet_Seg_Window aQ_Held_Packet_Seg_Body aQ_Held_Size aQ_Held_Count aQ_Holding aQ_Dropped _).mono ?_); rintro e w' ⟨rfl, hx⟩; replace HS := HS.grow hx; clear hx)); (try go_simp); refine hK _ _ _ ?_ (HS.take tk) ?_; (focus (exact stw HS)); clear HS hK K)))
    | ((with_reducible ((show OneF _ _ _ _ _ 8 1 _ _ _))); (first | (refine oneF_skip rfl rfl ?_; (try go_simp)) | (refine oneF_1 rfl rfl ?_; intro wq Fq HS K hK; go_simp; (first | (go_at_call 44; (with_reducible refine (toPool_any _ fr pb pz pc _ (k3.ex HS.ex) (by omega)).mono ?_); rintro e w' ⟨A231, c231, rfl, ho, hx⟩; replace HS := HS.own ho hx; clear ho hx)); (try go_simp); refine hK _ _ _ ?_ (HS.take tk) ?_; (focus (exact stw HS)); clear HS hK K)))
    | ((with_reducible ((show OneF _ _ _ _ _ 10 1 _ _ _))); (first | (refine oneF_skip rfl rfl ?_; (try go_simp)) | (refine oneF_1 rfl rfl ?_; intro wq Fq HS K hK; go_simp; (first | (go_at_call 45; (with_reducible refine (toStreamS_any _ gs _ (k4.ex HS.ex) (by omega)).mono ?_); rintro e w' ⟨A233, c233, rfl, ho, hx⟩; replace HS := HS.own ho hx; clear ho hx)); (try go_simp); refine hK _ _ _ ?_ (HS.take tk) ?_; (focus (exact stw HS)); clear HS hK K)))
    | ((with_reducible ((show OneF _ _ _ _ _ 12 1 _ _ _))); (first | (refine oneF_skip rfl rfl ?_; (try go_simp)) | (refine oneF_1 rfl rfl ?_; intro wq Fq HS K hK; go_simp; (first | (go_at_call 46; (with_reducible refine (HI.out _ _ _ _ _ (HS.holds tk) (HS.holds tk) (HS.holds tk) (HS.holds tk)).mono ?_); rintro e w' ⟨A235, c235, P235, p235, S235, s235, rfl, ho, hx⟩; replace HS := (HS.own (vs := [_] ++ ([_] ++ [_])) ho hx).split rfl; clear ho hx; replace HS := HS.splitT (v1 := [_]) (v2 := [_]) (show Take _ (ownA (fr9, gs9) ([_] ++ [_])) _ from .tail .head) rfl)); (try go_simp); refine hK _ _ _ ?_ (HS.take tk) ?_; (focus (exact stw HS)); clear HS hK K)))
    | ((with_reducible ((show wpF _ _ _ _ _ (.pure _ _) _ _))); (first | (refine wpF_skipP rfl rfl ?_; (try go_simp)) | (refine wpF_pure rfl rfl ?_; intro K hK; go_big_quiet_op; (first | go_big_quiet_on | (refine ⟨_, fun _ => rfl, ?_⟩; go_big_quiet_on)))))
    | ((with_reducible ((show wpF _ _ _ _ _ (.land 19 _) _ _))); (refine wpF_land rfl rfl zc_impl_Memory ?_; intro b33; (try go_simp)))
    | ((with_reducible ((show wpF _ _ _ _ _ (.land 20 _) _ _))); (refine wpF_land rfl rfl zc_impl_RxQueue ?_; intro b34; (try go_simp)))
    | ((with_reducible ((show wpF _ _ _ _ _ (.land 21 _) _ _))); (refine wpF_land rfl rfl zc_impl_Pool ?_; intro b35; (try go_simp)))
    | ((with_reducible ((show OneF _ _ _ _ _ 22 2 _ _ _))); (first | (refine oneF_skip rfl rfl ?_; (try go_simp)) | (refine oneF_2 rfl rfl ?_; intro wq Fq HS K hK; (first | (refine wp_store_st  _ _ _ rfl rfl (v := .agg (List.toArray _)) rfl HS tk sz_impl_Memory vcs rfx rfx (by simp) ?_ rfl; clear HS; intro w56_22 hz56_22 HS; simp only [nicL, Value.cells, List.append_nil] at HS) | (refine wp_store_st  _ _ _ rfl rfl (v := .agg _) rfl HS tk sz_impl_Memory vcs rfx rfx (by simp) ?_ rfl; clear HS; intro w56_22 hz56_22 HS; simp only [nicL, Value.cells, List.append_nil] at HS)); (try go_simp); refine hK _ _ _ (HS.take tk) ?_; clear HS hK K)))
    | ((with_reducible ((show OneF _ _ _ _ _ 23 2 _ _ _))); (first | (refine oneF_skip rfl rfl ?_; (try go_simp)) | (refine oneF_2 rfl rfl ?_; intro wq Fq HS K hK; (first | (refine wp_store_st  _ _ _ rfl rfl (v := .agg (List.toArray _)) rfl HS tk sz_impl_RxQueue vcs rfx rfx (by simp) ?_ rfl; clear HS; intro w56_23 hz56_23 HS; simp only [nicL, Value.cells, List.append_nil] at HS) | (refine wp_store_st  _ _ _ rfl rfl (v := .agg _) rfl HS tk sz_impl_RxQueue vcs rfx rfx (by simp) ?_ rfl; clear HS; intro w56_23 hz56_23 HS; simp only [nicL, Value.cells, List.append_nil] at HS)); (try go_simp); refine hK _ _ _ (HS.take tk) ?_; clear HS hK K)))
    | ((with_reducible ((show OneF _ _ _ _ _ 24 2 _ _ _))); (first | (refine oneF_skip rfl rfl ?_; (try go_simp)) | (refine oneF_2 rfl rfl ?_; intro wq Fq HS K hK; (first | (refine wp_store_st  _ _ _ rfl rfl (v := .agg (List.toArray _)) rfl HS tk sz_impl_Pool vcs rfx rfx (by simp) ?_ rfl; clear HS; intro w56_24 hz56_24 HS; simp only [nicL, Value.cells, List.append_nil] at HS) | (refine wp_store_st  _ _ _ rfl rfl (v := .agg _) rfl HS tk sz_impl_Pool vcs rfx rfx (by simp) ?_ rfl; clear HS; intro w56_24 hz56_24 HS; simp only [nicL, Value.cells, List.append_nil] at HS)); (try go_simp); refine hK _ _ _ (HS.take tk) ?_; clear HS hK K)))
    | (with_reducible refine wpF_done ?_))
  all_goals intro w9 HS
  go_wp2_with (first
        | (go_at_call 28; (with_reducible refine (eqMemory_same _ _ _ _ (HS.holds tk) (HS.holds tk)).mono ?_); rintro e w' ⟨rfl, hx⟩; replace HS := HS.grow hx; clear hx)
        | (go_at_call 47; (with_reducible refine (eqRxQueue_w aQ_Ring_Base aQ_Ring_Size aQ_Ring_Head t9 aQ_Device_Base aQ_Device_Size aQ_Device_Count aQ_Driver_Base aQ_Driver_Size c9 aQ_Held_Packet_DstMac aQ_Held_Packet_SrcMac aQ_Held_Packet_Vlan aQ_Held_Packet_Tos aQ_Held_Packet_Id aQ_Held_Packet_Ttl aQ_Held_Packet_SrcIp aQ_Held_Packet_DstIp aQ_Held_Packet_Seg_Kind aQ_Held_Packet_Seg_SrcPort aQ_Held_Packet_Seg_DstPort aQ_Held_Packet_Seg_Seq aQ_Held_Packet_Seg_Ack aQ_Held_Packet_Seg_Flags aQ_Held_Packet_Seg_Window aQ_Held_Packet_Seg_Body aQ_Held_Size aQ_Held_Count aQ_Holding aQ_Dropped _).mono ?_); rintro e w' ⟨rfl, hx⟩; replace HS := HS.grow hx; clear hx)
        | (go_at_call 48; (with_reducible refine (eqPool_same _ _ _ pb pz pc _ (HS.holds tk) (HS.holds tk)).mono ?_); rintro e w' ⟨rfl, hx⟩; replace HS := HS.grow hx; clear hx)
        | (go_at_call 49; (with_reducible refine (eqStreamS_same _ _ _ _ (HS.holds tk) (HS.holds tk)).mono ?_); rintro e w' ⟨rfl, hx⟩; replace HS := HS.grow hx; clear hx)
        | (go_at_call 34; (with_reducible refine (heldMemory_i qs.length 1 (HS.holds tk) (by omega) (by omega) (by omega)).mono ?_); rintro e w' ⟨rfl, hx⟩; replace HS := HS.grow hx; clear hx)
        | (go_at_call 52; (with_reducible refine (heldPool_any _ pb pz pc fr9.length (1 + qs.length) _ _ (HS.holds tk) (by omega) (by omega) (by omega)).mono ?_); rintro e w' ⟨rfl, hx⟩; replace HS := HS.grow hx; clear hx)
        | (go_at_call 53; (with_reducible refine (heldStreamS_any _ gs9.length (1 + qs.length + fr9.length) _ (HS.holds tk) (by omega) (by omega) (by omega)).mono ?_); rintro e w' ⟨rfl, hx⟩; replace HS := HS.grow hx; clear hx)
        | ((with_reducible (show wpList _ _ _ (Oper.mk (some 241) (Op.load _ _) _ _ _ _ :: _) _ _)); refine wpList_loadA_st (o := ⟨some 241, .load _ _, _, _, _, _⟩) rfl _ _ rfl rfl HS tk ag_impl_Memory lit rfl ?_)
        | ((with_reducible (show wpList _ _ _ (Oper.mk (some 242) (Op.load _ _) _ _ _ _ :: _) _ _)); refine wpList_loadA_st (o := ⟨some 242, .load _ _, _, _, _, _⟩) rfl _ _ rfl rfl HS tk ag_impl_Memory lit rfl ?_)
        | ((with_reducible (show wpList _ _ _ (Oper.mk (some 246) (Op.load _ _) _ _ _ _ :: _) _ _)); refine wpList_loadA_st (o := ⟨some 246, .load _ _, _, _, _, _⟩) rfl _ _ rfl rfl HS tk ag_impl_RxQueue lit rfl ?_)
        | ((with_reducible (show wpList _ _ _ (Oper.mk (some 247) (Op.load _ _) _ _ _ _ :: _) _ _)); refine wpList_loadA_st (o := ⟨some 247, .load _ _, _, _, _, _⟩) rfl _ _ rfl rfl HS tk ag_impl_RxQueue lit rfl ?_)
        | ((with_reducible (show wpList _ _ _ (Oper.mk (some 252) (Op.load _ _) _ _ _ _ :: _) _ _)); refine wpList_loadA_st (o := ⟨some 252, .load _ _, _, _, _, _⟩) rfl _ _ rfl rfl HS tk ag_impl_Pool lit rfl ?_)
        | ((with_reducible (show wpList _ _ _ (Oper.mk (some 253) (Op.load _ _) _ _ _ _ :: _) _ _)); refine wpList_loadA_st (o := ⟨some 253, .load _ _, _, _, _, _⟩) rfl _ _ rfl rfl HS tk ag_impl_Pool lit rfl ?_)
        | ((with_reducible (show wpList _ _ _ (Oper.mk (some 268) (Op.load _ _) _ _ _ _ :: _) _ _)); refine wpList_loadA_st (o := ⟨some 268, .load _ _, _, _, _, _⟩) rfl _ _ rfl rfl HS tk ag_impl_Memory lit rfl ?_)
        | ((with_reducible (show wpList _ _ _ (Oper.mk (some 273) (Op.load _ _) _ _ _ _ :: _) _ _)); refine wpList_loadA_st (o := ⟨some 273, .load _ _, _, _, _, _⟩) rfl _ _ rfl rfl HS tk ag_impl_Pool lit rfl ?_))
  go_ret
  exact ⟨rfl, HS.ex⟩
end Go.Proofs.YtbdcaacpemkloaaGreat
end

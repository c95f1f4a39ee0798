/- Part 5 of what the proof of FnSentInOrder rests on: an idealised machine, contracts of functions, and the walk of the law. No condition. -/
import Derived.Test.YtbdcaacpemkloaaGreatMFnSentInOrderd
section
namespace Go.Proofs.YtbdcaacpemkloaaGreat
open Go Go.RowKit Go.Vc
set_option linter.unusedVariables false
set_option linter.unusedSimpArgs false
set_option linter.unnecessarySimpa false
set_option maxHeartbeats 4000000 in
theorem c_impl_sumPlaces {s : ByteArray} (hs_s : s.size ≤ 1099511627776 := by first | with_reducible assumption | omega | (simp only [ByteArray.size_append, ByteArray.size_extract, strOfNums_size, List.length_cons, List.length_nil]; omega)) : Con0 Tryz.prog 167 [Z s] (.tup [I (sumsA s + 10), I (sumsB s)]) [] := by
  refine con_i Tryz.func167 Tryz.ntmps167 (t := [(0, Z s)]) rfl ?_
  refine vc_sr ?_
  iterate 2 refine vo ?_
  refine vnt ?_
  refine vc_sr ?_
  refine vo ?_
  refine vnt ?_
  refine vc_seq' ?_
  refine vc_sr ?_
  refine vo ?_
  refine voc c_impl_Get16 rfl rfl ?_
  refine vo ?_
  refine vnt ?_
  refine vc_if (fun g1 => ?_) (fun g1 => ?_)
  · refine vc_region ?_
    refine vo ?_
    refine vnt ?_
    refine vc_sr ?_
    refine vo ?_
    refine vnt ?_
    refine vc_seq' ?_
    refine vc_sr ?_
    iterate 2 refine vo ?_
    try refine vwr ?_
    iterate 3 refine vo ?_
    refine vnt ?_
    refine vc_if (fun g2 => ?_) (fun g2 => ?_)
    · refine vc_region ?_
      iterate 3 refine vo ?_
      try refine vwr ?_
      iterate 2 refine vo ?_
      try refine veq (i64_byt _ _) ?_
      refine vo ?_
      refine vnt ?_
      refine vc_sr ?_
      iterate 2 refine vo ?_
      try refine vwr ?_
      iterate 2 refine vo ?_
      try refine vwr ?_
      refine vo ?_
      refine voc c_impl_sumPlace rfl rfl ?_
      refine vo ?_
      try refine vwr ?_
      iterate 2 refine vo ?_
      refine vnt ?_
      refine vc_ret ?_
      refine fin_i [] rfl (fz ?_) trivial
      have ha : sumsA s = 18 := if_pos g1
      have hk : sumsK s = (bAt s ((18 : Int) + 9).toNat : Int) := by unfold sumsK; rw [ha]
      have hb := sumsB_bd s
      unfold sumsB at *
      rw [ha, hk] at *
      exact ⟨rfl, (wr_id (by omega) (by omega)).symm⟩
    · refine vc_skip ?_
      refine thn ?_
      refine vc_sr ?_
      iterate 2 refine vo ?_
      try refine vwr ?_
      iterate 2 refine vo ?_
      try refine vwr ?_
      refine vo ?_
      refine voc c_impl_sumPlace rfl rfl ?_
      refine vo ?_
      try refine vwr ?_
      iterate 2 refine vo ?_
      refine vnt ?_
      refine vc_ret ?_
      refine fin_i [] rfl (fz ?_) trivial
      have ha : sumsA s = 18 := if_pos g1
      have hk : sumsK s = 0 := by unfold sumsK; rw [ha, show bAt s ((18 : Int) + 9).toNat = 0 by unfold bAt; rw [dif_neg (by omega)]]; rfl
      have hb := sumsB_bd s
      unfold sumsB at *
      rw [ha, hk] at *
      exact ⟨rfl, (wr_id (by omega) (by omega)).symm⟩
  · refine vc_skip ?_
    refine thn ?_
    refine vc_sr ?_
    refine vo ?_
    refine vnt ?_
    refine vc_seq' ?_
    refine vc_sr ?_
    iterate 2 refine vo ?_
    try refine vwr ?_
    iterate 3 refine vo ?_
    refine vnt ?_
    refine vc_if (fun g3 => ?_) (fun g3 => ?_)
    · refine vc_region ?_
      iterate 3 refine vo ?_
      try refine vwr ?_
      iterate 2 refine vo ?_
      try refine veq (i64_byt _ _) ?_
      refine vo ?_
      refine vnt ?_
      refine vc_sr ?_
      iterate 2 refine vo ?_
      try refine vwr ?_
      iterate 2 refine vo ?_
      try refine vwr ?_
      refine vo ?_
      refine voc c_impl_sumPlace rfl rfl ?_
      refine vo ?_
      try refine vwr ?_
      iterate 2 refine vo ?_
      refine vnt ?_
      refine vc_ret ?_
      refine fin_i [] rfl (fz ?_) trivial
      have ha : sumsA s = 14 := if_neg g1
      have hk : sumsK s = (bAt s ((14 : Int) + 9).toNat : Int) := by unfold sumsK; rw [ha]
      have hb := sumsB_bd s
      unfold sumsB at *
      rw [ha, hk] at *
      exact ⟨rfl, (wr_id (by omega) (by omega)).symm⟩
    · refine vc_skip ?_
      refine thn ?_
      refine vc_sr ?_
      iterate 2 refine vo ?_
      try refine vwr ?_
      iterate 2 refine vo ?_
      try refine vwr ?_
      refine vo ?_
      refine voc c_impl_sumPlace rfl rfl ?_
      refine vo ?_
      try refine vwr ?_
      iterate 2 refine vo ?_
      refine vnt ?_
      refine vc_ret ?_
      refine fin_i [] rfl (fz ?_) trivial
      have ha : sumsA s = 14 := if_neg g1
      have hk : sumsK s = 0 := by unfold sumsK; rw [ha, show bAt s ((14 : Int) + 9).toNat = 0 by unfold bAt; rw [dif_neg (by omega)]]; rfl
      have hb := sumsB_bd s
      unfold sumsB at *
      rw [ha, hk] at *
      exact ⟨rfl, (wr_id (by omega) (by omega)).symm⟩
set_option maxHeartbeats 4000000 in
theorem c_spec_l22Sums {s : ByteArray} (hs_s : s.size ≤ 1099511627776 := by first | with_reducible assumption | omega | (simp only [ByteArray.size_append, ByteArray.size_extract, strOfNums_size, List.length_cons, List.length_nil]; omega)) : Con0 Tryz.prog 153 [Z s] (.tup [I (smA s), I (smB s)]) [] := by
  refine con_i Tryz.func153 Tryz.ntmps153 (t := [(0, Z s)]) rfl ?_
  refine vc_sr ?_
  iterate 2 refine vo ?_
  refine vnt ?_
  refine vc_sr ?_
  refine vo ?_
  refine vnt ?_
  refine vc_seq' ?_
  refine vc_sr ?_
  refine vo ?_
  refine voc c_spec_Get16 rfl rfl ?_
  refine vo ?_
  refine vnt ?_
  refine vc_if (fun g1 => ?_) (fun g1 => ?_)
  · refine vc_region ?_
    refine vo ?_
    refine vnt ?_
    refine vc_seq' ?_
    refine vc_sr ?_
    iterate 4 refine vo ?_
    try refine vwr ?_
    refine vo ?_
    refine vnt ?_
    refine vc_if (fun g2 => ?_) (fun g2 => ?_)
    · refine vc_sr ?_
      iterate 2 refine vo ?_
      refine vnt ?_
      refine vc_ret ?_
      refine thn_r ?_
      refine fin_i [] rfl (fz ?_) trivial
      have ha : sumsA s = 18 := if_pos g1
      unfold smA smB; rw [ha, if_neg (by omega), if_neg (by omega)]
      exact ⟨rfl, rfl⟩
    · refine vc_skip ?_
      refine thn ?_
      refine vc_seq' ?_
      refine vc_sr ?_
      iterate 3 refine vo ?_
      try refine vwr ?_
      iterate 2 refine vo ?_
      try refine veq (i64_byt _ _) ?_
      refine vo ?_
      refine vnt ?_
      refine vc_if (fun g3 => ?_) (fun g3 => ?_)
      · refine vc_sr ?_
        iterate 2 refine vo ?_
        try refine vwr ?_
        iterate 2 refine vo ?_
        try refine vwr ?_
        iterate 2 refine vo ?_
        refine vnt ?_
        refine vc_ret ?_
        refine thn_r ?_
        refine fin_i [] rfl (fz ?_) trivial
        have ha : sumsA s = 18 := if_pos g1
        unfold smA smB; rw [ha, if_pos (by omega), if_pos (by omega)]
        have hk : sumsK s = (bAt s ((18 : Int) + 9).toNat : Int) := by unfold sumsK; rw [ha]
        have hg := g3
        refine ⟨rfl, ?_⟩
        unfold sumsB sumPl
        rw [ha, hk, if_pos hg]
        try rfl
      · refine vc_skip ?_
        refine thn ?_
        refine vc_sr ?_
        iterate 2 refine vo ?_
        try refine vwr ?_
        iterate 2 refine vo ?_
        try refine vwr ?_
        iterate 2 refine vo ?_
        refine vnt ?_
        refine vc_ret ?_
        refine fin_i [] rfl (fz ?_) trivial
        have ha : sumsA s = 18 := if_pos g1
        unfold smA smB; rw [ha, if_pos (by omega), if_pos (by omega)]
        have hk : sumsK s = (bAt s ((18 : Int) + 9).toNat : Int) := by unfold sumsK; rw [ha]
        have hg := g3
        refine ⟨rfl, ?_⟩
        unfold sumsB sumPl
        rw [ha, hk, if_neg hg]
        try rfl
  · refine vc_skip ?_
    refine thn ?_
    refine vc_seq' ?_
    refine vc_sr ?_
    iterate 4 refine vo ?_
    try refine vwr ?_
    refine vo ?_
    refine vnt ?_
    refine vc_if (fun g4 => ?_) (fun g4 => ?_)
    · refine vc_sr ?_
      iterate 2 refine vo ?_
      refine vnt ?_
      refine vc_ret ?_
      refine thn_r ?_
      refine fin_i [] rfl (fz ?_) trivial
      have ha : sumsA s = 14 := if_neg g1
      unfold smA smB; rw [ha, if_neg (by omega), if_neg (by omega)]
      exact ⟨rfl, rfl⟩
    · refine vc_skip ?_
      refine thn ?_
      refine vc_seq' ?_
      refine vc_sr ?_
      iterate 3 refine vo ?_
      try refine vwr ?_
      iterate 2 refine vo ?_
      try refine veq (i64_byt _ _) ?_
      refine vo ?_
      refine vnt ?_
      refine vc_if (fun g5 => ?_) (fun g5 => ?_)
      · refine vc_sr ?_
        iterate 2 refine vo ?_
        try refine vwr ?_
        iterate 2 refine vo ?_
        try refine vwr ?_
        iterate 2 refine vo ?_
        refine vnt ?_
        refine vc_ret ?_
        refine thn_r ?_
        refine fin_i [] rfl (fz ?_) trivial
        have ha : sumsA s = 14 := if_neg g1
        unfold smA smB; rw [ha, if_pos (by omega), if_pos (by omega)]
        have hk : sumsK s = (bAt s ((14 : Int) + 9).toNat : Int) := by unfold sumsK; rw [ha]
        have hg := g5
        refine ⟨rfl, ?_⟩
        unfold sumsB sumPl
        rw [ha, hk, if_pos hg]
        try rfl
      · refine vc_skip ?_
        refine thn ?_
        refine vc_sr ?_
        iterate 2 refine vo ?_
        try refine vwr ?_
        iterate 2 refine vo ?_
        try refine vwr ?_
        iterate 2 refine vo ?_
        refine vnt ?_
        refine vc_ret ?_
        refine fin_i [] rfl (fz ?_) trivial
        have ha : sumsA s = 14 := if_neg g1
        unfold smA smB; rw [ha, if_pos (by omega), if_pos (by omega)]
        have hk : sumsK s = (bAt s ((14 : Int) + 9).toNat : Int) := by unfold sumsK; rw [ha]
        have hg := g5
        refine ⟨rfl, ?_⟩
        unfold sumsB sumPl
        rw [ha, hk, if_neg hg]
        try rfl
theorem im_sz {p : Pk} (h : p.sup = true) : p.im.size ≤ 1000 ∧ p.sc = true ∧ smA p.im = sumsA p.im + 10 ∧ smB p.im = sumsB p.im := by
  have h1 := sup_img h
  have h2 := (img_lay h).1
  refine ⟨h1.2, h1.1, ?_, ?_⟩
  · unfold smA; rw [if_pos (by omega)]
  · unfold smB; rw [if_pos (by omega)]
theorem sc_sup {p : Pk} (h : p.sc = false) : p.sup = false := by
  cases hs : p.sup with
  | false => rfl
  | true => rw [(im_sz hs).2.1] at h; cases h
theorem sc_sup2 {p : Pk} (h : p.sc = true) : p.sup = true := by
  unfold Pk.sc supC at h
  rw [Bool.and_eq_true] at h
  exact h.1
theorem tm_n {p : Pk} (h : p.sup = false) : p.tm = ⟨#[]⟩ := if_neg (by rw [h]; decide)
theorem tm_y {p : Pk} (h : p.sup = true) : p.tm = putBF (putBF p.im (sumsA p.im + 10) (word16 0)) (sumsB p.im) (word16 0) := if_pos h
set_option maxHeartbeats 4000000 in
theorem c_impl_Template {p : Pk} (hz_p : p.body.size ≤ 1099511627776 := by first | assumption | omega) : Con0 Tryz.prog 76 [.agg [V (p).dm, V (p).sm, V (p).vl, V (p).tos, V (p).id, V (p).ttl, V (p).si, V (p).di, V (p).kind, V (p).sp, V (p).dp, V (p).seq, V (p).ack, V (p).fl, V (p).win, VS (p).body]] (.tup [Z p.tm, B p.sup]) [] := by
  refine con_i Tryz.func76 Tryz.ntmps76 (t := [(0, .agg [V (p).dm, V (p).sm, V (p).vl, V (p).tos, V (p).id, V (p).ttl, V (p).si, V (p).di, V (p).kind, V (p).sp, V (p).dp, V (p).seq, V (p).ack, V (p).fl, V (p).win, VS (p).body])]) rfl ?_
  refine vc_sr ?_
  iterate 3 refine vo ?_
  refine vnt ?_
  refine vc_sr ?_
  refine vo ?_
  refine voc c_impl_BuildImage rfl rfl ?_
  iterate 5 refine vo ?_
  refine vnt ?_
  refine vc_seq' ?_
  refine vc_sr ?_
  iterate 2 refine vo ?_
  refine vnt ?_
  refine vc_if (fun g1 => ?_) (fun g1 => ?_)
  · refine vc_sr ?_
    iterate 2 refine vo ?_
    refine vnt ?_
    refine vc_ret ?_
    refine thn_r ?_
    refine fin_i [] rfl (fz ?_) trivial
    have hs : p.sup = false := sc_sup g1
    rw [tm_n hs, hs]
    trivial
  · have hs : p.sup = true := sc_sup2 g1
    obtain ⟨hz, _, ea, eb⟩ := im_sz hs
    have hz1 : (imgR p.dm p.sm p.vl p.tos p.id p.ttl p.si p.di p.kind p.sp p.dp p.seq p.ack p.fl p.win p.body).size ≤ 1000 := hz
    have hz2 : (imgR p.dm p.sm p.vl p.tos p.id p.ttl p.si p.di p.kind p.sp p.dp p.seq p.ack p.fl p.win p.body).size ≤ 1099511627776 := by omega
    refine vc_skip ?_
    refine thn ?_
    refine vc_sr ?_
    refine vo ?_
    refine voc c_impl_sumPlaces rfl rfl ?_
    iterate 5 refine vo ?_
    refine vnt ?_
    refine vc_sr ?_
    iterate 2 refine vo ?_
    refine voc c_impl_Word16 rfl rfl ?_
    refine vzs (word16_le _) fun z1 => ?_
    refine voc c_impl_PutBytes rfl rfl ?_
    refine vzs (Nat.le_of_eq (putBF_le _ _ _)) fun z2 => ?_
    refine vo ?_
    refine voc c_impl_Word16 rfl rfl ?_
    refine vzs (word16_le _) fun z3 => ?_
    refine voc c_impl_PutBytes rfl rfl ?_
    refine vzs (Nat.le_of_eq (putBF_le _ _ _)) fun z4 => ?_
    iterate 2 refine vo ?_
    refine vnt ?_
    refine vc_ret ?_
    refine fin_i [] rfl (fz ?_) trivial
    rw [tm_y hs, hs]
    first | exact ⟨rfl, rfl⟩ | (rw [← ea, ← eb]; exact ⟨rfl, rfl⟩)
set_option maxHeartbeats 4000000 in
theorem c_spec_Template {p : Pk} (hz_p : p.body.size ≤ 1099511627776 := by first | assumption | omega) : Con0 Tryz.prog 59 [.agg [V (p).dm, V (p).sm, V (p).vl, V (p).tos, V (p).id, V (p).ttl, V (p).si, V (p).di, V (p).kind, V (p).sp, V (p).dp, V (p).seq, V (p).ack, V (p).fl, V (p).win, VS (p).body]] (.tup [Z p.tm, B p.sup]) [] := by
  refine con_i Tryz.func59 Tryz.ntmps59 (t := [(0, .agg [V (p).dm, V (p).sm, V (p).vl, V (p).tos, V (p).id, V (p).ttl, V (p).si, V (p).di, V (p).kind, V (p).sp, V (p).dp, V (p).seq, V (p).ack, V (p).fl, V (p).win, VS (p).body])]) rfl ?_
  refine vc_sr ?_
  iterate 3 refine vo ?_
  refine vnt ?_
  refine vc_sr ?_
  refine vo ?_
  refine voc c_spec_BuildImage rfl rfl ?_
  iterate 5 refine vo ?_
  refine vnt ?_
  refine vc_seq' ?_
  refine vc_sr ?_
  iterate 2 refine vo ?_
  refine vnt ?_
  refine vc_if (fun g1 => ?_) (fun g1 => ?_)
  · refine vc_sr ?_
    iterate 2 refine vo ?_
    refine vnt ?_
    refine vc_ret ?_
    refine thn_r ?_
    refine fin_i [] rfl (fz ?_) trivial
    have hs : p.sup = false := sc_sup g1
    rw [tm_n hs, hs]
    trivial
  · have hs : p.sup = true := sc_sup2 g1
    obtain ⟨hz, _, ea, eb⟩ := im_sz hs
    have hz1 : (imgR p.dm p.sm p.vl p.tos p.id p.ttl p.si p.di p.kind p.sp p.dp p.seq p.ack p.fl p.win p.body).size ≤ 1000 := hz
    have hz2 : (imgR p.dm p.sm p.vl p.tos p.id p.ttl p.si p.di p.kind p.sp p.dp p.seq p.ack p.fl p.win p.body).size ≤ 1099511627776 := by omega
    refine vc_skip ?_
    refine thn ?_
    refine vc_sr ?_
    refine vo ?_
    refine voc c_spec_l22Sums rfl rfl ?_
    iterate 5 refine vo ?_
    refine vnt ?_
    refine vc_sr ?_
    iterate 2 refine vo ?_
    refine voc c_spec_Word16 rfl rfl ?_
    refine vzs (word16_le _) fun z1 => ?_
    refine voc c_spec_PutBytes rfl rfl ?_
    refine vzs (Nat.le_of_eq (putBF_le _ _ _)) fun z2 => ?_
    refine vo ?_
    refine voc c_spec_Word16 rfl rfl ?_
    refine vzs (word16_le _) fun z3 => ?_
    refine voc c_spec_PutBytes rfl rfl ?_
    refine vzs (Nat.le_of_eq (putBF_le _ _ _)) fun z4 => ?_
    iterate 2 refine vo ?_
    refine vnt ?_
    refine vc_ret ?_
    refine fin_i [] rfl (fz ?_) trivial
    rw [tm_y hs, hs]
    first | exact ⟨rfl, rfl⟩ | (rw [← ea, ← eb]; exact ⟨rfl, rfl⟩)
theorem ethPF_sz (t : ByteArray) : (ethPF t).body.size ≤ t.size := by
  unfold ethPF
  split
  · exact ethX_body t
  · exact Nat.zero_le _
theorem sumPl_bd (k : Int) : 6 ≤ sumPl k ∧ sumPl k ≤ 16 := by unfold sumPl; split <;> omega
theorem fsS_sz (t : ByteArray) : (fsS t).size = t.size := by unfold fsS; rw [putBF_le, putBF_le]
theorem rdF_bz (s : ByteArray) : (rdF s).body.size ≤ 1099511627776 := by
  by_cases h : rdC s = 0
  · have := (superOk_facts (rdC_sup h)).2.2.2.2.2.2.2.2.2; omega
  · rw [rdF, if_neg h]; exact Nat.zero_le _
theorem fs_gl {t : ByteArray} (h0 : sumsA t + 46 ≤ t.size) (h1 : 20 ≤ fsN t) (h2 : fsN t ≤ t.size - sumsA t) : ((t.extract (sumsA t + 20).toNat (sumsA t + fsN t).toNat).size : Int) = fsN t - 20 := by
  have := sumsA_bd t
  rw [ByteArray.size_extract]; omega
set_option maxHeartbeats 4000000 in
theorem c_impl_FillSums {t : ByteArray} (hs_t : t.size ≤ 1099511627776 := by first | with_reducible assumption | omega | (simp only [ByteArray.size_append, ByteArray.size_extract, strOfNums_size, List.length_cons, List.length_nil]; omega)) : Con0 Tryz.prog 87 [Z t] (.tup [Z (fsF t), B (fsB t)]) [] := by
  have zp : (ethPF t).body.size ≤ 1099511627776 := Nat.le_trans (ethPF_sz t) hs_t
  refine con_i Tryz.func87 Tryz.ntmps87 (t := [(0, Z t)]) rfl ?_
  refine vc_sr ?_
  iterate 2 refine vo ?_
  refine vnt ?_
  refine vc_sr ?_
  refine vo ?_
  refine voc c_impl_ParseEth rfl rfl ?_
  iterate 6 refine vo ?_
  refine vnt ?_
  refine vc_sr ?_
  iterate 2 refine vo ?_
  refine voc (c_impl_Get16 (hs := by first | omega | (simp only [ByteArray.size_append, ByteArray.size_extract]; omega))) rfl rfl ?_
  refine vo ?_
  refine vnt ?_
  refine vc_seq' ?_
  refine vc_sr ?_
  iterate 3 refine vo ?_
  refine vsp (fun g1 => ?_) (fun g1 => ?_)
  · iterate 2 refine vof ?_
    iterate 2 refine vo ?_
    iterate 5 refine vof ?_
    refine vo ?_
    refine vnt ?_
    refine vc_then ?_
    refine vc_sr ?_
    iterate 2 refine vo ?_
    refine vnt ?_
    refine vc_ret ?_
    refine thn_r ?_
    refine fin_i [] rfl (fz ?_) trivial
    have hh := fs_eth g1
    rw [hh.1, hh.2]
    trivial
  · rw [ethPF_y g1, fe_n g1]
    obtain ⟨hb, hsz⟩ := eb_body g1
    have zz := fe_z g1
    have zb : (ethX t).body.size ≤ 1099511627776 := Nat.le_trans (ethX_body t) hs_t
    have ha := sumsA_bd t
    have hbb := sumsB_bd t
    have hnb : -1 ≤ fsN t ∧ fsN t ≤ 65535 := get16_bd t _
    have hpl := sumPl_bd (sumsK t)
    have hBd : sumsB t = sumsA t + 20 + sumPl (sumsK t) := rfl
    iterate 2 refine von ?_
    iterate 2 refine vo ?_
    refine vsp (fun g2 => ?_) (fun g2 => ?_)
    · iterate 5 refine vof ?_
      refine vo ?_
      refine vnt ?_
      refine vc_then ?_
      refine vc_sr ?_
      iterate 2 refine vo ?_
      refine vnt ?_
      refine vc_ret ?_
      refine thn_r ?_
      refine fin_i [] rfl (fz ?_) trivial
      have hh := fs_bad (t := t) (.inl (fsOk_n (.inr (.inl (by omega)))))
      rw [hh.1, hh.2]
      trivial
    · iterate 5 refine von ?_
      refine vo ?_
      refine vnt ?_
      refine vc_if (fun g3 => ?_) (fun g3 => ?_)
      · refine vc_sr ?_
        iterate 2 refine vo ?_
        refine vnt ?_
        refine vc_ret ?_
        refine thn_r ?_
        refine fin_i [] rfl (fz ?_) trivial
        have hh := fs_bad (t := t) (.inl (fsOk_n (.inr (.inr (by omega)))))
        rw [hh.1, hh.2]
        trivial
      · have hgl := fs_gl hsz (by omega) (by omega)
        have hps := fs_ps hsz (by omega)
        have zps := psF_le (get32 t (sumsA t + 12)) (get32 t (sumsA t + 16)) (sumsK t) (fsN t - 20)
        have hcb := sumF_bd (psF (get32 t (sumsA t + 12)) (get32 t (sumsA t + 16)) (sumsK t) (fsN t - 20) ++ t.extract (sumsA t + 20).toNat (sumsA t + fsN t).toNat)
        have zex : (t.extract (sumsA t + 20).toNat (sumsA t + fsN t).toNat).size ≤ t.size := by rw [ByteArray.size_extract]; omega
        have hss := fsS_sz t
        have hrz := rdF_bz (fsS t)
        refine vc_skip ?_
        refine thn ?_
        refine vc_sr ?_
        refine vo ?_
        refine voc c_impl_sumPlaces rfl rfl ?_
        iterate 5 refine vo ?_
        refine vnt ?_
        refine vc_sr ?_
        iterate 4 refine vo ?_
        try first | refine vdrl (j := 20) rfl ?_ | refine vhc (j := 20) rfl ?_
        refine vstr (fe_g g1 (by omega) (by omega)) ?_
        refine vo ?_
        refine vnt ?_
        refine vc_sr ?_
        iterate 4 refine vo ?_
        try refine veq (i64_byt _ _) ?_
        refine veq (fe_k g1) ?_
        refine vo ?_
        refine vnt ?_
        refine vc_sr ?_
        iterate 2 refine vo ?_
        refine voc (c_impl_Get32 (hs := by first | omega | (simp only [ByteArray.size_append, ByteArray.size_extract]; omega))) rfl rfl ?_
        refine veq (fe_32 g1 (by omega)) ?_
        iterate 2 refine vo ?_
        refine voc (c_impl_Get32 (hs := by first | omega | (simp only [ByteArray.size_append, ByteArray.size_extract]; omega))) rfl rfl ?_
        refine veq (fe_32 g1 (by omega)) ?_
        iterate 3 refine vo ?_
        refine veq hgl ?_
        refine voc c_impl_PseudoHeader rfl rfl ?_
        rw [psR_ok hps, hps]
        iterate 5 refine vo ?_
        refine vnt ?_
        refine vc_seq' ?_
        refine vc_sr ?_
        iterate 3 refine vo ?_
        refine vsp (fun g4 => ?_) (fun g4 => ?_)
        · first | cases g4 | (simp at g4)
        · refine von ?_
          refine vocn c_impl_sumPlace rfl rfl ?_
          refine von ?_
          try refine vwr ?_
          iterate 2 refine von ?_
          refine veq hgl ?_
          refine von ?_
          refine vo ?_
          refine vnt ?_
          refine vc_if (fun g5 => ?_) (fun g5 => ?_)
          · refine vc_sr ?_
            iterate 2 refine vo ?_
            refine vnt ?_
            refine vc_ret ?_
            refine thn_r ?_
            refine fin_i [] rfl (fz ?_) trivial
            have hh := fs_bad (t := t) (.inl (fsOk_n (.inr (.inl (by omega)))))
            rw [hh.1, hh.2]
            trivial
          · refine vc_skip ?_
            refine thn ?_
            refine vc_sr ?_
            iterate 3 refine vo ?_
            refine voc (c_impl_Checksum (hs_s := by first | omega | (simp only [ByteArray.size_append, ByteArray.size_extract]; omega))) rfl rfl ?_
            refine veq (show checkF _ = fsC t from rfl) ?_
            refine vo ?_
            refine vnt ?_
            refine vc_seq' ?_
            refine vc_sr ?_
            iterate 3 refine vo ?_
            refine vsp (fun g6 => ?_) (fun g6 => ?_)
            · iterate 2 refine von ?_
              refine vo ?_
              refine vnt ?_
              refine vc_if (fun g7 => ?_) (fun g7 => ?_)
              · have hy : fsY t = 65535 := if_pos ⟨g6, g7⟩
                refine vc_region ?_
                refine vo ?_
                refine vnt ?_
                refine vc_sr ?_
                iterate 5 refine vo ?_
                try first | refine vdr ?_ | refine vtk ?_
                refine vstr (fe_h g1) ?_
                refine voc (c_impl_Checksum (hs_s := by first | omega | (simp only [ByteArray.size_append, ByteArray.size_extract]; omega))) rfl rfl ?_
                refine voc c_impl_Word16 rfl rfl ?_
                refine vzs (word16_le _) fun z1 => ?_
                refine voc (c_impl_PutBytes (hs_s := by first | omega | (simp only [ByteArray.size_append, ByteArray.size_extract]; omega)) (hs_p := by first | omega | (simp only [ByteArray.size_append, ByteArray.size_extract]; omega))) rfl rfl ?_
                refine vzs (Nat.le_of_eq (putBF_le _ _ _)) fun z2 => ?_
                iterate 2 refine vo ?_
                refine veq hy.symm ?_
                refine voc c_impl_Word16 rfl rfl ?_
                refine vzs (word16_le _) fun z3 => ?_
                refine voc (c_impl_PutBytes (hs_s := by first | omega | (simp only [ByteArray.size_append, ByteArray.size_extract]; omega)) (hs_p := by first | omega | (simp only [ByteArray.size_append, ByteArray.size_extract]; omega))) rfl rfl ?_
                refine vzs (Nat.le_of_eq (putBF_le _ _ _)) fun z4 => ?_
                refine vstr (show _ = fsS t from rfl) ?_
                refine vo ?_
                refine vnt ?_
                refine vc_sr ?_
                refine vo ?_
                refine voc (c_impl_ReadImage (hs_s := by first | omega | (simp only [ByteArray.size_append, ByteArray.size_extract]; omega))) rfl rfl ?_
                iterate 6 refine vo ?_
                refine vnt ?_
                refine vc_sr ?_
                refine vo ?_
                refine voc (c_impl_Template (hz_p := hrz)) rfl rfl ?_
                iterate 5 refine vo ?_
                refine vnt ?_
                refine vc_seq' ?_
                refine vc_sr ?_
                iterate 3 refine vo ?_
                refine vsp (fun g8 => ?_) (fun g8 => ?_)
                · iterate 2 refine vof ?_
                  iterate 2 refine vo ?_
                  iterate 3 refine vof ?_
                  refine vo ?_
                  refine vnt ?_
                  refine vc_then ?_
                  refine vc_sr ?_
                  iterate 2 refine vo ?_
                  refine vnt ?_
                  refine vc_ret ?_
                  refine thn_r ?_
                  refine fin_i [] rfl (fz ?_) trivial
                  have hh := fs_bad (t := t) (.inr (.inl g8))
                  rw [hh.1, hh.2]
                  trivial
                · iterate 2 refine von ?_
                  iterate 2 refine vo ?_
                  refine vsp (fun g9 => ?_) (fun g9 => ?_)
                  · iterate 3 refine vof ?_
                    refine vo ?_
                    refine vnt ?_
                    refine vc_then ?_
                    refine vc_sr ?_
                    iterate 2 refine vo ?_
                    refine vnt ?_
                    refine vc_ret ?_
                    refine thn_r ?_
                    exfalso
                    have h0 := rdC_sup g8
                    rw [h0] at g9
                    cases g9
                  · iterate 3 refine von ?_
                    refine vo ?_
                    refine vnt ?_
                    refine vc_if (fun g10 => ?_) (fun g10 => ?_)
                    · refine vc_sr ?_
                      iterate 2 refine vo ?_
                      refine vnt ?_
                      refine vc_ret ?_
                      refine thn_r ?_
                      refine fin_i [] rfl (fz ?_) trivial
                      have hh := fs_bad (t := t) (.inr (.inr g10))
                      rw [hh.1, hh.2]
                      trivial
                    · refine vc_skip ?_
                      refine thn ?_
                      refine vc_sr ?_
                      refine vo ?_
                      refine voc c_impl_BuildImage rfl rfl ?_
                      iterate 4 refine vo ?_
                      refine vnt ?_
                      refine vc_ret ?_
                      refine fin_i [] rfl (fz ?_) trivial
                      have hh := fs_yes (fsOk_y hsz (by omega) (by omega)) g8 g10
                      rw [hh.1, hh.2]
                      exact ⟨rfl, (im_sz (rdC_sup g8)).2.1.symm⟩
              · have hy : fsY t = fsC t := if_neg fun h => g7 h.2
                refine vc_skip ?_
                refine thn ?_
                refine vc_sr ?_
                iterate 5 refine vo ?_
                try first | refine vdr ?_ | refine vtk ?_
                refine vstr (fe_h g1) ?_
                refine voc (c_impl_Checksum (hs_s := by first | omega | (simp only [ByteArray.size_append, ByteArray.size_extract]; omega))) rfl rfl ?_
                refine voc c_impl_Word16 rfl rfl ?_
                refine vzs (word16_le _) fun z5 => ?_
                refine voc (c_impl_PutBytes (hs_s := by first | omega | (simp only [ByteArray.size_append, ByteArray.size_extract]; omega)) (hs_p := by first | omega | (simp only [ByteArray.size_append, ByteArray.size_extract]; omega))) rfl rfl ?_
                refine vzs (Nat.le_of_eq (putBF_le _ _ _)) fun z6 => ?_
                iterate 2 refine vo ?_
                refine veq hy.symm ?_
                refine voc c_impl_Word16 rfl rfl ?_
                refine vzs (word16_le _) fun z7 => ?_
                refine voc (c_impl_PutBytes (hs_s := by first | omega | (simp only [ByteArray.size_append, ByteArray.size_extract]; omega)) (hs_p := by first | omega | (simp only [ByteArray.size_append, ByteArray.size_extract]; omega))) rfl rfl ?_
                refine vzs (Nat.le_of_eq (putBF_le _ _ _)) fun z8 => ?_
                refine vstr (show _ = fsS t from rfl) ?_
                refine vo ?_
                refine vnt ?_
                refine vc_sr ?_
                refine vo ?_
                refine voc (c_impl_ReadImage (hs_s := by first | omega | (simp only [ByteArray.size_append, ByteArray.size_extract]; omega))) rfl rfl ?_
                iterate 6 refine vo ?_
                refine vnt ?_
                refine vc_sr ?_
                refine vo ?_
                refine voc (c_impl_Template (hz_p := hrz)) rfl rfl ?_
                iterate 5 refine vo ?_
                refine vnt ?_
                refine vc_seq' ?_
                refine vc_sr ?_
                iterate 3 refine vo ?_
                refine vsp (fun g11 => ?_) (fun g11 => ?_)
                · iterate 2 refine vof ?_
                  iterate 2 refine vo ?_
                  iterate 3 refine vof ?_
                  refine vo ?_
                  refine vnt ?_
                  refine vc_then ?_
                  refine vc_sr ?_
                  iterate 2 refine vo ?_
                  refine vnt ?_
                  refine vc_ret ?_
                  refine thn_r ?_
                  refine fin_i [] rfl (fz ?_) trivial
                  have hh := fs_bad (t := t) (.inr (.inl g11))
                  rw [hh.1, hh.2]
                  trivial
                · iterate 2 refine von ?_
                  iterate 2 refine vo ?_
                  refine vsp (fun g12 => ?_) (fun g12 => ?_)
                  · iterate 3 refine vof ?_
                    refine vo ?_
                    refine vnt ?_
                    refine vc_then ?_
                    refine vc_sr ?_
                    iterate 2 refine vo ?_
                    refine vnt ?_
                    refine vc_ret ?_
                    refine thn_r ?_
                    exfalso
                    have h0 := rdC_sup g11
                    rw [h0] at g12
                    cases g12
                  · iterate 3 refine von ?_
                    refine vo ?_
                    refine vnt ?_
                    refine vc_if (fun g13 => ?_) (fun g13 => ?_)
                    · refine vc_sr ?_
                      iterate 2 refine vo ?_
                      refine vnt ?_
                      refine vc_ret ?_
                      refine thn_r ?_
                      refine fin_i [] rfl (fz ?_) trivial
                      have hh := fs_bad (t := t) (.inr (.inr g13))
                      rw [hh.1, hh.2]
                      trivial
                    · refine vc_skip ?_
                      refine thn ?_
                      refine vc_sr ?_
                      refine vo ?_
                      refine voc c_impl_BuildImage rfl rfl ?_
                      iterate 4 refine vo ?_
                      refine vnt ?_
                      refine vc_ret ?_
                      refine fin_i [] rfl (fz ?_) trivial
                      have hh := fs_yes (fsOk_y hsz (by omega) (by omega)) g11 g13
                      rw [hh.1, hh.2]
                      exact ⟨rfl, (im_sz (rdC_sup g11)).2.1.symm⟩
            · have hy : fsY t = fsC t := if_neg fun h => g6 h.1
              iterate 2 refine vof ?_
              refine vo ?_
              refine vnt ?_
              refine vc_else ?_
              refine vc_skip ?_
              refine thn ?_
              refine vc_sr ?_
              iterate 5 refine vo ?_
              try first | refine vdr ?_ | refine vtk ?_
              refine vstr (fe_h g1) ?_
              refine voc (c_impl_Checksum (hs_s := by first | omega | (simp only [ByteArray.size_append, ByteArray.size_extract]; omega))) rfl rfl ?_
              refine voc c_impl_Word16 rfl rfl ?_
              refine vzs (word16_le _) fun z9 => ?_
              refine voc (c_impl_PutBytes (hs_s := by first | omega | (simp only [ByteArray.size_append, ByteArray.size_extract]; omega)) (hs_p := by first | omega | (simp only [ByteArray.size_append, ByteArray.size_extract]; omega))) rfl rfl ?_
              refine vzs (Nat.le_of_eq (putBF_le _ _ _)) fun z10 => ?_
              iterate 2 refine vo ?_
              refine veq hy.symm ?_
              refine voc c_impl_Word16 rfl rfl ?_
              refine vzs (word16_le _) fun z11 => ?_
              refine voc (c_impl_PutBytes (hs_s := by first | omega | (simp only [ByteArray.size_append, ByteArray.size_extract]; omega)) (hs_p := by first | omega | (simp only [ByteArray.size_append, ByteArray.size_extract]; omega))) rfl rfl ?_
              refine vzs (Nat.le_of_eq (putBF_le _ _ _)) fun z12 => ?_
              refine vstr (show _ = fsS t from rfl) ?_
              refine vo ?_
              refine vnt ?_
              refine vc_sr ?_
              refine vo ?_
              refine voc (c_impl_ReadImage (hs_s := by first | omega | (simp only [ByteArray.size_append, ByteArray.size_extract]; omega))) rfl rfl ?_
              iterate 6 refine vo ?_
              refine vnt ?_
              refine vc_sr ?_
              refine vo ?_
              refine voc (c_impl_Template (hz_p := hrz)) rfl rfl ?_
              iterate 5 refine vo ?_
              refine vnt ?_
              refine vc_seq' ?_
              refine vc_sr ?_
              iterate 3 refine vo ?_
              refine vsp (fun g14 => ?_) (fun g14 => ?_)
              · iterate 2 refine vof ?_
                iterate 2 refine vo ?_
                iterate 3 refine vof ?_
                refine vo ?_
                refine vnt ?_
                refine vc_then ?_
                refine vc_sr ?_
                iterate 2 refine vo ?_
                refine vnt ?_
                refine vc_ret ?_
                refine thn_r ?_
                refine fin_i [] rfl (fz ?_) trivial
                have hh := fs_bad (t := t) (.inr (.inl g14))
                rw [hh.1, hh.2]
                trivial
              · iterate 2 refine von ?_
                iterate 2 refine vo ?_
                refine vsp (fun g15 => ?_) (fun g15 => ?_)
                · iterate 3 refine vof ?_
                  refine vo ?_
                  refine vnt ?_
                  refine vc_then ?_
                  refine vc_sr ?_
                  iterate 2 refine vo ?_
                  refine vnt ?_
                  refine vc_ret ?_
                  refine thn_r ?_
                  exfalso
                  have h0 := rdC_sup g14
                  rw [h0] at g15
                  cases g15
                · iterate 3 refine von ?_
                  refine vo ?_
                  refine vnt ?_
                  refine vc_if (fun g16 => ?_) (fun g16 => ?_)
                  · refine vc_sr ?_
                    iterate 2 refine vo ?_
                    refine vnt ?_
                    refine vc_ret ?_
                    refine thn_r ?_
                    refine fin_i [] rfl (fz ?_) trivial
                    have hh := fs_bad (t := t) (.inr (.inr g16))
                    rw [hh.1, hh.2]
                    trivial
                  · refine vc_skip ?_
                    refine thn ?_
                    refine vc_sr ?_
                    refine vo ?_
                    refine voc c_impl_BuildImage rfl rfl ?_
                    iterate 4 refine vo ?_
                    refine vnt ?_
                    refine vc_ret ?_
                    refine fin_i [] rfl (fz ?_) trivial
                    have hh := fs_yes (fsOk_y hsz (by omega) (by omega)) g14 g16
                    rw [hh.1, hh.2]
                    exact ⟨rfl, (im_sz (rdC_sup g14)).2.1.symm⟩
end Go.Proofs.YtbdcaacpemkloaaGreat
end
section
namespace Go.Proofs.YtbdcaacpemkloaaGreat
open Go Go.RowKit Go.Vc
set_option linter.unusedVariables false
set_option linter.unusedSimpArgs false
set_option linter.unnecessarySimpa false
set_option maxHeartbeats 4000000 in
theorem c_impl_DescribePacket_n {l : List Pc} {size ck : Int} (hl_l : l.length ≤ 1099511627776 := by first | assumption | omega) (hn : descrB l size ck = false) : Con0 Tryz.prog 81 [.one (.sl 2 (l.map pcE)), I size, I ck] (.one .nil) [] := by
  refine con_i Tryz.func81 Tryz.ntmps81 (t := [(0, .one (.sl 2 (l.map pcE))), (1, I size), (2, I ck)]) rfl ?_
  refine vc_sr ?_
  refine vo ?_
  refine vnt ?_
  refine vc_seq' ?_
  refine vc_sr ?_
  iterate 2 refine vo ?_
  try first | refine vlb ?_ | refine vln ?_
  iterate 2 refine vo ?_
  refine vsp (fun g1 => ?_) (fun g1 => ?_)
  · iterate 3 refine vof ?_
    iterate 2 refine vo ?_
    iterate 3 refine vof ?_
    refine vo ?_
    refine vnt ?_
    refine vc_then ?_
    refine vc_sr ?_
    refine vo ?_
    refine vnt ?_
    refine vc_ret ?_
    refine thn_r ?_
    refine fin_i [] rfl (fz ?_) (fz ?_) <;> first | trivial | rfl
  · refine von ?_
    refine vocn c_impl_PiecesOk rfl rfl ?_
    refine von ?_
    iterate 2 refine vo ?_
    refine vsp (fun g2 => ?_) (fun g2 => ?_)
    · iterate 3 refine vof ?_
      refine vo ?_
      refine vnt ?_
      refine vc_then ?_
      refine vc_sr ?_
      refine vo ?_
      refine vnt ?_
      refine vc_ret ?_
      refine thn_r ?_
      refine fin_i [] rfl (fz ?_) (fz ?_) <;> first | trivial | rfl
    · refine von ?_
      refine vocn c_impl_between rfl rfl ?_
      refine von ?_
      refine vo ?_
      refine vnt ?_
      refine vc_if (fun g3 => ?_) (fun g3 => ?_)
      · refine vc_sr ?_
        refine vo ?_
        refine vnt ?_
        refine vc_ret ?_
        refine thn_r ?_
        refine fin_i [] rfl (fz ?_) (fz ?_) <;> first | trivial | rfl
      · have hpl := pcs_len g2
        have hne : ¬ l = [] := fun h => by subst h; simp at g1
        have hz2 := inB_iff.1 g3
        refine vc_skip ?_
        refine thn ?_
        refine vc_sr ?_
        iterate 5 refine vo ?_
        refine vnt ?_
        refine vc_seq' ?_
        refine vc_sr ?_
        iterate 2 refine vo ?_
        try first | refine vlb ?_ | refine vln ?_
        refine vo ?_
        refine vnt ?_
        refine vc_block ?_
        refine vc_lp (σ := Nat) [0, 2, 30, 31] [] (fun i => [(7, .one (.hs 7)), (32, I (i : Nat))]) (fun i => [(7, .arr 136 6 ((dsF l size ck (i + 1)).map dscE))]) (fun i => i ≤ l.length) (fun i => l.length - i) 0 rfl rfl (sub_i [(7, some 232)] (fz ?_) (fz ?_)) ?_ fun i hI => ?_
        · first | trivial | rfl
        · first | trivial | rfl | simp [dsF, dAt, dscE]
        · exact Nat.zero_le _
        refine vc_nf rfl rfl ?_
        have hdl := dsF_len l size ck (i + 1)
        refine vc_sr ?_
        refine vo ?_
        refine vnt ?_
        refine vc_seq' ?_
        refine vc_if (fun g4 => ?_) (fun g4 => ?_)
        · refine vc_skip ?_
          refine thn ?_
          refine vc_seq' ?_
          refine vc_block ?_
          refine vc_sr ?_
          iterate 2 refine vo ?_
          try with_reducible (first | refine vep ?_ | refine vpt ?_)
          iterate 4 refine vo ?_
          refine vnt ?_
          refine vc_sr ?_
          iterate 8 refine vo ?_
          refine vnt ?_
          refine vc_seq' ?_
          refine vc_sr ?_
          iterate 3 refine vo ?_
          try first | refine vlb ?_ | refine vln ?_
          refine vo ?_
          try refine vwr ?_
          refine vo ?_
          refine vnt ?_
          refine vc_if (fun g5 => ?_) (fun g5 => ?_)
          · have hfl : (if i + 1 = l.length then (1 : Int) else 0) = 1 := if_pos (by omega)
            refine vc_region ?_
            iterate 2 refine vo ?_
            refine vnt ?_
            refine vc_region ?_
            iterate 5 refine vo ?_
            refine vnil ?_
            refine inB_n ?_
            refine thn ?_
            refine vc_region ?_
            refine vo ?_
            try refine vwr ?_
            refine vo ?_
            refine vnt ?_
            refine ⟨i + 1, ?_, ?_, sub_i [(7, some 416)] (fz ?_) (fz ?_)⟩
            · first | omega | exact ⟨by omega, by assumption⟩
            · omega
            · first | trivial | rfl | exact ⟨rfl, rfl⟩
            · rw [← dsF_stp]; simp [dscE, dAt, hfl]
          · have hfl : (if i + 1 = l.length then (1 : Int) else 0) = 0 := if_neg (by omega)
            refine vc_skip ?_
            refine thn ?_
            refine vc_region ?_
            iterate 5 refine vo ?_
            refine vnil ?_
            refine inB_n ?_
            refine thn ?_
            refine vc_region ?_
            refine vo ?_
            try refine vwr ?_
            refine vo ?_
            refine vnt ?_
            refine ⟨i + 1, ?_, ?_, sub_i [(7, some 416)] (fz ?_) (fz ?_)⟩
            · first | omega | exact ⟨by omega, by assumption⟩
            · omega
            · first | trivial | rfl | exact ⟨rfl, rfl⟩
            · rw [← dsF_stp]; simp [dscE, dAt, hfl]
        · have hil : i = l.length := by omega
          subst hil
          refine vc_exit ?_
          refine thn_x ?_
          refine thn_x ?_
          refine inB_x ?_
          refine thn ?_
          refine vc_seq' ?_
          refine vc_sr ?_
          iterate 2 refine vo ?_
          try first | refine vlb ?_ | refine vln ?_
          refine vo ?_
          refine vnt ?_
          refine vc_block ?_
          refine vc_lp (σ := Nat) [7, 54, 55] [7] (fun j => [(56, I (j : Nat))]) (fun j => []) (fun j => j ≤ l.length + 1 ∧ ∀ q, q < j → dOk (dAt l size ck q) = true) (fun j => l.length + 1 - j) 0 rfl rfl (sub_i [] (fz ?_) (fz ?_)) ?_ fun j hJ => ?_
          · first | trivial | rfl
          · first | trivial | rfl
          · exact ⟨Nat.zero_le _, fun q h => by omega⟩
          refine vc_nf rfl rfl ?_
          have hda : j < l.length + 1 → at' (dsF l size ck (l.length + 1)) j = dAt l size ck j := fun h => dsF_at h
          have hdl := dsF_len l size ck (l.length + 1)
          refine vc_sr ?_
          refine vo ?_
          refine vnt ?_
          refine vc_seq' ?_
          refine vc_if (fun g6 => ?_) (fun g6 => ?_)
          · refine vc_skip ?_
            refine thn ?_
            refine vc_seq' ?_
            refine vc_block ?_
            refine vc_sr ?_
            refine vo ?_
            try with_reducible (first | refine vep ?_ | refine vpt ?_)
            iterate 3 refine vo ?_
            refine vnt ?_
            refine vc_sr ?_
            refine vo ?_
            refine voc c_impl_DescOk rfl rfl ?_
            refine vo ?_
            refine vnt ?_
            refine vc_if (fun g7 => ?_) (fun g7 => ?_)
            · refine vc_sr ?_
              refine vo ?_
              refine vnt ?_
              refine vc_ret ?_
              refine inB_r ?_
              refine thn_r ?_
              refine thn_r ?_
              refine inB_r ?_
              refine thn_r ?_
              refine fin_i [] rfl (fz ?_) (fz ?_) <;> first | trivial | rfl
            · refine vc_skip ?_
              refine inB_n ?_
              refine thn ?_
              refine vc_region ?_
              refine vo ?_
              try refine vwr ?_
              refine vo ?_
              refine vnt ?_
              refine ⟨j + 1, ?_, ?_, sub_i [] (fz ?_) (fz ?_)⟩
              · exact ⟨by omega, upto_stp hJ.2 (by rw [← hda (by omega)]; assumption)⟩
              · omega
              · first | trivial | rfl | exact ⟨rfl, rfl⟩
              · first | trivial | rfl
          · refine vc_exit ?_
            refine thn_x ?_
            refine thn_x ?_
            refine inB_x ?_
            refine thn ?_
            refine vc_sr ?_
            iterate 2 refine vo ?_
            refine vnt ?_
            refine vc_ret ?_
            have hb : descrB l size ck = true := by unfold descrB; rw [decide_eq_false hne, g2, g3, ds_all fun q hq => hJ.2 q (by omega)]; rfl
            rw [hn] at hb; cases hb
set_option maxHeartbeats 4000000 in
theorem c_impl_DescribePacket_0 {size ck : Int} : Con0 Tryz.prog 81 [.one .nil, I size, I ck] (.one .nil) [] := by
  refine con_i Tryz.func81 Tryz.ntmps81 (t := [(0, .one .nil), (1, I size), (2, I ck)]) rfl ?_
  refine vc_sr ?_
  refine vo ?_
  refine vnt ?_
  refine vc_seq' ?_
  refine vc_sr ?_
  iterate 2 refine vo ?_
  try first | refine vlb ?_ | refine vln ?_
  iterate 2 refine vo ?_
  refine vsp (fun g1 => ?_) (fun g1 => ?_)
  · iterate 3 refine vof ?_
    iterate 2 refine vo ?_
    iterate 3 refine vof ?_
    refine vo ?_
    refine vnt ?_
    refine vc_then ?_
    refine vc_sr ?_
    refine vo ?_
    refine vnt ?_
    refine vc_ret ?_
    refine thn_r ?_
    refine fin_i [] rfl (fz ?_) (fz ?_) <;> first | trivial | rfl
  · exact absurd trivial g1
set_option maxHeartbeats 4000000 in
theorem c_impl_SendPacket {l : List Mp} {ps : Pg} {d b s h t pb pz pc nx size cut : Int} {fr : List Int} {ws : List Sn} {p : Pk} {r : TxR} (hr : sdF l ps d b s h t pb pz pc fr ws nx p size cut = r) (hl : l.length ≤ 1099511627776 := by first | with_reducible assumption | omega) (hp : ps.length ≤ 1099511627776 := by first | with_reducible assumption | omega) (hl_fr : fr.length ≤ 100000000 := by first | with_reducible assumption | omega) (hl_ws : ws.length ≤ 100000000 := by first | with_reducible assumption | omega) (hz_ws : (bufsF ws).length ≤ 100000000 := by first | with_reducible assumption | omega) (hz_p : p.body.size ≤ 1099511627776 := by first | assumption | omega) : Con0 Tryz.prog 11 [.one (.sl 4 (l.map mpE)), .agg [.sl 1 (ps.map strE)], I d, .agg [V b, V s, V h, V t, V pb, V pz, V pc, .sl 1 (fr.map intE), .rd (snQ (ws.map snE)), V nx], .agg [V (p).dm, V (p).sm, V (p).vl, V (p).tos, V (p).id, V (p).ttl, V (p).si, V (p).di, V (p).kind, V (p).sp, V (p).dp, V (p).seq, V (p).ack, V (p).fl, V (p).win, VS (p).body], I size, I cut] (.tup [.agg [.hs 0], .agg [V b, V s, V h, V r.2.1, V pb, V pz, V pc, .hs 1, .hs 2, V r.2.2.2.2.1], B r.2.2.2.2.2]) [(0, .arr 9 1 (r.1.map strE)), (1, .arr 3 1 (r.2.2.1.map intE)), (2, .own (sntOw 140 3 (r.2.2.2.1.map snE)))] := by
  refine con_i Tryz.func11 Tryz.ntmps11 (t := [(0, .one (.sl 4 (l.map mpE))), (1, .agg [.sl 1 (ps.map strE)]), (2, I d), (3, .agg [V b, V s, V h, V t, V pb, V pz, V pc, .sl 1 (fr.map intE), .rd (snQ (ws.map snE)), V nx]), (4, .agg [V (p).dm, V (p).sm, V (p).vl, V (p).tos, V (p).id, V (p).ttl, V (p).si, V (p).di, V (p).kind, V (p).sp, V (p).dp, V (p).seq, V (p).ack, V (p).fl, V (p).win, VS (p).body]), (5, I size), (6, I cut)]) rfl ?_
  refine vc_sr ?_
  iterate 6 refine vo ?_
  refine vnt ?_
  refine vc_sr ?_
  refine vo ?_
  refine voc c_impl_copyMemory rfl rfl ?_
  refine vo ?_
  refine voc c_impl_copyTx rfl rfl ?_
  iterate 4 refine vo ?_
  refine vnt ?_
  refine vc_seq' ?_
  refine vc_sr ?_
  refine vo ?_
  refine voc c_impl_TxOk rfl rfl ?_
  iterate 2 refine vo ?_
  refine vsp (fun g1 => ?_) (fun g1 => ?_)
  · iterate 3 refine vof ?_
    iterate 2 refine vo ?_
    iterate 6 refine vof ?_
    iterate 2 refine vo ?_
    iterate 3 refine vof ?_
    refine vo ?_
    refine vnt ?_
    refine vc_then ?_
    refine vc_sr ?_
    iterate 5 refine vo ?_
    refine vnt ?_
    refine vc_ret ?_
    refine thn_r ?_
    have hb : sdB l ps d b s h t pb pz pc fr ws nx p size cut = false := by unfold sdB; rw [g1]; rfl
    rw [sd_no hb] at hr
    subst hr
    refine fin_i [(0, some 272), (1, some 288), (2, some 289)] rfl (fz ?_) (fz ?_) <;> first | trivial | rfl | exact ⟨rfl, rfl⟩ | exact ⟨rfl, rfl, rfl⟩ | trace_state
  · obtain ⟨tx1, tx2, tx3, tx4, tx5⟩ := txOk_facts g1
    obtain ⟨tx6, tx7, tx8⟩ := txS_facts tx4
    obtain ⟨hs_, rb0, rb1, rs0, rs1, rh0, rh1, rt0, rt1, ru1, ru0⟩ := ringOk_facts tx1
    obtain ⟨pb0, pb1, pz0, pz1, pc0, pc1, hkk⟩ := poolB_facts tx2
    have hnx := inB_iff.1 tx3
    refine von ?_
    refine vocn c_impl_SuperOk rfl rfl ?_
    refine von ?_
    iterate 2 refine vo ?_
    refine vsp (fun g2 => ?_) (fun g2 => ?_)
    · have g2 : p.sup = false := g2
      iterate 6 refine vof ?_
      iterate 2 refine vo ?_
      iterate 3 refine vof ?_
      refine vo ?_
      refine vnt ?_
      refine vc_then ?_
      refine vc_sr ?_
      iterate 5 refine vo ?_
      refine vnt ?_
      refine vc_ret ?_
      refine thn_r ?_
      have hb : sdB l ps d b s h t pb pz pc fr ws nx p size cut = false := by unfold sdB; rw [g2]; simp
      rw [sd_no hb] at hr
      subst hr
      refine fin_i [(0, some 272), (1, some 288), (2, some 289)] rfl (fz ?_) (fz ?_) <;> first | trivial | rfl | exact ⟨rfl, rfl⟩ | exact ⟨rfl, rfl, rfl⟩ | trace_state
    · have g2 : p.sup = true := g2
      obtain ⟨tz0, tz1⟩ := tm_sz g2
      iterate 4 refine von ?_
      refine vocn c_impl_between rfl rfl ?_
      refine von ?_
      iterate 2 refine vo ?_
      refine vsp (fun g3 => ?_) (fun g3 => ?_)
      · iterate 3 refine vof ?_
        refine vo ?_
        refine vnt ?_
        refine vc_then ?_
        refine vc_sr ?_
        iterate 5 refine vo ?_
        refine vnt ?_
        refine vc_ret ?_
        refine thn_r ?_
        have hb : sdB l ps d b s h t pb pz pc fr ws nx p size cut = false := by unfold sdB; rw [g3]; simp
        rw [sd_no hb] at hr
        subst hr
        refine fin_i [(0, some 272), (1, some 288), (2, some 289)] rfl (fz ?_) (fz ?_) <;> first | trivial | rfl | exact ⟨rfl, rfl⟩ | exact ⟨rfl, rfl, rfl⟩ | trace_state
      · refine von ?_
        refine vocn c_impl_between rfl rfl ?_
        refine von ?_
        refine vo ?_
        refine vnt ?_
        refine vc_if (fun g4 => ?_) (fun g4 => ?_)
        · refine vc_sr ?_
          iterate 5 refine vo ?_
          refine vnt ?_
          refine vc_ret ?_
          refine thn_r ?_
          have hb : sdB l ps d b s h t pb pz pc fr ws nx p size cut = false := by unfold sdB; rw [g4]; simp
          rw [sd_no hb] at hr
          subst hr
          refine fin_i [(0, some 272), (1, some 288), (2, some 289)] rfl (fz ?_) (fz ?_) <;> first | trivial | rfl | exact ⟨rfl, rfl⟩ | exact ⟨rfl, rfl, rfl⟩ | trace_state
        · have hc3 := inB_iff.1 g3
          obtain ⟨nb0, nb1, nb2, nb3⟩ := sdN_bd (T := p.tm) (cut := cut) (by omega) (by omega)
          refine vc_skip ?_
          refine thn ?_
          refine vc_sr ?_
          refine vo ?_
          refine voc c_impl_Template rfl rfl ?_
          iterate 5 refine vo ?_
          refine vnt ?_
          refine vc_sr ?_
          iterate 4 refine vo ?_
          try refine vwr ?_
          refine vo ?_
          try refine vwr ?_
          iterate 2 refine vo ?_
          try refine veq (IntWalk.i64_quo _ _ (by omega)) ?_
          refine veq (show _ = sdN p.tm cut from rfl) ?_
          refine vo ?_
          refine vnt ?_
          refine vc_seq' ?_
          refine vc_sr ?_
          iterate 3 refine vo ?_
          refine vsp (fun g5 => ?_) (fun g5 => ?_)
          · iterate 6 refine vof ?_
            iterate 2 refine vo ?_
            iterate 9 refine vof ?_
            refine vo ?_
            refine vnt ?_
            refine vc_then ?_
            refine vc_sr ?_
            iterate 5 refine vo ?_
            refine vnt ?_
            refine vc_ret ?_
            refine thn_r ?_
            have hb : sdB l ps d b s h t pb pz pc fr ws nx p size cut = false := by unfold sdB; rw [decide_eq_false (show ¬ sdN p.tm cut ≤ 16 by omega)]; simp
            rw [sd_no hb] at hr
            subst hr
            refine fin_i [(0, some 272), (1, some 288), (2, some 289)] rfl (fz ?_) (fz ?_) <;> first | trivial | rfl | exact ⟨rfl, rfl⟩ | exact ⟨rfl, rfl, rfl⟩ | trace_state
          · iterate 2 refine von ?_
            try refine vwr ?_
            iterate 2 refine von ?_
            refine vocn c_impl_RingFree rfl rfl ?_
            refine von ?_
            iterate 2 refine vo ?_
            refine vsp (fun g6 => ?_) (fun g6 => ?_)
            · iterate 9 refine vof ?_
              refine vo ?_
              refine vnt ?_
              refine vc_then ?_
              refine vc_sr ?_
              iterate 5 refine vo ?_
              refine vnt ?_
              refine vc_ret ?_
              refine thn_r ?_
              have hb : sdB l ps d b s h t pb pz pc fr ws nx p size cut = false := by unfold sdB; rw [decide_eq_false (show ¬ sdN p.tm cut + 1 ≤ freeF b s h t by omega)]; simp
              rw [sd_no hb] at hr
              subst hr
              refine fin_i [(0, some 272), (1, some 288), (2, some 289)] rfl (fz ?_) (fz ?_) <;> first | trivial | rfl | exact ⟨rfl, rfl⟩ | exact ⟨rfl, rfl, rfl⟩ | trace_state
            · refine von ?_
              refine vocn (c_impl_slotsWaiting (h1 := tx6) (h2 := by omega)) rfl rfl ?_
              iterate 2 refine von ?_
              try refine vwr ?_
              refine von ?_
              try refine vwr ?_
              iterate 4 refine von ?_
              refine vo ?_
              refine vnt ?_
              refine vc_if (fun g7 => ?_) (fun g7 => ?_)
              · refine vc_sr ?_
                iterate 5 refine vo ?_
                refine vnt ?_
                refine vc_ret ?_
                refine thn_r ?_
                have hb : sdB l ps d b s h t pb pz pc fr ws nx p size cut = false := by unfold sdB; rw [decide_eq_false (show ¬ slotsF ws + sdN p.tm cut + 1 ≤ s by omega)]; simp
                rw [sd_no hb] at hr
                subst hr
                refine fin_i [(0, some 272), (1, some 288), (2, some 289)] rfl (fz ?_) (fz ?_) <;> first | trivial | rfl | exact ⟨rfl, rfl⟩ | exact ⟨rfl, rfl, rfl⟩ | trace_state
              · refine vc_skip ?_
                refine thn ?_
                refine vc_sr ?_
                refine vo ?_
                refine voc c_impl_copyTx rfl rfl ?_
                iterate 2 refine vo ?_
                refine vnt ?_
                refine vc_sr ?_
                iterate 3 refine vo ?_
                refine voc c_impl_TakeBuffers rfl rfl ?_
                iterate 8 refine vo ?_
                refine vnt ?_
                refine vc_seq' ?_
                refine vc_sr ?_
                iterate 2 refine vo ?_
                refine vnt ?_
                refine vc_if (fun g8 => ?_) (fun g8 => ?_)
                · refine vc_sr ?_
                  iterate 5 refine vo ?_
                  refine vnt ?_
                  refine vc_ret ?_
                  refine thn_r ?_
                  have hb : sdB l ps d b s h t pb pz pc fr ws nx p size cut = false := by unfold sdB; rw [g8]; simp
                  rw [sd_no hb] at hr
                  subst hr
                  refine fin_i [(0, some 272), (1, some 288), (2, some 289)] rfl (fz ?_) (fz ?_) <;> first | trivial | rfl | exact ⟨rfl, rfl⟩ | exact ⟨rfl, rfl, rfl⟩ | trace_state
                · have hkl : 0 < (sdKs pb pz pc fr p.tm cut).length := by have := takeL_len g8; unfold sdKs; omega
                  have hkl2 : (sdKs pb pz pc fr p.tm cut).length ≤ 16 := by have := takeL_len g8; unfold sdKs; omega
                  have hpl2 : (sdPc pb pz pc fr p.tm cut).length ≤ 16 := by rw [sdPc_len]; exact hkl2
                  have hwl : (sdW l d pb pz pc fr p.tm cut (sdKs pb pz pc fr p.tm cut) 0 ps).1.length = ps.length := sdW_ln _ _ _
                  refine vc_skip ?_
                  refine thn ?_
                  refine vc_sr ?_
                  iterate 3 refine vo ?_
                  refine vnt ?_
                  refine vc_sr ?_
                  iterate 2 refine vo ?_
                  refine voc c_impl_copyMemory rfl rfl ?_
                  iterate 6 refine vo ?_
                  rcases Bool.eq_false_or_eq_true ((sdWr l ps d pb pz pc fr p.tm cut).2) with q1 | q1
                  · refine voc (c_impl_fillBuffers_y (ks := sdKs pb pz pc fr p.tm cut) (h0 := by omega) (h1 := by omega) (hy := q1) (hne := hkl)) rfl rfl ?_
                    iterate 8 refine vo ?_
                    refine vnt ?_
                    refine vc_sr ?_
                    iterate 4 refine vo ?_
                    rcases Bool.eq_false_or_eq_true (descrB (sdPc pb pz pc fr p.tm cut) size nx) with q2 | q2
                    · refine voc (c_impl_DescribePacket (l := sdPc pb pz pc fr p.tm cut)) rfl rfl ?_
                      generalize hD : descrF (sdPc pb pz pc fr p.tm cut) size nx = D
                      have hdl : (D.length : Int) = sdN p.tm cut + 1 := by rw [← hD, descr_len q2, sdPc_len]; have := takeL_len g8; unfold sdKs; omega
                      refine vo ?_
                      refine vnt ?_
                      refine vc_seq' ?_
                      refine vc_sr ?_
                      iterate 3 refine vo ?_
                      refine von ?_
                      first | refine vqnf ?_ | refine vqnt ?_
                      refine vo ?_
                      refine vnt ?_
                      refine vc_else ?_
                      refine vc_skip ?_
                      refine thn ?_
                      refine vc_sr ?_
                      iterate 2 refine vo ?_
                      refine vnt ?_
                      refine vc_seq' ?_
                      refine vc_sr ?_
                      iterate 2 refine vo ?_
                      try first | refine vlb ?_ | refine vln ?_
                      refine vo ?_
                      refine vnt ?_
                      refine vc_block ?_
                      refine vc_lp (σ := Nat) [0, 2, 10, 14, 15, 17, 18, 22, 24, 26, 28, 139, 140] [80, 112, 120, 136, 144, 176, 208, 272, 288, 289, 768, 769, 808, 809, 968, 1032] (fun j => [(29, .one (.hs 7)), (141, I (j : Nat))]) (fun j => [(7, .arr 9 1 ((encL (D.take j)).map strE))]) (fun j => j ≤ D.length) (fun j => D.length - j) 0 rfl rfl (sub_i [(7, some 1104)] (fz ?_) (fz ?_)) ?_ fun j hJ => ?_
                      · first | trivial | rfl | exact ⟨rfl, rfl⟩ | exact ⟨rfl, rfl, rfl⟩ | trace_state
                      · first | trivial | rfl | exact ⟨rfl, rfl⟩ | exact ⟨rfl, rfl, rfl⟩ | trace_state
                      · exact Nat.zero_le _
                      refine vc_nf rfl rfl ?_
                      have hel : (encL (D.take j)).length ≤ j := by rw [encL_len, List.length_take]; omega
                      refine vc_sr ?_
                      refine vo ?_
                      refine vnt ?_
                      refine vc_seq' ?_
                      refine vc_if (fun g9 => ?_) (fun g9 => ?_)
                      · refine vc_skip ?_
                        refine thn ?_
                        refine vc_seq' ?_
                        refine vc_block ?_
                        refine vc_sr ?_
                        refine vo ?_
                        try with_reducible (first | refine vep ?_ | refine vpt ?_)
                        iterate 3 refine vo ?_
                        refine vnt ?_
                        refine vc_region ?_
                        iterate 2 refine vo ?_
                        refine voc c_impl_EncodeDesc rfl rfl ?_
                        iterate 3 refine vo ?_
                        refine vnil ?_
                        refine inB_n ?_
                        refine thn ?_
                        refine vc_region ?_
                        refine vo ?_
                        try refine vwr ?_
                        refine vo ?_
                        refine vnt ?_
                        refine ⟨j + 1, by omega, by omega, sub_i [(7, some 1192)] (fz ?_) (fz ?_)⟩
                        · first | trivial | rfl | simp
                        · first | exact (encL_stp g9).symm | trace_state
                      · have hez := encL_sz (D.take j)
                        have hel : (encL (D.take j)).length ≤ j := by rw [encL_len, List.length_take]; omega
                        refine vc_exit ?_
                        refine thn_x ?_
                        refine thn_x ?_
                        refine inB_x ?_
                        refine thn ?_
                        refine vc_sr ?_
                        iterate 6 refine vo ?_
                        refine voc c_impl_RingPutAll rfl rfl ?_
                        generalize hRR : rpaF l (sdW l d pb pz pc fr p.tm cut (sdKs pb pz pc fr p.tm cut) 0 ps).1 d b s h t (encL (D.take j)) = R
                        iterate 8 refine vo ?_
                        refine vnt ?_
                        refine vc_seq' ?_
                        refine vc_sr ?_
                        iterate 2 refine vo ?_
                        refine vnt ?_
                        refine vc_if (fun g10 => ?_) (fun g10 => ?_)
                        · refine vc_sr ?_
                          iterate 5 refine vo ?_
                          refine vnt ?_
                          refine vc_ret ?_
                          refine thn_r ?_
                          have hR : sdRg l ps d b s h t pb pz pc fr nx p.tm size cut = R := by unfold sdRg; rw [hD]; rw [encL_end g9] at hRR; exact hRR
                          have hb : sdB l ps d b s h t pb pz pc fr ws nx p size cut = false := by unfold sdB; rw [hR, g10]; simp
                          rw [sd_no hb] at hr
                          subst hr
                          refine fin_i [(0, some 272), (1, some 288), (2, some 289)] rfl (fz ?_) (fz ?_) <;> first | trivial | rfl | exact ⟨rfl, rfl⟩ | exact ⟨rfl, rfl, rfl⟩ | trace_state
                        · refine vc_skip ?_
                          refine thn ?_
                          refine vc_sr ?_
                          iterate 3 refine vo ?_
                          refine vnt ?_
                          refine vc_sr ?_
                          iterate 6 refine vo ?_
                          try first | refine vlb ?_ | refine vln ?_
                          iterate 2 refine vo ?_
                          refine vqb ?_
                          refine vqa ?_
                          iterate 2 refine vo ?_
                          refine vnt ?_
                          refine vc_sr ?_
                          iterate 3 refine vo ?_
                          try refine vwr ?_
                          refine vo ?_
                          try refine veq (Int.tmod_eq_emod_of_nonneg (by omega)) ?_
                          iterate 2 refine vo ?_
                          refine vnt ?_
                          refine vc_sr ?_
                          iterate 5 refine vo ?_
                          refine vnt ?_
                          refine vc_ret ?_
                          have hR : sdRg l ps d b s h t pb pz pc fr nx p.tm size cut = R := by unfold sdRg; rw [hD]; rw [encL_end g9] at hRR; exact hRR
                          rw [sd_yes g1 g2 g3 g4 (by omega) (by omega) (by omega) g8 q1 q2 hR g10] at hr
                          subst hr
                          refine fin_i [(0, some 1264), (1, some 808), (2, some 1416)] rfl (fz ?_) (fz ?_)
                          · first | trivial | rfl | exact ⟨rfl, rfl⟩ | trace_state
                          · rw [hdl]; first | trivial | rfl | exact ⟨rfl, rfl⟩ | exact ⟨rfl, rfl, rfl⟩ | (rw [List.map_append]; first | rfl | exact ⟨rfl, rfl, rfl⟩) | trace_state
                    · refine voc (c_impl_DescribePacket_n (l := sdPc pb pz pc fr p.tm cut) (hn := q2)) rfl rfl ?_
                      refine vo ?_
                      refine vnt ?_
                      refine vc_seq' ?_
                      refine vc_sr ?_
                      iterate 3 refine vo ?_
                      refine von ?_
                      first | refine vqnf ?_ | refine vqnt ?_
                      refine vo ?_
                      refine vnt ?_
                      refine vc_then ?_
                      refine vc_sr ?_
                      iterate 5 refine vo ?_
                      refine vnt ?_
                      refine vc_ret ?_
                      refine thn_r ?_
                      have hb : sdB l ps d b s h t pb pz pc fr ws nx p size cut = false := by unfold sdB; rw [q2]; simp
                      rw [sd_no hb] at hr
                      subst hr
                      refine fin_i [(0, some 272), (1, some 288), (2, some 289)] rfl (fz ?_) (fz ?_) <;> first | trivial | rfl | exact ⟨rfl, rfl⟩ | exact ⟨rfl, rfl, rfl⟩ | trace_state
                  · refine voc (c_impl_fillBuffers_n (ks := sdKs pb pz pc fr p.tm cut) (h0 := by omega) (h1 := by omega) (hy := q1) (hne := hkl)) rfl rfl ?_
                    iterate 8 refine vo ?_
                    refine vnt ?_
                    refine vc_sr ?_
                    iterate 4 refine vo ?_
                    rcases Bool.eq_false_or_eq_true (descrB (sdPc pb pz pc fr p.tm cut) size nx) with q2 | q2
                    · refine voc c_impl_DescribePacket_0 rfl rfl ?_
                      refine vo ?_
                      refine vnt ?_
                      refine vc_seq' ?_
                      refine vc_sr ?_
                      iterate 3 refine vo ?_
                      iterate 2 refine vof ?_
                      refine vo ?_
                      refine vnt ?_
                      refine vc_then ?_
                      refine vc_sr ?_
                      iterate 5 refine vo ?_
                      refine vnt ?_
                      refine vc_ret ?_
                      refine thn_r ?_
                      have hb : sdB l ps d b s h t pb pz pc fr ws nx p size cut = false := by unfold sdB; rw [q1]; simp
                      rw [sd_no hb] at hr
                      subst hr
                      refine fin_i [(0, some 272), (1, some 288), (2, some 289)] rfl (fz ?_) (fz ?_) <;> first | trivial | rfl | exact ⟨rfl, rfl⟩ | exact ⟨rfl, rfl, rfl⟩ | trace_state
                    · refine voc c_impl_DescribePacket_0 rfl rfl ?_
                      refine vo ?_
                      refine vnt ?_
                      refine vc_seq' ?_
                      refine vc_sr ?_
                      iterate 3 refine vo ?_
                      iterate 2 refine vof ?_
                      refine vo ?_
                      refine vnt ?_
                      refine vc_then ?_
                      refine vc_sr ?_
                      iterate 5 refine vo ?_
                      refine vnt ?_
                      refine vc_ret ?_
                      refine thn_r ?_
                      have hb : sdB l ps d b s h t pb pz pc fr ws nx p size cut = false := by unfold sdB; rw [q1]; simp
                      rw [sd_no hb] at hr
                      subst hr
                      refine fin_i [(0, some 272), (1, some 288), (2, some 289)] rfl (fz ?_) (fz ?_) <;> first | trivial | rfl | exact ⟨rfl, rfl⟩ | exact ⟨rfl, rfl, rfl⟩ | trace_state
set_option maxHeartbeats 4000000 in
theorem c_spec_SendPacket {l : List Mp} {ps : Pg} {d b s h t pb pz pc nx size cut : Int} {fr : List Int} {ws : List Sn} {p : Pk} {r : TxR} (hr : sdF l ps d b s h t pb pz pc fr ws nx p size cut = r) (hl : l.length ≤ 1099511627776 := by first | with_reducible assumption | omega) (hp : ps.length ≤ 1099511627776 := by first | with_reducible assumption | omega) (hl_fr : fr.length ≤ 100000000 := by first | with_reducible assumption | omega) (hl_ws : ws.length ≤ 100000000 := by first | with_reducible assumption | omega) (hz_ws : (bufsF ws).length ≤ 100000000 := by first | with_reducible assumption | omega) (hz_p : p.body.size ≤ 1099511627776 := by first | assumption | omega) : Con0 Tryz.prog 10 [.one (.sl 4 (l.map mpE)), .agg [.sl 1 (ps.map strE)], I d, .agg [V b, V s, V h, V t, V pb, V pz, V pc, .sl 1 (fr.map intE), .rd (snQ (ws.map snE)), V nx], .agg [V (p).dm, V (p).sm, V (p).vl, V (p).tos, V (p).id, V (p).ttl, V (p).si, V (p).di, V (p).kind, V (p).sp, V (p).dp, V (p).seq, V (p).ack, V (p).fl, V (p).win, VS (p).body], I size, I cut] (.tup [.agg [.hs 0], .agg [V b, V s, V h, V r.2.1, V pb, V pz, V pc, .hs 1, .hs 2, V r.2.2.2.2.1], B r.2.2.2.2.2]) [(0, .arr 9 1 (r.1.map strE)), (1, .arr 3 1 (r.2.2.1.map intE)), (2, .own (sntOw 140 3 (r.2.2.2.1.map snE)))] := by
  refine con_i Tryz.func10 Tryz.ntmps10 (t := [(0, .one (.sl 4 (l.map mpE))), (1, .agg [.sl 1 (ps.map strE)]), (2, I d), (3, .agg [V b, V s, V h, V t, V pb, V pz, V pc, .sl 1 (fr.map intE), .rd (snQ (ws.map snE)), V nx]), (4, .agg [V (p).dm, V (p).sm, V (p).vl, V (p).tos, V (p).id, V (p).ttl, V (p).si, V (p).di, V (p).kind, V (p).sp, V (p).dp, V (p).seq, V (p).ack, V (p).fl, V (p).win, VS (p).body]), (5, I size), (6, I cut)]) rfl ?_
  refine vc_sr ?_
  iterate 6 refine vo ?_
  refine vnt ?_
  refine vc_sr ?_
  refine vo ?_
  refine voc c_spec_Template rfl rfl ?_
  iterate 5 refine vo ?_
  refine vnt ?_
  refine vc_seq' ?_
  refine vc_sr ?_
  refine vo ?_
  refine voc c_spec_TxOk rfl rfl ?_
  iterate 2 refine vo ?_
  refine vsp (fun g1 => ?_) (fun g1 => ?_)
  · iterate 2 refine vof ?_
    iterate 2 refine vo ?_
    iterate 6 refine vof ?_
    iterate 2 refine vo ?_
    iterate 3 refine vof ?_
    refine vo ?_
    refine vnt ?_
    refine vc_then ?_
    refine vc_sr ?_
    refine vo ?_
    refine voc c_spec_l16Copy rfl rfl ?_
    refine vo ?_
    refine voc c_spec_l22Copy rfl rfl ?_
    iterate 3 refine vo ?_
    refine vnt ?_
    refine vc_ret ?_
    refine thn_r ?_
    have hb : sdB l ps d b s h t pb pz pc fr ws nx p size cut = false := by unfold sdB; rw [g1]; rfl
    rw [sd_no hb] at hr
    subst hr
    refine fin_i [(0, some 480), (1, some 496), (2, some 497)] rfl (fz ?_) (fz ?_) <;> first | trivial | rfl | exact ⟨rfl, rfl⟩ | exact ⟨rfl, rfl, rfl⟩ | trace_state
  · obtain ⟨tx1, tx2, tx3, tx4, tx5⟩ := txOk_facts g1
    obtain ⟨tx6, tx7, tx8⟩ := txS_facts tx4
    obtain ⟨hs_, rb0, rb1, rs0, rs1, rh0, rh1, rt0, rt1, ru1, ru0⟩ := ringOk_facts tx1
    obtain ⟨pb0, pb1, pz0, pz1, pc0, pc1, hkk⟩ := poolB_facts tx2
    have hnx := inB_iff.1 tx3
    iterate 2 refine von ?_
    iterate 2 refine vo ?_
    refine vsp (fun g2 => ?_) (fun g2 => ?_)
    · have g2 : p.sup = false := g2
      iterate 6 refine vof ?_
      iterate 2 refine vo ?_
      iterate 3 refine vof ?_
      refine vo ?_
      refine vnt ?_
      refine vc_then ?_
      refine vc_sr ?_
      refine vo ?_
      refine voc c_spec_l16Copy rfl rfl ?_
      refine vo ?_
      refine voc c_spec_l22Copy rfl rfl ?_
      iterate 3 refine vo ?_
      refine vnt ?_
      refine vc_ret ?_
      refine thn_r ?_
      have hb : sdB l ps d b s h t pb pz pc fr ws nx p size cut = false := by unfold sdB; rw [g2]; simp
      rw [sd_no hb] at hr
      subst hr
      refine fin_i [(0, some 480), (1, some 496), (2, some 497)] rfl (fz ?_) (fz ?_) <;> first | trivial | rfl | exact ⟨rfl, rfl⟩ | exact ⟨rfl, rfl, rfl⟩ | trace_state
    · have g2 : p.sup = true := g2
      obtain ⟨tz0, tz1⟩ := tm_sz g2
      iterate 4 refine von ?_
      refine vocn c_spec_l01In rfl rfl ?_
      refine von ?_
      iterate 2 refine vo ?_
      refine vsp (fun g3 => ?_) (fun g3 => ?_)
      · iterate 3 refine vof ?_
        refine vo ?_
        refine vnt ?_
        refine vc_then ?_
        refine vc_sr ?_
        refine vo ?_
        refine voc c_spec_l16Copy rfl rfl ?_
        refine vo ?_
        refine voc c_spec_l22Copy rfl rfl ?_
        iterate 3 refine vo ?_
        refine vnt ?_
        refine vc_ret ?_
        refine thn_r ?_
        have hb : sdB l ps d b s h t pb pz pc fr ws nx p size cut = false := by unfold sdB; rw [g3]; simp
        rw [sd_no hb] at hr
        subst hr
        refine fin_i [(0, some 480), (1, some 496), (2, some 497)] rfl (fz ?_) (fz ?_) <;> first | trivial | rfl | exact ⟨rfl, rfl⟩ | exact ⟨rfl, rfl, rfl⟩ | trace_state
      · refine von ?_
        refine vocn c_spec_l01In rfl rfl ?_
        refine von ?_
        refine vo ?_
        refine vnt ?_
        refine vc_if (fun g4 => ?_) (fun g4 => ?_)
        · refine vc_sr ?_
          refine vo ?_
          refine voc c_spec_l16Copy rfl rfl ?_
          refine vo ?_
          refine voc c_spec_l22Copy rfl rfl ?_
          iterate 3 refine vo ?_
          refine vnt ?_
          refine vc_ret ?_
          refine thn_r ?_
          have hb : sdB l ps d b s h t pb pz pc fr ws nx p size cut = false := by unfold sdB; rw [g4]; simp
          rw [sd_no hb] at hr
          subst hr
          refine fin_i [(0, some 480), (1, some 496), (2, some 497)] rfl (fz ?_) (fz ?_) <;> first | trivial | rfl | exact ⟨rfl, rfl⟩ | exact ⟨rfl, rfl, rfl⟩ | trace_state
        · have hc3 := inB_iff.1 g3
          obtain ⟨nb0, nb1, nb2, nb3⟩ := sdN_bd (T := p.tm) (cut := cut) (by omega) (by omega)
          refine vc_skip ?_
          refine thn ?_
          refine vc_sr ?_
          iterate 4 refine vo ?_
          try refine vwr ?_
          refine vo ?_
          try refine vwr ?_
          iterate 2 refine vo ?_
          try refine veq (IntWalk.i64_quo _ _ (by omega)) ?_
          refine veq (show _ = sdN p.tm cut from rfl) ?_
          refine vo ?_
          refine vnt ?_
          refine vc_sr ?_
          iterate 3 refine vo ?_
          refine voc c_spec_TakeBuffers rfl rfl ?_
          iterate 8 refine vo ?_
          refine vnt ?_
          refine vc_seq' ?_
          refine vc_sr ?_
          iterate 3 refine vo ?_
          refine vsp (fun g5 => ?_) (fun g5 => ?_)
          · iterate 2 refine vof ?_
            iterate 2 refine vo ?_
            iterate 6 refine vof ?_
            iterate 2 refine vo ?_
            iterate 9 refine vof ?_
            refine vo ?_
            refine vnt ?_
            refine vc_then ?_
            refine vc_sr ?_
            refine vo ?_
            refine voc c_spec_l16Copy rfl rfl ?_
            refine vo ?_
            refine voc c_spec_l22Copy rfl rfl ?_
            iterate 3 refine vo ?_
            refine vnt ?_
            refine vc_ret ?_
            refine thn_r ?_
            have hb : sdB l ps d b s h t pb pz pc fr ws nx p size cut = false := by unfold sdB; rw [g5]; simp
            rw [sd_no hb] at hr
            subst hr
            refine fin_i [(0, some 832), (1, some 848), (2, some 849)] rfl (fz ?_) (fz ?_) <;> first | trivial | rfl | exact ⟨rfl, rfl⟩ | exact ⟨rfl, rfl, rfl⟩ | trace_state
          · have hkn := takeL_len g5
            iterate 2 refine von ?_
            iterate 2 refine vo ?_
            refine vsp (fun g6 => ?_) (fun g6 => ?_)
            · iterate 6 refine vof ?_
              iterate 2 refine vo ?_
              iterate 9 refine vof ?_
              refine vo ?_
              refine vnt ?_
              refine vc_then ?_
              refine vc_sr ?_
              refine vo ?_
              refine voc c_spec_l16Copy rfl rfl ?_
              refine vo ?_
              refine voc c_spec_l22Copy rfl rfl ?_
              iterate 3 refine vo ?_
              refine vnt ?_
              refine vc_ret ?_
              refine thn_r ?_
              have hb : sdB l ps d b s h t pb pz pc fr ws nx p size cut = false := by unfold sdB; rw [decide_eq_false (show ¬ sdN p.tm cut ≤ 16 by omega)]; simp
              rw [sd_no hb] at hr
              subst hr
              refine fin_i [(0, some 832), (1, some 848), (2, some 849)] rfl (fz ?_) (fz ?_) <;> first | trivial | rfl | exact ⟨rfl, rfl⟩ | exact ⟨rfl, rfl, rfl⟩ | trace_state
            · iterate 2 refine von ?_
              try refine vwr ?_
              iterate 2 refine von ?_
              refine vocn c_spec_RingFree rfl rfl ?_
              refine von ?_
              iterate 2 refine vo ?_
              refine vsp (fun g7 => ?_) (fun g7 => ?_)
              · iterate 9 refine vof ?_
                refine vo ?_
                refine vnt ?_
                refine vc_then ?_
                refine vc_sr ?_
                refine vo ?_
                refine voc c_spec_l16Copy rfl rfl ?_
                refine vo ?_
                refine voc c_spec_l22Copy rfl rfl ?_
                iterate 3 refine vo ?_
                refine vnt ?_
                refine vc_ret ?_
                refine thn_r ?_
                have hb : sdB l ps d b s h t pb pz pc fr ws nx p size cut = false := by unfold sdB; rw [decide_eq_false (show ¬ sdN p.tm cut + 1 ≤ freeF b s h t by omega)]; simp
                rw [sd_no hb] at hr
                subst hr
                refine fin_i [(0, some 832), (1, some 848), (2, some 849)] rfl (fz ?_) (fz ?_) <;> first | trivial | rfl | exact ⟨rfl, rfl⟩ | exact ⟨rfl, rfl, rfl⟩ | trace_state
              · refine von ?_
                refine vocn (c_spec_l22Slots (h1 := tx6) (h2 := by omega)) rfl rfl ?_
                iterate 2 refine von ?_
                try refine vwr ?_
                refine von ?_
                try refine vwr ?_
                iterate 4 refine von ?_
                refine vo ?_
                refine vnt ?_
                refine vc_if (fun g8 => ?_) (fun g8 => ?_)
                · refine vc_sr ?_
                  refine vo ?_
                  refine voc c_spec_l16Copy rfl rfl ?_
                  refine vo ?_
                  refine voc c_spec_l22Copy rfl rfl ?_
                  iterate 3 refine vo ?_
                  refine vnt ?_
                  refine vc_ret ?_
                  refine thn_r ?_
                  have hb : sdB l ps d b s h t pb pz pc fr ws nx p size cut = false := by unfold sdB; rw [decide_eq_false (show ¬ slotsF ws + sdN p.tm cut + 1 ≤ s by omega)]; simp
                  rw [sd_no hb] at hr
                  subst hr
                  refine fin_i [(0, some 832), (1, some 848), (2, some 849)] rfl (fz ?_) (fz ?_) <;> first | trivial | rfl | exact ⟨rfl, rfl⟩ | exact ⟨rfl, rfl, rfl⟩ | trace_state
                · refine vc_skip ?_
                  refine thn ?_
                  refine vc_sr ?_
                  refine vo ?_
                  refine voc c_spec_l16Copy rfl rfl ?_
                  iterate 2 refine vo ?_
                  refine vnt ?_
                  refine vc_sr ?_
                  iterate 2 refine vo ?_
                  refine vnt ?_
                  refine vc_seq' ?_
                  refine vc_sr ?_
                  refine vo ?_
                  refine vnt ?_
                  refine vc_block ?_
                  refine vc_lp2 [0, 2, 5, 6, 8, 10, 14, 15, 17, 19, 20, 21, 22] [64, 80, 112, 120, 160, 592, 593] (fun (i : Nat) (q : Pg) => [(23, .one (.hs 9)), (24, I (i : Nat))]) (fun (i : Nat) (q : Pg) => [(7, .arr 9 1 (q.map strE)), (9, .arr 131 2 ((sdQ pb pz pc fr p.tm cut (takeL pb pz pc fr (sdN p.tm cut)) i).map pcE)), (176, .row 27 [.hs 7])]) (fun (i : Nat) (q : Pg) => sdW l d pb pz pc fr p.tm cut (takeL pb pz pc fr (sdN p.tm cut)) 0 ps = sdW l d pb pz pc fr p.tm cut ((takeL pb pz pc fr (sdN p.tm cut)).drop i) i q ∧ i ≤ (takeL pb pz pc fr (sdN p.tm cut)).length ∧ q.length = ps.length) (fun (i : Nat) (q : Pg) => (takeL pb pz pc fr (sdN p.tm cut)).length - i) 0 ps rfl rfl (sub_i [(176, some 176), (7, some 864), (9, some 872)] (fz ?_) (fz ?_)) ?_ fun i q hI => ?_
                  · first | trivial | rfl | exact ⟨rfl, rfl⟩ | exact ⟨rfl, rfl, rfl⟩ | trace_state
                  · first | trivial | rfl | exact ⟨rfl, rfl⟩ | exact ⟨rfl, rfl, rfl⟩ | trace_state
                  · exact ⟨rfl, Nat.zero_le _, rfl⟩
                  refine vc_nf rfl rfl ?_
                  have hql := hI.2.2
                  have hsq := sdQ_len pb pz pc fr p.tm cut (takeL pb pz pc fr (sdN p.tm cut)) i
                  refine vc_seq' ?_
                  refine vc_sr ?_
                  iterate 3 refine vo ?_
                  refine vnt ?_
                  refine vc_if (fun g9 => ?_) (fun g9 => ?_)
                  · have hik : i < (takeL pb pz pc fr (sdN p.tm cut)).length := by omega
                    have hin := sd_in (T := p.tm) (cut := cut) (i := i) (by omega) (by omega) g9
                    have hsm := suc_mul i cut
                    have hbb := bufA_bd pb pz pc fr (at' (takeL pb pz pc fr (sdN p.tm cut)) i)
                    have hpz := sdP_sz p.tm cut i
                    refine vc_skip ?_
                    refine thn ?_
                    refine vc_seq' ?_
                    refine vc_block ?_
                    refine vc_sr ?_
                    iterate 4 refine vo ?_
                    try refine vwr ?_
                    iterate 4 refine vo ?_
                    try refine vwr ?_
                    iterate 2 refine vo ?_
                    try refine vwr ?_
                    iterate 2 refine vo ?_
                    try first | refine vdr ?_ | refine vtk ?_
                    refine vstr (show _ = sdP p.tm cut i from rfl) ?_
                    refine vo ?_
                    refine vnt ?_
                    refine vc_sr ?_
                    iterate 5 refine vo ?_
                    try with_reducible (first | refine vep ?_ | refine vpt ?_)
                    refine vo ?_
                    refine voc c_spec_BufferAddress rfl rfl ?_
                    refine vo ?_
                    refine vnt ?_
                    refine vc_sr ?_
                    iterate 5 refine vo ?_
                    refine voc c_spec_HostWrite rfl rfl ?_
                    iterate 6 refine vo ?_
                    refine vnt ?_
                    refine vc_seq' ?_
                    refine vc_sr ?_
                    iterate 2 refine vo ?_
                    refine vnt ?_
                    refine vc_if (fun g10 => ?_) (fun g10 => ?_)
                    · refine vc_sr ?_
                      refine vo ?_
                      refine voc c_spec_l16Copy rfl rfl ?_
                      refine vo ?_
                      refine voc c_spec_l22Copy rfl rfl ?_
                      iterate 3 refine vo ?_
                      refine vnt ?_
                      refine vc_ret ?_
                      refine thn_r ?_
                      refine inB_r ?_
                      refine thn_r ?_
                      refine thn_r ?_
                      refine inB_r ?_
                      refine thn_r ?_
                      have hw : (sdWr l ps d pb pz pc fr p.tm cut).2 = false := by show (sdW l d pb pz pc fr p.tm cut (takeL pb pz pc fr (sdN p.tm cut)) 0 ps).2 = false; rw [hI.1, sdW_no hik g10]
                      have hb : sdB l ps d b s h t pb pz pc fr ws nx p size cut = false := by unfold sdB; rw [hw]; simp
                      rw [sd_no hb] at hr
                      subst hr
                      refine fin_i [(0, some 1168), (1, some 1184), (2, some 1185)] rfl (fz ?_) (fz ?_) <;> first | trivial | rfl | exact ⟨rfl, rfl⟩ | exact ⟨rfl, rfl, rfl⟩ | trace_state
                    · refine vc_skip ?_
                      refine thn ?_
                      refine vc_sr ?_
                      iterate 2 refine vo ?_
                      refine vnt ?_
                      refine vc_region ?_
                      iterate 8 refine vo ?_
                      refine vnil ?_
                      refine inB_n ?_
                      refine thn ?_
                      refine vc_region ?_
                      iterate 2 refine vo ?_
                      try refine vwr ?_
                      refine vo ?_
                      refine vnt ?_
                      refine ⟨i + 1, (dmaWF l q d (bufA pb pz pc fr (at' (takeL pb pz pc fr (sdN p.tm cut)) i)) (sdP p.tm cut i) false).1, ⟨hI.1.trans (sdW_stp hik g10), by omega, by rw [dw_ln]; exact hql⟩, by omega, sub_i [(176, some 176), (7, some 1120), (9, some 1248)] (fz ?_) (fz ?_)⟩
                      · first | trivial | rfl | simp | trace_state
                      · first | exact (by rw [← sdQ_stp, List.map_append]; rfl) | (rw [← sdQ_stp, List.map_append]; exact ⟨rfl, rfl⟩) | trace_state
                  · obtain rfl : i = (takeL pb pz pc fr (sdN p.tm cut)).length := by omega
                    refine vc_exit ?_
                    refine thn_x ?_
                    refine thn_x ?_
                    refine inB_x ?_
                    refine thn ?_
                    refine vc_sr ?_
                    iterate 2 refine vo ?_
                    refine vnt ?_
                    refine vc_sr ?_
                    iterate 4 refine vo ?_
                    refine voc c_spec_DescribePacket rfl rfl ?_
                    generalize hD : descrF (sdQ pb pz pc fr p.tm cut (takeL pb pz pc fr (sdN p.tm cut)) (takeL pb pz pc fr (sdN p.tm cut)).length) size nx = D
                    have hdl : D.length ≤ 17 := by rw [← hD]; have := descrF_le (sdQ pb pz pc fr p.tm cut (takeL pb pz pc fr (sdN p.tm cut)) (takeL pb pz pc fr (sdN p.tm cut)).length) size nx; omega
                    refine vo ?_
                    refine vnt ?_
                    refine vc_seq' ?_
                    refine vc_sr ?_
                    refine vo ?_
                    refine vnt ?_
                    refine vc_block ?_
                    refine vc_lp (σ := Nat) [0, 2, 8, 10, 14, 15, 19, 20, 21, 22, 30] [7, 64, 80, 112, 120, 160, 176, 592, 593, 1296] (fun j => [(29, .one (.hs 10)), (31, I (j : Nat))]) (fun j => [(10, .arr 9 1 ((encL (D.take j)).map strE))]) (fun j => j ≤ D.length) (fun j => D.length - j) 0 rfl rfl (sub_i [(10, some 1256)] (fz ?_) (fz ?_)) ?_ fun j hJ => ?_
                    · first | trivial | rfl | exact ⟨rfl, rfl⟩ | exact ⟨rfl, rfl, rfl⟩ | trace_state
                    · first | trivial | rfl | exact ⟨rfl, rfl⟩ | exact ⟨rfl, rfl, rfl⟩ | trace_state
                    · exact Nat.zero_le _
                    refine vc_nf rfl rfl ?_
                    have hel : (encL (D.take j)).length ≤ j := by rw [encL_len, List.length_take]; omega
                    refine vc_seq' ?_
                    refine vc_sr ?_
                    iterate 3 refine vo ?_
                    try first | refine vlb ?_ | refine vln ?_
                    refine vo ?_
                    refine vnt ?_
                    refine vc_if (fun g11 => ?_) (fun g11 => ?_)
                    · refine vc_skip ?_
                      refine thn ?_
                      refine vc_seq' ?_
                      refine vc_block ?_
                      refine vc_region ?_
                      iterate 4 refine vo ?_
                      try with_reducible (first | refine vep ?_ | refine vpt ?_)
                      refine vo ?_
                      refine voc c_spec_EncodeDesc rfl rfl ?_
                      iterate 3 refine vo ?_
                      refine vnil ?_
                      refine inB_n ?_
                      refine thn ?_
                      refine vc_region ?_
                      iterate 2 refine vo ?_
                      try refine vwr ?_
                      refine vo ?_
                      refine vnt ?_
                      refine ⟨j + 1, by omega, by omega, sub_i [(10, some 1408)] (fz ?_) (fz ?_)⟩
                      · first | trivial | rfl | simp
                      · first | exact (encL_stp g11).symm | trace_state
                    · have hez := encL_sz (D.take j)
                      have hel : (encL (D.take j)).length ≤ j := by rw [encL_len, List.length_take]; omega
                      refine vc_exit ?_
                      refine thn_x ?_
                      refine thn_x ?_
                      refine inB_x ?_
                      refine thn ?_
                      refine vc_sr ?_
                      iterate 6 refine vo ?_
                      refine voc c_spec_RingPutAll rfl rfl ?_
                      generalize hRR : rpaF l q d b s h t (encL (D.take j)) = R
                      iterate 8 refine vo ?_
                      refine vnt ?_
                      refine vc_seq' ?_
                      refine vc_sr ?_
                      iterate 3 refine vo ?_
                      refine vsp (fun g12 => ?_) (fun g12 => ?_)
                      · iterate 3 refine vof ?_
                        refine vo ?_
                        refine vnt ?_
                        refine vc_then ?_
                        refine vc_sr ?_
                        refine vo ?_
                        refine voc c_spec_l16Copy rfl rfl ?_
                        refine vo ?_
                        refine voc c_spec_l22Copy rfl rfl ?_
                        iterate 3 refine vo ?_
                        refine vnt ?_
                        refine vc_ret ?_
                        refine thn_r ?_
                        have hw : sdW l d pb pz pc fr p.tm cut (takeL pb pz pc fr (sdN p.tm cut)) 0 ps = (q, true) := hI.1.trans (sdW_end (by omega))
                        have hR : sdRg l ps d b s h t pb pz pc fr nx p.tm size cut = R := by
                          show rpaF l (sdW l d pb pz pc fr p.tm cut (takeL pb pz pc fr (sdN p.tm cut)) 0 ps).1 d b s h t (encL (descrF (sdQ pb pz pc fr p.tm cut (takeL pb pz pc fr (sdN p.tm cut)) (takeL pb pz pc fr (sdN p.tm cut)).length) size nx)) = R
                          rw [hw, hD]; rw [encL_end g11] at hRR; exact hRR
                        have hb : sdB l ps d b s h t pb pz pc fr ws nx p size cut = false := by unfold sdB; rw [hR, g12]; simp
                        rw [sd_no hb] at hr
                        subst hr
                        refine fin_i [(0, some 1568), (1, some 1584), (2, some 1585)] rfl (fz ?_) (fz ?_) <;> first | trivial | rfl | exact ⟨rfl, rfl⟩ | exact ⟨rfl, rfl, rfl⟩ | trace_state
                      · iterate 2 refine von ?_
                        try first | refine vlb ?_ | refine vln ?_
                        refine von ?_
                        refine vo ?_
                        refine vnt ?_
                        refine vc_if (fun g13 => ?_) (fun g13 => ?_)
                        · refine vc_sr ?_
                          refine vo ?_
                          refine voc c_spec_l16Copy rfl rfl ?_
                          refine vo ?_
                          refine voc c_spec_l22Copy rfl rfl ?_
                          iterate 3 refine vo ?_
                          refine vnt ?_
                          refine vc_ret ?_
                          refine thn_r ?_
                          have q2 : descrB (sdPc pb pz pc fr p.tm cut) size nx = false := by
                            cases hq : descrB (sdPc pb pz pc fr p.tm cut) size nx with
                            | false => rfl
                            | true => have hx := descr_len hq; rw [show descrF (sdPc pb pz pc fr p.tm cut) size nx = D from hD] at hx; omega
                          have hb : sdB l ps d b s h t pb pz pc fr ws nx p size cut = false := by unfold sdB; rw [q2]; simp
                          rw [sd_no hb] at hr
                          subst hr
                          refine fin_i [(0, some 1568), (1, some 1584), (2, some 1585)] rfl (fz ?_) (fz ?_) <;> first | trivial | rfl | exact ⟨rfl, rfl⟩ | exact ⟨rfl, rfl, rfl⟩ | trace_state
                        · refine vc_skip ?_
                          refine thn ?_
                          refine vc_sr ?_
                          refine vo ?_
                          refine voc c_spec_l22Copy rfl rfl ?_
                          iterate 2 refine vo ?_
                          refine vnt ?_
                          refine vc_sr ?_
                          iterate 3 refine vo ?_
                          refine vnt ?_
                          refine vc_sr ?_
                          iterate 3 refine vo ?_
                          refine vnt ?_
                          refine vc_sr ?_
                          iterate 6 refine vo ?_
                          try refine vwr ?_
                          iterate 2 refine vo ?_
                          refine vqb ?_
                          refine vqa ?_
                          iterate 2 refine vo ?_
                          refine vnt ?_
                          refine vc_sr ?_
                          iterate 3 refine vo ?_
                          try refine vwr ?_
                          refine vo ?_
                          try refine veq (Int.tmod_eq_emod_of_nonneg (by omega)) ?_
                          iterate 2 refine vo ?_
                          refine vnt ?_
                          refine vc_sr ?_
                          iterate 5 refine vo ?_
                          refine vnt ?_
                          refine vc_ret ?_
                          have hw : sdW l d pb pz pc fr p.tm cut (takeL pb pz pc fr (sdN p.tm cut)) 0 ps = (q, true) := hI.1.trans (sdW_end (by omega))
                          have hR : sdRg l ps d b s h t pb pz pc fr nx p.tm size cut = R := by
                            show rpaF l (sdW l d pb pz pc fr p.tm cut (takeL pb pz pc fr (sdN p.tm cut)) 0 ps).1 d b s h t (encL (descrF (sdQ pb pz pc fr p.tm cut (takeL pb pz pc fr (sdN p.tm cut)) (takeL pb pz pc fr (sdN p.tm cut)).length) size nx)) = R
                            rw [hw, hD]; rw [encL_end g11] at hRR; exact hRR
                          have q2 : descrB (sdPc pb pz pc fr p.tm cut) size nx = true := by
                            cases hq : descrB (sdPc pb pz pc fr p.tm cut) size nx with
                            | true => rfl
                            | false => have hx := descr_nil hq; rw [show descrF (sdPc pb pz pc fr p.tm cut) size nx = D from hD] at hx; subst hx; exact absurd rfl g13
                          rw [sd_yes g1 g2 g3 g4 (by omega) (by omega) (by omega) g5 (show (sdW l d pb pz pc fr p.tm cut (takeL pb pz pc fr (sdN p.tm cut)) 0 ps).2 = true by rw [hw]) q2 hR g12] at hr
                          subst hr
                          refine fin_i [(0, some 1472), (1, some 592), (2, some 1712)] rfl (fz ?_) (fz ?_)
                          · first | trivial | rfl | exact ⟨rfl, rfl⟩ | trace_state
                          · first | trivial | rfl | exact ⟨rfl, rfl⟩ | exact ⟨rfl, rfl, rfl⟩ | (rw [List.map_append]; first | rfl | exact ⟨rfl, rfl, rfl⟩) | trace_state
end Go.Proofs.YtbdcaacpemkloaaGreat
end
section
namespace Go
open Go.RowKit
theorem and_mask_i64 (x : Int) (i : Nat) (hi : i ≤ 62) : bits .and .i64 x (2 ^ i - 1) = x % 2 ^ i := by
  have hp : (2 : Nat) ^ i ≤ 2 ^ 62 := Nat.pow_le_pow_right (by decide) hi
  have hpos : 0 < 2 ^ i := Nat.two_pow_pos i
  have hc : ((2 : Int) ^ i - 1) = ((2 ^ i - 1 : Nat) : Int) := by rw [Int.natCast_sub hpos]; simp
  rw [hc]
  show IntKind.i64.wrap (((BitVec.ofInt 64 x &&& BitVec.ofInt 64 ((2 ^ i - 1 : Nat) : Int)).toNat : Nat) : Int) = x % 2 ^ i
  rw [BitVec.ofInt_natCast, BitVec.toNat_and, BitVec.toNat_ofNat, BitVec.toNat_ofInt, Nat.mod_eq_of_lt (a := 2 ^ i - 1) (by omega), Nat.and_two_pow_sub_one_eq_mod]
  have hlt : (x % (2 ^ 64 : Nat)).toNat % 2 ^ i < 2 ^ i := Nat.mod_lt _ hpos
  rw [IntKind.wrap_i64, Int.emod_eq_of_lt (by omega) (by omega)]
  have h0 : 0 ≤ x % (2 ^ 64 : Nat) := Int.emod_nonneg _ (by decide)
  have e : (((x % (2 ^ 64 : Nat)).toNat % 2 ^ i : Nat) : Int) = x % 2 ^ i := by
    rw [Int.natCast_emod, Int.toNat_of_nonneg h0]
    have hd : ((2 ^ i : Nat) : Int) ∣ ((2 ^ 64 : Nat) : Int) := Int.natCast_dvd_natCast.2 (Nat.pow_dvd_pow 2 (by omega))
    rw [Int.emod_emod_of_dvd _ hd]; simp
  omega
theorem emod_le (x : Int) {n : Int} (h : 0 < n) : x % n ≤ n - 1 := by have := Int.emod_lt_of_pos x h; omega
theorem and255_bd (x : Int) : 0 ≤ bits .and .i64 x 255 ∧ bits .and .i64 x 255 ≤ 255 := by
  have h := and_mask_i64 x 8 (by decide)
  have e : ((2 : Int) ^ 8 - 1) = 255 := by decide
  rw [e] at h
  rw [h]
  omega
theorem Holds.bytes {w : World} {xs : List UInt8} {vs : List Value} (h : Holds w xs vs) : ∃ a cap, vs = [.slice a xs.length cap] ∧ xs.length ≤ cap ∧ cap ≤ maxLen ∧
    (∀ i (hi : i < xs.length), ∃ b off, a = some ⟨b, off, none⟩ ∧ w.cell? ⟨b, off + i, none⟩ = some (.int .u8 (xs[i]'hi).toNat)) := by
  obtain ⟨a, cap, rfl, h1, h2, h3⟩ := h.slice
  refine ⟨a, cap, rfl, h1, h2, fun i hi => ?_⟩
  obtain ⟨b, off, ts, ha, ht, hc⟩ := h3 i hi
  obtain rfl := ht.byte
  have := hc 0 (by decide)
  exact ⟨b, off, ha, by simpa [Rep.size] using this⟩
def OneB (B : Nat) (w w' : World) : Prop := w'.os = w.os ∧ w'.tape = w.tape ∧ w'.output = w.output ∧ w.heap.size ≤ w'.heap.size ∧ ∀ k, k < w.heap.size → k ≠ B → w'.heap[k]? = w.heap[k]?
theorem OneB.refl (B : Nat) (w : World) : OneB B w w := ⟨rfl, rfl, rfl, Nat.le_refl _, fun _ _ _ => rfl⟩
theorem OneB.ex {B : Nat} {w a b : World} (h : OneB B w a) (hx : Ex a b) : OneB B w b := by
  obtain ⟨h1, h2, h3, h4, h5⟩ := h
  have hb := hx.below
  exact ⟨hb.os.trans h1, hb.tape.trans h2, hb.output.trans h3, Nat.le_trans h4 hb.size, fun k hk hn => (hx.block (Nat.lt_of_lt_of_le hk h4)).trans (h5 k hk hn)⟩
theorem OneB.drew {B : Nat} {w a : World} (h : OneB B w a) : OneB B w a.drew := h
theorem OneB.plus {B : Nat} {w a : World} (h : OneB B w a) (g : Gr) : OneB B w (a.plus g) := h.ex ((Ex.refl _).plus g)
theorem OneB.setCell {B : Nat} {w a : World} (h : OneB B w a) (i : Nat) (v : Value) : OneB B w (a.setCell ⟨B, i, none⟩ v) := by
  obtain ⟨h1, h2, h3, h4, h5⟩ := h
  exact ⟨h1, h2, h3, by simpa using h4, fun k hk hn => (row_setCell_other (p := ⟨B, i, none⟩) hn v).trans (h5 k hk hn)⟩
theorem OneB.upd {B : Nat} {w a : World} (h : OneB B w a) (f : Nat → Obj) : OneB B w (a.upd [B] f) := by
  obtain ⟨h1, h2, h3, h4, h5⟩ := h
  exact ⟨h1, h2, h3, by simpa using h4, fun k hk hn => (World.block_upd a [B] f (by simpa using hn)).trans (h5 k hk hn)⟩
theorem OneB.trans {B : Nat} {a b c : World} (h : OneB B a b) (k : OneB B b c) : OneB B a c := by
  obtain ⟨h1, h2, h3, h4, h5⟩ := h
  obtain ⟨k1, k2, k3, k4, k5⟩ := k
  exact ⟨k1.trans h1, k2.trans h2, k3.trans h3, Nat.le_trans h4 k4, fun i hi hn => (k5 i (Nat.lt_of_lt_of_le hi h4) hn).trans (h5 i hi hn)⟩
theorem OneB.form {B : Nat} {w w' : World} {o : Obj} (h : OneB B w w') (hB : B < w.heap.size) (ho : w'.heap[B]? = some o) : ∃ g, w' = (w.upd [B] (fun _ => o)).plus g := by
  obtain ⟨h1, h2, h3, h4, h5⟩ := h
  obtain ⟨f, g, e⟩ := World.as_upd (w := w) (w' := w') [B] h1 h2 h3 h4 (fun k hk hn => h5 k hk (by simpa using hn))
  refine ⟨g, ?_⟩
  have hf : f B = o := by
    have : w'.heap[B]? = some (f B) := by
      rw [e]
      simp only [World.plus]
      rw [Array.getElem?_append_left (by simpa using hB), World.block_upd_in w [B] f (by simp) hB]
    rw [this] at ho
    simpa using ho
  rw [e]
  congr 1
  unfold World.upd
  congr 1
  apply Array.ext_getElem?
  intro i
  simp only [Array.getElem?_mapIdx]
  cases w.heap[i]? with
  | none => rfl
  | some x =>
    by_cases hi : i = B
    · subst hi; simp [hf]
    · simp [hi]
section
variable (w : World)
@[go_sem] theorem World.upd_upd1 (n : Nat) (f g : Nat → Obj) : (w.upd [n] f).upd [n] g = w.upd [n] g := by
  unfold World.upd
  simp only
  congr 1
  apply Array.ext_getElem?
  intro k
  simp only [Array.getElem?_mapIdx]
  cases w.heap[k]? with
  | none => rfl
  | some o => by_cases hk : k = n <;> simp [hk]
@[go_sem] theorem World.plus_upd1 (n : Nat) (f : Nat → Obj) (g : Gr) (hn : n < w.heap.size) : (w.plus g).upd [n] f = (w.upd [n] f).plus g := by
  unfold World.upd World.plus
  simp only
  congr 1
  apply Array.ext_getElem?
  intro k
  simp only [Array.getElem?_mapIdx, Array.getElem?_append, Array.size_mapIdx]
  by_cases hk : k < w.heap.size
  · simp [hk]
  · simp only [if_neg hk]
    cases g.o[k - w.heap.size]? with
    | none => rfl
    | some o => simp; omega
@[go_sem] theorem World.alloc_upd1 (n : Nat) (f : Nat → Obj) (o : Obj) (hn : n < w.heap.size) : (w.alloc o).upd [n] f = (w.upd [n] f).alloc o := by
  rw [World.alloc_is_plus, World.plus_upd1 _ _ _ _ hn, World.alloc_is_plus]; rfl
@[go_sem] theorem World.cell?_upd_in (n i : Nat) (cs : Array Value) (E : TypeId) (fr : Nat × Nat) (hn : n < w.heap.size) : (w.upd [n] (fun _ => .cells cs E fr)).cell? ⟨n, i, none⟩ = cs[i]? := by
  simp [World.cell?, World.block_upd_in w [n] _ (List.mem_singleton.2 rfl) hn]
@[go_sem] theorem World.frozen?_upd_in (n i : Nat) (cs : Array Value) (E : TypeId) (hn : n < w.heap.size) : (w.upd [n] (fun _ => .cells cs E (0, 0))).frozen? ⟨n, i, none⟩ = false := by
  simp [World.frozen?, World.block_upd_in w [n] _ (List.mem_singleton.2 rfl) hn]
end
def CurAt (T : TypeId) (w : World) (B : Nat) (v : Value) (n : Nat) : Prop := ∃ i h : Int, w.heap[B]? = some (.cells #[v, .int .i64 i, .int .i64 h] T (0, 0)) ∧ 0 ≤ i ∧ i ≤ n
theorem CurAt.lt {T : TypeId} {w : World} {B : Nat} {v : Value} {n : Nat} (h : CurAt T w B v n) : B < w.heap.size := let ⟨_, _, h, _⟩ := h; row_lt h
theorem CurAt.ex {T : TypeId} {w w' : World} {B : Nat} {v : Value} {n : Nat} (h : CurAt T w B v n) (hx : Ex w w') : CurAt T w' B v n := let ⟨i, k, h, h1⟩ := h; ⟨i, k, hx.row h, h1⟩
theorem CurAt.plus {T : TypeId} {w : World} {B : Nat} {v : Value} {n : Nat} (h : CurAt T w B v n) (g : Gr) : CurAt T (w.plus g) B v n := h.ex ((Ex.refl _).plus g)
theorem CurAt.alloc {T : TypeId} {w : World} {B : Nat} {v : Value} {n : Nat} (h : CurAt T w B v n) (o : Obj) : CurAt T (w.alloc o) B v n := h.ex ((Ex.refl _).alloc o)
theorem CurAt.drew {T : TypeId} {w : World} {B : Nat} {v : Value} {n : Nat} (h : CurAt T w B v n) : CurAt T w.drew B v n := h
theorem CurAt.setCell {T : TypeId} {w : World} {B : Nat} {v : Value} {n : Nat} (h : CurAt T w B v n) {p : Addr} (hp : B ≠ p.block) (x : Value) : CurAt T (w.setCell p x) B v n := let ⟨i, k, h, h1⟩ := h; ⟨i, k, (row_setCell_other hp x).trans h, h1⟩
theorem CurAt.upd {T : TypeId} {w : World} {B : Nat} {v : Value} {n : Nat} {i h : Int} (hB : B < w.heap.size) (h0 : 0 ≤ i) (h1 : i ≤ n) : CurAt T (w.upd [B] (fun _ => .cells #[v, .int .i64 i, .int .i64 h] T (0, 0))) B v n :=
  ⟨i, h, World.block_upd_in w [B] _ (by simp) hB, h0, h1⟩
def Cu (T : TypeId) (w0 : World) (B : Nat) (v : Value) (code : List UInt8) (w : World) : Prop := Ex w0 w ∧ Holds w0 code [v] ∧ w0.heap.size ≤ B ∧ CurAt T w B v code.length
section
variable {T : TypeId} {w0 w : World} {B : Nat} {v : Value} {code : List UInt8}
theorem Cu.lt (h : Cu T w0 B v code w) : B < w.heap.size := h.2.2.2.lt
theorem Cu.ex {w' : World} (h : Cu T w0 B v code w) (hx : Ex w w') : Cu T w0 B v code w' := ⟨h.1.trans hx, h.2.1, h.2.2.1, h.2.2.2.ex hx⟩
theorem Cu.plus (h : Cu T w0 B v code w) (g : Gr) : Cu T w0 B v code (w.plus g) := h.ex ((Ex.refl _).plus g)
theorem Cu.alloc (h : Cu T w0 B v code w) (o : Obj) : Cu T w0 B v code (w.alloc o) := h.ex ((Ex.refl _).alloc o)
theorem Cu.drew (h : Cu T w0 B v code w) : Cu T w0 B v code w.drew := h.ex (Ex.refl _).drew
theorem Cu.setCell (h : Cu T w0 B v code w) {p : Addr} (hp : w0.heap.size ≤ p.block) (hn : B ≠ p.block) (x : Value) : Cu T w0 B v code (w.setCell p x) := ⟨h.1.setCell hp x, h.2.1, h.2.2.1, h.2.2.2.setCell hn x⟩
theorem Cu.upd (h : Cu T w0 B v code w) {i k : Int} (h0 : 0 ≤ i) (h1 : i ≤ code.length) : Cu T w0 B v code (w.upd [B] (fun _ => .cells #[v, .int .i64 i, .int .i64 k] T (0, 0))) :=
  ⟨h.1.upd1 h.2.2.1, h.2.1, h.2.2.1, CurAt.upd h.lt h0 h1⟩
theorem Cu.new {h : Int} (k : Holds w0 code [v]) (hx : Ex w0 w) (hB : w0.heap.size ≤ B) (hc : w.heap[B]? = some (.cells #[v, .int .i64 0, .int .i64 h] T (0, 0))) : Cu T w0 B v code w := ⟨hx, k, hB, 0, h, hc, Int.le_refl _, by omega⟩
theorem Cu.holds (h : Cu T w0 B v code w) : Holds w code [v] := h.2.1.ex h.1
end
def Mv (T : TypeId) (B : Nat) (v : Value) (n : Nat) (w wr : World) : Prop := OneB B w wr ∧ CurAt T wr B v n
theorem OneB.setNew {B : Nat} {w a : World} (h : OneB B w a) {p : Addr} (hp : w.heap.size ≤ p.block) (v : Value) : OneB B w (a.setCell p v) := by
  obtain ⟨h1, h2, h3, h4, h5⟩ := h
  exact ⟨h1, h2, h3, by simpa using h4, fun k hk hn => (row_setCell_other (by omega) v).trans (h5 k hk hn)⟩
section
variable {T : TypeId} {w0 w wr : World} {B : Nat} {v : Value} {n : Nat} {code : List UInt8}
theorem Mv.refl (h : CurAt T w B v n) : Mv T B v n w w := ⟨OneB.refl _ _, h⟩
theorem Mv.plus (h : Mv T B v n w wr) (g : Gr) : Mv T B v n w (wr.plus g) := ⟨h.1.plus g, h.2.plus g⟩
theorem Mv.alloc (h : Mv T B v n w wr) (o : Obj) : Mv T B v n w (wr.alloc o) := ⟨h.1.ex ((Ex.refl _).alloc o), h.2.alloc o⟩
theorem Mv.drew (h : Mv T B v n w wr) : Mv T B v n w wr.drew := ⟨h.1.drew, h.2.drew⟩
theorem Mv.setCell (h : Mv T B v n w wr) {p : Addr} (hp : w.heap.size ≤ p.block) (hn : B ≠ p.block) (x : Value) : Mv T B v n w (wr.setCell p x) := ⟨h.1.setNew hp x, h.2.setCell hn x⟩
theorem Mv.upd (h : Mv T B v n w wr) {i k : Int} (h0 : 0 ≤ i) (h1 : i ≤ n) : Mv T B v n w (wr.upd [B] (fun _ => .cells #[v, .int .i64 i, .int .i64 k] T (0, 0))) := ⟨h.1.upd _, CurAt.upd h.2.lt h0 h1⟩
theorem Mv.size (h : Mv T B v n w wr) : w.heap.size ≤ wr.heap.size := h.1.2.2.2.1
end
def DrawnN (T : TypeId) (B : Nat) (v : Value) (n : Nat) (lo hi : Int) (w : World) (e : Ending) (w' : World) : Prop :=
  ∃ (r i h : Int) (g : Gr), lo ≤ r ∧ r ≤ hi ∧ 0 ≤ i ∧ i ≤ n ∧ e = .returned (.int .i64 r) ∧ w' = (w.upd [B] (fun _ => .cells #[v, .int .i64 i, .int .i64 h] T (0, 0))).plus g
theorem DrawnN.of {T : TypeId} {B : Nat} {v : Value} {n : Nat} {lo hi r i h : Int} {w w' : World} (h1 : lo ≤ r) (h2 : r ≤ hi) (h3 : 0 ≤ i) (h4 : i ≤ n) (hB : B < w.heap.size) (ho : OneB B w w')
    (hc : w'.heap[B]? = some (.cells #[v, .int .i64 i, .int .i64 h] T (0, 0))) : DrawnN T B v n lo hi w (.returned (.int .i64 r)) w' := by
  obtain ⟨g, rfl⟩ := ho.form hB hc
  exact ⟨r, i, h, g, h1, h2, h3, h4, rfl, rfl⟩
theorem DrawnN.le {T : TypeId} {B : Nat} {v : Value} {n : Nat} {lo hi lo' hi' : Int} {w w' : World} {e : Ending} (h : DrawnN T B v n lo hi w e w') (h1 : lo' ≤ lo) (h2 : hi ≤ hi') : DrawnN T B v n lo' hi' w e w' := by
  obtain ⟨r, i, k, g, a1, a2, a3⟩ := h
  exact ⟨r, i, k, g, by omega, by omega, a3⟩
def NewCur (T : TypeId) (v : Value) (w : World) (e : Ending) (w' : World) : Prop := ∃ B h, e = .returned (.pointer (some ⟨B, 0, none⟩)) ∧ w.heap.size ≤ B ∧ Ex w w' ∧ w'.heap[B]? = some (.cells #[v, .int .i64 0, .int .i64 h] T (0, 0))
end Go
namespace Go.Proofs.YtbdcaacpemkloaaGreat
open Go.RowKit
set_option linter.unusedVariables false
set_option maxHeartbeats 1000000 in
theorem l01New_any (v : Value) (code : List UInt8) (w : World) (k1 : Holds w code [v]) :
    Calls Tryz.prog 54 #[v] w (NewCur 204 v w) := by
  obtain ⟨a, cap, hv, h1, h2, h3⟩ := k1.bytes
  simp only [List.cons.injEq, and_true] at hv
  subst hv
  unfold maxLen at h2
  clear k1
  go_enter Tryz.func54, Tryz.ntmps54
  go_wp2
  go_loop [3, 4] (fun h i => ∃ (k : Nat) (x : Int), k ≤ code.length ∧ i = .int .i64 k ∧ h = .int .i64 x) (fun _ i => code.length - (intOf i).toNat)
  case atStart => exact ⟨0, _, Nat.zero_le _, rfl, rfl⟩
  case round =>
    obtain ⟨k, x, hk, rfl, rfl⟩ := hrel
    by_cases hlt : k < code.length
    · by_cases h4 : (k : Int) < 4000
      · obtain ⟨b, off, rfl, hc⟩ := h3 k hlt
        generalize code[k] = y at *
        clear h3
        go_wp2
        go_round
        case rel => exact ⟨k + 1, _, by omega, by go_num, rfl⟩
        case measure => simp [intOf]; omega
      · clear h3
        go_wp2
        go_ret
        exact ⟨_, _, rfl, Nat.le_refl _, (Ex.refl _).alloc _, row_alloc _ _⟩
    · clear h3
      go_wp2
      go_ret
      exact ⟨_, _, rfl, Nat.le_refl _, (Ex.refl _).alloc _, row_alloc _ _⟩
set_option maxHeartbeats 2000000 in
theorem l01Byte_any (B : Nat) (v : Value) (code : List UInt8) (w0 w : World) (hcu : Cu 204 w0 B v code w) :
    Calls Tryz.prog 151 #[.pointer (some ⟨B, 0, none⟩)] w (DrawnN 204 B v code.length 0 255 w) := by
  obtain ⟨hx, k1, hlo, hc⟩ := hcu
  obtain ⟨a, cap, hv, h1, h2, h3⟩ := k1.bytes
  simp only [List.cons.injEq, and_true] at hv
  subst hv
  unfold maxLen at h2
  obtain ⟨i, h, hB, i0, i1⟩ := hc
  have lB := row_lt hB
  have c0 : w.cell? ⟨B, 0, none⟩ = some (.slice a code.length cap) := by rw [cell_row hB]; rfl
  have c1 : w.cell? ⟨B, 1, none⟩ = some (.int .i64 i) := by rw [cell_row hB]; rfl
  have c2 : w.cell? ⟨B, 2, none⟩ = some (.int .i64 h) := by rw [cell_row hB]; rfl
  have f1 : w.frozen? ⟨B, 1, none⟩ = false := frozen_row hB _
  have f2 : w.frozen? ⟨B, 2, none⟩ = false := frozen_row hB _
  have HB := hid hB
  have HX := hid hx
  clear k1 hB hx
  by_cases hlt : i < code.length
  · obtain ⟨k, rfl⟩ := Int.eq_ofNat_of_zero_le i0
    obtain ⟨b, off, rfl, hc⟩ := h3 k (by omega)
    have lb0 : b < w0.heap.size := World.block_lt_of_cell? _ _ hc
    have hne : b ≠ B := by omega
    replace hc := (HX.out.cell lb0).trans hc
    have lb := World.block_lt_of_cell? _ _ hc
    clear lb0 hlo
    have hlt' : k < code.length := by omega
    generalize code[k] = y at *
    clear h3
    go_enter Tryz.func151, Tryz.ntmps151
    go_wp2
    refine wp_region_ext (by kernel_rfl) (by kernel_rfl) ?_
    repeat (go_big_quiet_step (fail))
    refine wpQuiet_nil ?_
    intro g
    go_wp2
    refine wp_region_ext (by kernel_rfl) (by kernel_rfl) ?_
    repeat (go_big_quiet_step (fail))
    refine wpQuiet_nil ?_
    intro g
    go_wp2
    refine wp_region_ext (by kernel_rfl) (by kernel_rfl) ?_
    repeat (go_big_quiet_step (fail))
    refine wpQuiet_nil ?_
    intro g
    go_wp2
    go_ret
    exact DrawnN.of (h := wrap64 (wrap64 (h * 6364136223846793005) + 1442695040888963407)) (and255_bd _).1 (and255_bd _).2 (i := (k : Int) + 1) (by omega) (by omega) lB (by repeat (first | exact OneB.refl _ _ | apply OneB.plus | apply OneB.drew | apply OneB.setCell)) (by repeat (first | exact row_setCell (row_setCell HB.out _ _) _ _ | refine Ex.row ((Ex.refl _).plus _) ?_))
  · clear h3
    go_enter Tryz.func151, Tryz.ntmps151
    go_wp2
    refine wp_region_ext (by kernel_rfl) (by kernel_rfl) ?_
    repeat (go_big_quiet_step (fail))
    refine wpQuiet_nil ?_
    intro g
    go_wp2
    refine wp_region_ext (by kernel_rfl) (by kernel_rfl) ?_
    repeat (go_big_quiet_step (fail))
    refine wpQuiet_nil ?_
    intro g
    go_wp2
    go_ret
    exact DrawnN.of (h := wrap64 (wrap64 (h * 6364136223846793005) + 1442695040888963407)) (and255_bd _).1 (and255_bd _).2 (i := i) (by omega) (by omega) lB (by repeat (first | exact OneB.refl _ _ | apply OneB.plus | apply OneB.drew | apply OneB.setCell)) (by repeat (first | exact row_setCell HB.out _ _ | refine Ex.row ((Ex.refl _).plus _) ?_))
set_option maxHeartbeats 1000000 in
theorem l01Below_byte (B : Nat) (v : Value) (code : List UInt8) (n : Int) (w0 w : World) (hcu : Cu 204 w0 B v code w) (h0 : 1 ≤ n) (h1 : n ≤ 256) :
    Calls Tryz.prog 57 #[.pointer (some ⟨B, 0, none⟩), .int .i64 n] w (DrawnN 204 B v code.length 0 (n - 1) w) := by
  have lB := hcu.lt
  go_enter Tryz.func57, Tryz.ntmps57
  go_wp2_with (go_at_call 151; (with_reducible refine (l01Byte_any B v code w0 _ (by repeat (first | exact hcu | apply Cu.plus | apply Cu.alloc | apply Cu.drew | refine Cu.upd ?_ (by assumption) (by assumption)))).mono ?_); rintro e w' ⟨r, i, h, g, r0, r1, i0, i1, rfl, rfl⟩)
  go_ret
  exact ⟨_, i, h, g, Int.emod_nonneg _ (by omega), emod_le _ (by omega), i0, i1, rfl, rfl⟩
set_option maxHeartbeats 1000000 in
theorem l01Below_wide (B : Nat) (v : Value) (code : List UInt8) (n : Int) (w0 w : World) (hcu : Cu 204 w0 B v code w) (h0 : 257 ≤ n) (h1 : n ≤ 1000000000) :
    Calls Tryz.prog 57 #[.pointer (some ⟨B, 0, none⟩), .int .i64 n] w (DrawnN 204 B v code.length 0 (n - 1) w) := by
  have lB := hcu.lt
  go_enter Tryz.func57, Tryz.ntmps57
  go_wp2_with (go_at_call 151; (with_reducible refine (l01Byte_any B v code w0 _ (by repeat (first | exact hcu | apply Cu.plus | apply Cu.alloc | apply Cu.drew | refine Cu.upd ?_ (by assumption) (by assumption)))).mono ?_); rintro e w' ⟨r, i, h, g, r0, r1, i0, i1, rfl, rfl⟩)
  go_ret
  exact ⟨_, _, _, _, Int.emod_nonneg _ (by omega), emod_le _ (by omega), by assumption, by assumption, rfl, rfl⟩
theorem l01Below_any (B : Nat) (v : Value) (code : List UInt8) (n : Int) (w0 w : World) (hcu : Cu 204 w0 B v code w) (h0 : 1 ≤ n) (h1 : n ≤ 1000000000) :
    Calls Tryz.prog 57 #[.pointer (some ⟨B, 0, none⟩), .int .i64 n] w (DrawnN 204 B v code.length 0 (n - 1) w) := by
  by_cases h : n ≤ 256
  · exact l01Below_byte B v code n w0 w hcu h0 h
  · exact l01Below_wide B v code n w0 w hcu (by omega) h1
end Go.Proofs.YtbdcaacpemkloaaGreat
end
section
namespace Go.Proofs.YtbdcaacpemkloaaGreat
open Go.RowKit
set_option linter.unusedVariables false
end Go.Proofs.YtbdcaacpemkloaaGreat
end
section
namespace Go
open Go.RowKit
set_option linter.unusedVariables false
def curA (T : TypeId) (B : Nat) (v : Value) (n : Nat) : Asn where
  P w F := CurAt T w B v n ∧ ∀ c, F c ↔ c = B
  stable := by
    rintro w w' F ⟨⟨i, h, h1, h2⟩, h3⟩ hs
    exact ⟨⟨i, h, (hs B ((h3 B).2 rfl)).trans h1, h2⟩, h3⟩
  lt h b hb := by rw [(h.2 b).1 hb]; exact h.1.lt
section
variable {T : TypeId} {w0 w w' : World} {Is Js : List Asn} {B : Nat} {v : Value} {code : List UInt8}
theorem St.cu (HS : St w0 w Is) (t : Take Is (curA T B v code.length) Js) (hc : Holds w0 code [v]) : Cu T w0 B v code w := by
  have h := HS.take t
  obtain ⟨hx, F, ⟨F1, F2, ⟨h1, h2⟩, h3, h4, h5⟩, h6⟩ := h
  exact ⟨hx, hc, h6 B ((h5 B).2 (.inl ((h2 B).2 rfl))), h1⟩
theorem St.drawn {n : Nat} {lo hi : Int} {e : Ending} (HS : St w0 w Is) (t : Take Is (curA T B v n) Js) (hd : DrawnN T B v n lo hi w e w') :
    ∃ r : Int, lo ≤ r ∧ r ≤ hi ∧ e = .returned (.int .i64 r) ∧ St w0 w' (curA T B v n :: Js) := by
  obtain ⟨r, i, h, g, h1, h2, h3, h4, rfl, rfl⟩ := hd
  refine ⟨r, h1, h2, rfl, ?_⟩
  refine (HS.take t).turn rfl rfl rfl (by simp) fun F hF => ⟨fun b hb hn => ?_, F, ⟨?_, hF.2⟩, fun c hc => .inl hc⟩
  · rw [show ∀ (w : World) (g : Gr), (w.plus g).heap = w.heap ++ g.o from fun _ _ => rfl, Array.getElem?_append_left (by simpa using hb), World.block_upd _ _ _ (fun h => hn ((hF.2 b).2 (by simpa using h)))]
  · exact (CurAt.upd hF.1.lt h3 h4).plus g
theorem St.newCur {e : Ending} (HS : St w0 w Is) (hd : NewCur T v w e w') (n : Nat) : ∃ B, e = .returned (.pointer (some ⟨B, 0, none⟩)) ∧ St w0 w' (curA T B v n :: Is) := by
  obtain ⟨B, h, rfl, h1, h2, h3⟩ := hd
  exact ⟨B, rfl, HS.add h2 (A := curA T B v n) (F := fun c => c = B) ⟨⟨0, h, h3, Int.le_refl _, by omega⟩, fun _ => Iff.rfl⟩ fun b hb => by rw [hb]; exact h1⟩
end
end Go
namespace Go.Proofs.YtbdcaacpemkloaaGreat
open Go.RowKit
set_option linter.unusedVariables false
end Go.Proofs.YtbdcaacpemkloaaGreat
end
section
namespace Go.Vc
open Go Go.RowKit
set_option linter.unusedVariables false
set_option linter.unusedSectionVars false
set_option linter.unusedSimpArgs false
set_option linter.unnecessarySimpa false
def vQ (Ψ : Value → Prop) : RdP where
  P _ u := Ψ u ∧ u.oneCell' = true
  ex h _ := h
  one h := h.2
def pinQ (v : Value) (code : List UInt8) : RdP where
  P w u := u = v ∧ Holds w code [v] ∧ u.oneCell' = true
  ex h hx := ⟨h.1, h.2.1.ex hx, h.2.2⟩
  one h := h.2.2
def cpQ (b : Nat) (v : Value) (code : List UInt8) : RdP where
  P w u := u = .pointer (some ⟨b, 0, none⟩) ∧ Holds w code [v]
  ex h hx := ⟨h.1, h.2.ex hx⟩
  one h := by obtain ⟨rfl, _⟩ := h; rfl
def oneQ : RdP where
  P _ u := u.oneCell' = true
  ex h _ := h
  one h := h
def cuOw (CT : TypeId) (b : Nat) (v : Value) (n : Nat) : OwP where
  A u := { P := fun w F => u = .pointer (some ⟨b, 0, none⟩) ∧ (curA CT b v n).P w F
           stable := fun h hs => ⟨h.1, (curA CT b v n).stable h.2 hs⟩
           lt := fun h => (curA CT b v n).lt h.2 }
  Q := oneQ
  rd := by rintro w F u ⟨rfl, _⟩; rfl
def frOw (L : List Asn) : OwP where
  A u := { P := fun w F => u = .bool true ∧ SepL w L F
           stable := fun h hs => ⟨h.1, SepL.stable h.2 hs⟩
           lt := fun h b hb => SepL.lt h.2 b hb }
  Q := oneQ
  rd := by rintro w F u ⟨rfl, _⟩; rfl
def FnOk (P : Program) (f : FuncId) : Prop := ∃ fn, P.funcs[f]? = some fn ∧ (fn.name == "runtime.NumGoroutine") = false ∧ fn.body.isNone = false
def After (w0 : World) (base : Nat) (res : AV) (Hr : Hp) (Is Js : List Asn) (e : Ending) (w' : World) : Prop :=
  ∃ u ρ, e = .returned u ∧ AR w0 (dom (shH base Hr)) ρ (shA base res) u ∧ ((shH base Hr).map (·.1)).Nodup ∧ ∃ As, F2 (BR w0 (dom (shH base Hr)) ρ) (shH base Hr) As ∧ St w0 w' (Is ++ (As ++ Js))
def ConC (P : Program) (f : FuncId) (CT : TypeId) (b : Nat) (v : Value) (code : List UInt8) (us : List Value) {α : Type} (Φ : α → Prop) (res : α → AV) (Hr : α → Hp) : Prop :=
  FnOk P f ∧ ∀ (w0 w : World) (Js : List Asn), St w0 w (curA CT b v code.length :: Js) → Holds w0 code [v] → ∀ base : Nat, Calls P f (.pointer (some ⟨b, 0, none⟩) :: us).toArray w fun e w' => ∃ x, Φ x ∧ After w0 base (res x) (Hr x) [curA CT b v code.length] Js e w'
def ConV (P : Program) (f : FuncId) (v : Value) (code : List UInt8) {α : Type} (Φ : α → Prop) (res : α → AV) (Hr : α → Hp) : Prop :=
  FnOk P f ∧ ∀ (w0 w : World) (Js : List Asn), St w0 w Js → Holds w0 code [v] → ∀ base : Nat, Calls P f [v].toArray w fun e w' => ∃ x, Φ x ∧ After w0 base (res x) (Hr x) [] Js e w'
theorem upd_new : ∀ (δ H : Hp), (∀ k b, (k, b) ∈ δ → lk H k = none) → (δ.map (·.1)).Nodup → updH H δ = H ++ δ := by
  intro δ
  induction δ with
  | nil => intro H _ _; simp [updH]
  | cons x δ ih =>
    intro H hf hn
    obtain ⟨k, b⟩ := x
    simp only [List.map_cons, List.nodup_cons] at hn
    simp only [updH]
    rw [upd1_new b (hf k b (List.mem_cons_self ..)), ih _ (fun k' b' hb' => ?_) hn.2]
    · simp
    · have h0 := hf k' b' (List.mem_cons_of_mem _ hb')
      rw [← upd1_new b (hf k b (List.mem_cons_self ..)), lk_upd1, if_neg]
      · exact h0
      · rintro rfl; exact hn.1 (List.mem_map_of_mem (f := (·.1)) hb')
theorem BR.arrs {w0 : World} {D D' : Nat → Prop} {ρ ρ' : Nat → Value} {k k' : Nat} {b : Blk} {A : Asn} (ha : arrs [(k, b)] = true) (he : ρ' k' = ρ k) (h : BR w0 D ρ (k, b) A) : BR w0 D' ρ' (k', b) A := by
  cases b with
  | arr E sz es => exact ⟨h.1, by rw [he]; exact h.2⟩
  | own X => show A = X.A (ρ' k'); rw [he]; exact h
  | row T cs => simp [Go.Vc.arrs] at ha
  | byt s => simp [Go.Vc.arrs] at ha
  | dead => simp [Go.Vc.arrs] at ha
section
variable {P : Program} {w0 w w' : World} {ρ ρ' : Nat → Value} {n : Nat} {t : Tm} {H : Hp} {a : Act}
theorem run_enter {o : Oper} {f : FuncId} {args : Array Operand} {ats : Array TypeId} (ho : o.op = .call { callee := .value (.func f), args := args, argTypes := ats }) (hf : FnOk P f) : (execOp a.eval o).run P w = .ok (.enter f (args.map a.eval)) w := by
  obtain ⟨fn, hfn, hname, hbody⟩ := hf
  have hev : a.eval (.func f) = .func (.func f) #[] #[] := rfl
  have hn' : ¬ fn.name = "runtime.NumGoroutine" := by simpa using hname
  have hb' : ¬ fn.body = none := by intro e; simp [e] at hbody
  simp [execOp, ho, resolve, hev, Deferred.ofValue, invoke, callFunc, hfn, hn', hb']
theorem Rel.vals {us : List Value} : ∀ {xs : List Operand}, Rel w0 w ρ n t H a → xs.map (evo (gt t)) = us.map (fun u => .one (.v u)) → xs.map a.eval = us := by
  induction us with
  | nil => intro xs _ h; cases xs with
    | nil => rfl
    | cons x xs => simp at h
  | cons u us ih =>
    intro xs hr h
    cases xs with
    | nil => simp at h
    | cons x xs =>
      simp only [List.map_cons, List.cons.injEq] at h ⊢
      have := hr.ev x
      rw [h.1] at this
      exact ⟨this.1, ih hr h.2⟩
theorem Rel.draw {o : Oper} {f : FuncId} {c : Operand} {xs : List Operand} {ats : Array TypeId} {CT : TypeId} {b kc d : Nat} {v : Value} {code : List UInt8} {us : List Value} {α : Type} {Φ : α → Prop} {res : α → AV} {Hr : α → Hp} {Q : Exit → Act → World → Prop} {K : Act → World → Prop}
    (hr : Rel w0 w ρ n t H a) (ho : o.op = .call { callee := .value (.func f), args := (c :: xs).toArray, argTypes := ats }) (hc : ConC P f CT b v code us Φ res Hr) (hx : evo (gt t) c = .one (.rd (cpQ b v code))) (hy : xs.map (evo (gt t)) = us.map (fun u => .one (.v u))) (hk : lk H kc = some (.own (cuOw CT b v code.length)))
    (hfr : ∀ x k b, (k, b) ∈ shH d (Hr x) → lk H k = none) (hd : ∀ d, o.dst = some d → d < n)
    (h : ∀ x ρ' a' w', Φ x → Rel w0 w' ρ' n (putT t o.dst (shA d (res x))) (updH H (shH d (Hr x))) a' → K a' w') : o.wp P a w K Q := by
  obtain ⟨Bs, b1, b2⟩ := hr.hp
  have p1 : H.Perm ((kc, .own (cuOw CT b v code.length)) :: offK kc H) := by have := upd1_perm (.own (cuOw CT b v code.length)) hr.nd hk; rwa [upd1_same hk] at this
  obtain ⟨Ds, d1, d2⟩ := F2.perm p1 b1
  cases d2 with
  | @cons _ X _ Es x1 x2 =>
    have hX : X = (cuOw CT b v code.length).A (ρ kc) := x1
    subst hX
    have s1 : St w0 w ((cuOw CT b v code.length).A (ρ kc) :: Es) := St.perm b2 d1
    obtain ⟨F, hF⟩ := s1.head
    have hρ := hF.1
    have hcur : St w0 w (curA CT b v code.length :: Es) := s1.same fun F hF => ⟨F, hF.2, fun _ h => h⟩
    have hp := hr.ev c
    rw [hx] at hp
    obtain ⟨hp, hh⟩ := hp
    have hvs := hr.vals hy
    obtain ⟨hfn, hcall⟩ := hc
    unfold Oper.wp
    rw [run_enter ho hfn, Oper.upon_enter]
    have e2 : (c :: xs).toArray.map a.eval = (.pointer (some ⟨b, 0, none⟩) :: us).toArray := by
      rw [List.map_toArray, List.map_cons, hp, hvs]
    rw [e2]
    refine (hcall w0 w Es hcur hh d).mono fun e w' hq => ?_
    obtain ⟨x, hΦ, u, ρ', rfl, g1, g2, As, g3, g4⟩ := hq
    have hback : St w0 w' ((cuOw CT b v code.length).A (ρ kc) :: (As ++ Es)) := g4.same fun F hF => ⟨F, ⟨hρ, hF⟩, fun _ h => h⟩
    let ρ2 : Nat → Value := fun k => if k ∈ (shH d (Hr x)).map (·.1) then ρ' k else ρ k
    have e := upd_new (shH d (Hr x)) H (hfr x) g2
    have hnot : ∀ k, dom H k → k ∉ (shH d (Hr x)).map (·.1) := fun k hk hm => by
      obtain ⟨⟨k', b⟩, hb, rfl⟩ := List.mem_map.1 hm
      exact lk_nd (hfr x _ _ hb) hk
    have hD1 : ∀ k, dom H k → dom (updH H (shH d (Hr x))) k ∧ ρ2 k = ρ k := fun k hk => ⟨by rw [dom_mem, e, List.map_append]; exact List.mem_append_left _ (dom_mem.1 hk), if_neg (hnot k hk)⟩
    have hD2 : ∀ k, dom (shH d (Hr x)) k → dom (updH H (shH d (Hr x))) k ∧ ρ2 k = ρ' k := fun k hk => ⟨by rw [dom_mem, e, List.map_append]; exact List.mem_append_right _ (dom_mem.1 hk), if_pos (dom_mem.1 hk)⟩
    have c1 : F2 (BR w0 (dom (updH H (shH d (Hr x)))) ρ2) ((kc, .own (cuOw CT b v code.length)) :: offK kc H) ((cuOw CT b v code.length).A (ρ kc) :: Es) :=
      (F2.cons (show BR w0 (dom H) ρ (kc, .own (cuOw CT b v code.length)) _ from rfl) x2).mono fun y _ hy r => BR.ext hD1 (dom_mem.2 (by
        have := p1.symm.subset hy
        exact List.mem_map_of_mem (f := fun z : Nat × Blk => z.1) this)) r
    obtain ⟨Cs, c2, c3⟩ := F2.perm p1.symm c1
    have a2 : F2 (BR w0 (dom (updH H (shH d (Hr x)))) ρ2) (shH d (Hr x)) As := g3.mono fun y _ hy r => BR.ext hD2 (dom_mem.2 (List.mem_map_of_mem (f := fun z : Nat × Blk => z.1) hy)) r
    have hR : Rel w0 w' ρ2 n t (updH H (shH d (Hr x))) a := by
      refine ⟨hr.sz, hr.df, fun k => (hr.tm k).ext hD1, ⟨Cs ++ As, ?_, ?_⟩, ?_⟩
      · have a3 := F2.app c3 a2
        rw [e] at a3 ⊢
        exact a3
      · refine St.perm hback ?_
        exact (List.Perm.cons _ (List.perm_append_comm (l₁ := As) (l₂ := Es))).trans (c2.append_right As)
      · rw [e, List.map_append, List.nodup_append]
        exact ⟨hr.nd, g2, fun a ha b hb e => hnot a (dom_mem.2 ha) (e ▸ hb)⟩
    exact h x ρ2 _ w' hΦ (hR.put (g1.ext hD2) hd)
end
def SV (P : Program) (n : Nat) (ops : List Oper) (K : Tm → Hp → Prop) (os : List Oper) (t : Tm) (H : Hp) : Prop :=
  ∀ (w0 w : World) (ρ : Nat → Value) (a : Act) (Q : Exit → Act → World → Prop), Rel w0 w ρ n t H a → (∀ a w ρ t' H', Rel w0 w ρ n t' H' a → K t' H' → Q .normal a w) → wpList P ops.toArray Q os a w
section
variable {P : Program} [TyEnv P] {n : Nat} {ops os : List Oper} {K : Tm → Hp → Prop} {t t' : Tm} {H H' : Hp} {fp : List Fp} {o : Oper}
theorem vc_sv {K : Post} {id : Nat} {l : List Oper} (h : SV P n l (K .normal) l t H) : VC P n (.region id l.toArray false) K t H := fun w0 w ρ a hr =>
  wp_region_lit (h w0 w ρ a _ hr fun a w ρ t' H' h1 h2 => ⟨ρ, t', H', h1, h2⟩)
theorem sv_good {v : AV} {δ rs : Hp} (hd : ∀ d, o.dst = some d → d < n) (hg : o.guard = none) (hs : Good P o (gt t) H v δ rs) (h : SV P n ops K os (putT t o.dst v) (updH H δ)) : SV P n ops K (o :: os) t H := fun w0 w ρ a Q hr hQ => by
  simp only [wpList]
  have hw : Region.wanted o (yielded ops.toArray a.tmps) = true := by unfold Region.wanted; rw [hg]
  rw [if_pos hw]
  exact .inl (Oper.wp_mono (fun a' w' ⟨ρ', h'⟩ => h w0 w' ρ' a' Q h' hQ) (hs.1 w0 w ρ n _ _ a Q hr (fun k hk => rfl) hs.2.1 hs.2.2 hd))
theorem svo {v : AV} {δ rs : Hp} {k1 k2 : List Nat} (h : SV P n ops K os t' H') (hd : dstB o.dst n = true := by rfl) (hg : o.guard = none := by rfl) (hs : vstep P o (gt t) H (EqK v δ rs) := by repeat (first | exact eqK_i | refine onO_i rfl ?_ | refine onO2_i rfl ?_ | refine onO3_i rfl ?_ | refine need_i side ?_ | refine ldxm_i side ?_ | refine ldxb_i side ?_)) (ht : stF o.dst v δ rs t H = some (t', H', k1, k2) := by rfl) : SV P n ops K (o :: os) t H := by
  obtain ⟨e1, e2, _⟩ := stF_some ht
  exact sv_good (dstB_ok hd) hg (good_v hs) (by rw [e1, e2]; exact h)
theorem sve {f : FuncId} {c : Operand} {xs : List Operand} {ats : Array TypeId} {CT : TypeId} {b d : Nat} {v : Value} {code : List UInt8} {us : List Value} {α : Type} {Φ : α → Prop} {res : α → AV} {Hr : α → Hp} {tF : α → Tm} {HF : α → Hp} {k1 k2 : α → List Nat} (hc : ConC P f CT b v code us Φ res Hr) (h : ∀ x, Φ x → SV P n ops K os (tF x) (HF x)) (kc : Nat) (hd : dstB o.dst n = true := by rfl) (hg : o.guard = none := by rfl) (ho : o.op = .call { callee := .value (.func f), args := (c :: xs).toArray, argTypes := ats } := by rfl) (hx : evo (gt t) c = .one (.rd (cpQ b v code)) := by rfl) (hy : xs.map (evo (gt t)) = us.map (fun u => .one (.v u)) := by rfl) (hk : lk H kc = some (.own (cuOw CT b v code.length)) := by rfl) (hdd : o.dst = some d := by rfl)
    (hfr : ∀ x, (shH (8 * d) (Hr x)).all (fun p => (lk H p.1).isNone) = true := by intro x; rfl) (ht : ∀ x, stF o.dst (shA (8 * d) (res x)) (shH (8 * d) (Hr x)) [] t H = some (tF x, HF x, k1 x, k2 x) := by intro x; rfl) : SV P n ops K (o :: os) t H := fun w0 w ρ a Q hr hQ => by
  simp only [wpList]
  have hw : Region.wanted o (yielded ops.toArray a.tmps) = true := by unfold Region.wanted; rw [hg]
  rw [if_pos hw]
  refine .inl (hr.draw (d := 8 * d) ho hc hx hy hk (fun x k bb hb => ?_) (dstB_ok hd) fun x ρ' a' w' hΦ h' => ?_)
  · have := List.all_eq_true.1 (hfr x) _ hb
    simpa using this
  · obtain ⟨e1, e2, _⟩ := stF_some (ht x)
    rw [e1, e2] at h'
    exact h x hΦ w0 w' ρ' a' Q h' hQ
theorem svv {f : FuncId} {c : Operand} {ats : Array TypeId} {d : Nat} {v : Value} {code : List UInt8} {α : Type} {Φ : α → Prop} {res : α → AV} {Hr : α → Hp} {tF : α → Tm} {HF : α → Hp} {k1 k2 : α → List Nat} (hc : ConV P f v code Φ res Hr) (h : ∀ x, Φ x → SV P n ops K os (tF x) (HF x)) (hd : dstB o.dst n = true := by rfl) (hg : o.guard = none := by rfl) (ho : o.op = .call { callee := .value (.func f), args := #[c], argTypes := ats } := by rfl) (hx : evo (gt t) c = .one (.rd (pinQ v code)) := by rfl) (hdd : o.dst = some d := by rfl)
    (hfr : ∀ x, (shH (8 * d) (Hr x)).all (fun p => (lk H p.1).isNone) = true := by intro x; rfl) (ht : ∀ x, stF o.dst (shA (8 * d) (res x)) (shH (8 * d) (Hr x)) [] t H = some (tF x, HF x, k1 x, k2 x) := by intro x; rfl) : SV P n ops K (o :: os) t H := fun w0 w ρ a Q hr hQ => by
  simp only [wpList]
  have hw : Region.wanted o (yielded ops.toArray a.tmps) = true := by unfold Region.wanted; rw [hg]
  rw [if_pos hw]
  left
  obtain ⟨Bs, b1, b2⟩ := hr.hp
  have hp := hr.ev c
  rw [hx] at hp
  obtain ⟨hp, hh, _⟩ := hp
  obtain ⟨hfn, hcall⟩ := hc
  unfold Oper.wp
  rw [run_enter ho hfn, Oper.upon_enter]
  have e2 : #[c].map a.eval = [v].toArray := by simp [hp]
  rw [e2]
  refine (hcall w0 w Bs b2 hh (8 * d)).mono fun e w' hq => ?_
  obtain ⟨x, hΦ, u, ρ', rfl, g1, g2, As, g3, g4⟩ := hq
  have hf : ∀ k b, (k, b) ∈ shH (8 * d) (Hr x) → lk H k = none := fun k bb hb => by
    have := List.all_eq_true.1 (hfr x) _ hb
    simpa using this
  let ρ2 : Nat → Value := fun k => if k ∈ (shH (8 * d) (Hr x)).map (·.1) then ρ' k else ρ k
  have e := upd_new (shH (8 * d) (Hr x)) H hf g2
  have hnot : ∀ k, dom H k → k ∉ (shH (8 * d) (Hr x)).map (·.1) := fun k hk hm => by
    obtain ⟨⟨k', b⟩, hb, rfl⟩ := List.mem_map.1 hm
    exact lk_nd (hf _ _ hb) hk
  have hD1 : ∀ k, dom H k → dom (updH H (shH (8 * d) (Hr x))) k ∧ ρ2 k = ρ k := fun k hk => ⟨by rw [dom_mem, e, List.map_append]; exact List.mem_append_left _ (dom_mem.1 hk), if_neg (hnot k hk)⟩
  have hD2 : ∀ k, dom (shH (8 * d) (Hr x)) k → dom (updH H (shH (8 * d) (Hr x))) k ∧ ρ2 k = ρ' k := fun k hk => ⟨by rw [dom_mem, e, List.map_append]; exact List.mem_append_right _ (dom_mem.1 hk), if_pos (dom_mem.1 hk)⟩
  have hR : Rel w0 w' ρ2 n t (updH H (shH (8 * d) (Hr x))) a := by
    refine ⟨hr.sz, hr.df, fun k => (hr.tm k).ext hD1, ⟨Bs ++ As, ?_, ?_⟩, ?_⟩
    · have a1 : F2 (BR w0 (dom (updH H (shH (8 * d) (Hr x)))) ρ2) H Bs := b1.mono fun y _ hy r => BR.ext hD1 (dom_mem.2 (List.mem_map_of_mem (f := fun z : Nat × Blk => z.1) hy)) r
      have a2 : F2 (BR w0 (dom (updH H (shH (8 * d) (Hr x)))) ρ2) (shH (8 * d) (Hr x)) As := g3.mono fun y _ hy r => BR.ext hD2 (dom_mem.2 (List.mem_map_of_mem (f := fun z : Nat × Blk => z.1) hy)) r
      have a3 := F2.app a1 a2
      rw [e] at a3 ⊢
      exact a3
    · exact St.perm g4 (List.perm_append_comm (l₁ := As) (l₂ := Bs))
    · rw [e, List.map_append, List.nodup_append]
      exact ⟨hr.nd, g2, fun a ha b hb e => hnot a (dom_mem.2 ha) (e ▸ hb)⟩
  have h' := hR.put (d := o.dst) (g1.ext hD2) (dstB_ok hd)
  obtain ⟨e3, e4, _⟩ := stF_some (ht x)
  rw [e3, e4] at h'
  exact h x hΦ w0 w' ρ2 _ Q h' hQ
end
def cleanR : PV → Bool
  | .rp .. | .ptr .. | .hv .. | .hc .. => false
  | _ => true
def cleanR1 : AV → Bool
  | .one p => cleanR p
  | .agg ps => ps.all cleanR
  | .tup _ => false
  | .junk => true
def cleanRA : AV → Bool
  | .tup vs => vs.all cleanR1
  | x => cleanR1 x
section
variable {w0 : World} {ρ : Nat → Value}
theorem shR_ok {b : Nat} {Hr : Hp} {p : PV} {u : Value} (h : R w0 (dom Hr) ρ p u) (hc : cleanR p = true) : R w0 (dom (shH b Hr)) (fun k => ρ (k - b)) (shP b p) u := by
  cases p <;> first | exact h | (simp [cleanR] at hc; done) | skip
  rename_i k
  obtain ⟨h1, h2, h3⟩ := h
  refine ⟨?_, by simp only [Nat.add_sub_cancel_left]; exact h2, h3⟩
  rw [dom_mem] at h1 ⊢
  obtain ⟨x, hx, rfl⟩ := List.mem_map.1 h1
  unfold shH
  rw [List.map_map]
  exact List.mem_map.2 ⟨x, hx, rfl⟩
theorem shRL_ok {b : Nat} {Hr : Hp} : ∀ {ps : List PV} {us : List Value}, F2 (R w0 (dom Hr) ρ) ps us → ps.all cleanR = true → F2 (R w0 (dom (shH b Hr)) (fun k => ρ (k - b))) (ps.map (shP b)) us
  | [], _, .nil, _ => .nil
  | p :: ps, _, .cons h hr, hc => by
    simp only [List.all_cons, Bool.and_eq_true] at hc
    exact .cons (shR_ok h hc.1) (shRL_ok hr hc.2)
theorem shR1_ok {b : Nat} {Hr : Hp} {p : AV} {u : Value} (h : AR1 w0 (dom Hr) ρ p u) (hc : cleanR1 p = true) : AR1 w0 (dom (shH b Hr)) (fun k => ρ (k - b)) (shA1 b p) u := by
  cases p with
  | one p => exact shR_ok h hc
  | agg ps => obtain ⟨us, h1, h2⟩ := h; exact ⟨us, h1, shRL_ok h2 hc⟩
  | tup vs => exact h.elim
  | junk => trivial
theorem shRA_ok {b : Nat} {Hr : Hp} {p : AV} {u : Value} (h : AR w0 (dom Hr) ρ p u) (hc : cleanRA p = true) : AR w0 (dom (shH b Hr)) (fun k => ρ (k - b)) (shA b p) u := by
  cases p with
  | tup vs =>
    obtain ⟨us, h1, h2⟩ := h
    refine ⟨us, h1, ?_⟩
    replace hc : vs.all cleanR1 = true := hc
    clear h1
    induction h2 with
    | nil => exact .nil
    | cons h k ih =>
      simp only [List.all_cons, Bool.and_eq_true] at hc
      exact .cons (shR1_ok h hc.1) (ih hc.2)
  | one p => exact AR.of1 (p := .one (shP b p)) (shR1_ok (p := .one p) h hc)
  | agg p => exact AR.of1 (p := .agg (p.map (shP b))) (shR1_ok (p := .agg p) h hc)
  | junk => trivial
theorem brR_sh {D : Nat → Prop} {b : Nat} {Hr : Hp} : ∀ {G : Hp} {As : List Asn}, F2 (BR w0 D ρ) G As → arrs G = true → F2 (BR w0 (dom (shH b Hr)) (fun k => ρ (k - b))) (shH b G) As
  | [], _, .nil, _ => .nil
  | (k, x) :: G, _, .cons h hr, hc => by
    have h1 : arrs [(k, x)] = true := by
      simp only [arrs, List.all_cons, Bool.and_eq_true] at hc ⊢
      exact ⟨hc.1, rfl⟩
    have h2 : arrs G = true := by
      simp only [arrs, List.all_cons, Bool.and_eq_true] at hc ⊢
      exact hc.2
    exact .cons (BR.arrs (k := k) (k' := b + k) h1 (by simp) h) (brR_sh hr h2)
end
def FinG (P : Program) [TyEnv P] (rs : List ResultVar) (G : Hp) {α : Type} (Φ : α → Prop) (res : α → AV) (Hr : α → Hp) : Post := fun e t H =>
  (e = .normal ∨ e = .ret) ∧ ∃ vs, resL P t H rs = some vs ∧ vs.all untup = true ∧ ∃ x, Φ x ∧ cleanRA (res x) = true ∧ arrs (Hr x) = true ∧ ∃ r : Ren, AW r (Hr x) (res x) (resV vs) ∧ HW r (G ++ Hr x) H (G ++ Hr x) ∧ ((keys (G ++ Hr x)).filterMap (rk r)).Nodup ∧ (keys (G ++ Hr x)).Nodup
theorem fin_g {P : Program} [TyEnv P] {rs : List ResultVar} {G : Hp} {α : Type} {Φ : α → Prop} {res : α → AV} {Hr : α → Hp} {e : Exit} {t : Tm} {H : Hp} {vs : List AV} (x : α) (hΦ : Φ x) (r : Ren) (hv : resL P t H rs = some vs) (h3 : AW r (Hr x) (res x) (resV vs)) (h4 : HW r (G ++ Hr x) H (G ++ Hr x)) (he : e = .normal ∨ e = .ret := by first | exact .inr rfl | exact .inl rfl) (hu : vs.all untup = true := by rfl) (hc : cleanRA (res x) = true := by rfl) (ha : arrs (Hr x) = true := by rfl) (hn : renB r (G ++ Hr x) = true := by rfl) : FinG P rs G Φ res Hr e t H :=
  ⟨he, vs, hv, hu, x, hΦ, hc, ha, r, h3, h4, (renB_ok hn).2, (renB_ok hn).1⟩
section
variable {P : Program} [TyEnv P] {f : FuncId} {fn : Func} {c : Code} {n : Nat} {rs : List ResultVar} {α : Type} {Φ : α → Prop} {res : α → AV} {Hr : α → Hp} {v : Value} {code : List UInt8}
theorem fin_after {w0 w : World} {a : Act} {G : Hp} {Is Js : List Asn} {base : Nat} {fn : Func} (hrs : fn.results = rs.toArray) {e : Exit} (hq : CQ w0 n (FinG P rs G Φ res Hr) e a w) (hG : ∀ ρ As, F2 (BR w0 (fun _ => True) ρ) G As → ∀ Zs, St w0 w (As ++ Zs) → St w0 w (Is ++ (Zs ++ Js)))
    (hGa : arrs G = true) : a.defers = [] ∧ (e = .normal ∨ e = .ret) ∧ ∃ us : List Value, RVs P w a.tmps rs us ∧ ∃ x, Φ x ∧ After w0 base (res x) (Hr x) Is Js (.returned (if h : us.toArray.size = 1 then us.toArray[0] else .tuple us.toArray)) w := by
  obtain ⟨ρ, t, H, hr, he, vs, h1, h2, x, hΦ, hcl, har, r, h3, h4, h5, h6⟩ := hq
  obtain ⟨us, g1, g2⟩ := resL_ok hr h1 h2
  have hrr := Rel.ren hr (t' := []) r trivial h4 h5 h6
  have hval : AR w0 (dom (Hr x)) (mapr r ρ) (res x) (if h : us.toArray.size = 1 then us.toArray[0] else .tuple us.toArray) := by
    refine AW.ok (q := resV vs) h3 (D := dom H) ?_
    cases g1 with
    | nil => exact ⟨[], rfl, .nil⟩
    | cons a b =>
      cases b with
      | nil => exact AR.of1 a
      | cons c d =>
        rw [dif_neg (by simp)]
        exact ⟨_, rfl, .cons a (.cons c d)⟩
  obtain ⟨As, k1, k2⟩ := hrr.hp
  -- the parts of G, and those of the results
  have hsplit : ∀ (G : Hp) {As : List Asn}, F2 (BR w0 (dom (G ++ Hr x)) (mapr r ρ)) (G ++ Hr x) As → True := fun _ _ _ => trivial
  have sp : ∀ (L M : Hp) {D : Nat → Prop} {As : List Asn}, F2 (BR w0 D (mapr r ρ)) (L ++ M) As → ∃ A1 A2, As = A1 ++ A2 ∧ F2 (BR w0 D (mapr r ρ)) L A1 ∧ F2 (BR w0 D (mapr r ρ)) M A2 := by
    intro L
    induction L with
    | nil => intro M D As h; exact ⟨[], As, rfl, .nil, h⟩
    | cons y L ih =>
      intro M D As h
      cases h with
      | cons h k =>
        obtain ⟨A1, A2, rfl, q1, q2⟩ := ih M k
        exact ⟨_ :: A1, A2, rfl, .cons h q1, q2⟩
  obtain ⟨A1, A2, rfl, q1, q2⟩ := sp G (Hr x) k1
  have q1' : F2 (BR w0 (fun _ => True) (mapr r ρ)) G A1 := by
    refine q1.mono fun y A hy h => ?_
    obtain ⟨k, bb⟩ := y
    exact BR.arrs (by
      have := List.all_eq_true.1 hGa _ hy
      simp only [arrs, List.all_cons, List.all_nil, Bool.and_true]
      exact this) rfl h
  have hst := hG _ _ q1' A2 k2
  have hn9 : (((shH base (Hr x))).map (·.1)).Nodup := by
    refine nd_sh ?_
    have h6' : (keys G ++ keys (Hr x)).Nodup := by simpa only [keys, List.map_append] using h6
    exact (List.nodup_append.1 h6').2.1
  exact ⟨hr.df, he, us, g2, x, hΦ, _, fun k => mapr r ρ (k - base), rfl, shRA_ok hval hcl, hn9, A2, brR_sh q2 har, hst⟩
theorem conv_i (hf : P.funcs[f]? = some fn) (hn : fn.ntmps = n) (h : ∀ L : List Asn, VC P n c (FinG P rs [(1000003, .own (frOw L))] Φ res Hr) [(0, .one (.rd (pinQ v code)))] [(1000003, .own (frOw L))]) (hv : v.oneCell' = true) (hb : fn.body = some c := by rfl) (hnm : (fn.name == "runtime.NumGoroutine") = false := by kernel_rfl) (hrs : fn.results = rs.toArray := by rfl) (hargs : Nat.ble 1 n = true := by rfl) : ConV P f v code Φ res Hr := by
  refine ⟨⟨fn, hf, hnm, by rw [hb]; rfl⟩, fun w0 w Js hs hh base => ?_⟩
  refine calls_of_wp hf hb ?_
  rw [hn]
  have hn1 := Nat.le_of_ble_eq_true hargs
  have hrel : Rel w0 w (fun _ => .bool true) n [(0, .one (.rd (pinQ v code)))] [(1000003, .own (frOw Js))] { tmps := [v].toArray ++ Array.replicate (n - [v].toArray.size) undef, defers := [] } := by
    refine ⟨by simp; omega, rfl, fun k => ?_, ⟨[(frOw Js).A (.bool true)], .cons rfl .nil, ?_⟩, by simp⟩
    · simp only [gt]
      split
      · rename_i e; subst e
        have e0 : ([v].toArray ++ Array.replicate (n - [v].toArray.size) undef).getD 0 undef = v := by
          rw [Array.getD_eq_getD_getElem?, Array.getElem?_append_left (by simp)]; simp
        simp only [e0]
        exact ⟨rfl, hh, hv⟩
      · trivial
    · exact (St.joinL (L := Js) (Js := []) (by simpa using hs)).same fun F hF => ⟨F, ⟨rfl, hF⟩, fun _ h => h⟩
  refine Code.wp_mono (fun e a w' hq => ?_) (h Js w0 w _ _ hrel)
  obtain ⟨hdf, he, us, g2, x, hΦ, hA⟩ := fin_after (Is := []) (Js := Js) (base := base) hrs hq (fun ρ As hF Zs hst => by
    cases hF with
    | cons q1 q2 =>
      cases q2
      have q1' : _ = (frOw Js).A (ρ 1000003) := q1
      subst q1'
      have h2 : St w0 w' (joinA Js :: Zs) := hst.same fun F hF => ⟨F, hF.2, fun _ h => h⟩
      exact St.perm h2.unjoin List.perm_append_comm) rfl
  have hrun := g2.run hrs
  rcases he with rfl | rfl
  · exact ⟨hdf, _, hrun, x, hΦ, hA⟩
  · exact ⟨hdf, _, hrun, x, hΦ, hA⟩
theorem conc_i {CT : TypeId} {b : Nat} {us : List Value} (hf : P.funcs[f]? = some fn) (hn : fn.ntmps = n) (h : ∀ L : List Asn, VC P n c (FinG P rs [(1000001, .own (cuOw CT b v code.length)), (1000003, .own (frOw L))] Φ res Hr) ((0, .one (.rd (cpQ b v code))) :: argT 1 (us.map fun u => .one (.v u))) [(1000001, .own (cuOw CT b v code.length)), (1000003, .own (frOw L))]) (hone : us.all (·.oneCell') = true := by rfl) (hb : fn.body = some c := by rfl) (hnm : (fn.name == "runtime.NumGoroutine") = false := by kernel_rfl) (hrs : fn.results = rs.toArray := by rfl) (hargs : Nat.ble (us.length + 1) n = true := by rfl) : ConC P f CT b v code us Φ res Hr := by
  refine ⟨⟨fn, hf, hnm, by rw [hb]; rfl⟩, fun w0 w Js hs hh base => ?_⟩
  refine calls_of_wp hf hb ?_
  rw [hn]
  have hn1 := Nat.le_of_ble_eq_true hargs
  have hrel : Rel w0 w (fun k => if k = 1000003 then .bool true else .pointer (some ⟨b, 0, none⟩)) n ((0, .one (.rd (cpQ b v code))) :: argT 1 (us.map fun u => .one (.v u))) [(1000001, .own (cuOw CT b v code.length)), (1000003, .own (frOw Js))] { tmps := (.pointer (some ⟨b, 0, none⟩) :: us).toArray ++ Array.replicate (n - (Value.pointer (some ⟨b, 0, none⟩) :: us).toArray.size) undef, defers := [] } := by
    refine ⟨by simp; omega, rfl, fun k => ?_, ⟨[(cuOw CT b v code.length).A (.pointer (some ⟨b, 0, none⟩)), (frOw Js).A (.bool true)], .cons (by show _ = (cuOw CT b v code.length).A (if 1000001 = 1000003 then _ else _); rw [if_neg (by decide)]) (.cons (by show _ = (frOw Js).A (if 1000003 = 1000003 then _ else _); rw [if_pos rfl]) .nil), ?_⟩, by simp⟩
    · simp only [gt]
      split
      · rename_i e; subst e
        have e0 : ((.pointer (some ⟨b, 0, none⟩) :: us).toArray ++ Array.replicate (n - (Value.pointer (some ⟨b, 0, none⟩) :: us).toArray.size) undef).getD 0 undef = .pointer (some ⟨b, 0, none⟩) := by
          rw [Array.getD_eq_getD_getElem?, Array.getElem?_append_left (by simp)]; simp
        simp only [e0]
        exact ⟨rfl, hh⟩
      · rename_i e
        rw [gt_argT]
        split
        · rename_i h1
          cases hk : (us.map fun u => AV.one (.v u))[k - 1]? with
          | none => trivial
          | some y =>
            rw [List.getElem?_map] at hk
            obtain ⟨u, hu, rfl⟩ := Option.map_eq_some_iff.1 hk
            have hkl := (List.getElem?_eq_some_iff.1 hu).1
            have : ((.pointer (some ⟨b, 0, none⟩) :: us).toArray ++ Array.replicate (n - (Value.pointer (some ⟨b, 0, none⟩) :: us).toArray.size) undef).getD k undef = u := by
              obtain ⟨m, rfl⟩ : ∃ m, k = m + 1 := ⟨k - 1, by omega⟩
              simp only [Nat.add_sub_cancel] at hu hkl
              rw [Array.getD_eq_getD_getElem?, Array.getElem?_append_left (by simp; omega)]
              simp [hu]
            simp only [this, Option.getD_some]
            exact ⟨rfl, List.all_eq_true.1 hone u (List.mem_of_getElem? hu)⟩
        · trivial
    · have h1 : St w0 w ((cuOw CT b v code.length).A (.pointer (some ⟨b, 0, none⟩)) :: Js) := hs.same fun F hF => ⟨F, ⟨rfl, hF⟩, fun _ h => h⟩
      have h2 : St w0 w (Js ++ [(cuOw CT b v code.length).A (.pointer (some ⟨b, 0, none⟩))]) := St.perm h1 (List.perm_append_singleton _ _).symm
      have h3 : St w0 w ((frOw Js).A (.bool true) :: [(cuOw CT b v code.length).A (.pointer (some ⟨b, 0, none⟩))]) := (St.joinL (L := Js) h2).same fun F hF => ⟨F, ⟨rfl, hF⟩, fun _ h => h⟩
      exact St.perm h3 (.swap ..)
  refine Code.wp_mono (fun e a w' hq => ?_) (h Js w0 w _ _ hrel)
  obtain ⟨hdf, he, us', g2, x, hΦ, hA⟩ := fin_after (Is := [curA CT b v code.length]) (Js := Js) (base := base) hrs hq (fun ρ As hF Zs hst => by
    cases hF with
    | cons q1 q2 =>
      cases q2 with
      | cons q2 q3 =>
        cases q3
        have q1' : _ = (cuOw CT b v code.length).A (ρ 1000001) := q1
        have q2' : _ = (frOw Js).A (ρ 1000003) := q2
        subst q1' q2'
        have h2 : St w0 w' (curA CT b v code.length :: ((frOw Js).A (ρ 1000003) :: Zs)) := hst.same fun F hF => ⟨F, hF.2, fun _ h => h⟩
        have h3 : St w0 w' (joinA Js :: (curA CT b v code.length :: Zs)) := (St.perm h2 (.swap ..)).same fun F hF => ⟨F, hF.2, fun _ h => h⟩
        refine St.perm h3.unjoin ?_
        exact (List.perm_middle (l₁ := Js)).trans (List.Perm.cons _ List.perm_append_comm)) rfl
  have hrun := g2.run hrs
  rcases he with rfl | rfl
  · exact ⟨hdf, _, hrun, x, hΦ, hA⟩
  · exact ⟨hdf, _, hrun, x, hΦ, hA⟩
end
end Go.Vc
end
section
namespace Go.Vc
open Go Go.RowKit
set_option linter.unusedVariables false
set_option linter.unusedSectionVars false
set_option linter.unusedSimpArgs false
set_option linter.unnecessarySimpa false
section
variable {P : Program} [TyEnv P] {n : Nat} {ops os : List Oper} {K : Tm → Hp → Prop} {t t' : Tm} {H H' : Hp} {o : Oper} {v : AV} {δ rs : Hp} {k1 k2 : List Nat}
theorem svnil (h : K t H) : SV P n ops K [] t H := fun w0 w ρ a Q hr hQ => hQ a w ρ t H hr h
theorem sv_on {g : Nat} {want : Bool} (hd : dstB o.dst n = true) (hg : o.guard = some (g, want)) (hw : gBF ops (gt t) want g = some true) (hs : Good P o (gt t) H v δ rs) (ht : stF o.dst v δ rs t H = some (t', H', k1, k2)) (h : SV P n ops K os t' H') : SV P n ops K (o :: os) t H := fun w0 w ρ a Q hr hQ => by
  obtain ⟨e1, e2, _⟩ := stF_some ht
  have hok : gOk ops (gt t) o true := by
    unfold gOk
    rw [hg]
    unfold gBF at hw
    split at hw
    · rename_i c hc
      simp only [Option.some.injEq, beq_iff_eq] at hw
      subst hw
      exact ⟨_, hc, by simp⟩
    · cases hw
    · cases hw
  simp only [wpList]
  rw [gOk_w hr hok, if_pos rfl]
  exact .inl (Oper.wp_mono (fun a' w' ⟨ρ', h'⟩ => by rw [e1, e2] at h'; exact h w0 w' ρ' a' Q h' hQ) (hs.1 w0 w ρ n _ _ a Q hr (fun k hk => rfl) hs.2.1 hs.2.2 (dstB_ok hd)))
theorem svon {g : Nat} {want : Bool} (h : SV P n ops K os t' H') (hd : dstB o.dst n = true := by rfl) (hg : o.guard = some (g, want) := by rfl) (hw : gBF ops (gt t) want g = some true := by rfl) (hs : vstep P o (gt t) H (EqK v δ rs) := by repeat (first | exact eqK_i | refine onO_i rfl ?_ | refine onO2_i rfl ?_ | refine onO3_i rfl ?_ | refine need_i side ?_ | refine ldxm_i side ?_ | refine ldxb_i side ?_)) (ht : stF o.dst v δ rs t H = some (t', H', k1, k2) := by rfl) : SV P n ops K (o :: os) t H := sv_on hd hg hw (good_v hs) ht h
theorem svof {g : Nat} {want : Bool} (h : SV P n ops K os t' H) (hd : dstB o.dst n = true := by rfl) (hg : o.guard = some (g, want) := by rfl) (hw : gBF ops (gt t) want g = some false := by rfl) (ht : putF o.dst (.tup []) t = some t' := by rfl) : SV P n ops K (o :: os) t H := fun w0 w ρ a Q hr hQ => by
  have hok : gOk ops (gt t) o false := by
    unfold gOk
    rw [hg]
    unfold gBF at hw
    split at hw
    · rename_i c hc
      simp only [Option.some.injEq] at hw
      refine ⟨_, hc, ?_⟩
      cases c <;> cases want <;> simp_all
    · rename_i hc
      exact ⟨_, hc, by simp⟩
    · cases hw
  simp only [wpList]
  rw [gOk_w hr hok, if_neg (by simp)]
  have := hr.put (v := .tup []) (u := undef) ⟨[], rfl, .nil⟩ (dstB_ok hd)
  rw [putF_some ht] at this
  exact h w0 w ρ _ Q this hQ
theorem svoc {f : FuncId} {args : Array Operand} {ats : Array TypeId} {ys : List AV} {res v : AV} {Hr δ rs : Hp} {d : Nat} (hc : Con0 P f ys res Hr) (ho : o.op = .call { callee := .value (.func f), args := args, argTypes := ats }) (hf : frzAs H (args.toList.map (evo (gt t))) = some ys) (h : SV P n ops K os t' H') (hdd : o.dst = some d := by rfl) (hv : shA (8 * d) res = v := by rfl) (hδ : shH (8 * d) Hr = δ := by rfl) (hrs : rsOf H ((args.toList.map (evo (gt t))).flatMap hsA) = rs := by rfl) (hfr : δ.all (fun p => (lk H p.1).isNone) = true := by rfl) (hd : dstB o.dst n = true := by rfl) (hg : o.guard = none := by rfl) (ht : stF o.dst v δ rs t H = some (t', H', k1, k2) := by rfl) : SV P n ops K (o :: os) t H := by
  obtain ⟨e1, e2, _⟩ := stF_some ht
  exact sv_good (dstB_ok hd) hg (good_call hc ho hf hdd hv hδ hrs hfr) (by rw [e1, e2]; exact h)
theorem svwr {d : Nat} {x : Int} (h : SV P n ops K os ((d, .one (.v (.int .i64 x))) :: t) H) (hw : -9223372036854775808 ≤ x ∧ x ≤ 9223372036854775807 := by omega) : SV P n ops K os ((d, .one (.v (.int .i64 (wr x)))) :: t) H := by
  have : wr x = x := IntWalk.i64_in x hw
  rw [this]; exact h
theorem svsp {d : Nat} {c : Bool} {p q : Prop} (h1 : p → SV P n ops K os ((d, .one (.v (.bool true))) :: t) H) (h2 : q → SV P n ops K os ((d, .one (.v (.bool false))) :: t) H) (hp : (c = true) = p := by (conv => lhs; try simp only [decide_eq_true_eq, decide_eq_false_iff_not, Bool.not_eq_true', Bool.not_eq_false', beq_iff_eq, Int.toNat_natCast, Int.ofNat_lt, ge_iff_le, gt_iff_lt, Int.not_le, Int.not_lt])) (hq : (c = false) = q := by (conv => lhs; try simp only [decide_eq_true_eq, decide_eq_false_iff_not, Bool.not_eq_true', Bool.not_eq_false', beq_iff_eq, Int.toNat_natCast, Int.ofNat_lt, ge_iff_le, gt_iff_lt, Int.not_le, Int.not_lt])) : SV P n ops K os ((d, .one (.v (.bool c))) :: t) H := by
  subst hp hq
  cases c
  · exact h2 rfl
  · exact h1 rfl
theorem sven {f : FuncId} {c : Operand} {xs : List Operand} {ats : Array TypeId} {CT : TypeId} {b g d : Nat} {want : Bool} {v : Value} {code : List UInt8} {us : List Value} {α : Type} {Φ : α → Prop} {res : α → AV} {Hr : α → Hp} {tF : α → Tm} {HF : α → Hp} {k1 k2 : α → List Nat} (hc : ConC P f CT b v code us Φ res Hr) (h : ∀ x, Φ x → SV P n ops K os (tF x) (HF x)) (kc : Nat) (hd : dstB o.dst n = true := by rfl) (hg : o.guard = some (g, want) := by rfl) (hw : gBF ops (gt t) want g = some true := by rfl) (ho : o.op = .call { callee := .value (.func f), args := (c :: xs).toArray, argTypes := ats } := by rfl) (hx : evo (gt t) c = .one (.rd (cpQ b v code)) := by rfl) (hy : xs.map (evo (gt t)) = us.map (fun u => .one (.v u)) := by rfl) (hk : lk H kc = some (.own (cuOw CT b v code.length)) := by rfl) (hdd : o.dst = some d := by rfl)
    (hfr : ∀ x, (shH (8 * d) (Hr x)).all (fun p => (lk H p.1).isNone) = true := by intro x; rfl) (ht : ∀ x, stF o.dst (shA (8 * d) (res x)) (shH (8 * d) (Hr x)) [] t H = some (tF x, HF x, k1 x, k2 x) := by intro x; rfl) : SV P n ops K (o :: os) t H := fun w0 w ρ a Q hr hQ => by
  have hok : gOk ops (gt t) o true := by
    unfold gOk
    rw [hg]
    unfold gBF at hw
    split at hw
    · rename_i c hc
      simp only [Option.some.injEq, beq_iff_eq] at hw
      subst hw
      exact ⟨_, hc, by simp⟩
    · cases hw
    · cases hw
  simp only [wpList]
  rw [gOk_w hr hok, if_pos rfl]
  refine .inl (hr.draw (d := 8 * d) ho hc hx hy hk (fun x k bb hb => ?_) (dstB_ok hd) fun x ρ' a' w' hΦ h' => ?_)
  · have := List.all_eq_true.1 (hfr x) _ hb
    simpa using this
  · obtain ⟨e1, e2, _⟩ := stF_some (ht x)
    rw [e1, e2] at h'
    exact h x hΦ w0 w' ρ' a' Q h' hQ
theorem tri_lenP {T e : TypeId} {i : TyI} {rd : Nat → AV} {x : Operand} {v : Value} {code : List UInt8} (ho : o.op = .call { callee := .builtin .len, args := #[x], argTypes := #[T] }) (hi : TyEnv.ti P T = some i) (hk : i.k = .slice e) (hx : evo rd x = .one (.rd (pinQ v code))) : Tri P o rd [] (.one (.v (.int .i64 code.length))) [] := by
  refine tri_pure fun w0 w D ρ ac hh hex => ?_
  have h1 := hh x (by simp [ho, Op.operands, Call.operands])
  rw [hx] at h1
  obtain ⟨h1, h2, _⟩ := h1
  obtain ⟨A, c, hv, _⟩ := h2.bytes
  simp only [List.cons.injEq, and_true] at hv
  subst hv
  refine ⟨_, ?_, ar_v rfl⟩
  have hu := ty_slice hi hk
  have := run_len_slice (P := P) w T o.type A code.length c (by rw [elem_of hu]; exact hu)
  simp [execOp, ho, resolve, invoke, builtin, h1, this, goInt]
theorem vlp {dr : Bool} {fp : List Fp} {T e : TypeId} {i : TyI} {x : Operand} {v : Value} {code : List UInt8} (h : Vd P n ops dr (K := K) os t' H' ((k1, k2) :: fp)) (hd : dstB o.dst n = true := by rfl) (hg : o.guard = none := by rfl) (ho : o.op = .call { callee := .builtin .len, args := #[x], argTypes := #[T] } := by rfl) (hi : TyEnv.ti P T = some i := by rfl) (hk : i.k = .slice e := by rfl) (hx : evo (gt t) x = .one (.rd (pinQ v code)) := by rfl)
    (ht : stF o.dst (.one (.v (.int .i64 code.length))) [] [] t H = some (t', H', k1, k2) := by rfl) : Vd P n ops dr K (o :: os) t H fp := vd_plain hd hg (good0 (tri_lenP ho hi hk hx)) ht h
end
def setQ (xs : List Int) : RdP := vQ fun u => ∃ x ∈ xs, u = .int .i64 x
section
variable {P : Program} [TyEnv P] {n : Nat} {ops os : List Oper} {K : Tm → Hp → Prop} {t t' : Tm} {H H' : Hp} {o : Oper} {k1 k2 : List Nat}
def Pick (P : Program) (f : FuncId) (CT : TypeId) : Prop := FnOk P f ∧ ∀ (w0 w : World) (Js : List Asn) (b : Nat) (v lv : Value) (code : List UInt8) (xs : List Int), St w0 w (curA CT b v code.length :: Js) → Holds w0 code [v] → RB w (.sl 1 (xs.map intE)) lv → (∀ c ∈ lv.blk, c ≠ b) → (∀ x ∈ xs, i64ok x) → 1 ≤ xs.length → xs.length ≤ 1000000 →
  Calls P f #[.pointer (some ⟨b, 0, none⟩), lv] w fun e w' => ∃ x ∈ xs, e = .returned (.int .i64 x) ∧ St w0 w' (curA CT b v code.length :: Js)
theorem Rel.pick {w0 w : World} {ρ : Nat → Value} {a : Act} {f : FuncId} {c y : Operand} {ats : Array TypeId} {CT E : TypeId} {b kc m : Nat} {v : Value} {code : List UInt8} {xs : List Int} {Q : Exit → Act → World → Prop} {K : Act → World → Prop}
    (hr : Rel w0 w ρ n t H a) (ho : o.op = .call { callee := .value (.func f), args := #[c, y], argTypes := ats }) (hc : Pick P f CT) (hx : evo (gt t) c = .one (.rd (cpQ b v code))) (hy : evo (gt t) y = .one (.hs m)) (hk : lk H kc = some (.own (cuOw CT b v code.length))) (hm : lk H m = some (.arr E 1 (xs.map intE))) (hkm : kc ≠ m)
    (h64 : ∀ x ∈ xs, i64ok x) (h1 : 1 ≤ xs.length) (h2 : xs.length ≤ 1000000) (hd : ∀ d, o.dst = some d → d < n)
    (h : ∀ x a' w', x ∈ xs → Rel w0 w' ρ n (putT t o.dst (.one (.v (.int .i64 x)))) H a' → K a' w') : o.wp P a w K Q := by
  obtain ⟨Bs, b1, b2⟩ := hr.hp
  have p1 : H.Perm ((kc, .own (cuOw CT b v code.length)) :: offK kc H) := by have := upd1_perm (.own (cuOw CT b v code.length)) hr.nd hk; rwa [upd1_same hk] at this
  have hm1 : lk (offK kc H) m = some (.arr E 1 (xs.map intE)) := by rw [lk_offK (fun e => hkm e.symm)]; exact hm
  have p2 : (offK kc H).Perm ((m, .arr E 1 (xs.map intE)) :: offK m (offK kc H)) := by have := upd1_perm (.arr E 1 (xs.map intE)) (nd_offK (k := kc) hr.nd) hm1; rwa [upd1_same hm1] at this
  obtain ⟨Ds, d1, d2⟩ := F2.perm (p1.trans (p2.cons _)) b1
  cases d2 with
  | @cons _ X _ Es' x1 x2 =>
    cases x2 with
    | @cons _ Y _ Es x2 x3 =>
      have hX : X = (cuOw CT b v code.length).A (ρ kc) := x1
      subst hX
      obtain ⟨hes, rfl⟩ := x2
      have s1 : St w0 w ((cuOw CT b v code.length).A (ρ kc) :: slotA E 1 (ρ m) (xs.map intE).length (xs.map intE).flatten :: Es) := St.perm b2 d1
      obtain ⟨hx0, F, ⟨F1, F2, ⟨hρ, hF1⟩, ⟨G1, G2, hG1, hG2, g3, g4⟩, f3, f4⟩, f5⟩ := s1
      have s1 : St w0 w ((cuOw CT b v code.length).A (ρ kc) :: slotA E 1 (ρ m) (xs.map intE).length (xs.map intE).flatten :: Es) := St.perm b2 d1
      have hcur : St w0 w (curA CT b v code.length :: slotA E 1 (ρ m) (xs.map intE).length (xs.map intE).flatten :: Es) := s1.same fun F hF => ⟨F, hF.2, fun _ h => h⟩
      have hp := hr.ev c
      rw [hx] at hp
      obtain ⟨hp, hh⟩ := hp
      have hq := hr.ev y
      rw [hy] at hq
      obtain ⟨_, hq, _⟩ := hq
      have hdis : ∀ c ∈ (ρ m).blk, c ≠ b := fun c hc e => by
        subst e
        exact f3 c ((hF1.2 c).2 rfl) ((g4 c).2 (.inl ((hG1.2 c).2 hc)))
      obtain ⟨hfn, hcall⟩ := hc
      unfold Oper.wp
      rw [run_enter ho hfn, Oper.upon_enter]
      have e2 : #[c, y].map a.eval = #[.pointer (some ⟨b, 0, none⟩), ρ m] := by simp [hp, hq]
      rw [e2]
      refine (hcall w0 w _ b v (ρ m) code xs hcur hh (slot_RB hG1.1 hes) hdis h64 h1 h2).mono fun e w' hq2 => ?_
      obtain ⟨x, hxs, rfl, hS⟩ := hq2
      have hback : St w0 w' ((cuOw CT b v code.length).A (ρ kc) :: slotA E 1 (ρ m) (xs.map intE).length (xs.map intE).flatten :: Es) := hS.same fun F hF => ⟨F, ⟨hρ, hF⟩, fun _ h => h⟩
      have hR : Rel w0 w' ρ n t H a := ⟨hr.sz, hr.df, hr.tm, ⟨Bs, b1, St.perm hback d1.symm⟩, hr.nd⟩
      exact h x _ w' hxs (hR.put (v := .one (.v (.int .i64 x))) ⟨rfl, rfl⟩ hd)
theorem svp {f : FuncId} {c y : Operand} {ats : Array TypeId} {CT E : TypeId} {b m d : Nat} {v : Value} {code : List UInt8} (xs : List Int) (hc : Pick P f CT) (h : ∀ x, x ∈ xs → SV P n ops K os ((d, .one (.v (.int .i64 x))) :: t) H) (kc : Nat) (hd : dstB o.dst n = true := by rfl) (hg : o.guard = none := by rfl) (ho : o.op = .call { callee := .value (.func f), args := #[c, y], argTypes := ats } := by rfl) (hx : evo (gt t) c = .one (.rd (cpQ b v code)) := by rfl) (hy : evo (gt t) y = .one (.hs m) := by rfl) (hk : lk H kc = some (.own (cuOw CT b v code.length)) := by rfl) (hm : lk H m = some (.arr E 1 (xs.map intE)) := by rfl) (hkm : Nat.beq kc m = false := by rfl) (hdd : o.dst = some d := by rfl)
    (h64 : ∀ x ∈ xs, i64ok x := by (intro x hx; simp only [List.mem_cons, List.not_mem_nil, or_false] at hx; unfold i64ok; omega)) (h1 : Nat.ble 1 xs.length = true := by rfl) (h2 : Nat.ble xs.length 1000 = true := by rfl) : SV P n ops K (o :: os) t H := fun w0 w ρ a Q hr hQ => by
  simp only [wpList]
  have hw : Region.wanted o (yielded ops.toArray a.tmps) = true := by unfold Region.wanted; rw [hg]
  rw [if_pos hw]
  have h1' := Nat.le_of_ble_eq_true h1
  have h2' := Nat.le_of_ble_eq_true h2
  exact .inl (hr.pick ho hc hx hy hk hm (Nat.ne_of_beq_eq_false hkm) h64 h1' (by omega) (dstB_ok hd) fun x a' w' hxs h' => by
    rw [hdd] at h'
    exact h x hxs w0 w' ρ a' Q h' hQ)
theorem tri_pick' {f : FuncId} {c y : Operand} {ats : Array TypeId} {CT E : TypeId} {b kc m : Nat} {rd : Nat → AV} {v : Value} {code : List UInt8} {xs : List Int} (ho : o.op = .call { callee := .value (.func f), args := #[c, y], argTypes := ats }) (hc : Pick P f CT) (hx : evo rd c = .one (.rd (cpQ b v code))) (hy : evo rd y = .one (.hs m)) (hkm : kc ≠ m) (h64 : ∀ x ∈ xs, i64ok x) (h1 : 1 ≤ xs.length) (h2 : xs.length ≤ 1000000) :
    Tri P o rd [(kc, .own (cuOw CT b v code.length)), (m, .arr E 1 (xs.map intE))] (.one (.rd (setQ xs))) [] := by
  intro w0 w ρ n t H a Q hr ht hrs hfr hd
  refine hr.pick ho hc ?_ ?_ (hrs kc _ (List.mem_cons_self ..)) (hrs m _ (List.mem_cons_of_mem _ (List.mem_cons_self ..))) hkm h64 h1 h2 hd fun x a' w' hxs h' => ⟨ρ, ?_⟩
  · rw [evo_of (o := o) (by simp [ho, Op.operands, Call.operands]) ht]; exact hx
  · rw [evo_of (o := o) (by simp [ho, Op.operands, Call.operands]) ht]; exact hy
  · refine ⟨h'.sz, h'.df, fun k => ?_, h'.hp, h'.nd⟩
    have := h'.tm k
    rw [gt_putT] at this ⊢
    split
    · rename_i e
      rw [if_pos e] at this
      obtain ⟨q1, q2⟩ := this
      exact ⟨⟨x, hxs, q1⟩, by rw [q1]; rfl⟩
    · rename_i e
      rw [if_neg e] at this
      exact this
theorem vdp {dr : Bool} {fp : List Fp} {f : FuncId} {c y : Operand} {ats : Array TypeId} {CT E : TypeId} {b m : Nat} {v : Value} {code : List UInt8} (xs : List Int) (hc : Pick P f CT) (h : Vd P n ops dr K os t' H' ((k1, k2) :: fp)) (kc : Nat) (hd : dstB o.dst n = true := by rfl) (hg : o.guard = none := by rfl) (ho : o.op = .call { callee := .value (.func f), args := #[c, y], argTypes := ats } := by rfl) (hx : evo (gt t) c = .one (.rd (cpQ b v code)) := by rfl) (hy : evo (gt t) y = .one (.hs m) := by rfl) (hk : lk H kc = some (.own (cuOw CT b v code.length)) := by rfl) (hm : lk H m = some (.arr E 1 (xs.map intE)) := by rfl) (hkm : Nat.beq kc m = false := by rfl)
    (h64 : ∀ x ∈ xs, i64ok x := by (intro x hx; simp only [List.mem_cons, List.not_mem_nil, or_false] at hx; unfold i64ok; omega)) (h1 : Nat.ble 1 xs.length = true := by rfl) (h2 : Nat.ble xs.length 1000 = true := by rfl) (ht : stF o.dst (.one (.rd (setQ xs))) [] [(kc, .own (cuOw CT b v code.length)), (m, .arr E 1 (xs.map intE))] t H = some (t', H', k1, k2) := by rfl) : Vd P n ops dr K (o :: os) t H fp := by
  have h1' := Nat.le_of_ble_eq_true h1
  have h2' := Nat.le_of_ble_eq_true h2
  exact vd_plain hd hg (good_of (tri_pick' ho hc hx hy (Nat.ne_of_beq_eq_false hkm) h64 h1' (by omega)) (fun k b hb => by
    simp only [List.mem_cons, Prod.mk.injEq, List.not_mem_nil, or_false] at hb
    rcases hb with ⟨rfl, rfl⟩ | ⟨rfl, rfl⟩
    · exact hk
    · exact hm) fun k b hb => by cases hb) ht h
theorem vc_et {K : Post} {c : Code} {d : Nat} {xs : List Int} (h : ∀ x, x ∈ xs → VC P n c K ((d, .one (.v (.int .i64 x))) :: t) H) (hx : gt t d = .one (.rd (setQ xs)) := by rfl) : VC P n c K t H := fun w0 w ρ a hr => by
  have h1 := hr.tm d
  rw [hx] at h1
  obtain ⟨⟨x, hxs, hu⟩, _⟩ := h1
  refine h x hxs w0 w ρ a ⟨hr.sz, hr.df, fun k => ?_, hr.hp, hr.nd⟩
  simp only [gt]
  split
  · rename_i e; subst e; exact ⟨hu, rfl⟩
  · exact hr.tm k
end
end Go.Vc
end
section
namespace Go.Proofs.YtbdcaacpemkloaaGreat
open Go Go.RowKit Go.Vc
set_option linter.unusedVariables false
set_option linter.unusedSimpArgs false
set_option linter.unnecessarySimpa false
theorem after_i {w0 w' : World} {base : Nat} {r : Int} {Is Js : List Asn} (hs : St w0 w' (Is ++ Js)) : After w0 base (.one (.v (.int .i64 r))) [] Is Js (.returned (.int .i64 r)) w' :=
  ⟨_, fun _ => .bool true, rfl, ⟨rfl, rfl⟩, .nil, [], .nil, by simpa using hs⟩
theorem c_spec_l01Byte {b : Nat} {v : Value} {code : List UInt8} : ConC Tryz.prog 151 204 b v code [] (α := Int) (fun x => 0 ≤ x ∧ x ≤ 255) (fun x => .one (.v (.int .i64 x))) (fun _ => []) :=
  ⟨⟨_, Tryz.func151, by kernel_rfl, rfl⟩, fun w0 w Js hs hh base => (l01Byte_any b v code w0 w (hs.cu .head hh)).mono fun e w' hd => by
    obtain ⟨r, h1, h2, rfl, h3⟩ := hs.drawn .head hd
    exact ⟨r, ⟨h1, h2⟩, after_i h3⟩⟩
theorem c_spec_l01Below {b : Nat} {v : Value} {code : List UInt8} {n : Int} (h0 : 1 ≤ n := by omega) (h1 : n ≤ 1000000000 := by omega) : ConC Tryz.prog 57 204 b v code [.int .i64 n] (α := Int) (fun x => 0 ≤ x ∧ x ≤ n - 1) (fun x => .one (.v (.int .i64 x))) (fun _ => []) :=
  ⟨⟨_, Tryz.func57, by kernel_rfl, rfl⟩, fun w0 w Js hs hh base => (l01Below_any b v code n w0 w (hs.cu .head hh) h0 h1).mono fun e w' hd => by
    obtain ⟨r, h1, h2, rfl, h3⟩ := hs.drawn .head hd
    exact ⟨r, ⟨h1, h2⟩, after_i h3⟩⟩
theorem c_spec_l01New {v : Value} {code : List UInt8} : ConV Tryz.prog 54 v code (α := Nat) (fun _ => True) (fun B => .one (.rd (cpQ B v code))) (fun B => [(0, .own (cuOw 204 B v code.length))]) :=
  ⟨⟨_, Tryz.func54, by kernel_rfl, rfl⟩, fun w0 w Js hs hh base => (l01New_any v code w (hh.ex hs.ex)).mono fun e w' hd => by
    obtain ⟨B, rfl, h3⟩ := hs.newCur hd code.length
    refine ⟨B, trivial, _, fun _ => .pointer (some ⟨B, 0, none⟩), rfl, ⟨rfl, hh⟩, by simp [shH], [_], .cons rfl .nil, ?_⟩
    exact h3.same fun F hF => ⟨F, ⟨rfl, hF⟩, fun _ h => h⟩⟩
set_option maxHeartbeats 1000000 in
theorem pick_any (B : Nat) (v : Value) (code : List UInt8) (lv : Value) (xs : List Int) (w0 w : World) (hcu : Cu 204 w0 B v code w) (k2 : RB w (.sl 1 (xs.map intE)) lv) (hne : ∀ b ∈ lv.blk, b ≠ B) (h1 : 1 ≤ xs.length) (h2 : xs.length ≤ 1000000) :
    Calls Tryz.prog 58 #[.pointer (some ⟨B, 0, none⟩), lv] w fun e w' => ∃ x ∈ xs, DrawnN 204 B v code.length x x w e w' := by
  obtain ⟨a, cap, rfl, m1, m2, m3⟩ := k2
  unfold maxLen at m2
  rw [List.length_map] at m1 ⊢
  have lB := hcu.lt
  have M3 : Hid (∀ k (hk : k < xs.length), ∃ b off, a = some ⟨b, off, none⟩ ∧ w.cell? ⟨b, off + k, none⟩ = some (.int .i64 xs[k])) := hid fun k hk => by
    obtain ⟨b, off, ha, hc⟩ := m3.2 (by intro e; simp at e; subst e; simp at hk)
    refine ⟨b, off, ha, ?_⟩
    have := hc k (intE xs[k]) (by simp [List.getElem?_eq_getElem hk]) 0 (by decide)
    simpa [intE] using this
  have HN := hid hne
  clear m3 hne
  go_enter Tryz.func58, Tryz.ntmps58
  go_wp2_with fail
  (with_reducible refine (l01Below_any B v code _ w0 _ hcu (by omega) (by omega)).mono ?_); rintro e w' ⟨r, i, h, g, r0, r1, i0, i1, rfl, rfl⟩
  obtain ⟨k, rfl⟩ := Int.eq_ofNat_of_zero_le r0
  have hk : k < xs.length := by omega
  obtain ⟨b, off, rfl, hc⟩ := M3.out k hk
  have hbB : b ≠ B := HN.out b (by simp [Value.blk])
  have lb : b < w.heap.size := World.block_lt_of_cell? _ _ hc
  have hx := List.getElem_mem hk
  generalize xs[k] = y at *
  go_wp2
  go_ret
  exact ⟨y, hx, y, i, h, g, Int.le_refl _, Int.le_refl _, i0, i1, rfl, rfl⟩
theorem c_pick : Pick Tryz.prog 58 204 := ⟨⟨_, Tryz.func58, by kernel_rfl, rfl⟩, fun w0 w Js b v lv code xs hs hh hr hb h64 h1 h2 => (pick_any b v code lv xs w0 w (hs.cu .head hh) hr hb h1 h2).mono fun e w' ⟨x, hx, hd⟩ => by
  obtain ⟨r, g1, g2, rfl, h3⟩ := hs.drawn .head hd
  obtain rfl : r = x := by omega
  exact ⟨r, hx, rfl, h3⟩⟩
set_option maxHeartbeats 4000000 in
theorem c_spec_l01Once {b : Nat} {v : Value} {code : List UInt8} {n : Int} (h0 : 1 ≤ n := by omega) (h1 : n ≤ 1000000000 := by omega) : ConC Tryz.prog 145 204 b v code [.int .i64 (n)] (α := Bool) (fun _ => True) (fun x => .one (.v (.bool x))) (fun _ => []) := by
  refine conc_i Tryz.func145 Tryz.ntmps145 (fun L => ?_)
  refine vc_nf rfl rfl ?_
  refine vc_sr ?_
  refine vo ?_
  refine vnt ?_
  refine vc_seq' ?_
  refine vc_sv ?_
  refine svo ?_
  refine svo ?_
  refine sve (c_spec_l01Below (n := n)) (fun x1 hx1 => ?_) 1000001
  refine svo ?_
  refine svo ?_
  refine svnil ?_
  refine thn ?_
  refine vc_ret ?_
  refine fin_g (decide (x1 = 0)) (trivial) [] rfl (fz ?_) (fz ?_) <;> first | trivial | rfl | trace_state
set_option maxHeartbeats 4000000 in
theorem c_spec_l06Host {b : Nat} {v : Value} {code : List UInt8}  : ConC Tryz.prog 148 204 b v code [] (α := Int) (fun x => 167772161 ≤ x ∧ x ≤ 167772163) (fun x => .one (.v (.int .i64 x))) (fun _ => []) := by
  refine conc_i Tryz.func148 Tryz.ntmps148 (fun L => ?_)
  refine vc_nf rfl rfl ?_
  refine vc_sr ?_
  refine vo ?_
  refine vnt ?_
  refine vc_seq' ?_
  refine vc_sv ?_
  refine svo ?_
  refine sve (c_spec_l01Below (n := 3)) (fun x1 hx1 => ?_) 1000001
  refine svo ?_
  try refine svwr ?_
  refine svo ?_
  refine svnil ?_
  refine thn ?_
  refine vc_ret ?_
  refine fin_g (167772161 + x1) (by omega) [] rfl (fz ?_) (fz ?_) <;> first | trivial | rfl | trace_state
set_option maxHeartbeats 4000000 in
theorem c_spec_l06Flags {b : Nat} {v : Value} {code : List UInt8}  : ConC Tryz.prog 216 204 b v code [] (α := Int) (fun x => x ∈ ([16, 16, 16, 24, 17, 2, 4, 31, 0] : List Int)) (fun x => .one (.v (.int .i64 x))) (fun _ => []) := by
  refine conc_i Tryz.func216 Tryz.ntmps216 (fun L => ?_)
  refine vc_nf rfl rfl ?_
  refine vc_sr ?_
  refine vo ?_
  refine vnt ?_
  refine vc_seq' ?_
  refine vc_sv ?_
  refine svo ?_
  refine svo ?_
  refine svp [16, 16, 16, 24, 17, 2, 4, 31, 0] c_pick (fun x1 hx1 => ?_) 1000001
  refine svo ?_
  refine svnil ?_
  refine thn ?_
  refine vc_ret ?_
  refine fin_g (x1) (hx1) [] rfl (fz ?_) (fz ?_) <;> first | trivial | rfl | trace_state
set_option maxHeartbeats 4000000 in
theorem c_spec_l01Text {b : Nat} {v : Value} {code : List UInt8} {n : Int} (h0 : 0 ≤ n := by omega) (h1 : n ≤ 5000 := by omega) : ConC Tryz.prog 150 204 b v code [.int .i64 (n)] (α := ByteArray) (fun x => (x.size : Int) = n) (fun x => .one (.v (.string x))) (fun _ => []) := by
  refine conc_i Tryz.func150 Tryz.ntmps150 (fun L => ?_)
  refine vc_nf rfl rfl ?_
  refine vc_sr ?_
  refine vo ?_
  refine vnt ?_
  refine vc_seq' ?_
  refine vc_sr ?_
  iterate 2 refine vo ?_
  refine vnt ?_
  refine vc_if (fun g1 => ?_) (fun g1 => ?_)
  · exact absurd g1 (by omega)
  · refine vc_skip ?_
    refine thn ?_
    refine vc_sr ?_
    iterate 2 refine vo ?_
    refine vnt ?_
    refine vc_seq' ?_
    refine vc_sr ?_
    refine vo ?_
    refine vnt ?_
    refine vc_block ?_
    refine vc_lp (σ := List Int) [0, 1] [1000001, 1000003] (fun L => [(5, .one (.hs 7)), (6, I (L.length : Int))]) (fun L => [(7, .arr 5 1 (L.map byE))]) (fun L => (L.length : Int) ≤ n ∧ ∀ x ∈ L, 0 ≤ x ∧ x ≤ 255) (fun L => n.toNat - L.length) [] rfl rfl (sub_i [(7, some 72)] (fz ?_) (fz ?_)) ?_ fun L hL => ?_
    · first | trivial | rfl | trace_state
    · first | trivial | rfl | trace_state
    · exact ⟨h0, fun _ h => nomatch h⟩
    refine vc_nf rfl rfl ?_
    refine vc_seq' ?_
    refine vc_sr ?_
    iterate 3 refine vo ?_
    refine vnt ?_
    refine vc_if (fun g2 => ?_) (fun g2 => ?_)
    · refine vc_skip ?_
      refine thn ?_
      refine vc_seq' ?_
      refine vc_block ?_
      refine vc_sv ?_
      refine svo ?_
      refine svo ?_
      refine sve c_spec_l01Byte (fun x1 hx1 => ?_) 1000001
      refine svo ?_
      refine svo ?_
      refine svo ?_
      refine svo ?_
      refine svnil ?_
      refine inB_n ?_
      refine thn ?_
      refine vc_region ?_
      iterate 2 refine vo ?_
      try refine vwr ?_
      refine vo ?_
      refine vnt ?_
      have hle : (((L ++ [IntKind.u8.wrap x1]).length : Nat) : Int) = (L.length : Int) + 1 := by simp
      refine ⟨L ++ [IntKind.u8.wrap x1], ⟨by omega, fun y hy => ?_⟩, by omega, sub_i [(7, some 160)] (fz ?_) (fz ?_)⟩
      · rcases List.mem_append.1 hy with h | h
        · exact hL.2 y h
        · rw [List.mem_singleton.1 h, u8w (by omega) (by omega)]; omega
      · first | trivial | (rw [hle]; done) | trace_state
      · first | trivial | (rw [List.map_append]; rfl) | trace_state
    · have hle : (L.length : Int) = n := by omega
      have hok := okE_by hL.2
      refine vc_exit ?_
      refine thn_x ?_
      refine thn_x ?_
      refine inB_x ?_
      refine thn ?_
      refine vc_sr ?_
      iterate 3 refine vo ?_
      refine vnt ?_
      refine vc_ret ?_
      refine fin_g (ofE (L.map byE)) (by rw [ofE_by, strOfNums_size]; exact hle) [] rfl (fz ?_) (fz ?_) <;> first | trivial | rfl | trace_state
theorem seg_t {sp seq ack fl win w : Int} {n : Nat} (h1 : 0 ≤ sp ∧ sp ≤ 1) (h2 : seq ∈ ([0, 100, 4294967290, w] : List Int)) (hw : 0 ≤ w ∧ w ≤ 65535) (h3 : ack ∈ ([0, 5, 4294967295] : List Int)) (h4 : fl ∈ ([16, 16, 16, 24, 17, 2, 4, 31, 0] : List Int)) (h5 : win ∈ ([0, 512, 65535] : List Int)) (h6 : n ≤ 320) : segOkB 6 (1000 + sp) 80 seq ack fl win n = true := by
  simp only [List.mem_cons, List.not_mem_nil, or_false] at h2 h3 h4 h5
  unfold segOkB
  simp only [Bool.and_eq_true, Bool.or_eq_true, inB_iff, Bool.not_eq_true', decide_eq_false_iff_not, beq_iff_eq]
  refine ⟨⟨⟨by omega, by omega⟩, by omega⟩, .inl ⟨trivial, by omega, by omega, by omega, by omega⟩⟩
theorem seg_u {sp : Int} {n : Nat} (h1 : 0 ≤ sp ∧ sp ≤ 1) (h6 : n ≤ 320) : segOkB 17 (1000 + sp) 53 0 0 0 0 n = true := by
  unfold segOkB
  simp only [Bool.and_eq_true, Bool.or_eq_true, inB_iff, Bool.not_eq_true', decide_eq_false_iff_not, beq_iff_eq]
  refine ⟨⟨⟨by omega, by omega⟩, by omega⟩, .inr ⟨by decide, trivial, trivial, trivial, trivial, trivial⟩⟩
set_option maxHeartbeats 4000000 in
theorem c_spec_l06Segment {b : Nat} {v : Value} {code : List UInt8} {most : Int} (h0 : 0 ≤ most := by omega) (h1 : most ≤ 320 := by omega) : ConC Tryz.prog 149 204 b v code [.int .i64 (most)] (α := SegX) (fun x => segOkB x.kind x.sp x.dp x.seq x.ack x.fl x.win x.body.size = true ∧ (x.body.size : Int) ≤ most) (fun x => .agg [V (x).kind, V (x).sp, V (x).dp, V (x).seq, V (x).ack, V (x).fl, V (x).win, VS (x).body]) (fun _ => []) := by
  refine conc_i Tryz.func149 Tryz.ntmps149 (fun L => ?_)
  refine vc_nf rfl rfl ?_
  refine vc_sr ?_
  refine vo ?_
  refine vnt ?_
  refine vc_seq' ?_
  refine vc_sv ?_
  refine svo ?_
  refine sve (c_spec_l01Below (n := 2)) (fun x1 hx1 => ?_) 1000001
  refine svo ?_
  try refine svwr ?_
  refine svo ?_
  refine svo ?_
  refine sve (c_spec_l01Below (n := 65536)) (fun x2 hx2 => ?_) 1000001
  refine svo ?_
  refine svp [0, 100, 4294967290, x2] c_pick (fun x3 hx3 => ?_) 1000001
  refine svo ?_
  refine svo ?_
  refine svp [0, 5, 4294967295] c_pick (fun x4 hx4 => ?_) 1000001
  refine svo ?_
  refine sve c_spec_l06Flags (fun x5 hx5 => ?_) 1000001
  refine svo ?_
  refine svo ?_
  refine svp [0, 512, 65535] c_pick (fun x6 hx6 => ?_) 1000001
  refine svo ?_
  refine svo ?_
  refine svo ?_
  refine svnil ?_
  refine thn ?_
  refine vc_seq' ?_
  refine vc_sv ?_
  refine svo ?_
  refine svo ?_
  refine svo ?_
  refine svo ?_
  try refine svwr ?_
  refine sve (c_spec_l01Below (n := most + 1)) (fun x7 hx7 => ?_) 1000001
  refine sve (c_spec_l01Text (n := x7)) (fun x8 hx8 => ?_) 1000001
  refine svo ?_
  refine svo ?_
  refine svnil ?_
  refine thn ?_
  refine vc_seq' ?_
  refine vc_seq' ?_
  refine vc_sv ?_
  refine svo ?_
  refine sve (c_spec_l01Once (n := 4)) (fun x9 hx9 => ?_) 1000001
  refine svnil ?_
  refine thn ?_
  refine vc_if (fun g1 => ?_) (fun g1 => ?_)
  · refine vc_sr ?_
    iterate 6 refine vo ?_
    refine vnt ?_
    refine vc_ret ?_
    refine thn_r ?_
    have hsz : x8.size ≤ 320 := by omega
    have hsm : (x8.size : Int) ≤ most := by omega
    refine fin_g (⟨17, 1000 + x1, 53, 0, 0, 0, 0, x8⟩) (⟨seg_u hx1 hsz, hsm⟩) [] rfl (fz ?_) (fz ?_) <;> first | trivial | rfl | trace_state
  · refine vc_skip ?_
    refine thn ?_
    refine vc_sr ?_
    iterate 2 refine vo ?_
    refine vnt ?_
    refine vc_ret ?_
    have hsz : x8.size ≤ 320 := by omega
    have hsm : (x8.size : Int) ≤ most := by omega
    refine fin_g (⟨6, 1000 + x1, 80, x3, x4, x5, x6, x8⟩) (⟨seg_t hx1 hx3 (by omega) hx4 hx5 hx6 hsz, hsm⟩) [] rfl (fz ?_) (fz ?_) <;> first | trivial | rfl | trace_state
theorem seg_n {kind sp dp seq ack fl win : Int} {n m : Nat} (h : segOkB kind sp dp seq ack fl win n = true) (hm : m ≤ 320) : segOkB kind sp dp seq ack fl win m = true := by
  unfold segOkB at *
  simp only [Bool.and_eq_true, Bool.not_eq_true', decide_eq_false_iff_not] at h ⊢
  exact ⟨⟨h.1.1, by omega⟩, h.2⟩
theorem pk_sup {dm sm vl tos id ttl si kind sp dp seq ack fl win : Int} {n : Nat} (h1 : dm ∈ ([2, 2, 2, 4, 281474976710655] : List Int)) (h2 : sm ∈ ([6, 8] : List Int)) (h3 : vl ∈ ([-1, -1, 7] : List Int)) (h4 : tos ∈ ([0, 0, 255] : List Int)) (h5 : id ∈ ([1, 65535, 65534] : List Int)) (h6 : ttl ∈ ([64, 64, 255] : List Int)) (h7 : 167772161 ≤ si ∧ si ≤ 167772163) (h8 : segOkB kind sp dp seq ack fl win n = true) (h9 : n ≤ 128 ∨ kind = 6 ∧ streamB fl = true) : superOkB dm sm vl tos id ttl si 167772161 kind sp dp seq ack fl win n = true := by
  simp only [List.mem_cons, List.not_mem_nil, or_false] at h1 h2 h3 h4 h5 h6
  unfold superOkB
  simp only [Bool.and_eq_true, Bool.or_eq_true, inB_iff, Bool.not_eq_true', decide_eq_false_iff_not, beq_iff_eq]
  refine ⟨by omega, by omega, by omega, by omega, by omega, by omega, by omega, by omega, h8, h9.imp (by omega) (fun h => h)⟩
set_option maxHeartbeats 4000000 in
theorem c_spec_l07Packet {b : Nat} {v : Value} {code : List UInt8} {most : Int} (h0 : 0 ≤ most := by omega) (h1 : most ≤ 320 := by omega) : ConC Tryz.prog 56 204 b v code [.int .i64 (most)] (α := Pk) (fun x => x.sup = true ∧ (x.body.size : Int) ≤ most) (fun x => .agg [V (x).dm, V (x).sm, V (x).vl, V (x).tos, V (x).id, V (x).ttl, V (x).si, V (x).di, V (x).kind, V (x).sp, V (x).dp, V (x).seq, V (x).ack, V (x).fl, V (x).win, VS (x).body]) (fun _ => []) := by
  refine conc_i Tryz.func56 Tryz.ntmps56 (fun L => ?_)
  refine vc_nf rfl rfl ?_
  refine vc_sr ?_
  refine vo ?_
  refine vnt ?_
  refine vc_seq' ?_
  refine vc_sv ?_
  refine svo ?_
  refine svo ?_
  refine svp [2, 2, 2, 4, 281474976710655] c_pick (fun x1 hx1 => ?_) 1000001
  refine svo ?_
  refine svo ?_
  refine svp [6, 8] c_pick (fun x2 hx2 => ?_) 1000001
  refine svo ?_
  refine svo ?_
  refine svp [-1, -1, 7] c_pick (fun x3 hx3 => ?_) 1000001
  refine svo ?_
  refine svo ?_
  refine svp [0, 0, 255] c_pick (fun x4 hx4 => ?_) 1000001
  refine svo ?_
  refine svo ?_
  refine svp [1, 65535, 65534] c_pick (fun x5 hx5 => ?_) 1000001
  refine svo ?_
  refine svo ?_
  refine svp [64, 64, 255] c_pick (fun x6 hx6 => ?_) 1000001
  refine svo ?_
  refine sve c_spec_l06Host (fun x7 hx7 => ?_) 1000001
  refine svo ?_
  refine svo ?_
  refine svo ?_
  refine svnil ?_
  refine thn ?_
  refine vc_seq' ?_
  refine vc_sv ?_
  refine svo ?_
  refine svo ?_
  refine svo ?_
  refine sve (c_spec_l06Segment (most := min most 128)) (fun x8 hx8 => ?_) 1000001
  refine svo ?_
  refine svo ?_
  refine svnil ?_
  refine thn ?_
  refine vc_seq' ?_
  refine vc_seq' ?_
  refine vc_sv ?_
  refine svo ?_
  refine svo ?_
  refine svo ?_
  refine svo ?_
  refine svo ?_
  refine svsp (fun g1 => ?_) (fun g1 => ?_)
  · refine svon ?_
    refine svon ?_
    refine svon ?_
    refine svon ?_
    refine svon ?_
    refine svo ?_
    refine svo ?_
    refine svsp (fun g2 => ?_) (fun g2 => ?_)
    · refine svon ?_
      refine svon ?_
      refine svo ?_
      refine svo ?_
      refine svsp (fun g3 => ?_) (fun g3 => ?_)
      · refine svon ?_
        refine sven (c_spec_l01Once (n := 2)) (fun x9 hx9 => ?_) 1000001
        refine svo ?_
        refine svnil ?_
        refine thn ?_
        refine vc_if (fun g4 => ?_) (fun g4 => ?_)
        · refine vc_sv ?_
          refine svo ?_
          refine svo ?_
          refine svo ?_
          refine svo ?_
          try refine svwr ?_
          refine svo ?_
          try refine svwr ?_
          refine sve (c_spec_l01Below (n := most - 128 + 1)) (fun x10 hx10 => ?_) 1000001
          refine svo ?_
          try refine svwr ?_
          refine sve (c_spec_l01Text (n := 128 + x10)) (fun x11 hx11 => ?_) 1000001
          refine svo ?_
          refine svo ?_
          refine svo ?_
          refine svnil ?_
          refine thn ?_
          refine vc_sr ?_
          iterate 2 refine vo ?_
          refine vnt ?_
          refine vc_ret ?_
          have hx8b := segOk_fl hx8.1
          have hst : streamB x8.fl = true := by rw [← andnot9 hx8b.1 hx8b.2 rfl]; exact beq_iff_eq.2 g2
          have hsz : x11.size ≤ 320 := by omega
          have hsm : (x11.size : Int) ≤ most := by omega
          refine fin_g (⟨x1, x2, x3, x4, x5, x6, x7, 167772161, x8.kind, x8.sp, x8.dp, x8.seq, x8.ack, x8.fl, x8.win, x11⟩) (⟨pk_sup hx1 hx2 hx3 hx4 hx5 hx6 hx7 (seg_n hx8.1 hsz) (.inr ⟨g1, hst⟩), hsm⟩) [] rfl (fz ?_) (fz ?_) <;> first | trivial | rfl | trace_state
        · refine vc_skip ?_
          refine thn ?_
          refine vc_sr ?_
          iterate 2 refine vo ?_
          refine vnt ?_
          refine vc_ret ?_
          have hsz : x8.body.size ≤ 128 := by have := hx8.2; omega
          have hsm : (x8.body.size : Int) ≤ most := by have := hx8.2; omega
          refine fin_g (⟨x1, x2, x3, x4, x5, x6, x7, 167772161, x8.kind, x8.sp, x8.dp, x8.seq, x8.ack, x8.fl, x8.win, x8.body⟩) (⟨pk_sup hx1 hx2 hx3 hx4 hx5 hx6 hx7 hx8.1 (.inl hsz), hsm⟩) [] rfl (fz ?_) (fz ?_) <;> first | trivial | rfl | trace_state
      · refine svof ?_
        refine svof ?_
        refine svo ?_
        refine svnil ?_
        refine thn ?_
        refine vc_else ?_
        refine vc_skip ?_
        refine thn ?_
        refine vc_sr ?_
        iterate 2 refine vo ?_
        refine vnt ?_
        refine vc_ret ?_
        have hsz : x8.body.size ≤ 128 := by have := hx8.2; omega
        have hsm : (x8.body.size : Int) ≤ most := by have := hx8.2; omega
        refine fin_g (⟨x1, x2, x3, x4, x5, x6, x7, 167772161, x8.kind, x8.sp, x8.dp, x8.seq, x8.ack, x8.fl, x8.win, x8.body⟩) (⟨pk_sup hx1 hx2 hx3 hx4 hx5 hx6 hx7 hx8.1 (.inl hsz), hsm⟩) [] rfl (fz ?_) (fz ?_) <;> first | trivial | rfl | trace_state
    · refine svof ?_
      refine svof ?_
      refine svo ?_
      refine svo ?_
      refine svof ?_
      refine svof ?_
      refine svo ?_
      refine svnil ?_
      refine thn ?_
      refine vc_else ?_
      refine vc_skip ?_
      refine thn ?_
      refine vc_sr ?_
      iterate 2 refine vo ?_
      refine vnt ?_
      refine vc_ret ?_
      have hsz : x8.body.size ≤ 128 := by have := hx8.2; omega
      have hsm : (x8.body.size : Int) ≤ most := by have := hx8.2; omega
      refine fin_g (⟨x1, x2, x3, x4, x5, x6, x7, 167772161, x8.kind, x8.sp, x8.dp, x8.seq, x8.ack, x8.fl, x8.win, x8.body⟩) (⟨pk_sup hx1 hx2 hx3 hx4 hx5 hx6 hx7 hx8.1 (.inl hsz), hsm⟩) [] rfl (fz ?_) (fz ?_) <;> first | trivial | rfl | trace_state
  · refine svof ?_
    refine svof ?_
    refine svof ?_
    refine svof ?_
    refine svof ?_
    refine svo ?_
    refine svo ?_
    refine svof ?_
    refine svof ?_
    refine svo ?_
    refine svo ?_
    refine svof ?_
    refine svof ?_
    refine svo ?_
    refine svnil ?_
    refine thn ?_
    refine vc_else ?_
    refine vc_skip ?_
    refine thn ?_
    refine vc_sr ?_
    iterate 2 refine vo ?_
    refine vnt ?_
    refine vc_ret ?_
    have hsz : x8.body.size ≤ 128 := by have := hx8.2; omega
    have hsm : (x8.body.size : Int) ≤ most := by have := hx8.2; omega
    refine fin_g (⟨x1, x2, x3, x4, x5, x6, x7, 167772161, x8.kind, x8.sp, x8.dp, x8.seq, x8.ack, x8.fl, x8.win, x8.body⟩) (⟨pk_sup hx1 hx2 hx3 hx4 hx5 hx6 hx7 hx8.1 (.inl hsz), hsm⟩) [] rfl (fz ?_) (fz ?_) <;> first | trivial | rfl | trace_state
end Go.Proofs.YtbdcaacpemkloaaGreat
end
section
namespace Go.Proofs.YtbdcaacpemkloaaGreat
open Go Go.RowKit Go.Vc
set_option linter.unusedVariables false
set_option linter.unusedSimpArgs false
set_option linter.unnecessarySimpa false
def WL (l : List Mp) : Prop := l.length ≤ 12 ∧ ∀ i (h : i < l.length), l[i].1 = 0 ∧ l[i].2.1 = (i : Int) ∧ l[i].2.2.1 = 11 - (i : Int) ∧ (i < 2 → l[i].2.2.2 = true)
theorem wl_nil : WL [] := ⟨by decide, fun i h => nomatch h⟩
theorem wl_ok {l : List Mp} (h : WL l) : mapsOk l = true := by
  obtain ⟨h1, h2⟩ := h
  refine mapsOk_iff.2 ⟨by omega, fun i hi => ⟨?_, fun j hj e => ?_⟩⟩
  · obtain ⟨a, b, c, _⟩ := h2 i hi
    unfold MapFine
    rw [a, b, c]
    omega
  · have a := (h2 i hi).2.1
    have b := (h2 j (by omega)).2.1
    omega
theorem wl_snoc {l : List Mp} {q : Bool} (h : WL l) (hn : l.length < 12) (hq : l.length < 2 → q = true) : WL (l ++ [((0 : Int), (l.length : Int), 11 - (l.length : Int), q)]) := by
  obtain ⟨h1, h2⟩ := h
  refine ⟨by simp; omega, fun i hi => ?_⟩
  by_cases he : i < l.length
  · rw [List.getElem_append_left he]
    exact h2 i he
  · have hi2 : i = l.length := by simp at hi; omega
    subst hi2
    rw [List.getElem_append_right (Nat.le_refl _)]
    simp only [Nat.sub_self, List.getElem_cons_zero]
    exact ⟨trivial, trivial, trivial, hq⟩
def tenF (i : Nat) : List Int := (List.range i).map fun i : Nat => (i : Int)
theorem tenF_len (i : Nat) : (tenF i).length = i := by simp [tenF]
theorem ten_ok : poolB 256 128 10 (tenF 10) = true := by decide
theorem mp_app (l : List Mp) (x : Mp) : l.map mpE ++ [[.int .i64 x.1, .int .i64 x.2.1, .int .i64 x.2.2.1, .bool x.2.2.2]] = (l ++ [x]).map mpE := by rw [List.map_append]; rfl
theorem rp_stp (i : Nat) (s : ByteArray) : (List.replicate i s).map strE ++ [[.string s]] = (List.replicate (i + 1) s).map strE := by
  rw [List.replicate_succ', List.map_append]; rfl
def page0 : ByteArray := repF 0 (Int.toNat 128)
theorem page0_sz : page0.size = 128 := by unfold page0; rw [repF, strOfNums_size]; rfl
set_option maxHeartbeats 4000000 in
theorem c_spec_MapPage {l : List Mp} {x : Mp} (hl : l.length ≤ 1099511627776 := by first | with_reducible assumption | omega) (h1 : mapsOk l = true) (h2 : mapsOk (l ++ [x]) = true) : Con0 Tryz.prog 144 [.one (.sl 4 (l.map mpE)), .agg [V x.1, V x.2.1, V x.2.2.1, .v (.bool x.2.2.2)]] (.tup [.one (.hs 0), B true]) [(0, .arr 52 4 ((l ++ [x]).map mpE))] := by
  refine con_i Tryz.func144 Tryz.ntmps144 (t := [(0, .one (.sl 4 (l.map mpE))), (1, .agg [V x.1, V x.2.1, V x.2.2.1, .v (.bool x.2.2.2)])]) rfl ?_
  refine vc_sr ?_
  iterate 3 refine vo ?_
  refine vnt ?_
  refine vc_sr ?_
  iterate 3 refine vo ?_
  rw [List.nil_append]
  iterate 3 refine vo ?_
  rw [mp_app]
  refine vo ?_
  refine vnt ?_
  refine vc_seq' ?_
  refine vc_sr ?_
  refine vo ?_
  refine voc c_spec_MappingsOk rfl rfl ?_
  iterate 2 refine vo ?_
  refine vsp (fun g1 => ?_) (fun g1 => ?_)
  · rw [h1] at g1; cases g1
  · refine von ?_
    refine vocn (c_spec_MappingsOk (l := l ++ [x]) (hl := by have := (mapsOk_iff.1 h2).1; omega)) rfl rfl ?_
    refine von ?_
    refine vo ?_
    refine vnt ?_
    refine vc_if (fun g2 => ?_) (fun g2 => ?_)
    · rw [h2] at g2; cases g2
    · refine vc_skip ?_
      refine thn ?_
      refine vc_sr ?_
      iterate 3 refine vo ?_
      refine vnt ?_
      refine vc_ret ?_
      refine fin_i [(0, some 96)] rfl (fz ?_) (fz ?_)
      · first | trivial | rfl | trace_state
      · first | trivial | rfl | trace_state
set_option maxHeartbeats 4000000 in
theorem c_spec_NewMemory {n : Int} (h0 : 0 ≤ n := by omega) (h1 : n ≤ 64 := by omega) : Con0 Tryz.prog 147 [I n] (.agg [.hs 0]) [(0, .arr 9 1 ((List.replicate n.toNat page0).map strE))] := by
  refine con_i Tryz.func147 Tryz.ntmps147 (t := [(0, I n)]) rfl ?_
  refine vc_sr ?_
  refine vo ?_
  refine vnt ?_
  refine vc_sr ?_
  iterate 3 refine vo ?_
  refine vnt ?_
  refine vc_seq' ?_
  refine vc_sr ?_
  refine vo ?_
  refine vnt ?_
  refine vc_block ?_
  refine vc_lp (σ := Nat) [0, 2, 3] [16] (fun i => [(4, I (i : Nat))]) (fun i => [(7, .arr 9 1 ((List.replicate i page0).map strE)), (24, .row 27 [.hs 7])]) (fun i => (i : Int) ≤ n) (fun i => n.toNat - i) 0 rfl rfl (sub_i [(24, some 24), (7, none)] (fz ?_) (fz ?_)) ?_ fun i hI => ?_
  · first | trivial | rfl | exact ⟨rfl, rfl⟩ | exact ⟨rfl, rfl, rfl⟩ | trace_state
  · first | trivial | rfl | exact ⟨rfl, rfl⟩ | exact ⟨rfl, rfl, rfl⟩ | trace_state
  · omega
  refine vc_nf rfl rfl ?_
  refine vc_seq' ?_
  refine vc_sr ?_
  iterate 4 refine vo ?_
  refine vsp (fun g1 => ?_) (fun g1 => ?_)
  · iterate 2 refine von ?_
    refine vo ?_
    refine vnt ?_
    refine vc_if (fun g2 => ?_) (fun g2 => ?_)
    · refine vc_skip ?_
      refine thn ?_
      refine vc_seq' ?_
      refine vc_block ?_
      refine vc_region ?_
      iterate 2 refine vo ?_
      refine voc c_spec_l01Long rfl rfl ?_
      refine vzs (rep_le _ _) fun z1 => ?_
      iterate 4 refine vo ?_
      refine vnil ?_
      refine inB_n ?_
      refine thn ?_
      refine vc_region ?_
      iterate 2 refine vo ?_
      try refine vwr ?_
      refine vo ?_
      refine vnt ?_
      refine ⟨i + 1, by omega, by omega, sub_i [(24, some 24), (7, some 152)] (fz ?_) (fz ?_)⟩
      · omega
      · exact (rp_stp i page0).symm
    · refine vc_exit ?_
      refine thn_x ?_
      refine thn_x ?_
      refine inB_x ?_
      refine thn ?_
      refine vc_sr ?_
      iterate 2 refine vo ?_
      refine vnt ?_
      refine vc_ret ?_
      have hi : i = n.toNat := by omega
      subst hi
      refine fin_i [(0, some 7)] rfl (fz ?_) (fz ?_) <;> first | trivial | rfl | trace_state
  · iterate 2 refine vof ?_
    refine vo ?_
    refine vnt ?_
    refine vc_else ?_
    refine vc_exit ?_
    refine thn_x ?_
    refine thn_x ?_
    refine inB_x ?_
    refine thn ?_
    refine vc_sr ?_
    iterate 2 refine vo ?_
    refine vnt ?_
    refine vc_ret ?_
    have hi : i = n.toNat := by omega
    subst hi
    refine fin_i [(0, some 7)] rfl (fz ?_) (fz ?_) <;> first | trivial | rfl | trace_state
theorem rng_stp (i : Nat) : (tenF i).map intE ++ [[.int .i64 (i : Int)]] = (tenF (i + 1)).map intE := by
  simp only [tenF, List.range_succ, List.map_append]; rfl
set_option maxHeartbeats 4000000 in
theorem c_spec_NewPool  : Con0 Tryz.prog 146 [I 256, I 128, I 10] (.tup [.agg [V 256, V 128, V 10, .hs 0], B true]) [(0, .arr 3 1 ((tenF 10).map intE))] := by
  refine con_i Tryz.func146 Tryz.ntmps146 (t := [(0, I 256), (1, I 128), (2, I 10)]) rfl ?_
  refine vc_sr ?_
  iterate 2 refine vo ?_
  refine vnt ?_
  refine vc_sr ?_
  iterate 6 refine vo ?_
  refine vnt ?_
  refine vc_seq' ?_
  refine vc_sr ?_
  refine vo ?_
  refine vnt ?_
  refine vc_block ?_
  refine vc_lp (σ := Nat) [2, 6, 8] [48] (fun i => [(9, I (i : Nat))]) (fun i => [(7, .arr 3 1 ((tenF i).map intE)), (64, .row 32 [V 256, V 128, V 10, .hs 7])]) (fun i => i ≤ 10) (fun i => 10 - i) 0 rfl rfl (sub_i [(64, some 64), (7, none)] (fz ?_) (fz ?_)) ?_ fun i hI => ?_
  · first | trivial | rfl | exact ⟨rfl, rfl⟩ | exact ⟨rfl, rfl, rfl⟩ | trace_state
  · first | trivial | rfl | exact ⟨rfl, rfl⟩ | exact ⟨rfl, rfl, rfl⟩ | trace_state
  · omega
  refine vc_nf rfl rfl ?_
  have hln := tenF_len i
  refine vc_seq' ?_
  refine vc_sr ?_
  iterate 4 refine vo ?_
  refine vsp (fun g1 => ?_) (fun g1 => ?_)
  · iterate 2 refine von ?_
    refine vo ?_
    refine vnt ?_
    refine vc_if (fun g2 => ?_) (fun g2 => ?_)
    · refine vc_skip ?_
      refine thn ?_
      refine vc_seq' ?_
      refine vc_block ?_
      refine vc_region ?_
      iterate 7 refine vo ?_
      refine vnil ?_
      refine inB_n ?_
      refine thn ?_
      refine vc_region ?_
      iterate 2 refine vo ?_
      try refine vwr ?_
      refine vo ?_
      refine vnt ?_
      refine ⟨i + 1, by omega, by omega, sub_i [(64, some 64), (7, some 216)] (fz ?_) (fz ?_)⟩
      · omega
      · exact (rng_stp i).symm
    · exact absurd g2 (by omega)
  · have hi : i = 10 := by omega
    subst hi
    iterate 2 refine vof ?_
    refine vo ?_
    refine vnt ?_
    refine vc_else ?_
    refine vc_exit ?_
    refine thn_x ?_
    refine thn_x ?_
    refine inB_x ?_
    refine thn ?_
    refine vc_seq' ?_
    refine vc_sr ?_
    refine vo ?_
    refine voc c_spec_PoolOk rfl rfl ?_
    refine vo ?_
    refine vnt ?_
    refine vc_if (fun g3 => ?_) (fun g3 => ?_)
    · rw [ten_ok] at g3; cases g3
    · refine vc_skip ?_
      refine thn ?_
      refine vc_sr ?_
      iterate 3 refine vo ?_
      refine vnt ?_
      refine vc_ret ?_
      refine fin_i [(0, some 7)] rfl (fz ?_) (fz ?_) <;> first | trivial | rfl | trace_state
structure W22 where
  (l : List Mp)
  (s h nx : Int)
def W22.ok (x : W22) : Prop := WL x.l ∧ x.l.length = 12 ∧ (x.s = 8 ∨ x.s = 16) ∧ (0 ≤ x.h ∧ x.h ≤ 2 * x.s - 1) ∧ (x.nx = 0 ∨ x.nx = 7 ∨ x.nx = 65535)
set_option maxHeartbeats 4000000 in
theorem c_spec_l22World {b : Nat} {v : Value} {code : List UInt8}  : ConC Tryz.prog 55 204 b v code [] (α := W22) (fun x => x.ok) (fun x => .tup [.one (.hs 0), .agg [.hs 1], .agg [V 0, V x.s, V x.h, V x.h, V 256, V 128, V 10, .hs 2, .hs 3, V x.nx]]) (fun x => [(0, .arr 52 4 (x.l.map mpE)), (1, .arr 9 1 ((List.replicate 12 page0).map strE)), (2, .arr 3 1 ((tenF 10).map intE)), (3, .own (sntOw 140 3 (([] : List Sn).map snE)))]) := by
  refine conc_i Tryz.func55 Tryz.ntmps55 (fun L => ?_)
  refine vc_nf rfl rfl ?_
  refine vc_sr ?_
  iterate 3 refine vo ?_
  refine vnt ?_
  refine vc_sr ?_
  iterate 2 refine vo ?_
  refine vnt ?_
  refine vc_seq' ?_
  refine vc_sr ?_
  refine vo ?_
  refine vnt ?_
  refine vc_block ?_
  refine vc_lp (σ := List Mp) [0, 3, 4] [24, 32, 1000001, 1000003] (fun l => [(5, .one (.hs 7)), (6, I (l.length : Int))]) (fun l => [(7, .arr 52 4 (l.map mpE))]) (fun l => WL l) (fun l => 12 - l.length) [] rfl rfl (sub_i [(7, some 64)] (fz ?_) (fz ?_)) ?_ fun l hW => ?_
  · first | trivial | rfl | exact ⟨rfl, rfl⟩ | exact ⟨rfl, rfl, rfl⟩ | trace_state
  · first | trivial | rfl | exact ⟨rfl, rfl⟩ | exact ⟨rfl, rfl, rfl⟩ | trace_state
  · exact wl_nil
  refine vc_nf rfl rfl ?_
  have hln := hW.1
  refine vc_seq' ?_
  refine vc_sr ?_
  iterate 2 refine vo ?_
  refine vnt ?_
  refine vc_if (fun g1 => ?_) (fun g1 => ?_)
  · refine vc_skip ?_
    refine thn ?_
    refine vc_seq' ?_
    refine vc_block ?_
    refine vc_sv ?_
    refine svo ?_
    refine svo ?_
    refine svo ?_
    refine svo ?_
    try refine svwr ?_
    refine svo ?_
    refine svo ?_
    refine svo ?_
    refine svsp (fun g2 => ?_) (fun g2 => ?_)
    · refine svof ?_
      refine svof ?_
      refine svo ?_
      refine svo ?_
      refine svoc (c_spec_MapPage (l := l) (x := ((0 : Int), (l.length : Int), 11 - (l.length : Int), true)) (h1 := wl_ok hW) (h2 := wl_ok (wl_snoc hW (by omega) (fun _ => rfl)))) rfl rfl ?_
      refine svo ?_
      refine svo ?_
      refine svo ?_
      refine svo ?_
      refine svnil ?_
      refine inB_n ?_
      refine thn ?_
      refine vc_region ?_
      iterate 2 refine vo ?_
      try refine vwr ?_
      refine vo ?_
      refine vnt ?_
      have hlc : (((l ++ [((0 : Int), (l.length : Int), 11 - (l.length : Int), true)]).length : Nat) : Int) = (l.length : Int) + 1 := by simp
      refine ⟨l ++ [((0 : Int), (l.length : Int), 11 - (l.length : Int), true)], wl_snoc hW (by omega) (fun _ => rfl), by omega, sub_i [(7, some 200)] (fz ?_) (fz ?_)⟩
      · first | (rw [hlc]; done) | trace_state
      · first | trivial | rfl | trace_state
    · refine svon ?_
      refine sven (c_spec_l01Once (n := 2)) (fun x1 hx1 => ?_) 1000001
      refine svo ?_
      refine svo ?_
      refine svoc (c_spec_MapPage (l := l) (x := ((0 : Int), (l.length : Int), 11 - (l.length : Int), x1)) (h1 := wl_ok hW) (h2 := wl_ok (wl_snoc hW (by omega) (fun h => absurd g2 (by omega))))) rfl rfl ?_
      refine svo ?_
      refine svo ?_
      refine svo ?_
      refine svo ?_
      refine svnil ?_
      refine inB_n ?_
      refine thn ?_
      refine vc_region ?_
      iterate 2 refine vo ?_
      try refine vwr ?_
      refine vo ?_
      refine vnt ?_
      have hlc : (((l ++ [((0 : Int), (l.length : Int), 11 - (l.length : Int), x1)]).length : Nat) : Int) = (l.length : Int) + 1 := by simp
      refine ⟨l ++ [((0 : Int), (l.length : Int), 11 - (l.length : Int), x1)], wl_snoc hW (by omega) (fun h => absurd g2 (by omega)), by omega, sub_i [(7, some 200)] (fz ?_) (fz ?_)⟩
      · first | (rw [hlc]; done) | trace_state
      · first | trivial | rfl | trace_state
  · refine vc_exit ?_
    refine thn_x ?_
    refine thn_x ?_
    refine inB_x ?_
    refine thn ?_
    refine vc_seq' ?_
    refine vc_sv ?_
    refine svo ?_
    refine svo ?_
    refine svp [8, 16] c_pick (fun x2 hx2 => ?_) 1000001
    have hs2 : x2 = 8 ∨ x2 = 16 := by simpa using hx2
    refine svo ?_
    refine svo ?_
    refine svo ?_
    refine svp [0, 7, 65535] c_pick (fun x3 hx3 => ?_) 1000001
    have hs3 : x3 = 0 ∨ x3 = 7 ∨ x3 = 65535 := by simpa using hx3
    refine svo ?_
    refine svo ?_
    refine svo ?_
    refine svnil ?_
    refine thn ?_
    refine vc_seq' ?_
    refine vc_sv ?_
    refine svo ?_
    refine svo ?_
    refine svo ?_
    refine svo ?_
    refine svo ?_
    try refine svwr ?_
    refine sve (c_spec_l01Below (n := 2 * x2)) (fun x4 hx4 => ?_) 1000001
    refine svo ?_
    refine svo ?_
    refine svo ?_
    refine svnil ?_
    refine thn ?_
    refine vc_sr ?_
    iterate 6 refine vo ?_
    refine vnt ?_
    refine vc_sr ?_
    refine voc c_spec_NewPool rfl rfl ?_
    iterate 5 refine vo ?_
    refine vnt ?_
    refine vc_sr ?_
    refine vo ?_
    refine voc c_spec_NewMemory rfl rfl ?_
    iterate 4 refine vo ?_
    refine vnt ?_
    refine vc_ret ?_
    have hle : l.length = 12 := by omega
    refine fin_g (⟨l, x2, x4, x3⟩) (⟨hW, hle, hs2, by omega, hs3⟩) [(1000001, some 1000001), (1000003, some 1000003), (0, some 7), (1, some 440), (2, some 400), (3, none)] rfl (fz ?_) (fz ?_)
    · first | trivial | rfl | trace_state
    · first | trivial | exact fun w => snt_nil _ _ w | exact ⟨by simp, fun w => snt_nil _ _ w⟩ | exact ⟨rfl, rfl, fun w => snt_nil _ _ w⟩ | trace_state
structure DSx where
  (w : W22)
  (p : Pk)
  (size cut : Int)
def DSx.ok (x : DSx) : Prop := x.w.ok ∧ x.p.sup = true ∧ (8 ≤ x.size ∧ x.size ≤ 128) ∧ (x.cut = 40 ∨ x.cut = 60 ∨ x.cut = 100 ∨ x.cut = 128)
set_option maxHeartbeats 4000000 in
theorem c_spec_DrawSending {v : Value} {code : List UInt8} (hv : v.oneCell' = true)  : ConV Tryz.prog 9 v code (α := DSx) (fun x => x.ok) (fun x => .tup [.one (.hs 0), .agg [.hs 1], .agg [V 0, V x.w.s, V x.w.h, V x.w.h, V 256, V 128, V 10, .hs 2, .hs 3, V x.w.nx], .agg [V (x.p).dm, V (x.p).sm, V (x.p).vl, V (x.p).tos, V (x.p).id, V (x.p).ttl, V (x.p).si, V (x.p).di, V (x.p).kind, V (x.p).sp, V (x.p).dp, V (x.p).seq, V (x.p).ack, V (x.p).fl, V (x.p).win, VS (x.p).body], I x.size, I x.cut]) (fun x => [(0, .arr 52 4 (x.w.l.map mpE)), (1, .arr 9 1 ((List.replicate 12 page0).map strE)), (2, .arr 3 1 ((tenF 10).map intE)), (3, .own (sntOw 140 3 (([] : List Sn).map snE)))]) := by
  refine conv_i Tryz.func9 Tryz.ntmps9 (fun L => ?_) hv
  refine vc_nf rfl rfl ?_
  refine vc_sr ?_
  iterate 6 refine vo ?_
  refine vnt ?_
  refine vc_seq' ?_
  refine vc_sv ?_
  refine svo ?_
  refine svv c_spec_l01New (fun B hB => ?_)
  refine svo ?_
  refine svnil ?_
  refine thn ?_
  refine vc_seq' ?_
  refine vc_sv ?_
  refine svo ?_
  refine sve c_spec_l22World (fun w hw => ?_) 120
  refine svo ?_
  refine svo ?_
  refine svo ?_
  refine svo ?_
  refine svo ?_
  refine svo ?_
  refine svo ?_
  refine svo ?_
  refine svo ?_
  refine svnil ?_
  refine thn ?_
  refine vc_seq' ?_
  refine vc_sv ?_
  refine svo ?_
  refine sve (c_spec_l07Packet (most := 320)) (fun p hp => ?_) 120
  refine svo ?_
  refine svo ?_
  refine svnil ?_
  refine thn ?_
  refine vc_seq' ?_
  refine vc_sv ?_
  refine svo ?_
  refine sve (c_spec_l01Below (n := 121)) (fun z hz => ?_) 120
  refine svo ?_
  try refine svwr ?_
  refine svo ?_
  refine svnil ?_
  refine thn ?_
  refine vc_sr ?_
  iterate 7 refine vo ?_
  refine vdp [40, 60, 100, 128] c_pick ?_ 120
  iterate 6 refine vo ?_
  refine vnt ?_
  refine vc_et (d := 7) (xs := [40, 60, 100, 128]) (fun k hk => ?_)
  have hk4 : k = 40 ∨ k = 60 ∨ k = 100 ∨ k = 128 := by simpa using hk
  refine vc_ret ?_
  refine fin_g (⟨w, p, 8 + z, k⟩) (⟨hw, hp.1, by show 8 ≤ 8 + z ∧ 8 + z ≤ 128; omega, hk4⟩) [(1000003, some 1000003), (0, some 144), (1, some 145), (2, some 146), (3, some 147)] rfl (fz ?_) (fz ?_)
  · first | trivial | rfl | trace_state
  · first | trivial | rfl | trace_state
end Go.Proofs.YtbdcaacpemkloaaGreat
end
section
namespace Go.Proofs.YtbdcaacpemkloaaGreat
open Go Go.RowKit Go.Vc
set_option linter.unusedVariables false
set_option linter.unusedSimpArgs false
set_option linter.unnecessarySimpa false
theorem wl_page {l : List Mp} (h : WL l) (hn : l.length = 12) (wr : Bool) {v : Int} (h0 : 0 ≤ v) (h1 : v < 12) (h2 : wr = true → v < 2) : mpPage l 0 v wr = 11 - v := by
  obtain ⟨i, rfl⟩ := Int.eq_ofNat_of_zero_le h0
  have hi : i < l.length := by omega
  obtain ⟨a, b, c, e⟩ := h.2 i hi
  rw [mpPage_at hi (fun j g => hit_no.2 fun q => by have := (h.2 j (by omega)).2.1; omega) (hit_iff.2 ⟨a, b⟩), c]
  rw [if_neg]
  cases wr
  · simp
  · rw [e (by have := h2 rfl; omega)]; simp
theorem wl_all {l : List Mp} (h : WL l) (hn : l.length = 12) : Turned 12 12 l 0 false := ⟨wl_ok h, Nat.le_refl _, fun v h0 h1 => wl_page h hn false h0 h1 (fun e => by cases e)⟩
theorem wl_two {l : List Mp} (h : WL l) (hn : l.length = 12) : Turned 12 2 l 0 true := ⟨wl_ok h, by decide, fun v h0 h1 => wl_page h hn true h0 (by omega) (fun _ => h1)⟩
theorem rput_fb {l : List Mp} {ps : Pg} {s h t : Int} {e : ByteArray} (ht : Turned 12 2 l 0 true) (hm : MemOk ps) (hl : ps.length = 12) (hr : (rputF l ps 0 0 s h t e).2.2 = true) :
    e.size = 16 ∧ MemOk (rputF l ps 0 0 s h t e).1 ∧ (rputF l ps 0 0 s h t e).1.length = 12 ∧ ¬ freeF 0 s h t = 0 ∧ (rputF l ps 0 0 s h t e).2.1 = rnext s t ∧ 0 ≤ t % s * 16 ∧ t % s * 16 + 16 ≤ 256 ∧
    ∀ x : Int, 0 ≤ x → x < 1536 → fb 12 (rputF l ps 0 0 s h t e).1 x = if t % s * 16 ≤ x ∧ x < t % s * 16 + 16 then bAt e (x - t % s * 16).toNat else fb 12 ps x := by
  have hf : ¬ freeF 0 s h t = 0 := fun hf => by rw [rputF_full hf] at hr; cases hr
  have q := freeF_ok hf
  obtain ⟨hs, b0, b1, s0, s1, h0, h1, t0, t1, u1, u0⟩ := ringOk_facts q
  have m0 := Int.emod_nonneg t (show s ≠ 0 by omega)
  have m1 := Int.emod_lt_of_pos t (show 0 < s by omega)
  have he : e.size = 16 := by
    by_cases he : e.size = 16
    · exact he
    · unfold rputF at hr
      rw [if_neg hf, if_neg he] at hr; cases hr
  have hsl : rslot 0 s t = t % s * 16 := by unfold rslot; omega
  obtain ⟨qs, w1, w2, w3, w4⟩ := dmaW_fb (a := rslot 0 s t) ht hm hl (by omega) (s := e) (by omega) (by omega)
  have hrp : rputF l ps 0 0 s h t e = (qs, rnext s t, true) := by
    unfold rputF
    rw [if_neg hf, if_pos he, w1]
  rw [hrp]
  refine ⟨he, w2, w3, hf, rfl, by omega, by omega, fun x x0 x1 => ?_⟩
  rw [w4 x x0 (by omega), hsl, he]; rfl
theorem ring_next {s h t : Int} (q : ringOkB 0 s h t = true) (hf : ¬ freeF 0 s h t = 0) : ringOkB 0 s h (rnext s t) = true ∧ usedF s h (rnext s t) = usedF s h t + 1 ∧ usedF s h t + 1 ≤ s := by
  obtain ⟨hs, b0, b1, s0, s1, h0, h1, t0, t1, u1, u0⟩ := ringOk_facts q
  unfold freeF at hf
  rw [q, if_pos rfl] at hf
  have hsz := sizeB_cases hs
  have key : (0 ≤ (t + 1) % (2 * s) ∧ (t + 1) % (2 * s) ≤ 2 * s - 1 ∧ ((t + 1) % (2 * s) - h) % (2 * s) ≤ s) ∧ ((t + 1) % (2 * s) - h) % (2 * s) = (t - h) % (2 * s) + 1 ∧ (t - h) % (2 * s) + 1 ≤ s := by
    rcases hsz with rfl | rfl | rfl | rfl <;> omega
  obtain ⟨⟨k1, k2, k3⟩, k4, k5⟩ := key
  refine ⟨?_, k4, k5⟩
  simp only [ringOkB, Bool.and_eq_true, inB_iff, decide_eq_true_eq, rnext]
  exact ⟨⟨⟨⟨⟨b0, b1⟩, hs⟩, h0, h1⟩, k1, k2⟩, decide_eq_true k3⟩
theorem slot_next {s t : Int} (hs : sizeB s = true) (j : Nat) : (rnext s t + j) % s = (t + ((j + 1 : Nat) : Int)) % s := by
  unfold rnext
  rcases sizeB_cases hs with rfl | rfl | rfl | rfl <;> omega
theorem slot_ne {s t : Int} (hs : sizeB s = true) {i j : Nat} (hij : i ≠ j) (hi : (i : Int) < s) (hj : (j : Int) < s) : (t + i) % s ≠ (t + j) % s := by
  rcases sizeB_cases hs with rfl | rfl | rfl | rfl <;> omega
theorem rpa_fb {l : List Mp} {s h : Int} (ht : Turned 12 2 l 0 true) : ∀ (es : List ByteArray) (ps : Pg) (t : Int), MemOk ps → ps.length = 12 → ringOkB 0 s h t = true → (rpa l 0 0 s h es ps t).2.2 = true →
    MemOk (rpa l 0 0 s h es ps t).1 ∧ (rpa l 0 0 s h es ps t).1.length = 12 ∧ ringOkB 0 s h (rpa l 0 0 s h es ps t).2.1 = true ∧ (rpa l 0 0 s h es ps t).2.1 = (t + es.length) % (2 * s) ∧ usedF s h t + es.length ≤ s ∧ (∀ e ∈ es, e.size = 16) ∧
    (∀ j : Nat, j < es.length → ∀ k : Nat, k < 16 → fb 12 (rpa l 0 0 s h es ps t).1 ((t + j) % s * 16 + k) = bAt (at' es j) k) ∧
    (∀ x : Int, 0 ≤ x → x < 1536 → (∀ j : Nat, j < es.length → x < (t + j) % s * 16 ∨ (t + j) % s * 16 + 16 ≤ x) → fb 12 (rpa l 0 0 s h es ps t).1 x = fb 12 ps x)
  | [], ps, t, hm, hl, q, _ => by
    obtain ⟨hs, b0, b1, s0, s1, h0, h1, t0, t1, u1, u0⟩ := ringOk_facts q
    refine ⟨hm, hl, q, ?_, ?_, (fun e h => nomatch h), (fun j h => nomatch h), fun _ _ _ _ => rfl⟩
    · show t = (t + 0) % (2 * s)
      rw [Int.add_zero, Int.emod_eq_of_lt t0 (by omega)]
    · show usedF s h t + 0 ≤ s
      unfold usedF; omega
  | e :: r, ps, t, hm, hl, q, hr => by
    obtain ⟨hs, b0, b1, s0, s1, h0, h1, t0, t1, u1, u0⟩ := ringOk_facts q
    have hr1 : (rputF l ps 0 0 s h t e).2.2 = true := by
      by_cases hc : (rputF l ps 0 0 s h t e).2.2 = true
      · exact hc
      · simp only [rpa] at hr
        rw [if_neg hc] at hr; cases hr
    obtain ⟨p1, p2, p3, p4, p5, p6, p7, p8⟩ := rput_fb ht hm hl hr1
    obtain ⟨n1, n2, n3⟩ := ring_next q p4
    have hstep : rpa l 0 0 s h (e :: r) ps t = rpa l 0 0 s h r (rputF l ps 0 0 s h t e).1 (rnext s t) := by
      simp only [rpa]
      rw [if_pos hr1, p5]
    rw [hstep] at hr ⊢
    obtain ⟨i1, i2, i3, i4, i5, i6, i7, i8⟩ := rpa_fb ht r _ _ p2 p3 n1 hr
    have hu : 0 ≤ usedF s h t := u0
    have hlen : (((e :: r).length : Nat) : Int) = (r.length : Int) + 1 := by simp
    refine ⟨i1, i2, i3, ?_, by omega, fun x hx => ?_, fun j hj k hk => ?_, fun x x0 x1 hx => ?_⟩
    · rw [i4, hlen]
      unfold rnext
      rcases sizeB_cases hs with rfl | rfl | rfl | rfl <;> omega
    · rcases List.mem_cons.1 hx with rfl | hx
      · exact p1
      · exact i6 x hx
    · cases j with
      | zero =>
        rw [show ((0 : Nat) : Int) = 0 from rfl, Int.add_zero]
        rw [i8 _ (by omega) (by omega) fun i hi => ?_, p8 _ (by omega) (by omega), if_pos (by omega)]
        · show bAt e _ = bAt e k
          congr 1; omega
        · rw [slot_next hs]
          have := slot_ne (t := t) hs (i := 0) (j := i + 1) (by omega) (by omega) (by omega)
          rw [show ((0 : Nat) : Int) = 0 from rfl, Int.add_zero] at this
          omega
      | succ j =>
        have := i7 j (by simpa using hj) k hk
        rw [slot_next hs] at this
        exact this
    · have h0 := hx 0 (by simp)
      rw [show ((0 : Nat) : Int) = 0 from rfl, Int.add_zero] at h0
      rw [i8 x x0 x1 fun i hi => ?_, p8 x x0 x1, if_neg (by omega)]
      rw [slot_next hs]
      exact hx (i + 1) (by simpa using hi)
end Go.Proofs.YtbdcaacpemkloaaGreat
end
section
namespace Go.Proofs.YtbdcaacpemkloaaGreat
open Go Go.RowKit Go.Vc
set_option linter.unusedVariables false
set_option linter.unusedSimpArgs false
set_option linter.unnecessarySimpa false
def smT (a b : List ByteArray) : Bool := decide (a = b)
theorem smT_len {a b : List ByteArray} (h : ¬ (a.length : Int) = b.length) : smT a b = false := decide_eq_false fun e => h (by rw [e])
theorem smT_at {a b : List ByteArray} {i : Nat} (h : ¬ at' a i = at' b i) : smT a b = false := decide_eq_false fun e => h (by rw [e])
theorem smT_y {a b : List ByteArray} {i : Nat} (hl : (a.length : Int) = b.length) (hi : ¬ i < a.length) (h : ∀ j, j < i → at' a j = at' b j) : smT a b = true := by
  refine decide_eq_true (List.ext_getElem (by omega) fun j h1 h2 => ?_)
  have := h j (by omega)
  rwa [atp_eq h1, atp_eq h2] at this
set_option maxHeartbeats 4000000 in
theorem c_laws_sameTexts {a b : List ByteArray} (ha : a.length ≤ 1099511627776 := by first | with_reducible assumption | omega) (hb : b.length ≤ 1099511627776 := by first | with_reducible assumption | omega) : Con0 Tryz.prog 14 [.one (.sl 1 (a.map strE)), .one (.sl 1 (b.map strE))] (B (smT a b)) [] := by
  refine con_i Tryz.func14 Tryz.ntmps14 (t := [(0, .one (.sl 1 (a.map strE))), (1, .one (.sl 1 (b.map strE)))]) rfl ?_
  refine vc_sr ?_
  refine vo ?_
  refine vnt ?_
  refine vc_seq' ?_
  refine vc_sr ?_
  iterate 2 refine vo ?_
  try first | refine vlb ?_ | refine vln ?_
  iterate 2 refine vo ?_
  try first | refine vlb ?_ | refine vln ?_
  refine vo ?_
  refine vnt ?_
  refine vc_if (fun g1 => ?_) (fun g1 => ?_)
  · refine vc_sr ?_
    refine vo ?_
    refine vnt ?_
    refine vc_ret ?_
    refine thn_r ?_
    have hh := smT_len g1
    rw [hh]
    refine fin_i [] rfl (fz ?_) (fz ?_) <;> first | trivial | rfl
  · refine vc_skip ?_
    refine thn ?_
    refine vc_seq' ?_
    refine vc_sr ?_
    refine vo ?_
    refine vnt ?_
    refine vc_block ?_
    refine vc_lp (σ := Nat) [0, 1] [] (fun i => [(5, I (i : Nat))]) (fun i => []) (fun i => i ≤ a.length ∧ ∀ j, j < i → at' a j = at' b j) (fun i => a.length - i) 0 rfl rfl (sub_i [] (fz ?_) (fz ?_)) ?_ fun i hI => ?_
    · first | trivial | simp
    · first | trivial | simp
    · exact ⟨Nat.zero_le _, fun j h => nomatch h⟩
    refine vc_nf rfl rfl ?_
    refine vc_seq' ?_
    refine vc_sr ?_
    iterate 3 refine vo ?_
    try first | refine vlb ?_ | refine vln ?_
    refine vo ?_
    refine vnt ?_
    refine vc_if (fun g2 => ?_) (fun g2 => ?_)
    · refine vc_skip ?_
      refine thn ?_
      refine vc_seq' ?_
      refine vc_block ?_
      refine vc_sr ?_
      iterate 3 refine vo ?_
      try with_reducible (first | refine vep ?_ | refine vpt ?_)
      iterate 4 refine vo ?_
      try with_reducible (first | refine vep ?_ | refine vpt ?_)
      iterate 2 refine vo ?_
      refine vnt ?_
      refine vc_if (fun g3 => ?_) (fun g3 => ?_)
      · refine vc_sr ?_
        refine vo ?_
        refine vnt ?_
        refine vc_ret ?_
        refine inB_r ?_
        refine thn_r ?_
        refine thn_r ?_
        refine inB_r ?_
        refine thn_r ?_
        have hh := smT_at g3
        rw [hh]
        refine fin_i [] rfl (fz ?_) (fz ?_) <;> first | trivial | rfl
      · refine vc_skip ?_
        refine inB_n ?_
        refine thn ?_
        refine vc_region ?_
        iterate 2 refine vo ?_
        try refine vwr ?_
        refine vo ?_
        refine vnt ?_
        refine ⟨i + 1, ?_, ?_, sub_i [] (fz ?_) (fz ?_)⟩
        · exact ⟨by omega, fun j hj => by rcases (show j < i ∨ j = i by omega) with h | h <;> first | exact hI.2 j h | (subst h; exact g3)⟩
        · omega
        all_goals first | trivial | rfl | omega | simp
    · refine vc_exit ?_
      refine thn_x ?_
      refine thn_x ?_
      refine inB_x ?_
      refine thn ?_
      refine vc_sr ?_
      refine vo ?_
      refine vnt ?_
      refine vc_ret ?_
      have hh := smT_y g1 (by omega) hI.2
      rw [hh]
      refine fin_i [] rfl (fz ?_) (fz ?_) <;> first | trivial | rfl
theorem c_laws_big {v : Value} {code : List UInt8} : Con0 Tryz.prog 8 [.one (.rd (pinQ v code))] (B (decide ((code.length : Int) > 1048576))) [] := by
  refine con_i Tryz.func8 Tryz.ntmps8 (t := [(0, .one (.rd (pinQ v code)))]) rfl ?_
  refine vc_sr ?_
  refine vo ?_
  refine vnt ?_
  refine vc_sr ?_
  refine vo ?_
  refine vlp ?_
  refine vo ?_
  refine vo ?_
  refine vnt ?_
  refine vc_ret ?_
  refine fin_i [] rfl (fz ?_) (fz ?_) <;> first | trivial | rfl | trace_state
end Go.Proofs.YtbdcaacpemkloaaGreat
end
section
namespace Go.Proofs.YtbdcaacpemkloaaGreat
open Go Go.RowKit Go.Vc
set_option linter.unusedVariables false
set_option linter.unusedSimpArgs false
set_option linter.unnecessarySimpa false
abbrev ps0 : Pg := List.replicate 12 page0
theorem ps0_ok : MemOk ps0 := ⟨by simp [ps0], fun i h => by show (List.replicate 12 page0)[i].size = 128; rw [List.getElem_replicate]; exact page0_sz⟩
theorem ring_0 {s h : Int} (hs : s = 8 ∨ s = 16) (h0 : 0 ≤ h ∧ h ≤ 2 * s - 1) : ringOkB 0 s h h = true := by
  simp only [ringOkB, Bool.and_eq_true, inB_iff, decide_eq_true_eq]
  refine ⟨⟨⟨⟨⟨by omega, by omega⟩, ?_⟩, h0.1, h0.2⟩, h0.1, h0.2⟩, ?_⟩
  · rcases hs with rfl | rfl <;> rfl
  · rw [Int.sub_self, Int.zero_emod]; omega
theorem rpaF_y {l : List Mp} {ps : Pg} {d b s h t : Int} {es : List ByteArray} (hr : (rpaF l ps d b s h t es).2.2 = true) : (rpa l d b s h es ps t).2.2 = true ∧ rpaF l ps d b s h t es = rpa l d b s h es ps t := by
  unfold rpaF at hr ⊢
  split at hr
  · rename_i hc; exact ⟨hc, if_pos hc⟩
  · cases hr
theorem encL_at {D : List Dsc} {j : Nat} (h : j < D.length) : at' (encL D) j = encDF (at' D j).1 (at' D j).2.1 (at' D j).2.2.1 (at' D j).2.2.2.1 (at' D j).2.2.2.2.1 (at' D j).2.2.2.2.2 := by
  rw [atp_eq (by rw [encL_len]; exact h), atp_eq h]
  simp [encL]
end Go.Proofs.YtbdcaacpemkloaaGreat
end
section
namespace Go.Proofs.YtbdcaacpemkloaaGreat
open Go Go.RowKit Go.Vc
set_option linter.unusedVariables false
set_option linter.unusedSimpArgs false
set_option linter.unnecessarySimpa false
theorem get32_at {s : ByteArray} {i : Nat} (h : i + 4 ≤ s.size) : get32 s (i : Int) = ((bAt s i * 16777216 + bAt s (i + 1) * 65536 + bAt s (i + 2) * 256 + bAt s (i + 3) : Nat) : Int) := by
  unfold get32; rw [if_pos (by omega)]; rfl
theorem w32_at {v : Int} (h : inB v 0 4294967295 = true) : ((bAt (word32 v) 0 * 16777216 + bAt (word32 v) 1 * 65536 + bAt (word32 v) 2 * 256 + bAt (word32 v) 3 : Nat) : Int) = v := by
  obtain ⟨h1, h2⟩ := inB_iff.1 h
  have e : word32 v = strOfNums [v / 16777216, v / 65536 % 256, v / 256 % 256, v % 256] := by simp [word32, h]
  rw [e, bAt_lit (by simp), bAt_lit (by simp), bAt_lit (by simp), bAt_lit (by simp)]
  simp only [List.getElem_cons_zero, List.getElem_cons_succ]
  omega
theorem mid_at (a b r : ByteArray) {k : Nat} (h : k < b.size) : bAt (a ++ b ++ r) (a.size + k) = bAt b k := by
  rw [bAt_append, ByteArray.size_append, if_pos (by omega), bAt_append, if_neg (by omega)]
  congr 1; omega
theorem g16m {s a r : ByteArray} {v : Int} {i : Nat} (e : s = a ++ word16 v ++ r) (h : inB v 0 65535 = true) (hi : i = a.size) : get16 s (i : Int) = v := by rw [e]; exact get16_mid h hi
theorem g32m {s a r : ByteArray} {v : Int} {i : Nat} (e : s = a ++ word32 v ++ r) (h : inB v 0 4294967295 = true) (hi : i = a.size) : get32 s (i : Int) = v := by
  have hw := word32_size h
  subst e hi
  rw [get32_at (by rw [ByteArray.size_append, ByteArray.size_append]; omega)]
  have e0 := mid_at a (word32 v) r (k := 0) (by omega)
  rw [Nat.add_zero] at e0
  rw [e0, mid_at a (word32 v) r (k := 1) (by omega), mid_at a (word32 v) r (k := 2) (by omega), mid_at a (word32 v) r (k := 3) (by omega)]
  exact w32_at h
theorem bym {s a r : ByteArray} {xs : List Int} {i k : Nat} (e : s = a ++ strOfNums xs ++ r) (hk : k < xs.length) (hi : i = a.size + k) : bAt s i = xs[k].toNat % 256 := by
  subst e hi
  rw [mid_at _ _ _ (by rw [strOfNums_size]; exact hk), bAt_lit hk]
theorem g16_l {a b : ByteArray} {i : Nat} (h : i + 2 ≤ a.size) : get16 (a ++ b) (i : Int) = get16 a (i : Int) := by
  rw [get16_at (by rw [ByteArray.size_append]; omega), get16_at h, bAt_append, if_pos (by omega), bAt_append, if_pos (by omega)]
theorem g32_l {a b : ByteArray} {i : Nat} (h : i + 4 ≤ a.size) : get32 (a ++ b) (i : Int) = get32 a (i : Int) := by
  rw [get32_at (by rw [ByteArray.size_append]; omega), get32_at h, bAt_append, if_pos (by omega), bAt_append, if_pos (by omega), bAt_append, if_pos (by omega), bAt_append, if_pos (by omega)]
theorem by_l {a b : ByteArray} {i : Nat} (h : i < a.size) : bAt (a ++ b) i = bAt a i := by rw [bAt_append, if_pos h]
theorem g16_r (a b : ByteArray) (i : Nat) : get16 (a ++ b) ((a.size + i : Nat) : Int) = get16 b (i : Int) := by
  by_cases h : i + 2 ≤ b.size
  · rw [get16_at (by rw [ByteArray.size_append]; omega), get16_at h, bAt_append, if_neg (by omega), bAt_append, if_neg (by omega), show a.size + i - a.size = i by omega, show a.size + i + 1 - a.size = i + 1 by omega]
  · rw [get16, if_neg (by rw [ByteArray.size_append]; omega), get16, if_neg (by omega)]
theorem g32_r (a b : ByteArray) (i : Nat) : get32 (a ++ b) ((a.size + i : Nat) : Int) = get32 b (i : Int) := by
  by_cases h : i + 4 ≤ b.size
  · rw [get32_at (by rw [ByteArray.size_append]; omega), get32_at h, bAt_append, if_neg (by omega), bAt_append, if_neg (by omega), bAt_append, if_neg (by omega), bAt_append, if_neg (by omega), show a.size + i - a.size = i by omega, show a.size + i + 1 - a.size = i + 1 by omega, show a.size + i + 2 - a.size = i + 2 by omega, show a.size + i + 3 - a.size = i + 3 by omega]
  · rw [get32, if_neg (by rw [ByteArray.size_append]; omega), get32, if_neg (by omega)]
theorem by_r (a b : ByteArray) (i : Nat) : bAt (a ++ b) (a.size + i) = bAt b i := by rw [bAt_append, if_neg (by omega)]; congr 1; omega
theorem get32_put {s p : ByteArray} {i j : Nat} (h : i + p.size ≤ s.size) (hj : j + 4 ≤ i ∨ i + p.size ≤ j) : get32 (putBF s (i : Int) p) (j : Int) = get32 s (j : Int) := by
  have hz := putBF_size s (i : Int) p
  by_cases hs : j + 4 ≤ s.size
  · rw [get32_at (by omega), get32_at hs, putBF_at h, if_neg (by omega), putBF_at h, if_neg (by omega), putBF_at h, if_neg (by omega), putBF_at h, if_neg (by omega)]
  · rw [get32, if_neg (by omega), get32, if_neg (by omega)]
theorem ex_mid (a b r : ByteArray) : (a ++ b ++ r).extract a.size (a.size + b.size) = b := by
  refine ba_ext (by rw [ByteArray.size_extract]; simp only [ByteArray.size_append]; omega) fun i hi => ?_
  rw [ByteArray.size_extract] at hi
  simp only [ByteArray.size_append] at hi
  rw [bAt_extract, if_pos (by omega), mid_at a b r (by omega)]
theorem ex_r (a b : ByteArray) {n m : Nat} (hn : n = a.size) (hm : m = (a ++ b).size) : (a ++ b).extract n m = b := by
  subst hn hm
  have := ex_mid a b ⟨#[]⟩
  rw [ba_append_nil] at this
  rw [ByteArray.size_append]; exact this
theorem ex_put {s p : ByteArray} {i a n : Nat} (h : i + p.size ≤ s.size) (ha : i + p.size ≤ a) : (putBF s (i : Int) p).extract a n = s.extract a n := by
  have hz := putBF_size s (i : Int) p
  refine ba_ext (by rw [ByteArray.size_extract, ByteArray.size_extract, hz]) fun k hk => ?_
  rw [bAt_extract, bAt_extract]
  split
  · rw [putBF_at h, if_neg (by omega)]
  · rfl
theorem mac_split (a : Int) (h : inB a 0 281474976710655 = true) : inB (a / 4294967296) 0 65535 = true ∧ inB (a % 4294967296) 0 4294967295 = true ∧ a / 4294967296 * 4294967296 + a % 4294967296 = a := by
  obtain ⟨h1, h2⟩ := inB_iff.1 h
  exact ⟨inB_iff.2 (by omega), inB_iff.2 (by omega), by omega⟩
theorem eth_fields {dm sm vl : Int} {b : ByteArray} (h1 : inB dm 0 281474976710655 = true) (h2 : inB sm 0 281474976710655 = true) (h3 : inB vl (-1) 4095 = true) (hb : 46 ≤ b.size) :
    ethX (ethF dm sm vl 2048 b) = ⟨dm, sm, vl, 2048, b⟩ ∧ 18 ≤ (ethF dm sm vl 2048 b).size ∧ ∃ E : ByteArray, ethF dm sm vl 2048 b = E ++ b ∧ sumsA (ethF dm sm vl 2048 b) = E.size := by
  obtain ⟨d1, d2, d3⟩ := mac_split dm h1
  obtain ⟨s1, s2, s3⟩ := mac_split sm h2
  have z1 := mac_sz h1
  have z2 := mac_sz h2
  have za := word16_size d1
  have zb := word32_size d2
  have zc := word16_size s1
  have zd := word32_size s2
  have w1 : (word16 33024).size = 2 := rfl
  have w2 : (word16 2048).size = 2 := rfl
  have hv := inB_iff.1 h3
  by_cases hv0 : 0 ≤ vl
  · have e : ethF dm sm vl 2048 b = macF dm ++ macF sm ++ (word16 33024 ++ word16 vl) ++ word16 2048 ++ b := if_pos hv0
    have i4 : inB vl 0 65535 = true := inB_iff.2 (by omega)
    have w3 := word16_size i4
    have hz : (ethF dm sm vl 2048 b).size = 18 + b.size := by rw [e]; simp only [ByteArray.size_append, z1, z2, w1, w2, w3]
    have q0 : get16 (ethF dm sm vl 2048 b) ((0 : Nat) : Int) = dm / 4294967296 := g16m (a := ⟨#[]⟩) (r := word32 (dm % 4294967296) ++ (macF sm ++ (word16 33024 ++ (word16 vl ++ (word16 2048 ++ b))))) (by rw [e, ba_empty]; simp only [macF, ByteArray.append_assoc]) d1 rfl
    have q2 : get32 (ethF dm sm vl 2048 b) ((2 : Nat) : Int) = dm % 4294967296 := g32m (a := word16 (dm / 4294967296)) (r := macF sm ++ (word16 33024 ++ (word16 vl ++ (word16 2048 ++ b)))) (by rw [e]; simp only [macF, ByteArray.append_assoc]) d2 za.symm
    have q6 : get16 (ethF dm sm vl 2048 b) ((6 : Nat) : Int) = sm / 4294967296 := g16m (a := macF dm) (r := word32 (sm % 4294967296) ++ (word16 33024 ++ (word16 vl ++ (word16 2048 ++ b)))) (by rw [e]; simp only [macF, ByteArray.append_assoc]) s1 z1.symm
    have q8 : get32 (ethF dm sm vl 2048 b) ((8 : Nat) : Int) = sm % 4294967296 := g32m (a := macF dm ++ word16 (sm / 4294967296)) (r := word16 33024 ++ (word16 vl ++ (word16 2048 ++ b))) (by rw [e]; simp only [macF, ByteArray.append_assoc]) s2 (by rw [ByteArray.size_append, z1, zc])
    have q12 : get16 (ethF dm sm vl 2048 b) ((12 : Nat) : Int) = 33024 := g16m (a := macF dm ++ macF sm) (r := word16 vl ++ (word16 2048 ++ b)) (by rw [e]; simp only [ByteArray.append_assoc]) (by decide) (by rw [ByteArray.size_append, z1, z2])
    have q14 : get16 (ethF dm sm vl 2048 b) ((14 : Nat) : Int) = vl := g16m (a := macF dm ++ macF sm ++ word16 33024) (r := word16 2048 ++ b) (by rw [e]; simp only [ByteArray.append_assoc]) i4 (by simp only [ByteArray.size_append, z1, z2, w1])
    have q16 : get16 (ethF dm sm vl 2048 b) ((16 : Nat) : Int) = 2048 := g16m (a := macF dm ++ macF sm ++ (word16 33024 ++ word16 vl)) (r := b) (by rw [e]) (by decide) (by simp only [ByteArray.size_append, z1, z2, w1, w3])
    have qb : (ethF dm sm vl 2048 b).extract (Int.toNat 18) (ethF dm sm vl 2048 b).size = b := by
      rw [e]
      exact ex_r _ b (by simp only [ByteArray.size_append, z1, z2, w1, w2, w3]; rfl) rfl
    refine ⟨?_, by omega, _, e, by unfold sumsA; rw [show get16 (ethF dm sm vl 2048 b) 12 = 33024 from q12, if_pos rfl]; simp only [ByteArray.size_append, z1, z2, w1, w2, w3]; rfl⟩
    unfold ethX m6
    rw [if_pos ⟨q12, by omega⟩, qb]
    simp only [Int.zero_add, show (6 : Int) + 2 = 8 from rfl]
    rw [show get16 (ethF dm sm vl 2048 b) 0 = dm / 4294967296 from q0, show get32 (ethF dm sm vl 2048 b) 2 = dm % 4294967296 from q2, show get16 (ethF dm sm vl 2048 b) 6 = sm / 4294967296 from q6, show get32 (ethF dm sm vl 2048 b) 8 = sm % 4294967296 from q8, show get16 (ethF dm sm vl 2048 b) 14 = vl from q14, show get16 (ethF dm sm vl 2048 b) 16 = 2048 from q16, d3, s3]
  · have e : ethF dm sm vl 2048 b = macF dm ++ macF sm ++ word16 2048 ++ b := if_neg hv0
    have hz : (ethF dm sm vl 2048 b).size = 14 + b.size := by rw [e]; simp only [ByteArray.size_append, z1, z2, w2]
    have q0 : get16 (ethF dm sm vl 2048 b) ((0 : Nat) : Int) = dm / 4294967296 := g16m (a := ⟨#[]⟩) (r := word32 (dm % 4294967296) ++ (macF sm ++ (word16 2048 ++ b))) (by rw [e, ba_empty]; simp only [macF, ByteArray.append_assoc]) d1 rfl
    have q2 : get32 (ethF dm sm vl 2048 b) ((2 : Nat) : Int) = dm % 4294967296 := g32m (a := word16 (dm / 4294967296)) (r := macF sm ++ (word16 2048 ++ b)) (by rw [e]; simp only [macF, ByteArray.append_assoc]) d2 za.symm
    have q6 : get16 (ethF dm sm vl 2048 b) ((6 : Nat) : Int) = sm / 4294967296 := g16m (a := macF dm) (r := word32 (sm % 4294967296) ++ (word16 2048 ++ b)) (by rw [e]; simp only [macF, ByteArray.append_assoc]) s1 z1.symm
    have q8 : get32 (ethF dm sm vl 2048 b) ((8 : Nat) : Int) = sm % 4294967296 := g32m (a := macF dm ++ word16 (sm / 4294967296)) (r := word16 2048 ++ b) (by rw [e]; simp only [macF, ByteArray.append_assoc]) s2 (by rw [ByteArray.size_append, z1, zc])
    have q12 : get16 (ethF dm sm vl 2048 b) ((12 : Nat) : Int) = 2048 := g16m (a := macF dm ++ macF sm) (r := b) (by rw [e]) (by decide) (by rw [ByteArray.size_append, z1, z2])
    have qb : (ethF dm sm vl 2048 b).extract (Int.toNat 14) (ethF dm sm vl 2048 b).size = b := by
      rw [e]
      exact ex_r _ b (by simp only [ByteArray.size_append, z1, z2, w2]; rfl) rfl
    have q12' : get16 (ethF dm sm vl 2048 b) 12 = 2048 := q12
    refine ⟨?_, by omega, _, e, by unfold sumsA; rw [q12', if_neg (by decide)]; simp only [ByteArray.size_append, z1, z2, w2]; rfl⟩
    unfold ethX m6
    rw [if_neg (by rw [q12']; omega), qb, q12']
    simp only [Int.zero_add, show (6 : Int) + 2 = 8 from rfl]
    rw [show get16 (ethF dm sm vl 2048 b) 0 = dm / 4294967296 from q0, show get32 (ethF dm sm vl 2048 b) 2 = dm % 4294967296 from q2, show get16 (ethF dm sm vl 2048 b) 6 = sm / 4294967296 from q6, show get32 (ethF dm sm vl 2048 b) 8 = sm % 4294967296 from q8, d3, s3, show (-1 : Int) = vl by omega]
theorem ip_hdr0 {tos id ttl pr src dst : Int} {n : Nat} (h : ipOkB tos id ttl pr src dst n = true) : (ipH0 tos id ttl pr src dst n).size = 20 ∧ bAt (ipH0 tos id ttl pr src dst n) 1 = tos.toNat ∧ get16 (ipH0 tos id ttl pr src dst n) ((2 : Nat) : Int) = 20 + n ∧ get16 (ipH0 tos id ttl pr src dst n) ((4 : Nat) : Int) = id ∧ bAt (ipH0 tos id ttl pr src dst n) 8 = ttl.toNat ∧ bAt (ipH0 tos id ttl pr src dst n) 9 = pr.toNat ∧ get16 (ipH0 tos id ttl pr src dst n) ((10 : Nat) : Int) = 0 ∧ get32 (ipH0 tos id ttl pr src dst n) ((12 : Nat) : Int) = src ∧ get32 (ipH0 tos id ttl pr src dst n) ((16 : Nat) : Int) = dst := by
  unfold ipOkB at h
  simp only [Bool.and_eq_true, decide_eq_true_eq] at h
  obtain ⟨⟨⟨⟨⟨⟨i1, i2⟩, i3⟩, i4⟩, i5⟩, i6⟩, i7⟩ := h
  have b1 := inB_iff.1 i1; have b2 := inB_iff.1 i2; have b3 := inB_iff.1 i3
  have i8 : inB (20 + (n : Int)) 0 65535 = true := inB_iff.2 (by omega)
  have z1 := word16_size i8; have z2 := word16_size i4; have z5 := word32_size i5; have z6 := word32_size i6
  have z3 : (word16 16384).size = 2 := rfl
  have z4 : (word16 0).size = 2 := rfl
  have zz : ∀ a b : Int, (strOfNums [a, b]).size = 2 := fun a b => by rw [strOfNums_size]; rfl
  unfold ipH0
  refine ⟨by simp only [ByteArray.size_append, z1, z2, z3, z4, z5, z6, zz], ?_, ?_, ?_, ?_, ?_, ?_, ?_, ?_⟩
  · rw [bym (a := ⟨#[]⟩) (xs := [69, tos]) (k := 1) (r := word16 (20 + n) ++ (word16 id ++ (word16 16384 ++ (strOfNums [ttl, pr] ++ (word16 0 ++ (word32 src ++ word32 dst)))))) (by rw [ba_empty]; simp only [ByteArray.append_assoc]) (by simp) (i := 1) rfl]
    simp only [List.getElem_cons_succ, List.getElem_cons_zero]; omega
  · exact g16m (a := strOfNums [69, tos]) (r := word16 id ++ (word16 16384 ++ (strOfNums [ttl, pr] ++ (word16 0 ++ (word32 src ++ word32 dst))))) (by simp only [ByteArray.append_assoc]) i8 (zz _ _).symm
  · exact g16m (a := strOfNums [69, tos] ++ word16 (20 + n)) (r := word16 16384 ++ (strOfNums [ttl, pr] ++ (word16 0 ++ (word32 src ++ word32 dst)))) (by simp only [ByteArray.append_assoc]) i4 (by simp only [ByteArray.size_append, zz, z1])
  · rw [bym (a := strOfNums [69, tos] ++ word16 (20 + n) ++ word16 id ++ word16 16384) (xs := [ttl, pr]) (k := 0) (r := word16 0 ++ (word32 src ++ word32 dst)) (by simp only [ByteArray.append_assoc]) (by simp) (by simp only [ByteArray.size_append, zz, z1, z2, z3])]
    simp only [List.getElem_cons_zero]; omega
  · rw [bym (a := strOfNums [69, tos] ++ word16 (20 + n) ++ word16 id ++ word16 16384) (xs := [ttl, pr]) (k := 1) (r := word16 0 ++ (word32 src ++ word32 dst)) (by simp only [ByteArray.append_assoc]) (by simp) (by simp only [ByteArray.size_append, zz, z1, z2, z3])]
    simp only [List.getElem_cons_succ, List.getElem_cons_zero]; omega
  · exact g16m (a := strOfNums [69, tos] ++ word16 (20 + n) ++ word16 id ++ word16 16384 ++ strOfNums [ttl, pr]) (r := word32 src ++ word32 dst) (by simp only [ByteArray.append_assoc]) (by decide) (by simp only [ByteArray.size_append, zz, z1, z2, z3])
  · exact g32m (a := strOfNums [69, tos] ++ word16 (20 + n) ++ word16 id ++ word16 16384 ++ strOfNums [ttl, pr] ++ word16 0) (r := word32 dst) (by simp only [ByteArray.append_assoc]) i5 (by simp only [ByteArray.size_append, zz, z1, z2, z3, z4])
  · exact g32m (a := strOfNums [69, tos] ++ word16 (20 + n) ++ word16 id ++ word16 16384 ++ strOfNums [ttl, pr] ++ word16 0 ++ word32 src) (r := ⟨#[]⟩) (by rw [ba_append_nil]) i6 (by simp only [ByteArray.size_append, zz, z1, z2, z3, z4, z5])
theorem checkF_in (s : ByteArray) : inB (checkF s) 0 65535 = true := by
  have := sumF_bd s
  exact inB_iff.2 (by unfold checkF; omega)
theorem ip_hdr {tos id ttl pr src dst : Int} {n : Nat} (h : ipOkB tos id ttl pr src dst n = true) : (ipHF tos id ttl pr src dst n).size = 20 ∧ bAt (ipHF tos id ttl pr src dst n) 1 = tos.toNat ∧ get16 (ipHF tos id ttl pr src dst n) ((2 : Nat) : Int) = 20 + n ∧ get16 (ipHF tos id ttl pr src dst n) ((4 : Nat) : Int) = id ∧ bAt (ipHF tos id ttl pr src dst n) 8 = ttl.toNat ∧ bAt (ipHF tos id ttl pr src dst n) 9 = pr.toNat ∧ get32 (ipHF tos id ttl pr src dst n) ((12 : Nat) : Int) = src ∧ get32 (ipHF tos id ttl pr src dst n) ((16 : Nat) : Int) = dst := by
  obtain ⟨z, f1, f2, f3, f4, f5, f6, f7, f8⟩ := ip_hdr0 h
  have hw := word16_size (checkF_in (ipH0 tos id ttl pr src dst n))
  have hl : 10 + (word16 (checkF (ipH0 tos id ttl pr src dst n))).size ≤ (ipH0 tos id ttl pr src dst n).size := by omega
  unfold ipHF
  generalize word16 (checkF (ipH0 tos id ttl pr src dst n)) = c at *
  have e : (10 : Int) = ((10 : Nat) : Int) := rfl
  rw [e]
  refine ⟨by rw [putBF_size, z], ?_, ?_, ?_, ?_, ?_, ?_, ?_⟩
  · rw [putBF_at hl, if_neg (by omega), f1]
  · rw [get16_put hl (by omega), f2]
  · rw [get16_put hl (by omega), f3]
  · rw [putBF_at hl, if_neg (by omega), f4]
  · rw [putBF_at hl, if_neg (by omega), f5]
  · rw [get32_put hl (by omega), f7]
  · rw [get32_put hl (by omega), f8]
theorem pad_app (d : ByteArray) : ∃ r, padF d = d ++ r := by
  unfold padF
  split
  · exact ⟨_, rfl⟩
  · exact ⟨⟨#[]⟩, (ba_append_nil d).symm⟩
theorem ip_fields {tos id ttl pr src dst : Int} {g : ByteArray} (h : ipOkB tos id ttl pr src dst g.size = true) : ipX (padF (ipR tos id ttl pr src dst g)) = ⟨tos, id, ttl, pr, src, dst, g⟩ ∧ ipPB (padF (ipR tos id ttl pr src dst g)) = true ∧ get16 (padF (ipR tos id ttl pr src dst g)) 2 = 20 + g.size := by
  obtain ⟨z, f1, f2, f3, f4, f5, f6, f7⟩ := ip_hdr h
  have hR : ipR tos id ttl pr src dst g = ipHF tos id ttl pr src dst g.size ++ g := if_pos h
  have hb : ipOkB tos id ttl pr src dst g.size = true := h
  unfold ipOkB at h
  simp only [Bool.and_eq_true, decide_eq_true_eq] at h
  obtain ⟨⟨⟨⟨⟨⟨i1, i2⟩, i3⟩, i4⟩, i5⟩, i6⟩, i7⟩ := h
  have b1 := inB_iff.1 i1; have b2 := inB_iff.1 i2; have b3 := inB_iff.1 i3
  obtain ⟨r, hr⟩ := pad_app (ipR tos id ttl pr src dst g)
  have hpz := padF_le (ipR tos id ttl pr src dst g)
  have hdz : (ipR tos id ttl pr src dst g).size = 20 + g.size := by rw [hR, ByteArray.size_append, z]
  have k2 : get16 (padF (ipR tos id ttl pr src dst g)) ((2 : Nat) : Int) = 20 + g.size := by rw [hr, hR, ByteArray.append_assoc, g16_l (by omega), f2]
  have k4 : get16 (padF (ipR tos id ttl pr src dst g)) ((4 : Nat) : Int) = id := by rw [hr, hR, ByteArray.append_assoc, g16_l (by omega), f3]
  have k12 : get32 (padF (ipR tos id ttl pr src dst g)) ((12 : Nat) : Int) = src := by rw [hr, hR, ByteArray.append_assoc, g32_l (by omega), f6]
  have k16 : get32 (padF (ipR tos id ttl pr src dst g)) ((16 : Nat) : Int) = dst := by rw [hr, hR, ByteArray.append_assoc, g32_l (by omega), f7]
  have k1 : bAt (padF (ipR tos id ttl pr src dst g)) 1 = tos.toNat := by rw [hr, hR, ByteArray.append_assoc, by_l (by omega), f1]
  have k8 : bAt (padF (ipR tos id ttl pr src dst g)) 8 = ttl.toNat := by rw [hr, hR, ByteArray.append_assoc, by_l (by omega), f4]
  have k9 : bAt (padF (ipR tos id ttl pr src dst g)) 9 = pr.toNat := by rw [hr, hR, ByteArray.append_assoc, by_l (by omega), f5]
  have kb : (padF (ipR tos id ttl pr src dst g)).extract (Int.toNat 20) (20 + (g.size : Int)).toNat = g := by
    have := ex_mid (ipHF tos id ttl pr src dst g.size) g r
    rw [z] at this
    rw [hr, hR, show Int.toNat 20 = 20 from rfl, show (20 + (g.size : Int)).toNat = 20 + g.size by omega, this]
  have kd : (padF (ipR tos id ttl pr src dst g)).extract (Int.toNat 0) (20 + (g.size : Int)).toNat = ipR tos id ttl pr src dst g := by
    have := ex_mid ⟨#[]⟩ (ipR tos id ttl pr src dst g) r
    rw [ba_empty, hdz] at this
    rw [hr, show Int.toNat 0 = 0 from rfl, show (20 + (g.size : Int)).toNat = 20 + g.size by omega]
    have z0 : (⟨#[]⟩ : ByteArray).size = 0 := rfl
    rw [z0, Nat.zero_add] at this
    exact this
  have k2' : get16 (padF (ipR tos id ttl pr src dst g)) 2 = 20 + g.size := k2
  have eX : ipX (padF (ipR tos id ttl pr src dst g)) = ⟨tos, id, ttl, pr, src, dst, g⟩ := by
    unfold ipX
    rw [k1, show get16 (padF (ipR tos id ttl pr src dst g)) 4 = id from k4, k8, k9, show get32 (padF (ipR tos id ttl pr src dst g)) 12 = src from k12, show get32 (padF (ipR tos id ttl pr src dst g)) 16 = dst from k16, k2', kb, show ((tos.toNat : Nat) : Int) = tos by omega, show ((ttl.toNat : Nat) : Int) = ttl by omega, show ((pr.toNat : Nat) : Int) = pr by omega]
  refine ⟨eX, ?_, k2'⟩
  unfold ipPB
  rw [eX, k2', kd, decide_eq_true (show 20 ≤ (padF (ipR tos id ttl pr src dst g)).size by omega), decide_eq_true (show (20 : Int) ≤ 20 + g.size by omega), decide_eq_true (show 20 + (g.size : Int) ≤ ((padF (ipR tos id ttl pr src dst g)).size : Int) by omega), show (IpX.mk tos id ttl pr src dst g).ok = true from hb, show (IpX.mk tos id ttl pr src dst g).im = ipR tos id ttl pr src dst g from rfl, decide_eq_true rfl]
  rfl
def csF (src dst kind sp dp seq ack fl win : Int) (body : ByteArray) : Int := checkF (psF src dst kind (bareF kind sp dp seq ack fl win body).size ++ bareF kind sp dp seq ack fl win body)
def cyF (src dst kind sp dp seq ack fl win : Int) (body : ByteArray) : Int := if kind = 17 ∧ csF src dst kind sp dp seq ack fl win body = 0 then 65535 else csF src dst kind sp dp seq ack fl win body
theorem cyF_in (src dst kind sp dp seq ack fl win : Int) (body : ByteArray) : inB (cyF src dst kind sp dp seq ack fl win body) 0 65535 = true := by
  unfold cyF
  split
  · decide
  · exact checkF_in _
theorem segF_eq (src dst kind sp dp seq ack fl win : Int) (body : ByteArray) : segF src dst kind sp dp seq ack fl win body = putBF (bareF kind sp dp seq ack fl win body) (sumPl kind) (word16 (cyF src dst kind sp dp seq ack fl win body)) := rfl
theorem bare_tcp {sp dp seq ack fl win : Int} {body : ByteArray} (h : segOkB 6 sp dp seq ack fl win body.size = true) : (bareF 6 sp dp seq ack fl win body).size = 20 + body.size ∧ get16 (bareF 6 sp dp seq ack fl win body) ((0 : Nat) : Int) = sp ∧ get16 (bareF 6 sp dp seq ack fl win body) ((2 : Nat) : Int) = dp ∧ get32 (bareF 6 sp dp seq ack fl win body) ((4 : Nat) : Int) = seq ∧ get32 (bareF 6 sp dp seq ack fl win body) ((8 : Nat) : Int) = ack ∧ bAt (bareF 6 sp dp seq ack fl win body) 13 = fl.toNat ∧ get16 (bareF 6 sp dp seq ack fl win body) ((14 : Nat) : Int) = win ∧ get16 (bareF 6 sp dp seq ack fl win body) ((16 : Nat) : Int) = 0 ∧ (bareF 6 sp dp seq ack fl win body).extract 20 (bareF 6 sp dp seq ack fl win body).size = body := by
  unfold segOkB at h
  simp at h
  obtain ⟨⟨⟨i1, i2⟩, _⟩, i3, i4, i5, i6⟩ := h
  have b5 := inB_iff.1 i5
  have z1 := word16_size i1; have z2 := word16_size i2; have z3 := word32_size i3; have z4 := word32_size i4; have z6 := word16_size i6
  have z0 : (word16 0).size = 2 := rfl
  have zz : ∀ a b : Int, (strOfNums [a, b]).size = 2 := fun a b => by rw [strOfNums_size]; rfl
  have e : bareF 6 sp dp seq ack fl win body = word16 sp ++ word16 dp ++ word32 seq ++ word32 ack ++ strOfNums [80, fl] ++ word16 win ++ word16 0 ++ word16 0 ++ body := if_pos rfl
  rw [e]
  refine ⟨by simp only [ByteArray.size_append, z1, z2, z3, z4, z6, z0, zz], ?_, ?_, ?_, ?_, ?_, ?_, ?_, ?_⟩
  · exact g16m (a := ⟨#[]⟩) (r := word16 dp ++ (word32 seq ++ (word32 ack ++ (strOfNums [80, fl] ++ (word16 win ++ (word16 0 ++ (word16 0 ++ body))))))) (by rw [ba_empty]; simp only [ByteArray.append_assoc]) i1 rfl
  · exact g16m (a := word16 sp) (r := word32 seq ++ (word32 ack ++ (strOfNums [80, fl] ++ (word16 win ++ (word16 0 ++ (word16 0 ++ body)))))) (by simp only [ByteArray.append_assoc]) i2 z1.symm
  · exact g32m (a := word16 sp ++ word16 dp) (r := word32 ack ++ (strOfNums [80, fl] ++ (word16 win ++ (word16 0 ++ (word16 0 ++ body))))) (by simp only [ByteArray.append_assoc]) i3 (by simp only [ByteArray.size_append, z1, z2])
  · exact g32m (a := word16 sp ++ word16 dp ++ word32 seq) (r := strOfNums [80, fl] ++ (word16 win ++ (word16 0 ++ (word16 0 ++ body)))) (by simp only [ByteArray.append_assoc]) i4 (by simp only [ByteArray.size_append, z1, z2, z3])
  · rw [bym (a := word16 sp ++ word16 dp ++ word32 seq ++ word32 ack) (xs := [80, fl]) (k := 1) (r := word16 win ++ (word16 0 ++ (word16 0 ++ body))) (by simp only [ByteArray.append_assoc]) (by simp) (by simp only [ByteArray.size_append, z1, z2, z3, z4])]
    simp only [List.getElem_cons_succ, List.getElem_cons_zero]; omega
  · exact g16m (a := word16 sp ++ word16 dp ++ word32 seq ++ word32 ack ++ strOfNums [80, fl]) (r := word16 0 ++ (word16 0 ++ body)) (by simp only [ByteArray.append_assoc]) i6 (by simp only [ByteArray.size_append, z1, z2, z3, z4, zz])
  · exact g16m (a := word16 sp ++ word16 dp ++ word32 seq ++ word32 ack ++ strOfNums [80, fl] ++ word16 win) (r := word16 0 ++ body) (by simp only [ByteArray.append_assoc]) (by decide) (by simp only [ByteArray.size_append, z1, z2, z3, z4, zz, z6])
  · exact ex_r _ body (by simp only [ByteArray.size_append, z1, z2, z3, z4, zz, z6, z0]) rfl
theorem bare_udp {sp dp : Int} {body : ByteArray} (h : segOkB 17 sp dp 0 0 0 0 body.size = true) : (bareF 17 sp dp 0 0 0 0 body).size = 8 + body.size ∧ get16 (bareF 17 sp dp 0 0 0 0 body) ((0 : Nat) : Int) = sp ∧ get16 (bareF 17 sp dp 0 0 0 0 body) ((2 : Nat) : Int) = dp ∧ get16 (bareF 17 sp dp 0 0 0 0 body) ((6 : Nat) : Int) = 0 ∧ (bareF 17 sp dp 0 0 0 0 body).extract 8 (bareF 17 sp dp 0 0 0 0 body).size = body := by
  unfold segOkB at h
  simp at h
  obtain ⟨⟨i1, i2⟩, i3⟩ := h
  have i8 : inB (8 + (body.size : Int)) 0 65535 = true := inB_iff.2 (by omega)
  have z1 := word16_size i1; have z2 := word16_size i2; have z3 := word16_size i8
  have z0 : (word16 0).size = 2 := rfl
  have e : bareF 17 sp dp 0 0 0 0 body = word16 sp ++ word16 dp ++ word16 (8 + body.size) ++ word16 0 ++ body := if_neg (by decide)
  rw [e]
  refine ⟨by simp only [ByteArray.size_append, z1, z2, z3, z0], ?_, ?_, ?_, ?_⟩
  · exact g16m (a := ⟨#[]⟩) (r := word16 dp ++ (word16 (8 + body.size) ++ (word16 0 ++ body))) (by rw [ba_empty]; simp only [ByteArray.append_assoc]) i1 rfl
  · exact g16m (a := word16 sp) (r := word16 (8 + body.size) ++ (word16 0 ++ body)) (by simp only [ByteArray.append_assoc]) i2 z1.symm
  · exact g16m (a := word16 sp ++ word16 dp ++ word16 (8 + body.size)) (r := body) (by simp only [ByteArray.append_assoc]) (by decide) (by simp only [ByteArray.size_append, z1, z2, z3])
  · exact ex_r _ body (by simp only [ByteArray.size_append, z1, z2, z3, z0]) rfl
theorem seg_fields {src dst kind sp dp seq ack fl win : Int} {body : ByteArray} (h : segC src dst kind sp dp seq ack fl win body = true) : segX kind (segR src dst kind sp dp seq ack fl win body) = ⟨kind, sp, dp, seq, ack, fl, win, body⟩ ∧ segPB src dst kind (segR src dst kind sp dp seq ack fl win body) = true ∧ (segR src dst kind sp dp seq ack fl win body).size = (bareF kind sp dp seq ack fl win body).size ∧ sumPl kind + 2 ≤ (segR src dst kind sp dp seq ack fl win body).size ∧ (kind = 6 ∨ kind = 17) := by
  have hR : segR src dst kind sp dp seq ack fl win body = putBF (bareF kind sp dp seq ack fl win body) (sumPl kind) (word16 (cyF src dst kind sp dp seq ack fl win body)) := (if_pos h).trans (segF_eq ..)
  have hS : segOkB kind sp dp seq ack fl win body.size = true := by unfold segC at h; rw [Bool.and_eq_true] at h; exact h.1
  have hz : (segR src dst kind sp dp seq ack fl win body).size = (bareF kind sp dp seq ack fl win body).size := by rw [hR, putBF_size]
  have hw := word16_size (cyF_in src dst kind sp dp seq ack fl win body)
  rcases (segOk_kind hS).1 with rfl | rfl
  · obtain ⟨z, f0, f2, f4, f8, f13, f14, f16, fb⟩ := bare_tcp hS
    have hfl := segOk_fl hS
    have hp : sumPl 6 = ((16 : Nat) : Int) := rfl
    have hl : 16 + (word16 (cyF src dst 6 sp dp seq ack fl win body)).size ≤ (bareF 6 sp dp seq ack fl win body).size := by omega
    have eX : segX 6 (segR src dst 6 sp dp seq ack fl win body) = ⟨6, sp, dp, seq, ack, fl, win, body⟩ := by
      unfold segX
      rw [if_pos rfl, hz]
      rw [hR, hp]
      rw [show (0 : Int) = ((0 : Nat) : Int) from rfl, show (2 : Int) = ((2 : Nat) : Int) from rfl, show (4 : Int) = ((4 : Nat) : Int) from rfl, show (8 : Int) = ((8 : Nat) : Int) from rfl, show (14 : Int) = ((14 : Nat) : Int) from rfl]
      rw [get16_put hl (by omega), get16_put hl (by omega), get32_put hl (by omega), get32_put hl (by omega), get16_put hl (by omega), putBF_at hl, if_neg (by omega), f0, f2, f4, f8, f13, f14, show Int.toNat 20 = 20 from rfl, ex_put hl (by omega), fb]
      rw [show ((fl.toNat : Nat) : Int) = fl by omega]
    refine ⟨eX, ?_, hz, by rw [hz, z]; unfold sumPl; rw [if_pos rfl]; omega, .inl rfl⟩
    unfold segPB
    rw [eX, show (SegX.mk 6 sp dp seq ack fl win body).ok src dst = true from h, show (SegX.mk 6 sp dp seq ack fl win body).im src dst = segR src dst 6 sp dp seq ack fl win body from rfl, decide_eq_true rfl, decide_eq_true (show 20 ≤ (segR src dst 6 sp dp seq ack fl win body).size by omega), decide_eq_true rfl]
    rfl
  · have hzero : seq = 0 ∧ ack = 0 ∧ fl = 0 ∧ win = 0 := by
      unfold segOkB at hS
      simp at hS
      exact hS.2
    obtain ⟨rfl, rfl, rfl, rfl⟩ := hzero
    obtain ⟨z, f0, f2, f6, fb⟩ := bare_udp hS
    have hp : sumPl 17 = ((6 : Nat) : Int) := rfl
    have hl : 6 + (word16 (cyF src dst 17 sp dp 0 0 0 0 body)).size ≤ (bareF 17 sp dp 0 0 0 0 body).size := by omega
    have eX : segX 17 (segR src dst 17 sp dp 0 0 0 0 body) = ⟨17, sp, dp, 0, 0, 0, 0, body⟩ := by
      unfold segX
      rw [if_neg (by decide), hz]
      rw [show get16 (segR src dst 17 sp dp 0 0 0 0 body) 0 = sp from by rw [hR, hp]; exact (get16_put (j := 0) hl (by omega)).trans f0, show get16 (segR src dst 17 sp dp 0 0 0 0 body) 2 = dp from by rw [hR, hp]; exact (get16_put (j := 2) hl (by omega)).trans f2]
      rw [hR, hp, show Int.toNat 8 = 8 from rfl, ex_put hl (by omega), fb]
    refine ⟨eX, ?_, hz, by rw [hz, z]; unfold sumPl; rw [if_neg (by decide)]; omega, .inr rfl⟩
    unfold segPB
    rw [eX, show (SegX.mk 17 sp dp 0 0 0 0 body).ok src dst = true from h, show (SegX.mk 17 sp dp 0 0 0 0 body).im src dst = segR src dst 17 sp dp 0 0 0 0 body from rfl, decide_eq_true rfl, decide_eq_true (show 8 ≤ (segR src dst 17 sp dp 0 0 0 0 body).size by omega), decide_eq_true rfl]
    rfl
def Pk.sg (p : Pk) : ByteArray := segR p.si p.di p.kind p.sp p.dp p.seq p.ack p.fl p.win p.body
def Pk.pd (p : Pk) : ByteArray := padF (ipR p.tos p.id p.ttl p.kind p.si p.di p.sg)
theorem sup_parts {p : Pk} (h : p.sup = true) : p.im = ethF p.dm p.sm p.vl 2048 p.pd ∧ 46 ≤ p.pd.size ∧ p.pd.size ≤ 400 ∧ ethOkB p.dm p.sm p.vl 2048 p.pd.size = true ∧ ipOkB p.tos p.id p.ttl p.kind p.si p.di p.sg.size = true ∧ segC p.si p.di p.kind p.sp p.dp p.seq p.ack p.fl p.win p.body = true := by
  obtain ⟨h1, h2, h3, h4, h5, h6, h7, h8, h9, h10⟩ := superOk_facts h
  have e := (sup_img h).1
  unfold supC at e
  rw [Bool.and_eq_true] at e
  have e2 : ethOkB p.dm p.sm p.vl 2048 p.pd.size = true := e.2
  have hi : p.im = ethF p.dm p.sm p.vl 2048 p.pd := by
    unfold Pk.im imgR
    rw [if_pos (show superOkB _ _ _ _ _ _ _ _ _ _ _ _ _ _ _ _ = true from h), ethR, if_pos e.2]; rfl
  have hb : inB (p.pd.size : Int) 46 400 = true := by
    unfold ethOkB at e2
    simp only [Bool.and_eq_true] at e2
    exact e2.2
  have hb2 := inB_iff.1 hb
  have hk := segOk_kind h9
  have hbz := bare_le p.kind p.sp p.dp p.seq p.ack p.fl p.win p.body
  have hkb : inB p.kind 0 255 = true := inB_iff.2 (by omega)
  have hC : segC p.si p.di p.kind p.sp p.dp p.seq p.ack p.fl p.win p.body = true := by
    unfold segC psOkB
    rw [h9, h7, h8, hkb, inB_iff.2 (show (0 : Int) ≤ ((bareF p.kind p.sp p.dp p.seq p.ack p.fl p.win p.body).size : Int) ∧ ((bareF p.kind p.sp p.dp p.seq p.ack p.fl p.win p.body).size : Int) ≤ 65535 by omega)]
    rfl
  have hsz : p.sg.size ≤ 340 := by
    have : p.sg.size = (bareF p.kind p.sp p.dp p.seq p.ack p.fl p.win p.body).size := (seg_fields hC).2.2.1
    omega
  refine ⟨hi, by omega, by omega, e2, ?_, hC⟩
  unfold ipOkB
  rw [h4, h5, hkb, h6, h7, h8, decide_eq_true (by omega)]
  rfl
theorem rd_im {p : Pk} (h : p.sup = true) : rdC p.im = 0 ∧ rdF p.im = p := by
  obtain ⟨hi, b1, b2, e1, e2, e3⟩ := sup_parts h
  obtain ⟨h1, h2, h3, h4, h5, h6, h7, h8, h9, h10⟩ := superOk_facts h
  obtain ⟨eE, z, _⟩ := eth_fields h1 h2 h3 b1
  obtain ⟨eI, pI, _⟩ := ip_fields e2
  obtain ⟨eS, pS, _⟩ := seg_fields e3
  rw [← hi] at eE z
  have pE : ethPB p.im = true := by
    unfold ethPB
    rw [eE, decide_eq_true z]
    exact e1
  have eI' : ipX (ethX p.im).body = ⟨p.tos, p.id, p.ttl, p.kind, p.si, p.di, p.sg⟩ := by rw [eE]; exact eI
  have hX : rdX p.im = p := by
    unfold rdX
    rw [eI']
    show mkPk (ethX p.im) ⟨p.tos, p.id, p.ttl, p.kind, p.si, p.di, p.sg⟩ (segX p.kind p.sg) = p
    rw [show segX p.kind p.sg = ⟨p.kind, p.sp, p.dp, p.seq, p.ack, p.fl, p.win, p.body⟩ from eS, eE]
    rfl
  have := rd_0 (s := p.im) pE (by rw [eE]) (by rw [eE]; exact pI) (by rw [eI']; exact pS) (by rw [hX]; exact h)
  exact ⟨this.2, this.1.trans hX⟩
theorem put_put {s p q : ByteArray} {i : Nat} (h : i + p.size ≤ s.size) (hpq : p.size = q.size) : putBF (putBF s (i : Int) p) (i : Int) q = putBF s (i : Int) q := by
  have z1 := putBF_size s (i : Int) p
  refine ba_ext (by rw [putBF_size, putBF_size, putBF_size]) fun k hk => ?_
  rw [putBF_at (by omega), putBF_at h, putBF_at (by omega)]
  split
  · rfl
  · split <;> first | rfl | omega
theorem put_swap {s p q : ByteArray} {i j : Nat} (h1 : i + p.size ≤ s.size) (h2 : j + q.size ≤ s.size) (hd : i + p.size ≤ j ∨ j + q.size ≤ i) : putBF (putBF s (i : Int) p) (j : Int) q = putBF (putBF s (j : Int) q) (i : Int) p := by
  have z1 := putBF_size s (i : Int) p
  have z2 := putBF_size s (j : Int) q
  refine ba_ext (by simp only [putBF_size]) fun k hk => ?_
  rw [putBF_at (by omega), putBF_at h1, putBF_at (by omega), putBF_at h2]
  split
  · split
    · omega
    · rfl
  · rfl
theorem put_same {s p : ByteArray} {i : Nat} (h : i + p.size ≤ s.size) (k : ∀ j, j < p.size → bAt s (i + j) = bAt p j) : putBF s (i : Int) p = s := by
  refine ba_ext (putBF_size _ _ _) fun j hj => ?_
  rw [putBF_at h]
  split
  · rw [← k (j - i) (by omega)]; congr 1; omega
  · rfl
end Go.Proofs.YtbdcaacpemkloaaGreat
end
section
namespace Go.Proofs.YtbdcaacpemkloaaGreat
open Go Go.RowKit Go.Vc
set_option linter.unusedVariables false
set_option linter.unusedSimpArgs false
set_option linter.unnecessarySimpa false
theorem get16_zero {s : ByteArray} {i : Nat} (h : i + 2 ≤ s.size) (h0 : get16 s (i : Int) = 0) : bAt s i = 0 ∧ bAt s (i + 1) = 0 := by
  rw [get16_at h] at h0
  omega
theorem w0_at (j : Nat) : bAt (word16 0) j = 0 := by
  by_cases h : j < 2
  · rcases (show j = 0 ∨ j = 1 by omega) with rfl | rfl <;> rfl
  · exact bAt_out (show (word16 0).size ≤ j from by show 2 ≤ j; omega)
theorem bare_zero {src dst kind sp dp seq ack fl win : Int} {body : ByteArray} (h : segC src dst kind sp dp seq ack fl win body = true) : bAt (bareF kind sp dp seq ack fl win body) (sumPl kind).toNat = 0 ∧ bAt (bareF kind sp dp seq ack fl win body) ((sumPl kind).toNat + 1) = 0 := by
  have hS : segOkB kind sp dp seq ack fl win body.size = true := by unfold segC at h; rw [Bool.and_eq_true] at h; exact h.1
  rcases (segOk_kind hS).1 with rfl | rfl
  · obtain ⟨z, f0, f2, f4, f8, f13, f14, f16, fb⟩ := bare_tcp hS
    rw [show sumPl 6 = ((16 : Nat) : Int) from rfl, Int.toNat_natCast]
    exact get16_zero (by omega) f16
  · have hzero : seq = 0 ∧ ack = 0 ∧ fl = 0 ∧ win = 0 := by
      unfold segOkB at hS
      simp at hS
      exact hS.2
    obtain ⟨rfl, rfl, rfl, rfl⟩ := hzero
    obtain ⟨z, f0, f2, f6, fb⟩ := bare_udp hS
    rw [show sumPl 17 = ((6 : Nat) : Int) from rfl, Int.toNat_natCast]
    exact get16_zero (by omega) f6
set_option maxHeartbeats 4000000 in
/-- The card fills the sums of a template in as they were. -/
theorem fs_tm {p : Pk} (h : p.sup = true) : fsB p.tm = true ∧ fsF p.tm = p.im := by
  obtain ⟨hi, b1, b2, e1, e2, e3⟩ := sup_parts h
  obtain ⟨h1, h2, h3, h4, h5, h6, h7, h8, h9, h10⟩ := superOk_facts h
  obtain ⟨_, _, E, hE, hA⟩ := eth_fields h1 h2 h3 b1
  rw [← hi] at hE hA
  obtain ⟨_, _, k2⟩ := ip_fields e2
  obtain ⟨_, _, zS, zP, hk⟩ := seg_fields e3
  obtain ⟨zH, g1, g2, g4, g8, g9, g12, g16⟩ := ip_hdr e2
  obtain ⟨zH0, f1, f2, f4, f8, f9, f10, f12, f16⟩ := ip_hdr0 e2
  have hR : ipR p.tos p.id p.ttl p.kind p.si p.di p.sg = ipHF p.tos p.id p.ttl p.kind p.si p.di p.sg.size ++ p.sg := if_pos e2
  obtain ⟨r, hr⟩ := pad_app (ipR p.tos p.id p.ttl p.kind p.si p.di p.sg)
  have hpd : p.pd = ipHF p.tos p.id p.ttl p.kind p.si p.di p.sg.size ++ (p.sg ++ r) := by
    show padF _ = _
    rw [hr, hR, ByteArray.append_assoc]
  have zS' : p.sg.size = (bareF p.kind p.sp p.dp p.seq p.ack p.fl p.win p.body).size := zS
  have zP' : sumPl p.kind + 2 ≤ (p.sg.size : Int) := zP
  have zD : p.pd.size = 20 + p.sg.size + r.size := by rw [hpd]; simp only [ByteArray.size_append, zH]; omega
  have zI : p.im.size = E.size + p.pd.size := by rw [hE, ByteArray.size_append]
  obtain ⟨sp, hsp⟩ := Int.eq_ofNat_of_zero_le (show 0 ≤ sumPl p.kind by unfold sumPl; split <;> omega)
  -- bytes of the image
  have byH : ∀ i, i < 20 → bAt p.im (E.size + i) = bAt (ipHF p.tos p.id p.ttl p.kind p.si p.di p.sg.size) i := fun i hi' => by
    rw [hE, by_r, hpd, by_l (by omega)]
  have byS : ∀ i, i < p.sg.size → bAt p.im (E.size + 20 + i) = bAt p.sg i := fun i hi' => by
    rw [Nat.add_assoc, hE, by_r, hpd, ← zH, by_r, by_l hi']
  have hck := word16_size (checkF_in (ipH0 p.tos p.id p.ttl p.kind p.si p.di p.sg.size))
  have hcy := word16_size (cyF_in p.si p.di p.kind p.sp p.dp p.seq p.ack p.fl p.win p.body)
  have hHF : ∀ i, bAt (ipHF p.tos p.id p.ttl p.kind p.si p.di p.sg.size) i = if 10 ≤ i ∧ i < 12 then bAt (word16 (checkF (ipH0 p.tos p.id p.ttl p.kind p.si p.di p.sg.size))) (i - 10) else bAt (ipH0 p.tos p.id p.ttl p.kind p.si p.di p.sg.size) i := fun i => by
    unfold ipHF
    rw [show (10 : Int) = ((10 : Nat) : Int) from rfl, putBF_at (by omega), hck]
  have hSG : ∀ i, bAt p.sg i = if sp ≤ i ∧ i < sp + 2 then bAt (word16 (cyF p.si p.di p.kind p.sp p.dp p.seq p.ack p.fl p.win p.body)) (i - sp) else bAt (bareF p.kind p.sp p.dp p.seq p.ack p.fl p.win p.body) i := fun i => by
    have e : p.sg = putBF (bareF p.kind p.sp p.dp p.seq p.ack p.fl p.win p.body) (sumPl p.kind) (word16 (cyF p.si p.di p.kind p.sp p.dp p.seq p.ack p.fl p.win p.body)) := (if_pos e3).trans (segF_eq ..)
    rw [e, hsp, putBF_at (by omega), hcy]
  have hbz := bare_zero e3
  rw [hsp, Int.toNat_natCast] at hbz
  -- places
  have hK : sumsK p.im = p.kind := by
    unfold sumsK
    rw [hA, show ((E.size : Int) + 9).toNat = E.size + 9 by omega, byH 9 (by omega), g9]
    omega
  have hB : sumsB p.im = ((E.size + 20 + sp : Nat) : Int) := by unfold sumsB; rw [hK, hA, hsp]; omega
  obtain ⟨t, ht⟩ : ∃ t, p.tm = t := ⟨_, rfl⟩
  obtain ⟨t1, t2, t3, t4, t5, t6⟩ := tm_facts h ht
  have w0 : (word16 0).size = 2 := rfl
  have htm : t = putBF (putBF p.im ((E.size + 10 : Nat) : Int) (word16 0)) ((E.size + 20 + sp : Nat) : Int) (word16 0) := by
    rw [← ht]
    unfold Pk.tm
    rw [if_pos h, hA, hB, show ((E.size : Int) + 10) = ((E.size + 10 : Nat) : Int) by omega]
  have z1 := putBF_size p.im ((E.size + 10 : Nat) : Int) (word16 0)
  have hl1 : E.size + 10 + (word16 0).size ≤ p.im.size := by omega
  have hl2 : E.size + 20 + sp + (word16 0).size ≤ (putBF p.im ((E.size + 10 : Nat) : Int) (word16 0)).size := by omega
  have tB : ∀ i, bAt t i = if E.size + 20 + sp ≤ i ∧ i < E.size + 20 + sp + 2 then 0 else if E.size + 10 ≤ i ∧ i < E.size + 12 then 0 else bAt p.im i := fun i => by
    rw [htm, putBF_at hl2, w0, putBF_at hl1, w0, w0_at, w0_at]
  have tA : sumsA t = E.size := t2.trans hA
  have tBB : sumsB t = ((E.size + 20 + sp : Nat) : Int) := t3.trans hB
  have tK : sumsK t = p.kind := by
    unfold sumsK
    rw [tA, show ((E.size : Int) + 9).toNat = E.size + 9 by omega, tB, if_neg (by omega), if_neg (by omega), byH 9 (by omega), g9]
    omega
  have tN : fsN t = 20 + p.sg.size := by
    unfold fsN
    rw [tA, show (E.size : Int) + 2 = ((E.size + 2 : Nat) : Int) by omega, htm, get16_put hl2 (by omega), get16_put hl1 (by omega), hE, g16_r]
    exact k2
  have t12 : get32 t (sumsA t + 12) = p.si := by
    rw [tA, show (E.size : Int) + 12 = ((E.size + 12 : Nat) : Int) by omega, htm, get32_put hl2 (by omega), get32_put hl1 (by omega), hE, g32_r, hpd, g32_l (by omega)]
    exact g12
  have t16 : get32 t (sumsA t + 16) = p.di := by
    rw [tA, show (E.size : Int) + 16 = ((E.size + 16 : Nat) : Int) by omega, htm, get32_put hl2 (by omega), get32_put hl1 (by omega), hE, g32_r, hpd, g32_l (by omega)]
    exact g16
  have c1 : t.extract (sumsA t).toNat (sumsA t + 20).toNat = ipH0 p.tos p.id p.ttl p.kind p.si p.di p.sg.size := by
    rw [tA, show ((E.size : Int)).toNat = E.size by omega, show ((E.size : Int) + 20).toNat = E.size + 20 by omega]
    refine ba_ext (by rw [ByteArray.size_extract]; omega) fun i hi' => ?_
    rw [ByteArray.size_extract] at hi'
    have hz := get16_zero (s := ipH0 p.tos p.id p.ttl p.kind p.si p.di p.sg.size) (i := 10) (by omega) f10
    rw [bAt_extract, if_pos (by omega), tB, if_neg (by omega)]
    by_cases c : E.size + 10 ≤ E.size + i ∧ E.size + i < E.size + 12
    · rw [if_pos c]
      rcases (show i = 10 ∨ i = 11 by omega) with rfl | rfl
      · exact hz.1.symm
      · exact hz.2.symm
    · rw [if_neg c, byH i (by omega), hHF, if_neg (by omega)]
  have c2 : t.extract (sumsA t + 20).toNat (sumsA t + fsN t).toNat = bareF p.kind p.sp p.dp p.seq p.ack p.fl p.win p.body := by
    rw [tN, tA, show ((E.size : Int) + 20).toNat = E.size + 20 by omega, show ((E.size : Int) + (20 + (p.sg.size : Int))).toNat = E.size + 20 + p.sg.size by omega]
    refine ba_ext (by rw [ByteArray.size_extract]; omega) fun i hi' => ?_
    rw [ByteArray.size_extract] at hi'
    rw [bAt_extract, if_pos (by omega), tB]
    by_cases c : E.size + 20 + sp ≤ E.size + 20 + i ∧ E.size + 20 + i < E.size + 20 + sp + 2
    · rw [if_pos c]
      rcases (show i = sp ∨ i = sp + 1 by omega) with rfl | rfl
      · exact hbz.1.symm
      · exact hbz.2.symm
    · rw [if_neg c, if_neg (by omega), byS i (by omega), hSG, if_neg (by omega)]
  have c3 : fsC t = csF p.si p.di p.kind p.sp p.dp p.seq p.ack p.fl p.win p.body := by
    unfold fsC csF
    rw [c2, t12, t16, tK, tN, show (20 + (p.sg.size : Int) - 20) = ((bareF p.kind p.sp p.dp p.seq p.ack p.fl p.win p.body).size : Int) by omega]
  have c4 : fsY t = cyF p.si p.di p.kind p.sp p.dp p.seq p.ack p.fl p.win p.body := by unfold fsY cyF; rw [c3, tK]
  have c5 : fsS t = p.im := by
    unfold fsS
    rw [c1, c4, tA, tBB, show ((E.size : Int) + 10) = ((E.size + 10 : Nat) : Int) by omega, htm]
    rw [put_swap (s := putBF p.im ((E.size + 10 : Nat) : Int) (word16 0)) (i := E.size + 20 + sp) (j := E.size + 10) (by omega) (by omega) (by omega)]
    rw [put_put hl1 (by omega)]
    rw [put_same (s := p.im) (i := E.size + 10) (by omega) (fun j hj => by rw [Nat.add_assoc, byH (10 + j) (by omega), hHF, if_pos (by omega), show 10 + j - 10 = j by omega])]
    rw [put_put (by omega) (by omega)]
    exact put_same (by omega) (fun j hj => by rw [Nat.add_assoc (E.size + 20), byS (sp + j) (by omega), hSG, if_pos (by omega), show sp + j - sp = j by omega])
  obtain ⟨r1, r2⟩ := rd_im h
  have ok : fsOk t = true := by
    unfold fsOk
    rw [tA, tBB, tN, decide_eq_true (show (E.size : Int) + 46 ≤ t.size by omega), decide_eq_true (show (((E.size + 20 + sp : Nat) : Int) + 2 - E.size ≤ 20 + p.sg.size) by omega), decide_eq_true (show (20 + (p.sg.size : Int) ≤ t.size - E.size) by omega)]
    rfl
  have hy := fs_yes ok (by rw [c5]; exact r1) (by rw [c5, r2]; exact ht)
  rw [ht]
  exact ⟨hy.2, by rw [hy.1, c5, r2]⟩
end Go.Proofs.YtbdcaacpemkloaaGreat
end
section
namespace Go.Proofs.YtbdcaacpemkloaaGreat
open Go Go.RowKit Go.Vc
set_option linter.unusedVariables false
set_option linter.unusedSimpArgs false
set_option linter.unnecessarySimpa false
def encT (d : Dsc) : ByteArray := encD d.1 d.2.1 d.2.2.1 d.2.2.2.1 d.2.2.2.2.1 d.2.2.2.2.2
theorem encT_sz {d : Dsc} (h : dOk d = true) : (encT d).size = 16 := encD_size h
theorem dec_enc {d : Dsc} (h : dOk d = true) : decDF (encT d) = (d, true) := by
  obtain ⟨op, fl, ln, at_, sz, ck⟩ := d
  have h' : descB op fl ln at_ sz ck = true := h
  have hb := descB_iff.1 h'
  obtain ⟨i1, i2, i3, i4, i5, i6⟩ := hb
  have z1 := word16_size (inB_iff.2 i3); have z2 := word32_size (inB_iff.2 i6); have z3 := word16_size (inB_iff.2 i4); have z4 := word16_size (inB_iff.2 i5)
  have zz : ∀ a b : Int, (strOfNums [a, b]).size = 2 := fun a b => by rw [strOfNums_size]; rfl
  have hz := encD_size h'
  have e : encD op fl ln at_ sz ck = strOfNums [op, fl] ++ word16 ln ++ word32 at_ ++ word16 sz ++ word16 ck ++ word32 0 := rfl
  have b0n : bAt (encD op fl ln at_ sz ck) 0 = op.toNat % 256 := bym (a := ⟨#[]⟩) (xs := [op, fl]) (k := 0) (r := word16 ln ++ (word32 at_ ++ (word16 sz ++ (word16 ck ++ word32 0)))) (by rw [ba_empty, e]; simp only [ByteArray.append_assoc]) (by simp) rfl
  have b1n : bAt (encD op fl ln at_ sz ck) 1 = fl.toNat % 256 := bym (a := ⟨#[]⟩) (xs := [op, fl]) (k := 1) (r := word16 ln ++ (word32 at_ ++ (word16 sz ++ (word16 ck ++ word32 0)))) (by rw [ba_empty, e]; simp only [ByteArray.append_assoc]) (by simp) rfl
  have b0 : (bAt (encD op fl ln at_ sz ck) 0 : Int) = op := by rw [b0n]; omega
  have b1 : (bAt (encD op fl ln at_ sz ck) 1 : Int) = fl := by rw [b1n]; omega
  have b2 : get16 (encD op fl ln at_ sz ck) ((2 : Nat) : Int) = ln := g16m (a := strOfNums [op, fl]) (r := word32 at_ ++ (word16 sz ++ (word16 ck ++ word32 0))) (by rw [e]; simp only [ByteArray.append_assoc]) (inB_iff.2 i3) (zz _ _).symm
  have b4 : get32 (encD op fl ln at_ sz ck) ((4 : Nat) : Int) = at_ := g32m (a := strOfNums [op, fl] ++ word16 ln) (r := word16 sz ++ (word16 ck ++ word32 0)) (by rw [e]; simp only [ByteArray.append_assoc]) (inB_iff.2 i6) (by simp only [ByteArray.size_append, zz, z1])
  have b8 : get16 (encD op fl ln at_ sz ck) ((8 : Nat) : Int) = sz := g16m (a := strOfNums [op, fl] ++ word16 ln ++ word32 at_) (r := word16 ck ++ word32 0) (by rw [e]; simp only [ByteArray.append_assoc]) (inB_iff.2 i4) (by simp only [ByteArray.size_append, zz, z1, z2])
  have b10 : get16 (encD op fl ln at_ sz ck) ((10 : Nat) : Int) = ck := g16m (a := strOfNums [op, fl] ++ word16 ln ++ word32 at_ ++ word16 sz) (r := word32 0) (by rw [e]) (inB_iff.2 i5) (by simp only [ByteArray.size_append, zz, z1, z2, z3])
  have b2' : get16 (encD op fl ln at_ sz ck) 2 = ln := b2
  have b4' : get32 (encD op fl ln at_ sz ck) 4 = at_ := b4
  have b8' : get16 (encD op fl ln at_ sz ck) 8 = sz := b8
  have b10' : get16 (encD op fl ln at_ sz ck) 10 = ck := b10
  show decDF (encD op fl ln at_ sz ck) = _
  unfold decDF decX
  have hen : encDF op fl ln at_ sz ck = encD op fl ln at_ sz ck := if_pos h'
  rw [if_pos hz, b0, b1, b2', b4', b8', b10', if_pos hen]
def pos (s h : Int) (i : Nat) : Int := (h + i) % (2 * s)
theorem pos_slot {s h : Int} (hs : sizeB s = true) (i : Nat) : pos s h i % s = (h + i) % s := by
  unfold pos
  rcases sizeB_cases hs with rfl | rfl | rfl | rfl <;> omega
theorem pos_next {s h : Int} (hs : sizeB s = true) (i : Nat) : rnext s (pos s h i) = pos s h (i + 1) := by
  unfold rnext pos
  rcases sizeB_cases hs with rfl | rfl | rfl | rfl <;> omega
theorem pos_zero {s h : Int} (h0 : 0 ≤ h) (h1 : h < 2 * s) : pos s h 0 = h := by
  unfold pos
  rw [show ((0 : Nat) : Int) = 0 from rfl, Int.add_zero, Int.emod_eq_of_lt h0 h1]
theorem pos_ok {s h t : Int} {i : Nat} (q : ringOkB 0 s h t = true) (hi : (i : Int) ≤ usedF s h t) : ringOkB 0 s (pos s h i) t = true ∧ usedF s (pos s h i) t = usedF s h t - i := by
  obtain ⟨hs, b0, b1, s0, s1, h0, h1, t0, t1, u1, u0⟩ := ringOk_facts q
  unfold usedF at *
  have key : 0 ≤ (h + i) % (2 * s) ∧ (h + i) % (2 * s) ≤ 2 * s - 1 ∧ (t - (h + i) % (2 * s)) % (2 * s) = (t - h) % (2 * s) - i := by
    rcases sizeB_cases hs with rfl | rfl | rfl | rfl <;> omega
  obtain ⟨k1, k2, k3⟩ := key
  refine ⟨?_, k3⟩
  simp only [ringOkB, Bool.and_eq_true, inB_iff, decide_eq_true_eq, pos]
  exact ⟨⟨⟨⟨⟨b0, b1⟩, hs⟩, k1, k2⟩, t0, t1⟩, by first | omega | exact decide_eq_true (by omega)⟩
def catP (ps : Pg) : List Pc → ByteArray
  | [] => ⟨#[]⟩
  | p :: r => fs 12 ps p.1 p.2.toNat ++ catP ps r
theorem gath_cat {l : List Mp} {ps : Pg} (ht : Turned 12 12 l 0 false) (hm : MemOk ps) (hl : ps.length = 12) : ∀ (pcs : List Pc) (o : ByteArray), (∀ p ∈ pcs, 0 ≤ p.1 ∧ 0 ≤ p.2 ∧ p.2 ≤ 4096 ∧ p.1 + p.2 ≤ 1536) → gath l ps 0 pcs o = (o ++ catP ps pcs, true)
  | [], o, _ => by show (o, true) = (o ++ ⟨#[]⟩, true); rw [ba_append_nil]
  | p :: r, o, h => by
    obtain ⟨h1, h2, h3, h4⟩ := h p (List.mem_cons_self ..)
    simp only [gath]
    rw [dmaR_fs ht hm hl h1 h2 h3 (by omega), if_pos rfl, gath_cat ht hm hl r _ fun q hq => h q (List.mem_cons_of_mem _ hq)]
    show (_ ++ _ ++ catP ps r, true) = (o ++ (_ ++ catP ps r), true)
    rw [ByteArray.append_assoc]
structure Lies (s : Int) (ps : Pg) (h : Int) (pcs : List Pc) (size ck : Int) (T : ByteArray) : Prop where
  db : descrB pcs size ck = true
  sl : ∀ j : Nat, j < pcs.length + 1 → fs 12 ps ((h + j) % s * 16) 16 = encT (dAt pcs size ck j)
  pb : ∀ p ∈ pcs, 0 ≤ p.1 ∧ p.1 + p.2 ≤ 1536
  tx : catP ps pcs = T
theorem Lies.ok {s : Int} {ps : Pg} {h : Int} {pcs : List Pc} {size ck : Int} {T : ByteArray} (L : Lies s ps h pcs size ck T) : 0 < pcs.length ∧ pcs.length ≤ 16 ∧ pcsOk pcs = true ∧ inB size 1 128 = true ∧ (∀ j, j < pcs.length + 1 → dOk (dAt pcs size ck j) = true) := by
  have h := L.db
  unfold descrB at h
  simp only [Bool.and_eq_true, Bool.not_eq_true', decide_eq_false_iff_not] at h
  obtain ⟨h1, h2, h3, h4⟩ := h
  refine ⟨List.length_pos_iff.2 h1, (pcsOk_iff.1 h2).2, h2, h3, fun j hj => ?_⟩
  have := List.all_eq_true.1 h4 (at' (dsF pcs size ck (pcs.length + 1)) j) (atp_mem (by rw [dsF_len]; exact hj))
  rwa [dsF_at hj] at this
theorem chn_lies {l : List Mp} {ps : Pg} {s h t : Int} {pcs : List Pc} {size ck : Int} {T : ByteArray} (ht : Turned 12 12 l 0 false) (hm : MemOk ps) (hl : ps.length = 12) (q : ringOkB 0 s h t = true) (L : Lies s ps h pcs size ck T) (hu : (pcs.length : Int) + 1 ≤ usedF s h t) :
    ∀ (k i n : Nat), i + k = pcs.length → k < n → chn l ps 0 0 s t n (pos s h i) (dsF pcs size ck i) = some (dsF pcs size ck (pcs.length + 1), pos s h (pcs.length + 1)) := by
  obtain ⟨hs, b0, b1, s0, s1, h0, h1, t0, t1, u1, u0⟩ := ringOk_facts q
  obtain ⟨l1, l2, l3, l4, l5⟩ := L.ok
  have step : ∀ i : Nat, i ≤ pcs.length → (rtakeF l ps 0 0 s (pos s h i) t).2.2 = true ∧ dsc1 l ps 0 0 s t (pos s h i) = (dAt pcs size ck i, true) := fun i hi => by
    obtain ⟨p1, p2⟩ := pos_ok (i := i) q (by omega)
    obtain ⟨_, _, _, _, _, r0, r1, _⟩ := ringOk_facts p1
    have m0 := Int.emod_nonneg (pos s h i) (show s ≠ 0 by omega)
    have m1 := Int.emod_lt_of_pos (pos s h i) (show 0 < s by omega)
    have hsl : rslot 0 s (pos s h i) = (h + i) % s * 16 := by rw [← pos_slot hs]; unfold rslot; omega
    have hd := dmaR_fs (a := rslot 0 s (pos s h i)) (n := 16) ht hm hl (by unfold rslot; omega) (by decide) (by decide) (by unfold rslot; omega)
    have hy := rt_y (l := l) (ps := ps) (d := 0) p1 (by omega) (by rw [hd])
    refine ⟨by rw [hy], ?_⟩
    unfold dsc1
    rw [hy, hd]
    simp only
    rw [hsl, show Int.toNat 16 = 16 from rfl, L.sl i (by omega), dec_enc (l5 i (by omega))]
  intro k
  induction k with
  | zero =>
    intro i n hi hn
    obtain ⟨g1, g2⟩ := step i (by omega)
    obtain ⟨j, rfl⟩ : ∃ j, i = j + 1 := ⟨i - 1, by omega⟩
    rw [chn_last hn g1 (by rw [g2]) (by rw [g2]; rfl) (by rw [g2]; show (if j + 1 = pcs.length then (1 : Int) else 0) % 2 = 1; rw [if_pos (by omega)]; rfl), g2, dsF_stp, pos_next hs, show j + 1 = pcs.length by omega]
  | succ k ih =>
    intro i n hi hn
    obtain ⟨g1, g2⟩ := step i (by omega)
    rw [chn_go (by omega) g1 (by rw [g2]) (by
      rw [g2]
      cases i with
      | zero => rintro ⟨h, _⟩; have h' : (2 : Int) = 1 := h; omega
      | succ j =>
        rintro ⟨_, h⟩
        simp only [dAt] at h
        rw [if_neg (by omega)] at h
        exact absurd h (by decide)), g2, dsF_stp, pos_next hs]
    exact ih (i + 1) (n - 1) (by omega) (by omega)
theorem dAt_pc (l : List Pc) (size ck : Int) {n : Nat} (hn : n = l.length) : podL (dsF l size ck (n + 1)) = l := by
  subst hn
  refine List.ext_getElem (by rw [podL_len, dsF_len]; rfl) fun i h1 h2 => ?_
  have e : (podL (dsF l size ck (l.length + 1)))[i] = podP (dAt l size ck (i + 1)) := by
    simp only [podL, dsF, List.getElem_map, List.getElem_drop, List.getElem_range, Nat.add_comm]
  rw [e]
  show podP (1, _, (at' l i).2, (at' l i).1, 0, ck) = _
  rw [atp_eq h2]; rfl
theorem tx_lies {l : List Mp} {ps : Pg} {s h t : Int} {pcs : List Pc} {size ck : Int} {p : Pk} (ht : Turned 12 12 l 0 false) (hm : MemOk ps) (hl : ps.length = 12) (q : ringOkB 0 s h t = true) (hp : p.sup = true) (L : Lies s ps h pcs size ck p.tm) (hu : (pcs.length : Int) + 1 ≤ usedF s h t) :
    txF l ps 0 0 s h t = (pos s h (pcs.length + 1), framesF (splitF p size), 1) := by
  obtain ⟨hs, b0, b1, s0, s1, h0, h1, t0, t1, u1, u0⟩ := ringOk_facts q
  obtain ⟨l1, l2, l3, l4, l5⟩ := L.ok
  have hu0 : ¬ usedF s h t = 0 := by omega
  have hc := chn_lies ht hm hl q L hu pcs.length 0 (usedF s h t).toNat (by omega) (by omega)
  rw [pos_zero h0 (by omega)] at hc
  have e0 : dsF pcs size ck 0 = [] := rfl
  rw [e0] at hc
  have htc := tc_y (d := 0) q hu0 hc
  have hpl := dAt_pc pcs size ck rfl
  have ha0 : at' (dsF pcs size ck (pcs.length + 1)) 0 = (2, 0, 0, 0, size, ck) := dsF_at (by omega)
  have hdf : descrF pcs size ck = dsF pcs size ck (pcs.length + 1) := if_pos L.db
  obtain ⟨y1, y2, y3, y4⟩ := pod_y (l := dsF pcs size ck (pcs.length + 1)) (by rw [dsF_len]; omega) (by rw [hpl, ha0]; exact hdf)
  have hg : gathF l ps 0 pcs = (p.tm, true) := by
    rw [gathF_y l3, gath_cat ht hm hl _ _ fun x hx => ?_, L.tx, ba_empty]
    obtain ⟨i, hi, rfl⟩ := List.getElem_of_mem hx
    have a1 := (pcsOk_iff.1 l3).1 i hi
    rw [atp_eq hi] at a1
    have a2 := L.pb _ hx
    exact ⟨a1.1, a1.2.1, a1.2.2, a2.2⟩
  obtain ⟨f1, f2⟩ := fs_tm hp
  obtain ⟨r1, r2⟩ := rd_im hp
  have hI : txI l ps 0 0 s h t = p.im := by unfold txI; rw [htc]; simp only; rw [hpl, hg]; exact f2
  have hB : txB l ps 0 0 s h t = true := by
    unfold txB
    rw [hI, htc]
    simp only
    rw [y4, hpl, hg]
    simp only
    rw [f1, r1]; rfl
  rw [tx_1 q hu0 hB, hI, htc]
  simp only
  rw [r2, y2, ha0]
end Go.Proofs.YtbdcaacpemkloaaGreat
end
section
namespace Go.Proofs.YtbdcaacpemkloaaGreat
open Go Go.RowKit Go.Vc
set_option linter.unusedVariables false
set_option linter.unusedSimpArgs false
set_option linter.unnecessarySimpa false
theorem sdP_cut {T : ByteArray} {cut : Int} (h : 1 ≤ cut) (k : Nat) : ((sdP T cut k).size : Int) ≤ cut := by
  unfold sdP
  rw [ByteArray.size_extract, suc_mul]
  have := mul_nnI (a := (k : Int)) (b := cut) (by omega) (by omega)
  generalize (k : Int) * cut = y at *
  omega
theorem bufA_10 {fr : List Int} {k : Int} (hp : poolB 256 128 10 fr = true) (h : 0 ≤ k ∧ k ≤ 9) : bufA 256 128 10 fr k = 256 + k * 128 := by
  unfold bufA
  rw [hp, inB_iff.2 (show 0 ≤ k ∧ k ≤ 10 - 1 by omega)]; rfl
theorem sdW_fb {l : List Mp} {fr : List Int} {T : ByteArray} {cut : Int} (ht : Turned 12 12 l 0 false) (hp : poolB 256 128 10 fr = true) (hc : 1 ≤ cut ∧ cut ≤ 128) : ∀ (ks : List Int) (i : Nat) (ps : Pg), MemOk ps → ps.length = 12 → (∀ k ∈ ks, 0 ≤ k ∧ k ≤ 9) → ks.Pairwise (· ≠ ·) →
    MemOk (sdW l 0 256 128 10 fr T cut ks i ps).1 ∧ (sdW l 0 256 128 10 fr T cut ks i ps).1.length = 12 ∧
    (∀ j : Nat, j < ks.length → ∀ m : Nat, m < (sdP T cut (i + j)).size → fb 12 (sdW l 0 256 128 10 fr T cut ks i ps).1 (256 + at' ks j * 128 + m) = bAt (sdP T cut (i + j)) m) ∧
    (∀ x : Int, 0 ≤ x → x < 1536 → (∀ k ∈ ks, x < 256 + k * 128 ∨ 256 + k * 128 + 128 ≤ x) → fb 12 (sdW l 0 256 128 10 fr T cut ks i ps).1 x = fb 12 ps x)
  | [], i, ps, hm, hl, _, _ => ⟨hm, hl, (fun j h => nomatch h), fun _ _ _ _ => rfl⟩
  | k :: r, i, ps, hm, hl, hk, hd => by
    have hk0 := hk k (List.mem_cons_self ..)
    have hsz := sdP_cut (T := T) hc.1 i
    obtain ⟨qs, w1, w2, w3, w4⟩ := dmaW_fb (a := bufA 256 128 10 fr k) (s := sdP T cut i) ht hm hl (by rw [bufA_10 hp hk0]; omega) (by omega) (by rw [bufA_10 hp hk0]; omega)
    rw [bufA_10 hp hk0] at w4
    have hst : sdW l 0 256 128 10 fr T cut (k :: r) i ps = sdW l 0 256 128 10 fr T cut r (i + 1) qs := by
      simp only [sdW]
      rw [w1, if_pos rfl]
    rw [hst]
    rw [List.pairwise_cons] at hd
    obtain ⟨i1, i2, i3, i4⟩ := sdW_fb ht hp hc r (i + 1) qs w2 w3 (fun y hy => hk y (List.mem_cons_of_mem _ hy)) hd.2
    refine ⟨i1, i2, fun j hj m hm' => ?_, fun x x0 x1 hx => ?_⟩
    · cases j with
      | zero =>
        rw [Nat.add_zero] at hm' ⊢
        have e : at' (k :: r) 0 = k := rfl
        rw [e, i4 _ (by omega) (by omega) fun y hy => ?_, w4 _ (by omega) (by omega), if_pos (by omega)]
        · congr 1; omega
        · have h1 := hd.1 y hy
          have h2 := hk y (List.mem_cons_of_mem _ hy)
          omega
      | succ j =>
        have e : at' (k :: r) (j + 1) = at' r j := rfl
        rw [e]
        have := i3 j (by simpa using hj) m (by rw [show i + 1 + j = i + (j + 1) by omega]; exact hm')
        rw [show i + 1 + j = i + (j + 1) by omega] at this
        exact this
    · have h0 := hx k (List.mem_cons_self ..)
      rw [i4 x x0 x1 (fun y hy => hx y (List.mem_cons_of_mem _ hy)), w4 x x0 (by omega), if_neg (by omega)]
theorem catP_app (ps : Pg) : ∀ (a : List Pc) (p : Pc), catP ps (a ++ [p]) = catP ps a ++ fs 12 ps p.1 p.2.toNat
  | [], p => by show fs 12 ps p.1 p.2.toNat ++ ⟨#[]⟩ = ⟨#[]⟩ ++ fs 12 ps p.1 p.2.toNat; rw [ba_append_nil, ba_empty]
  | q :: a, p => by
    show _ ++ catP ps (a ++ [p]) = _ ++ catP ps a ++ _
    rw [catP_app ps a p, ByteArray.append_assoc]
theorem ext_join (T : ByteArray) {a b : Nat} (h : a ≤ b) : T.extract 0 a ++ T.extract a b = T.extract 0 b := by
  refine ba_ext (by simp only [ByteArray.size_append, ByteArray.size_extract]; omega) fun i hi => ?_
  simp only [ByteArray.size_append, ByteArray.size_extract] at hi
  rw [bAt_append, ByteArray.size_extract]
  by_cases hc : i < min a T.size - 0
  · rw [if_pos hc, bAt_extract, if_pos (by omega), bAt_extract, if_pos (by omega)]
  · rw [if_neg hc, bAt_extract, if_pos (by omega), bAt_extract, if_pos (by omega)]
    congr 1; omega
theorem cat_parts {ps : Pg} {T : ByteArray} {cut : Int} (hc : 1 ≤ cut) (f : Nat → Int) : ∀ n : Nat, (∀ i, i < n → fs 12 ps (f i) (sdP T cut i).size = sdP T cut i) → catP ps ((List.range n).map fun i => (f i, ((sdP T cut i).size : Int))) = T.extract 0 (min (T.size : Int) ((n : Int) * cut)).toNat
  | 0, _ => by
    show (⟨#[]⟩ : ByteArray) = _
    refine ba_ext (by rw [ByteArray.size_extract, show ((0 : Nat) : Int) = 0 from rfl, Int.zero_mul]; show 0 = _; omega) fun i hi => nomatch hi
  | n + 1, h => by
    rw [List.range_succ, List.map_append]
    show catP ps (_ ++ [_]) = _
    rw [catP_app, cat_parts hc f n fun i hi => h i (by omega)]
    simp only [Int.toNat_natCast]
    rw [h n (by omega)]
    have h0 := mul_nnI (a := (n : Int)) (b := cut) (by omega) (by omega)
    have h1 : ((n + 1 : Nat) : Int) * cut = (n : Int) * cut + cut := by rw [← suc_mul]; rfl
    have e : sdP T cut n = T.extract (min (T.size : Int) ((n : Int) * cut)).toNat (min (T.size : Int) (((n + 1 : Nat) : Int) * cut)).toNat := by
      unfold sdP
      rw [h1, suc_mul]
      by_cases hcc : (n : Int) * cut ≤ T.size
      · congr 1; omega
      · exact ext_none T (by omega) (by omega)
    rw [e, ext_join T (by omega)]
structure Sent1 (s h : Int) (ps : Pg) (t : Int) (fr : List Int) (ws : List Sn) (nx : Int) (p : Pk) (size cut : Int) (r : TxR) (n : Nat) (pcs : List Pc) : Prop where
  mem : MemOk r.1
  len : r.1.length = 12
  ring : ringOkB 0 s h r.2.1 = true
  tail : r.2.1 = pos s t (n + 1)
  used : usedF s h t + ((n : Int) + 1) ≤ s
  used' : usedF s h r.2.1 = usedF s h t + ((n : Int) + 1)
  fre : r.2.2.1 = fr.drop n
  nle : n ≤ fr.length
  ws' : r.2.2.2.1 = ws ++ [(nx, (n : Int) + 1, fr.take n)]
  nx' : r.2.2.2.2.1 = (nx + 1) % 65536
  pcl : pcs.length = n
  lies : Lies s r.1 t pcs size nx p.tm
  bufs : ∀ q ∈ pcs, ∃ k ∈ fr.take n, q.1 = 256 + k * 128 ∧ 0 ≤ q.2 ∧ q.2 ≤ 128
  same : ∀ x : Int, 0 ≤ x → x < 1536 → (∀ j : Nat, j < n + 1 → x < (t + j) % s * 16 ∨ (t + j) % s * 16 + 16 ≤ x) → (∀ k ∈ fr.take n, x < 256 + k * 128 ∨ 256 + k * 128 + 128 ≤ x) → fb 12 r.1 x = fb 12 ps x
theorem snd_lies {l : List Mp} {ps : Pg} {s h t nx size cut : Int} {fr : List Int} {ws : List Sn} {p : Pk} {r : TxR} (w : WL l) (hn : l.length = 12) (hm : MemOk ps) (hl : ps.length = 12) (hr : sdF l ps 0 0 s h t 256 128 10 fr ws nx p size cut = r) (hok : r.2.2.2.2.2 = true) : ∃ n pcs, Sent1 s h ps t fr ws nx p size cut r n pcs := by
  cases hb : sdB l ps 0 0 s h t 256 128 10 fr ws nx p size cut with
  | false => rw [sd_no hb] at hr; subst hr; cases hok
  | true =>
    have hb' := hb
    unfold sdB at hb'
    simp only [Bool.and_eq_true, decide_eq_true_eq] at hb'
    obtain ⟨⟨hto, hsup, hcu, hsz⟩, ⟨hn16, hfree, hslots, htake⟩, hwr, hd, hg⟩ := hb'
    have hr2 := hr
    unfold sdF at hr2
    rw [if_pos hb] at hr2
    subst hr2
    clear hr hok
    obtain ⟨tx1, tx2, tx3, tx4, tx5⟩ := txOk_facts hto
    obtain ⟨g1, g2⟩ := rpaF_y hg
    have e : sdRg l ps 0 0 s h t 256 128 10 fr nx p.tm size cut = _ := g2
    have hcu' := inB_iff.1 hcu
    obtain ⟨tz0, tz1⟩ := tm_sz hsup
    obtain ⟨nb0, nb1, nb2, nb3⟩ := sdN_bd (T := p.tm) (cut := cut) (by omega) (by omega)
    obtain ⟨n, hnn⟩ := Int.eq_ofNat_of_zero_le (show 0 ≤ sdN p.tm cut by omega)
    have hks : sdKs 256 128 10 fr p.tm cut = fr.take n := by
      unfold sdKs takeL
      rw [if_pos htake, hnn]; rfl
    have hre : takeR 256 128 10 fr (sdN p.tm cut) = fr.drop n := by
      unfold takeR
      rw [if_pos htake, hnn]; rfl
    have hnle : n ≤ fr.length := by
      unfold takeB at htake
      rw [Bool.and_eq_true] at htake
      have := inB_iff.1 htake.2
      omega
    have hkl : (fr.take n).length = n := by rw [List.length_take]; omega
    -- the pool
    have hpo := tx2
    unfold poolB at hpo
    simp only [Bool.and_eq_true, decide_eq_true_eq] at hpo
    have hkb : ∀ k ∈ fr.take n, 0 ≤ k ∧ k ≤ 9 := fun k hk => by
      have := inB_iff.1 (List.all_eq_true.1 hpo.1.2 k (List.mem_of_mem_take hk))
      omega
    have hkd : (fr.take n).Pairwise (· ≠ ·) := hpo.2.sublist (List.take_sublist _ _)
    obtain ⟨m1, m2, m3, m4⟩ := sdW_fb (T := p.tm) (wl_all w hn) tx2 hcu' (fr.take n) 0 ps hm hl hkb hkd
    have hwe : sdWr l ps 0 256 128 10 fr p.tm cut = sdW l 0 256 128 10 fr p.tm cut (fr.take n) 0 ps := by unfold sdWr; rw [hks]
    have hpe : sdPc 256 128 10 fr p.tm cut = (List.range n).map fun i => (256 + at' (fr.take n) i * 128, ((sdP p.tm cut i).size : Int)) := by
      unfold sdPc sdQ
      rw [hks, hkl]
      refine List.map_congr_left fun i hi => ?_
      rw [bufA_10 tx2 (hkb _ (atp_mem (by rw [hkl]; exact List.mem_range.1 hi)))]
    have hdl := descr_len hd
    have hDe : descrF (sdPc 256 128 10 fr p.tm cut) size nx = dsF (sdPc 256 128 10 fr p.tm cut) size nx ((sdPc 256 128 10 fr p.tm cut).length + 1) := if_pos hd
    generalize hP : sdPc 256 128 10 fr p.tm cut = pcs at *
    have hpl : pcs.length = n := by rw [hpe, List.length_map, List.length_range]
    rw [hwe] at g1 g2 e
    generalize hD : descrF pcs size nx = D at *
    obtain ⟨q1, q2, q3, q4, q5, q6, q7, q8⟩ := rpa_fb (wl_two w hn) (encL D) _ t m1 m2 tx1 g1
    have hel : (encL D).length = n + 1 := by rw [encL_len, hdl, hpl]
    obtain ⟨hs, b0, b1, s0, s1, h0, h1, t0, t1, u1, u0⟩ := ringOk_facts tx1
    have hdk : ∀ j, j < pcs.length + 1 → dOk (dAt pcs size nx j) = true := fun j hj => by
      have hdd := hd
      unfold descrB at hdd
      simp only [Bool.and_eq_true] at hdd
      have := List.all_eq_true.1 hdd.2.2.2 (at' (dsF pcs size nx (pcs.length + 1)) j) (atp_mem (by rw [dsF_len]; exact hj))
      rwa [dsF_at hj] at this
    have hdj : ∀ j, j < pcs.length + 1 → at' (encL D) j = encT (dAt pcs size nx j) := fun j hj => by
      have ha : at' D j = dAt pcs size nx j := by rw [hDe, dsF_at hj]
      rw [encL_at (by rw [hdl]; exact hj), ha]
      exact if_pos (hdk j hj)
    generalize hR : rpa l 0 0 s h (encL D) (sdW l 0 256 128 10 fr p.tm cut (fr.take n) 0 ps).1 t = R at *
    have hslot : ∀ j : Nat, 0 ≤ (t + j) % s * 16 ∧ (t + j) % s * 16 + 16 ≤ 256 := fun j => by
      have m0 := Int.emod_nonneg (t + j) (show s ≠ 0 by omega)
      have m1 := Int.emod_lt_of_pos (t + j) (show 0 < s by omega)
      omega
    have hbuf : ∀ x : Int, 256 ≤ x → x < 1536 → fb 12 R.1 x = fb 12 (sdW l 0 256 128 10 fr p.tm cut (fr.take n) 0 ps).1 x := fun x x0 x1 => q8 x (by omega) x1 fun j _ => .inr (by have := hslot j; omega)
    have hki : ∀ i, i < n → at' (fr.take n) i ∈ fr.take n := fun i hi => atp_mem (by rw [hkl]; exact hi)
    have hpm : ∀ q ∈ pcs, ∃ i, i < n ∧ q = (256 + at' (fr.take n) i * 128, ((sdP p.tm cut i).size : Int)) := fun q hq => by
      rw [hpe] at hq
      obtain ⟨i, hi, rfl⟩ := List.mem_map.1 hq
      exact ⟨i, List.mem_range.1 hi, rfl⟩
    rw [e, hre, hks]
    refine ⟨n, pcs, ⟨q1, q2, q3, ?_, by omega, ?_, rfl, hnle, by rw [hnn], rfl, hpl, ⟨hd, fun j hj => ?_, fun q hq => ?_, ?_⟩, fun q hq => ?_, fun x x0 x1 hx hk => ?_⟩⟩
    · show R.2.1 = _
      rw [q4, hel]; rfl
    · show usedF s h R.2.1 = _
      rw [q4, hel]
      rw [hel] at q5
      unfold usedF at *
      rcases sizeB_cases hs with rfl | rfl | rfl | rfl <;> omega
    · refine ba_ext (by rw [fs_size, encT_sz (hdk j hj)]) fun i hi => ?_
      rw [fs_size] at hi
      rw [fs_at hi, ← hdj j hj]
      exact q7 j (by rw [hel]; omega) i hi
    · obtain ⟨i, hi, rfl⟩ := hpm q hq
      have := hkb _ (hki i hi)
      have := sdP_cut (T := p.tm) hcu'.1 i
      simp only; omega
    · rw [hpe, cat_parts hcu'.1 _ n fun i hi => ?_]
      · rw [hnn] at nb3
        rw [show (min (p.tm.size : Int) ((n : Int) * cut)).toNat = p.tm.size by omega, ByteArray.extract_zero_size]
      · refine ba_ext (fs_size ..) fun m hm' => ?_
        rw [fs_size] at hm'
        have hk9 := hkb _ (hki i hi)
        have hsc := sdP_cut (T := p.tm) hcu'.1 i
        rw [fs_at hm', hbuf _ (by omega) (by omega)]
        have := m3 i (by rw [hkl]; exact hi) m (by rw [Nat.zero_add]; exact hm')
        rw [Nat.zero_add] at this
        exact this
    · obtain ⟨i, hi, rfl⟩ := hpm q hq
      have := sdP_cut (T := p.tm) hcu'.1 i
      exact ⟨_, hki i hi, rfl, by simp only; omega, by simp only; omega⟩
    · show fb 12 R.1 x = _
      rw [q8 x x0 x1 fun j hj => hx j (by rw [hel] at hj; exact hj)]
      exact m4 x x0 x1 hk
end Go.Proofs.YtbdcaacpemkloaaGreat
end
section
namespace Go.Proofs.YtbdcaacpemkloaaGreat
open Go Go.RowKit Go.Vc
set_option linter.unusedVariables false
set_option linter.unusedSimpArgs false
set_option linter.unnecessarySimpa false
end Go.Proofs.YtbdcaacpemkloaaGreat
end

/- Part 3 of what the proof of FnReceivedStreams rests on: an idealised machine, contracts of functions, and the walk of the law. No condition. -/
import Derived.Test.YtfcmcedeapgdcaaGreatMFnReceivedStreamsb
section
namespace Go.Proofs.YtfcmcedeapgdcaaGreat
open Go Go.RowKit Go.Vc
set_option linter.unusedVariables false
set_option linter.unusedSimpArgs false
set_option linter.unnecessarySimpa false
theorem mac_eq (a : Int) : macF a = word16 (a / 2 ^ Int.toNat 32) ++ word32 (andI a 4294967295) := by
  have := and_mask_i64 a 32 (by decide)
  have e : (2 : Int) ^ 32 - 1 = 4294967295 := by decide
  have e2 : (2 : Int) ^ 32 = 4294967296 := by decide
  have e3 : (2 : Int) ^ Int.toNat 32 = 4294967296 := by decide
  rw [e, e2] at this
  rw [andI_eq, this, e3]; rfl
theorem putBF_eq {s p : ByteArray} {i : Int} (h0 : 0 ≤ i) (h1 : i ≤ s.size - p.size) : putBF s i p = s.extract (Int.toNat 0) i.toNat ++ p ++ s.extract (i + p.size).toNat s.size := by
  unfold putBF
  rw [if_pos (wthB_iff.2 ⟨h0, by omega, by omega⟩), show (i + p.size).toNat = i.toNat + p.size by omega]; rfl
theorem putBF_no {s p : ByteArray} {i : Int} (h : ¬ (0 ≤ i ∧ i ≤ s.size - p.size)) : putBF s i p = s := by
  unfold putBF
  rw [if_neg fun h' => h (by have := wthB_iff.1 h'; omega)]
theorem putBF_le (s p : ByteArray) (i : Int) : (putBF s i p).size = s.size := by
  by_cases h : 0 ≤ i ∧ i ≤ s.size - p.size
  · rw [putBF_eq h.1 h.2]
    simp only [ByteArray.size_append, ByteArray.size_extract]
    have : Int.toNat 0 = 0 := rfl
    omega
  · rw [putBF_no h]
theorem psF_le (a b c d : Int) : (psF a b c d).size ≤ 12 := by
  have := word32_le a; have := word32_le b; have := word16_le d
  unfold psF
  simp only [ByteArray.size_append, strOfNums_size, List.length_cons, List.length_nil]
  omega
set_option maxHeartbeats 4000000 in
theorem c_impl_macBytes {a : Int} : Con0 Tryz.prog 130 [I a] (Z (macF a)) [] := by
  refine con_i Tryz.func130 Tryz.ntmps130 (t := [(0, I a)]) rfl ?_
  refine vc_sr ?_
  refine vo ?_
  refine vnt ?_
  refine vc_sr ?_
  iterate 2 refine vo ?_
  refine voc c_impl_Word16 rfl rfl ?_
  refine vzs (word16_le _) fun z1 => ?_
  iterate 2 refine vo ?_
  refine voc c_impl_Word32 rfl rfl ?_
  refine vzs (word32_le _) fun z2 => ?_
  iterate 2 refine vo ?_
  refine vnt ?_
  refine vc_ret ?_
  refine fin_i [] rfl (fz ?_) trivial
  exact mac_eq a
set_option maxHeartbeats 4000000 in
theorem c_impl_repeat {b n : Int} (hb : 0 ≤ b ∧ b ≤ 255 := by omega) (hn : 0 ≤ n ∧ n ≤ 1099511627776 := by omega) : Con0 Tryz.prog 131 [.one (.v (.int .u8 b)), I n] (Z (repF b n.toNat)) [] := by
  refine con_i Tryz.func131 Tryz.ntmps131 (t := [(0, .one (.v (.int .u8 b))), (1, I n)]) rfl ?_
  refine vc_sr ?_
  refine vo ?_
  refine vnt ?_
  refine vc_sr ?_
  iterate 3 refine vo ?_
  refine vnt ?_
  refine vc_seq' ?_
  refine vc_sr ?_
  iterate 2 refine vo ?_
  try refine vln ?_
  refine vo ?_
  refine vnt ?_
  refine vc_block ?_
  refine vc_lp (σ := Nat) [0, 5, 10] [] (fun i => [(11, I (i : Nat))]) (fun i => [(64, .arr 5 1 ((List.replicate i b ++ List.replicate (n.toNat - i) 0).map byE))]) (fun i => i ≤ n.toNat) (fun i => n.toNat - i) 0 rfl rfl (sub_i [] (fz ?_) (fz ?_)) ?_ fun i hI => ?_
  · first | trivial | simp
  · simp [byE]
  · omega
  refine vc_nf rfl rfl ?_
  refine vc_sr ?_
  refine vo ?_
  refine vnt ?_
  refine vc_seq' ?_
  refine vc_if (fun g1 => ?_) (fun g1 => ?_)
  · refine vc_skip ?_
    refine thn ?_
    refine vc_seq' ?_
    refine vc_block ?_
    refine vc_sr ?_
    iterate 2 refine vo ?_
    refine vnt ?_
    refine vc_region ?_
    iterate 5 refine vo ?_
    refine vnil ?_
    refine inB_n ?_
    refine thn ?_
    refine vc_region ?_
    refine vo ?_
    try refine vwr ?_
    refine vo ?_
    refine vnt ?_
    refine ⟨i + 1, ?_, ?_, sub_i [] (fz ?_) (fz ?_)⟩
    · omega
    · omega
    · first | rfl | trivial
    · first | trivial | (rw [← set_rep b n.toNat i (by omega), List.map_set]; rfl)
  · refine vc_exit ?_
    refine thn_x ?_
    refine thn_x ?_
    refine inB_x ?_
    refine thn ?_
    refine vc_sr ?_
    iterate 3 refine vo ?_
    refine vnt ?_
    refine vc_ret ?_
    refine fin_i [] rfl (fz ?_) trivial
    rw [ofE_by, repF, show n.toNat - i = 0 by omega, show i = n.toNat by omega]
    simp
set_option maxHeartbeats 4000000 in
theorem c_spec_l01Long {b n : Int} (hb : 0 ≤ b ∧ b ≤ 255 := by omega) (hn : 0 ≤ n ∧ n ≤ 1099511627776 := by omega) : Con0 Tryz.prog 66 [I n, .one (.v (.int .u8 b))] (Z (repF b n.toNat)) [] := by
  refine con_i Tryz.func66 Tryz.ntmps66 (t := [(0, I n), (1, .one (.v (.int .u8 b)))]) rfl ?_
  refine vc_sr ?_
  refine vo ?_
  refine vnt ?_
  refine vc_sr ?_
  iterate 3 refine vo ?_
  refine vnt ?_
  refine vc_seq' ?_
  refine vc_sr ?_
  refine vo ?_
  refine vnt ?_
  refine vc_block ?_
  refine vc_lp (σ := Nat) [0, 1, 5] [] (fun i => [(6, I (i : Nat))]) (fun i => [(64, .arr 5 1 ((List.replicate i b ++ List.replicate (n.toNat - i) 0).map byE))]) (fun i => i ≤ n.toNat) (fun i => n.toNat - i) 0 rfl rfl (sub_i [] (fz ?_) (fz ?_)) ?_ fun i hI => ?_
  · first | trivial | simp
  · simp [byE]
  · omega
  refine vc_nf rfl rfl ?_
  refine vc_seq' ?_
  refine vc_sr ?_
  iterate 3 refine vo ?_
  refine vnt ?_
  refine vc_if (fun g1 => ?_) (fun g1 => ?_)
  · refine vc_skip ?_
    refine thn ?_
    refine vc_seq' ?_
    refine vc_block ?_
    refine vc_region ?_
    iterate 5 refine vo ?_
    refine vnil ?_
    refine inB_n ?_
    refine thn ?_
    refine vc_region ?_
    iterate 2 refine vo ?_
    try refine vwr ?_
    refine vo ?_
    refine vnt ?_
    refine ⟨i + 1, ?_, ?_, sub_i [] (fz ?_) (fz ?_)⟩
    · omega
    · omega
    · first | rfl | trivial
    · first | trivial | (rw [← set_rep b n.toNat i (by omega), List.map_set]; rfl)
  · refine vc_exit ?_
    refine thn_x ?_
    refine thn_x ?_
    refine inB_x ?_
    refine thn ?_
    refine vc_sr ?_
    iterate 3 refine vo ?_
    refine vnt ?_
    refine vc_ret ?_
    refine fin_i [] rfl (fz ?_) trivial
    rw [ofE_by, repF, show n.toNat - i = 0 by omega, show i = n.toNat by omega]
    simp
set_option maxHeartbeats 4000000 in
theorem c_impl_AddSums {a b : Int} (ha : 0 ≤ a ∧ a ≤ 65535 := by omega) (hb : 0 ≤ b ∧ b ≤ 65535 := by omega) : Con0 Tryz.prog 143 [I a, I b] (I (addS a b)) [] := by
  refine con_i Tryz.func143 Tryz.ntmps143 (t := [(0, I a), (1, I b)]) rfl ?_
  refine vc_sr ?_
  refine vo ?_
  refine vnt ?_
  refine vc_seq' ?_
  refine vc_sr ?_
  refine vo ?_
  refine voc c_impl_between rfl rfl ?_
  iterate 2 refine vo ?_
  refine vsp (fun g1 => ?_) (fun g1 => ?_)
  · iterate 3 refine vof ?_
    refine vo ?_
    refine vnt ?_
    refine vc_then ?_
    refine vc_sr ?_
    refine vo ?_
    refine vnt ?_
    refine vc_ret ?_
    refine thn_r ?_
    refine fin_i [] rfl (fz ?_) trivial
    first | (unfold addS; split <;> omega) | (have := inB_iff.2 ha; have := inB_iff.2 hb; simp_all)
  · refine von ?_
    refine vocn c_impl_between rfl rfl ?_
    refine von ?_
    refine vo ?_
    refine vnt ?_
    refine vc_if (fun g2 => ?_) (fun g2 => ?_)
    · refine vc_sr ?_
      refine vo ?_
      refine vnt ?_
      refine vc_ret ?_
      refine thn_r ?_
      refine fin_i [] rfl (fz ?_) trivial
      first | (unfold addS; split <;> omega) | (have := inB_iff.2 ha; have := inB_iff.2 hb; simp_all)
    · refine vc_skip ?_
      refine thn ?_
      refine vc_seq' ?_
      refine vc_sr ?_
      iterate 3 refine vo ?_
      try refine vwr ?_
      refine vo ?_
      refine vnt ?_
      refine vc_if (fun g3 => ?_) (fun g3 => ?_)
      · refine vc_sr ?_
        iterate 3 refine vo ?_
        try refine vwr ?_
        refine vo ?_
        try refine vwr ?_
        refine vo ?_
        refine vnt ?_
        refine vc_ret ?_
        refine thn_r ?_
        refine fin_i [] rfl (fz ?_) trivial
        first | (unfold addS; split <;> omega) | (have := inB_iff.2 ha; have := inB_iff.2 hb; simp_all)
      · refine vc_skip ?_
        refine thn ?_
        refine vc_sr ?_
        iterate 3 refine vo ?_
        try refine vwr ?_
        refine vo ?_
        refine vnt ?_
        refine vc_ret ?_
        refine fin_i [] rfl (fz ?_) trivial
        first | (unfold addS; split <;> omega) | (have := inB_iff.2 ha; have := inB_iff.2 hb; simp_all)
set_option maxHeartbeats 4000000 in
theorem c_impl_PutBytes {s p : ByteArray} {i : Int} (hs_s : s.size ≤ 1099511627776 := by first | assumption | omega | (simp only [ByteArray.size_append, ByteArray.size_extract, strOfNums_size, List.length_cons, List.length_nil]; omega)) (hs_p : p.size ≤ 1099511627776 := by first | assumption | omega | (simp only [ByteArray.size_append, ByteArray.size_extract, strOfNums_size, List.length_cons, List.length_nil]; omega)) : Con0 Tryz.prog 127 [Z s, I i, Z p] (Z (putBF s i p)) [] := by
  refine con_i Tryz.func127 Tryz.ntmps127 (t := [(0, Z s), (1, I i), (2, Z p)]) rfl ?_
  refine vc_sr ?_
  refine vo ?_
  refine vnt ?_
  refine vc_seq' ?_
  refine vc_sr ?_
  iterate 3 refine vo ?_
  refine vsp (fun g1 => ?_) (fun g1 => ?_)
  · iterate 7 refine vof ?_
    refine vo ?_
    refine vnt ?_
    refine vc_then ?_
    refine vc_sr ?_
    iterate 2 refine vo ?_
    refine vnt ?_
    refine vc_ret ?_
    refine thn_r ?_
    refine fin_i [] rfl (fz ?_) trivial
    first | exact putBF_eq (by omega) (by omega) | exact putBF_no (by omega)
  · iterate 6 refine von ?_
    try refine vwr ?_
    refine von ?_
    refine vo ?_
    refine vnt ?_
    refine vc_if (fun g2 => ?_) (fun g2 => ?_)
    · refine vc_sr ?_
      iterate 2 refine vo ?_
      refine vnt ?_
      refine vc_ret ?_
      refine thn_r ?_
      refine fin_i [] rfl (fz ?_) trivial
      first | exact putBF_eq (by omega) (by omega) | exact putBF_no (by omega)
    · refine vc_skip ?_
      refine thn ?_
      refine vc_sr ?_
      iterate 10 refine vo ?_
      try refine vwr ?_
      iterate 3 refine vo ?_
      refine vnt ?_
      refine vc_ret ?_
      refine fin_i [] rfl (fz ?_) trivial
      first | exact putBF_eq (by omega) (by omega) | exact putBF_no (by omega)
set_option maxHeartbeats 4000000 in
theorem c_spec_PutBytes {s p : ByteArray} {i : Int} (hs_s : s.size ≤ 1099511627776 := by first | assumption | omega | (simp only [ByteArray.size_append, ByteArray.size_extract, strOfNums_size, List.length_cons, List.length_nil]; omega)) (hs_p : p.size ≤ 1099511627776 := by first | assumption | omega | (simp only [ByteArray.size_append, ByteArray.size_extract, strOfNums_size, List.length_cons, List.length_nil]; omega)) : Con0 Tryz.prog 139 [Z s, I i, Z p] (Z (putBF s i p)) [] := by
  refine con_i Tryz.func139 Tryz.ntmps139 (t := [(0, Z s), (1, I i), (2, Z p)]) rfl ?_
  refine vc_sr ?_
  refine vo ?_
  refine vnt ?_
  refine vc_seq' ?_
  refine vc_sr ?_
  iterate 4 refine vo ?_
  refine voc c_spec_l02Within rfl rfl ?_
  refine vo ?_
  refine vnt ?_
  refine vc_if (fun g1 => ?_) (fun g1 => ?_)
  · have hw : ¬ _ := fun h => Bool.false_ne_true (g1.symm.trans (wthB_iff.2 h))
    refine vc_sr ?_
    iterate 2 refine vo ?_
    refine vnt ?_
    refine vc_ret ?_
    refine thn_r ?_
    refine fin_i [] rfl (fz ?_) trivial
    first | exact putBF_eq (by omega) (by omega) | exact putBF_no (by omega)
  · have hw := wthB_iff.1 g1
    refine vc_skip ?_
    refine thn ?_
    refine vc_sr ?_
    iterate 10 refine vo ?_
    try refine vwr ?_
    iterate 3 refine vo ?_
    refine vnt ?_
    refine vc_ret ?_
    refine fin_i [] rfl (fz ?_) trivial
    first | exact putBF_eq (by omega) (by omega) | exact putBF_no (by omega)
def psOkB (src dst kind len : Int) : Bool := inB src 0 4294967295 && inB dst 0 4294967295 && inB kind 0 255 && inB len 0 65535
def psR (src dst kind len : Int) : ByteArray := if psOkB src dst kind len then psF src dst kind len else ⟨#[]⟩
theorem psR_ok {src dst kind len : Int} (h : psOkB src dst kind len = true) : psR src dst kind len = psF src dst kind len := if_pos h
theorem wa_or (s : ByteArray) (k : Nat) : orI (IntKind.i64.wrap (IntKind.i64.wrap (bytI s ((2 * k : Nat) : Int)) * 2 ^ Int.toNat 8)) (IntKind.i64.wrap (bytI s (((2 * k : Nat) : Int) + 1))) = wAt s k := by
  rw [shl8, or8 _ _ _ (bAt_lt ..)]; rfl
theorem wa_one (s : ByteArray) (k : Nat) (h : s.size ≤ 2 * k + 1) : IntKind.i64.wrap (IntKind.i64.wrap (bytI s ((2 * k : Nat) : Int)) * 2 ^ Int.toNat 8) = wAt s k := by
  rw [shl8, Int.toNat_natCast, wAt, bAt_out (i := 2 * k + 1) h, Nat.add_zero]
set_option maxHeartbeats 4000000 in
theorem c_impl_SumWords {s : ByteArray} (hs_s : s.size ≤ 1099511627776 := by first | assumption | omega | (simp only [ByteArray.size_append, ByteArray.size_extract, strOfNums_size, List.length_cons, List.length_nil]; omega)) : Con0 Tryz.prog 140 [Z s] (I (sumF s)) [] := by
  refine con_i Tryz.func140 Tryz.ntmps140 (t := [(0, Z s)]) rfl ?_
  refine vc_sr ?_
  refine vo ?_
  refine vnt ?_
  refine vc_sr ?_
  refine vo ?_
  refine vnt ?_
  refine vc_seq' ?_
  refine vc_sr ?_
  refine vo ?_
  refine vnt ?_
  refine vc_block ?_
  refine vc_lp (σ := Nat) [0] [] (fun k => [(3, I (sumW s k)), (4, I ((2 * k : Nat) : Int))]) (fun k => []) (fun k => k ≤ words s.size) (fun k => words s.size - k) 0 rfl rfl (sub_i [] (fz ?_) (fz ?_)) ?_ fun k hI => ?_
  · first | trivial | simp [sumW]
  · trivial
  · exact Nat.zero_le _
  refine vc_nf rfl rfl ?_
  have hk := bAt_lt s (2 * k)
  have hw := wAt_bd s k
  have hm := sumW_bd s k
  refine vc_seq' ?_
  refine vc_sr ?_
  iterate 4 refine vo ?_
  refine vnt ?_
  refine vc_if (fun g1 => ?_) (fun g1 => ?_)
  · refine vc_skip ?_
    refine thn ?_
    refine vc_seq' ?_
    refine vc_block ?_
    refine vc_sr ?_
    iterate 6 refine vo ?_
    refine vnt ?_
    refine vc_seq' ?_
    refine vc_sr ?_
    iterate 2 refine vo ?_
    try refine vwr ?_
    iterate 3 refine vo ?_
    refine vnt ?_
    refine vc_if (fun g2 => ?_) (fun g2 => ?_)
    · refine vc_region ?_
      iterate 4 refine vo ?_
      try refine vwr ?_
      iterate 3 refine vo ?_
      refine veq (wa_or s k) ?_
      refine vo ?_
      refine vnt ?_
      refine vc_region ?_
      iterate 2 refine vo ?_
      refine voc c_impl_AddSums rfl rfl ?_
      refine vo ?_
      refine vnil ?_
      refine inB_n ?_
      refine thn ?_
      refine vc_region ?_
      iterate 2 refine vo ?_
      try refine vwr ?_
      refine vo ?_
      refine vnt ?_
      refine ⟨k + 1, ?_, ?_, sub_i [] (fz ?_) (fz ?_)⟩
      · unfold words; omega
      · unfold words; omega
      · exact ⟨rfl, by omega⟩
      · first | trivial
    · rw [wa_one s k (by omega)]
      refine vc_skip ?_
      refine thn ?_
      refine vc_region ?_
      iterate 2 refine vo ?_
      refine voc c_impl_AddSums rfl rfl ?_
      refine vo ?_
      refine vnil ?_
      refine inB_n ?_
      refine thn ?_
      refine vc_region ?_
      iterate 2 refine vo ?_
      try refine vwr ?_
      refine vo ?_
      refine vnt ?_
      refine ⟨k + 1, ?_, ?_, sub_i [] (fz ?_) (fz ?_)⟩
      · unfold words; omega
      · unfold words; omega
      · exact ⟨rfl, by omega⟩
      · first | trivial
  · refine vc_exit ?_
    refine thn_x ?_
    refine thn_x ?_
    refine inB_x ?_
    refine thn ?_
    refine vc_sr ?_
    iterate 2 refine vo ?_
    refine vnt ?_
    refine vc_ret ?_
    refine fin_i [] rfl (fz ?_) trivial
    rw [sumF, show words s.size = k by unfold words at *; omega]
set_option maxHeartbeats 4000000 in
theorem c_impl_Checksum {s : ByteArray} (hs_s : s.size ≤ 1099511627776 := by first | assumption | omega | (simp only [ByteArray.size_append, ByteArray.size_extract, strOfNums_size, List.length_cons, List.length_nil]; omega)) : Con0 Tryz.prog 126 [Z s] (I (checkF s)) [] := by
  have hb := sumF_bd s
  refine con_i Tryz.func126 Tryz.ntmps126 (t := [(0, Z s)]) rfl ?_
  refine vc_sr ?_
  refine vo ?_
  refine vnt ?_
  refine vc_sr ?_
  refine vo ?_
  refine voc c_impl_SumWords rfl rfl ?_
  refine vo ?_
  try refine vwr ?_
  refine vo ?_
  refine vnt ?_
  refine vc_ret ?_
  refine fin_i [] rfl (fz ?_) trivial
  rfl
set_option maxHeartbeats 4000000 in
theorem c_impl_PseudoHeader {src dst kind len : Int} : Con0 Tryz.prog 125 [I src, I dst, I kind, I len] (.tup [Z (psR src dst kind len), B (psOkB src dst kind len)]) [] := by
  refine con_i Tryz.func125 Tryz.ntmps125 (t := [(0, I src), (1, I dst), (2, I kind), (3, I len)]) rfl ?_
  refine vc_sr ?_
  iterate 2 refine vo ?_
  refine vnt ?_
  refine vc_seq' ?_
  refine vc_sr ?_
  refine vo ?_
  refine voc c_impl_between rfl rfl ?_
  iterate 2 refine vo ?_
  refine vsp (fun g1 => ?_) (fun g1 => ?_)
  · iterate 3 refine vof ?_
    iterate 2 refine vo ?_
    iterate 3 refine vof ?_
    iterate 2 refine vo ?_
    iterate 3 refine vof ?_
    refine vo ?_
    refine vnt ?_
    refine vc_then ?_
    refine vc_sr ?_
    iterate 2 refine vo ?_
    refine vnt ?_
    refine vc_ret ?_
    refine thn_r ?_
    refine fin_i [] rfl (fz ?_) trivial
    first | (simp_all [psR, psOkB, psF]; done) | (have h3 := inB_iff.1 g3; have := u8w h3.1 h3.2; simp_all [psR, psOkB, psF])
  · refine von ?_
    refine vocn c_impl_between rfl rfl ?_
    refine von ?_
    iterate 2 refine vo ?_
    refine vsp (fun g2 => ?_) (fun g2 => ?_)
    · iterate 3 refine vof ?_
      iterate 2 refine vo ?_
      iterate 3 refine vof ?_
      refine vo ?_
      refine vnt ?_
      refine vc_then ?_
      refine vc_sr ?_
      iterate 2 refine vo ?_
      refine vnt ?_
      refine vc_ret ?_
      refine thn_r ?_
      refine fin_i [] rfl (fz ?_) trivial
      first | (simp_all [psR, psOkB, psF]; done) | (have h3 := inB_iff.1 g3; have := u8w h3.1 h3.2; simp_all [psR, psOkB, psF])
    · refine von ?_
      refine vocn c_impl_between rfl rfl ?_
      refine von ?_
      iterate 2 refine vo ?_
      refine vsp (fun g3 => ?_) (fun g3 => ?_)
      · iterate 3 refine vof ?_
        refine vo ?_
        refine vnt ?_
        refine vc_then ?_
        refine vc_sr ?_
        iterate 2 refine vo ?_
        refine vnt ?_
        refine vc_ret ?_
        refine thn_r ?_
        refine fin_i [] rfl (fz ?_) trivial
        first | (simp_all [psR, psOkB, psF]; done) | (have h3 := inB_iff.1 g3; have := u8w h3.1 h3.2; simp_all [psR, psOkB, psF])
      · refine von ?_
        refine vocn c_impl_between rfl rfl ?_
        refine von ?_
        refine vo ?_
        refine vnt ?_
        refine vc_if (fun g4 => ?_) (fun g4 => ?_)
        · refine vc_sr ?_
          iterate 2 refine vo ?_
          refine vnt ?_
          refine vc_ret ?_
          refine thn_r ?_
          refine fin_i [] rfl (fz ?_) trivial
          first | (simp_all [psR, psOkB, psF]; done) | (have h3 := inB_iff.1 g3; have := u8w h3.1 h3.2; simp_all [psR, psOkB, psF])
        · refine vc_skip ?_
          refine thn ?_
          refine vc_sr ?_
          refine vo ?_
          refine voc c_impl_Word32 rfl rfl ?_
          refine vzs (word32_le _) fun z1 => ?_
          refine vo ?_
          refine voc c_impl_Word32 rfl rfl ?_
          refine vzs (word32_le _) fun z2 => ?_
          iterate 5 refine vo ?_
          refine vs2 ?_
          iterate 2 refine vo ?_
          refine voc c_impl_Word16 rfl rfl ?_
          refine vzs (word16_le _) fun z3 => ?_
          iterate 3 refine vo ?_
          refine vnt ?_
          refine vc_ret ?_
          refine fin_i [] rfl (fz ?_) trivial
          first | (simp_all [psR, psOkB, psF]; done) | (have h3 := inB_iff.1 g3; have := u8w h3.1 h3.2; simp_all [psR, psOkB, psF])
def ethOkB (dst src vl ty : Int) (n : Nat) : Bool := inB dst 0 281474976710655 && inB src 0 281474976710655 && inB vl (-1) 4095 && inB ty 1536 65535 && !decide (ty = 33024) && inB n 46 400
def ethF (dst src vl ty : Int) (body : ByteArray) : ByteArray := if 0 ≤ vl then macF dst ++ macF src ++ (word16 33024 ++ word16 vl) ++ word16 ty ++ body else macF dst ++ macF src ++ word16 ty ++ body
def ethR (dst src vl ty : Int) (body : ByteArray) : ByteArray := if ethOkB dst src vl ty body.size then ethF dst src vl ty body else ⟨#[]⟩
def ipOkB (tos id ttl pr src dst : Int) (n : Nat) : Bool := inB tos 0 255 && inB ttl 0 255 && inB pr 0 255 && inB id 0 65535 && inB src 0 4294967295 && inB dst 0 4294967295 && decide (n ≤ 380)
def ipH0 (tos id ttl pr src dst : Int) (n : Nat) : ByteArray := strOfNums [69, tos] ++ word16 (20 + n) ++ word16 id ++ word16 16384 ++ strOfNums [ttl, pr] ++ word16 0 ++ word32 src ++ word32 dst
def ipHF (tos id ttl pr src dst : Int) (n : Nat) : ByteArray := putBF (ipH0 tos id ttl pr src dst n) 10 (word16 (checkF (ipH0 tos id ttl pr src dst n)))
def ipHR (tos id ttl pr src dst : Int) (n : Nat) : ByteArray := if ipOkB tos id ttl pr src dst n then ipHF tos id ttl pr src dst n else ⟨#[]⟩
def ipR (tos id ttl pr src dst : Int) (body : ByteArray) : ByteArray := if ipOkB tos id ttl pr src dst body.size then ipHF tos id ttl pr src dst body.size ++ body else ⟨#[]⟩
theorem ipHR_ok {tos id ttl pr src dst : Int} {n : Nat} (h : ipOkB tos id ttl pr src dst n = true) : ipHR tos id ttl pr src dst n = ipHF tos id ttl pr src dst n := if_pos h
theorem ipOk_w {tos id ttl pr src dst : Int} {n : Nat} (h : ipOkB tos id ttl pr src dst n = true) : IntKind.u8.wrap tos = tos ∧ IntKind.u8.wrap ttl = ttl ∧ IntKind.u8.wrap pr = pr := by
  simp only [ipOkB, Bool.and_eq_true, inB_iff] at h
  exact ⟨u8w h.1.1.1.1.1.1.1 h.1.1.1.1.1.1.2, u8w h.1.1.1.1.1.2.1 h.1.1.1.1.1.2.2, u8w h.1.1.1.1.2.1 h.1.1.1.1.2.2⟩
set_option maxHeartbeats 4000000 in
theorem c_impl_PadBody {s : ByteArray} (hs_s : s.size ≤ 1099511627776 := by first | assumption | omega | (simp only [ByteArray.size_append, ByteArray.size_extract, strOfNums_size, List.length_cons, List.length_nil]; omega)) : Con0 Tryz.prog 107 [Z s] (Z (padF s)) [] := by
  refine con_i Tryz.func107 Tryz.ntmps107 (t := [(0, Z s)]) rfl ?_
  refine vc_sr ?_
  refine vo ?_
  refine vnt ?_
  refine vc_seq' ?_
  refine vc_sr ?_
  iterate 3 refine vo ?_
  refine vnt ?_
  refine vc_if (fun g1 => ?_) (fun g1 => ?_)
  · refine vc_sr ?_
    iterate 2 refine vo ?_
    refine vnt ?_
    refine vc_ret ?_
    refine thn_r ?_
    refine fin_i [] rfl (fz ?_) trivial
    first | (rw [padF, if_neg (by omega)]; done) | (rw [padF, if_pos (by omega), show (46 - (s.size : Int)).toNat = 46 - s.size by omega])
  · refine vc_skip ?_
    refine thn ?_
    refine vc_sr ?_
    iterate 4 refine vo ?_
    try refine vwr ?_
    refine voc c_impl_repeat rfl rfl ?_
    refine vzs (rep_le _ _) fun z1 => ?_
    iterate 2 refine vo ?_
    refine vnt ?_
    refine vc_ret ?_
    refine fin_i [] rfl (fz ?_) trivial
    first | (rw [padF, if_neg (by omega)]; done) | (rw [padF, if_pos (by omega), show (46 - (s.size : Int)).toNat = 46 - s.size by omega])
set_option maxHeartbeats 4000000 in
theorem c_impl_EthOk {dst src vl ty : Int} {body : ByteArray} (hs_body : body.size ≤ 1099511627776 := by first | assumption | omega | (simp only [ByteArray.size_append, ByteArray.size_extract, strOfNums_size, List.length_cons, List.length_nil]; omega)) : Con0 Tryz.prog 117 [.agg [V dst, V src, V vl, V ty, VS body]] (B (ethOkB dst src vl ty body.size)) [] := by
  refine con_i Tryz.func117 Tryz.ntmps117 (t := [(0, .agg [V dst, V src, V vl, V ty, VS body])]) rfl ?_
  refine vc_sr ?_
  iterate 2 refine vo ?_
  refine vnt ?_
  refine vc_sr ?_
  iterate 2 refine vo ?_
  refine voc c_impl_between rfl rfl ?_
  refine vo ?_
  refine vsp (fun g1 => ?_) (fun g1 => ?_)
  · iterate 2 refine von ?_
    refine vocn c_impl_between rfl rfl ?_
    iterate 2 refine vo ?_
    refine vsp (fun g2 => ?_) (fun g2 => ?_)
    · iterate 2 refine von ?_
      refine vocn c_impl_between rfl rfl ?_
      iterate 2 refine vo ?_
      refine vsp (fun g3 => ?_) (fun g3 => ?_)
      · iterate 2 refine von ?_
        refine vocn c_impl_between rfl rfl ?_
        iterate 2 refine vo ?_
        refine vsp (fun g4 => ?_) (fun g4 => ?_)
        · iterate 3 refine von ?_
          iterate 2 refine vo ?_
          refine vsp (fun g5 => ?_) (fun g5 => ?_)
          · iterate 3 refine von ?_
            refine vocn c_impl_between rfl rfl ?_
            iterate 2 refine vo ?_
            refine vnt ?_
            refine vc_ret ?_
            refine fin_i [] rfl (fz ?_) trivial
            simp_all [ethOkB]
          · iterate 4 refine vof ?_
            iterate 2 refine vo ?_
            refine vnt ?_
            refine vc_ret ?_
            refine fin_i [] rfl (fz ?_) trivial
            simp_all [ethOkB]
        · iterate 3 refine vof ?_
          iterate 2 refine vo ?_
          iterate 4 refine vof ?_
          iterate 2 refine vo ?_
          refine vnt ?_
          refine vc_ret ?_
          refine fin_i [] rfl (fz ?_) trivial
          simp_all [ethOkB]
      · iterate 3 refine vof ?_
        iterate 2 refine vo ?_
        iterate 3 refine vof ?_
        iterate 2 refine vo ?_
        iterate 4 refine vof ?_
        iterate 2 refine vo ?_
        refine vnt ?_
        refine vc_ret ?_
        refine fin_i [] rfl (fz ?_) trivial
        simp_all [ethOkB]
    · iterate 3 refine vof ?_
      iterate 2 refine vo ?_
      iterate 3 refine vof ?_
      iterate 2 refine vo ?_
      iterate 3 refine vof ?_
      iterate 2 refine vo ?_
      iterate 4 refine vof ?_
      iterate 2 refine vo ?_
      refine vnt ?_
      refine vc_ret ?_
      refine fin_i [] rfl (fz ?_) trivial
      simp_all [ethOkB]
  · iterate 3 refine vof ?_
    iterate 2 refine vo ?_
    iterate 3 refine vof ?_
    iterate 2 refine vo ?_
    iterate 3 refine vof ?_
    iterate 2 refine vo ?_
    iterate 3 refine vof ?_
    iterate 2 refine vo ?_
    iterate 4 refine vof ?_
    iterate 2 refine vo ?_
    refine vnt ?_
    refine vc_ret ?_
    refine fin_i [] rfl (fz ?_) trivial
    simp_all [ethOkB]
set_option maxHeartbeats 4000000 in
theorem c_impl_BuildEth {dst src vl ty : Int} {body : ByteArray} (hs_body : body.size ≤ 1099511627776 := by first | assumption | omega | (simp only [ByteArray.size_append, ByteArray.size_extract, strOfNums_size, List.length_cons, List.length_nil]; omega)) : Con0 Tryz.prog 106 [.agg [V dst, V src, V vl, V ty, VS body]] (.tup [Z (ethR dst src vl ty body), B (ethOkB dst src vl ty body.size)]) [] := by
  refine con_i Tryz.func106 Tryz.ntmps106 (t := [(0, .agg [V dst, V src, V vl, V ty, VS body])]) rfl ?_
  refine vc_sr ?_
  iterate 3 refine vo ?_
  refine vnt ?_
  refine vc_seq' ?_
  refine vc_sr ?_
  refine vo ?_
  refine voc c_impl_EthOk rfl rfl ?_
  refine vo ?_
  refine vnt ?_
  refine vc_if (fun g1 => ?_) (fun g1 => ?_)
  · refine vc_sr ?_
    iterate 2 refine vo ?_
    refine vnt ?_
    refine vc_ret ?_
    refine thn_r ?_
    refine fin_i [] rfl (fz ?_) trivial
    first | (simp [ethR, g1]; done) | (simp [ethR, g1, ethF, g2, ByteArray.append_assoc]; done) | (simp [ethR, g1, ethF, ByteArray.append_assoc]; omega)
  · refine vc_skip ?_
    refine thn ?_
    refine vc_sr ?_
    iterate 2 refine vo ?_
    refine voc c_impl_macBytes rfl rfl ?_
    refine vzs (mac_le _) fun z1 => ?_
    iterate 2 refine vo ?_
    refine voc c_impl_macBytes rfl rfl ?_
    refine vzs (mac_le _) fun z2 => ?_
    iterate 2 refine vo ?_
    refine vnt ?_
    refine vc_seq' ?_
    refine vc_sr ?_
    iterate 3 refine vo ?_
    refine vnt ?_
    refine vc_if (fun g2 => ?_) (fun g2 => ?_)
    · refine vc_region ?_
      refine vo ?_
      refine voc c_impl_Word16 rfl rfl ?_
      refine vzs (word16_le _) fun z3 => ?_
      iterate 2 refine vo ?_
      refine voc c_impl_Word16 rfl rfl ?_
      refine vzs (word16_le _) fun z4 => ?_
      iterate 3 refine vo ?_
      refine vnt ?_
      refine vc_sr ?_
      iterate 3 refine vo ?_
      refine voc c_impl_Word16 rfl rfl ?_
      refine vzs (word16_le _) fun z5 => ?_
      iterate 6 refine vo ?_
      refine vnt ?_
      refine vc_ret ?_
      refine fin_i [] rfl (fz ?_) trivial
      first | (simp [ethR, g1]; done) | (simp [ethR, g1, ethF, g2, ByteArray.append_assoc]; done) | (simp [ethR, g1, ethF, ByteArray.append_assoc]; omega)
    · refine vc_skip ?_
      refine thn ?_
      refine vc_sr ?_
      iterate 3 refine vo ?_
      refine voc c_impl_Word16 rfl rfl ?_
      refine vzs (word16_le _) fun z6 => ?_
      iterate 6 refine vo ?_
      refine vnt ?_
      refine vc_ret ?_
      refine fin_i [] rfl (fz ?_) trivial
      first | (simp [ethR, g1]; done) | (simp [ethR, g1, ethF, g2, ByteArray.append_assoc]; done) | (simp [ethR, g1, ethF, ByteArray.append_assoc]; omega)
set_option maxHeartbeats 4000000 in
theorem c_impl_IpOk {tos id ttl pr src dst : Int} {body : ByteArray} (hs_body : body.size ≤ 1099511627776 := by first | assumption | omega | (simp only [ByteArray.size_append, ByteArray.size_extract, strOfNums_size, List.length_cons, List.length_nil]; omega)) : Con0 Tryz.prog 141 [.agg [V tos, V id, V ttl, V pr, V src, V dst, VS body]] (B (ipOkB tos id ttl pr src dst body.size)) [] := by
  refine con_i Tryz.func141 Tryz.ntmps141 (t := [(0, .agg [V tos, V id, V ttl, V pr, V src, V dst, VS body])]) rfl ?_
  refine vc_sr ?_
  iterate 2 refine vo ?_
  refine vnt ?_
  refine vc_sr ?_
  iterate 2 refine vo ?_
  refine voc c_impl_between rfl rfl ?_
  refine vo ?_
  refine vsp (fun g1 => ?_) (fun g1 => ?_)
  · iterate 2 refine von ?_
    refine vocn c_impl_between rfl rfl ?_
    iterate 2 refine vo ?_
    refine vsp (fun g2 => ?_) (fun g2 => ?_)
    · iterate 2 refine von ?_
      refine vocn c_impl_between rfl rfl ?_
      iterate 2 refine vo ?_
      refine vsp (fun g3 => ?_) (fun g3 => ?_)
      · iterate 2 refine von ?_
        refine vocn c_impl_between rfl rfl ?_
        iterate 2 refine vo ?_
        refine vsp (fun g4 => ?_) (fun g4 => ?_)
        · iterate 2 refine von ?_
          refine vocn c_impl_between rfl rfl ?_
          iterate 2 refine vo ?_
          refine vsp (fun g5 => ?_) (fun g5 => ?_)
          · iterate 2 refine von ?_
            refine vocn c_impl_between rfl rfl ?_
            iterate 2 refine vo ?_
            refine vsp (fun g6 => ?_) (fun g6 => ?_)
            · iterate 4 refine von ?_
              iterate 2 refine vo ?_
              refine vnt ?_
              refine vc_ret ?_
              refine fin_i [] rfl (fz ?_) trivial
              simp_all [ipOkB]
              try omega
            · iterate 4 refine vof ?_
              iterate 2 refine vo ?_
              refine vnt ?_
              refine vc_ret ?_
              refine fin_i [] rfl (fz ?_) trivial
              simp_all [ipOkB]
              try omega
          · iterate 3 refine vof ?_
            iterate 2 refine vo ?_
            iterate 4 refine vof ?_
            iterate 2 refine vo ?_
            refine vnt ?_
            refine vc_ret ?_
            refine fin_i [] rfl (fz ?_) trivial
            simp_all [ipOkB]
            try omega
        · iterate 3 refine vof ?_
          iterate 2 refine vo ?_
          iterate 3 refine vof ?_
          iterate 2 refine vo ?_
          iterate 4 refine vof ?_
          iterate 2 refine vo ?_
          refine vnt ?_
          refine vc_ret ?_
          refine fin_i [] rfl (fz ?_) trivial
          simp_all [ipOkB]
          try omega
      · iterate 3 refine vof ?_
        iterate 2 refine vo ?_
        iterate 3 refine vof ?_
        iterate 2 refine vo ?_
        iterate 3 refine vof ?_
        iterate 2 refine vo ?_
        iterate 4 refine vof ?_
        iterate 2 refine vo ?_
        refine vnt ?_
        refine vc_ret ?_
        refine fin_i [] rfl (fz ?_) trivial
        simp_all [ipOkB]
        try omega
    · iterate 3 refine vof ?_
      iterate 2 refine vo ?_
      iterate 3 refine vof ?_
      iterate 2 refine vo ?_
      iterate 3 refine vof ?_
      iterate 2 refine vo ?_
      iterate 3 refine vof ?_
      iterate 2 refine vo ?_
      iterate 4 refine vof ?_
      iterate 2 refine vo ?_
      refine vnt ?_
      refine vc_ret ?_
      refine fin_i [] rfl (fz ?_) trivial
      simp_all [ipOkB]
      try omega
  · iterate 3 refine vof ?_
    iterate 2 refine vo ?_
    iterate 3 refine vof ?_
    iterate 2 refine vo ?_
    iterate 3 refine vof ?_
    iterate 2 refine vo ?_
    iterate 3 refine vof ?_
    iterate 2 refine vo ?_
    iterate 3 refine vof ?_
    iterate 2 refine vo ?_
    iterate 4 refine vof ?_
    iterate 2 refine vo ?_
    refine vnt ?_
    refine vc_ret ?_
    refine fin_i [] rfl (fz ?_) trivial
    simp_all [ipOkB]
    try omega
set_option maxHeartbeats 4000000 in
theorem c_impl_IpHeader {tos id ttl pr src dst : Int} {body : ByteArray} (hs_body : body.size ≤ 1099511627776 := by first | assumption | omega | (simp only [ByteArray.size_append, ByteArray.size_extract, strOfNums_size, List.length_cons, List.length_nil]; omega)) : Con0 Tryz.prog 129 [.agg [V tos, V id, V ttl, V pr, V src, V dst, VS body]] (.tup [Z (ipHR tos id ttl pr src dst body.size), B (ipOkB tos id ttl pr src dst body.size)]) [] := by
  refine con_i Tryz.func129 Tryz.ntmps129 (t := [(0, .agg [V tos, V id, V ttl, V pr, V src, V dst, VS body])]) rfl ?_
  refine vc_sr ?_
  iterate 3 refine vo ?_
  refine vnt ?_
  refine vc_seq' ?_
  refine vc_sr ?_
  refine vo ?_
  refine voc c_impl_IpOk rfl rfl ?_
  refine vo ?_
  refine vnt ?_
  refine vc_if (fun g1 => ?_) (fun g1 => ?_)
  · refine vc_sr ?_
    iterate 2 refine vo ?_
    refine vnt ?_
    refine vc_ret ?_
    refine thn_r ?_
    refine fin_i [] rfl (fz ?_) trivial
    first | (simp [ipHR, g1]; done) | (have hw := ipOk_w g1; simp [ipHR, g1, ipHF, ipH0, hw])
  · refine vc_skip ?_
    refine thn ?_
    refine vc_sr ?_
    iterate 5 refine vo ?_
    refine vs2 ?_
    iterate 4 refine vo ?_
    try refine vwr ?_
    refine voc c_impl_Word16 rfl rfl ?_
    refine vzs (word16_le _) fun z1 => ?_
    iterate 3 refine vo ?_
    refine voc c_impl_Word16 rfl rfl ?_
    refine vzs (word16_le _) fun z2 => ?_
    refine vo ?_
    refine voc c_impl_Word16 rfl rfl ?_
    refine vzs (word16_le _) fun z3 => ?_
    iterate 9 refine vo ?_
    refine vs2 ?_
    refine vo ?_
    refine voc c_impl_Word16 rfl rfl ?_
    refine vzs (word16_le _) fun z4 => ?_
    iterate 3 refine vo ?_
    refine voc c_impl_Word32 rfl rfl ?_
    refine vzs (word32_le _) fun z5 => ?_
    iterate 3 refine vo ?_
    refine voc c_impl_Word32 rfl rfl ?_
    refine vzs (word32_le _) fun z6 => ?_
    iterate 2 refine vo ?_
    refine vnt ?_
    refine vc_sr ?_
    iterate 2 refine vo ?_
    refine voc c_impl_Checksum rfl rfl ?_
    refine voc c_impl_Word16 rfl rfl ?_
    refine vzs (word16_le _) fun z7 => ?_
    refine voc c_impl_PutBytes rfl rfl ?_
    refine vzs (Nat.le_of_eq (putBF_le _ _ _)) fun z8 => ?_
    iterate 2 refine vo ?_
    refine vnt ?_
    refine vc_ret ?_
    refine fin_i [] rfl (fz ?_) trivial
    first | (simp [ipHR, g1]; done) | (have hw := ipOk_w g1; simp [ipHR, g1, ipHF, ipH0, hw])
def bareF (kind sp dp seq ack fl win : Int) (body : ByteArray) : ByteArray := if kind = 6 then word16 sp ++ word16 dp ++ word32 seq ++ word32 ack ++ strOfNums [80, fl] ++ word16 win ++ word16 0 ++ word16 0 ++ body else word16 sp ++ word16 dp ++ word16 (8 + body.size) ++ word16 0 ++ body
theorem ipH_le (tos id ttl pr src dst : Int) (n : Nat) : (ipHF tos id ttl pr src dst n).size ≤ 24 := by
  have h1 := word16_le (20 + n); have h2 := word16_le id; have h3 := word16_le 16384; have h4 := word16_le 0; have h5 := word32_le src; have h6 := word32_le dst
  unfold ipHF
  rw [putBF_le, ipH0]
  simp only [ByteArray.size_append, strOfNums_size, List.length_cons, List.length_nil]
  omega
theorem bare_le (kind sp dp seq ack fl win : Int) (body : ByteArray) : (bareF kind sp dp seq ack fl win body).size ≤ body.size + 20 := by
  have h1 := word16_le sp; have h2 := word16_le dp; have h3 := word32_le seq; have h4 := word32_le ack; have h5 := word16_le win; have h6 := word16_le 0; have h7 := word16_le (8 + body.size)
  unfold bareF
  split <;> simp only [ByteArray.size_append, strOfNums_size, List.length_cons, List.length_nil] <;> omega
def sumPl (kind : Int) : Int := if kind = 6 then 16 else 6
def segF (src dst kind sp dp seq ack fl win : Int) (body : ByteArray) : ByteArray := putBF (bareF kind sp dp seq ack fl win body) (sumPl kind) (word16 (if kind = 17 ∧ checkF (psF src dst kind (bareF kind sp dp seq ack fl win body).size ++ bareF kind sp dp seq ack fl win body) = 0 then 65535 else checkF (psF src dst kind (bareF kind sp dp seq ack fl win body).size ++ bareF kind sp dp seq ack fl win body)))
set_option maxHeartbeats 4000000 in
theorem c_impl_BuildIp {tos id ttl pr src dst : Int} {body : ByteArray} (hs_body : body.size ≤ 1099511627776 := by first | assumption | omega | (simp only [ByteArray.size_append, ByteArray.size_extract, strOfNums_size, List.length_cons, List.length_nil]; omega)) : Con0 Tryz.prog 105 [.agg [V tos, V id, V ttl, V pr, V src, V dst, VS body]] (.tup [Z (ipR tos id ttl pr src dst body), B (ipOkB tos id ttl pr src dst body.size)]) [] := by
  refine con_i Tryz.func105 Tryz.ntmps105 (t := [(0, .agg [V tos, V id, V ttl, V pr, V src, V dst, VS body])]) rfl ?_
  refine vc_sr ?_
  iterate 3 refine vo ?_
  refine vnt ?_
  refine vc_sr ?_
  refine vo ?_
  refine voc c_impl_IpHeader rfl rfl ?_
  iterate 5 refine vo ?_
  refine vnt ?_
  refine vc_seq' ?_
  refine vc_sr ?_
  iterate 2 refine vo ?_
  refine vnt ?_
  refine vc_if (fun g1 => ?_) (fun g1 => ?_)
  · refine vc_sr ?_
    iterate 2 refine vo ?_
    refine vnt ?_
    refine vc_ret ?_
    refine thn_r ?_
    refine fin_i [] rfl (fz ?_) trivial
    simp [ipR, g1]
  · rw [ipHR_ok g1]
    have z := ipH_le tos id ttl pr src dst body.size
    refine vc_skip ?_
    refine thn ?_
    refine vc_sr ?_
    iterate 6 refine vo ?_
    refine vnt ?_
    refine vc_ret ?_
    refine fin_i [] rfl (fz ?_) trivial
    simp [ipR, g1]
set_option maxHeartbeats 4000000 in
theorem c_impl_sumPlace {kind : Int} : Con0 Tryz.prog 128 [I kind] (I (sumPl kind)) [] := by
  refine con_i Tryz.func128 Tryz.ntmps128 (t := [(0, I kind)]) rfl ?_
  refine vc_sr ?_
  refine vo ?_
  refine vnt ?_
  refine vc_seq' ?_
  refine vc_sr ?_
  iterate 2 refine vo ?_
  refine vnt ?_
  refine vc_if (fun g1 => ?_) (fun g1 => ?_)
  · refine vc_sr ?_
    refine vo ?_
    refine vnt ?_
    refine vc_ret ?_
    refine thn_r ?_
    refine fin_i [] rfl (fz ?_) trivial
    simp [sumPl, g1]
  · refine vc_skip ?_
    refine thn ?_
    refine vc_sr ?_
    refine vo ?_
    refine vnt ?_
    refine vc_ret ?_
    refine fin_i [] rfl (fz ?_) trivial
    simp [sumPl, g1]
set_option maxHeartbeats 4000000 in
theorem c_impl_bareSegment {kind sp dp seq ack fl win : Int} {body : ByteArray} (hs_body : body.size ≤ 1099511627776 := by first | assumption | omega | (simp only [ByteArray.size_append, ByteArray.size_extract, strOfNums_size, List.length_cons, List.length_nil]; omega)) (hf : kind = 6 → 0 ≤ fl ∧ fl ≤ 255 := by assumption) : Con0 Tryz.prog 124 [.agg [V kind, V sp, V dp, V seq, V ack, V fl, V win, VS body]] (Z (bareF kind sp dp seq ack fl win body)) [] := by
  refine con_i Tryz.func124 Tryz.ntmps124 (t := [(0, .agg [V kind, V sp, V dp, V seq, V ack, V fl, V win, VS body])]) rfl ?_
  refine vc_sr ?_
  iterate 2 refine vo ?_
  refine vnt ?_
  refine vc_sr ?_
  iterate 2 refine vo ?_
  refine voc c_impl_Word16 rfl rfl ?_
  refine vzs (word16_le _) fun z1 => ?_
  iterate 2 refine vo ?_
  refine voc c_impl_Word16 rfl rfl ?_
  refine vzs (word16_le _) fun z2 => ?_
  iterate 2 refine vo ?_
  refine vnt ?_
  refine vc_seq' ?_
  refine vc_sr ?_
  iterate 3 refine vo ?_
  refine vnt ?_
  refine vc_if (fun g1 => ?_) (fun g1 => ?_)
  · refine vc_sr ?_
    iterate 3 refine vo ?_
    refine voc c_impl_Word32 rfl rfl ?_
    refine vzs (word32_le _) fun z3 => ?_
    iterate 3 refine vo ?_
    refine voc c_impl_Word32 rfl rfl ?_
    refine vzs (word32_le _) fun z4 => ?_
    iterate 6 refine vo ?_
    refine vs2 ?_
    iterate 3 refine vo ?_
    refine voc c_impl_Word16 rfl rfl ?_
    refine vzs (word16_le _) fun z5 => ?_
    refine vo ?_
    refine voc c_impl_Word16 rfl rfl ?_
    refine vzs (word16_le _) fun z6 => ?_
    refine vo ?_
    refine voc c_impl_Word16 rfl rfl ?_
    refine vzs (word16_le _) fun z7 => ?_
    iterate 5 refine vo ?_
    refine vnt ?_
    refine vc_ret ?_
    refine thn_r ?_
    refine fin_i [] rfl (fz ?_) trivial
    first | (have := hf g1; have hw := u8w this.1 this.2; simp [bareF, g1, hw]; done) | (simp [bareF, g1]; done) | trace_state
  · refine vc_skip ?_
    refine thn ?_
    refine vc_sr ?_
    iterate 5 refine vo ?_
    try refine vwr ?_
    refine voc c_impl_Word16 rfl rfl ?_
    refine vzs (word16_le _) fun z8 => ?_
    refine vo ?_
    refine voc c_impl_Word16 rfl rfl ?_
    refine vzs (word16_le _) fun z9 => ?_
    iterate 5 refine vo ?_
    refine vnt ?_
    refine vc_ret ?_
    refine fin_i [] rfl (fz ?_) trivial
    first | (have := hf g1; have hw := u8w this.1 this.2; simp [bareF, g1, hw]; done) | (simp [bareF, g1]; done) | trace_state
theorem segOk_kind {kind sp dp seq ack fl win : Int} {n : Nat} (h : segOkB kind sp dp seq ack fl win n = true) : (kind = 6 ∨ kind = 17) ∧ n ≤ 320 ∧ 0 ≤ fl ∧ fl ≤ 31 := by
  have := segOk_fl h
  simp only [segOkB, Bool.and_eq_true, Bool.or_eq_true, inB_iff, beq_iff_eq] at h
  simp at h
  omega
def segC (src dst kind sp dp seq ack fl win : Int) (body : ByteArray) : Bool := segOkB kind sp dp seq ack fl win body.size && psOkB src dst kind (bareF kind sp dp seq ack fl win body).size
def segR (src dst kind sp dp seq ack fl win : Int) (body : ByteArray) : ByteArray := if segC src dst kind sp dp seq ack fl win body then segF src dst kind sp dp seq ack fl win body else ⟨#[]⟩
theorem seg_n1 {src dst kind sp dp seq ack fl win : Int} {body : ByteArray} (h : segOkB kind sp dp seq ack fl win body.size = false) : segR src dst kind sp dp seq ack fl win body = ⟨#[]⟩ ∧ segC src dst kind sp dp seq ack fl win body = false := by
  have : segC src dst kind sp dp seq ack fl win body = false := by unfold segC; rw [h]; rfl
  exact ⟨if_neg (by rw [this]; exact Bool.false_ne_true), this⟩
theorem seg_n2 {src dst kind sp dp seq ack fl win : Int} {body : ByteArray} (h : psOkB src dst kind (bareF kind sp dp seq ack fl win body).size = false) : segR src dst kind sp dp seq ack fl win body = ⟨#[]⟩ ∧ segC src dst kind sp dp seq ack fl win body = false := by
  have : segC src dst kind sp dp seq ack fl win body = false := by unfold segC; rw [h, Bool.and_false]
  exact ⟨if_neg (by rw [this]; exact Bool.false_ne_true), this⟩
theorem seg_y0 {src dst kind sp dp seq ack fl win p : Int} {body : ByteArray} (h1 : segOkB kind sp dp seq ack fl win body.size = true) (h2 : psOkB src dst kind (bareF kind sp dp seq ack fl win body).size = true) (hp : sumPl kind = p) (h3 : kind = 17) (h4 : checkF (psF src dst kind (bareF kind sp dp seq ack fl win body).size ++ bareF kind sp dp seq ack fl win body) = 0) : segR src dst kind sp dp seq ack fl win body = putBF (bareF kind sp dp seq ack fl win body) p (word16 65535) ∧ segC src dst kind sp dp seq ack fl win body = true := by
  have : segC src dst kind sp dp seq ack fl win body = true := by unfold segC; rw [h1, h2]; rfl
  refine ⟨?_, this⟩
  unfold segR
  rw [if_pos this, segF, if_pos ⟨h3, h4⟩, hp]
theorem seg_y1 {src dst kind sp dp seq ack fl win p : Int} {body : ByteArray} (h1 : segOkB kind sp dp seq ack fl win body.size = true) (h2 : psOkB src dst kind (bareF kind sp dp seq ack fl win body).size = true) (hp : sumPl kind = p) (h3 : ¬ (kind = 17 ∧ checkF (psF src dst kind (bareF kind sp dp seq ack fl win body).size ++ bareF kind sp dp seq ack fl win body) = 0)) : segR src dst kind sp dp seq ack fl win body = putBF (bareF kind sp dp seq ack fl win body) p (word16 (checkF (psF src dst kind (bareF kind sp dp seq ack fl win body).size ++ bareF kind sp dp seq ack fl win body))) ∧ segC src dst kind sp dp seq ack fl win body = true := by
  have : segC src dst kind sp dp seq ack fl win body = true := by unfold segC; rw [h1, h2]; rfl
  refine ⟨?_, this⟩
  unfold segR
  rw [if_pos this, segF, if_neg h3, hp]
set_option maxHeartbeats 4000000 in
theorem c_impl_BuildSegment {src dst : Int} {kind sp dp seq ack fl win : Int} {body : ByteArray} (hs_body : body.size ≤ 1099511627776 := by first | assumption | omega | (simp only [ByteArray.size_append, ByteArray.size_extract, strOfNums_size, List.length_cons, List.length_nil]; omega)) : Con0 Tryz.prog 104 [I src, I dst, .agg [V kind, V sp, V dp, V seq, V ack, V fl, V win, VS body]] (.tup [Z (segR src dst kind sp dp seq ack fl win body), B (segC src dst kind sp dp seq ack fl win body)]) [] := by
  refine con_i Tryz.func104 Tryz.ntmps104 (t := [(0, I src), (1, I dst), (2, .agg [V kind, V sp, V dp, V seq, V ack, V fl, V win, VS body])]) rfl ?_
  refine vc_sr ?_
  iterate 3 refine vo ?_
  refine vnt ?_
  refine vc_seq' ?_
  refine vc_sr ?_
  refine vo ?_
  refine voc c_impl_SegmentOk rfl rfl ?_
  refine vo ?_
  refine vnt ?_
  refine vc_if (fun g1 => ?_) (fun g1 => ?_)
  · refine vc_sr ?_
    iterate 2 refine vo ?_
    refine vnt ?_
    refine vc_ret ?_
    refine thn_r ?_
    refine fin_i [] rfl (fz ?_) trivial
    exact seg_n1 g1
  · have hk := segOk_kind g1
    have hf : kind = 6 → 0 ≤ fl ∧ fl ≤ 255 := fun _ => ⟨hk.2.2.1, by omega⟩
    have zb := bare_le kind sp dp seq ack fl win body
    refine vc_skip ?_
    refine thn ?_
    refine vc_sr ?_
    refine vo ?_
    refine voc c_impl_bareSegment rfl rfl ?_
    refine vo ?_
    refine vnt ?_
    refine vc_sr ?_
    iterate 6 refine vo ?_
    refine voc c_impl_PseudoHeader rfl rfl ?_
    iterate 5 refine vo ?_
    refine vnt ?_
    refine vc_seq' ?_
    refine vc_sr ?_
    iterate 2 refine vo ?_
    refine vnt ?_
    refine vc_if (fun g2 => ?_) (fun g2 => ?_)
    · refine vc_sr ?_
      iterate 2 refine vo ?_
      refine vnt ?_
      refine vc_ret ?_
      refine thn_r ?_
      refine fin_i [] rfl (fz ?_) trivial
      exact seg_n2 g2
    · rw [psR_ok g2]
      have zp := psF_le src dst kind (bareF kind sp dp seq ack fl win body).size
      have hc := sumF_bd (psF src dst kind (bareF kind sp dp seq ack fl win body).size ++ bareF kind sp dp seq ack fl win body)
      refine vc_skip ?_
      refine thn ?_
      refine vc_sr ?_
      iterate 3 refine vo ?_
      refine voc c_impl_Checksum rfl rfl ?_
      refine vo ?_
      refine vnt ?_
      refine vc_seq' ?_
      refine vc_sr ?_
      iterate 4 refine vo ?_
      refine vsp (fun g3 => ?_) (fun g3 => ?_)
      · iterate 2 refine von ?_
        refine vo ?_
        refine vnt ?_
        refine vc_if (fun g4 => ?_) (fun g4 => ?_)
        · refine vc_region ?_
          refine vo ?_
          refine vnt ?_
          refine vc_sr ?_
          iterate 3 refine vo ?_
          refine voc c_impl_sumPlace rfl rfl ?_
          refine vo ?_
          refine voc c_impl_Word16 rfl rfl ?_
          refine vzs (word16_le _) fun z1 => ?_
          refine voc c_impl_PutBytes rfl rfl ?_
          refine vzs (Nat.le_of_eq (putBF_le _ _ _)) fun z2 => ?_
          iterate 2 refine vo ?_
          refine vnt ?_
          refine vc_ret ?_
          refine fin_i [] rfl (fz ?_) trivial
          exact seg_y0 g1 g2 rfl g3 g4
        · refine vc_skip ?_
          refine thn ?_
          refine vc_sr ?_
          iterate 3 refine vo ?_
          refine voc c_impl_sumPlace rfl rfl ?_
          refine vo ?_
          refine voc c_impl_Word16 rfl rfl ?_
          refine vzs (word16_le _) fun z3 => ?_
          refine voc c_impl_PutBytes rfl rfl ?_
          refine vzs (Nat.le_of_eq (putBF_le _ _ _)) fun z4 => ?_
          iterate 2 refine vo ?_
          refine vnt ?_
          refine vc_ret ?_
          refine fin_i [] rfl (fz ?_) trivial
          exact seg_y1 g1 g2 rfl fun h => g4 h.2
      · iterate 2 refine vof ?_
        refine vo ?_
        refine vnt ?_
        refine vc_else ?_
        refine vc_skip ?_
        refine thn ?_
        refine vc_sr ?_
        iterate 3 refine vo ?_
        refine voc c_impl_sumPlace rfl rfl ?_
        refine vo ?_
        refine voc c_impl_Word16 rfl rfl ?_
        refine vzs (word16_le _) fun z5 => ?_
        refine voc c_impl_PutBytes rfl rfl ?_
        refine vzs (Nat.le_of_eq (putBF_le _ _ _)) fun z6 => ?_
        iterate 2 refine vo ?_
        refine vnt ?_
        refine vc_ret ?_
        refine fin_i [] rfl (fz ?_) trivial
        exact seg_y1 g1 g2 rfl fun h => g3 h.1
end Go.Proofs.YtfcmcedeapgdcaaGreat
end
section
namespace Go.Proofs.YtfcmcedeapgdcaaGreat
open Go Go.RowKit Go.Vc
set_option linter.unusedVariables false
set_option linter.unusedSimpArgs false
set_option linter.unnecessarySimpa false
def supC (dm sm vl tos id ttl si di kind sp dp seq ack fl win : Int) (body : ByteArray) : Bool := superOkB dm sm vl tos id ttl si di kind sp dp seq ack fl win body.size && ethOkB dm sm vl 2048 (padF (ipR tos id ttl kind si di (segR si di kind sp dp seq ack fl win body))).size
def imgR (dm sm vl tos id ttl si di kind sp dp seq ack fl win : Int) (body : ByteArray) : ByteArray := if superOkB dm sm vl tos id ttl si di kind sp dp seq ack fl win body.size then ethR dm sm vl 2048 (padF (ipR tos id ttl kind si di (segR si di kind sp dp seq ack fl win body))) else ⟨#[]⟩
theorem segR_le (src dst kind sp dp seq ack fl win : Int) (body : ByteArray) : (segR src dst kind sp dp seq ack fl win body).size ≤ body.size + 20 := by
  unfold segR
  split
  · unfold segF; rw [putBF_le]; exact bare_le ..
  · exact Nat.zero_le _
theorem ipR_le (tos id ttl pr src dst : Int) (body : ByteArray) : (ipR tos id ttl pr src dst body).size ≤ body.size + 24 := by
  have := ipH_le tos id ttl pr src dst body.size
  unfold ipR
  split
  · simp only [ByteArray.size_append]; omega
  · exact Nat.zero_le _
theorem padF_le (s : ByteArray) : (padF s).size = max 46 s.size := by
  have := rep_le 0 (46 - s.size)
  unfold padF
  split
  · simp only [ByteArray.size_append, repF, strOfNums_size, List.length_replicate]; omega
  · omega
theorem superOk_facts {dm sm vl tos id ttl si di kind sp dp seq ack fl win : Int} {n : Nat} (h : superOkB dm sm vl tos id ttl si di kind sp dp seq ack fl win n = true) : inB dm 0 281474976710655 = true ∧ inB sm 0 281474976710655 = true ∧ inB vl (-1) 4095 = true ∧ inB tos 0 255 = true ∧ inB ttl 0 255 = true ∧ inB id 0 65535 = true ∧ inB si 0 4294967295 = true ∧ inB di 0 4294967295 = true ∧ segOkB kind sp dp seq ack fl win n = true ∧ n ≤ 320 := by
  simp only [superOkB, Bool.and_eq_true] at h
  obtain ⟨h1, h2, h3, h4, h5, h6, h7, h8, h9, h10⟩ := h
  exact ⟨h1, h2, h3, h4, h5, h6, h7, h8, h9, (segOk_kind h9).2.1⟩
theorem sup_img {dm sm vl tos id ttl si di kind sp dp seq ack fl win : Int} {body : ByteArray} (h : superOkB dm sm vl tos id ttl si di kind sp dp seq ack fl win body.size = true) : supC dm sm vl tos id ttl si di kind sp dp seq ack fl win body = true ∧ (imgR dm sm vl tos id ttl si di kind sp dp seq ack fl win body).size ≤ 1000 := by
  obtain ⟨h1, h2, h3, h4, h5, h6, h7, h8, h9, h10⟩ := superOk_facts h
  have a1 := segR_le si di kind sp dp seq ack fl win body
  have a2 := ipR_le tos id ttl kind si di (segR si di kind sp dp seq ack fl win body)
  have a3 := padF_le (ipR tos id ttl kind si di (segR si di kind sp dp seq ack fl win body))
  have e : ethOkB dm sm vl 2048 (padF (ipR tos id ttl kind si di (segR si di kind sp dp seq ack fl win body))).size = true := by
    unfold ethOkB
    rw [h1, h2, h3]
    have : inB ((padF (ipR tos id ttl kind si di (segR si di kind sp dp seq ack fl win body))).size : Int) 46 400 = true := inB_iff.2 (by omega)
    rw [this]; rfl
  refine ⟨by unfold supC; rw [h, e]; rfl, ?_⟩
  unfold imgR
  rw [if_pos h, ethR, if_pos e, ethF]
  have b1 := mac_le dm; have b2 := mac_le sm; have b3 := word16_le 33024; have b4 := word16_le vl; have b5 := word16_le 2048
  split <;> simp only [ByteArray.size_append] <;> omega
set_option maxHeartbeats 4000000 in
theorem c_impl_BuildImage {dm sm vl tos id ttl si di kind sp dp seq ack fl win : Int} {body : ByteArray} : Con0 Tryz.prog 76 [.agg [V dm, V sm, V vl, V tos, V id, V ttl, V si, V di, V kind, V sp, V dp, V seq, V ack, V fl, V win, VS body]] (.tup [Z (imgR dm sm vl tos id ttl si di kind sp dp seq ack fl win body), B (supC dm sm vl tos id ttl si di kind sp dp seq ack fl win body)]) [] := by
  refine con_i Tryz.func76 Tryz.ntmps76 (t := [(0, .agg [V dm, V sm, V vl, V tos, V id, V ttl, V si, V di, V kind, V sp, V dp, V seq, V ack, V fl, V win, VS body])]) rfl ?_
  refine vc_sr ?_
  iterate 3 refine vo ?_
  refine vnt ?_
  refine vc_seq' ?_
  refine vc_sr ?_
  refine vo ?_
  refine voc c_impl_SuperOk rfl rfl ?_
  refine vo ?_
  refine vnt ?_
  refine vc_if (fun g1 => ?_) (fun g1 => ?_)
  · refine vc_sr ?_
    iterate 2 refine vo ?_
    refine vnt ?_
    refine vc_ret ?_
    refine thn_r ?_
    refine fin_i [] rfl (fz ?_) trivial
    simp [imgR, supC, g1]
  · have hb := (superOk_facts g1).2.2.2.2.2.2.2.2.2
    have a1 := segR_le si di kind sp dp seq ack fl win body
    have a2 := ipR_le tos id ttl kind si di (segR si di kind sp dp seq ack fl win body)
    have a3 := padF_le (ipR tos id ttl kind si di (segR si di kind sp dp seq ack fl win body))
    refine vc_skip ?_
    refine thn ?_
    refine vc_sr ?_
    iterate 6 refine vo ?_
    refine voc c_impl_BuildSegment rfl rfl ?_
    iterate 5 refine vo ?_
    refine vnt ?_
    refine vc_sr ?_
    iterate 15 refine vo ?_
    refine voc c_impl_BuildIp rfl rfl ?_
    iterate 5 refine vo ?_
    refine vnt ?_
    refine vc_sr ?_
    iterate 7 refine vo ?_
    refine voc c_impl_PadBody rfl rfl ?_
    refine vo ?_
    refine voc c_impl_BuildEth rfl rfl ?_
    iterate 4 refine vo ?_
    refine vnt ?_
    refine vc_ret ?_
    refine fin_i [] rfl (fz ?_) trivial
    simp [imgR, supC, g1]
end Go.Proofs.YtfcmcedeapgdcaaGreat
end
section
namespace Go.Proofs.YtfcmcedeapgdcaaGreat
open Go Go.RowKit Go.Vc
set_option linter.unusedVariables false
set_option linter.unusedSimpArgs false
set_option linter.unnecessarySimpa false
theorem enc_u8 {op fl ln at_ sz ck : Int} (h : descB op fl ln at_ sz ck = true) : IntKind.u8.wrap op = op ∧ IntKind.u8.wrap fl = fl := by
  have := descB_iff.1 h
  exact ⟨u8w (by omega) (by omega), u8w (by omega) (by omega)⟩
def encCF (x1 x2 x3 x4 x5 p : Int) : ByteArray := if completionOkB x1 x2 x3 x4 x5 && inB p 0 1 then encC x1 x2 x3 x4 x5 p else ⟨#[]⟩
theorem ring_and {h t s : Int} (hs : sizeB s = true) : andI (t - h) (2 * s - 1) = usedF s h t := by
  have := sizeB_cases hs
  rw [andI_eq, usedF]
  rcases this with rfl | rfl | rfl | rfl
  · exact and_mask_i64 (t - h) 2 (by decide)
  · exact and_mask_i64 (t - h) 3 (by decide)
  · exact and_mask_i64 (t - h) 4 (by decide)
  · exact and_mask_i64 (t - h) 5 (by decide)
theorem and_wr (x m : Int) : andI (wr x) m = andI x m := by
  have e : BitVec.ofInt 64 (wr x) = BitVec.ofInt 64 x := by
    apply BitVec.eq_of_toNat_eq
    rw [BitVec.toNat_ofInt, BitVec.toNat_ofInt, wr_eq]
    unfold wrap64
    omega
  unfold andI Vc.bits
  rw [e]
theorem phase_eq {b s c : Int} (h : queueOkB b s c = true) : wr (1 - wr (c.tdiv s)) = phaseC s c := by
  obtain ⟨h1, h2, h3, h4, h5⟩ := queueOk_facts h
  have e : c.tdiv s = if c < s then 0 else 1 := by
    rw [Int.tdiv_eq_ediv_of_nonneg h4]
    rcases h3 with rfl | rfl | rfl | rfl <;> split <;> omega
  rw [e, phaseC]
  split <;> decide
theorem slot_q {b s c : Int} (h : queueOkB b s c = true) : c.tmod s = c % s ∧ 0 ≤ c % s ∧ c % s ≤ 15 ∧ ¬ s = 0 ∧ 0 ≤ b ∧ b ≤ 130944 := by
  obtain ⟨h1, h2, h3, h4, h5⟩ := queueOk_facts h
  have q1 := Int.emod_nonneg c (show s ≠ 0 by omega)
  have q2 := Int.emod_lt_of_pos c (show 0 < s by omega)
  exact ⟨Int.tmod_eq_emod_of_nonneg h4, q1, by omega, by omega, h1, h2⟩
theorem slot_bd {b s k : Int} (hs : sizeB s = true) (hb : 0 ≤ b ∧ b ≤ 130944) (hk : 0 ≤ k) : k.tmod s = k % s ∧ 0 ≤ k % s ∧ k % s ≤ 15 ∧ ¬ s = 0 := by
  have h := sizeB_cases hs
  have q1 := Int.emod_nonneg k (show s ≠ 0 by omega)
  have q2 := Int.emod_lt_of_pos k (show 0 < s by omega)
  exact ⟨Int.tmod_eq_emod_of_nonneg hk, q1, by omega, by omega⟩
set_option maxHeartbeats 4000000 in
theorem c_impl_DescOk {op fl ln at_ sz ck : Int} : Con0 Tryz.prog 118 [.agg [V op, V fl, V ln, V at_, V sz, V ck]] (B (descB op fl ln at_ sz ck)) [] := by
  refine con_i Tryz.func118 Tryz.ntmps118 (t := [(0, .agg [V op, V fl, V ln, V at_, V sz, V ck])]) rfl ?_
  refine vc_sr ?_
  iterate 2 refine vo ?_
  refine vnt ?_
  refine vc_sr ?_
  iterate 2 refine vo ?_
  refine voc c_impl_between rfl rfl ?_
  refine vo ?_
  refine vsp (fun g1 => ?_) (fun g1 => ?_)
  · iterate 2 refine von ?_
    refine vocn c_impl_between rfl rfl ?_
    iterate 2 refine vo ?_
    refine vsp (fun g2 => ?_) (fun g2 => ?_)
    · iterate 2 refine von ?_
      refine vocn c_impl_between rfl rfl ?_
      iterate 2 refine vo ?_
      refine vsp (fun g3 => ?_) (fun g3 => ?_)
      · iterate 2 refine von ?_
        refine vocn c_impl_between rfl rfl ?_
        iterate 2 refine vo ?_
        refine vsp (fun g4 => ?_) (fun g4 => ?_)
        · iterate 2 refine von ?_
          refine vocn c_impl_between rfl rfl ?_
          iterate 2 refine vo ?_
          refine vsp (fun g5 => ?_) (fun g5 => ?_)
          · iterate 2 refine von ?_
            refine vocn c_impl_between rfl rfl ?_
            iterate 2 refine vo ?_
            refine vnt ?_
            refine vc_ret ?_
            refine fin_i [] rfl (fz ?_) trivial
            simp_all [descB]
          · iterate 3 refine vof ?_
            iterate 2 refine vo ?_
            refine vnt ?_
            refine vc_ret ?_
            refine fin_i [] rfl (fz ?_) trivial
            simp_all [descB]
        · iterate 3 refine vof ?_
          iterate 2 refine vo ?_
          iterate 3 refine vof ?_
          iterate 2 refine vo ?_
          refine vnt ?_
          refine vc_ret ?_
          refine fin_i [] rfl (fz ?_) trivial
          simp_all [descB]
      · iterate 3 refine vof ?_
        iterate 2 refine vo ?_
        iterate 3 refine vof ?_
        iterate 2 refine vo ?_
        iterate 3 refine vof ?_
        iterate 2 refine vo ?_
        refine vnt ?_
        refine vc_ret ?_
        refine fin_i [] rfl (fz ?_) trivial
        simp_all [descB]
    · iterate 3 refine vof ?_
      iterate 2 refine vo ?_
      iterate 3 refine vof ?_
      iterate 2 refine vo ?_
      iterate 3 refine vof ?_
      iterate 2 refine vo ?_
      iterate 3 refine vof ?_
      iterate 2 refine vo ?_
      refine vnt ?_
      refine vc_ret ?_
      refine fin_i [] rfl (fz ?_) trivial
      simp_all [descB]
  · iterate 3 refine vof ?_
    iterate 2 refine vo ?_
    iterate 3 refine vof ?_
    iterate 2 refine vo ?_
    iterate 3 refine vof ?_
    iterate 2 refine vo ?_
    iterate 3 refine vof ?_
    iterate 2 refine vo ?_
    iterate 3 refine vof ?_
    iterate 2 refine vo ?_
    refine vnt ?_
    refine vc_ret ?_
    refine fin_i [] rfl (fz ?_) trivial
    simp_all [descB]
set_option maxHeartbeats 4000000 in
theorem c_impl_EncodeDesc {op fl ln at_ sz ck : Int} : Con0 Tryz.prog 92 [.agg [V op, V fl, V ln, V at_, V sz, V ck]] (Z (encDF op fl ln at_ sz ck)) [] := by
  refine con_i Tryz.func92 Tryz.ntmps92 (t := [(0, .agg [V op, V fl, V ln, V at_, V sz, V ck])]) rfl ?_
  refine vc_sr ?_
  iterate 2 refine vo ?_
  refine vnt ?_
  refine vc_seq' ?_
  refine vc_sr ?_
  refine vo ?_
  refine voc c_impl_DescOk rfl rfl ?_
  refine vo ?_
  refine vnt ?_
  refine vc_if (fun g1 => ?_) (fun g1 => ?_)
  · refine vc_sr ?_
    refine vo ?_
    refine vnt ?_
    refine vc_ret ?_
    refine thn_r ?_
    refine fin_i [] rfl (fz ?_) trivial
    first | (simp [encDF, g1]; done) | (have hw := enc_u8 g1; simp [encDF, g1, encD, hw])
  · refine vc_skip ?_
    refine thn ?_
    refine vc_sr ?_
    iterate 8 refine vo ?_
    refine vs2 ?_
    iterate 2 refine vo ?_
    refine voc c_impl_Word16 rfl rfl ?_
    refine vzs (word16_le _) fun z1 => ?_
    iterate 3 refine vo ?_
    refine voc c_impl_Word32 rfl rfl ?_
    refine vzs (word32_le _) fun z2 => ?_
    iterate 3 refine vo ?_
    refine voc c_impl_Word16 rfl rfl ?_
    refine vzs (word16_le _) fun z3 => ?_
    iterate 3 refine vo ?_
    refine voc c_impl_Word16 rfl rfl ?_
    refine vzs (word16_le _) fun z4 => ?_
    refine vo ?_
    refine voc c_impl_Word32 rfl rfl ?_
    refine vzs (word32_le _) fun z5 => ?_
    iterate 2 refine vo ?_
    refine vnt ?_
    refine vc_ret ?_
    refine fin_i [] rfl (fz ?_) trivial
    first | (simp [encDF, g1]; done) | (have hw := enc_u8 g1; simp [encDF, g1, encD, hw])
set_option maxHeartbeats 4000000 in
theorem c_impl_CompletionOk {x1 x2 x3 x4 x5 : Int} : Con0 Tryz.prog 111 [.agg [V x1, V x2, V x3, V x4, V x5]] (B (completionOkB x1 x2 x3 x4 x5)) [] := by
  refine con_i Tryz.func111 Tryz.ntmps111 (t := [(0, .agg [V x1, V x2, V x3, V x4, V x5])]) rfl ?_
  refine vc_sr ?_
  iterate 2 refine vo ?_
  refine vnt ?_
  refine vc_sr ?_
  iterate 2 refine vo ?_
  refine voc c_impl_between rfl rfl ?_
  refine vo ?_
  refine vsp (fun g1 => ?_) (fun g1 => ?_)
  · iterate 2 refine von ?_
    refine vocn c_impl_between rfl rfl ?_
    iterate 2 refine vo ?_
    refine vsp (fun g2 => ?_) (fun g2 => ?_)
    · iterate 2 refine von ?_
      refine vocn c_impl_between rfl rfl ?_
      iterate 2 refine vo ?_
      refine vsp (fun g3 => ?_) (fun g3 => ?_)
      · iterate 2 refine von ?_
        refine vocn c_impl_between rfl rfl ?_
        iterate 2 refine vo ?_
        refine vsp (fun g4 => ?_) (fun g4 => ?_)
        · iterate 2 refine von ?_
          refine vocn c_impl_between rfl rfl ?_
          iterate 2 refine vo ?_
          refine vnt ?_
          refine vc_ret ?_
          refine fin_i [] rfl (fz ?_) trivial
          simp_all [completionOkB]
        · iterate 3 refine vof ?_
          iterate 2 refine vo ?_
          refine vnt ?_
          refine vc_ret ?_
          refine fin_i [] rfl (fz ?_) trivial
          simp_all [completionOkB]
      · iterate 3 refine vof ?_
        iterate 2 refine vo ?_
        iterate 3 refine vof ?_
        iterate 2 refine vo ?_
        refine vnt ?_
        refine vc_ret ?_
        refine fin_i [] rfl (fz ?_) trivial
        simp_all [completionOkB]
    · iterate 3 refine vof ?_
      iterate 2 refine vo ?_
      iterate 3 refine vof ?_
      iterate 2 refine vo ?_
      iterate 3 refine vof ?_
      iterate 2 refine vo ?_
      refine vnt ?_
      refine vc_ret ?_
      refine fin_i [] rfl (fz ?_) trivial
      simp_all [completionOkB]
  · iterate 3 refine vof ?_
    iterate 2 refine vo ?_
    iterate 3 refine vof ?_
    iterate 2 refine vo ?_
    iterate 3 refine vof ?_
    iterate 2 refine vo ?_
    iterate 3 refine vof ?_
    iterate 2 refine vo ?_
    refine vnt ?_
    refine vc_ret ?_
    refine fin_i [] rfl (fz ?_) trivial
    simp_all [completionOkB]
set_option maxHeartbeats 4000000 in
theorem c_impl_EncodeCompletion {x1 x2 x3 x4 x5 p : Int} : Con0 Tryz.prog 112 [.agg [V x1, V x2, V x3, V x4, V x5], I p] (Z (encCF x1 x2 x3 x4 x5 p)) [] := by
  refine con_i Tryz.func112 Tryz.ntmps112 (t := [(0, .agg [V x1, V x2, V x3, V x4, V x5]), (1, I p)]) rfl ?_
  refine vc_sr ?_
  iterate 2 refine vo ?_
  refine vnt ?_
  refine vc_seq' ?_
  refine vc_sr ?_
  refine vo ?_
  refine voc c_impl_CompletionOk rfl rfl ?_
  iterate 2 refine vo ?_
  refine vsp (fun g1 => ?_) (fun g1 => ?_)
  · iterate 3 refine vof ?_
    refine vo ?_
    refine vnt ?_
    refine vc_then ?_
    refine vc_sr ?_
    refine vo ?_
    refine vnt ?_
    refine vc_ret ?_
    refine thn_r ?_
    refine fin_i [] rfl (fz ?_) trivial
    first | (simp [encCF, g1]; done) | (simp [encCF, encC, g1, g2])
  · refine von ?_
    refine vocn c_impl_between rfl rfl ?_
    refine von ?_
    refine vo ?_
    refine vnt ?_
    refine vc_if (fun g2 => ?_) (fun g2 => ?_)
    · refine vc_sr ?_
      refine vo ?_
      refine vnt ?_
      refine vc_ret ?_
      refine thn_r ?_
      refine fin_i [] rfl (fz ?_) trivial
      first | (simp [encCF, g1]; done) | (simp [encCF, encC, g1, g2])
    · refine vc_skip ?_
      refine thn ?_
      refine vc_sr ?_
      iterate 2 refine vo ?_
      refine voc c_impl_Word16 rfl rfl ?_
      refine vzs (word16_le _) fun z1 => ?_
      iterate 2 refine vo ?_
      refine voc c_impl_Word16 rfl rfl ?_
      refine vzs (word16_le _) fun z2 => ?_
      iterate 3 refine vo ?_
      refine voc c_impl_Word16 rfl rfl ?_
      refine vzs (word16_le _) fun z3 => ?_
      iterate 3 refine vo ?_
      refine voc c_impl_Word16 rfl rfl ?_
      refine vzs (word16_le _) fun z4 => ?_
      iterate 3 refine vo ?_
      refine voc c_impl_Word32 rfl rfl ?_
      refine vzs (word32_le _) fun z5 => ?_
      iterate 2 refine vo ?_
      refine voc c_impl_Word32 rfl rfl ?_
      refine vzs (word32_le _) fun z6 => ?_
      iterate 2 refine vo ?_
      refine vnt ?_
      refine vc_ret ?_
      refine fin_i [] rfl (fz ?_) trivial
      first | (simp [encCF, g1]; done) | (simp [encCF, encC, g1, g2])
set_option maxHeartbeats 4000000 in
theorem c_impl_QueueOk {b s c : Int} : Con0 Tryz.prog 35 [.agg [V b, V s, V c]] (B (queueOkB b s c)) [] := by
  refine con_i Tryz.func35 Tryz.ntmps35 (t := [(0, .agg [V b, V s, V c])]) rfl ?_
  refine vc_sr ?_
  iterate 2 refine vo ?_
  refine vnt ?_
  refine vc_sr ?_
  iterate 2 refine vo ?_
  refine voc c_impl_between rfl rfl ?_
  refine vo ?_
  refine vsp (fun g1 => ?_) (fun g1 => ?_)
  · iterate 2 refine von ?_
    refine vocn c_impl_ringSize rfl rfl ?_
    iterate 2 refine vo ?_
    refine vsp (fun g2 => ?_) (fun g2 => ?_)
    · have hs := sizeB_cases g2
      iterate 5 refine von ?_
      try refine vwr ?_
      refine von ?_
      try refine vwr ?_
      refine vocn c_impl_between rfl rfl ?_
      iterate 2 refine vo ?_
      refine vnt ?_
      refine vc_ret ?_
      refine fin_i [] rfl (fz ?_) trivial
      simp_all [queueOkB]
    · iterate 7 refine vof ?_
      iterate 2 refine vo ?_
      refine vnt ?_
      refine vc_ret ?_
      refine fin_i [] rfl (fz ?_) trivial
      simp_all [queueOkB]
  · iterate 3 refine vof ?_
    iterate 2 refine vo ?_
    iterate 7 refine vof ?_
    iterate 2 refine vo ?_
    refine vnt ?_
    refine vc_ret ?_
    refine fin_i [] rfl (fz ?_) trivial
    simp_all [queueOkB]
set_option maxHeartbeats 4000000 in
theorem c_impl_phaseOf {b s c : Int} (hq : queueOkB b s c = true := by assumption) : Con0 Tryz.prog 39 [.agg [V b, V s, V c]] (I (phaseC s c)) [] := by
  have hf := queueOk_facts hq
  refine con_i Tryz.func39 Tryz.ntmps39 (t := [(0, .agg [V b, V s, V c])]) rfl ?_
  refine vc_sr ?_
  iterate 2 refine vo ?_
  refine vnt ?_
  refine vc_seq' ?_
  refine vc_sr ?_
  iterate 5 refine vo ?_
  refine vnt ?_
  refine vc_if (fun g1 => ?_) (fun g1 => ?_)
  · refine vc_sr ?_
    refine vo ?_
    refine vnt ?_
    refine vc_ret ?_
    refine thn_r ?_
    refine fin_i [] rfl (fz ?_) trivial
    first | (exact (phase_eq hq).symm) | (rw [phaseC]; split <;> omega)
  · refine vc_skip ?_
    refine thn ?_
    refine vc_sr ?_
    refine vo ?_
    refine vnt ?_
    refine vc_ret ?_
    refine fin_i [] rfl (fz ?_) trivial
    first | (exact (phase_eq hq).symm) | (rw [phaseC]; split <;> omega)
set_option maxHeartbeats 4000000 in
theorem c_spec_DescOk {op fl ln at_ sz ck : Int} : Con0 Tryz.prog 100 [.agg [V op, V fl, V ln, V at_, V sz, V ck]] (B (descB op fl ln at_ sz ck)) [] := by
  refine con_i Tryz.func100 Tryz.ntmps100 (t := [(0, .agg [V op, V fl, V ln, V at_, V sz, V ck])]) rfl ?_
  refine vc_sr ?_
  iterate 2 refine vo ?_
  refine vnt ?_
  refine vc_sr ?_
  iterate 2 refine vo ?_
  refine voc c_spec_l01In rfl rfl ?_
  refine vo ?_
  refine vsp (fun g1 => ?_) (fun g1 => ?_)
  · iterate 2 refine von ?_
    refine vocn c_spec_l01In rfl rfl ?_
    iterate 2 refine vo ?_
    refine vsp (fun g2 => ?_) (fun g2 => ?_)
    · iterate 2 refine von ?_
      refine vocn c_spec_l01In rfl rfl ?_
      iterate 2 refine vo ?_
      refine vsp (fun g3 => ?_) (fun g3 => ?_)
      · iterate 2 refine von ?_
        refine vocn c_spec_l01In rfl rfl ?_
        iterate 2 refine vo ?_
        refine vsp (fun g4 => ?_) (fun g4 => ?_)
        · iterate 2 refine von ?_
          refine vocn c_spec_l01In rfl rfl ?_
          iterate 2 refine vo ?_
          refine vsp (fun g5 => ?_) (fun g5 => ?_)
          · iterate 2 refine von ?_
            refine vocn c_spec_l01In rfl rfl ?_
            iterate 2 refine vo ?_
            refine vnt ?_
            refine vc_ret ?_
            refine fin_i [] rfl (fz ?_) trivial
            simp_all [descB]
          · iterate 3 refine vof ?_
            iterate 2 refine vo ?_
            refine vnt ?_
            refine vc_ret ?_
            refine fin_i [] rfl (fz ?_) trivial
            simp_all [descB]
        · iterate 3 refine vof ?_
          iterate 2 refine vo ?_
          iterate 3 refine vof ?_
          iterate 2 refine vo ?_
          refine vnt ?_
          refine vc_ret ?_
          refine fin_i [] rfl (fz ?_) trivial
          simp_all [descB]
      · iterate 3 refine vof ?_
        iterate 2 refine vo ?_
        iterate 3 refine vof ?_
        iterate 2 refine vo ?_
        iterate 3 refine vof ?_
        iterate 2 refine vo ?_
        refine vnt ?_
        refine vc_ret ?_
        refine fin_i [] rfl (fz ?_) trivial
        simp_all [descB]
    · iterate 3 refine vof ?_
      iterate 2 refine vo ?_
      iterate 3 refine vof ?_
      iterate 2 refine vo ?_
      iterate 3 refine vof ?_
      iterate 2 refine vo ?_
      iterate 3 refine vof ?_
      iterate 2 refine vo ?_
      refine vnt ?_
      refine vc_ret ?_
      refine fin_i [] rfl (fz ?_) trivial
      simp_all [descB]
  · iterate 3 refine vof ?_
    iterate 2 refine vo ?_
    iterate 3 refine vof ?_
    iterate 2 refine vo ?_
    iterate 3 refine vof ?_
    iterate 2 refine vo ?_
    iterate 3 refine vof ?_
    iterate 2 refine vo ?_
    iterate 3 refine vof ?_
    iterate 2 refine vo ?_
    refine vnt ?_
    refine vc_ret ?_
    refine fin_i [] rfl (fz ?_) trivial
    simp_all [descB]
set_option maxHeartbeats 4000000 in
theorem c_spec_EncodeDesc {op fl ln at_ sz ck : Int} : Con0 Tryz.prog 64 [.agg [V op, V fl, V ln, V at_, V sz, V ck]] (Z (encDF op fl ln at_ sz ck)) [] := by
  refine con_i Tryz.func64 Tryz.ntmps64 (t := [(0, .agg [V op, V fl, V ln, V at_, V sz, V ck])]) rfl ?_
  refine vc_sr ?_
  iterate 2 refine vo ?_
  refine vnt ?_
  refine vc_seq' ?_
  refine vc_sr ?_
  refine vo ?_
  refine voc c_spec_DescOk rfl rfl ?_
  refine vo ?_
  refine vnt ?_
  refine vc_if (fun g1 => ?_) (fun g1 => ?_)
  · refine vc_sr ?_
    refine vo ?_
    refine vnt ?_
    refine vc_ret ?_
    refine thn_r ?_
    refine fin_i [] rfl (fz ?_) trivial
    first | (simp [encDF, g1]; done) | (have hw := enc_u8 g1; simp [encDF, g1, encD, hw])
  · refine vc_skip ?_
    refine thn ?_
    refine vc_sr ?_
    iterate 8 refine vo ?_
    refine vs2 ?_
    iterate 2 refine vo ?_
    refine voc c_spec_Word16 rfl rfl ?_
    refine vzs (word16_le _) fun z1 => ?_
    iterate 3 refine vo ?_
    refine voc c_spec_Word32 rfl rfl ?_
    refine vzs (word32_le _) fun z2 => ?_
    iterate 3 refine vo ?_
    refine voc c_spec_Word16 rfl rfl ?_
    refine vzs (word16_le _) fun z3 => ?_
    iterate 3 refine vo ?_
    refine voc c_spec_Word16 rfl rfl ?_
    refine vzs (word16_le _) fun z4 => ?_
    refine vo ?_
    refine voc c_spec_Word32 rfl rfl ?_
    refine vzs (word32_le _) fun z5 => ?_
    iterate 2 refine vo ?_
    refine vnt ?_
    refine vc_ret ?_
    refine fin_i [] rfl (fz ?_) trivial
    first | (simp [encDF, g1]; done) | (have hw := enc_u8 g1; simp [encDF, g1, encD, hw])
set_option maxHeartbeats 4000000 in
theorem c_impl_SlotAddress {b s h t k : Int} (hr : ringOkB b s h t = true := by assumption) (hk : 0 ≤ k := by omega) : Con0 Tryz.prog 74 [.agg [V b, V s, V h, V t], I k] (I (rslot b s k)) [] := by
  have hf := ringOk_facts hr
  have hm := slot_bd hf.1 ⟨hf.2.1, hf.2.2.1⟩ hk
  refine con_i Tryz.func74 Tryz.ntmps74 (t := [(0, .agg [V b, V s, V h, V t]), (1, I k)]) rfl ?_
  refine vc_sr ?_
  iterate 2 refine vo ?_
  refine vnt ?_
  refine vc_seq' ?_
  refine vc_sr ?_
  refine vo ?_
  refine voc c_impl_RingOk rfl rfl ?_
  iterate 2 refine vo ?_
  refine vsp (fun g1 => ?_) (fun g1 => ?_)
  · iterate 2 refine vof ?_
    refine vo ?_
    refine vnt ?_
    refine vc_then ?_
    refine vc_sr ?_
    refine vo ?_
    refine vnt ?_
    refine vc_ret ?_
    refine thn_r ?_
    refine fin_i [] rfl (fz ?_) trivial
    first | (simp_all; done) | omega | (rw [rslot, hm.1]; done) | (rw [rslot, hm.1]; omega)
  · iterate 2 refine von ?_
    refine vo ?_
    refine vnt ?_
    refine vc_if (fun g2 => ?_) (fun g2 => ?_)
    · refine vc_sr ?_
      refine vo ?_
      refine vnt ?_
      refine vc_ret ?_
      refine thn_r ?_
      refine fin_i [] rfl (fz ?_) trivial
      first | (simp_all; done) | omega | (rw [rslot, hm.1]; done) | (rw [rslot, hm.1]; omega)
    · refine vc_skip ?_
      refine thn ?_
      refine vc_sr ?_
      iterate 7 refine vo ?_
      try refine vwr ?_
      refine vo ?_
      try refine vwr ?_
      refine vo ?_
      refine vnt ?_
      refine vc_ret ?_
      refine fin_i [] rfl (fz ?_) trivial
      first | (simp_all; done) | omega | (rw [rslot, hm.1]; done) | (rw [rslot, hm.1]; omega)
set_option maxHeartbeats 4000000 in
theorem c_impl_slotOfCount {b s c : Int} (hq : queueOkB b s c = true := by assumption) : Con0 Tryz.prog 37 [.agg [V b, V s, V c]] (I (slotC b s c)) [] := by
  have hm := slot_q hq
  refine con_i Tryz.func37 Tryz.ntmps37 (t := [(0, .agg [V b, V s, V c])]) rfl ?_
  refine vc_sr ?_
  iterate 2 refine vo ?_
  refine vnt ?_
  refine vc_sr ?_
  iterate 8 refine vo ?_
  try refine vwr ?_
  refine vo ?_
  try refine vwr ?_
  refine vo ?_
  refine vnt ?_
  refine vc_ret ?_
  refine fin_i [] rfl (fz ?_) trivial
  rw [slotC, hm.1]
set_option maxHeartbeats 4000000 in
theorem c_spec_RingUsed {b s h t : Int} (h0 : sizeB s = true := by assumption) : Con0 Tryz.prog 97 [.agg [V b, V s, V h, V t]] (I (usedF s h t)) [] := by
  have hs := sizeB_cases h0
  refine con_i Tryz.func97 Tryz.ntmps97 (t := [(0, .agg [V b, V s, V h, V t])]) rfl ?_
  refine vc_sr ?_
  iterate 2 refine vo ?_
  refine vnt ?_
  refine vc_seq' ?_
  refine vc_sr ?_
  iterate 2 refine vo ?_
  refine voc c_spec_l20Size rfl rfl ?_
  refine vo ?_
  refine vnt ?_
  refine vc_if (fun g1 => ?_) (fun g1 => ?_)
  · refine vc_sr ?_
    refine vo ?_
    refine vnt ?_
    refine vc_ret ?_
    refine thn_r ?_
    refine fin_i [] rfl (fz ?_) trivial
    first | (simp_all; done) | (rw [and_wr, ring_and h0])
  · refine vc_skip ?_
    refine thn ?_
    refine vc_sr ?_
    iterate 5 refine vo ?_
    try refine vwr ?_
    iterate 3 refine vo ?_
    try refine vwr ?_
    refine vo ?_
    try refine vwr ?_
    iterate 2 refine vo ?_
    refine vnt ?_
    refine vc_ret ?_
    refine fin_i [] rfl (fz ?_) trivial
    first | (simp_all; done) | (rw [and_wr, ring_and h0])
set_option maxHeartbeats 4000000 in
theorem c_spec_RingOk {b s h t : Int} : Con0 Tryz.prog 61 [.agg [V b, V s, V h, V t]] (B (ringOkB b s h t)) [] := by
  refine con_i Tryz.func61 Tryz.ntmps61 (t := [(0, .agg [V b, V s, V h, V t])]) rfl ?_
  refine vc_sr ?_
  iterate 2 refine vo ?_
  refine vnt ?_
  refine vc_sr ?_
  iterate 2 refine vo ?_
  refine voc c_spec_l01In rfl rfl ?_
  refine vo ?_
  refine vsp (fun g1 => ?_) (fun g1 => ?_)
  · iterate 2 refine von ?_
    refine vocn c_spec_l20Size rfl rfl ?_
    iterate 2 refine vo ?_
    refine vsp (fun g2 => ?_) (fun g2 => ?_)
    · have hs := sizeB_cases g2
      iterate 5 refine von ?_
      try refine vwr ?_
      refine von ?_
      try refine vwr ?_
      refine vocn c_spec_l01In rfl rfl ?_
      iterate 2 refine vo ?_
      refine vsp (fun g3 => ?_) (fun g3 => ?_)
      · iterate 5 refine von ?_
        try refine vwr ?_
        refine von ?_
        try refine vwr ?_
        refine vocn c_spec_l01In rfl rfl ?_
        iterate 2 refine vo ?_
        refine vsp (fun g4 => ?_) (fun g4 => ?_)
        · refine von ?_
          refine vocn c_spec_RingUsed rfl rfl ?_
          iterate 3 refine von ?_
          iterate 2 refine vo ?_
          refine vnt ?_
          refine vc_ret ?_
          refine fin_i [] rfl (fz ?_) trivial
          simp_all [ringOkB, usedF]
          try rfl
        · iterate 5 refine vof ?_
          iterate 2 refine vo ?_
          refine vnt ?_
          refine vc_ret ?_
          refine fin_i [] rfl (fz ?_) trivial
          simp_all [ringOkB, usedF]
          try rfl
      · iterate 7 refine vof ?_
        iterate 2 refine vo ?_
        iterate 5 refine vof ?_
        iterate 2 refine vo ?_
        refine vnt ?_
        refine vc_ret ?_
        refine fin_i [] rfl (fz ?_) trivial
        simp_all [ringOkB, usedF]
        try rfl
    · iterate 7 refine vof ?_
      iterate 2 refine vo ?_
      iterate 7 refine vof ?_
      iterate 2 refine vo ?_
      iterate 5 refine vof ?_
      iterate 2 refine vo ?_
      refine vnt ?_
      refine vc_ret ?_
      refine fin_i [] rfl (fz ?_) trivial
      simp_all [ringOkB, usedF]
      try rfl
  · iterate 3 refine vof ?_
    iterate 2 refine vo ?_
    iterate 7 refine vof ?_
    iterate 2 refine vo ?_
    iterate 7 refine vof ?_
    iterate 2 refine vo ?_
    iterate 5 refine vof ?_
    iterate 2 refine vo ?_
    refine vnt ?_
    refine vc_ret ?_
    refine fin_i [] rfl (fz ?_) trivial
    simp_all [ringOkB, usedF]
    try rfl
set_option maxHeartbeats 4000000 in
theorem c_spec_SlotAddress {b s h t k : Int} (hr : ringOkB b s h t = true := by assumption) (hk : 0 ≤ k := by omega) : Con0 Tryz.prog 99 [.agg [V b, V s, V h, V t], I k] (I (rslot b s k)) [] := by
  have hf := ringOk_facts hr
  have hm := slot_bd hf.1 ⟨hf.2.1, hf.2.2.1⟩ hk
  refine con_i Tryz.func99 Tryz.ntmps99 (t := [(0, .agg [V b, V s, V h, V t]), (1, I k)]) rfl ?_
  refine vc_sr ?_
  iterate 2 refine vo ?_
  refine vnt ?_
  refine vc_seq' ?_
  refine vc_sr ?_
  refine vo ?_
  refine voc c_spec_RingOk rfl rfl ?_
  iterate 2 refine vo ?_
  refine vsp (fun g1 => ?_) (fun g1 => ?_)
  · iterate 2 refine vof ?_
    refine vo ?_
    refine vnt ?_
    refine vc_then ?_
    refine vc_sr ?_
    refine vo ?_
    refine vnt ?_
    refine vc_ret ?_
    refine thn_r ?_
    refine fin_i [] rfl (fz ?_) trivial
    first | (simp_all; done) | omega | (rw [rslot, hm.1]; done) | (rw [rslot, hm.1]; omega)
  · iterate 2 refine von ?_
    refine vo ?_
    refine vnt ?_
    refine vc_if (fun g2 => ?_) (fun g2 => ?_)
    · refine vc_sr ?_
      refine vo ?_
      refine vnt ?_
      refine vc_ret ?_
      refine thn_r ?_
      refine fin_i [] rfl (fz ?_) trivial
      first | (simp_all; done) | omega | (rw [rslot, hm.1]; done) | (rw [rslot, hm.1]; omega)
    · refine vc_skip ?_
      refine thn ?_
      refine vc_sr ?_
      iterate 7 refine vo ?_
      try refine vwr ?_
      refine vo ?_
      try refine vwr ?_
      refine vo ?_
      refine vnt ?_
      refine vc_ret ?_
      refine fin_i [] rfl (fz ?_) trivial
      first | (simp_all; done) | omega | (rw [rslot, hm.1]; done) | (rw [rslot, hm.1]; omega)
end Go.Proofs.YtfcmcedeapgdcaaGreat
end
section
namespace Go.Proofs.YtfcmcedeapgdcaaGreat
open Go Go.RowKit Go.Vc
set_option linter.unusedVariables false
set_option linter.unusedSimpArgs false
set_option linter.unnecessarySimpa false
set_option maxHeartbeats 4000000 in
theorem c_impl_copyStrings {ps : Pg} (hp : ps.length ≤ 1099511627776 := by first | assumption | omega) : Con0 Tryz.prog 71 [.one (.sl 1 (ps.map strE))] (.one (.hs 0)) [(0, .arr 9 1 ((ps).map strE))] := by
  refine con_i Tryz.func71 Tryz.ntmps71 (t := [(0, .one (.sl 1 (ps.map strE)))]) rfl ?_
  refine vc_sr ?_
  refine vo ?_
  refine vnt ?_
  refine vc_sr ?_
  iterate 4 refine vo ?_
  refine vnt ?_
  refine vc_ret ?_
  refine fin_i [(0, some 40)] rfl (fz ?_) (fz ?_) <;> first | trivial | rfl
set_option maxHeartbeats 4000000 in
theorem c_impl_copyMemory {ps : Pg} (hp : ps.length ≤ 1099511627776 := by first | assumption | omega) : Con0 Tryz.prog 29 [.agg [.sl 1 (ps.map strE)]] (.agg [.hs 0]) [(0, .arr 9 1 ((ps).map strE))] := by
  refine con_i Tryz.func29 Tryz.ntmps29 (t := [(0, .agg [.sl 1 (ps.map strE)])]) rfl ?_
  refine vc_sr ?_
  iterate 2 refine vo ?_
  refine vnt ?_
  refine vc_sr ?_
  iterate 2 refine vo ?_
  refine voc c_impl_copyStrings rfl rfl ?_
  iterate 2 refine vo ?_
  refine vnt ?_
  refine vc_ret ?_
  refine fin_i [(0, some 40)] rfl (fz ?_) (fz ?_) <;> first | trivial | rfl
set_option maxHeartbeats 4000000 in
theorem c_spec_l16Copy {ps : Pg} (hp : ps.length ≤ 1099511627776 := by first | assumption | omega) : Con0 Tryz.prog 59 [.agg [.sl 1 (ps.map strE)]] (.agg [.hs 0]) [(0, .arr 9 1 ((ps).map strE))] := by
  refine con_i Tryz.func59 Tryz.ntmps59 (t := [(0, .agg [.sl 1 (ps.map strE)])]) rfl ?_
  refine vc_sr ?_
  iterate 2 refine vo ?_
  refine vnt ?_
  refine vc_sr ?_
  iterate 6 refine vo ?_
  refine vnt ?_
  refine vc_ret ?_
  refine fin_i [(0, some 48)] rfl (fz ?_) (fz ?_) <;> first | trivial | rfl
section
variable {P : Program} [TyEnv P] {n : Nat} {ops os : List Oper} {dr : Bool} {K : Tm → Hp → Prop} {t : Tm} {H : Hp} {fp : List Fp} {d : Nat}
theorem vep {sz i k : Nat} {es : List (List Value)} (h : Vd P n ops dr K os ((d, .one (.ep sz es i k)) :: t) H fp) : Vd P n ops dr K os ((d, .one (.ep sz es (Int.toNat (i : Nat)) k)) :: t) H fp := h
theorem vpt {j sz i k : Nat} (h : Vd P n ops dr K os ((d, .one (.ptr j i sz k)) :: t) H fp) : Vd P n ops dr K os ((d, .one (.ptr j (Int.toNat (i : Nat)) sz k)) :: t) H fp := h
end
theorem at_eq {α : Type} [Inhabited α] {l : List α} {i : Nat} (h : i < l.length) : at' l i = l[i] := by unfold at'; rw [List.getElem?_eq_getElem h]; rfl
theorem mem_stp {ps : Pg} {i : Nat} (h : ∀ j (g : j < ps.length), j < i → ps[j].size = 128) (hi : i < ps.length) (hs : ((at' ps i).size : Int) = 128) : ∀ j (g : j < ps.length), j < i + 1 → ps[j].size = 128 := fun j g hj => by
  rcases Nat.lt_or_ge j i with h2 | h2
  · exact h j g h2
  · obtain rfl : j = i := by omega
    rw [at_eq hi] at hs; omega
theorem mem_bad {ps : Pg} {i : Nat} (hi : i < ps.length) (hs : ¬ ((at' ps i).size : Int) = 128) : memOk ps = false := memOk_bad hi (by rw [at_eq hi] at hs; omega)
theorem mem_end {ps : Pg} {i : Nat} (h : ∀ j (g : j < ps.length), j < i → ps[j].size = 128) (hi : ¬ i < ps.length) : memOk ps = decide ((ps.length : Int) ≤ 64) := memOk_all fun k g => h k g (by omega)
theorem mpIdx_end {l : List Mp} {d v : Int} {i : Nat} (h : mpIdx l d v = mpIdxF d v i (l.drop i)) (hi : ¬ i < l.length) : mpIdx l d v = -1 := by
  rw [h, List.drop_eq_nil_of_le (by omega)]; rfl
theorem mpIdx_hit {l : List Mp} {d v : Int} {i : Nat} (h : mpIdx l d v = mpIdxF d v i (l.drop i)) (hi : i < l.length) (h1 : (at' l i).1 = d) (h2 : (at' l i).2.1 = v) : mpIdx l d v = i := by
  rw [h, drop_at hi]; simp [mpIdxF, Go.hit, h1, h2]
theorem mpIdx_go {l : List Mp} {d v : Int} {i : Nat} (h : mpIdx l d v = mpIdxF d v i (l.drop i)) (hi : i < l.length) (hh : ¬ ((at' l i).1 = d ∧ (at' l i).2.1 = v)) : mpIdx l d v = mpIdxF d v (i + 1) (l.drop (i + 1)) := by
  rw [h, drop_at hi]
  have : Go.hit (at' l i) d v = false := hit_no.2 hh
  simp [mpIdxF, this]
set_option maxHeartbeats 4000000 in
theorem c_impl_MemoryOk {ps : Pg} (hp : ps.length ≤ 1099511627776 := by first | assumption | omega) : Con0 Tryz.prog 114 [.agg [.sl 1 (ps.map strE)]] (B (memOk ps)) [] := by
  refine con_i Tryz.func114 Tryz.ntmps114 (t := [(0, .agg [.sl 1 (ps.map strE)])]) rfl ?_
  refine vc_sr ?_
  iterate 2 refine vo ?_
  refine vnt ?_
  refine vc_seq' ?_
  refine vc_sr ?_
  iterate 3 refine vo ?_
  try refine vln ?_
  refine vo ?_
  refine vnt ?_
  refine vc_block ?_
  refine vc_lp (σ := Nat) [1, 6, 7] [8] (fun i => [(8, I (i : Nat))]) (fun i => []) (fun i => i ≤ ps.length ∧ ∀ j (g : j < ps.length), j < i → ps[j].size = 128) (fun i => ps.length - i) 0 rfl rfl (sub_i [] (fz ?_) (fz ?_)) ?_ fun i hI => ?_
  · first | trivial | rfl
  · first | trivial | rfl | (exact ⟨rfl, trivial⟩)
  · exact ⟨Nat.zero_le _, fun j g h => by omega⟩
  refine vc_nf rfl rfl ?_
  refine vc_sr ?_
  refine vo ?_
  refine vnt ?_
  refine vc_seq' ?_
  refine vc_if (fun g1 => ?_) (fun g1 => ?_)
  · refine vc_skip ?_
    refine thn ?_
    refine vc_seq' ?_
    refine vc_block ?_
    refine vc_sr ?_
    iterate 3 refine vo ?_
    refine vnt ?_
    refine vc_sr ?_
    iterate 3 refine vo ?_
    refine vnt ?_
    refine vc_if (fun g2 => ?_) (fun g2 => ?_)
    · refine vc_sr ?_
      refine vo ?_
      refine vnt ?_
      refine vc_ret ?_
      refine inB_r ?_
      refine thn_r ?_
      refine thn_r ?_
      refine inB_r ?_
      refine thn_r ?_
      refine fin_i [] rfl (fz ?_) trivial
      exact mem_bad g1 g2
    · refine vc_skip ?_
      refine inB_n ?_
      refine thn ?_
      refine vc_region ?_
      refine vo ?_
      try refine vwr ?_
      refine vo ?_
      refine vnt ?_
      refine ⟨i + 1, ?_, ?_, sub_i [] (fz ?_) (fz ?_)⟩
      · exact ⟨by omega, mem_stp hI.2 g1 g2⟩
      · omega
      · first | rfl | trivial
      · first | trivial
  · refine vc_exit ?_
    refine thn_x ?_
    refine thn_x ?_
    refine inB_x ?_
    refine thn ?_
    refine vc_sr ?_
    iterate 3 refine vo ?_
    try refine vln ?_
    iterate 2 refine vo ?_
    refine vnt ?_
    refine vc_ret ?_
    refine fin_i [] rfl (fz ?_) trivial
    exact mem_end hI.2 g1
set_option maxHeartbeats 4000000 in
theorem c_spec_MemoryOk {ps : Pg} (hp : ps.length ≤ 1099511627776 := by first | assumption | omega) : Con0 Tryz.prog 136 [.agg [.sl 1 (ps.map strE)]] (B (memOk ps)) [] := by
  refine con_i Tryz.func136 Tryz.ntmps136 (t := [(0, .agg [.sl 1 (ps.map strE)])]) rfl ?_
  refine vc_sr ?_
  iterate 2 refine vo ?_
  refine vnt ?_
  refine vc_seq' ?_
  refine vc_sr ?_
  refine vo ?_
  refine vnt ?_
  refine vc_block ?_
  refine vc_lp (σ := Nat) [1] [8] (fun i => [(3, I (i : Nat))]) (fun i => []) (fun i => i ≤ ps.length ∧ ∀ j (g : j < ps.length), j < i → ps[j].size = 128) (fun i => ps.length - i) 0 rfl rfl (sub_i [] (fz ?_) (fz ?_)) ?_ fun i hI => ?_
  · first | trivial | rfl
  · first | trivial | rfl | (exact ⟨rfl, trivial⟩)
  · exact ⟨Nat.zero_le _, fun j g h => by omega⟩
  refine vc_nf rfl rfl ?_
  refine vc_seq' ?_
  refine vc_sr ?_
  iterate 4 refine vo ?_
  try refine vln ?_
  refine vo ?_
  refine vnt ?_
  refine vc_if (fun g1 => ?_) (fun g1 => ?_)
  · refine vc_skip ?_
    refine thn ?_
    refine vc_seq' ?_
    refine vc_block ?_
    refine vc_sr ?_
    iterate 7 refine vo ?_
    refine vnt ?_
    refine vc_if (fun g2 => ?_) (fun g2 => ?_)
    · refine vc_sr ?_
      refine vo ?_
      refine vnt ?_
      refine vc_ret ?_
      refine inB_r ?_
      refine thn_r ?_
      refine thn_r ?_
      refine inB_r ?_
      refine thn_r ?_
      refine fin_i [] rfl (fz ?_) trivial
      exact mem_bad g1 g2
    · refine vc_skip ?_
      refine inB_n ?_
      refine thn ?_
      refine vc_region ?_
      iterate 2 refine vo ?_
      try refine vwr ?_
      refine vo ?_
      refine vnt ?_
      refine ⟨i + 1, ?_, ?_, sub_i [] (fz ?_) (fz ?_)⟩
      · exact ⟨by omega, mem_stp hI.2 g1 g2⟩
      · omega
      · first | rfl | trivial
      · first | trivial
  · refine vc_exit ?_
    refine thn_x ?_
    refine thn_x ?_
    refine inB_x ?_
    refine thn ?_
    refine vc_sr ?_
    iterate 3 refine vo ?_
    try refine vln ?_
    iterate 2 refine vo ?_
    refine vnt ?_
    refine vc_ret ?_
    refine fin_i [] rfl (fz ?_) trivial
    exact mem_end hI.2 g1
set_option maxHeartbeats 4000000 in
theorem c_impl_within {ps : Pg} {a n : Int} (hp : ps.length ≤ 1099511627776 := by first | assumption | omega) : Con0 Tryz.prog 116 [.agg [.sl 1 (ps.map strE)], I a, I n] (B (memInB ps a n)) [] := by
  refine con_i Tryz.func116 Tryz.ntmps116 (t := [(0, .agg [.sl 1 (ps.map strE)]), (1, I a), (2, I n)]) rfl ?_
  refine vc_sr ?_
  iterate 2 refine vo ?_
  refine vnt ?_
  refine vc_sr ?_
  iterate 3 refine vo ?_
  try refine vln ?_
  refine vo ?_
  try refine vwr ?_
  refine vo ?_
  refine vnt ?_
  refine vc_sr ?_
  refine vo ?_
  refine voc c_impl_MemoryOk rfl rfl ?_
  refine vo ?_
  refine vsp (fun g1 => ?_) (fun g1 => ?_)
  · iterate 2 refine von ?_
    iterate 2 refine vo ?_
    refine vsp (fun g2 => ?_) (fun g2 => ?_)
    · iterate 3 refine von ?_
      iterate 2 refine vo ?_
      refine vsp (fun g3 => ?_) (fun g3 => ?_)
      · iterate 2 refine von ?_
        iterate 2 refine vo ?_
        refine vsp (fun g4 => ?_) (fun g4 => ?_)
        · iterate 4 refine von ?_
          try refine vwr ?_
          refine von ?_
          iterate 2 refine vo ?_
          refine vnt ?_
          refine vc_ret ?_
          refine fin_i [] rfl (fz ?_) trivial
          simp [memInB, g1]
          try first | omega | (rw [Bool.eq_iff_iff]; simp; omega)
        · iterate 5 refine vof ?_
          iterate 2 refine vo ?_
          refine vnt ?_
          refine vc_ret ?_
          refine fin_i [] rfl (fz ?_) trivial
          simp [memInB, g1]
          try first | omega | (rw [Bool.eq_iff_iff]; simp; omega)
      · iterate 2 refine vof ?_
        iterate 2 refine vo ?_
        iterate 5 refine vof ?_
        iterate 2 refine vo ?_
        refine vnt ?_
        refine vc_ret ?_
        refine fin_i [] rfl (fz ?_) trivial
        simp [memInB, g1]
        try first | omega | (rw [Bool.eq_iff_iff]; simp; omega)
    · iterate 3 refine vof ?_
      iterate 2 refine vo ?_
      iterate 2 refine vof ?_
      iterate 2 refine vo ?_
      iterate 5 refine vof ?_
      iterate 2 refine vo ?_
      refine vnt ?_
      refine vc_ret ?_
      refine fin_i [] rfl (fz ?_) trivial
      simp [memInB, g1]
      try first | omega | (rw [Bool.eq_iff_iff]; simp; omega)
  · iterate 2 refine vof ?_
    iterate 2 refine vo ?_
    iterate 3 refine vof ?_
    iterate 2 refine vo ?_
    iterate 2 refine vof ?_
    iterate 2 refine vo ?_
    iterate 5 refine vof ?_
    iterate 2 refine vo ?_
    refine vnt ?_
    refine vc_ret ?_
    refine fin_i [] rfl (fz ?_) trivial
    simp [memInB, g1]
    try first | omega | (rw [Bool.eq_iff_iff]; simp; omega)
set_option maxHeartbeats 4000000 in
theorem c_spec_l16Within {ps : Pg} {a n : Int} (hp : ps.length ≤ 1099511627776 := by first | assumption | omega) : Con0 Tryz.prog 138 [.agg [.sl 1 (ps.map strE)], I a, I n] (B (memInB ps a n)) [] := by
  refine con_i Tryz.func138 Tryz.ntmps138 (t := [(0, .agg [.sl 1 (ps.map strE)]), (1, I a), (2, I n)]) rfl ?_
  refine vc_sr ?_
  iterate 2 refine vo ?_
  refine vnt ?_
  refine vc_sr ?_
  iterate 3 refine vo ?_
  try refine vln ?_
  refine vo ?_
  try refine vwr ?_
  refine vo ?_
  refine vnt ?_
  refine vc_sr ?_
  refine vo ?_
  refine voc c_spec_MemoryOk rfl rfl ?_
  refine vo ?_
  refine vsp (fun g1 => ?_) (fun g1 => ?_)
  · iterate 2 refine von ?_
    iterate 2 refine vo ?_
    refine vsp (fun g2 => ?_) (fun g2 => ?_)
    · iterate 2 refine von ?_
      iterate 2 refine vo ?_
      refine vsp (fun g3 => ?_) (fun g3 => ?_)
      · iterate 3 refine von ?_
        iterate 2 refine vo ?_
        refine vsp (fun g4 => ?_) (fun g4 => ?_)
        · iterate 4 refine von ?_
          try refine vwr ?_
          refine von ?_
          iterate 2 refine vo ?_
          refine vnt ?_
          refine vc_ret ?_
          refine fin_i [] rfl (fz ?_) trivial
          simp [memInB, g1]
          try first | omega | (rw [Bool.eq_iff_iff]; simp; omega)
        · iterate 5 refine vof ?_
          iterate 2 refine vo ?_
          refine vnt ?_
          refine vc_ret ?_
          refine fin_i [] rfl (fz ?_) trivial
          simp [memInB, g1]
          try first | omega | (rw [Bool.eq_iff_iff]; simp; omega)
      · iterate 3 refine vof ?_
        iterate 2 refine vo ?_
        iterate 5 refine vof ?_
        iterate 2 refine vo ?_
        refine vnt ?_
        refine vc_ret ?_
        refine fin_i [] rfl (fz ?_) trivial
        simp [memInB, g1]
        try first | omega | (rw [Bool.eq_iff_iff]; simp; omega)
    · iterate 2 refine vof ?_
      iterate 2 refine vo ?_
      iterate 3 refine vof ?_
      iterate 2 refine vo ?_
      iterate 5 refine vof ?_
      iterate 2 refine vo ?_
      refine vnt ?_
      refine vc_ret ?_
      refine fin_i [] rfl (fz ?_) trivial
      simp [memInB, g1]
      try first | omega | (rw [Bool.eq_iff_iff]; simp; omega)
  · iterate 2 refine vof ?_
    iterate 2 refine vo ?_
    iterate 2 refine vof ?_
    iterate 2 refine vo ?_
    iterate 3 refine vof ?_
    iterate 2 refine vo ?_
    iterate 5 refine vof ?_
    iterate 2 refine vo ?_
    refine vnt ?_
    refine vc_ret ?_
    refine fin_i [] rfl (fz ?_) trivial
    simp [memInB, g1]
    try first | omega | (rw [Bool.eq_iff_iff]; simp; omega)
set_option maxHeartbeats 4000000 in
theorem c_impl_pageMapping {l : List Mp} {d v : Int} (hl : l.length ≤ 1099511627776 := by first | assumption | omega) : Con0 Tryz.prog 135 [.one (.sl 4 (l.map mpE)), I d, I v] (I (mpIdx l d v)) [] := by
  refine con_i Tryz.func135 Tryz.ntmps135 (t := [(0, .one (.sl 4 (l.map mpE))), (1, I d), (2, I v)]) rfl ?_
  refine vc_sr ?_
  refine vo ?_
  refine vnt ?_
  refine vc_seq' ?_
  refine vc_sr ?_
  iterate 2 refine vo ?_
  try refine vln ?_
  refine vo ?_
  refine vnt ?_
  refine vc_block ?_
  refine vc_lp (σ := Nat) [1, 2, 9, 10] [] (fun i => [(11, I (i : Nat))]) (fun i => []) (fun i => i ≤ l.length ∧ mpIdx l d v = mpIdxF d v i (l.drop i)) (fun i => l.length - i) 0 rfl rfl (sub_i [] (fz ?_) (fz ?_)) ?_ fun i hI => ?_
  · first | trivial | rfl
  · first | trivial | rfl
  · exact ⟨Nat.zero_le _, rfl⟩
  refine vc_nf rfl rfl ?_
  refine vc_sr ?_
  refine vo ?_
  refine vnt ?_
  refine vc_seq' ?_
  refine vc_if (fun g1 => ?_) (fun g1 => ?_)
  · refine vc_skip ?_
    refine thn ?_
    refine vc_seq' ?_
    refine vc_block ?_
    refine vc_sr ?_
    iterate 6 refine vo ?_
    refine vnt ?_
    refine vc_sr ?_
    iterate 5 refine vo ?_
    refine vsp (fun g2 => ?_) (fun g2 => ?_)
    · iterate 4 refine von ?_
      refine vo ?_
      refine vnt ?_
      refine vc_if (fun g3 => ?_) (fun g3 => ?_)
      · refine vc_sr ?_
        iterate 2 refine vo ?_
        refine vnt ?_
        refine vc_ret ?_
        refine inB_r ?_
        refine thn_r ?_
        refine thn_r ?_
        refine inB_r ?_
        refine thn_r ?_
        refine fin_i [] rfl (fz ?_) trivial
        exact mpIdx_hit hI.2 g1 g2 g3
      · refine vc_skip ?_
        refine inB_n ?_
        refine thn ?_
        refine vc_region ?_
        refine vo ?_
        try refine vwr ?_
        refine vo ?_
        refine vnt ?_
        refine ⟨i + 1, ?_, ?_, sub_i [] (fz ?_) (fz ?_)⟩
        · exact ⟨by omega, mpIdx_go hI.2 g1 fun h => by simp_all⟩
        · omega
        · first | rfl | trivial
        · first | trivial
    · iterate 4 refine vof ?_
      refine vo ?_
      refine vnt ?_
      refine vc_else ?_
      refine vc_skip ?_
      refine inB_n ?_
      refine thn ?_
      refine vc_region ?_
      refine vo ?_
      try refine vwr ?_
      refine vo ?_
      refine vnt ?_
      refine ⟨i + 1, ?_, ?_, sub_i [] (fz ?_) (fz ?_)⟩
      · exact ⟨by omega, mpIdx_go hI.2 g1 fun h => by simp_all⟩
      · omega
      · first | rfl | trivial
      · first | trivial
  · refine vc_exit ?_
    refine thn_x ?_
    refine thn_x ?_
    refine inB_x ?_
    refine thn ?_
    refine vc_sr ?_
    refine vo ?_
    refine vnt ?_
    refine vc_ret ?_
    refine fin_i [] rfl (fz ?_) trivial
    exact mpIdx_end hI.2 g1
theorem mp_bad {l : List Mp} {i : Nat} (hi : i < l.length) (h : inB (at' l i).1 0 7 = false ∨ inB (at' l i).2.1 0 1023 = false ∨ inB (at' l i).2.2.1 0 63 = false ∨ ¬ mpIdx l (at' l i).1 (at' l i).2.1 = i) : mapsOk l = false := by
  rw [at_eq hi] at h
  refine mapsOk_bad hi fun hg => ?_
  obtain ⟨⟨h1, h2, h3⟩, h4⟩ := hg hi
  rcases h with h | h | h | h
  · rw [inB_iff.2 h1] at h; cases h
  · rw [inB_iff.2 h2] at h; cases h
  · rw [inB_iff.2 h3] at h; cases h
  · exact h ((mpIdx_self hi).2 h4)
theorem mp_stp {l : List Mp} {i : Nat} (h : ∀ j, j < i → mapGood l j) (hi : i < l.length) (h1 : inB (at' l i).1 0 7 = true) (h2 : inB (at' l i).2.1 0 1023 = true) (h3 : inB (at' l i).2.2.1 0 63 = true) (h4 : mpIdx l (at' l i).1 (at' l i).2.1 = i) : ∀ j, j < i + 1 → mapGood l j := fun j hj => by
  rcases Nat.lt_or_ge j i with g | g
  · exact h j g
  · obtain rfl : j = i := by omega
    rw [at_eq hi] at h1 h2 h3 h4
    exact fun _ => ⟨⟨inB_iff.1 h1, inB_iff.1 h2, inB_iff.1 h3⟩, (mpIdx_self hi).1 h4⟩
theorem mp_end {l : List Mp} {i : Nat} (h : ∀ j, j < i → mapGood l j) (hi : ¬ i < l.length) : mapsOk l = decide ((l.length : Int) ≤ 96) := mapsOk_all fun k hk => h k (by omega)
theorem mp_dup {l : List Mp} {i j : Nat} (hi : i < l.length) (hj : j < i) (h1 : (at' l j).1 = (at' l i).1) (h2 : (at' l j).2.1 = (at' l i).2.1) : mapsOk l = false := by
  rw [at_eq hi, at_eq (by omega)] at h1 h2
  exact mapsOk_bad hi fun hg => (hg hi).2 j hj ⟨h1, h2⟩
theorem mp_stp2 {l : List Mp} {i j : Nat} (h : ∀ j, j < i → mapGood l j) (hi : i < l.length) (h1 : inB (at' l i).1 0 7 = true) (h2 : inB (at' l i).2.1 0 1023 = true) (h3 : inB (at' l i).2.2.1 0 63 = true) (h4 : ∀ k, k < j → ¬ ((at' l k).1 = (at' l i).1 ∧ (at' l k).2.1 = (at' l i).2.1)) (hj : ¬ j < i) : ∀ j, j < i + 1 → mapGood l j := fun k hk => by
  rcases Nat.lt_or_ge k i with g | g
  · exact h k g
  · obtain rfl : k = i := by omega
    rw [at_eq hi] at h1 h2 h3 h4
    exact fun _ => ⟨⟨inB_iff.1 h1, inB_iff.1 h2, inB_iff.1 h3⟩, fun q hq => by have := h4 q (by omega); rwa [at_eq (by omega)] at this⟩
theorem pg_hit {l : List Mp} {d v : Int} {i : Nat} {wt : Bool} (hm : MapsOk l) (hi : i < l.length) (h1 : (at' l i).1 = d) (h2 : (at' l i).2.1 = v) : mpPage l d v wt = if wt && !(at' l i).2.2.2 then -1 else (at' l i).2.2.1 := by
  rw [at_eq hi] at *
  exact mpPage_unique hm hi (hit_iff.2 ⟨h1, h2⟩) wt
def noPg (l : List Mp) (d v : Int) (wt : Bool) (i : Nat) : Prop := ∀ j, j < i → ¬ ((at' l j).1 = d ∧ (at' l j).2.1 = v ∧ ((at' l j).2.2.2 = true ∨ wt = false))
theorem pg_end {l : List Mp} {d v : Int} {i : Nat} {wt : Bool} (hm : MapsOk l) (h : noPg l d v wt i) (hi : ¬ i < l.length) : mpPage l d v wt = -1 := by
  rcases mp_first l d v with h1 | ⟨k, hk, h1, h2⟩
  · exact mpPage_no h1 wt
  · rw [mpPage_unique hm hk h2 wt]
    have := h k (by omega)
    rw [at_eq hk] at this
    have h3 := hit_iff.1 h2
    rw [if_pos]
    cases hw : wt <;> cases hx : l[k].2.2.2 <;> simp_all
theorem pg_idx {l : List Mp} {d v : Int} {wt : Bool} (hm : MapsOk l) : (mpIdx l d v < 0 → mpPage l d v wt = -1) ∧ (0 ≤ mpIdx l d v → ∃ i, i < l.length ∧ mpIdx l d v = (i : Nat) ∧ mpPage l d v wt = if wt && !(at' l i).2.2.2 then -1 else (at' l i).2.2.1) := by
  rcases mp_first l d v with h1 | ⟨k, hk, h1, h2⟩
  · rw [mpIdx_no h1]
    exact ⟨fun _ => mpPage_no h1 wt, fun h => by omega⟩
  · rw [mpIdx_at hk h1 h2]
    exact ⟨fun h => by omega, fun _ => ⟨k, hk, rfl, by rw [at_eq hk]; exact mpPage_at hk h1 h2 wt⟩⟩
set_option maxHeartbeats 4000000 in
theorem c_impl_MappingsOk {l : List Mp} (hl : l.length ≤ 1099511627776 := by first | assumption | omega) : Con0 Tryz.prog 113 [.one (.sl 4 (l.map mpE))] (B (mapsOk l)) [] := by
  refine con_i Tryz.func113 Tryz.ntmps113 (t := [(0, .one (.sl 4 (l.map mpE)))]) rfl ?_
  refine vc_sr ?_
  refine vo ?_
  refine vnt ?_
  refine vc_seq' ?_
  refine vc_sr ?_
  iterate 2 refine vo ?_
  try refine vln ?_
  refine vo ?_
  refine vnt ?_
  refine vc_block ?_
  refine vc_lp (σ := Nat) [0, 5, 6] [] (fun i => [(7, I (i : Nat))]) (fun i => []) (fun i => i ≤ l.length ∧ ∀ j, j < i → mapGood l j) (fun i => l.length - i) 0 rfl rfl (sub_i [] (fz ?_) (fz ?_)) ?_ fun i hI => ?_
  · first | trivial | rfl
  · first | trivial | rfl
  · exact ⟨Nat.zero_le _, fun j h => by omega⟩
  refine vc_nf rfl rfl ?_
  refine vc_sr ?_
  refine vo ?_
  refine vnt ?_
  refine vc_seq' ?_
  refine vc_if (fun g1 => ?_) (fun g1 => ?_)
  · refine vc_skip ?_
    refine thn ?_
    refine vc_seq' ?_
    refine vc_block ?_
    refine vc_sr ?_
    iterate 6 refine vo ?_
    refine vnt ?_
    refine vc_sr ?_
    iterate 2 refine vo ?_
    refine voc c_impl_between rfl rfl ?_
    iterate 2 refine vo ?_
    refine vsp (fun g2 => ?_) (fun g2 => ?_)
    · iterate 4 refine vof ?_
      iterate 2 refine vo ?_
      iterate 4 refine vof ?_
      iterate 2 refine vo ?_
      iterate 8 refine vof ?_
      refine vo ?_
      refine vnt ?_
      refine vc_then ?_
      refine vc_sr ?_
      refine vo ?_
      refine vnt ?_
      refine vc_ret ?_
      refine inB_r ?_
      refine thn_r ?_
      refine thn_r ?_
      refine inB_r ?_
      refine thn_r ?_
      refine fin_i [] rfl (fz ?_) trivial
      exact mp_bad g1 (by simp_all)
    · iterate 2 refine von ?_
      refine vocn c_impl_between rfl rfl ?_
      refine von ?_
      iterate 2 refine vo ?_
      refine vsp (fun g3 => ?_) (fun g3 => ?_)
      · iterate 4 refine vof ?_
        iterate 2 refine vo ?_
        iterate 8 refine vof ?_
        refine vo ?_
        refine vnt ?_
        refine vc_then ?_
        refine vc_sr ?_
        refine vo ?_
        refine vnt ?_
        refine vc_ret ?_
        refine inB_r ?_
        refine thn_r ?_
        refine thn_r ?_
        refine inB_r ?_
        refine thn_r ?_
        refine fin_i [] rfl (fz ?_) trivial
        exact mp_bad g1 (by simp_all)
      · iterate 2 refine von ?_
        refine vocn c_impl_between rfl rfl ?_
        refine von ?_
        iterate 2 refine vo ?_
        refine vsp (fun g4 => ?_) (fun g4 => ?_)
        · iterate 8 refine vof ?_
          refine vo ?_
          refine vnt ?_
          refine vc_then ?_
          refine vc_sr ?_
          refine vo ?_
          refine vnt ?_
          refine vc_ret ?_
          refine inB_r ?_
          refine thn_r ?_
          refine thn_r ?_
          refine inB_r ?_
          refine thn_r ?_
          refine fin_i [] rfl (fz ?_) trivial
          exact mp_bad g1 (by simp_all)
        · iterate 5 refine von ?_
          refine vocn c_impl_pageMapping rfl rfl ?_
          iterate 2 refine von ?_
          refine vo ?_
          refine vnt ?_
          refine vc_if (fun g5 => ?_) (fun g5 => ?_)
          · refine vc_sr ?_
            refine vo ?_
            refine vnt ?_
            refine vc_ret ?_
            refine inB_r ?_
            refine thn_r ?_
            refine thn_r ?_
            refine inB_r ?_
            refine thn_r ?_
            refine fin_i [] rfl (fz ?_) trivial
            exact mp_bad g1 (by simp_all)
          · refine vc_skip ?_
            refine inB_n ?_
            refine thn ?_
            refine vc_region ?_
            refine vo ?_
            try refine vwr ?_
            refine vo ?_
            refine vnt ?_
            refine ⟨i + 1, ?_, ?_, sub_i [] (fz ?_) (fz ?_)⟩
            · exact ⟨by omega, mp_stp hI.2 g1 g2 g3 g4 g5⟩
            · omega
            · first | rfl | trivial
            · first | trivial
  · refine vc_exit ?_
    refine thn_x ?_
    refine thn_x ?_
    refine inB_x ?_
    refine thn ?_
    refine vc_sr ?_
    iterate 2 refine vo ?_
    try refine vln ?_
    iterate 2 refine vo ?_
    refine vnt ?_
    refine vc_ret ?_
    refine fin_i [] rfl (fz ?_) trivial
    exact mp_end hI.2 g1
theorem pg_stp {l : List Mp} {d v : Int} {i : Nat} {wt : Bool} (h : noPg l d v wt i) (hh : ¬ ((at' l i).1 = d ∧ (at' l i).2.1 = v ∧ ((at' l i).2.2.2 = true ∨ wt = false))) : noPg l d v wt (i + 1) := fun j hj => by
  rcases Nat.lt_or_ge j i with g | g
  · exact h j g
  · obtain rfl : j = i := by omega
    exact hh
theorem mp_phys {l : List Mp} (hm : MapsOk l) {i : Nat} (hi : i < l.length) : 0 ≤ (at' l i).2.2.1 ∧ (at' l i).2.2.1 ≤ 63 := by rw [at_eq hi]; exact (hm.2 i hi).1.2.2
theorem place_neg {l : List Mp} {d a : Int} {wt : Bool} (hm : MapsOk l) (h : a < 0) : placeF l d a wt = -1 := by
  unfold placeF
  by_cases h2 : mpPage l d (a / 128) wt < 0
  · rw [if_pos h2]
  · have := mpPage_v hm (d := d) (v := a / 128) (wr := wt) (by omega); omega
set_option maxHeartbeats 4000000 in
theorem c_spec_l17Page {l : List Mp} {d v : Int} {wt : Bool} (hm : MapsOk l := by assumption) : Con0 Tryz.prog 137 [.one (.sl 4 (l.map mpE)), I d, I v, B wt] (I (mpPage l d v wt)) [] := by
  have hl := hm.1
  refine con_i Tryz.func137 Tryz.ntmps137 (t := [(0, .one (.sl 4 (l.map mpE))), (1, I d), (2, I v), (3, B wt)]) rfl ?_
  refine vc_sr ?_
  refine vo ?_
  refine vnt ?_
  refine vc_seq' ?_
  refine vc_sr ?_
  refine vo ?_
  refine vnt ?_
  refine vc_block ?_
  refine vc_lp (σ := Nat) [0, 1, 2, 3] [] (fun i => [(9, I (i : Nat))]) (fun i => []) (fun i => i ≤ l.length ∧ noPg l d v wt i) (fun i => l.length - i) 0 rfl rfl (sub_i [] (fz ?_) (fz ?_)) ?_ fun i hI => ?_
  · first | trivial | rfl
  · first | trivial | rfl
  · exact ⟨Nat.zero_le _, fun j h => by omega⟩
  refine vc_nf rfl rfl ?_
  refine vc_seq' ?_
  refine vc_sr ?_
  iterate 3 refine vo ?_
  try refine vln ?_
  refine vo ?_
  refine vnt ?_
  refine vc_if (fun g1 => ?_) (fun g1 => ?_)
  · refine vc_skip ?_
    refine thn ?_
    refine vc_seq' ?_
    refine vc_block ?_
    refine vc_sr ?_
    iterate 8 refine vo ?_
    refine vsp (fun g2 => ?_) (fun g2 => ?_)
    · iterate 7 refine von ?_
      iterate 2 refine vo ?_
      refine vsp (fun g3 => ?_) (fun g3 => ?_)
      · iterate 6 refine von ?_
        refine vsp (fun g4 => ?_) (fun g4 => ?_)
        · iterate 2 refine vof ?_
          refine von ?_
          refine vo ?_
          refine vnt ?_
          refine vc_then ?_
          refine vc_sr ?_
          iterate 6 refine vo ?_
          refine vnt ?_
          refine vc_ret ?_
          refine inB_r ?_
          refine thn_r ?_
          refine thn_r ?_
          refine inB_r ?_
          refine thn_r ?_
          refine fin_i [] rfl (fz ?_) trivial
          rw [pg_hit hm g1 g2 g3, if_neg]
          simp_all
        · iterate 3 refine von ?_
          refine vo ?_
          refine vnt ?_
          refine vc_if (fun g5 => ?_) (fun g5 => ?_)
          · refine vc_sr ?_
            iterate 6 refine vo ?_
            refine vnt ?_
            refine vc_ret ?_
            refine inB_r ?_
            refine thn_r ?_
            refine thn_r ?_
            refine inB_r ?_
            refine thn_r ?_
            refine fin_i [] rfl (fz ?_) trivial
            rw [pg_hit hm g1 g2 g3, if_neg]
            simp_all
          · refine vc_skip ?_
            refine inB_n ?_
            refine thn ?_
            refine vc_region ?_
            iterate 2 refine vo ?_
            try refine vwr ?_
            refine vo ?_
            refine vnt ?_
            refine ⟨i + 1, ?_, ?_, sub_i [] (fz ?_) (fz ?_)⟩
            · exact ⟨by omega, pg_stp hI.2 (by simp_all)⟩
            · omega
            · first | rfl | trivial
            · first | trivial
      · iterate 9 refine vof ?_
        refine vo ?_
        refine vnt ?_
        refine vc_else ?_
        refine vc_skip ?_
        refine inB_n ?_
        refine thn ?_
        refine vc_region ?_
        iterate 2 refine vo ?_
        try refine vwr ?_
        refine vo ?_
        refine vnt ?_
        refine ⟨i + 1, ?_, ?_, sub_i [] (fz ?_) (fz ?_)⟩
        · exact ⟨by omega, pg_stp hI.2 (by simp_all)⟩
        · omega
        · first | rfl | trivial
        · first | trivial
    · iterate 7 refine vof ?_
      iterate 2 refine vo ?_
      iterate 9 refine vof ?_
      refine vo ?_
      refine vnt ?_
      refine vc_else ?_
      refine vc_skip ?_
      refine inB_n ?_
      refine thn ?_
      refine vc_region ?_
      iterate 2 refine vo ?_
      try refine vwr ?_
      refine vo ?_
      refine vnt ?_
      refine ⟨i + 1, ?_, ?_, sub_i [] (fz ?_) (fz ?_)⟩
      · exact ⟨by omega, pg_stp hI.2 (by simp_all)⟩
      · omega
      · first | rfl | trivial
      · first | trivial
  · refine vc_exit ?_
    refine thn_x ?_
    refine thn_x ?_
    refine inB_x ?_
    refine thn ?_
    refine vc_sr ?_
    refine vo ?_
    refine vnt ?_
    refine vc_ret ?_
    refine fin_i [] rfl (fz ?_) trivial
    exact pg_end hm hI.2 g1
set_option maxHeartbeats 4000000 in
theorem c_impl_place {l : List Mp} {d a : Int} {wt : Bool} (hm : MapsOk l := by assumption) (ha : a ≤ 9223372036854775807 := by omega) : Con0 Tryz.prog 115 [.one (.sl 4 (l.map mpE)), I d, I a, B wt] (I (placeF l d a wt)) [] := by
  have hl := hm.1
  refine con_i Tryz.func115 Tryz.ntmps115 (t := [(0, .one (.sl 4 (l.map mpE))), (1, I d), (2, I a), (3, B wt)]) rfl ?_
  refine vc_sr ?_
  refine vo ?_
  refine vnt ?_
  refine vc_seq' ?_
  refine vc_sr ?_
  iterate 2 refine vo ?_
  refine vnt ?_
  refine vc_if (fun g1 => ?_) (fun g1 => ?_)
  · refine vc_sr ?_
    refine vo ?_
    refine vnt ?_
    refine vc_ret ?_
    refine thn_r ?_
    refine fin_i [] rfl (fz ?_) trivial
    exact place_neg hm g1
  · refine vc_skip ?_
    refine thn ?_
    refine vc_sr ?_
    iterate 4 refine vo ?_
    try refine veq (IntWalk.i64_quo _ _ (by omega)) ?_
    refine voc c_impl_pageMapping rfl rfl ?_
    refine vo ?_
    refine vnt ?_
    refine vc_seq' ?_
    refine vc_sr ?_
    iterate 3 refine vo ?_
    refine vsp (fun g2 => ?_) (fun g2 => ?_)
    · iterate 9 refine vof ?_
      refine vo ?_
      refine vnt ?_
      refine vc_then ?_
      refine vc_sr ?_
      refine vo ?_
      refine vnt ?_
      refine vc_ret ?_
      refine thn_r ?_
      refine fin_i [] rfl (fz ?_) trivial
      rw [placeF, (pg_idx hm).1 g2]
      rfl
    · obtain ⟨i, hi, e, hpg⟩ := (pg_idx (wt := wt) hm).2 g2
      rw [e]
      have hf := mp_phys hm hi
      iterate 2 refine von ?_
      refine vsp (fun g3 => ?_) (fun g3 => ?_)
      · iterate 3 refine von ?_
        try first | refine vep ?_ | refine vpt ?_
        iterate 4 refine von ?_
        refine vo ?_
        refine vnt ?_
        refine vc_if (fun g4 => ?_) (fun g4 => ?_)
        · refine vc_sr ?_
          refine vo ?_
          refine vnt ?_
          refine vc_ret ?_
          refine thn_r ?_
          refine fin_i [] rfl (fz ?_) trivial
          rw [placeF, hpg]
          simp_all
          try omega
        · refine vc_skip ?_
          refine thn ?_
          refine vc_sr ?_
          iterate 3 refine vo ?_
          try first | refine vep ?_ | refine vpt ?_
          iterate 3 refine vo ?_
          try refine vwr ?_
          iterate 2 refine vo ?_
          try refine veq (Int.tmod_eq_emod_of_nonneg (by omega)) ?_
          refine vo ?_
          try refine vwr ?_
          refine vo ?_
          refine vnt ?_
          refine vc_ret ?_
          refine fin_i [] rfl (fz ?_) trivial
          rw [placeF, hpg]
          simp_all
          try omega
      · iterate 6 refine vof ?_
        refine von ?_
        refine vo ?_
        refine vnt ?_
        refine vc_else ?_
        refine vc_skip ?_
        refine thn ?_
        refine vc_sr ?_
        iterate 3 refine vo ?_
        try first | refine vep ?_ | refine vpt ?_
        iterate 3 refine vo ?_
        try refine vwr ?_
        iterate 2 refine vo ?_
        try refine veq (Int.tmod_eq_emod_of_nonneg (by omega)) ?_
        refine vo ?_
        try refine vwr ?_
        refine vo ?_
        refine vnt ?_
        refine vc_ret ?_
        refine fin_i [] rfl (fz ?_) trivial
        rw [placeF, hpg]
        simp_all
        try omega
theorem nd_stp {l : List Mp} {k j : Nat} (h : ∀ q, q < j → ¬ ((at' l q).1 = (at' l k).1 ∧ (at' l q).2.1 = (at' l k).2.1)) (hh : ¬ ((at' l j).1 = (at' l k).1 ∧ (at' l j).2.1 = (at' l k).2.1)) : ∀ q, q < j + 1 → ¬ ((at' l q).1 = (at' l k).1 ∧ (at' l q).2.1 = (at' l k).2.1) := fun q hq => by
  rcases Nat.lt_or_ge q j with g | g
  · exact h q g
  · obtain rfl : q = j := by omega
    exact hh
set_option maxHeartbeats 4000000 in
theorem c_spec_MappingsOk {l : List Mp} (hl : l.length ≤ 1099511627776 := by first | assumption | omega) : Con0 Tryz.prog 56 [.one (.sl 4 (l.map mpE))] (B (mapsOk l)) [] := by
  refine con_i Tryz.func56 Tryz.ntmps56 (t := [(0, .one (.sl 4 (l.map mpE)))]) rfl ?_
  refine vc_sr ?_
  refine vo ?_
  refine vnt ?_
  refine vc_seq' ?_
  refine vc_sr ?_
  iterate 2 refine vo ?_
  try refine vln ?_
  refine vo ?_
  refine vnt ?_
  refine vc_if (fun g1 => ?_) (fun g1 => ?_)
  · refine vc_sr ?_
    refine vo ?_
    refine vnt ?_
    refine vc_ret ?_
    refine thn_r ?_
    refine fin_i [] rfl (fz ?_) trivial
    exact mapsOk_long (by omega)
  · refine vc_skip ?_
    refine thn ?_
    refine vc_seq' ?_
    refine vc_sr ?_
    refine vo ?_
    refine vnt ?_
    refine vc_block ?_
    refine vc_lp (σ := Nat) [0] [] (fun k => [(3, I (k : Nat))]) (fun k => []) (fun k => k ≤ l.length ∧ ∀ j, j < k → mapGood l j) (fun k => l.length - k) 0 rfl rfl (sub_i [] (fz ?_) (fz ?_)) ?_ fun k hI => ?_
    · first | trivial | rfl
    · first | trivial | rfl
    · exact ⟨Nat.zero_le _, fun j h => by omega⟩
    refine vc_nf rfl rfl ?_
    refine vc_seq' ?_
    refine vc_sr ?_
    iterate 3 refine vo ?_
    try refine vln ?_
    refine vo ?_
    refine vnt ?_
    refine vc_if (fun g2 => ?_) (fun g2 => ?_)
    · refine vc_skip ?_
      refine thn ?_
      refine vc_seq' ?_
      refine vc_block ?_
      refine vc_sr ?_
      iterate 3 refine vo ?_
      try first | refine vep ?_ | refine vpt ?_
      iterate 3 refine vo ?_
      refine vnt ?_
      refine vc_seq' ?_
      refine vc_sr ?_
      iterate 2 refine vo ?_
      refine voc c_spec_l01In rfl rfl ?_
      iterate 2 refine vo ?_
      refine vsp (fun g3 => ?_) (fun g3 => ?_)
      · iterate 4 refine vof ?_
        iterate 2 refine vo ?_
        iterate 4 refine vof ?_
        refine vo ?_
        refine vnt ?_
        refine vc_then ?_
        refine vc_sr ?_
        refine vo ?_
        refine vnt ?_
        refine vc_ret ?_
        refine thn_r ?_
        refine inB_r ?_
        refine thn_r ?_
        refine thn_r ?_
        refine inB_r ?_
        refine thn_r ?_
        refine fin_i [] rfl (fz ?_) trivial
        exact mp_bad g2 (by simp_all)
      · iterate 2 refine von ?_
        refine vocn c_spec_l01In rfl rfl ?_
        refine von ?_
        iterate 2 refine vo ?_
        refine vsp (fun g4 => ?_) (fun g4 => ?_)
        · iterate 4 refine vof ?_
          refine vo ?_
          refine vnt ?_
          refine vc_then ?_
          refine vc_sr ?_
          refine vo ?_
          refine vnt ?_
          refine vc_ret ?_
          refine thn_r ?_
          refine inB_r ?_
          refine thn_r ?_
          refine thn_r ?_
          refine inB_r ?_
          refine thn_r ?_
          refine fin_i [] rfl (fz ?_) trivial
          exact mp_bad g2 (by simp_all)
        · iterate 2 refine von ?_
          refine vocn c_spec_l01In rfl rfl ?_
          refine von ?_
          refine vo ?_
          refine vnt ?_
          refine vc_if (fun g5 => ?_) (fun g5 => ?_)
          · refine vc_sr ?_
            refine vo ?_
            refine vnt ?_
            refine vc_ret ?_
            refine thn_r ?_
            refine inB_r ?_
            refine thn_r ?_
            refine thn_r ?_
            refine inB_r ?_
            refine thn_r ?_
            refine fin_i [] rfl (fz ?_) trivial
            exact mp_bad g2 (by simp_all)
          · refine vc_skip ?_
            refine thn ?_
            refine vc_sr ?_
            refine vo ?_
            refine vnt ?_
            refine vc_block ?_
            refine vc_lp (σ := Nat) [0, 3, 4] [32] (fun j => [(5, I (j : Nat))]) (fun j => []) (fun j => j ≤ k ∧ ∀ q, q < j → ¬ ((at' l q).1 = (at' l k).1 ∧ (at' l q).2.1 = (at' l k).2.1)) (fun j => k - j) 0 rfl rfl (sub_i [] (fz ?_) (fz ?_)) ?_ fun j hJ => ?_
            · first | trivial | rfl
            · first | trivial | rfl
            · exact ⟨Nat.zero_le _, fun q h => by omega⟩
            refine vc_nf rfl rfl ?_
            refine vc_seq' ?_
            refine vc_sr ?_
            iterate 3 refine vo ?_
            refine vnt ?_
            refine vc_if (fun g6 => ?_) (fun g6 => ?_)
            · refine vc_skip ?_
              refine thn ?_
              refine vc_seq' ?_
              refine vc_block ?_
              refine vc_sr ?_
              iterate 3 refine vo ?_
              try first | refine vep ?_ | refine vpt ?_
              iterate 6 refine vo ?_
              refine vsp (fun g7 => ?_) (fun g7 => ?_)
              · iterate 3 refine von ?_
                try first | refine vep ?_ | refine vpt ?_
                iterate 5 refine von ?_
                refine vo ?_
                refine vnt ?_
                refine vc_if (fun g8 => ?_) (fun g8 => ?_)
                · refine vc_sr ?_
                  refine vo ?_
                  refine vnt ?_
                  refine vc_ret ?_
                  refine inB_r ?_
                  refine thn_r ?_
                  refine thn_r ?_
                  refine inB_r ?_
                  refine inB_r ?_
                  refine thn_r ?_
                  refine thn_r ?_
                  refine inB_r ?_
                  refine thn_r ?_
                  refine fin_i [] rfl (fz ?_) trivial
                  exact mp_dup g2 g6 g7 g8
                · refine vc_skip ?_
                  refine inB_n ?_
                  refine thn ?_
                  refine vc_region ?_
                  iterate 2 refine vo ?_
                  try refine vwr ?_
                  refine vo ?_
                  refine vnt ?_
                  refine ⟨j + 1, ?_, ?_, sub_i [] (fz ?_) (fz ?_)⟩
                  · exact ⟨by omega, nd_stp hJ.2 (by simp_all)⟩
                  · omega
                  · first | rfl | trivial
                  · first | trivial | rfl
              · iterate 8 refine vof ?_
                refine vo ?_
                refine vnt ?_
                refine vc_else ?_
                refine vc_skip ?_
                refine inB_n ?_
                refine thn ?_
                refine vc_region ?_
                iterate 2 refine vo ?_
                try refine vwr ?_
                refine vo ?_
                refine vnt ?_
                refine ⟨j + 1, ?_, ?_, sub_i [] (fz ?_) (fz ?_)⟩
                · exact ⟨by omega, nd_stp hJ.2 (by simp_all)⟩
                · omega
                · first | rfl | trivial
                · first | trivial | rfl
            · refine vc_exit ?_
              refine thn_x ?_
              refine thn_x ?_
              refine inB_x ?_
              refine inB_n ?_
              refine thn ?_
              refine vc_region ?_
              iterate 2 refine vo ?_
              try refine vwr ?_
              refine vo ?_
              refine vnt ?_
              refine ⟨k + 1, ?_, ?_, sub_i [] (fz ?_) (fz ?_)⟩
              · exact ⟨by omega, mp_stp2 hI.2 g2 g3 g4 g5 hJ.2 (by omega)⟩
              · omega
              · first | rfl | trivial
              · first | trivial | rfl
    · refine vc_exit ?_
      refine thn_x ?_
      refine thn_x ?_
      refine inB_x ?_
      refine thn ?_
      refine vc_sr ?_
      refine vo ?_
      refine vnt ?_
      refine vc_ret ?_
      refine fin_i [] rfl (fz ?_) trivial
      rw [mp_end hI.2 g2, decide_eq_true (by omega)]
end Go.Proofs.YtfcmcedeapgdcaaGreat
end
section
namespace Go.Proofs.YtfcmcedeapgdcaaGreat
open Go Go.RowKit Go.Vc
set_option linter.unusedVariables false
set_option linter.unusedSimpArgs false
set_option linter.unnecessarySimpa false
theorem vc_lp2 {P : Program} [TyEnv P] {n : Nat} {K : Post} {t t0 : Tm} {H H0 : Hp} {c : Code} {A B : Type} (live keep : List Nat) (ov : A → B → Tm) (gv : A → B → Hp) (I : A → B → Prop) (μ : A → B → Nat) (x10 : A) (x20 : B) (ht : keepF t live = some t0) (hH : keepH H keep = some H0) (hs : Sub t H (ov x10 x20 ++ t0) (gv x10 x20 ++ H0)) (h0 : I x10 x20)
    (h : ∀ x1 x2, I x1 x2 → VC P n c (thenP (fun t H => ∃ x1' x2', I x1' x2' ∧ μ x1' x2' < μ x1 x2 ∧ Sub t H (ov x1' x2' ++ t0) (gv x1' x2' ++ H0)) K) (ov x1 x2 ++ t0) (gv x1 x2 ++ H0)) : VC P n (.loop c) K t H :=
  vc_lp (σ := A × B) live keep (fun s => ov s.1 s.2) (fun s => gv s.1 s.2) (fun s => I s.1 s.2) (fun s => μ s.1 s.2) (x10, x20) ht hH hs h0 fun s hi => vc_mono (h s.1 s.2 hi) fun e t H hk => by
    cases e <;> first | exact hk | (obtain ⟨x1', x2', h1, h2, h3⟩ := hk; exact ⟨(x1', x2'), h1, h2, h3⟩)
theorem vc_lp3 {P : Program} [TyEnv P] {n : Nat} {K : Post} {t t0 : Tm} {H H0 : Hp} {c : Code} {A B C : Type} (live keep : List Nat) (ov : A → B → C → Tm) (gv : A → B → C → Hp) (I : A → B → C → Prop) (μ : A → B → C → Nat) (x10 : A) (x20 : B) (x30 : C) (ht : keepF t live = some t0) (hH : keepH H keep = some H0) (hs : Sub t H (ov x10 x20 x30 ++ t0) (gv x10 x20 x30 ++ H0)) (h0 : I x10 x20 x30)
    (h : ∀ x1 x2 x3, I x1 x2 x3 → VC P n c (thenP (fun t H => ∃ x1' x2' x3', I x1' x2' x3' ∧ μ x1' x2' x3' < μ x1 x2 x3 ∧ Sub t H (ov x1' x2' x3' ++ t0) (gv x1' x2' x3' ++ H0)) K) (ov x1 x2 x3 ++ t0) (gv x1 x2 x3 ++ H0)) : VC P n (.loop c) K t H :=
  vc_lp (σ := A × B × C) live keep (fun s => ov s.1 s.2.1 s.2.2) (fun s => gv s.1 s.2.1 s.2.2) (fun s => I s.1 s.2.1 s.2.2) (fun s => μ s.1 s.2.1 s.2.2) (x10, x20, x30) ht hH hs h0 fun s hi => vc_mono (h s.1 s.2.1 s.2.2 hi) fun e t H hk => by
    cases e <;> first | exact hk | (obtain ⟨x1', x2', x3', h1, h2, h3⟩ := hk; exact ⟨(x1', x2', x3'), h1, h2, h3⟩)
theorem vc_lp4 {P : Program} [TyEnv P] {n : Nat} {K : Post} {t t0 : Tm} {H H0 : Hp} {c : Code} {A B C D : Type} (live keep : List Nat) (ov : A → B → C → D → Tm) (gv : A → B → C → D → Hp) (I : A → B → C → D → Prop) (μ : A → B → C → D → Nat) (x10 : A) (x20 : B) (x30 : C) (x40 : D) (ht : keepF t live = some t0) (hH : keepH H keep = some H0) (hs : Sub t H (ov x10 x20 x30 x40 ++ t0) (gv x10 x20 x30 x40 ++ H0)) (h0 : I x10 x20 x30 x40)
    (h : ∀ x1 x2 x3 x4, I x1 x2 x3 x4 → VC P n c (thenP (fun t H => ∃ x1' x2' x3' x4', I x1' x2' x3' x4' ∧ μ x1' x2' x3' x4' < μ x1 x2 x3 x4 ∧ Sub t H (ov x1' x2' x3' x4' ++ t0) (gv x1' x2' x3' x4' ++ H0)) K) (ov x1 x2 x3 x4 ++ t0) (gv x1 x2 x3 x4 ++ H0)) : VC P n (.loop c) K t H :=
  vc_lp (σ := A × B × C × D) live keep (fun s => ov s.1 s.2.1 s.2.2.1 s.2.2.2) (fun s => gv s.1 s.2.1 s.2.2.1 s.2.2.2) (fun s => I s.1 s.2.1 s.2.2.1 s.2.2.2) (fun s => μ s.1 s.2.1 s.2.2.1 s.2.2.2) (x10, x20, x30, x40) ht hH hs h0 fun s hi => vc_mono (h s.1 s.2.1 s.2.2.1 s.2.2.2 hi) fun e t H hk => by
    cases e <;> first | exact hk | (obtain ⟨x1', x2', x3', x4', h1, h2, h3⟩ := hk; exact ⟨(x1', x2', x3', x4'), h1, h2, h3⟩)
def runE (r : Int × Int) : List Value := [.int .i64 r.1, .int .i64 r.2]
theorem runsOk_of {l : List Mp} {ps : Pg} {n : Int} : runsOk l ps n = (mapsOk l && (memOk ps && inB n 0 4096)) := rfl
theorem pl_ok {l : List Mp} {d a : Int} {wt : Bool} (hm : MapsOk l) (h0 : 0 ≤ placeF l d a wt) : placeF l d a wt = mpPage l d (a / 128) wt * 128 + a % 128 ∧ 0 ≤ mpPage l d (a / 128) wt ∧ mpPage l d (a / 128) wt ≤ 63 ∧ 0 ≤ a ∧ a ≤ 131071 := by
  unfold placeF at *
  have hb := mpPage_bd hm d (a / 128) wt
  split at h0
  · omega
  · rename_i h
    have hv := mpPage_v hm (d := d) (v := a / 128) (wr := wt) (by omega)
    rw [if_neg h]
    exact ⟨rfl, by omega, by omega, by omega, by omega⟩
theorem pl_no {l : List Mp} {ps : Pg} {d a : Int} {wt : Bool} {m k : Nat} (hm : MapsOk l) (hps : MemOk ps) (hk : (k : Int) = min (m : Int) (128 - a % 128)) (hm0 : 0 < m) (ha : 0 ≤ a) (h : placeF l d a wt < 0 ∨ memInB ps (placeF l d a wt) k = false) : parts l ps.length d wt a m = none := by
  refine parts_none hm0 ?_
  unfold placeF at h
  by_cases h1 : mpPage l d (a / 128) wt < 0
  · exact .inl h1
  · rw [if_neg h1] at h
    right
    rcases h with h | h
    · omega
    · rcases Int.lt_or_le (mpPage l d (a / 128) wt) ps.length with h2 | h2
      · have : memInB ps (mpPage l d (a / 128) wt * 128 + a % 128) k = true := memInB_iff.2 ⟨hps, by omega, by omega, by omega, by omega⟩
        rw [this] at h; cases h
      · exact h2
theorem pl_yes {l : List Mp} {ps : Pg} {d a : Int} {wt : Bool} {m k : Nat} {x : Option (List (Int × Int))} {out : List (Int × Int)} (hm : MapsOk l) (hk : (k : Int) = min (m : Int) (128 - a % 128)) (hm0 : 0 < m) (h0 : 0 ≤ placeF l d a wt) (h1 : memInB ps (placeF l d a wt) k = true) (hx : x = (parts l ps.length d wt a m).map (out ++ ·)) : x = (parts l ps.length d wt (a + k) (m - k)).map ((out ++ [(placeF l d a wt, (k : Int))]) ++ ·) := by
  obtain ⟨e, p0, p1, p2, p3⟩ := pl_ok hm h0
  have hb := memInB_iff.1 h1
  rw [hx, parts_some hm0 p2 p0 (by omega) hk, map_step, e]
theorem rn_no {l : List Mp} {ps : Pg} {d a n : Int} {wt : Bool} (h : runs l ps d a n wt = none) : (runs l ps d a n wt).isSome = false ∧ ((runs l ps d a n wt).getD []).map runE = [] := by rw [h]; exact ⟨rfl, rfl⟩
theorem rn_yes {l : List Mp} {ps : Pg} {d a n : Int} {wt : Bool} {out : List (Int × Int)} (h : runs l ps d a n wt = some out) : (runs l ps d a n wt).isSome = true ∧ (runs l ps d a n wt).getD [] = out := by rw [h]; exact ⟨rfl, rfl⟩
theorem rn_bad {l : List Mp} {ps : Pg} {d a n : Int} {wt : Bool} (h : mapsOk l = false ∨ memOk ps = false ∨ inB n 0 4096 = false) : runs l ps d a n wt = none := by
  refine runs_not ?_
  unfold runsOk
  rcases h with h | h | h <;> rw [h] <;> simp
theorem rn_end {l : List Mp} {ps : Pg} {d a a1 n : Int} {wt : Bool} {m : Nat} {out : List (Int × Int)} (h : runs l ps d a n wt = (parts l ps.length d wt a1 m).map (out ++ ·)) (hm : ¬ 0 < (m : Int)) : runs l ps d a n wt = some out := by
  obtain rfl : m = 0 := by omega
  rw [h, parts_zero]; simp
set_option maxHeartbeats 4000000 in
theorem c_impl_runsOf {l : List Mp} {ps : Pg} {d a n : Int} {wt : Bool} (hl : l.length ≤ 1099511627776 := by first | assumption | omega) (hp : ps.length ≤ 1099511627776 := by first | assumption | omega) (ha : a ≤ 9223372036854775807 := by omega) : Con0 Tryz.prog 81 [.one (.sl 4 (l.map mpE)), .agg [.sl 1 (ps.map strE)], I d, I a, I n, B wt] (.tup [.one (.hs 0), B (runs l ps d a n wt).isSome]) [(0, .arr 139 2 (((runs l ps d a n wt).getD []).map runE))] := by
  refine con_i Tryz.func81 Tryz.ntmps81 (t := [(0, .one (.sl 4 (l.map mpE))), (1, .agg [.sl 1 (ps.map strE)]), (2, I d), (3, I a), (4, I n), (5, B wt)]) rfl ?_
  refine vc_sr ?_
  iterate 3 refine vo ?_
  refine vnt ?_
  refine vc_seq' ?_
  refine vc_sr ?_
  refine vo ?_
  refine voc c_impl_MappingsOk rfl rfl ?_
  iterate 2 refine vo ?_
  refine vsp (fun g1 => ?_) (fun g1 => ?_)
  · iterate 3 refine vof ?_
    iterate 2 refine vo ?_
    iterate 3 refine vof ?_
    refine vo ?_
    refine vnt ?_
    refine vc_then ?_
    refine vc_sr ?_
    iterate 2 refine vo ?_
    refine vnt ?_
    refine vc_ret ?_
    refine thn_r ?_
    have hno : runs l ps d a n wt = none := rn_bad (n := n) (.inl g1)
    refine fin_i [(0, none)] rfl (fz ?_) (fz ?_)
    · exact (rn_no hno).1
    · exact (rn_no hno).2
  · have hm := mapsOk_iff.1 g1
    refine von ?_
    refine vocn c_impl_MemoryOk rfl rfl ?_
    refine von ?_
    iterate 2 refine vo ?_
    refine vsp (fun g2 => ?_) (fun g2 => ?_)
    · iterate 3 refine vof ?_
      refine vo ?_
      refine vnt ?_
      refine vc_then ?_
      refine vc_sr ?_
      iterate 2 refine vo ?_
      refine vnt ?_
      refine vc_ret ?_
      refine thn_r ?_
      have hno : runs l ps d a n wt = none := rn_bad (n := n) (.inr (.inl g2))
      refine fin_i [(0, none)] rfl (fz ?_) (fz ?_)
      · exact (rn_no hno).1
      · exact (rn_no hno).2
    · have hps := memOk_iff.1 g2
      have hpl := hps.1
      refine von ?_
      refine vocn c_impl_between rfl rfl ?_
      refine von ?_
      refine vo ?_
      refine vnt ?_
      refine vc_if (fun g3 => ?_) (fun g3 => ?_)
      · refine vc_sr ?_
        iterate 2 refine vo ?_
        refine vnt ?_
        refine vc_ret ?_
        refine thn_r ?_
        have hno : runs l ps d a n wt = none := rn_bad (n := n) (.inr (.inr g3))
        refine fin_i [(0, none)] rfl (fz ?_) (fz ?_)
        · exact (rn_no hno).1
        · exact (rn_no hno).2
      · have hn := inB_iff.1 g3
        have hr : runsOk l ps n = true := by rw [runsOk_of, g1, g2, g3]; rfl
        obtain ⟨m0, rfl⟩ := Int.eq_ofNat_of_zero_le hn.1
        refine vc_skip ?_
        refine thn ?_
        refine vc_seq' ?_
        refine vc_sr ?_
        iterate 2 refine vo ?_
        refine vnt ?_
        refine vc_if (fun g4 => ?_) (fun g4 => ?_)
        · refine vc_sr ?_
          iterate 2 refine vo ?_
          refine vnt ?_
          refine vc_ret ?_
          refine thn_r ?_
          have hy : runs l ps d a (m0 : Int) wt = some [] := by rw [runs_is hr, show m0 = 0 by omega, parts_zero]
          refine fin_i [(0, none)] rfl (fz ?_) (fz ?_)
          · exact (rn_yes hy).1
          · rw [(rn_yes hy).2]; rfl
        · refine vc_skip ?_
          refine thn ?_
          refine vc_seq' ?_
          refine vc_sr ?_
          iterate 2 refine vo ?_
          refine vnt ?_
          refine vc_if (fun g5 => ?_) (fun g5 => ?_)
          · refine vc_sr ?_
            iterate 2 refine vo ?_
            refine vnt ?_
            refine vc_ret ?_
            refine thn_r ?_
            have hno : runs l ps d a (m0 : Int) wt = none := by rw [runs_is hr]; exact parts_neg (by omega) g5
            refine fin_i [(0, none)] rfl (fz ?_) (fz ?_)
            · exact (rn_no hno).1
            · exact (rn_no hno).2
          · refine vc_skip ?_
            refine thn ?_
            refine vc_sr ?_
            iterate 2 refine vo ?_
            refine vnt ?_
            refine vc_seq' ?_
            refine vc_block ?_
            refine vc_lp3 [0, 2, 5, 7] [56] (fun (out : List (Int × Int)) (a1 : Int) (m : Nat) => [(3, I a1), (4, I (m : Int)), (14, .one (.hs 7))]) (fun (out : List (Int × Int)) (a1 : Int) (m : Nat) => [(7, .arr 139 2 (out.map runE))]) (fun (out : List (Int × Int)) (a1 : Int) (m : Nat) => 0 ≤ a1 ∧ a1 ≤ 9223372036854775807 ∧ out.length + m ≤ 4096 ∧ runs l ps d a m0 wt = (parts l ps.length d wt a1 m).map (out ++ ·)) (fun (out : List (Int × Int)) (a1 : Int) (m : Nat) => m) [] a m0 rfl rfl (sub_i [(7, some 272)] (fz ?_) (fz ?_)) ?_ fun out a1 m hI => ?_
            · first | trivial | rfl
            · first | trivial | rfl
            · exact ⟨by omega, by omega, by simp; omega, by rw [runs_is hr]; exact (map_nil_append _).symm⟩
            refine vc_nf rfl rfl ?_
            refine vc_seq' ?_
            refine vc_sr ?_
            iterate 2 refine vo ?_
            refine vnt ?_
            refine vc_if (fun g6 => ?_) (fun g6 => ?_)
            · obtain ⟨k, hk⟩ : ∃ k : Nat, (k : Int) = min (m : Int) (128 - a1 % 128) := ⟨(min (m : Int) (128 - a1 % 128)).toNat, by omega⟩
              refine vc_skip ?_
              refine thn ?_
              refine vc_block ?_
              refine vc_sr ?_
              iterate 4 refine vo ?_
              refine voc c_impl_place rfl rfl ?_
              refine vo ?_
              refine vnt ?_
              refine vc_sr ?_
              iterate 3 refine vo ?_
              try refine veq (Int.tmod_eq_emod_of_nonneg (by omega)) ?_
              refine vo ?_
              try refine vwr ?_
              refine vo ?_
              refine veq hk.symm ?_
              refine vo ?_
              refine vnt ?_
              refine vc_seq' ?_
              refine vc_sr ?_
              iterate 3 refine vo ?_
              refine vsp (fun g7 => ?_) (fun g7 => ?_)
              · iterate 5 refine vof ?_
                refine vo ?_
                refine vnt ?_
                refine vc_then ?_
                refine vc_sr ?_
                iterate 2 refine vo ?_
                refine vnt ?_
                refine vc_ret ?_
                refine thn_r ?_
                refine inB_r ?_
                refine thn_r ?_
                refine inB_r ?_
                refine thn_r ?_
                have hno : runs l ps d a (m0 : Int) wt = none := by rw [hI.2.2.2, pl_no hm hps hk (by omega) hI.1 (.inl g7)]; rfl
                refine fin_i [(0, none)] rfl (fz ?_) (fz ?_)
                · exact (rn_no hno).1
                · exact (rn_no hno).2
              · iterate 3 refine von ?_
                refine vocn c_impl_within rfl rfl ?_
                refine von ?_
                refine vo ?_
                refine vnt ?_
                refine vc_if (fun g8 => ?_) (fun g8 => ?_)
                · refine vc_sr ?_
                  iterate 2 refine vo ?_
                  refine vnt ?_
                  refine vc_ret ?_
                  refine thn_r ?_
                  refine inB_r ?_
                  refine thn_r ?_
                  refine inB_r ?_
                  refine thn_r ?_
                  have hno : runs l ps d a (m0 : Int) wt = none := by rw [hI.2.2.2, pl_no hm hps hk (by omega) hI.1 (.inr g8)]; rfl
                  refine fin_i [(0, none)] rfl (fz ?_) (fz ?_)
                  · exact (rn_no hno).1
                  · exact (rn_no hno).2
                · have hpl2 := pl_ok hm g7
                  refine vc_skip ?_
                  refine thn ?_
                  refine vc_sr ?_
                  iterate 7 refine vo ?_
                  refine vnt ?_
                  refine vc_sr ?_
                  iterate 3 refine vo ?_
                  try refine vwr ?_
                  refine vo ?_
                  refine vnt ?_
                  refine vc_sr ?_
                  iterate 3 refine vo ?_
                  try refine vwr ?_
                  refine vo ?_
                  refine vnt ?_
                  refine vc_sr ?_
                  iterate 3 refine vo ?_
                  refine vsp (fun g9 => ?_) (fun g9 => ?_)
                  · iterate 2 refine von ?_
                    refine vo ?_
                    refine vnt ?_
                    refine vc_if (fun g10 => ?_) (fun g10 => ?_)
                    · refine vc_sr ?_
                      iterate 2 refine vo ?_
                      refine vnt ?_
                      refine vc_ret ?_
                      refine inB_r ?_
                      refine thn_r ?_
                      refine inB_r ?_
                      refine thn_r ?_
                      exfalso; omega
                    · refine vc_skip ?_
                      refine inB_n ?_
                      refine thn ?_
                      refine ⟨out ++ [(placeF l d a1 wt, (k : Int))], a1 + k, m - k, ?_, ?_, sub_i [(7, some (8 * 61))] (fz ?_) (fz ?_)⟩
                      · exact ⟨by omega, by omega, by simp; omega, pl_yes hm hk (by omega) g7 g8 hI.2.2.2⟩
                      · omega
                      · first | trivial | rfl | omega
                      · first | trivial | rfl | (simp [runE])
                  · iterate 2 refine vof ?_
                    refine vo ?_
                    refine vnt ?_
                    refine vc_else ?_
                    refine vc_skip ?_
                    refine inB_n ?_
                    refine thn ?_
                    refine ⟨out ++ [(placeF l d a1 wt, (k : Int))], a1 + k, m - k, ?_, ?_, sub_i [(7, some (8 * 61))] (fz ?_) (fz ?_)⟩
                    · exact ⟨by omega, by omega, by simp; omega, pl_yes hm hk (by omega) g7 g8 hI.2.2.2⟩
                    · omega
                    · first | trivial | rfl | omega
                    · first | trivial | rfl | (simp [runE])
            · refine vc_exit ?_
              refine thn_x ?_
              refine thn_x ?_
              refine inB_x ?_
              refine thn ?_
              refine vc_sr ?_
              iterate 3 refine vo ?_
              refine vnt ?_
              refine vc_ret ?_
              have hy := rn_end hI.2.2.2 (by omega)
              refine fin_i [(0, some 7)] rfl (fz ?_) (fz ?_)
              · exact (rn_yes hy).1
              · rw [(rn_yes hy).2]
theorem pg_out {l : List Mp} {ps : Pg} {d a : Int} {wt : Bool} {m : Nat} (hps : MemOk ps) (hm0 : 0 < m) (h0 : 0 ≤ mpPage l d (a / 128) wt) (h : memInB ps (mpPage l d (a / 128) wt * 128) 128 = false) : parts l ps.length d wt a m = none := by
  refine parts_none hm0 (.inr ?_)
  rcases Int.lt_or_le (mpPage l d (a / 128) wt) ps.length with h2 | h2
  · have : memInB ps (mpPage l d (a / 128) wt * 128) 128 = true := memInB_iff.2 ⟨hps, by omega, by omega, by omega, by omega⟩
    rw [this] at h; cases h
  · exact h2
theorem pg_in {l : List Mp} {ps : Pg} {d a : Int} {wt : Bool} {m k : Nat} {x : Option (List (Int × Int))} {out : List (Int × Int)} (hk : (k : Int) = min (m : Int) (128 - a % 128)) (hm0 : 0 < m) (ha : 0 ≤ a) (h0 : 0 ≤ mpPage l d (a / 128) wt) (h1 : memInB ps (mpPage l d (a / 128) wt * 128) 128 = true) (hx : x = (parts l ps.length d wt a m).map (out ++ ·)) : x = (parts l ps.length d wt (a + k) (m - k)).map ((out ++ [(mpPage l d (a / 128) wt * 128 + a % 128, (k : Int))]) ++ ·) := by
  have hb := memInB_iff.1 h1
  rw [hx, parts_some hm0 ha h0 (by omega) hk, map_step]
theorem pg_v {l : List Mp} {d a : Int} {wt : Bool} (hm : MapsOk l) (h0 : 0 ≤ mpPage l d (a / 128) wt) : mpPage l d (a / 128) wt ≤ 63 ∧ a ≤ 131071 := by
  have := mpPage_bd hm d (a / 128) wt
  have := mpPage_v hm h0
  omega
theorem rn_no2 {l : List Mp} {ps : Pg} {d a n : Int} {wt : Bool} (h : runs l ps d a n wt = none) : (runs l ps d a n wt).isSome = false ∧ (runs l ps d a n wt).getD [] = [] := by rw [h]; exact ⟨rfl, rfl⟩
set_option maxHeartbeats 4000000 in
theorem c_spec_l17Parts {l : List Mp} {ps : Pg} {d a n : Int} {wt : Bool} (hl : l.length ≤ 1099511627776 := by first | assumption | omega) (hp : ps.length ≤ 1099511627776 := by first | assumption | omega) (ha : a ≤ 9223372036854775807 := by omega) : Con0 Tryz.prog 121 [.one (.sl 4 (l.map mpE)), .agg [.sl 1 (ps.map strE)], I d, I a, I n, B wt] (.tup [.one (.hs 0), .one (.hs 1), B (runs l ps d a n wt).isSome]) [(0, .arr 3 1 ((((runs l ps d a n wt).getD []).map (·.1)).map intE)), (1, .arr 3 1 ((((runs l ps d a n wt).getD []).map (·.2)).map intE))] := by
  refine con_i Tryz.func121 Tryz.ntmps121 (t := [(0, .one (.sl 4 (l.map mpE))), (1, .agg [.sl 1 (ps.map strE)]), (2, I d), (3, I a), (4, I n), (5, B wt)]) rfl ?_
  refine vc_sr ?_
  iterate 4 refine vo ?_
  refine vnt ?_
  refine vc_sr ?_
  iterate 2 refine vo ?_
  refine vnt ?_
  refine vc_sr ?_
  iterate 2 refine vo ?_
  refine vnt ?_
  refine vc_seq' ?_
  refine vc_sr ?_
  refine vo ?_
  refine voc c_spec_MappingsOk rfl rfl ?_
  iterate 2 refine vo ?_
  refine vsp (fun g1 => ?_) (fun g1 => ?_)
  · iterate 3 refine vof ?_
    iterate 2 refine vo ?_
    iterate 3 refine vof ?_
    refine vo ?_
    refine vnt ?_
    refine vc_then ?_
    refine vc_sr ?_
    iterate 5 refine vo ?_
    refine vnt ?_
    refine vc_ret ?_
    refine thn_r ?_
    have hno : runs l ps d a n wt = none := rn_bad (n := n) (.inl g1)
    refine fin_i [(0, some 160), (1, some 168)] rfl (fz ?_) (fz ?_)
    · exact (rn_no2 hno).1
    · rw [(rn_no2 hno).2]; first | trivial | rfl | exact ⟨rfl, rfl⟩
  · have hm := mapsOk_iff.1 g1
    refine von ?_
    refine vocn c_spec_MemoryOk rfl rfl ?_
    refine von ?_
    iterate 2 refine vo ?_
    refine vsp (fun g2 => ?_) (fun g2 => ?_)
    · iterate 3 refine vof ?_
      refine vo ?_
      refine vnt ?_
      refine vc_then ?_
      refine vc_sr ?_
      iterate 5 refine vo ?_
      refine vnt ?_
      refine vc_ret ?_
      refine thn_r ?_
      have hno : runs l ps d a n wt = none := rn_bad (n := n) (.inr (.inl g2))
      refine fin_i [(0, some 160), (1, some 168)] rfl (fz ?_) (fz ?_)
      · exact (rn_no2 hno).1
      · rw [(rn_no2 hno).2]; first | trivial | rfl | exact ⟨rfl, rfl⟩
    · have hps := memOk_iff.1 g2
      have hpl := hps.1
      refine von ?_
      refine vocn c_spec_l01In rfl rfl ?_
      refine von ?_
      refine vo ?_
      refine vnt ?_
      refine vc_if (fun g3 => ?_) (fun g3 => ?_)
      · refine vc_sr ?_
        iterate 5 refine vo ?_
        refine vnt ?_
        refine vc_ret ?_
        refine thn_r ?_
        have hno : runs l ps d a n wt = none := rn_bad (n := n) (.inr (.inr g3))
        refine fin_i [(0, some 160), (1, some 168)] rfl (fz ?_) (fz ?_)
        · exact (rn_no2 hno).1
        · rw [(rn_no2 hno).2]; first | trivial | rfl | exact ⟨rfl, rfl⟩
      · have hn := inB_iff.1 g3
        have hr : runsOk l ps n = true := by rw [runsOk_of, g1, g2, g3]; rfl
        obtain ⟨m0, rfl⟩ := Int.eq_ofNat_of_zero_le hn.1
        refine vc_skip ?_
        refine thn ?_
        refine vc_seq' ?_
        refine vc_block ?_
        refine vc_lp3 [0, 2, 5, 7] [56] (fun (out : List (Int × Int)) (a1 : Int) (m : Nat) => [(3, I a1), (4, I (m : Int)), (15, .one (.hs 6)), (16, .one (.hs 7))]) (fun (out : List (Int × Int)) (a1 : Int) (m : Nat) => [(6, .arr 3 1 ((out.map (·.1)).map intE)), (7, .arr 3 1 ((out.map (·.2)).map intE))]) (fun (out : List (Int × Int)) (a1 : Int) (m : Nat) => a1 ≤ 9223372036854775807 ∧ out.length + m ≤ 4096 ∧ runs l ps d a m0 wt = (parts l ps.length d wt a1 m).map (out ++ ·)) (fun (out : List (Int × Int)) (a1 : Int) (m : Nat) => m) [] a m0 rfl rfl (sub_i [(6, some 160), (7, some 168)] (fz ?_) (fz ?_)) ?_ fun out a1 m hI => ?_
        · first | trivial | rfl
        · first | trivial | rfl | exact ⟨rfl, rfl⟩
        · exact ⟨by omega, by simp; omega, by rw [runs_is hr]; exact (map_nil_append _).symm⟩
        refine vc_nf rfl rfl ?_
        refine vc_seq' ?_
        refine vc_sr ?_
        iterate 2 refine vo ?_
        refine vnt ?_
        refine vc_if (fun g4 => ?_) (fun g4 => ?_)
        · refine vc_skip ?_
          refine thn ?_
          refine vc_block ?_
          refine vc_sr ?_
          refine vo ?_
          refine vnt ?_
          refine vc_seq' ?_
          refine vc_sr ?_
          iterate 2 refine vo ?_
          refine vnt ?_
          refine vc_if (fun g5 => ?_) (fun g5 => ?_)
          · obtain ⟨k, hk⟩ : ∃ k : Nat, (k : Int) = min (m : Int) (128 - a1 % 128) := ⟨(min (m : Int) (128 - a1 % 128)).toNat, by omega⟩
            refine vc_region ?_
            iterate 4 refine vo ?_
            try refine veq (IntWalk.i64_quo _ _ (by omega)) ?_
            refine vo ?_
            refine voc c_spec_l17Page rfl rfl ?_
            refine vo ?_
            refine vnt ?_
            refine vc_sr ?_
            iterate 2 refine vo ?_
            try refine veq (Int.tmod_eq_emod_of_nonneg (by omega)) ?_
            refine vo ?_
            refine vnt ?_
            refine vc_seq' ?_
            refine vc_sr ?_
            iterate 3 refine vo ?_
            refine vsp (fun g6 => ?_) (fun g6 => ?_)
            · iterate 5 refine vof ?_
              refine vo ?_
              refine vnt ?_
              refine vc_then ?_
              refine vc_sr ?_
              iterate 5 refine vo ?_
              refine vnt ?_
              refine vc_ret ?_
              refine thn_r ?_
              refine inB_r ?_
              refine thn_r ?_
              refine inB_r ?_
              refine thn_r ?_
              have hno : runs l ps d a (m0 : Int) wt = none := by rw [hI.2.2, parts_none (by omega) (.inl g6)]; rfl
              refine fin_i [(0, some 464), (1, some 472)] rfl (fz ?_) (fz ?_)
              · exact (rn_no2 hno).1
              · rw [(rn_no2 hno).2]; first | trivial | rfl | exact ⟨rfl, rfl⟩
            · have hv := pg_v hm g6
              iterate 3 refine von ?_
              try refine vwr ?_
              refine vocn c_spec_l16Within rfl rfl ?_
              refine von ?_
              refine vo ?_
              refine vnt ?_
              refine vc_if (fun g7 => ?_) (fun g7 => ?_)
              · refine vc_sr ?_
                iterate 5 refine vo ?_
                refine vnt ?_
                refine vc_ret ?_
                refine thn_r ?_
                refine inB_r ?_
                refine thn_r ?_
                refine inB_r ?_
                refine thn_r ?_
                have hno : runs l ps d a (m0 : Int) wt = none := by rw [hI.2.2, pg_out hps (by omega) g6 g7]; rfl
                refine fin_i [(0, some 464), (1, some 472)] rfl (fz ?_) (fz ?_)
                · exact (rn_no2 hno).1
                · rw [(rn_no2 hno).2]; first | trivial | rfl | exact ⟨rfl, rfl⟩
              · refine vc_skip ?_
                refine thn ?_
                refine vc_sr ?_
                iterate 3 refine vo ?_
                try refine vwr ?_
                refine vo ?_
                refine veq hk.symm ?_
                refine vo ?_
                refine vnt ?_
                refine vc_sr ?_
                iterate 3 refine vo ?_
                try refine vwr ?_
                iterate 2 refine vo ?_
                try refine vwr ?_
                iterate 3 refine vo ?_
                refine vnt ?_
                refine vc_sr ?_
                iterate 5 refine vo ?_
                refine vnt ?_
                refine vc_sr ?_
                iterate 3 refine vo ?_
                try refine vwr ?_
                refine vo ?_
                refine vnt ?_
                refine vc_region ?_
                iterate 3 refine vo ?_
                try refine vwr ?_
                refine vo ?_
                refine vnil ?_
                refine inB_n ?_
                refine thn ?_
                refine ⟨out ++ [(mpPage l d (a1 / 128) wt * 128 + a1 % 128, (k : Int))], a1 + k, m - k, ?_, ?_, sub_i [(6, some 560), (7, some 592)] (fz ?_) (fz ?_)⟩
                · exact ⟨by omega, by simp; omega, pg_in hk (by omega) g5 g6 g7 hI.2.2⟩
                · omega
                · first | trivial | rfl | omega
                · first | trivial | rfl | (simp [intE])
          · refine vc_skip ?_
            refine thn ?_
            refine vc_sr ?_
            iterate 2 refine vo ?_
            try refine veq (Int.tmod_eq_emod_of_nonneg (by omega)) ?_
            refine vo ?_
            refine vnt ?_
            refine vc_seq' ?_
            refine vc_sr ?_
            iterate 3 refine vo ?_
            refine vsp (fun g8 => ?_) (fun g8 => ?_)
            · iterate 5 refine vof ?_
              refine vo ?_
              refine vnt ?_
              refine vc_then ?_
              refine vc_sr ?_
              iterate 5 refine vo ?_
              refine vnt ?_
              refine vc_ret ?_
              refine thn_r ?_
              refine inB_r ?_
              refine thn_r ?_
              refine inB_r ?_
              refine thn_r ?_
              have hno : runs l ps d a (m0 : Int) wt = none := by rw [hI.2.2, parts_neg (by omega) g5]; rfl
              refine fin_i [(0, some 464), (1, some 472)] rfl (fz ?_) (fz ?_)
              · exact (rn_no2 hno).1
              · rw [(rn_no2 hno).2]; first | trivial | rfl | exact ⟨rfl, rfl⟩
            · exfalso; omega
        · refine vc_exit ?_
          refine thn_x ?_
          refine thn_x ?_
          refine inB_x ?_
          refine thn ?_
          refine vc_sr ?_
          iterate 5 refine vo ?_
          refine vnt ?_
          refine vc_ret ?_
          have hy := rn_end hI.2.2 (by omega)
          refine fin_i [(0, some 6), (1, some 7)] rfl (fz ?_) (fz ?_)
          · exact (rn_yes hy).1
          · rw [(rn_yes hy).2]; first | trivial | rfl | exact ⟨rfl, rfl⟩
end Go.Proofs.YtfcmcedeapgdcaaGreat
end
section
namespace Go.Proofs.YtfcmcedeapgdcaaGreat
open Go Go.RowKit Go.Vc
set_option linter.unusedVariables false
set_option linter.unusedSimpArgs false
set_option linter.unnecessarySimpa false
section
variable {P : Program} [TyEnv P] {n : Nat} {ops os : List Oper} {dr : Bool} {K : Tm → Hp → Prop} {t : Tm} {H : Hp} {fp : List Fp} {d : Nat}
theorem vlb {s : ByteArray} (h : Vd P n ops dr K os ((d, .one (.v (.int .i64 (s.size : Int)))) :: t) H fp) : Vd P n ops dr K os ((d, .one (.v (.int .i64 ((bytesE s).length : Int)))) :: t) H fp := by
  rw [bytesE_len]; exact h
end
theorem pg_at {ps : Pg} {a : Int} (h0 : 0 ≤ a) (h : a / 128 < (ps.length : Int)) : at' ps (a / 128).toNat = pageAt ps a := by
  unfold at' pageAt
  rw [List.getD_eq_getElem?_getD, List.getElem?_eq_getElem (show (a / 128).toNat < ps.length by omega)]; rfl
theorem seg_in {ps : Pg} {a n : Int} (hm : MemOk ps) (hs : Seg ps.length (a, n)) : memInB ps a n = true := by
  obtain ⟨h0, h1, h2, h3⟩ := hs
  simp only at h0 h1 h2 h3
  exact memInB_iff.2 ⟨hm, by omega, by omega, by omega, by omega⟩
theorem seg_rd {ps : Pg} {a n k : Int} (hm : MemOk ps) (hs : Seg ps.length (a, n)) (hk : k = a % 128 + n) : (at' ps (a / 128).toNat).extract (a % 128).toNat k.toNat = readSeg ps (a, n) := by
  obtain ⟨h0, h1, h2, h3⟩ := hs
  simp only at h0 h1 h2 h3
  rw [pg_at h0 h3, readSeg]
  simp only
  rw [show (a % 128).toNat + n.toNat = k.toNat by omega]
theorem seg_pg {ps : Pg} {a n : Int} (hm : MemOk ps) (hs : Seg ps.length (a, n)) : (at' ps (a / 128).toNat).size = 128 := by
  obtain ⟨h0, h1, h2, h3⟩ := hs
  obtain ⟨g, e, he⟩ := hm.page h0 h3
  rw [pg_at h0 h3]; exact he
theorem seg_sz {ps : Pg} {a n : Int} (hm : MemOk ps) (hs : Seg ps.length (a, n)) : ((readSeg ps (a, n)).size : Int) = n := by
  rw [readSeg_size hm hs]
  have := hs.2.1
  simp only at this ⊢
  omega
theorem rd_go {ps : Pg} {a b n : Int} {o : ByteArray} (hm : MemOk ps) (hs : Seg ps.length (a, n)) (h : (o = ⟨#[]⟩ ∧ b = a) ∨ (o = readSeg ps (a, n) ∧ b = a + n)) (g : (o.size : Int) < n) : o = ⟨#[]⟩ ∧ a = b := by
  rcases h with h | ⟨rfl, rfl⟩
  · exact ⟨h.1, h.2.symm⟩
  · have := seg_sz hm hs
    omega
theorem rd_end {ps : Pg} {a b n : Int} {o : ByteArray} (hs : Seg ps.length (a, n)) (h : (o = ⟨#[]⟩ ∧ b = a) ∨ (o = readSeg ps (a, n) ∧ b = a + n)) (g : n ≤ (o.size : Int)) : o = readSeg ps (a, n) := by
  rcases h with ⟨rfl, rfl⟩ | h
  · have := hs.2.1
    have e : (ByteArray.size ⟨#[]⟩ : Int) = 0 := rfl
    simp only at this
    omega
  · exact h.1
set_option maxHeartbeats 4000000 in
theorem c_impl_ReadMemory {ps : Pg} {a n : Int} (hm : MemOk ps := by assumption) (hs : Seg ps.length (a, n) := by assumption) : Con0 Tryz.prog 82 [.agg [.sl 1 (ps.map strE)], I a, I n] (.tup [Z (readSeg ps (a, n)), B true]) [] := by
  have hw := seg_in hm hs
  have hz := seg_sz hm hs
  have hg := seg_pg hm hs
  have hs1 : 0 ≤ a ∧ 1 ≤ n ∧ a % 128 + n ≤ 128 ∧ a / 128 < (ps.length : Int) := hs
  have hl := hm.1
  have hb0 : (bytesE ⟨#[]⟩).length = 0 := rfl
  have hb1 := bytesE_len (readSeg ps (a, n))
  have he : ByteArray.size ⟨#[]⟩ = 0 := rfl
  refine con_i Tryz.func82 Tryz.ntmps82 (t := [(0, .agg [.sl 1 (ps.map strE)]), (1, I a), (2, I n)]) rfl ?_
  refine vc_sr ?_
  iterate 3 refine vo ?_
  refine vnt ?_
  refine vc_seq' ?_
  refine vc_sr ?_
  iterate 3 refine vo ?_
  refine voc c_impl_within rfl rfl ?_
  refine vo ?_
  refine vnt ?_
  refine vc_if (fun g1 => ?_) (fun g1 => ?_)
  · rw [hw] at g1; cases g1
  · refine vc_skip ?_
    refine thn ?_
    refine vc_sr ?_
    iterate 3 refine vo ?_
    refine vnt ?_
    refine vc_seq' ?_
    refine vc_block ?_
    refine vc_lp2 [2, 3] [24] (fun (o : ByteArray) (b : Int) => [(1, I b), (8, .one (.hs 7))]) (fun (o : ByteArray) (b : Int) => [(7, .arr 5 1 (bytesE o))]) (fun (o : ByteArray) (b : Int) => (o = ⟨#[]⟩ ∧ b = a) ∨ (o = readSeg ps (a, n) ∧ b = a + n)) (fun (o : ByteArray) (b : Int) => (n - o.size).toNat) ⟨#[]⟩ a rfl rfl (sub_i [(7, some 144)] (fz ?_) (fz ?_)) ?_ fun o b hI => ?_
    · first | trivial | rfl
    · first | trivial | rfl
    · exact .inl ⟨rfl, rfl⟩
    refine vc_nf rfl rfl ?_
    refine vc_seq' ?_
    refine vc_sr ?_
    iterate 2 refine vo ?_
    try first | refine vlb ?_ | refine vln ?_
    iterate 2 refine vo ?_
    refine vnt ?_
    refine vc_if (fun g2 => ?_) (fun g2 => ?_)
    · obtain ⟨rfl, rfl⟩ := rd_go hm hs hI g2
      refine vc_skip ?_
      refine thn ?_
      refine vc_block ?_
      refine vc_sr ?_
      iterate 4 refine vo ?_
      try refine veq (IntWalk.i64_quo _ _ (by omega)) ?_
      refine vo ?_
      try with_reducible (first | refine vep ?_ | refine vpt ?_)
      iterate 2 refine vo ?_
      refine vnt ?_
      refine vc_sr ?_
      iterate 2 refine vo ?_
      try refine veq (Int.tmod_eq_emod_of_nonneg (by omega)) ?_
      refine vo ?_
      refine vnt ?_
      refine vc_sr ?_
      iterate 5 refine vo ?_
      try refine vwr ?_
      iterate 2 refine vo ?_
      try first | refine vlb ?_ | refine vln ?_
      refine veq (show (ByteArray.size ⟨#[]⟩ : Int) = 0 from rfl) ?_
      refine vo ?_
      try refine vwr ?_
      iterate 2 refine vo ?_
      refine vstr (seg_rd hm hs (by omega)) ?_
      refine vo ?_
      refine vnt ?_
      refine vc_sr ?_
      iterate 4 refine vo ?_
      refine vnt ?_
      refine vc_region ?_
      iterate 3 refine vo ?_
      refine veq hz ?_
      refine vo ?_
      try refine vwr ?_
      refine vo ?_
      refine vnil ?_
      refine inB_n ?_
      refine thn ?_
      refine ⟨readSeg ps (a, n), a + n, ?_, ?_, sub_i [(7, some 344)] (fz ?_) (fz ?_)⟩
      · exact .inr ⟨rfl, rfl⟩
      · rw [hz, show ((ByteArray.size ⟨#[]⟩ : Nat) : Int) = 0 from rfl]; omega
      · first | trivial | rfl
      · first | trivial | rfl | (simp [bytesE_nil])
    · obtain rfl := rd_end hs hI g2
      refine vc_exit ?_
      refine thn_x ?_
      refine thn_x ?_
      refine inB_x ?_
      refine thn ?_
      refine vc_sr ?_
      iterate 4 refine vo ?_
      refine vnt ?_
      refine vc_ret ?_
      refine fin_i [] rfl (fz ?_) trivial
      rw [ofE_bytesE]
      try exact ⟨rfl, rfl⟩
theorem seg_wr {ps : Pg} {a : Int} {S : ByteArray} (hs : Seg ps.length (a, (S.size : Int))) : (writeSeg ps a S).map strE = (ps.map strE).set (a / 128).toNat [.string (putB (at' ps (a / 128).toNat) (a % 128).toNat S)] := by
  obtain ⟨h0, h1, h2, h3⟩ := hs
  rw [pg_at h0 h3, writeSeg, List.map_set]; rfl
theorem seg_wr2 {ps : Pg} {a : Int} {S : ByteArray} (hm : MemOk ps) (hs : Seg ps.length (a, (S.size : Int))) : (writeSeg ps a S).map strE = (ps.map strE).set (a / 128).toNat [.string (putBF (at' ps (a / 128).toNat) (a % 128) S)] := by
  rw [seg_wr hs]
  have hg := seg_pg hm hs
  obtain ⟨h0, h1, h2, h3⟩ := hs
  simp only at h2
  have e : (a % 128) = ((a % 128).toNat : Nat) := by omega
  rw [show putBF (at' ps (a / 128).toNat) (a % 128) S = putB (at' ps (a / 128).toNat) (a % 128).toNat S by
    conv => lhs; rw [e]
    exact putBF_in (by omega)]
theorem ex_full (S : ByteArray) : S.extract (Int.toNat (S.size : Nat)) S.size = ⟨#[]⟩ := ba_full S
theorem ex_all (S : ByteArray) : S.extract (Int.toNat 0) (Int.toNat (S.size : Nat)) = S := ba_all S
set_option maxHeartbeats 4000000 in
theorem c_impl_WriteMemory {ps : Pg} {a : Int} {S : ByteArray} (hm : MemOk ps := by assumption) (hs : Seg ps.length (a, (S.size : Int)) := by assumption) : Con0 Tryz.prog 132 [.agg [.sl 1 (ps.map strE)], I a, Z S] (.tup [.agg [.hs 0], B true]) [(0, .arr 9 1 ((writeSeg ps a S).map strE))] := by
  have hw := seg_in hm hs
  have hg := seg_pg hm hs
  have hs1 : 0 ≤ a ∧ 1 ≤ (S.size : Int) ∧ a % 128 + S.size ≤ 128 ∧ a / 128 < (ps.length : Int) := hs
  have hl := hm.1
  have he : ByteArray.size ⟨#[]⟩ = 0 := rfl
  have hs2 : S.size ≤ 1099511627776 := by omega
  have hg2 : (at' ps (a / 128).toNat).size ≤ 1099511627776 := by omega
  refine con_i Tryz.func132 Tryz.ntmps132 (t := [(0, .agg [.sl 1 (ps.map strE)]), (1, I a), (2, Z S)]) rfl ?_
  refine vc_sr ?_
  iterate 3 refine vo ?_
  refine vnt ?_
  refine vc_sr ?_
  refine vo ?_
  refine voc c_impl_copyMemory rfl rfl ?_
  iterate 2 refine vo ?_
  refine vnt ?_
  refine vc_seq' ?_
  refine vc_sr ?_
  iterate 4 refine vo ?_
  refine voc c_impl_within rfl rfl ?_
  refine vo ?_
  refine vnt ?_
  refine vc_if (fun g1 => ?_) (fun g1 => ?_)
  · rw [hw] at g1; cases g1
  · refine vc_skip ?_
    refine thn ?_
    refine vc_seq' ?_
    refine vc_block ?_
    refine vc_lp3 [6, 8] [48, 64] (fun (q : Pg) (b : Int) (s : ByteArray) => [(1, I b), (2, Z s)]) (fun (q : Pg) (b : Int) (s : ByteArray) => [(96, .arr 9 1 (q.map strE))]) (fun (q : Pg) (b : Int) (s : ByteArray) => (q = ps ∧ b = a ∧ s = S) ∨ (q = writeSeg ps a S ∧ b = a + S.size ∧ s = ⟨#[]⟩)) (fun (q : Pg) (b : Int) (s : ByteArray) => s.size) ps a S rfl rfl (sub_i [] (fz ?_) (fz ?_)) ?_ fun q b s hI => ?_
    · first | trivial | rfl
    · first | trivial | rfl
    · exact .inl ⟨rfl, rfl, rfl⟩
    refine vc_nf rfl rfl ?_
    refine vc_seq' ?_
    refine vc_sr ?_
    iterate 3 refine vo ?_
    refine vnt ?_
    refine vc_if (fun g2 => ?_) (fun g2 => ?_)
    · obtain ⟨rfl, rfl, rfl⟩ : ps = q ∧ a = b ∧ S = s := by rcases hI with h | h <;> first | exact ⟨h.1.symm, h.2.1.symm, h.2.2.symm⟩ | (exfalso; rw [h.2.2] at g2; simp at g2; omega)
      refine vc_skip ?_
      refine thn ?_
      refine vc_block ?_
      refine vc_sr ?_
      iterate 4 refine vo ?_
      try refine veq (IntWalk.i64_quo _ _ (by omega)) ?_
      refine vo ?_
      try with_reducible (first | refine vep ?_ | refine vpt ?_)
      iterate 3 refine vo ?_
      refine vnt ?_
      refine vc_sr ?_
      iterate 3 refine vo ?_
      try refine veq (Int.tmod_eq_emod_of_nonneg (by omega)) ?_
      iterate 4 refine vo ?_
      refine vnt ?_
      refine vc_sr ?_
      iterate 4 refine vo ?_
      try refine veq (IntWalk.i64_quo _ _ (by omega)) ?_
      iterate 3 refine vo ?_
      try with_reducible (first | refine vep ?_ | refine vpt ?_)
      refine vo ?_
      refine vnt ?_
      refine vc_sr ?_
      iterate 3 refine vo ?_
      refine vstr (ex_full S) ?_
      refine vo ?_
      refine vnt ?_
      refine vc_region ?_
      iterate 3 refine vo ?_
      try refine vwr ?_
      refine vo ?_
      refine vnil ?_
      refine inB_n ?_
      refine thn ?_
      refine ⟨writeSeg ps a S, a + S.size, ⟨#[]⟩, ?_, ?_, sub_i [] (fz ?_) (fz ?_)⟩
      · exact .inr ⟨rfl, rfl, rfl⟩
      · omega
      · first | trivial | rfl
      · first | exact seg_wr hs | exact seg_wr2 hm hs
    · obtain rfl : q = writeSeg ps a S := by rcases hI with h | h <;> first | exact h.1 | (exfalso; rw [h.2.2] at g2; omega)
      refine vc_exit ?_
      refine thn_x ?_
      refine thn_x ?_
      refine inB_x ?_
      refine thn ?_
      refine vc_sr ?_
      iterate 3 refine vo ?_
      refine vnt ?_
      refine vc_ret ?_
      refine fin_i [(0, some 96)] rfl (fz ?_) (fz ?_) <;> first | trivial | rfl
set_option maxHeartbeats 4000000 in
theorem c_spec_WriteMemory {ps : Pg} {a : Int} {S : ByteArray} (hm : MemOk ps := by assumption) (hs : Seg ps.length (a, (S.size : Int)) := by assumption) : Con0 Tryz.prog 122 [.agg [.sl 1 (ps.map strE)], I a, Z S] (.tup [.agg [.hs 0], B true]) [(0, .arr 9 1 ((writeSeg ps a S).map strE))] := by
  have hw := seg_in hm hs
  have hg := seg_pg hm hs
  have hs1 : 0 ≤ a ∧ 1 ≤ (S.size : Int) ∧ a % 128 + S.size ≤ 128 ∧ a / 128 < (ps.length : Int) := hs
  have hl := hm.1
  have he : ByteArray.size ⟨#[]⟩ = 0 := rfl
  have hs2 : S.size ≤ 1099511627776 := by omega
  have hg2 : (at' ps (a / 128).toNat).size ≤ 1099511627776 := by omega
  refine con_i Tryz.func122 Tryz.ntmps122 (t := [(0, .agg [.sl 1 (ps.map strE)]), (1, I a), (2, Z S)]) rfl ?_
  refine vc_sr ?_
  iterate 3 refine vo ?_
  refine vnt ?_
  refine vc_sr ?_
  refine vo ?_
  refine voc c_spec_l16Copy rfl rfl ?_
  iterate 2 refine vo ?_
  refine vnt ?_
  refine vc_seq' ?_
  refine vc_sr ?_
  iterate 4 refine vo ?_
  refine voc c_spec_l16Within rfl rfl ?_
  refine vo ?_
  refine vnt ?_
  refine vc_if (fun g1 => ?_) (fun g1 => ?_)
  · rw [hw] at g1; cases g1
  · refine vc_skip ?_
    refine thn ?_
    refine vc_seq' ?_
    refine vc_block ?_
    refine vc_lp3 [6, 8] [48, 64] (fun (q : Pg) (b : Int) (s : ByteArray) => [(1, I b), (2, Z s)]) (fun (q : Pg) (b : Int) (s : ByteArray) => [(96, .arr 9 1 (q.map strE))]) (fun (q : Pg) (b : Int) (s : ByteArray) => (q = ps ∧ b = a ∧ s = S) ∨ (q = writeSeg ps a S ∧ b = a + S.size ∧ s = ⟨#[]⟩)) (fun (q : Pg) (b : Int) (s : ByteArray) => s.size) ps a S rfl rfl (sub_i [] (fz ?_) (fz ?_)) ?_ fun q b s hI => ?_
    · first | trivial | rfl
    · first | trivial | rfl
    · exact .inl ⟨rfl, rfl, rfl⟩
    refine vc_nf rfl rfl ?_
    refine vc_seq' ?_
    refine vc_sr ?_
    iterate 3 refine vo ?_
    refine vnt ?_
    refine vc_if (fun g2 => ?_) (fun g2 => ?_)
    · obtain ⟨rfl, rfl, rfl⟩ : ps = q ∧ a = b ∧ S = s := by rcases hI with h | h <;> first | exact ⟨h.1.symm, h.2.1.symm, h.2.2.symm⟩ | (exfalso; rw [h.2.2] at g2; simp at g2; omega)
      refine vc_skip ?_
      refine thn ?_
      refine vc_block ?_
      refine vc_sr ?_
      iterate 2 refine vo ?_
      try refine veq (Int.tmod_eq_emod_of_nonneg (by omega)) ?_
      refine vo ?_
      refine vnt ?_
      refine vc_sr ?_
      iterate 4 refine vo ?_
      try refine vwr ?_
      refine vo ?_
      refine veq (show min (S.size : Int) (128 - a % 128) = S.size by omega) ?_
      refine vo ?_
      refine vnt ?_
      refine vc_sr ?_
      iterate 4 refine vo ?_
      try refine veq (IntWalk.i64_quo _ _ (by omega)) ?_
      iterate 4 refine vo ?_
      try refine veq (IntWalk.i64_quo _ _ (by omega)) ?_
      refine vo ?_
      try with_reducible (first | refine vep ?_ | refine vpt ?_)
      iterate 5 refine vo ?_
      refine vstr (ex_all S) ?_
      refine voc c_spec_PutBytes rfl rfl ?_
      refine vzs (Nat.le_of_eq (putBF_le _ _ _)) fun z1 => ?_
      refine vo ?_
      try with_reducible (first | refine vep ?_ | refine vpt ?_)
      refine vo ?_
      refine vnt ?_
      refine vc_sr ?_
      iterate 3 refine vo ?_
      try refine vwr ?_
      refine vo ?_
      refine vnt ?_
      refine vc_region ?_
      iterate 3 refine vo ?_
      refine vstr (ex_full S) ?_
      refine vo ?_
      refine vnil ?_
      refine inB_n ?_
      refine thn ?_
      refine ⟨writeSeg ps a S, a + S.size, ⟨#[]⟩, ?_, ?_, sub_i [] (fz ?_) (fz ?_)⟩
      · exact .inr ⟨rfl, rfl, rfl⟩
      · omega
      · first | trivial | rfl
      · first | exact seg_wr hs | exact seg_wr2 hm hs
    · obtain rfl : q = writeSeg ps a S := by rcases hI with h | h <;> first | exact h.1 | (exfalso; rw [h.2.2] at g2; omega)
      refine vc_exit ?_
      refine thn_x ?_
      refine thn_x ?_
      refine inB_x ?_
      refine thn ?_
      refine vc_sr ?_
      iterate 3 refine vo ?_
      refine vnt ?_
      refine vc_ret ?_
      refine fin_i [(0, some 96)] rfl (fz ?_) (fz ?_) <;> first | trivial | rfl
end Go.Proofs.YtfcmcedeapgdcaaGreat
end
section
namespace Go.Proofs.YtfcmcedeapgdcaaGreat
open Go Go.RowKit Go.Vc
set_option linter.unusedVariables false
set_option linter.unusedSimpArgs false
set_option linter.unnecessarySimpa false
theorem rd_stp {ps : Pg} {rs : List (Int × Int)} {i : Nat} {o : ByteArray} (hi : i < rs.length) (h : readAll ps rs ⟨#[]⟩ = readAll ps (rs.drop i) o) : readAll ps rs ⟨#[]⟩ = readAll ps (rs.drop (i + 1)) (o ++ readSeg ps ((at' rs i).1, (at' rs i).2)) := by
  rw [h, drop_at hi]; rfl
theorem rd_le {ps : Pg} {rs : List (Int × Int)} {i : Nat} {o : ByteArray} {n : Int} (h : readAll ps rs ⟨#[]⟩ = readAll ps (rs.drop i) o) (hn : ((readAll ps rs ⟨#[]⟩).size : Int) ≤ n) : (o.size : Int) ≤ n := by
  have := readAll_le ps (rs.drop i) o
  rw [← h] at this; omega
theorem at_map {α β : Type} [Inhabited α] [Inhabited β] {l : List α} {f : α → β} {i : Nat} (h : i < l.length) : at' (l.map f) i = f (at' l i) := by
  rw [at_eq h, at_eq (by simpa using h), List.getElem_map]
theorem at_mem {α : Type} [Inhabited α] {l : List α} {i : Nat} (h : i < l.length) : at' l i ∈ l := by rw [at_eq h]; exact List.getElem_mem h
theorem rd_fin {l : List Mp} {ps : Pg} {d a n : Int} {rs : List (Int × Int)} {i : Nat} {o : ByteArray} (hrs : runs l ps d a n false = some rs) (h : readAll ps rs ⟨#[]⟩ = readAll ps (rs.drop i) o) (hi : ¬ i < rs.length) : (dmaRF l ps d a n).1 = o ∧ (dmaRF l ps d a n).2 = true := by
  rw [dmaRF_yes hrs]
  refine ⟨?_, rfl⟩
  rw [h, List.drop_eq_nil_of_le (by omega)]; rfl
theorem rd_none {l : List Mp} {ps : Pg} {d a n : Int} (h : (runs l ps d a n false).isSome = false) : (dmaRF l ps d a n).1 = ⟨#[]⟩ ∧ (dmaRF l ps d a n).2 = false := by
  have : runs l ps d a n false = none := by cases hx : runs l ps d a n false with
    | none => rfl
    | some x => rw [hx] at h; cases h
  rw [dmaRF_no this]; exact ⟨rfl, rfl⟩
set_option maxHeartbeats 4000000 in
theorem c_impl_DmaRead {l : List Mp} {ps : Pg} {d a n : Int} (hl : l.length ≤ 1099511627776 := by first | assumption | omega) (hp : ps.length ≤ 1099511627776 := by first | assumption | omega) (ha : a ≤ 9223372036854775807 := by omega) : Con0 Tryz.prog 36 [.one (.sl 4 (l.map mpE)), .agg [.sl 1 (ps.map strE)], I d, I a, I n] (.tup [Z (dmaRF l ps d a n).1, B (dmaRF l ps d a n).2]) [] := by
  refine con_i Tryz.func36 Tryz.ntmps36 (t := [(0, .one (.sl 4 (l.map mpE))), (1, .agg [.sl 1 (ps.map strE)]), (2, I d), (3, I a), (4, I n)]) rfl ?_
  refine vc_sr ?_
  iterate 3 refine vo ?_
  refine vnt ?_
  refine vc_sr ?_
  iterate 5 refine vo ?_
  refine voc c_impl_runsOf rfl rfl ?_
  iterate 5 refine vo ?_
  refine vnt ?_
  refine vc_seq' ?_
  refine vc_sr ?_
  iterate 2 refine vo ?_
  refine vnt ?_
  refine vc_if (fun g1 => ?_) (fun g1 => ?_)
  · refine vc_sr ?_
    iterate 2 refine vo ?_
    refine vnt ?_
    refine vc_ret ?_
    refine thn_r ?_
    refine fin_i [] rfl (fz ?_) trivial
    exact rd_none g1
  · obtain ⟨rs, hrs⟩ := Option.isSome_iff_exists.1 g1
    obtain ⟨hm, hps, hn, hseg, hsum, hlen⟩ := runs_fine hrs
    have hpl := hps.1
    have hrz : ((readAll ps rs ⟨#[]⟩).size : Int) ≤ 4096 := by rw [readAll_size hps rs _ hseg, hsum]; exact (by show ((0 : Nat) : Int) + n ≤ 4096; omega)
    have e : (runs l ps d a n false).getD [] = rs := by rw [hrs]; rfl
    rw [e]
    refine vc_skip ?_
    refine thn ?_
    refine vc_sr ?_
    refine vo ?_
    refine vnt ?_
    refine vc_seq' ?_
    refine vc_sr ?_
    iterate 2 refine vo ?_
    try first | refine vlb ?_ | refine vln ?_
    refine vo ?_
    refine vnt ?_
    refine vc_block ?_
    refine vc_lp2 [6, 30, 31] [48, 200] (fun (i : Nat) (o : ByteArray) => [(14, Z o), (32, I (i : Nat))]) (fun (i : Nat) (o : ByteArray) => []) (fun (i : Nat) (o : ByteArray) => i ≤ rs.length ∧ readAll ps rs ⟨#[]⟩ = readAll ps (rs.drop i) o) (fun (i : Nat) (o : ByteArray) => rs.length - i) 0 ⟨#[]⟩ rfl rfl (sub_i [] (fz ?_) (fz ?_)) ?_ fun i o hI => ?_
    · first | trivial | rfl
    · first | trivial | rfl
    · exact ⟨Nat.zero_le _, rfl⟩
    refine vc_nf rfl rfl ?_
    refine vc_sr ?_
    refine vo ?_
    refine vnt ?_
    refine vc_seq' ?_
    refine vc_if (fun g2 => ?_) (fun g2 => ?_)
    · have hs : Seg ps.length ((at' rs i).1, (at' rs i).2) := hseg _ (at_mem g2)
      have ho := rd_le hI.2 hrz
      have hz := seg_sz hps hs
      have hz2 := (seg_i64 hpl (hseg _ (at_mem g2)))
      refine vc_skip ?_
      refine thn ?_
      refine vc_seq' ?_
      refine vc_block ?_
      refine vc_sr ?_
      refine vo ?_
      try with_reducible (first | refine vep ?_ | refine vpt ?_)
      iterate 3 refine vo ?_
      refine vnt ?_
      refine vc_sr ?_
      iterate 5 refine vo ?_
      refine voc c_impl_ReadMemory rfl rfl ?_
      iterate 5 refine vo ?_
      refine vnt ?_
      refine vc_region ?_
      iterate 4 refine vo ?_
      refine vnil ?_
      refine inB_n ?_
      refine thn ?_
      refine vc_region ?_
      refine vo ?_
      try refine vwr ?_
      refine vo ?_
      refine vnt ?_
      refine ⟨i + 1, o ++ readSeg ps ((at' rs i).1, (at' rs i).2), ?_, ?_, sub_i [] (fz ?_) (fz ?_)⟩
      · exact ⟨by omega, rd_stp g2 hI.2⟩
      · omega
      · first | trivial | rfl | exact ⟨rfl, rfl⟩
      · first | trivial | rfl
    · refine vc_exit ?_
      refine thn_x ?_
      refine thn_x ?_
      refine inB_x ?_
      refine thn ?_
      refine vc_sr ?_
      iterate 3 refine vo ?_
      refine vnt ?_
      refine vc_ret ?_
      refine fin_i [] rfl (fz ?_) trivial
      exact rd_fin hrs hI.2 g2
theorem wr_facts {q : Pg} {np : Nat} {rs : List (Int × Int)} {i : Nat} {s1 : ByteArray} (hi : i < rs.length) (hf : Fits np (rs.drop i) s1.size) (hq : MemOk q) (hl : q.length = np) : Seg q.length ((at' rs i).1, ((s1.extract (Int.toNat 0) (at' rs i).2.toNat).size : Int)) ∧ 1 ≤ (at' rs i).2 ∧ (at' rs i).2 ≤ s1.size ∧ Fits np (rs.drop (i + 1)) (s1.extract (at' rs i).2.toNat s1.size).size ∧ MemOk (writeSeg q (at' rs i).1 (s1.extract (Int.toNat 0) (at' rs i).2.toNat)) ∧ (writeSeg q (at' rs i).1 (s1.extract (Int.toNat 0) (at' rs i).2.toNat)).length = np := by
  rw [drop_at hi] at hf
  obtain ⟨h1, h2, h3⟩ := hf.cons
  obtain ⟨g0, g1, g2, g3⟩ := h1
  have e : (s1.extract (Int.toNat 0) (at' rs i).2.toNat).size = (at' rs i).2.toNat := by rw [ByteArray.size_extract]; have : Int.toNat 0 = 0 := rfl; omega
  have e2 : (s1.extract (at' rs i).2.toNat s1.size).size = s1.size - (at' rs i).2.toNat := by rw [ByteArray.size_extract]; omega
  refine ⟨⟨g0, by rw [e]; simp only; omega, by rw [e]; simp only; omega, by rw [hl]; exact g3⟩, g1, h2, by rw [e2]; exact h3, ?_⟩
  have := hq.writeSeg (a := (at' rs i).1) (b := s1.extract (Int.toNat 0) (at' rs i).2.toNat) g0 (by rw [hl]; exact g3) (by rw [e]; omega)
  exact ⟨this.1, by rw [this.2, hl]⟩
theorem wr_stp {ps q : Pg} {rs : List (Int × Int)} {i : Nat} {s s1 : ByteArray} (hi : i < rs.length) (h : writeAll ps rs s = writeAll q (rs.drop i) s1) : writeAll ps rs s = writeAll (writeSeg q (at' rs i).1 (s1.extract (Int.toNat 0) (at' rs i).2.toNat)) (rs.drop (i + 1)) (s1.extract (at' rs i).2.toNat s1.size) := by
  rw [h, drop_at hi]; rfl
theorem wr_fin {l : List Mp} {ps q : Pg} {d a : Int} {s s1 : ByteArray} {wt : Bool} {rs : List (Int × Int)} {i : Nat} (hrs : runs l ps d a s.size wt = some rs) (h : writeAll ps rs s = writeAll q (rs.drop i) s1) (hi : ¬ i < rs.length) : (dmaWF l ps d a s wt).2 = true ∧ (dmaWF l ps d a s wt).1 = q := by
  have e : dmaWF l ps d a s wt = (writeAll ps rs s, true) := by unfold dmaWF dmaW; rw [hrs]; rfl
  rw [e]
  refine ⟨rfl, ?_⟩
  rw [h, List.drop_eq_nil_of_le (by omega)]; rfl
theorem wr_none {l : List Mp} {ps : Pg} {d a : Int} {s : ByteArray} {wt : Bool} (h : (runs l ps d a s.size wt).isSome = false) : (dmaWF l ps d a s wt).2 = false ∧ (dmaWF l ps d a s wt).1 = ps := by
  have : runs l ps d a s.size wt = none := by cases hx : runs l ps d a s.size wt with
    | none => rfl
    | some x => rw [hx] at h; cases h
  rw [dmaWF_no this]; exact ⟨rfl, rfl⟩
set_option maxHeartbeats 4000000 in
theorem c_impl_put {l : List Mp} {ps : Pg} {d a : Int} {s : ByteArray} {wt : Bool} (hl : l.length ≤ 1099511627776 := by first | assumption | omega) (hp : ps.length ≤ 1099511627776 := by first | assumption | omega) (hs_s : s.size ≤ 1099511627776 := by first | assumption | omega | (simp only [ByteArray.size_append, ByteArray.size_extract, strOfNums_size, List.length_cons, List.length_nil]; omega)) (ha : a ≤ 9223372036854775807 := by omega) : Con0 Tryz.prog 108 [.one (.sl 4 (l.map mpE)), .agg [.sl 1 (ps.map strE)], I d, I a, Z s, B wt] (.tup [.agg [.hs 0], B (dmaWF l ps d a s wt).2]) [(0, .arr 9 1 ((dmaWF l ps d a s wt).1.map strE))] := by
  refine con_i Tryz.func108 Tryz.ntmps108 (t := [(0, .one (.sl 4 (l.map mpE))), (1, .agg [.sl 1 (ps.map strE)]), (2, I d), (3, I a), (4, Z s), (5, B wt)]) rfl ?_
  refine vc_sr ?_
  iterate 3 refine vo ?_
  refine vnt ?_
  refine vc_sr ?_
  refine vo ?_
  refine voc c_impl_copyMemory rfl rfl ?_
  iterate 2 refine vo ?_
  refine vnt ?_
  refine vc_sr ?_
  iterate 7 refine vo ?_
  refine voc c_impl_runsOf rfl rfl ?_
  iterate 5 refine vo ?_
  refine vnt ?_
  refine vc_seq' ?_
  refine vc_sr ?_
  iterate 2 refine vo ?_
  refine vnt ?_
  refine vc_if (fun g1 => ?_) (fun g1 => ?_)
  · refine vc_sr ?_
    iterate 3 refine vo ?_
    refine vnt ?_
    refine vc_ret ?_
    refine thn_r ?_
    refine fin_i [(0, some 160)] rfl (fz ?_) (fz ?_)
    · exact (wr_none g1).1
    · rw [(wr_none g1).2]
  · obtain ⟨rs, hrs⟩ := Option.isSome_iff_exists.1 g1
    obtain ⟨hm, hps, hn, hseg, hsum, hlen⟩ := runs_fine hrs
    have hpl := hps.1
    have e : (runs l ps d a s.size wt).getD [] = rs := by rw [hrs]; rfl
    rw [e]
    refine vc_skip ?_
    refine thn ?_
    refine vc_seq' ?_
    refine vc_sr ?_
    iterate 2 refine vo ?_
    try first | refine vlb ?_ | refine vln ?_
    refine vo ?_
    refine vnt ?_
    refine vc_block ?_
    refine vc_lp3 [12, 14, 35, 36] [96, 232] (fun (i : Nat) (q : Pg) (s1 : ByteArray) => [(4, Z s1), (37, I (i : Nat))]) (fun (i : Nat) (q : Pg) (s1 : ByteArray) => [(7, .arr 9 1 (q.map strE)), (112, .row 27 [.hs 7])]) (fun (i : Nat) (q : Pg) (s1 : ByteArray) => i ≤ rs.length ∧ writeAll ps rs s = writeAll q (rs.drop i) s1 ∧ MemOk q ∧ q.length = ps.length ∧ Fits ps.length (rs.drop i) s1.size) (fun (i : Nat) (q : Pg) (s1 : ByteArray) => rs.length - i) 0 ps s rfl rfl (sub_i [(7, some 160)] (fz ?_) (fz ?_)) ?_ fun i q s1 hI => ?_
    · first | trivial | rfl
    · first | trivial | rfl | exact ⟨rfl, rfl⟩
    · exact ⟨Nat.zero_le _, rfl, hps, rfl, hseg, by rw [List.drop_zero]; exact hsum⟩
    refine vc_nf rfl rfl ?_
    refine vc_sr ?_
    refine vo ?_
    refine vnt ?_
    refine vc_seq' ?_
    refine vc_if (fun g2 => ?_) (fun g2 => ?_)
    · obtain ⟨hs, hz1, hz2, hfit, hmq, hlq⟩ := wr_facts g2 hI.2.2.2.2 hI.2.2.1 hI.2.2.2.1
      have hq2 := hI.2.2.1
      have hql := hI.2.2.2.1
      refine vc_skip ?_
      refine thn ?_
      refine vc_seq' ?_
      refine vc_block ?_
      refine vc_sr ?_
      refine vo ?_
      try with_reducible (first | refine vep ?_ | refine vpt ?_)
      iterate 3 refine vo ?_
      refine vnt ?_
      refine vc_sr ?_
      iterate 7 refine vo ?_
      refine voc c_impl_WriteMemory rfl rfl ?_
      iterate 4 refine vo ?_
      refine vnt ?_
      refine vc_region ?_
      iterate 5 refine vo ?_
      refine vnil ?_
      refine inB_n ?_
      refine thn ?_
      refine vc_region ?_
      refine vo ?_
      try refine vwr ?_
      refine vo ?_
      refine vnt ?_
      refine ⟨i + 1, writeSeg q (at' rs i).1 (s1.extract (Int.toNat 0) (at' rs i).2.toNat), s1.extract (at' rs i).2.toNat s1.size, ?_, ?_, sub_i [(7, some 392)] (fz ?_) (fz ?_)⟩
      · exact ⟨by omega, wr_stp g2 hI.2.1, hmq, hlq, hfit⟩
      · omega
      · first | trivial | rfl | exact ⟨rfl, rfl⟩
      · first | trivial | rfl | exact ⟨rfl, rfl⟩
    · refine vc_exit ?_
      refine thn_x ?_
      refine thn_x ?_
      refine inB_x ?_
      refine thn ?_
      refine vc_sr ?_
      iterate 3 refine vo ?_
      refine vnt ?_
      refine vc_ret ?_
      refine fin_i [(0, some 7)] rfl (fz ?_) (fz ?_)
      · exact (wr_fin hrs hI.2.1 g2).1
      · rw [(wr_fin hrs hI.2.1 g2).2]
set_option maxHeartbeats 4000000 in
theorem c_impl_DmaWrite {l : List Mp} {ps : Pg} {d a : Int} {s : ByteArray} (hl : l.length ≤ 1099511627776 := by first | assumption | omega) (hp : ps.length ≤ 1099511627776 := by first | assumption | omega) (hs_s : s.size ≤ 1099511627776 := by first | assumption | omega | (simp only [ByteArray.size_append, ByteArray.size_extract, strOfNums_size, List.length_cons, List.length_nil]; omega)) (ha : a ≤ 9223372036854775807 := by omega) : Con0 Tryz.prog 77 [.one (.sl 4 (l.map mpE)), .agg [.sl 1 (ps.map strE)], I d, I a, Z s] (.tup [.agg [.hs 0], B (dmaWF l ps d a s true).2]) [(0, .arr 9 1 ((dmaWF l ps d a s true).1.map strE))] := by
  refine con_i Tryz.func77 Tryz.ntmps77 (t := [(0, .one (.sl 4 (l.map mpE))), (1, .agg [.sl 1 (ps.map strE)]), (2, I d), (3, I a), (4, Z s)]) rfl ?_
  refine vc_sr ?_
  iterate 3 refine vo ?_
  refine vnt ?_
  refine vc_sr ?_
  iterate 5 refine vo ?_
  refine voc c_impl_put rfl rfl ?_
  iterate 4 refine vo ?_
  refine vnt ?_
  refine vc_ret ?_
  refine fin_i [(0, some 136)] rfl (fz ?_) (fz ?_) <;> first | trivial | rfl
set_option maxHeartbeats 4000000 in
theorem c_spec_DmaWrite {l : List Mp} {ps : Pg} {d a : Int} {s : ByteArray} (hl : l.length ≤ 1099511627776 := by first | assumption | omega) (hp : ps.length ≤ 1099511627776 := by first | assumption | omega) (hs_s : s.size ≤ 1099511627776 := by first | assumption | omega | (simp only [ByteArray.size_append, ByteArray.size_extract, strOfNums_size, List.length_cons, List.length_nil]; omega)) (ha : a ≤ 9223372036854775807 := by omega) : Con0 Tryz.prog 98 [.one (.sl 4 (l.map mpE)), .agg [.sl 1 (ps.map strE)], I d, I a, Z s] (.tup [.agg [.hs 0], B (dmaWF l ps d a s true).2]) [(0, .arr 9 1 ((dmaWF l ps d a s true).1.map strE))] := by
  refine con_i Tryz.func98 Tryz.ntmps98 (t := [(0, .one (.sl 4 (l.map mpE))), (1, .agg [.sl 1 (ps.map strE)]), (2, I d), (3, I a), (4, Z s)]) rfl ?_
  refine vc_sr ?_
  iterate 3 refine vo ?_
  refine vnt ?_
  refine vc_sr ?_
  iterate 6 refine vo ?_
  refine voc c_spec_l17Parts rfl rfl ?_
  iterate 7 refine vo ?_
  refine vnt ?_
  refine vc_sr ?_
  refine vo ?_
  refine voc c_spec_l16Copy rfl rfl ?_
  iterate 2 refine vo ?_
  refine vnt ?_
  refine vc_seq' ?_
  refine vc_sr ?_
  iterate 2 refine vo ?_
  refine vnt ?_
  refine vc_if (fun g1 => ?_) (fun g1 => ?_)
  · refine vc_sr ?_
    iterate 3 refine vo ?_
    refine vnt ?_
    refine vc_ret ?_
    refine thn_r ?_
    refine fin_i [(0, some 232)] rfl (fz ?_) (fz ?_)
    · exact (wr_none g1).1
    · rw [(wr_none g1).2]
  · obtain ⟨rs, hrs⟩ := Option.isSome_iff_exists.1 g1
    obtain ⟨hm, hps, hn, hseg, hsum, hlen⟩ := runs_fine hrs
    have hpl := hps.1
    have e : (runs l ps d a s.size true).getD [] = rs := by rw [hrs]; rfl
    rw [e]
    refine vc_skip ?_
    refine thn ?_
    refine vc_seq' ?_
    refine vc_sr ?_
    refine vo ?_
    refine vnt ?_
    refine vc_block ?_
    refine vc_lp3 [10, 12, 13, 15] [80, 192, 193] (fun (i : Nat) (q : Pg) (s1 : ByteArray) => [(4, Z s1), (16, I (i : Nat))]) (fun (i : Nat) (q : Pg) (s1 : ByteArray) => [(7, .arr 9 1 (q.map strE)), (120, .row 27 [.hs 7])]) (fun (i : Nat) (q : Pg) (s1 : ByteArray) => i ≤ rs.length ∧ writeAll ps rs s = writeAll q (rs.drop i) s1 ∧ MemOk q ∧ q.length = ps.length ∧ Fits ps.length (rs.drop i) s1.size) (fun (i : Nat) (q : Pg) (s1 : ByteArray) => rs.length - i) 0 ps s rfl rfl (sub_i [(7, some 232)] (fz ?_) (fz ?_)) ?_ fun i q s1 hI => ?_
    · first | trivial | rfl
    · first | trivial | rfl | exact ⟨rfl, rfl⟩
    · exact ⟨Nat.zero_le _, rfl, hps, rfl, hseg, by rw [List.drop_zero]; exact hsum⟩
    refine vc_nf rfl rfl ?_
    refine vc_seq' ?_
    refine vc_sr ?_
    iterate 3 refine vo ?_
    try first | refine vlb ?_ | refine vln ?_
    refine veq (show ((rs.map (·.1)).length : Int) = rs.length by rw [List.length_map]) ?_
    refine vo ?_
    refine vnt ?_
    refine vc_if (fun g2 => ?_) (fun g2 => ?_)
    · obtain ⟨hs, hz1, hz2, hfit, hmq, hlq⟩ := wr_facts g2 hI.2.2.2.2 hI.2.2.1 hI.2.2.2.1
      have hq2 := hI.2.2.1
      have hql := hI.2.2.2.1
      refine vc_skip ?_
      refine thn ?_
      refine vc_seq' ?_
      refine vc_block ?_
      refine vc_sr ?_
      iterate 4 refine vo ?_
      try with_reducible (first | refine vep ?_ | refine vpt ?_)
      refine vo ?_
      refine veq (at_map g2) ?_
      iterate 4 refine vo ?_
      try with_reducible (first | refine vep ?_ | refine vpt ?_)
      refine vo ?_
      refine veq (at_map g2) ?_
      refine vo ?_
      refine voc c_spec_WriteMemory rfl rfl ?_
      iterate 4 refine vo ?_
      refine vnt ?_
      refine vc_region ?_
      iterate 4 refine vo ?_
      try with_reducible (first | refine vep ?_ | refine vpt ?_)
      refine vo ?_
      refine veq (at_map g2) ?_
      iterate 2 refine vo ?_
      refine vnil ?_
      refine inB_n ?_
      refine thn ?_
      refine vc_region ?_
      iterate 2 refine vo ?_
      try refine vwr ?_
      refine vo ?_
      refine vnt ?_
      refine ⟨i + 1, writeSeg q (at' rs i).1 (s1.extract (Int.toNat 0) (at' rs i).2.toNat), s1.extract (at' rs i).2.toNat s1.size, ?_, ?_, sub_i [(7, some 408)] (fz ?_) (fz ?_)⟩
      · exact ⟨by omega, wr_stp g2 hI.2.1, hmq, hlq, hfit⟩
      · omega
      · first | trivial | rfl | exact ⟨rfl, rfl⟩
      · first | trivial | rfl | exact ⟨rfl, rfl⟩
    · refine vc_exit ?_
      refine thn_x ?_
      refine thn_x ?_
      refine inB_x ?_
      refine thn ?_
      refine vc_sr ?_
      iterate 3 refine vo ?_
      refine vnt ?_
      refine vc_ret ?_
      refine fin_i [(0, some 7)] rfl (fz ?_) (fz ?_)
      · exact (wr_fin hrs hI.2.1 g2).1
      · rw [(wr_fin hrs hI.2.1 g2).2]
end Go.Proofs.YtfcmcedeapgdcaaGreat
end
section
namespace Go.Proofs.YtfcmcedeapgdcaaGreat
open Go Go.RowKit Go.Vc
set_option linter.unusedVariables false
set_option linter.unusedSimpArgs false
set_option linter.unnecessarySimpa false
theorem rt_y {l : List Mp} {ps : Pg} {d b s h t : Int} (h1 : ringOkB b s h t = true) (h2 : ¬ usedF s h t = 0) (h3 : (dmaRF l ps d (rslot b s h) 16).2 = true) : rtakeF l ps d b s h t = ((dmaRF l ps d (rslot b s h) 16).1, rnext s h, true) := by
  unfold rtakeF
  rw [if_pos h1, if_neg h2]
  generalize dmaRF l ps d (rslot b s h) 16 = x at h3 ⊢
  obtain ⟨x1, x2⟩ := x
  simp only at h3
  subst h3; rfl
theorem rt_n {l : List Mp} {ps : Pg} {d b s h t : Int} (hh : ringOkB b s h t = false ∨ usedF s h t = 0 ∨ (dmaRF l ps d (rslot b s h) 16).2 = false) : rtakeF l ps d b s h t = (⟨#[]⟩, h, false) := by
  unfold rtakeF
  split
  · split
    · rfl
    · rename_i g1 g2
      have h3 : (dmaRF l ps d (rslot b s h) 16).2 = false := by
        rcases hh with hh | hh | hh
        · rw [g1] at hh; cases hh
        · exact (g2 hh).elim
        · exact hh
      generalize dmaRF l ps d (rslot b s h) 16 = x at h3 ⊢
      obtain ⟨x1, x2⟩ := x
      simp only at h3
      subst h3; rfl
  · rfl
theorem enc_ok {x1 x2 x3 x4 x5 s c : Int} (h : completionOkB x1 x2 x3 x4 x5 = true) : encCF x1 x2 x3 x4 x5 (phaseC s c) = encC x1 x2 x3 x4 x5 (phaseC s c) := by
  unfold encCF
  rw [h, inB_iff.2 (phaseC_bd s c)]; rfl
theorem pc_y {l : List Mp} {ps : Pg} {d b s c x1 x2 x3 x4 x5 : Int} (h1 : queueOkB b s c = true) (h2 : completionOkB x1 x2 x3 x4 x5 = true) (h3 : (dmaWF l ps d (slotC b s c) (encC x1 x2 x3 x4 x5 (phaseC s c)) true).2 = true) : putC l ps d b s c x1 x2 x3 x4 x5 = ((dmaWF l ps d (slotC b s c) (encC x1 x2 x3 x4 x5 (phaseC s c)) true).1, nextC s c, true) := by
  unfold putC
  rw [if_pos h1, if_pos h2]
  generalize dmaWF l ps d (slotC b s c) (encC x1 x2 x3 x4 x5 (phaseC s c)) true = x at h3 ⊢
  obtain ⟨x1, x2⟩ := x
  simp only at h3
  subst h3; rfl
theorem pc_n {l : List Mp} {ps : Pg} {d b s c x1 x2 x3 x4 x5 : Int} (hh : queueOkB b s c = false ∨ completionOkB x1 x2 x3 x4 x5 = false ∨ (dmaWF l ps d (slotC b s c) (encC x1 x2 x3 x4 x5 (phaseC s c)) true).2 = false) : putC l ps d b s c x1 x2 x3 x4 x5 = (ps, c, false) := by
  unfold putC
  split
  · split
    · rename_i g1 g2
      have h3 : (dmaWF l ps d (slotC b s c) (encC x1 x2 x3 x4 x5 (phaseC s c)) true).2 = false := by
        rcases hh with hh | hh | hh
        · rw [g1] at hh; cases hh
        · rw [g2] at hh; cases hh
        · exact hh
      generalize dmaWF l ps d (slotC b s c) (encC x1 x2 x3 x4 x5 (phaseC s c)) true = x at h3 ⊢
      obtain ⟨x1, x2⟩ := x
      simp only at h3
      subst h3; rfl
    · rfl
  · rfl
theorem dw_no {l : List Mp} {ps : Pg} {d a : Int} {s : ByteArray} {wt : Bool} (h : (dmaWF l ps d a s wt).2 = false) : (dmaWF l ps d a s wt).1 = ps := by
  generalize hx : dmaWF l ps d a s wt = x at h ⊢
  obtain ⟨x1, x2⟩ := x
  simp only at h
  subst h
  exact dmaWF_same hx.symm
set_option maxHeartbeats 4000000 in
theorem c_impl_RingTake {l : List Mp} {ps : Pg} {d b s h t : Int} (hl : l.length ≤ 1099511627776 := by first | assumption | omega) (hp : ps.length ≤ 1099511627776 := by first | assumption | omega) : Con0 Tryz.prog 33 [.one (.sl 4 (l.map mpE)), .agg [.sl 1 (ps.map strE)], I d, .agg [V b, V s, V h, V t]] (.tup [Z (rtakeF l ps d b s h t).1, .agg [V b, V s, V (rtakeF l ps d b s h t).2.1, V t], B (rtakeF l ps d b s h t).2.2]) [] := by
  refine con_i Tryz.func33 Tryz.ntmps33 (t := [(0, .one (.sl 4 (l.map mpE))), (1, .agg [.sl 1 (ps.map strE)]), (2, I d), (3, .agg [V b, V s, V h, V t])]) rfl ?_
  refine vc_sr ?_
  iterate 5 refine vo ?_
  refine vnt ?_
  refine vc_seq' ?_
  refine vc_sr ?_
  refine vo ?_
  refine voc c_impl_RingOk rfl rfl ?_
  iterate 2 refine vo ?_
  refine vsp (fun g1 => ?_) (fun g1 => ?_)
  · iterate 3 refine vof ?_
    refine vo ?_
    refine vnt ?_
    refine vc_then ?_
    refine vc_sr ?_
    iterate 4 refine vo ?_
    refine vnt ?_
    refine vc_ret ?_
    refine thn_r ?_
    refine fin_i [] rfl (fz ?_) trivial
    rw [rt_n (.inl g1)]
    simp
  · have hr := ringOk_facts g1
    have hq := hr.1
    have hsl := rslot_bd g1 h
    refine von ?_
    refine vocn c_impl_RingUsed rfl rfl ?_
    refine von ?_
    refine vo ?_
    refine vnt ?_
    refine vc_if (fun g2 => ?_) (fun g2 => ?_)
    · refine vc_sr ?_
      iterate 4 refine vo ?_
      refine vnt ?_
      refine vc_ret ?_
      refine thn_r ?_
      refine fin_i [] rfl (fz ?_) trivial
      rw [rt_n (.inr (.inl g2))]
      simp
    · refine vc_skip ?_
      refine thn ?_
      refine vc_sr ?_
      iterate 6 refine vo ?_
      refine voc c_impl_SlotAddress rfl rfl ?_
      refine voc c_impl_DmaRead rfl rfl ?_
      iterate 5 refine vo ?_
      refine vnt ?_
      refine vc_seq' ?_
      refine vc_sr ?_
      iterate 2 refine vo ?_
      refine vnt ?_
      refine vc_if (fun g3 => ?_) (fun g3 => ?_)
      · refine vc_sr ?_
        iterate 4 refine vo ?_
        refine vnt ?_
        refine vc_ret ?_
        refine thn_r ?_
        refine fin_i [] rfl (fz ?_) trivial
        rw [rt_n (.inr (.inr g3))]
        simp
      · refine vc_skip ?_
        refine thn ?_
        refine vc_sr ?_
        iterate 3 refine vo ?_
        try refine vwr ?_
        iterate 3 refine vo ?_
        try refine vwr ?_
        refine vo ?_
        try refine veq (Int.tmod_eq_emod_of_nonneg (by omega)) ?_
        iterate 2 refine vo ?_
        refine vnt ?_
        refine vc_sr ?_
        iterate 5 refine vo ?_
        refine vnt ?_
        refine vc_ret ?_
        refine fin_i [] rfl (fz ?_) trivial
        rw [rt_y g1 g2 g3]
        simp [rnext]
set_option maxHeartbeats 4000000 in
theorem c_impl_PutCompletion {l : List Mp} {ps : Pg} {d b s c x1 x2 x3 x4 x5 : Int} (hl : l.length ≤ 1099511627776 := by first | assumption | omega) (hp : ps.length ≤ 1099511627776 := by first | assumption | omega) : Con0 Tryz.prog 80 [.one (.sl 4 (l.map mpE)), .agg [.sl 1 (ps.map strE)], I d, .agg [V b, V s, V c], .agg [V x1, V x2, V x3, V x4, V x5]] (.tup [.agg [.hs 0], .agg [V b, V s, V (putC l ps d b s c x1 x2 x3 x4 x5).2.1], B (putC l ps d b s c x1 x2 x3 x4 x5).2.2]) [(0, .arr 9 1 ((putC l ps d b s c x1 x2 x3 x4 x5).1.map strE))] := by
  refine con_i Tryz.func80 Tryz.ntmps80 (t := [(0, .one (.sl 4 (l.map mpE))), (1, .agg [.sl 1 (ps.map strE)]), (2, I d), (3, .agg [V b, V s, V c]), (4, .agg [V x1, V x2, V x3, V x4, V x5])]) rfl ?_
  refine vc_sr ?_
  iterate 6 refine vo ?_
  refine vnt ?_
  refine vc_seq' ?_
  refine vc_sr ?_
  refine vo ?_
  refine voc c_impl_QueueOk rfl rfl ?_
  iterate 2 refine vo ?_
  refine vsp (fun g1 => ?_) (fun g1 => ?_)
  · iterate 3 refine vof ?_
    refine vo ?_
    refine vnt ?_
    refine vc_then ?_
    refine vc_sr ?_
    refine vo ?_
    refine voc c_impl_copyMemory rfl rfl ?_
    iterate 4 refine vo ?_
    refine vnt ?_
    refine vc_ret ?_
    refine thn_r ?_
    have hn : putC l ps d b s c x1 x2 x3 x4 x5 = (ps, c, false) := pc_n (.inl g1)
    refine fin_i [(0, some 192)] rfl (fz ?_) (fz ?_)
    · rw [hn]; simp
    · first | (rw [hn]; done) | (rw [hn, dw_no g3]; done)
  · have hq := slot_q g1
    have hqf := queueOk_facts g1
    have hsl := slotC_bd g1
    refine von ?_
    refine vocn c_impl_CompletionOk rfl rfl ?_
    refine von ?_
    refine vo ?_
    refine vnt ?_
    refine vc_if (fun g2 => ?_) (fun g2 => ?_)
    · refine vc_sr ?_
      refine vo ?_
      refine voc c_impl_copyMemory rfl rfl ?_
      iterate 4 refine vo ?_
      refine vnt ?_
      refine vc_ret ?_
      refine thn_r ?_
      have hn : putC l ps d b s c x1 x2 x3 x4 x5 = (ps, c, false) := pc_n (.inr (.inl g2))
      refine fin_i [(0, some 192)] rfl (fz ?_) (fz ?_)
      · rw [hn]; simp
      · first | (rw [hn]; done) | (rw [hn, dw_no g3]; done)
    · have hz := encC_size x1 x2 x3 x4 x5 (phaseC s c)
      refine vc_skip ?_
      refine thn ?_
      refine vc_sr ?_
      iterate 4 refine vo ?_
      refine voc c_impl_slotOfCount rfl rfl ?_
      iterate 2 refine vo ?_
      refine voc c_impl_phaseOf rfl rfl ?_
      refine voc c_impl_EncodeCompletion rfl rfl ?_
      refine vstr (enc_ok g2) ?_
      refine voc c_impl_DmaWrite rfl rfl ?_
      iterate 6 refine vo ?_
      refine vnt ?_
      refine vc_seq' ?_
      refine vc_sr ?_
      iterate 2 refine vo ?_
      refine vnt ?_
      refine vc_if (fun g3 => ?_) (fun g3 => ?_)
      · refine vc_sr ?_
        iterate 5 refine vo ?_
        refine vnt ?_
        refine vc_ret ?_
        refine thn_r ?_
        have hn : putC l ps d b s c x1 x2 x3 x4 x5 = (ps, c, false) := pc_n (.inr (.inr g3))
        refine fin_i [(0, some 288)] rfl (fz ?_) (fz ?_)
        · rw [hn]; simp
        · first | (rw [hn]; done) | (rw [hn, dw_no g3]; done)
      · refine vc_skip ?_
        refine thn ?_
        refine vc_sr ?_
        iterate 3 refine vo ?_
        try refine vwr ?_
        iterate 3 refine vo ?_
        try refine vwr ?_
        refine vo ?_
        try refine veq (Int.tmod_eq_emod_of_nonneg (by omega)) ?_
        iterate 2 refine vo ?_
        refine vnt ?_
        refine vc_sr ?_
        iterate 5 refine vo ?_
        refine vnt ?_
        refine vc_ret ?_
        have hn := pc_y g1 g2 g3
        refine fin_i [(0, some 288)] rfl (fz ?_) (fz ?_)
        · rw [hn]; simp [nextC]
        · rw [hn]
end Go.Proofs.YtfcmcedeapgdcaaGreat
end
section
namespace Go.Proofs.YtfcmcedeapgdcaaGreat
open Go Go.RowKit Go.Vc
set_option linter.unusedVariables false
set_option linter.unusedSimpArgs false
set_option linter.unnecessarySimpa false
def bitF (s : ByteArray) (i : Nat) : Nat := bAt s (i / 8) / 2 ^ (7 - i % 8) % 2
def kwF (key : ByteArray) (b : Nat) : Nat → Nat
  | 0 => 0
  | n + 1 => 2 * kwF key b n + bitF key (b + n)
def hashF (key x : ByteArray) : Nat → Int
  | 0 => 0
  | n + 1 => if bitF x n = 1 then xorI (hashF key x n) (kwF key n 32) else hashF key x n
theorem bitF_le (s : ByteArray) (i : Nat) : bitF s i ≤ 1 := by unfold bitF; omega
theorem kwF_lt (key : ByteArray) (b : Nat) : ∀ n, kwF key b n < 2 ^ n
  | 0 => by simp [kwF]
  | n + 1 => by
    have := kwF_lt key b n
    have := bitF_le key (b + n)
    simp only [kwF, Nat.pow_succ]
    omega
theorem and_one (n : Int) : andI n 1 = n % 2 := by
  rw [andI_eq]; exact and_mask_i64 n 1 (by decide)
theorem bit_eq (s : ByteArray) (i : Nat) (h : i / 8 < s.size) {e : Int} (he : e = 7 - (i : Int) % 8) : andI (IntKind.i64.wrap (bytI s ((i : Int) / 8) / 2 ^ e.toNat)) 1 = (bitF s i : Int) := by
  have hb := bAt_lt s (i / 8)
  have e1 : ((i : Int) / 8).toNat = i / 8 := by omega
  have e2 : e.toNat = 7 - i % 8 := by omega
  rw [and_one, bytI_nat, e1, e2]
  have hd : ((bAt s (i / 8) : Nat) : Int) / 2 ^ (7 - i % 8) = ((bAt s (i / 8) / 2 ^ (7 - i % 8) : Nat) : Int) := by
    rw [Int.natCast_ediv]; simp
  have hq : bAt s (i / 8) / 2 ^ (7 - i % 8) ≤ bAt s (i / 8) := Nat.div_le_self _ _
  rw [hd]
  unfold bitF
  generalize bAt s (i / 8) / 2 ^ (7 - i % 8) = q at *
  rw [IntWalk.i64_in _ (by omega)]; omega
theorem kwF_bd (key : ByteArray) (b : Nat) {n : Nat} (hn : n ≤ 32) : kwF key b n ≤ 4294967295 := by
  have h1 := kwF_lt key b n
  have h3 : 2 ^ n ≤ 2 ^ 32 := Nat.pow_le_pow_right (by decide) hn
  omega
theorem kw_or (key : ByteArray) (b n : Nat) (hn : n < 32) : orI (IntKind.i64.wrap ((kwF key b n : Nat) * 2 ^ Int.toNat 1)) (bitF key (b + n) : Nat) = (kwF key b (n + 1) : Nat) := by
  have h1 := kwF_lt key b n
  have h2 := bitF_le key (b + n)
  have h3 : 2 ^ n ≤ 2 ^ 31 := Nat.pow_le_pow_right (by decide) (by omega)
  have e1 : (2 : Int) ^ Int.toNat 1 = 2 := by decide
  rw [e1, IntWalk.i64_in _ (by omega), orI_eq, show ((kwF key b n : Nat) : Int) * 2 = ((kwF key b n * 2 ^ 1 : Nat) : Int) by omega, i64_or_add _ _ 1 (by omega) (by omega) (by omega)]
  simp only [kwF]; omega
set_option maxHeartbeats 4000000 in
theorem c_impl_keyBit {s : ByteArray} {i : Nat} (hi : i / 8 < s.size := by omega) (hi2 : i ≤ 1000000 := by omega) : Con0 Tryz.prog 133 [Z s, I (i : Nat)] (I (bitF s i : Nat)) [] := by
  have hb8 : IntKind.u8.bits = 8 := rfl
  have hb64 : IntKind.i64.bits = 64 := rfl
  refine con_i Tryz.func133 Tryz.ntmps133 (t := [(0, Z s), (1, I (i : Nat))]) rfl ?_
  refine vc_sr ?_
  refine vo ?_
  refine vnt ?_
  refine vc_sr ?_
  iterate 3 refine vo ?_
  try refine veq (IntWalk.i64_quo _ _ (by omega)) ?_
  iterate 3 refine vo ?_
  try refine veq (Int.tmod_eq_emod_of_nonneg (by omega)) ?_
  refine vo ?_
  try refine vwr ?_
  iterate 4 refine vo ?_
  refine vnt ?_
  refine vc_ret ?_
  refine fin_i [] rfl (fz ?_) trivial
  exact (bit_eq s i hi rfl).symm
set_option maxHeartbeats 4000000 in
theorem c_impl_KeyWindow {key : ByteArray} {b : Nat} (hk : key.size = 16 := by assumption) (hb : b ≤ 96 := by omega) : Con0 Tryz.prog 134 [Z key, I (b : Nat)] (I (kwF key b 32 : Nat)) [] := by
  have hin : inB (b : Int) 0 96 = true := inB_iff.2 (by omega)
  refine con_i Tryz.func134 Tryz.ntmps134 (t := [(0, Z key), (1, I (b : Nat))]) rfl ?_
  refine vc_sr ?_
  refine vo ?_
  refine vnt ?_
  refine vc_seq' ?_
  refine vc_sr ?_
  iterate 4 refine vo ?_
  refine vsp (fun g1 => ?_) (fun g1 => ?_)
  · exact (g1 (by omega)).elim
  · refine von ?_
    refine vocn c_impl_between rfl rfl ?_
    refine von ?_
    refine vo ?_
    refine vnt ?_
    refine vc_if (fun g2 => ?_) (fun g2 => ?_)
    · rw [hin] at g2; cases g2
    · refine vc_skip ?_
      refine thn ?_
      refine vc_sr ?_
      refine vo ?_
      refine vnt ?_
      refine vc_seq' ?_
      refine vc_sr ?_
      iterate 2 refine vo ?_
      refine vnt ?_
      refine vc_block ?_
      refine vc_lp (σ := Nat) [0, 1] [] (fun j => [(5, I (kwF key b j : Nat)), (6, I (b + j : Nat))]) (fun j => []) (fun j => j ≤ 32) (fun j => 32 - j) 0 rfl rfl (sub_i [] (fz ?_) (fz ?_)) ?_ fun j hI => ?_
      · first | trivial | rfl | exact ⟨rfl, rfl⟩
      · first | trivial | rfl
      · exact Nat.zero_le _
      refine vc_nf rfl rfl ?_
      have h1 := kwF_bd key b hI
      have h2 := bitF_le key (b + j)
      refine vc_seq' ?_
      refine vc_sr ?_
      iterate 3 refine vo ?_
      try refine vwr ?_
      refine vo ?_
      refine vnt ?_
      refine vc_if (fun g3 => ?_) (fun g3 => ?_)
      · refine vc_skip ?_
        refine thn ?_
        refine vc_seq' ?_
        refine vc_block ?_
        refine vc_region ?_
        iterate 4 refine vo ?_
        refine voc c_impl_keyBit rfl rfl ?_
        refine vo ?_
        refine veq (kw_or key b j (by omega)) ?_
        refine vo ?_
        refine vnil ?_
        refine inB_n ?_
        refine thn ?_
        refine vc_region ?_
        iterate 2 refine vo ?_
        try refine vwr ?_
        refine vo ?_
        refine vnt ?_
        refine ⟨j + 1, ?_, ?_, sub_i [] (fz ?_) (fz ?_)⟩
        · omega
        · omega
        · first | trivial | rfl | exact ⟨rfl, rfl⟩ | (refine ⟨?_, ?_⟩ <;> first | rfl | omega)
        · first | trivial | rfl
      · refine vc_exit ?_
        refine thn_x ?_
        refine thn_x ?_
        refine inB_x ?_
        refine thn ?_
        refine vc_sr ?_
        iterate 2 refine vo ?_
        refine vnt ?_
        refine vc_ret ?_
        refine fin_i [] rfl (fz ?_) trivial
        rw [show j = 32 by omega]
set_option maxHeartbeats 4000000 in
theorem c_impl_HashBytes {key x : ByteArray} (hk : key.size = 16 := by assumption) (hx : x.size ≤ 12 := by omega) : Con0 Tryz.prog 109 [Z key, Z x] (I (hashF key x (8 * x.size))) [] := by
  refine con_i Tryz.func109 Tryz.ntmps109 (t := [(0, Z key), (1, Z x)]) rfl ?_
  refine vc_sr ?_
  refine vo ?_
  refine vnt ?_
  refine vc_seq' ?_
  refine vc_sr ?_
  iterate 4 refine vo ?_
  refine vsp (fun g1 => ?_) (fun g1 => ?_)
  · exact (g1 (by omega)).elim
  · iterate 3 refine von ?_
    refine vo ?_
    refine vnt ?_
    refine vc_if (fun g2 => ?_) (fun g2 => ?_)
    · exfalso; omega
    · refine vc_skip ?_
      refine thn ?_
      refine vc_sr ?_
      refine vo ?_
      refine vnt ?_
      refine vc_seq' ?_
      refine vc_sr ?_
      refine vo ?_
      refine vnt ?_
      refine vc_block ?_
      refine vc_lp (σ := Nat) [0, 1] [] (fun j => [(5, I (hashF key x j)), (6, I (j : Nat))]) (fun j => []) (fun j => j ≤ 8 * x.size) (fun j => 8 * x.size - j) 0 rfl rfl (sub_i [] (fz ?_) (fz ?_)) ?_ fun j hI => ?_
      · first | trivial | rfl | exact ⟨rfl, rfl⟩
      · first | trivial | rfl
      · exact Nat.zero_le _
      refine vc_nf rfl rfl ?_
      refine vc_seq' ?_
      refine vc_sr ?_
      iterate 4 refine vo ?_
      try refine vwr ?_
      refine vo ?_
      refine vnt ?_
      refine vc_if (fun g3 => ?_) (fun g3 => ?_)
      · refine vc_skip ?_
        refine thn ?_
        refine vc_seq' ?_
        refine vc_block ?_
        refine vc_sr ?_
        iterate 2 refine vo ?_
        refine voc c_impl_keyBit rfl rfl ?_
        refine vo ?_
        refine vnt ?_
        refine vc_if (fun g4 => ?_) (fun g4 => ?_)
        · refine vc_region ?_
          iterate 3 refine vo ?_
          refine voc c_impl_KeyWindow rfl rfl ?_
          iterate 2 refine vo ?_
          refine vnil ?_
          refine inB_n ?_
          refine thn ?_
          refine vc_region ?_
          iterate 2 refine vo ?_
          try refine vwr ?_
          refine vo ?_
          refine vnt ?_
          refine ⟨j + 1, ?_, ?_, sub_i [] (fz ?_) (fz ?_)⟩
          · omega
          · omega
          · first | (refine ⟨?_, rfl⟩; rw [hashF, if_pos (by omega)]; done) | (refine ⟨?_, rfl⟩; rw [hashF, if_neg (by omega)]; done) | trace_state
          · first | trivial | rfl
        · refine vc_skip ?_
          refine inB_n ?_
          refine thn ?_
          refine vc_region ?_
          iterate 2 refine vo ?_
          try refine vwr ?_
          refine vo ?_
          refine vnt ?_
          refine ⟨j + 1, ?_, ?_, sub_i [] (fz ?_) (fz ?_)⟩
          · omega
          · omega
          · first | (refine ⟨?_, rfl⟩; rw [hashF, if_pos (by omega)]; done) | (refine ⟨?_, rfl⟩; rw [hashF, if_neg (by omega)]; done) | trace_state
          · first | trivial | rfl
      · refine vc_exit ?_
        refine thn_x ?_
        refine thn_x ?_
        refine inB_x ?_
        refine thn ?_
        refine vc_sr ?_
        iterate 2 refine vo ?_
        refine vnt ?_
        refine vc_ret ?_
        refine fin_i [] rfl (fz ?_) trivial
        rw [show j = 8 * x.size by omega]
def hinF (si di sp dp : Int) : ByteArray := word32 si ++ word32 di ++ word16 sp ++ word16 dp
theorem hin_le (si di sp dp : Int) : (hinF si di sp dp).size ≤ 12 := by
  have := word32_le si; have := word32_le di; have := word16_le sp; have := word16_le dp
  unfold hinF
  simp only [ByteArray.size_append]; omega
def hflF (key : ByteArray) (si di sp dp : Int) : Int := hashF key (hinF si di sp dp) (8 * (hinF si di sp dp).size)
set_option maxHeartbeats 4000000 in
theorem c_impl_HashInput {kind si di sp dp : Int} : Con0 Tryz.prog 110 [.agg [V kind, V si, V di, V sp, V dp]] (Z (hinF si di sp dp)) [] := by
  refine con_i Tryz.func110 Tryz.ntmps110 (t := [(0, .agg [V kind, V si, V di, V sp, V dp])]) rfl ?_
  refine vc_sr ?_
  iterate 2 refine vo ?_
  refine vnt ?_
  refine vc_sr ?_
  iterate 2 refine vo ?_
  refine voc c_impl_Word32 rfl rfl ?_
  refine vzs (word32_le _) fun z1 => ?_
  iterate 2 refine vo ?_
  refine voc c_impl_Word32 rfl rfl ?_
  refine vzs (word32_le _) fun z2 => ?_
  iterate 3 refine vo ?_
  refine voc c_impl_Word16 rfl rfl ?_
  refine vzs (word16_le _) fun z3 => ?_
  iterate 3 refine vo ?_
  refine voc c_impl_Word16 rfl rfl ?_
  refine vzs (word16_le _) fun z4 => ?_
  iterate 2 refine vo ?_
  refine vnt ?_
  refine vc_ret ?_
  refine fin_i [] rfl (fz ?_) trivial
  rfl
set_option maxHeartbeats 4000000 in
theorem c_impl_HashFlow {key : ByteArray} {kind si di sp dp : Int} (hk : key.size = 16 := by assumption) : Con0 Tryz.prog 78 [Z key, .agg [V kind, V si, V di, V sp, V dp]] (I (hflF key si di sp dp)) [] := by
  have hz := hin_le si di sp dp
  refine con_i Tryz.func78 Tryz.ntmps78 (t := [(0, Z key), (1, .agg [V kind, V si, V di, V sp, V dp])]) rfl ?_
  refine vc_sr ?_
  iterate 2 refine vo ?_
  refine vnt ?_
  refine vc_sr ?_
  iterate 2 refine vo ?_
  refine voc c_impl_HashInput rfl rfl ?_
  refine voc c_impl_HashBytes rfl rfl ?_
  refine vo ?_
  refine vnt ?_
  refine vc_ret ?_
  refine fin_i [] rfl (fz ?_) trivial
  rfl
end Go.Proofs.YtfcmcedeapgdcaaGreat
end
section
namespace Go.Vc
open Go Go.RowKit
set_option linter.unusedVariables false
set_option linter.unusedSectionVars false
set_option linter.unusedSimpArgs false
set_option linter.unnecessarySimpa false
def fldK (g : TypeId → Option (List Nat)) (sz : TypeId → Option Nat) : Nat → List Field → Option (List Nat)
  | _, [] => some []
  | off, f :: fs => if f.name = "_" then none else if f.offset = off then match g f.type with
    | some k1 => if sz f.type = some k1.length then match fldK g sz (off + k1.length) fs with
      | some k2 => some (k1 ++ k2)
      | none => none else none
    | none => none else none
def szT (P : Program) [TyEnv P] (T : TypeId) : Option Nat := (TyEnv.ti P T).map (·.size)
def ksOf (P : Program) [TyEnv P] : Nat → TypeId → Option (List Nat)
  | 0, _ => none
  | d + 1, T => match TyEnv.ti P T with
    | some i => match i.k with
      | .int .i64 => some [0]
      | .bool => some [1]
      | .str => some [2]
      | .struct _ => if P.stoodInHeld T then none else fldK (ksOf P d) (szT P) 0 (P.fieldsOf T).toList
      | _ => none
    | none => none
def rowT (P : Program) [TyEnv P] (T : TypeId) : Bool := match TyEnv.ti P T with
  | some i => i.k.row
  | none => false
def VL (row : Bool) (xs : List Value) (v : Value) : Prop := if row then v = .agg xs.toArray else xs = [v]
theorem kd_0 {a : Value} (h : kd a = 0) : ∃ x, a = .int .i64 x := by
  cases a <;> simp [kd] at h
  rename_i k n
  cases k <;> simp [kd] at h
  exact ⟨n, rfl⟩
theorem kd_1 {a : Value} (h : kd a = 1) : ∃ x, a = .bool x := by
  cases a <;> simp [kd] at h
  · exact ⟨_, rfl⟩
  · rename_i k n; cases k <;> simp [kd] at h
theorem kd_2 {a : Value} (h : kd a = 2) : ∃ x, a = .string x := by
  cases a <;> simp [kd] at h
  · rename_i k n; cases k <;> simp [kd] at h
  · exact ⟨_, rfl⟩
theorem ceqV_app : ∀ (k1 : List Nat) {a1 b1 a2 b2 : List Value}, (∀ k ∈ k1, k < 3) → a1.map kd = k1 → b1.map kd = k1 → ceqV (a1 ++ a2) (b1 ++ b2) = (ceqV a1 b1 && ceqV a2 b2)
  | [], [], [], _, _, _, _, _ => by simp [ceqV]
  | k :: k1, a :: a1, b :: b1, a2, b2, h, ha, hb => by
    simp only [List.map_cons, List.cons.injEq] at ha hb
    have ih := ceqV_app k1 (a2 := a2) (b2 := b2) (fun k hk => h k (List.mem_cons_of_mem _ hk)) ha.2 hb.2
    have hk := h k (List.mem_cons_self ..)
    have : k = 0 ∨ k = 1 ∨ k = 2 := by omega
    rcases this with rfl | rfl | rfl
    · obtain ⟨x, rfl⟩ := kd_0 ha.1
      obtain ⟨y, rfl⟩ := kd_0 hb.1
      simp only [List.cons_append, ceqV, ih, Bool.and_assoc]
    · obtain ⟨x, rfl⟩ := kd_1 ha.1
      obtain ⟨y, rfl⟩ := kd_1 hb.1
      simp only [List.cons_append, ceqV, ih, Bool.and_assoc]
    · obtain ⟨x, rfl⟩ := kd_2 ha.1
      obtain ⟨y, rfl⟩ := kd_2 hb.1
      simp only [List.cons_append, ceqV, ih, Bool.and_assoc]
section
variable {P : Program} [TyEnv P]
theorem fldK_lt {g : TypeId → Option (List Nat)} {sz : TypeId → Option Nat} (hg : ∀ T ks, g T = some ks → ∀ k ∈ ks, k < 3) : ∀ {fs : List Field} {off : Nat} {ks : List Nat}, fldK g sz off fs = some ks → ∀ k ∈ ks, k < 3
  | [], _, _, h => by simp only [fldK, Option.some.injEq] at h; subst h; simp
  | f :: fs, off, ks, h => by
    simp only [fldK] at h
    split at h
    · cases h
    · split at h
      · split at h
        · rename_i k1 h1
          split at h
          · split at h
            · rename_i k2 h2
              simp only [Option.some.injEq] at h
              subst h
              intro k hk
              rcases List.mem_append.1 hk with hk | hk
              · exact hg _ _ h1 k hk
              · exact fldK_lt hg h2 k hk
            · cases h
          · cases h
        · cases h
      · cases h
theorem ksOf_lt : ∀ {d : Nat} {T : TypeId} {ks : List Nat}, ksOf P d T = some ks → ∀ k ∈ ks, k < 3
  | d + 1, T, ks, h => by
    simp only [ksOf] at h
    split at h
    · split at h
      · simp only [Option.some.injEq] at h; subst h; simp
      · simp only [Option.some.injEq] at h; subst h; simp
      · simp only [Option.some.injEq] at h; subst h; simp
      · split at h
        · cases h
        · exact fldK_lt (fun T ks h => ksOf_lt (d := d) h) h
      · cases h
    · cases h
theorem part_ok {T : TypeId} {i : TyI} (hi : TyEnv.ti P T = some i) {xs : List Value} {off : Nat} (h : off + i.size ≤ xs.length) (w : World) : ∃ v, (part T xs.toArray off).run P w = .ok v w ∧ VL i.k.row ((xs.drop off).take i.size) v := by
  obtain ⟨d, hu, hr⟩ := ty_und hi
  cases hrow : i.k.row with
  | true =>
    have hagg : (isAgg T).run P w = .ok true w := by
      unfold isAgg
      rw [Sem.run_bind, run_underlying hu w]
      rw [hrow] at hr
      cases d <;> first | rfl | (cases hr)
    have hz : (Go.sizeOf T).run P w = .ok i.size w := by
      obtain ⟨inf, h1, h2⟩ := Option.map_eq_some_iff.1 (ty_size hi)
      simp [sizeOf, typeInfo, h1, h2]
    refine ⟨.agg (xs.toArray.extract off (off + i.size)), ?_, ?_⟩
    · simp [part, Sem.run_bind, hagg, hz]
    · simp only [VL, if_true]
      congr 1
      rw [List.extract_toArray]
      simp [List.extract, Nat.add_sub_cancel_left]
  | false =>
    have hagg : (isAgg T).run P w = .ok false w := by
      unfold isAgg
      rw [Sem.run_bind, run_underlying hu w]
      rw [hrow] at hr
      cases d <;> first | rfl | (cases hr)
    have h1 := ty_one hi hrow
    have hx : xs[off]? = some (xs[off]'(by omega)) := List.getElem?_eq_getElem (by omega)
    refine ⟨xs[off]'(by omega), ?_, ?_⟩
    · simp [part, Sem.run_bind, hagg, hx]
    · simp only [VL, Bool.false_eq_true, if_false]
      rw [h1, List.drop_eq_getElem_cons (by omega)]; rfl
def EqD (P : Program) [TyEnv P] (N : Nat) (T : TypeId) (ks : List Nat) : Prop := ∀ (w : World) (xs ys : List Value) (u v : Value), xs.map kd = ks → ys.map kd = ks → VL (rowT P T) xs u → VL (rowT P T) ys v → (Op.equalIn N T u v).run P w = .ok (ceqV xs ys) w
theorem flds_ok {N : Nat} {g : TypeId → Option (List Nat)} (hg : ∀ T ks, g T = some ks → EqD P N T ks ∧ ∀ k ∈ ks, k < 3) : ∀ {fs : List Field} {off : Nat} {ks : List Nat}, fldK g (szT P) off fs = some ks → ∀ (w : World) (xs ys : List Value), (xs.drop off).map kd = ks → (ys.drop off).map kd = ks → (Op.eqFields N xs.toArray ys.toArray fs).run P w = .ok (ceqV (xs.drop off) (ys.drop off)) w
  | [], off, ks, h, w, xs, ys, hx, hy => by
    simp only [fldK, Option.some.injEq] at h
    subst h
    have e1 : xs.drop off = [] := by simpa using hx
    have e2 : ys.drop off = [] := by simpa using hy
    simp [Op.eqFields, e1, e2, ceqV]
  | f :: fs, off, ks, h, w, xs, ys, hx, hy => by
    simp only [fldK] at h
    split at h
    · cases h
    · rename_i hn
      split at h
      · rename_i ho
        split at h
        · rename_i k1 h1
          split at h
          · rename_i hs
            split at h
            · rename_i k2 h2
              simp only [Option.some.injEq] at h
              subst h
              obtain ⟨i, hi, hsz⟩ := Option.map_eq_some_iff.1 hs
              have lx := congrArg List.length hx
              have ly := congrArg List.length hy
              simp only [List.length_map, List.length_drop, List.length_append] at lx ly
              have hpos := ty_pos hi
              obtain ⟨u, u1, u2⟩ := part_ok hi (xs := xs) (off := off) (by omega) w
              obtain ⟨v, v1, v2⟩ := part_ok hi (xs := ys) (off := off) (by omega) w
              have hrow : rowT P f.type = i.k.row := by unfold rowT; rw [hi]
              have sx : xs.drop off = (xs.drop off).take i.size ++ xs.drop (off + i.size) := by rw [← List.drop_drop]; exact (List.take_append_drop _ _).symm
              have sy : ys.drop off = (ys.drop off).take i.size ++ ys.drop (off + i.size) := by rw [← List.drop_drop]; exact (List.take_append_drop _ _).symm
              rw [sx, List.map_append] at hx
              rw [sy, List.map_append] at hy
              have hx' := List.append_inj hx (by rw [List.length_map, List.length_take, List.length_drop]; omega)
              have hy' := List.append_inj hy (by rw [List.length_map, List.length_take, List.length_drop]; omega)
              obtain ⟨gE, gl⟩ := hg _ _ h1
              have hr := gE w _ _ u v hx'.1 hy'.1 (by rw [hrow]; exact u2) (by rw [hrow]; exact v2)
              have ih := flds_ok hg h2 w xs ys (by rw [← hsz]; exact hx'.2) (by rw [← hsz]; exact hy'.2)
              simp only [Op.eqFields]
              rw [if_pos hn, ho]
              simp only [Sem.run_bind, u1, v1, hr, Result.andThen_ok]
              have hc : ceqV (xs.drop off) (ys.drop off) = (ceqV ((xs.drop off).take i.size) ((ys.drop off).take i.size) && ceqV (xs.drop (off + i.size)) (ys.drop (off + i.size))) := by
                rw [sx, sy]
                have := ceqV_app k1 (a2 := xs.drop (off + i.size)) (b2 := ys.drop (off + i.size)) gl hx'.1 hy'.1
                rw [← sx, ← sy] at this ⊢
                exact this
              rw [hc]
              cases hb : ceqV ((xs.drop off).take i.size) ((ys.drop off).take i.size) with
              | false => simp
              | true =>
                simp only [Bool.not_true, Bool.false_eq_true, if_false, Bool.true_and]
                rw [hsz]; exact ih
            · cases h
          · cases h
        · cases h
      · cases h
theorem ksOf_ok : ∀ {d N : Nat} {T : TypeId} {ks : List Nat}, ksOf P d T = some ks → d ≤ N → EqD P N T ks
  | d + 1, 0, T, ks, h, hN => by omega
  | d + 1, N + 1, T, ks, h, hN => by
    intro w xs ys u v hx hy hu hv
    simp only [ksOf] at h
    split at h
    · rename_i i hi
      have hrow : rowT P T = i.k.row := by unfold rowT; rw [hi]
      rw [hrow] at hu hv
      have hkind := ty_kind hi
      split at h
      · rename_i hk
        simp only [Option.some.injEq] at h; subst h
        rw [hk] at hu hv hkind
        simp only [VL, TK.row, Bool.false_eq_true, if_false] at hu hv
        subst hu hv
        simp only [List.map_cons, List.map_nil, List.cons.injEq, and_true] at hx hy
        obtain ⟨a, rfl⟩ := kd_0 hx
        obtain ⟨b, rfl⟩ := kd_0 hy
        rw [run_equalIn_int w N T _ _ a b hkind]
        simp only [ceqV, Bool.and_true]
        congr 1
      · rename_i hk
        simp only [Option.some.injEq] at h; subst h
        rw [hk] at hu hv hkind
        simp only [VL, TK.row, Bool.false_eq_true, if_false] at hu hv
        subst hu hv
        simp only [List.map_cons, List.map_nil, List.cons.injEq, and_true] at hx hy
        obtain ⟨a, rfl⟩ := kd_1 hx
        obtain ⟨b, rfl⟩ := kd_1 hy
        rw [run_equalIn_bool' w N T a b hkind]
        simp only [ceqV, Bool.and_true]
      · rename_i hk
        simp only [Option.some.injEq] at h; subst h
        rw [hk] at hu hv hkind
        simp only [VL, TK.row, Bool.false_eq_true, if_false] at hu hv
        subst hu hv
        simp only [List.map_cons, List.map_nil, List.cons.injEq, and_true] at hx hy
        obtain ⟨a, rfl⟩ := kd_2 hx
        obtain ⟨b, rfl⟩ := kd_2 hy
        rw [run_equalIn_string w N T a b hkind, str_beq]
        simp only [ceqV, Bool.and_true]
      · rename_i fs hk
        split at h
        · cases h
        · rename_i hst
          rw [hk] at hu hv hkind
          simp only [VL, TK.row, if_true] at hu hv
          subst hu hv
          rw [run_equalIn_struct w N T _ _ hkind.1 (by simpa using hst)]
          have := flds_ok (N := N) (g := ksOf P d) (fun T ks h => ⟨ksOf_ok h (by omega), ksOf_lt h⟩) h w xs ys (by rw [List.drop_zero]; exact hx) (by rw [List.drop_zero]; exact hy)
          rw [List.drop_zero, List.drop_zero] at this
          exact this
      · cases h
    · cases h
theorem eqOk_of {T : TypeId} {ks : List Nat} (d : Nat) (h : ksOf P d T = some ks) (hd : d ≤ 10000) (hr : rowT P T = true) (hg : P.eqGuardType P.depth T = false) : EqOk P T ks := by
  refine ⟨hg, fun w xs ys hx hy => ?_⟩
  have := ksOf_ok h hd w xs ys _ _ hx hy (by rw [hr]; exact rfl) (by rw [hr]; exact rfl)
  simpa [Op.equal, Op.maxDepth] using this
end
end Go.Vc
end
section
namespace Go.Proofs.YtfcmcedeapgdcaaGreat
open Go Go.RowKit Go.Vc
set_option linter.unusedVariables false
set_option linter.unusedSimpArgs false
set_option linter.unnecessarySimpa false
theorem eqk_Packet : EqOk Tryz.prog 35 [0, 0, 0, 0, 0, 0, 0, 0, 0, 0, 0, 0, 0, 0, 0, 2] := eqOk_of 4 (by kernel_rfl) (by decide) (by kernel_rfl) (by kernel_rfl)
theorem eqk_Super : EqOk Tryz.prog 37 [0, 0, 0, 0, 0, 0, 0, 0, 0, 0, 0, 0, 0, 0, 0, 2, 0, 0] := eqOk_of 4 (by kernel_rfl) (by decide) (by kernel_rfl) (by kernel_rfl)
def samB (dm sm vl tos id ttl si di kind sp dp seq ack fl win dm2 sm2 vl2 tos2 id2 ttl2 si2 di2 kind2 sp2 dp2 seq2 ack2 fl2 win2 : Int) : Bool := decide (dm = dm2) && decide (sm = sm2) && decide (vl = vl2) && decide (tos = tos2) && decide (ttl = ttl2) && decide (si = si2) && decide (di = di2) && decide (kind = kind2) && decide (sp = sp2) && decide (dp = dp2) && decide (ack = ack2) && decide (win = win2)
def noHeld (dm sm vl tos id ttl si di kind sp dp seq ack fl win : Int) (body : ByteArray) (size count : Int) : Bool := decide (dm = 0) && decide (sm = 0) && decide (vl = 0) && decide (tos = 0) && decide (id = 0) && decide (ttl = 0) && decide (si = 0) && decide (di = 0) && decide (kind = 0) && decide (sp = 0) && decide (dp = 0) && decide (seq = 0) && decide (ack = 0) && decide (fl = 0) && decide (win = 0) && decide (body = ⟨#[]⟩) && decide (size = 0) && decide (count = 0)
def rxOkB (rb rs rh rt db ds dc vb vs vc dm sm vl tos id ttl si di kind sp dp seq ack fl win : Int) (body : ByteArray) (size count : Int) (hold : Bool) (dropped : Int) : Bool := ringOkB rb rs rh rt && (queueOkB db ds dc && (queueOkB vb vs vc && (decide (db = vb) && (decide (ds = vs) && (inB dropped 0 1000000000000 && (if hold then superOkB dm sm vl tos id ttl si di kind sp dp seq ack fl win body.size && (inB size 0 320 && inB count 1 320) else noHeld dm sm vl tos id ttl si di kind sp dp seq ack fl win body size count))))))
set_option maxHeartbeats 4000000 in
theorem c_impl_FlowOf {dm sm vl tos id ttl si di kind sp dp seq ack fl win : Int} {body : ByteArray} : Con0 Tryz.prog 79 [.agg [V dm, V sm, V vl, V tos, V id, V ttl, V si, V di, V kind, V sp, V dp, V seq, V ack, V fl, V win, VS body]] (.agg [V kind, V si, V di, V sp, V dp]) [] := by
  refine con_i Tryz.func79 Tryz.ntmps79 (t := [(0, .agg [V dm, V sm, V vl, V tos, V id, V ttl, V si, V di, V kind, V sp, V dp, V seq, V ack, V fl, V win, VS body])]) rfl ?_
  refine vc_sr ?_
  iterate 2 refine vo ?_
  refine vnt ?_
  refine vc_sr ?_
  iterate 15 refine vo ?_
  refine vnt ?_
  refine vc_ret ?_
  refine fin_i [] rfl (fz ?_) trivial
  simp
set_option maxHeartbeats 4000000 in
theorem c_impl_Single {dm sm vl tos id ttl si di kind sp dp seq ack fl win : Int} {body : ByteArray} : Con0 Tryz.prog 32 [.agg [V dm, V sm, V vl, V tos, V id, V ttl, V si, V di, V kind, V sp, V dp, V seq, V ack, V fl, V win, VS body]] (.agg [V dm, V sm, V vl, V tos, V id, V ttl, V si, V di, V kind, V sp, V dp, V seq, V ack, V fl, V win, VS body, V body.size, V 1]) [] := by
  refine con_i Tryz.func32 Tryz.ntmps32 (t := [(0, .agg [V dm, V sm, V vl, V tos, V id, V ttl, V si, V di, V kind, V sp, V dp, V seq, V ack, V fl, V win, VS body])]) rfl ?_
  refine vc_sr ?_
  iterate 2 refine vo ?_
  refine vnt ?_
  refine vc_sr ?_
  iterate 7 refine vo ?_
  refine vnt ?_
  refine vc_ret ?_
  refine fin_i [] rfl (fz ?_) trivial
  simp
set_option maxHeartbeats 4000000 in
theorem c_impl_SamePath {dm sm vl tos id ttl si di kind sp dp seq ack fl win dm2 sm2 vl2 tos2 id2 ttl2 si2 di2 kind2 sp2 dp2 seq2 ack2 fl2 win2 : Int} {body body2 : ByteArray} : Con0 Tryz.prog 72 [.agg [V dm, V sm, V vl, V tos, V id, V ttl, V si, V di, V kind, V sp, V dp, V seq, V ack, V fl, V win, VS body], .agg [V dm2, V sm2, V vl2, V tos2, V id2, V ttl2, V si2, V di2, V kind2, V sp2, V dp2, V seq2, V ack2, V fl2, V win2, VS body2]] (B (samB dm sm vl tos id ttl si di kind sp dp seq ack fl win dm2 sm2 vl2 tos2 id2 ttl2 si2 di2 kind2 sp2 dp2 seq2 ack2 fl2 win2)) [] := by
  have hE := eqk_Packet
  refine con_i Tryz.func72 Tryz.ntmps72 (t := [(0, .agg [V dm, V sm, V vl, V tos, V id, V ttl, V si, V di, V kind, V sp, V dp, V seq, V ack, V fl, V win, VS body]), (1, .agg [V dm2, V sm2, V vl2, V tos2, V id2, V ttl2, V si2, V di2, V kind2, V sp2, V dp2, V seq2, V ack2, V fl2, V win2, VS body2])]) rfl ?_
  refine vc_sr ?_
  iterate 3 refine vo ?_
  refine vnt ?_
  refine vc_sr ?_
  iterate 4 refine vo ?_
  refine vnt ?_
  refine vc_sr ?_
  iterate 6 refine vo ?_
  refine vnt ?_
  refine vc_sr ?_
  iterate 6 refine vo ?_
  refine vnt ?_
  refine vc_sr ?_
  iterate 6 refine vo ?_
  refine vnt ?_
  refine vc_sr ?_
  iterate 4 refine vo ?_
  refine vnt ?_
  refine vc_ret ?_
  refine fin_i [] rfl (fz ?_) trivial
  simp [ceqV, samB, Bool.and_assoc]
set_option maxHeartbeats 4000000 in
theorem c_impl_RxOk {rb rs rh rt db ds dc vb vs vc dm sm vl tos id ttl si di kind sp dp seq ack fl win size count dropped : Int} {body : ByteArray} {hold : Bool} : Con0 Tryz.prog 12 [.agg [V rb, V rs, V rh, V rt, V db, V ds, V dc, V vb, V vs, V vc, V dm, V sm, V vl, V tos, V id, V ttl, V si, V di, V kind, V sp, V dp, V seq, V ack, V fl, V win, VS body, V size, V count, VB hold, V dropped]] (B (rxOkB rb rs rh rt db ds dc vb vs vc dm sm vl tos id ttl si di kind sp dp seq ack fl win body size count hold dropped)) [] := by
  have hE := eqk_Super
  refine con_i Tryz.func12 Tryz.ntmps12 (t := [(0, .agg [V rb, V rs, V rh, V rt, V db, V ds, V dc, V vb, V vs, V vc, V dm, V sm, V vl, V tos, V id, V ttl, V si, V di, V kind, V sp, V dp, V seq, V ack, V fl, V win, VS body, V size, V count, VB hold, V dropped])]) rfl ?_
  refine vc_sr ?_
  iterate 2 refine vo ?_
  refine vnt ?_
  refine vc_seq' ?_
  refine vc_sr ?_
  iterate 2 refine vo ?_
  refine voc c_impl_RingOk rfl rfl ?_
  iterate 2 refine vo ?_
  refine vsp (fun g1 => ?_) (fun g1 => ?_)
  · iterate 4 refine vof ?_
    iterate 2 refine vo ?_
    iterate 4 refine vof ?_
    iterate 2 refine vo ?_
    iterate 7 refine vof ?_
    iterate 2 refine vo ?_
    iterate 7 refine vof ?_
    iterate 2 refine vo ?_
    iterate 4 refine vof ?_
    refine vo ?_
    refine vnt ?_
    refine vc_then ?_
    refine vc_sr ?_
    refine vo ?_
    refine vnt ?_
    refine vc_ret ?_
    refine thn_r ?_
    refine fin_i [] rfl (fz ?_) trivial
    rw [rxOkB, g1]
    simp
  · iterate 2 refine von ?_
    refine vocn c_impl_QueueOk rfl rfl ?_
    refine von ?_
    iterate 2 refine vo ?_
    refine vsp (fun g2 => ?_) (fun g2 => ?_)
    · iterate 4 refine vof ?_
      iterate 2 refine vo ?_
      iterate 7 refine vof ?_
      iterate 2 refine vo ?_
      iterate 7 refine vof ?_
      iterate 2 refine vo ?_
      iterate 4 refine vof ?_
      refine vo ?_
      refine vnt ?_
      refine vc_then ?_
      refine vc_sr ?_
      refine vo ?_
      refine vnt ?_
      refine vc_ret ?_
      refine thn_r ?_
      refine fin_i [] rfl (fz ?_) trivial
      rw [rxOkB, g1, g2]
      simp
    · iterate 2 refine von ?_
      refine vocn c_impl_QueueOk rfl rfl ?_
      refine von ?_
      iterate 2 refine vo ?_
      refine vsp (fun g3 => ?_) (fun g3 => ?_)
      · iterate 7 refine vof ?_
        iterate 2 refine vo ?_
        iterate 7 refine vof ?_
        iterate 2 refine vo ?_
        iterate 4 refine vof ?_
        refine vo ?_
        refine vnt ?_
        refine vc_then ?_
        refine vc_sr ?_
        refine vo ?_
        refine vnt ?_
        refine vc_ret ?_
        refine thn_r ?_
        refine fin_i [] rfl (fz ?_) trivial
        rw [rxOkB, g1, g2, g3]
        simp
      · iterate 7 refine von ?_
        iterate 2 refine vo ?_
        refine vsp (fun g4 => ?_) (fun g4 => ?_)
        · iterate 7 refine vof ?_
          iterate 2 refine vo ?_
          iterate 4 refine vof ?_
          refine vo ?_
          refine vnt ?_
          refine vc_then ?_
          refine vc_sr ?_
          refine vo ?_
          refine vnt ?_
          refine vc_ret ?_
          refine thn_r ?_
          refine fin_i [] rfl (fz ?_) trivial
          rw [rxOkB, g1, g2, g3, decide_eq_false g4]
          simp
        · iterate 7 refine von ?_
          iterate 2 refine vo ?_
          refine vsp (fun g5 => ?_) (fun g5 => ?_)
          · iterate 4 refine vof ?_
            refine vo ?_
            refine vnt ?_
            refine vc_then ?_
            refine vc_sr ?_
            refine vo ?_
            refine vnt ?_
            refine vc_ret ?_
            refine thn_r ?_
            refine fin_i [] rfl (fz ?_) trivial
            rw [rxOkB, g1, g2, g3, decide_eq_true g4, decide_eq_false g5]
            simp
          · iterate 2 refine von ?_
            refine vocn c_impl_between rfl rfl ?_
            refine von ?_
            refine vo ?_
            refine vnt ?_
            refine vc_if (fun g6 => ?_) (fun g6 => ?_)
            · refine vc_sr ?_
              refine vo ?_
              refine vnt ?_
              refine vc_ret ?_
              refine thn_r ?_
              refine fin_i [] rfl (fz ?_) trivial
              rw [rxOkB, g1, g2, g3, decide_eq_true g4, decide_eq_true g5, g6]
              simp
            · refine vc_skip ?_
              refine thn ?_
              refine vc_seq' ?_
              refine vc_sr ?_
              iterate 3 refine vo ?_
              refine vnt ?_
              refine vc_if (fun g7 => ?_) (fun g7 => ?_)
              · refine vc_sr ?_
                iterate 5 refine vo ?_
                refine vnt ?_
                refine vc_ret ?_
                refine thn_r ?_
                refine fin_i [] rfl (fz ?_) trivial
                rw [rxOkB, g1, g2, g3, decide_eq_true g4, decide_eq_true g5, g6]
                rw [g7]
                simp [ceqV, noHeld, Bool.and_assoc]
              · refine vc_skip ?_
                refine thn ?_
                refine vc_sr ?_
                iterate 3 refine vo ?_
                refine voc c_impl_SuperOk rfl rfl ?_
                refine vo ?_
                refine vsp (fun g8 => ?_) (fun g8 => ?_)
                · iterate 3 refine von ?_
                  refine vocn c_impl_between rfl rfl ?_
                  iterate 2 refine vo ?_
                  refine vsp (fun g9 => ?_) (fun g9 => ?_)
                  · iterate 3 refine von ?_
                    refine vocn c_impl_between rfl rfl ?_
                    iterate 2 refine vo ?_
                    refine vnt ?_
                    refine vc_ret ?_
                    refine fin_i [] rfl (fz ?_) trivial
                    rw [rxOkB, g1, g2, g3, decide_eq_true g4, decide_eq_true g5, g6]
                    rw [g7]
                    simp [g8, g9]
                  · iterate 4 refine vof ?_
                    iterate 2 refine vo ?_
                    refine vnt ?_
                    refine vc_ret ?_
                    refine fin_i [] rfl (fz ?_) trivial
                    rw [rxOkB, g1, g2, g3, decide_eq_true g4, decide_eq_true g5, g6]
                    rw [g7]
                    simp [g8, g9]
                · iterate 4 refine vof ?_
                  iterate 2 refine vo ?_
                  iterate 4 refine vof ?_
                  iterate 2 refine vo ?_
                  refine vnt ?_
                  refine vc_ret ?_
                  refine fin_i [] rfl (fz ?_) trivial
                  rw [rxOkB, g1, g2, g3, decide_eq_true g4, decide_eq_true g5, g6]
                  rw [g7]
                  simp [g8]
set_option maxHeartbeats 4000000 in
theorem c_spec_FlowOf {dm sm vl tos id ttl si di kind sp dp seq ack fl win : Int} {body : ByteArray} : Con0 Tryz.prog 53 [.agg [V dm, V sm, V vl, V tos, V id, V ttl, V si, V di, V kind, V sp, V dp, V seq, V ack, V fl, V win, VS body]] (.agg [V kind, V si, V di, V sp, V dp]) [] := by
  refine con_i Tryz.func53 Tryz.ntmps53 (t := [(0, .agg [V dm, V sm, V vl, V tos, V id, V ttl, V si, V di, V kind, V sp, V dp, V seq, V ack, V fl, V win, VS body])]) rfl ?_
  refine vc_sr ?_
  iterate 2 refine vo ?_
  refine vnt ?_
  refine vc_sr ?_
  iterate 15 refine vo ?_
  refine vnt ?_
  refine vc_ret ?_
  refine fin_i [] rfl (fz ?_) trivial
  simp
end Go.Proofs.YtfcmcedeapgdcaaGreat
end
section
namespace Go.Proofs.YtfcmcedeapgdcaaGreat
open Go Go.RowKit Go.Vc
set_option linter.unusedVariables false
set_option linter.unusedSimpArgs false
set_option linter.unnecessarySimpa false
theorem dec_n {s : ByteArray} (h : ¬ s.size = 16 ∨ ¬ encDF (bAt s 0) (bAt s 1) (get16 s 2) (get32 s 4) (get16 s 8) (get16 s 10) = s) : decDF s = ((0, 0, 0, 0, 0, 0), false) := by
  unfold decDF
  split
  · split
    · rename_i h1 h2
      rcases h with h | h
      · exact (h h1).elim
      · exact (h h2).elim
    · rfl
  · rfl
theorem dec_y {s : ByteArray} (h1 : s.size = 16) (h2 : encDF (bAt s 0) (bAt s 1) (get16 s 2) (get32 s 4) (get16 s 8) (get16 s 10) = s) : decDF s = (decX s, true) := by
  unfold decDF
  rw [if_pos h1, if_pos h2]
theorem dec_at (s : ByteArray) : (decDF s).1.2.2.2.1 ≤ 4294967295 := by
  have := get32_bd s 4
  unfold decDF
  split
  · split
    · exact this.2
    · simp
  · simp
theorem dw_len (l : List Mp) (ps : Pg) (d a : Int) (s : ByteArray) (wt : Bool) : (dmaWF l ps d a s wt).1.length = ps.length := dmaWF_len (qs := (dmaWF l ps d a s wt).1) (ok := (dmaWF l ps d a s wt).2) rfl
set_option maxHeartbeats 4000000 in
theorem c_impl_DecodeDesc {s : ByteArray} (hs_s : s.size ≤ 1099511627776 := by first | with_reducible assumption | omega | (simp only [ByteArray.size_append, ByteArray.size_extract, strOfNums_size, List.length_cons, List.length_nil]; omega)) : Con0 Tryz.prog 75 [Z s] (.tup [.agg [V (decDF s).1.1, V (decDF s).1.2.1, V (decDF s).1.2.2.1, V (decDF s).1.2.2.2.1, V (decDF s).1.2.2.2.2.1, V (decDF s).1.2.2.2.2.2], B (decDF s).2]) [] := by
  refine con_i Tryz.func75 Tryz.ntmps75 (t := [(0, Z s)]) rfl ?_
  refine vc_sr ?_
  iterate 2 refine vo ?_
  refine vnt ?_
  refine vc_seq' ?_
  refine vc_sr ?_
  iterate 3 refine vo ?_
  refine vnt ?_
  refine vc_if (fun g1 => ?_) (fun g1 => ?_)
  · refine vc_sr ?_
    iterate 3 refine vo ?_
    refine vnt ?_
    refine vc_ret ?_
    refine thn_r ?_
    refine fin_i [] rfl (fz ?_) trivial
    rw [dec_n (.inl (by omega))]
    simp
  · refine vc_skip ?_
    refine thn ?_
    refine vc_sr ?_
    iterate 3 refine vo ?_
    refine veq (i64_byt s 0) ?_
    iterate 3 refine vo ?_
    refine veq (i64_byt s 1) ?_
    refine vo ?_
    refine voc c_impl_Get16 rfl rfl ?_
    refine vo ?_
    refine voc c_impl_Get32 rfl rfl ?_
    refine vo ?_
    refine voc c_impl_Get16 rfl rfl ?_
    refine vo ?_
    refine voc c_impl_Get16 rfl rfl ?_
    iterate 3 refine vo ?_
    refine vnt ?_
    refine vc_seq' ?_
    refine vc_sr ?_
    refine vo ?_
    refine voc c_impl_EncodeDesc rfl rfl ?_
    iterate 2 refine vo ?_
    refine vnt ?_
    refine vc_if (fun g2 => ?_) (fun g2 => ?_)
    · refine vc_sr ?_
      iterate 3 refine vo ?_
      refine vnt ?_
      refine vc_ret ?_
      refine thn_r ?_
      refine fin_i [] rfl (fz ?_) trivial
      rw [dec_n (.inr g2)]
      simp
    · refine vc_skip ?_
      refine thn ?_
      refine vc_sr ?_
      iterate 3 refine vo ?_
      refine vnt ?_
      refine vc_ret ?_
      refine fin_i [] rfl (fz ?_) trivial
      rw [dec_y (by omega) g2]
      simp [decX]
def stF (l : List Mp) (ps : Pg) (d db ds dc dm sm vl tos id ttl si di kind sp dp seq ack fl win : Int) (body : ByteArray) (size count : Int) (key entry : ByteArray) : Pg × Int × Bool :=
  if (decDF entry).2 = true ∧ (decDF entry).1.1 = 3 ∧ ¬ (decDF entry).1.2.2.1 < ((imgR dm sm vl tos id ttl si di kind sp dp seq ack fl win body).size : Int) then
    if (dmaWF l ps d (decDF entry).1.2.2.2.1 (imgR dm sm vl tos id ttl si di kind sp dp seq ack fl win body) true).2 = true then putC l (dmaWF l ps d (decDF entry).1.2.2.2.1 (imgR dm sm vl tos id ttl si di kind sp dp seq ack fl win body) true).1 d db ds dc (decDF entry).1.2.2.2.2.2 (imgR dm sm vl tos id ttl si di kind sp dp seq ack fl win body).size size count (hflF key si di sp dp) else (ps, dc, false)
  else (ps, dc, false)
theorem st_n {l : List Mp} {ps : Pg} {d db ds dc dm sm vl tos id ttl si di kind sp dp seq ack fl win size count : Int} {body key entry : ByteArray} (h : (decDF entry).2 = false ∨ ¬ (decDF entry).1.1 = 3 ∨ (decDF entry).1.2.2.1 < ((imgR dm sm vl tos id ttl si di kind sp dp seq ack fl win body).size : Int) ∨ (dmaWF l ps d (decDF entry).1.2.2.2.1 (imgR dm sm vl tos id ttl si di kind sp dp seq ack fl win body) true).2 = false) : stF l ps d db ds dc dm sm vl tos id ttl si di kind sp dp seq ack fl win body size count key entry = (ps, dc, false) := by
  unfold stF
  split
  · rename_i h1
    split
    · rename_i h2
      rcases h with h | h | h | h
      · rw [h1.1] at h; cases h
      · exact (h h1.2.1).elim
      · exact (h1.2.2 h).elim
      · rw [h2] at h; cases h
    · rfl
  · rfl
theorem st_y {l : List Mp} {ps : Pg} {d db ds dc dm sm vl tos id ttl si di kind sp dp seq ack fl win size count : Int} {body key entry : ByteArray} (h1 : (decDF entry).2 = true) (h2 : (decDF entry).1.1 = 3) (h3 : ((imgR dm sm vl tos id ttl si di kind sp dp seq ack fl win body).size : Int) ≤ (decDF entry).1.2.2.1) (h4 : (dmaWF l ps d (decDF entry).1.2.2.2.1 (imgR dm sm vl tos id ttl si di kind sp dp seq ack fl win body) true).2 = true) : stF l ps d db ds dc dm sm vl tos id ttl si di kind sp dp seq ack fl win body size count key entry = putC l (dmaWF l ps d (decDF entry).1.2.2.2.1 (imgR dm sm vl tos id ttl si di kind sp dp seq ack fl win body) true).1 d db ds dc (decDF entry).1.2.2.2.2.2 (imgR dm sm vl tos id ttl si di kind sp dp seq ack fl win body).size size count (hflF key si di sp dp) := by
  unfold stF
  rw [if_pos ⟨h1, h2, by omega⟩, if_pos h4]
set_option maxHeartbeats 4000000 in
theorem c_impl_storeHeld_n {l : List Mp} {ps : Pg} {d rb rs rh rt db ds dc vb vs vc dm sm vl tos id ttl si di kind sp dp seq ack fl win size count dropped : Int} {body key entry : ByteArray} {hold : Bool} (hl : l.length ≤ 1099511627776 := by first | with_reducible assumption | omega) (hp : ps.length ≤ 1099511627776 := by first | with_reducible assumption | omega) (hk : key.size = 16 := by assumption) (hsp : superOkB dm sm vl tos id ttl si di kind sp dp seq ack fl win body.size = true := by assumption) (hse : entry.size ≤ 1099511627776 := by first | assumption | omega) (hn : (stF l ps d db ds dc dm sm vl tos id ttl si di kind sp dp seq ack fl win body size count key entry).2.2 = false := by assumption) : Con0 Tryz.prog 34 [.one (.sl 4 (l.map mpE)), .agg [.sl 1 (ps.map strE)], I d, .agg [V rb, V rs, V rh, V rt, V db, V ds, V dc, V vb, V vs, V vc, V dm, V sm, V vl, V tos, V id, V ttl, V si, V di, V kind, V sp, V dp, V seq, V ack, V fl, V win, VS body, V size, V count, VB hold, V dropped], Z key, Z entry] (.tup [.agg [.junk], .agg [V db, V ds, V (stF l ps d db ds dc dm sm vl tos id ttl si di kind sp dp seq ack fl win body size count key entry).2.1], B false]) [] := by
  have hi := sup_img hsp
  have ha := dec_at entry
  have hln := dw_len l ps d (decDF entry).1.2.2.2.1 (imgR dm sm vl tos id ttl si di kind sp dp seq ack fl win body) true
  refine con_i Tryz.func34 Tryz.ntmps34 (t := [(0, .one (.sl 4 (l.map mpE))), (1, .agg [.sl 1 (ps.map strE)]), (2, I d), (3, .agg [V rb, V rs, V rh, V rt, V db, V ds, V dc, V vb, V vs, V vc, V dm, V sm, V vl, V tos, V id, V ttl, V si, V di, V kind, V sp, V dp, V seq, V ack, V fl, V win, VS body, V size, V count, VB hold, V dropped]), (4, Z key), (5, Z entry)]) rfl ?_
  refine vc_sr ?_
  iterate 5 refine vo ?_
  refine vnt ?_
  refine vc_sr ?_
  refine vo ?_
  refine voc c_impl_DecodeDesc rfl rfl ?_
  iterate 6 refine vo ?_
  refine vnt ?_
  refine vc_sr ?_
  iterate 3 refine vo ?_
  refine voc c_impl_BuildImage rfl rfl ?_
  iterate 5 refine vo ?_
  refine vnt ?_
  refine vc_seq' ?_
  refine vc_sr ?_
  iterate 3 refine vo ?_
  refine vsp (fun g1 => ?_) (fun g1 => ?_)
  · iterate 2 refine vof ?_
    iterate 2 refine vo ?_
    iterate 3 refine vof ?_
    iterate 2 refine vo ?_
    iterate 5 refine vof ?_
    refine vo ?_
    refine vnt ?_
    refine vc_then ?_
    refine vc_sr ?_
    iterate 6 refine vo ?_
    refine vnt ?_
    refine vc_ret ?_
    refine thn_r ?_
    have hst : stF l ps d db ds dc dm sm vl tos id ttl si di kind sp dp seq ack fl win body size count key entry = (ps, dc, false) := st_n (.inl g1)
    refine fin_i [] rfl (fz ?_) trivial
    simp [hst]
  · iterate 2 refine von ?_
    iterate 2 refine vo ?_
    refine vsp (fun g2 => ?_) (fun g2 => ?_)
    · rw [hi.1] at g2; cases g2
    · iterate 3 refine von ?_
      iterate 2 refine vo ?_
      refine vsp (fun g3 => ?_) (fun g3 => ?_)
      · iterate 5 refine vof ?_
        refine vo ?_
        refine vnt ?_
        refine vc_then ?_
        refine vc_sr ?_
        iterate 6 refine vo ?_
        refine vnt ?_
        refine vc_ret ?_
        refine thn_r ?_
        have hst : stF l ps d db ds dc dm sm vl tos id ttl si di kind sp dp seq ack fl win body size count key entry = (ps, dc, false) := st_n (.inr (.inl g3))
        refine fin_i [] rfl (fz ?_) trivial
        simp [hst]
      · iterate 5 refine von ?_
        refine vo ?_
        refine vnt ?_
        refine vc_if (fun g4 => ?_) (fun g4 => ?_)
        · refine vc_sr ?_
          iterate 6 refine vo ?_
          refine vnt ?_
          refine vc_ret ?_
          refine thn_r ?_
          have hst : stF l ps d db ds dc dm sm vl tos id ttl si di kind sp dp seq ack fl win body size count key entry = (ps, dc, false) := st_n (.inr (.inr (.inl g4)))
          refine fin_i [] rfl (fz ?_) trivial
          simp [hst]
        · refine vc_skip ?_
          refine thn ?_
          refine vc_sr ?_
          iterate 6 refine vo ?_
          refine voc c_impl_DmaWrite rfl rfl ?_
          iterate 6 refine vo ?_
          refine vnt ?_
          refine vc_seq' ?_
          refine vc_sr ?_
          iterate 2 refine vo ?_
          refine vnt ?_
          refine vc_if (fun g5 => ?_) (fun g5 => ?_)
          · refine vc_sr ?_
            iterate 6 refine vo ?_
            refine vnt ?_
            refine vc_ret ?_
            refine thn_r ?_
            have hst : stF l ps d db ds dc dm sm vl tos id ttl si di kind sp dp seq ack fl win body size count key entry = (ps, dc, false) := st_n (.inr (.inr (.inr g5)))
            refine fin_i [] rfl (fz ?_) trivial
            simp [hst]
          · refine vc_skip ?_
            refine thn ?_
            refine vc_sr ?_
            iterate 14 refine vo ?_
            refine voc c_impl_FlowOf rfl rfl ?_
            refine voc c_impl_HashFlow rfl rfl ?_
            iterate 3 refine vo ?_
            refine vnt ?_
            refine vc_sr ?_
            iterate 6 refine vo ?_
            refine voc c_impl_PutCompletion rfl rfl ?_
            iterate 6 refine vo ?_
            refine vnt ?_
            refine vc_ret ?_
            have hst := st_y (l := l) (ps := ps) (d := d) (db := db) (ds := ds) (dc := dc) (size := size) (count := count) (key := key) g1 g3 g4 g5
            refine fin_i [] rfl (fz ?_) trivial
            rw [hst] at hn ⊢
            simp [hn]
set_option maxHeartbeats 4000000 in
theorem c_impl_storeHeld_y {l : List Mp} {ps : Pg} {d rb rs rh rt db ds dc vb vs vc dm sm vl tos id ttl si di kind sp dp seq ack fl win size count dropped : Int} {body key entry : ByteArray} {hold : Bool} (hl : l.length ≤ 1099511627776 := by first | with_reducible assumption | omega) (hp : ps.length ≤ 1099511627776 := by first | with_reducible assumption | omega) (hk : key.size = 16 := by assumption) (hsp : superOkB dm sm vl tos id ttl si di kind sp dp seq ack fl win body.size = true := by assumption) (hse : entry.size ≤ 1099511627776 := by first | assumption | omega) (hy : (stF l ps d db ds dc dm sm vl tos id ttl si di kind sp dp seq ack fl win body size count key entry).2.2 = true := by assumption) : Con0 Tryz.prog 34 [.one (.sl 4 (l.map mpE)), .agg [.sl 1 (ps.map strE)], I d, .agg [V rb, V rs, V rh, V rt, V db, V ds, V dc, V vb, V vs, V vc, V dm, V sm, V vl, V tos, V id, V ttl, V si, V di, V kind, V sp, V dp, V seq, V ack, V fl, V win, VS body, V size, V count, VB hold, V dropped], Z key, Z entry] (.tup [.agg [.hs 0], .agg [V db, V ds, V (stF l ps d db ds dc dm sm vl tos id ttl si di kind sp dp seq ack fl win body size count key entry).2.1], B true]) [(0, .arr 9 1 ((stF l ps d db ds dc dm sm vl tos id ttl si di kind sp dp seq ack fl win body size count key entry).1.map strE))] := by
  have hi := sup_img hsp
  have ha := dec_at entry
  have hln := dw_len l ps d (decDF entry).1.2.2.2.1 (imgR dm sm vl tos id ttl si di kind sp dp seq ack fl win body) true
  refine con_i Tryz.func34 Tryz.ntmps34 (t := [(0, .one (.sl 4 (l.map mpE))), (1, .agg [.sl 1 (ps.map strE)]), (2, I d), (3, .agg [V rb, V rs, V rh, V rt, V db, V ds, V dc, V vb, V vs, V vc, V dm, V sm, V vl, V tos, V id, V ttl, V si, V di, V kind, V sp, V dp, V seq, V ack, V fl, V win, VS body, V size, V count, VB hold, V dropped]), (4, Z key), (5, Z entry)]) rfl ?_
  refine vc_sr ?_
  iterate 5 refine vo ?_
  refine vnt ?_
  refine vc_sr ?_
  refine vo ?_
  refine voc c_impl_DecodeDesc rfl rfl ?_
  iterate 6 refine vo ?_
  refine vnt ?_
  refine vc_sr ?_
  iterate 3 refine vo ?_
  refine voc c_impl_BuildImage rfl rfl ?_
  iterate 5 refine vo ?_
  refine vnt ?_
  refine vc_seq' ?_
  refine vc_sr ?_
  iterate 3 refine vo ?_
  refine vsp (fun g1 => ?_) (fun g1 => ?_)
  · iterate 2 refine vof ?_
    iterate 2 refine vo ?_
    iterate 3 refine vof ?_
    iterate 2 refine vo ?_
    iterate 5 refine vof ?_
    refine vo ?_
    refine vnt ?_
    refine vc_then ?_
    refine vc_sr ?_
    iterate 6 refine vo ?_
    refine vnt ?_
    refine vc_ret ?_
    refine thn_r ?_
    rw [st_n (.inl g1)] at hy
    cases hy
  · iterate 2 refine von ?_
    iterate 2 refine vo ?_
    refine vsp (fun g2 => ?_) (fun g2 => ?_)
    · rw [hi.1] at g2; cases g2
    · iterate 3 refine von ?_
      iterate 2 refine vo ?_
      refine vsp (fun g3 => ?_) (fun g3 => ?_)
      · iterate 5 refine vof ?_
        refine vo ?_
        refine vnt ?_
        refine vc_then ?_
        refine vc_sr ?_
        iterate 6 refine vo ?_
        refine vnt ?_
        refine vc_ret ?_
        refine thn_r ?_
        rw [st_n (.inr (.inl g3))] at hy
        cases hy
      · iterate 5 refine von ?_
        refine vo ?_
        refine vnt ?_
        refine vc_if (fun g4 => ?_) (fun g4 => ?_)
        · refine vc_sr ?_
          iterate 6 refine vo ?_
          refine vnt ?_
          refine vc_ret ?_
          refine thn_r ?_
          rw [st_n (.inr (.inr (.inl g4)))] at hy
          cases hy
        · refine vc_skip ?_
          refine thn ?_
          refine vc_sr ?_
          iterate 6 refine vo ?_
          refine voc c_impl_DmaWrite rfl rfl ?_
          iterate 6 refine vo ?_
          refine vnt ?_
          refine vc_seq' ?_
          refine vc_sr ?_
          iterate 2 refine vo ?_
          refine vnt ?_
          refine vc_if (fun g5 => ?_) (fun g5 => ?_)
          · refine vc_sr ?_
            iterate 6 refine vo ?_
            refine vnt ?_
            refine vc_ret ?_
            refine thn_r ?_
            rw [st_n (.inr (.inr (.inr g5)))] at hy
            cases hy
          · refine vc_skip ?_
            refine thn ?_
            refine vc_sr ?_
            iterate 14 refine vo ?_
            refine voc c_impl_FlowOf rfl rfl ?_
            refine voc c_impl_HashFlow rfl rfl ?_
            iterate 3 refine vo ?_
            refine vnt ?_
            refine vc_sr ?_
            iterate 6 refine vo ?_
            refine voc c_impl_PutCompletion rfl rfl ?_
            iterate 6 refine vo ?_
            refine vnt ?_
            refine vc_ret ?_
            have hst := st_y (l := l) (ps := ps) (d := d) (db := db) (ds := ds) (dc := dc) (size := size) (count := count) (key := key) g1 g3 g4 g5
            refine fin_i [(0, some 736)] rfl (fz ?_) (fz ?_)
            · rw [hst] at hy ⊢; simp [hy]
            · rw [hst]
end Go.Proofs.YtfcmcedeapgdcaaGreat
end
section
namespace Go.Proofs.YtfcmcedeapgdcaaGreat
open Go Go.RowKit Go.Vc
set_option linter.unusedVariables false
set_option linter.unusedSimpArgs false
set_option linter.unnecessarySimpa false
theorem bAt_extract (s : ByteArray) (a b k : Nat) : bAt (s.extract a b) k = if a + k < b then bAt s (a + k) else 0 := by
  unfold bAt
  by_cases h : k < (s.extract a b).size
  · rw [dif_pos h]
    have h2 : k < min b s.size - a := by rw [ByteArray.size_extract] at h; exact h
    rw [if_pos (by omega), dif_pos (by omega), ByteArray.getElem_extract]
  · rw [dif_neg h]
    have h2 : ¬ k < min b s.size - a := by rw [ByteArray.size_extract] at h; exact h
    split
    · rw [dif_neg (by omega)]
    · rfl
theorem bAt_append (s t : ByteArray) (k : Nat) : bAt (s ++ t) k = if k < s.size then bAt s k else bAt t (k - s.size) := by
  unfold bAt
  by_cases h : k < s.size
  · rw [if_pos h, dif_pos (by rw [ByteArray.size_append]; omega), dif_pos h, ByteArray.getElem_append_left h]
  · rw [if_neg h]
    by_cases h2 : k - s.size < t.size
    · rw [dif_pos (by rw [ByteArray.size_append]; omega), dif_pos h2, ByteArray.getElem_append_right (by omega)]
    · rw [dif_neg (by rw [ByteArray.size_append]; omega), dif_neg h2]
theorem bAt_putB {s p : ByteArray} {a : Nat} (h : a + p.size ≤ s.size) (k : Nat) : bAt (putB s a p) k = if a ≤ k ∧ k < a + p.size then bAt p (k - a) else bAt s k := by
  unfold putB
  have ea : (s.extract 0 a).size = a := by rw [ByteArray.size_extract]; omega
  have eb : ∀ k, k < a → bAt (s.extract 0 a) k = bAt s k := fun k hk => by rw [bAt_extract, if_pos (by omega), Nat.zero_add]
  have ec : ∀ k, bAt (s.extract (a + p.size) s.size) k = if a + p.size + k < s.size then bAt s (a + p.size + k) else 0 := fun k => bAt_extract _ _ _ _
  generalize s.extract 0 a = u at *
  generalize s.extract (a + p.size) s.size = v at *
  have e0 : bAt (u ++ p ++ v) k = if k < a + p.size then (if k < a then bAt u k else bAt p (k - a)) else bAt v (k - (a + p.size)) := by
    rw [bAt_append, bAt_append, ByteArray.size_append, ea]
  rw [e0]
  by_cases h1 : k < a
  · have q1 : k < a + p.size := by omega
    have q2 : ¬ (a ≤ k ∧ k < a + p.size) := by omega
    rw [if_pos q1, if_pos h1, if_neg q2, eb k h1]
  · by_cases h2 : k < a + p.size
    · have q2 : a ≤ k ∧ k < a + p.size := by omega
      rw [if_pos h2, if_neg h1, if_pos q2]
    · have q2 : ¬ (a ≤ k ∧ k < a + p.size) := by omega
      rw [if_neg h2, if_neg q2, ec]
      by_cases h3 : k < s.size
      · have q3 : a + p.size + (k - (a + p.size)) = k := by omega
        rw [q3, if_pos h3]
      · have q3 : a + p.size + (k - (a + p.size)) = k := by omega
        rw [q3, if_neg h3]
        unfold bAt; rw [dif_neg h3]
structure EthX where
  (dst src vl ty : Int)
  (body : ByteArray)
structure IpX where
  (tos id ttl pr src dst : Int)
  (body : ByteArray)
structure SegX where
  (kind sp dp seq ack fl win : Int)
  (body : ByteArray)
structure Pk where
  (dm sm vl tos id ttl si di kind sp dp seq ack fl win : Int)
  (body : ByteArray)
def m6 (s : ByteArray) (i : Int) : Int := get16 s i * 4294967296 + get32 s (i + 2)
def ethX (s : ByteArray) : EthX := if get16 s 12 = 33024 ∧ 18 ≤ s.size then ⟨m6 s 0, m6 s 6, get16 s 14, get16 s 16, s.extract (Int.toNat 18) s.size⟩ else ⟨m6 s 0, m6 s 6, -1, get16 s 12, s.extract (Int.toNat 14) s.size⟩
def EthX.ok (e : EthX) : Bool := ethOkB e.dst e.src e.vl e.ty e.body.size
def ethPB (s : ByteArray) : Bool := decide (18 ≤ s.size) && (ethX s).ok
def ethPF (s : ByteArray) : EthX := if ethPB s then ethX s else ⟨0, 0, 0, 0, ⟨#[]⟩⟩
theorem ethPF_y {s : ByteArray} (h : ethPB s = true) : ethPF s = ethX s := if_pos h
theorem ethPF_n {s : ByteArray} (h : ethPB s = false) : ethPF s = ⟨0, 0, 0, 0, ⟨#[]⟩⟩ := if_neg (by rw [h]; decide)
def ipX (s : ByteArray) : IpX := ⟨bAt s 1, get16 s 4, bAt s 8, bAt s 9, get32 s 12, get32 s 16, s.extract (Int.toNat 20) (get16 s 2).toNat⟩
def IpX.ok (d : IpX) : Bool := ipOkB d.tos d.id d.ttl d.pr d.src d.dst d.body.size
def IpX.im (d : IpX) : ByteArray := ipR d.tos d.id d.ttl d.pr d.src d.dst d.body
def ipPB (s : ByteArray) : Bool := decide (20 ≤ s.size) && (decide (20 ≤ get16 s 2) && (decide (get16 s 2 ≤ s.size) && ((ipX s).ok && decide ((ipX s).im = s.extract (Int.toNat 0) (get16 s 2).toNat))))
def ipPF (s : ByteArray) : IpX := if ipPB s then ipX s else ⟨0, 0, 0, 0, 0, 0, ⟨#[]⟩⟩
theorem ipPF_y {s : ByteArray} (h : ipPB s = true) : ipPF s = ipX s := if_pos h
theorem ipPF_n {s : ByteArray} (h : ipPB s = false) : ipPF s = ⟨0, 0, 0, 0, 0, 0, ⟨#[]⟩⟩ := if_neg (by rw [h]; decide)
def segX (kind : Int) (s : ByteArray) : SegX := if kind = 6 then ⟨kind, get16 s 0, get16 s 2, get32 s 4, get32 s 8, bAt s 13, get16 s 14, s.extract (Int.toNat 20) s.size⟩ else ⟨kind, get16 s 0, get16 s 2, 0, 0, 0, 0, s.extract (Int.toNat 8) s.size⟩
def SegX.ok (src dst : Int) (g : SegX) : Bool := segC src dst g.kind g.sp g.dp g.seq g.ack g.fl g.win g.body
def SegX.im (src dst : Int) (g : SegX) : ByteArray := segR src dst g.kind g.sp g.dp g.seq g.ack g.fl g.win g.body
def segPB (src dst kind : Int) (s : ByteArray) : Bool := ((decide (kind = 6) && decide (20 ≤ s.size)) || (decide (kind = 17) && decide (8 ≤ s.size))) && ((segX kind s).ok src dst && decide ((segX kind s).im src dst = s))
def segPF (src dst kind : Int) (s : ByteArray) : SegX := if segPB src dst kind s then segX kind s else ⟨0, 0, 0, 0, 0, 0, 0, ⟨#[]⟩⟩
theorem segPF_y {src dst kind : Int} {s : ByteArray} (h : segPB src dst kind s = true) : segPF src dst kind s = segX kind s := if_pos h
theorem segPF_n {src dst kind : Int} {s : ByteArray} (h : segPB src dst kind s = false) : segPF src dst kind s = ⟨0, 0, 0, 0, 0, 0, 0, ⟨#[]⟩⟩ := if_neg (by rw [h]; decide)
def Pk.sup (p : Pk) : Bool := superOkB p.dm p.sm p.vl p.tos p.id p.ttl p.si p.di p.kind p.sp p.dp p.seq p.ack p.fl p.win p.body.size
def Pk.im (p : Pk) : ByteArray := imgR p.dm p.sm p.vl p.tos p.id p.ttl p.si p.di p.kind p.sp p.dp p.seq p.ack p.fl p.win p.body
def pk0 : Pk := ⟨0, 0, 0, 0, 0, 0, 0, 0, 0, 0, 0, 0, 0, 0, 0, ⟨#[]⟩⟩
def mkPk (e : EthX) (d : IpX) (g : SegX) : Pk := ⟨e.dst, e.src, e.vl, d.tos, d.id, d.ttl, d.src, d.dst, g.kind, g.sp, g.dp, g.seq, g.ack, g.fl, g.win, g.body⟩
def rdX (s : ByteArray) : Pk := mkPk (ethX s) (ipX (ethX s).body) (segX (ipX (ethX s).body).pr (ipX (ethX s).body).body)
def rdC (s : ByteArray) : Int :=
  if ethPB s = true ∧ (ethX s).ty = 2048 then
    if ipPB (ethX s).body = true then
      if segPB (ipX (ethX s).body).src (ipX (ethX s).body).dst (ipX (ethX s).body).pr (ipX (ethX s).body).body = true then
        if (rdX s).sup = true then 0 else 5
      else 4
    else 3
  else 2
def rdF (s : ByteArray) : Pk := if rdC s = 0 then rdX s else pk0
theorem rd_2 {s : ByteArray} (h : ethPB s = false ∨ ¬ (ethX s).ty = 2048) : rdF s = pk0 ∧ rdC s = 2 := by
  have : rdC s = 2 := by
    unfold rdC
    rw [if_neg]
    rintro ⟨h1, h2⟩
    rcases h with h | h
    · rw [h] at h1; cases h1
    · exact h h2
  exact ⟨by rw [rdF, this, if_neg (by decide)], this⟩
theorem rd_3 {s : ByteArray} (h1 : ethPB s = true) (h2 : (ethX s).ty = 2048) (h : ipPB (ethX s).body = false) : rdF s = pk0 ∧ rdC s = 3 := by
  have : rdC s = 3 := by
    unfold rdC
    rw [if_pos ⟨h1, h2⟩, if_neg (by rw [h]; decide)]
  exact ⟨by rw [rdF, this, if_neg (by decide)], this⟩
theorem rd_4 {s : ByteArray} (h1 : ethPB s = true) (h2 : (ethX s).ty = 2048) (h3 : ipPB (ethX s).body = true) (h : segPB (ipX (ethX s).body).src (ipX (ethX s).body).dst (ipX (ethX s).body).pr (ipX (ethX s).body).body = false) : rdF s = pk0 ∧ rdC s = 4 := by
  have : rdC s = 4 := by
    unfold rdC
    rw [if_pos ⟨h1, h2⟩, if_pos h3, if_neg (by rw [h]; decide)]
  exact ⟨by rw [rdF, this, if_neg (by decide)], this⟩
theorem rd_5 {s : ByteArray} (h1 : ethPB s = true) (h2 : (ethX s).ty = 2048) (h3 : ipPB (ethX s).body = true) (h4 : segPB (ipX (ethX s).body).src (ipX (ethX s).body).dst (ipX (ethX s).body).pr (ipX (ethX s).body).body = true) (h : (rdX s).sup = false) : rdF s = pk0 ∧ rdC s = 5 := by
  have : rdC s = 5 := by
    unfold rdC
    rw [if_pos ⟨h1, h2⟩, if_pos h3, if_pos h4, if_neg (by rw [h]; decide)]
  exact ⟨by rw [rdF, this, if_neg (by decide)], this⟩
theorem rd_0 {s : ByteArray} (h1 : ethPB s = true) (h2 : (ethX s).ty = 2048) (h3 : ipPB (ethX s).body = true) (h4 : segPB (ipX (ethX s).body).src (ipX (ethX s).body).dst (ipX (ethX s).body).pr (ipX (ethX s).body).body = true) (h : (rdX s).sup = true) : rdF s = rdX s ∧ rdC s = 0 := by
  have : rdC s = 0 := by
    unfold rdC
    rw [if_pos ⟨h1, h2⟩, if_pos h3, if_pos h4, if_pos h]
  exact ⟨by rw [rdF, this, if_pos rfl], this⟩
theorem ethX_body (s : ByteArray) : (ethX s).body.size ≤ s.size := by
  unfold ethX
  split <;> (simp only [ByteArray.size_extract]; omega)
theorem ipX_body (s : ByteArray) : (ipX s).body.size ≤ s.size := by
  unfold ipX
  simp only [ByteArray.size_extract]; omega
theorem segX_body (k : Int) (s : ByteArray) : (segX k s).body.size ≤ s.size := by
  unfold segX
  split <;> (simp only [ByteArray.size_extract]; omega)
theorem i64_or_big (a b i : Nat) (h : b < 2 ^ i) (ha : a * 2 ^ i + b < 4611686018427387904) : Go.bits .or .i64 ((a * 2 ^ i : Nat) : Int) (b : Int) = ((a * 2 ^ i + b : Nat) : Int) := by
  have e : ∀ n : Nat, n < 4611686018427387904 → (BitVec.ofInt 64 (n : Int)).toNat = n := fun n hn => by
    rw [BitVec.ofInt_natCast, BitVec.toNat_ofNat]; exact Nat.mod_eq_of_lt (by omega)
  show IntKind.i64.wrap ((BitVec.ofInt 64 ((a * 2 ^ i : Nat) : Int) ||| BitVec.ofInt 64 (b : Int)).toNat : Int) = _
  rw [BitVec.toNat_or, e _ (by omega), e _ (by omega), or_add _ _ _ h, IntKind.wrap_i64]
  generalize a * 2 ^ i = c at *
  omega
theorem m6_sh {a b : Int} (h0 : 0 ≤ a ∧ a ≤ 65535) (h1 : 0 ≤ b ∧ b ≤ 4294967295) : orI (IntKind.i64.wrap (a * 2 ^ Int.toNat 32)) b = a * 4294967296 + b := by
  obtain ⟨x, rfl⟩ := Int.eq_ofNat_of_zero_le h0.1
  obtain ⟨y, rfl⟩ := Int.eq_ofNat_of_zero_le h1.1
  have e1 : (2 : Int) ^ Int.toNat 32 = 4294967296 := by decide
  rw [e1, IntWalk.i64_in _ (by omega), orI_eq, show ((x : Int) * 4294967296) = ((x * 2 ^ 32 : Nat) : Int) by omega]
  rw [i64_or_big x y 32 (by omega) (by omega)]
  omega
theorem get16_in {s : ByteArray} {i : Int} (h0 : 0 ≤ i) (h : i + 2 ≤ s.size) : 0 ≤ get16 s i ∧ get16 s i ≤ 65535 := by
  have := get16_bd s i
  rw [get16, if_pos ⟨h0, h⟩] at *
  omega
theorem get32_in {s : ByteArray} {i : Int} (h0 : 0 ≤ i) (h : i + 4 ≤ s.size) : 0 ≤ get32 s i ∧ get32 s i ≤ 4294967295 := by
  have := get32_bd s i
  rw [get32, if_pos ⟨h0, h⟩] at *
  omega
end Go.Proofs.YtfcmcedeapgdcaaGreat
end
section
namespace Go.Proofs.YtfcmcedeapgdcaaGreat
open Go Go.RowKit Go.Vc
set_option linter.unusedVariables false
set_option linter.unusedSimpArgs false
set_option linter.unnecessarySimpa false
theorem atp_eq {α : Type} [Inhabited α] {l : List α} {i : Nat} (h : i < l.length) : at' l i = l[i] := by unfold at'; rw [List.getElem?_eq_getElem h]; rfl
theorem atp_mem {α : Type} [Inhabited α] {l : List α} {i : Nat} (h : i < l.length) : at' l i ∈ l := by rw [atp_eq h]; exact List.getElem_mem h
structure Sm where
  (kind si di sp dp next : Int)
  (data : ByteArray)
  (done : Bool)
def sm0 : Sm := ⟨0, 0, 0, 0, 0, 0, ⟨#[]⟩, false⟩
instance : Inhabited Sm := ⟨sm0⟩
def smE (s : Sm) : List Value := [.int .i64 s.kind, .int .i64 s.si, .int .i64 s.di, .int .i64 s.sp, .int .i64 s.dp, .int .i64 s.next, .string s.data, .bool s.done]
def smHit (s : Sm) (kind si di sp dp : Int) : Bool := decide (s.kind = kind) && (decide (s.si = si) && (decide (s.di = di) && (decide (s.sp = sp) && decide (s.dp = dp))))
def smIdxF (kind si di sp dp : Int) : Nat → List Sm → Int
  | _, [] => -1
  | i, s :: l => if smHit s kind si di sp dp then (i : Int) else smIdxF kind si di sp dp (i + 1) l
def smIdx (l : List Sm) (kind si di sp dp : Int) : Int := smIdxF kind si di sp dp 0 l
theorem sm_hit {l : List Sm} {kind si di sp dp : Int} {i : Nat} (h : smIdx l kind si di sp dp = smIdxF kind si di sp dp i (l.drop i)) (hi : i < l.length) (hh : smHit (at' l i) kind si di sp dp = true) : smIdx l kind si di sp dp = i := by
  rw [h, drop_at hi]
  simp only [smIdxF]
  rw [if_pos hh]
theorem sm_go {l : List Sm} {kind si di sp dp : Int} {i : Nat} (h : smIdx l kind si di sp dp = smIdxF kind si di sp dp i (l.drop i)) (hi : i < l.length) (hh : smHit (at' l i) kind si di sp dp = false) : smIdx l kind si di sp dp = smIdxF kind si di sp dp (i + 1) (l.drop (i + 1)) := by
  rw [h, drop_at hi]
  simp only [smIdxF]
  rw [if_neg (by rw [hh]; decide)]
theorem sm_end {l : List Sm} {kind si di sp dp : Int} {i : Nat} (h : smIdx l kind si di sp dp = smIdxF kind si di sp dp i (l.drop i)) (hi : ¬ i < l.length) : smIdx l kind si di sp dp = -1 := by
  rw [h, List.drop_eq_nil_of_le (by omega)]; rfl
theorem smIdxF_bd (kind si di sp dp : Int) : ∀ (l : List Sm) (i : Nat), smIdxF kind si di sp dp i l = -1 ∨ ((i : Int) ≤ smIdxF kind si di sp dp i l ∧ smIdxF kind si di sp dp i l < i + l.length)
  | [], i => .inl rfl
  | s :: l, i => by
    simp only [smIdxF]
    split
    · right; simp; omega
    · rcases smIdxF_bd kind si di sp dp l (i + 1) with h | h
      · exact .inl h
      · right; simp only [List.length_cons]; omega
theorem smIdx_bd (l : List Sm) (kind si di sp dp : Int) : -1 ≤ smIdx l kind si di sp dp ∧ smIdx l kind si di sp dp < l.length := by
  have := smIdxF_bd kind si di sp dp l 0
  unfold smIdx
  omega
theorem smIdx_ge {l : List Sm} {kind si di sp dp : Int} (h : ¬ smIdx l kind si di sp dp < 0) : ∃ i, i < l.length ∧ smIdx l kind si di sp dp = (i : Nat) := by
  have := smIdx_bd l kind si di sp dp
  exact ⟨(smIdx l kind si di sp dp).toNat, by omega, by omega⟩
def Pk.ix (p : Pk) (l : List Sm) : Int := smIdx l p.kind p.si p.di p.sp p.dp
def Pk.dg (p : Pk) : ByteArray := word16 (p.body.size : Int) ++ p.body
def dlO (s : Sm) (p : Pk) : Int := (s.next - p.seq) % 4294967296
def dlS (s : Sm) (p : Pk) : Sm := { s with data := s.data ++ p.body.extract (dlO s p).toNat p.body.size, next := (s.next + p.body.size - dlO s p) % 4294967296, done := !decide (andI p.fl 1 = 0) }
def dlF (l : List Sm) (p : Pk) : List Sm :=
  if p.sup = true then
    if p.kind = 17 then
      if p.ix l < 0 then l ++ [⟨p.kind, p.si, p.di, p.sp, p.dp, 0, p.dg, false⟩]
      else l.set (p.ix l).toNat { at' l (p.ix l).toNat with data := (at' l (p.ix l).toNat).data ++ p.dg }
    else if ¬ andI p.fl 2 = 0 then
      if p.ix l < 0 then l ++ [⟨p.kind, p.si, p.di, p.sp, p.dp, (p.seq + 1) % 4294967296, ⟨#[]⟩, false⟩] else l
    else if p.ix l < 0 ∨ (at' l (p.ix l).toNat).done = true ∨ ¬ andI p.fl 4 = 0 then l
    else if dlO (at' l (p.ix l).toNat) p ≤ p.body.size then l.set (p.ix l).toNat (dlS (at' l (p.ix l).toNat) p) else l
  else l
theorem pk_len {p : Pk} (h : p.sup = true) : p.body.size ≤ 320 := (superOk_facts h).2.2.2.2.2.2.2.2.2
theorem dg_le (p : Pk) : p.dg.size ≤ p.body.size + 2 := by
  have := word16_le (p.body.size : Int)
  unfold Pk.dg
  rw [ByteArray.size_append]; omega
theorem dlF_len (l : List Sm) (p : Pk) : (dlF l p).length ≤ l.length + 1 := by
  unfold dlF
  repeat' split
  all_goals simp
theorem dlF_sz {l : List Sm} {p : Pk} {M : Nat} (h : ∀ s ∈ l, s.data.size ≤ M) : ∀ s ∈ dlF l p, s.data.size ≤ M + 400 := by
  intro s hs
  have hge : ∀ i, i < l.length → (at' l i).data.size ≤ M := fun i hi => h _ (atp_mem hi)
  unfold dlF at hs
  split at hs
  · rename_i hsup
    have hb := pk_len hsup
    have hd := dg_le p
    split at hs
    · split at hs
      · rcases List.mem_append.1 hs with hs | hs
        · have := h s hs; omega
        · rw [List.mem_singleton.1 hs]; simp only; omega
      · rename_i hi
        obtain ⟨i, hi2, e⟩ := smIdx_ge hi
        have e2 : (p.ix l).toNat = i := by unfold Pk.ix; omega
        rw [e2] at hs
        have := hge i hi2
        rcases List.mem_or_eq_of_mem_set hs with hs | hs
        · have := h s hs; omega
        · rw [hs]; simp only [ByteArray.size_append]; omega
    · split at hs
      · split at hs
        · rcases List.mem_append.1 hs with hs | hs
          · have := h s hs; omega
          · rw [List.mem_singleton.1 hs]; exact Nat.zero_le _
        · have := h s hs; omega
      · split at hs
        · have := h s hs; omega
        · rename_i hi
          split at hs
          · have hi3 : ¬ smIdx l p.kind p.si p.di p.sp p.dp < 0 := fun hh => hi (.inl hh)
            obtain ⟨i, hi2, e⟩ := smIdx_ge hi3
            have e2 : (p.ix l).toNat = i := by unfold Pk.ix; omega
            rw [e2] at hs
            have := hge i hi2
            rcases List.mem_or_eq_of_mem_set hs with hs | hs
            · have := h s hs; omega
            · rw [hs]; unfold dlS; simp only [ByteArray.size_append, ByteArray.size_extract]; omega
          · have := h s hs; omega
  · have := h s hs; omega
def giveB (pb pz pc : Int) (fr ks : List Int) : Bool := poolB pb pz pc fr && poolB pb pz pc (fr ++ ks)
def giveF (pb pz pc : Int) (fr ks : List Int) : List Int := if giveB pb pz pc fr ks then fr ++ ks else fr
theorem give_y {pb pz pc : Int} {fr ks : List Int} (h1 : poolB pb pz pc fr = true) (h2 : poolB pb pz pc (fr ++ ks) = true) : giveF pb pz pc fr ks = fr ++ ks ∧ giveB pb pz pc fr ks = true := by
  have : giveB pb pz pc fr ks = true := by unfold giveB; rw [h1, h2]; rfl
  exact ⟨if_pos this, this⟩
theorem give_n {pb pz pc : Int} {fr ks : List Int} (h : poolB pb pz pc fr = false ∨ poolB pb pz pc (fr ++ ks) = false) : giveF pb pz pc fr ks = fr ∧ giveB pb pz pc fr ks = false := by
  have : giveB pb pz pc fr ks = false := by unfold giveB; rcases h with h | h <;> rw [h] <;> simp
  exact ⟨if_neg (by rw [this]; decide), this⟩
def bufA (pb pz pc : Int) (fr : List Int) (k : Int) : Int := if poolB pb pz pc fr && inB k 0 (pc - 1) then pb + k * pz else -1
theorem bufA_n {pb pz pc k : Int} {fr : List Int} (h : poolB pb pz pc fr = false ∨ inB k 0 (pc - 1) = false) : bufA pb pz pc fr k = -1 := by
  refine if_neg ?_
  rcases h with h | h <;> rw [h] <;> simp
theorem bufA_y {pb pz pc k : Int} {fr : List Int} (h1 : poolB pb pz pc fr = true) (h2 : inB k 0 (pc - 1) = true) : bufA pb pz pc fr k = pb + k * pz ∧ 0 ≤ k * pz ∧ k * pz ≤ 7680 := by
  obtain ⟨b0, b1, z0, z1, c0, c1, _⟩ := poolB_facts h1
  have hk := inB_iff.1 h2
  refine ⟨if_pos (by rw [h1, h2]; rfl), Int.mul_nonneg hk.1 (by omega), ?_⟩
  have h3 := Int.mul_le_mul (show k ≤ 15 by omega) z1 (by omega) (by omega)
  omega
theorem bufA_bd (pb pz pc : Int) (fr : List Int) (k : Int) : -1 ≤ bufA pb pz pc fr k ∧ bufA pb pz pc fr k ≤ 140000 := by
  by_cases h1 : poolB pb pz pc fr = true
  · by_cases h2 : inB k 0 (pc - 1) = true
    · obtain ⟨e, h3, h4⟩ := bufA_y h1 h2
      obtain ⟨b0, b1, _⟩ := poolB_facts h1
      omega
    · rw [bufA_n (.inr (by simpa using h2))]; omega
  · rw [bufA_n (.inl (by simpa using h1))]; omega
def dcC (s : ByteArray) : Comp := (get16 s 0, get16 s 2, get16 s 4, get16 s 6, get32 s 8)
def dcB (s : ByteArray) : Bool := decide (s.size = 16) && !decide (1 < get32 s 12)
theorem dc_n {s : ByteArray} (h : ¬ s.size = 16 ∨ 1 < get32 s 12) : dcB s = false := by
  unfold dcB
  rcases h with h | h
  · rw [decide_eq_false h]; rfl
  · rw [decide_eq_true h]; simp
theorem dc_y {s : ByteArray} (h1 : s.size = 16) (h2 : get32 s 12 ≤ 1) : dcB s = true := by
  unfold dcB
  rw [decide_eq_true h1, decide_eq_false (by omega)]; rfl
theorem nx_n {l : List Mp} {ps : Pg} {d b s c : Int} (h : queueOkB b s c = false ∨ (dmaRF l ps d (slotC b s c) 16).2 = false ∨ ¬ get32 (dmaRF l ps d (slotC b s c) 16).1 12 = phaseC s c) : nextF l ps d b s c = ((0, 0, 0, 0, 0), c, false) := by
  unfold nextF
  split
  · rename_i h1
    split
    · rename_i t e
      split
      · rename_i h3
        rw [e] at h
        simp only at h
        rcases h with h | h | h
        · rw [h] at h1; cases h1
        · cases h
        · exact (h h3).elim
      · rfl
    · rfl
  · rfl
theorem nx_y {l : List Mp} {ps : Pg} {d b s c : Int} (h1 : queueOkB b s c = true) (h2 : (dmaRF l ps d (slotC b s c) 16).2 = true) (h3 : get32 (dmaRF l ps d (slotC b s c) 16).1 12 = phaseC s c) : nextF l ps d b s c = (dcC (dmaRF l ps d (slotC b s c) 16).1, nextC s c, true) := by
  unfold nextF
  rw [if_pos h1]
  generalize dmaRF l ps d (slotC b s c) 16 = x at h2 h3 ⊢
  obtain ⟨t, ok⟩ := x
  simp only at h2 h3
  subst h2
  simp only
  rw [if_pos h3]; rfl
theorem nx_bd (l : List Mp) (ps : Pg) (d b s c : Int) : (nextF l ps d b s c).1.2.1 ≤ 65535 := by
  by_cases h1 : queueOkB b s c = true
  · by_cases h2 : (dmaRF l ps d (slotC b s c) 16).2 = true
    · by_cases h3 : get32 (dmaRF l ps d (slotC b s c) 16).1 12 = phaseC s c
      · rw [nx_y h1 h2 h3]
        exact (get16_bd _ 2).2
      · rw [nx_n (.inr (.inr h3))]; exact (by decide : (0 : Int) ≤ 65535)
    · rw [nx_n (.inr (.inl (by simpa using h2)))]; exact (by decide : (0 : Int) ≤ 65535)
  · rw [nx_n (.inl (by simpa using h1))]; exact (by decide : (0 : Int) ≤ 65535)
def pkB (l : List Mp) (ps : Pg) (d pb pz pc : Int) (fr : List Int) (x : Comp) : Bool := (dmaRF l ps d (bufA pb pz pc fr x.1) x.2.1).2 && decide (rdC (dmaRF l ps d (bufA pb pz pc fr x.1) x.2.1).1 = 0)
def pkS (l : List Mp) (ps : Pg) (d pb pz pc : Int) (fr : List Int) (x : Comp) (sm : List Sm) : List Sm := if pkB l ps d pb pz pc fr x then dlF sm (rdF (dmaRF l ps d (bufA pb pz pc fr x.1) x.2.1).1) else sm
def pollL (l : List Mp) (ps : Pg) (d pb pz pc vb vs : Int) : Nat → List Int → List Sm → Int → Int → List Int × List Sm × Int × Int
  | 0, fr, sm, c, n => (fr, sm, c, n)
  | f + 1, fr, sm, c, n => if (nextF l ps d vb vs c).2.2 = true then pollL l ps d pb pz pc vb vs f (giveF pb pz pc fr [(nextF l ps d vb vs c).1.1]) (pkS l ps d pb pz pc fr (nextF l ps d vb vs c).1 sm) (nextF l ps d vb vs c).2.1 (n + 1) else (fr, sm, c, n)
theorem poll_no {l : List Mp} {ps : Pg} {d pb pz pc vb vs c n : Int} {f : Nat} {fr : List Int} {sm : List Sm} (h : (nextF l ps d vb vs c).2.2 = false) : pollL l ps d pb pz pc vb vs f fr sm c n = (fr, sm, c, n) := by
  cases f with
  | zero => rfl
  | succ f => simp only [pollL]; rw [if_neg (by rw [h]; decide)]
theorem poll_go {l : List Mp} {ps : Pg} {d pb pz pc vb vs c n : Int} {f : Nat} {fr : List Int} {sm : List Sm} (hf : 0 < f) (h : (nextF l ps d vb vs c).2.2 = true) : pollL l ps d pb pz pc vb vs f fr sm c n = pollL l ps d pb pz pc vb vs (f - 1) (giveF pb pz pc fr [(nextF l ps d vb vs c).1.1]) (pkS l ps d pb pz pc fr (nextF l ps d vb vs c).1 sm) (nextF l ps d vb vs c).2.1 (n + 1) := by
  obtain ⟨f, rfl⟩ : ∃ m, f = m + 1 := ⟨f - 1, by omega⟩
  simp only [pollL]
  rw [if_pos h]; rfl
end Go.Proofs.YtfcmcedeapgdcaaGreat
end
section
namespace Go.Proofs.YtfcmcedeapgdcaaGreat
open Go Go.RowKit Go.Vc
set_option linter.unusedVariables false
set_option linter.unusedSimpArgs false
set_option linter.unnecessarySimpa false
def sumsA (s : ByteArray) : Int := if get16 s 12 = 33024 then 18 else 14
def sumsK (s : ByteArray) : Int := bAt s (sumsA s + 9).toNat
def sumsB (s : ByteArray) : Int := sumsA s + 20 + sumPl (sumsK s)
def Pk.tm (p : Pk) : ByteArray := if p.sup then putBF (putBF p.im (sumsA p.im + 10) (word16 0)) (sumsB p.im) (word16 0) else ⟨#[]⟩
theorem get16_at {s : ByteArray} {i : Nat} (h : i + 2 ≤ s.size) : get16 s (i : Int) = ((bAt s i * 256 + bAt s (i + 1) : Nat) : Int) := by
  rw [get16, if_pos (by omega), Int.toNat_natCast]
theorem putBF_at {s p : ByteArray} {i : Nat} (h : i + p.size ≤ s.size) (k : Nat) : bAt (putBF s (i : Int) p) k = if i ≤ k ∧ k < i + p.size then bAt p (k - i) else bAt s k := by
  rw [Go.Proofs.YtfcmcedeapgdcaaGreat.putBF_in h, bAt_putB h]
theorem mac_sz {a : Int} (h : inB a 0 281474976710655 = true) : (macF a).size = 6 := by
  have h1 := inB_iff.1 h
  unfold macF
  rw [ByteArray.size_append, word16_size (inB_iff.2 (by omega)), word32_size (inB_iff.2 (by omega))]
theorem bAt_lit {xs : List Int} {i : Nat} (h : i < xs.length) : bAt (strOfNums xs) i = xs[i].toNat % 256 := by
  unfold bAt
  rw [dif_pos (by rw [strOfNums_size]; exact h)]
  simp only [strOfNums, ByteArray.getElem_eq_getElem_data, List.getElem_toArray, List.getElem_map]
  rfl
theorem w16_at {v : Int} (h : inB v 0 65535 = true) : ((bAt (word16 v) 0 * 256 + bAt (word16 v) 1 : Nat) : Int) = v := by
  have h1 := inB_iff.1 h
  rw [show word16 v = strOfNums [v / 256, v % 256] by unfold word16; rw [if_pos h], bAt_lit (i := 0) (by simp), bAt_lit (i := 1) (by simp)]
  simp only [List.getElem_cons_zero, List.getElem_cons_succ]
  omega
theorem get16_mid {a r : ByteArray} {v : Int} (h : inB v 0 65535 = true) {i : Nat} (hi : i = a.size) : get16 (a ++ word16 v ++ r) (i : Int) = v := by
  subst hi
  have hs := word16_size h
  rw [get16_at (by rw [ByteArray.size_append, ByteArray.size_append, hs]; omega)]
  rw [bAt_append, if_pos (by rw [ByteArray.size_append, hs]; omega), bAt_append a, if_neg (by omega), Nat.sub_self]
  rw [bAt_append, if_pos (by rw [ByteArray.size_append, hs]; omega), bAt_append a, if_neg (by omega), show a.size + 1 - a.size = 1 by omega]
  exact w16_at h
theorem get16_put {s p : ByteArray} {i j : Nat} (h : i + p.size ≤ s.size) (hj : j + 2 ≤ i ∨ i + p.size ≤ j) : get16 (putBF s (i : Int) p) (j : Int) = get16 s (j : Int) := by
  have hz := putBF_size s (i : Int) p
  by_cases hs : j + 2 ≤ s.size
  · rw [get16_at (by omega), get16_at hs, putBF_at h, if_neg (by omega), putBF_at h, if_neg (by omega)]
  · rw [get16, if_neg (by omega), get16, if_neg (by omega)]
end Go.Proofs.YtfcmcedeapgdcaaGreat
end
section
namespace Go.Proofs.YtfcmcedeapgdcaaGreat
open Go Go.RowKit Go.Vc
set_option linter.unusedVariables false
set_option linter.unusedSimpArgs false
set_option linter.unnecessarySimpa false
theorem atq_eq {α : Type} [Inhabited α] {l : List α} {i : Nat} (h : i < l.length) : at' l i = l[i] := by unfold at'; rw [List.getElem?_eq_getElem h]; rfl
abbrev Pc := Int × Int
def pcOk (p : Pc) : Bool := decide (0 ≤ p.1) && inB p.2 0 4096
def pcsOk (l : List Pc) : Bool := l.all pcOk && decide (l.length ≤ 16)
theorem pcsOk_iff {l : List Pc} : pcsOk l = true ↔ (∀ i, i < l.length → 0 ≤ (at' l i).1 ∧ 0 ≤ (at' l i).2 ∧ (at' l i).2 ≤ 4096) ∧ l.length ≤ 16 := by
  unfold pcsOk
  rw [Bool.and_eq_true, decide_eq_true_eq, List.all_eq_true]
  constructor
  · rintro ⟨h1, h2⟩
    refine ⟨fun i hi => ?_, h2⟩
    have := h1 l[i] (List.getElem_mem hi)
    rw [← atq_eq hi] at this
    unfold pcOk at this
    rw [Bool.and_eq_true, decide_eq_true_eq, inB_iff] at this
    exact ⟨this.1, this.2.1, this.2.2⟩
  · rintro ⟨h1, h2⟩
    refine ⟨fun x hx => ?_, h2⟩
    obtain ⟨i, hi, rfl⟩ := List.getElem_of_mem hx
    have := h1 i hi
    rw [atq_eq hi] at this
    unfold pcOk
    rw [Bool.and_eq_true, decide_eq_true_eq, inB_iff]
    exact ⟨this.1, this.2.1, this.2.2⟩
def dOk (d : Dsc) : Bool := descB d.1 d.2.1 d.2.2.1 d.2.2.2.1 d.2.2.2.2.1 d.2.2.2.2.2
def dAt (l : List Pc) (size ck : Int) : Nat → Dsc
  | 0 => (2, 0, 0, 0, size, ck)
  | i + 1 => (1, if i + 1 = l.length then 1 else 0, (at' l i).2, (at' l i).1, 0, ck)
def dsF (l : List Pc) (size ck : Int) (n : Nat) : List Dsc := (List.range n).map (dAt l size ck)
theorem dsF_len (l : List Pc) (size ck : Int) (n : Nat) : (dsF l size ck n).length = n := by unfold dsF; rw [List.length_map, List.length_range]
theorem dsF_at {l : List Pc} {size ck : Int} {n i : Nat} (h : i < n) : at' (dsF l size ck n) i = dAt l size ck i := by
  rw [atq_eq (by rw [dsF_len]; exact h)]
  unfold dsF
  rw [List.getElem_map, List.getElem_range]
def descrB (l : List Pc) (size ck : Int) : Bool := !decide (l = []) && (pcsOk l && (inB size 1 128 && (dsF l size ck (l.length + 1)).all dOk))
theorem dmaRF_le (l : List Mp) (ps : Pg) (d a n : Int) (hn : n ≤ 4096) : (dmaRF l ps d a n).1.size ≤ 4096 := by
  cases hq : (dmaRF l ps d a n).2 with
  | true =>
    have := dmaRF_size (l := l) (ps := ps) (d := d) (a := a) (n := n) (t := (dmaRF l ps d a n).1) (by rw [← hq])
    omega
  | false =>
    have : (dmaRF l ps d a n).1 = ⟨#[]⟩ := by
      unfold dmaRF at hq ⊢
      split <;> rename_i e
      · rw [e] at hq; cases hq
      · rfl
    rw [this]; exact Nat.zero_le _
def Pk.part (p : Pk) (size : Int) (k : Nat) : Pk :=
  { p with body := p.body.extract ((k : Int) * size).toNat (min (p.body.size : Int) (((k : Int) + 1) * size)).toNat, seq := (p.seq + (k : Int) * size) % 4294967296, id := (p.id + k) % 65536, fl := if ((k : Int) + 1) * size < (p.body.size : Int) then andNotI p.fl 9 else p.fl }
def pkE (p : Pk) : List Value := [.int .i64 p.dm, .int .i64 p.sm, .int .i64 p.vl, .int .i64 p.tos, .int .i64 p.id, .int .i64 p.ttl, .int .i64 p.si, .int .i64 p.di, .int .i64 p.kind, .int .i64 p.sp, .int .i64 p.dp, .int .i64 p.seq, .int .i64 p.ack, .int .i64 p.fl, .int .i64 p.win, .string p.body]
def Pk.ok (p : Pk) : Bool := p.sup && decide (p.body.size ≤ 128)
instance : Inhabited Pk := ⟨pk0⟩
end Go.Proofs.YtfcmcedeapgdcaaGreat
end
section
namespace Go.Vc
open Go Go.RowKit
set_option linter.unusedVariables false
section
variable {P : Program} [TyEnv P] {n : Nat} {ops os : List Oper} {dr : Bool} {K : Tm → Hp → Prop} {t : Tm} {H : Hp} {fp : List Fp} {d : Nat}
theorem vepl {sz k j : Nat} {c : Int} {es : List (List Value)} (hj : c.toNat = j) (h : Vd P n ops dr K os ((d, .one (.ep sz es j k)) :: t) H fp) : Vd P n ops dr K os ((d, .one (.ep sz es c.toNat k)) :: t) H fp := by rw [hj]; exact h
theorem vptl {i sz k j : Nat} {c : Int} (hj : c.toNat = j) (h : Vd P n ops dr K os ((d, .one (.ptr i j sz k)) :: t) H fp) : Vd P n ops dr K os ((d, .one (.ptr i c.toNat sz k)) :: t) H fp := by rw [hj]; exact h
theorem vdrl {sz j : Nat} {c : Int} {α : Type} {l : List α} {f : α → List Value} (hj : c.toNat = j) (h : Vd P n ops dr K os ((d, .one (.sl sz ((l.drop j).map f))) :: t) H fp) : Vd P n ops dr K os ((d, .one (.sl sz ((l.map f).drop c.toNat))) :: t) H fp := by
  rw [hj]; rw [List.map_drop] at h; exact h
theorem vhc {k sz j : Nat} {c : Int} (hj : c.toNat = j) (h : Vd P n ops dr K os ((d, .one (.hc k j sz)) :: t) H fp) : Vd P n ops dr K os ((d, .one (.hc k c.toNat sz)) :: t) H fp := by rw [hj]; exact h
end
end Go.Vc
end

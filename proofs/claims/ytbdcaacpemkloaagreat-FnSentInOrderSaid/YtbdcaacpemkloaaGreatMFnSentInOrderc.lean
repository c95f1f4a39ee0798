/- Part 3 of what the proof of FnSentInOrder rests on: an idealised machine, contracts of functions, and the walk of the law. No condition. -/
import Derived.Test.YtbdcaacpemkloaaGreatMFnSentInOrderb
section
namespace Go.Proofs.YtbdcaacpemkloaaGreat
open Go Go.RowKit Go.Vc
set_option linter.unusedVariables false
set_option linter.unusedSimpArgs false
set_option linter.unnecessarySimpa false
theorem mac_eq (a : Int) : macF a = word16 (a / 2 ^ Int.toNat 32) ++ word32 (andI a 4294967295) := by
  have := and_mask_i64 a 32 (by decide)
  have e : (2 : Int) ^ 32 - 1 = 4294967295 := by decide
  have e2 : (2 : Int) ^ 32 = 4294967296 := by decide
  have e3 : (2 : Int) ^ Int.toNat 32 = 4294967296 := by decide
  rw [e, e2] at this
  rw [andI_eq, this, e3]; rfl
theorem putBF_eq {s p : ByteArray} {i : Int} (h0 : 0 ≤ i) (h1 : i ≤ s.size - p.size) : putBF s i p = s.extract (Int.toNat 0) i.toNat ++ p ++ s.extract (i + p.size).toNat s.size := by
  unfold putBF
  rw [if_pos (wthB_iff.2 ⟨h0, by omega, by omega⟩), show (i + p.size).toNat = i.toNat + p.size by omega]; rfl
theorem putBF_no {s p : ByteArray} {i : Int} (h : ¬ (0 ≤ i ∧ i ≤ s.size - p.size)) : putBF s i p = s := by
  unfold putBF
  rw [if_neg fun h' => h (by have := wthB_iff.1 h'; omega)]
theorem putBF_le (s p : ByteArray) (i : Int) : (putBF s i p).size = s.size := by
  by_cases h : 0 ≤ i ∧ i ≤ s.size - p.size
  · rw [putBF_eq h.1 h.2]
    simp only [ByteArray.size_append, ByteArray.size_extract]
    have : Int.toNat 0 = 0 := rfl
    omega
  · rw [putBF_no h]
theorem psF_le (a b c d : Int) : (psF a b c d).size ≤ 12 := by
  have := word32_le a; have := word32_le b; have := word16_le d
  unfold psF
  simp only [ByteArray.size_append, strOfNums_size, List.length_cons, List.length_nil]
  omega
set_option maxHeartbeats 4000000 in
theorem c_impl_macBytes {a : Int} : Con0 Tryz.prog 255 [I a] (Z (macF a)) [] := by
  refine con_i Tryz.func255 Tryz.ntmps255 (t := [(0, I a)]) rfl ?_
  refine vc_sr ?_
  refine vo ?_
  refine vnt ?_
  refine vc_sr ?_
  iterate 2 refine vo ?_
  refine voc c_impl_Word16 rfl rfl ?_
  refine vzs (word16_le _) fun z1 => ?_
  iterate 2 refine vo ?_
  refine voc c_impl_Word32 rfl rfl ?_
  refine vzs (word32_le _) fun z2 => ?_
  iterate 2 refine vo ?_
  refine vnt ?_
  refine vc_ret ?_
  refine fin_i [] rfl (fz ?_) trivial
  exact mac_eq a
set_option maxHeartbeats 4000000 in
theorem c_spec_l04Address {a : Int} : Con0 Tryz.prog 252 [I a] (Z (macF a)) [] := by
  refine con_i Tryz.func252 Tryz.ntmps252 (t := [(0, I a)]) rfl ?_
  refine vc_sr ?_
  refine vo ?_
  refine vnt ?_
  refine vc_sr ?_
  iterate 2 refine vo ?_
  refine voc c_spec_Word16 rfl rfl ?_
  refine vzs (word16_le _) fun z1 => ?_
  iterate 2 refine vo ?_
  refine voc c_spec_Word32 rfl rfl ?_
  refine vzs (word32_le _) fun z2 => ?_
  iterate 2 refine vo ?_
  refine vnt ?_
  refine vc_ret ?_
  refine fin_i [] rfl (fz ?_) trivial
  exact mac_eq a
set_option maxHeartbeats 4000000 in
theorem c_impl_repeat {b n : Int} (hb : 0 ≤ b ∧ b ≤ 255 := by omega) (hn : 0 ≤ n ∧ n ≤ 1099511627776 := by omega) : Con0 Tryz.prog 256 [.one (.v (.int .u8 b)), I n] (Z (repF b n.toNat)) [] := by
  refine con_i Tryz.func256 Tryz.ntmps256 (t := [(0, .one (.v (.int .u8 b))), (1, I n)]) rfl ?_
  refine vc_sr ?_
  refine vo ?_
  refine vnt ?_
  refine vc_sr ?_
  iterate 3 refine vo ?_
  refine vnt ?_
  refine vc_seq' ?_
  refine vc_sr ?_
  iterate 2 refine vo ?_
  try refine vln ?_
  refine vo ?_
  refine vnt ?_
  refine vc_block ?_
  refine vc_lp (σ := Nat) [0, 5, 10] [] (fun i => [(11, I (i : Nat))]) (fun i => [(64, .arr 5 1 ((List.replicate i b ++ List.replicate (n.toNat - i) 0).map byE))]) (fun i => i ≤ n.toNat) (fun i => n.toNat - i) 0 rfl rfl (sub_i [] (fz ?_) (fz ?_)) ?_ fun i hI => ?_
  · first | trivial | simp
  · simp [byE]
  · omega
  refine vc_nf rfl rfl ?_
  refine vc_sr ?_
  refine vo ?_
  refine vnt ?_
  refine vc_seq' ?_
  refine vc_if (fun g1 => ?_) (fun g1 => ?_)
  · refine vc_skip ?_
    refine thn ?_
    refine vc_seq' ?_
    refine vc_block ?_
    refine vc_sr ?_
    iterate 2 refine vo ?_
    refine vnt ?_
    refine vc_region ?_
    iterate 5 refine vo ?_
    refine vnil ?_
    refine inB_n ?_
    refine thn ?_
    refine vc_region ?_
    refine vo ?_
    try refine vwr ?_
    refine vo ?_
    refine vnt ?_
    refine ⟨i + 1, ?_, ?_, sub_i [] (fz ?_) (fz ?_)⟩
    · omega
    · omega
    · first | rfl | trivial
    · first | trivial | (rw [← set_rep b n.toNat i (by omega), List.map_set]; rfl)
  · refine vc_exit ?_
    refine thn_x ?_
    refine thn_x ?_
    refine inB_x ?_
    refine thn ?_
    refine vc_sr ?_
    iterate 3 refine vo ?_
    refine vnt ?_
    refine vc_ret ?_
    refine fin_i [] rfl (fz ?_) trivial
    rw [ofE_by, repF, show n.toNat - i = 0 by omega, show i = n.toNat by omega]
    simp
set_option maxHeartbeats 4000000 in
theorem c_spec_l01Long {b n : Int} (hb : 0 ≤ b ∧ b ≤ 255 := by omega) (hn : 0 ≤ n ∧ n ≤ 1099511627776 := by omega) : Con0 Tryz.prog 215 [I n, .one (.v (.int .u8 b))] (Z (repF b n.toNat)) [] := by
  refine con_i Tryz.func215 Tryz.ntmps215 (t := [(0, I n), (1, .one (.v (.int .u8 b)))]) rfl ?_
  refine vc_sr ?_
  refine vo ?_
  refine vnt ?_
  refine vc_sr ?_
  iterate 3 refine vo ?_
  refine vnt ?_
  refine vc_seq' ?_
  refine vc_sr ?_
  refine vo ?_
  refine vnt ?_
  refine vc_block ?_
  refine vc_lp (σ := Nat) [0, 1, 5] [] (fun i => [(6, I (i : Nat))]) (fun i => [(64, .arr 5 1 ((List.replicate i b ++ List.replicate (n.toNat - i) 0).map byE))]) (fun i => i ≤ n.toNat) (fun i => n.toNat - i) 0 rfl rfl (sub_i [] (fz ?_) (fz ?_)) ?_ fun i hI => ?_
  · first | trivial | simp
  · simp [byE]
  · omega
  refine vc_nf rfl rfl ?_
  refine vc_seq' ?_
  refine vc_sr ?_
  iterate 3 refine vo ?_
  refine vnt ?_
  refine vc_if (fun g1 => ?_) (fun g1 => ?_)
  · refine vc_skip ?_
    refine thn ?_
    refine vc_seq' ?_
    refine vc_block ?_
    refine vc_region ?_
    iterate 5 refine vo ?_
    refine vnil ?_
    refine inB_n ?_
    refine thn ?_
    refine vc_region ?_
    iterate 2 refine vo ?_
    try refine vwr ?_
    refine vo ?_
    refine vnt ?_
    refine ⟨i + 1, ?_, ?_, sub_i [] (fz ?_) (fz ?_)⟩
    · omega
    · omega
    · first | rfl | trivial
    · first | trivial | (rw [← set_rep b n.toNat i (by omega), List.map_set]; rfl)
  · refine vc_exit ?_
    refine thn_x ?_
    refine thn_x ?_
    refine inB_x ?_
    refine thn ?_
    refine vc_sr ?_
    iterate 3 refine vo ?_
    refine vnt ?_
    refine vc_ret ?_
    refine fin_i [] rfl (fz ?_) trivial
    rw [ofE_by, repF, show n.toNat - i = 0 by omega, show i = n.toNat by omega]
    simp
set_option maxHeartbeats 4000000 in
theorem c_impl_AddSums {a b : Int} (ha : 0 ≤ a ∧ a ≤ 65535 := by omega) (hb : 0 ≤ b ∧ b ≤ 65535 := by omega) : Con0 Tryz.prog 258 [I a, I b] (I (addS a b)) [] := by
  refine con_i Tryz.func258 Tryz.ntmps258 (t := [(0, I a), (1, I b)]) rfl ?_
  refine vc_sr ?_
  refine vo ?_
  refine vnt ?_
  refine vc_seq' ?_
  refine vc_sr ?_
  refine vo ?_
  refine voc c_impl_between rfl rfl ?_
  iterate 2 refine vo ?_
  refine vsp (fun g1 => ?_) (fun g1 => ?_)
  · iterate 3 refine vof ?_
    refine vo ?_
    refine vnt ?_
    refine vc_then ?_
    refine vc_sr ?_
    refine vo ?_
    refine vnt ?_
    refine vc_ret ?_
    refine thn_r ?_
    refine fin_i [] rfl (fz ?_) trivial
    first | (unfold addS; split <;> omega) | (have := inB_iff.2 ha; have := inB_iff.2 hb; simp_all)
  · refine von ?_
    refine vocn c_impl_between rfl rfl ?_
    refine von ?_
    refine vo ?_
    refine vnt ?_
    refine vc_if (fun g2 => ?_) (fun g2 => ?_)
    · refine vc_sr ?_
      refine vo ?_
      refine vnt ?_
      refine vc_ret ?_
      refine thn_r ?_
      refine fin_i [] rfl (fz ?_) trivial
      first | (unfold addS; split <;> omega) | (have := inB_iff.2 ha; have := inB_iff.2 hb; simp_all)
    · refine vc_skip ?_
      refine thn ?_
      refine vc_seq' ?_
      refine vc_sr ?_
      iterate 3 refine vo ?_
      try refine vwr ?_
      refine vo ?_
      refine vnt ?_
      refine vc_if (fun g3 => ?_) (fun g3 => ?_)
      · refine vc_sr ?_
        iterate 3 refine vo ?_
        try refine vwr ?_
        refine vo ?_
        try refine vwr ?_
        refine vo ?_
        refine vnt ?_
        refine vc_ret ?_
        refine thn_r ?_
        refine fin_i [] rfl (fz ?_) trivial
        first | (unfold addS; split <;> omega) | (have := inB_iff.2 ha; have := inB_iff.2 hb; simp_all)
      · refine vc_skip ?_
        refine thn ?_
        refine vc_sr ?_
        iterate 3 refine vo ?_
        try refine vwr ?_
        refine vo ?_
        refine vnt ?_
        refine vc_ret ?_
        refine fin_i [] rfl (fz ?_) trivial
        first | (unfold addS; split <;> omega) | (have := inB_iff.2 ha; have := inB_iff.2 hb; simp_all)
set_option maxHeartbeats 4000000 in
theorem c_impl_PutBytes {s p : ByteArray} {i : Int} (hs_s : s.size ≤ 1099511627776 := by first | assumption | omega | (simp only [ByteArray.size_append, ByteArray.size_extract, strOfNums_size, List.length_cons, List.length_nil]; omega)) (hs_p : p.size ≤ 1099511627776 := by first | assumption | omega | (simp only [ByteArray.size_append, ByteArray.size_extract, strOfNums_size, List.length_cons, List.length_nil]; omega)) : Con0 Tryz.prog 168 [Z s, I i, Z p] (Z (putBF s i p)) [] := by
  refine con_i Tryz.func168 Tryz.ntmps168 (t := [(0, Z s), (1, I i), (2, Z p)]) rfl ?_
  refine vc_sr ?_
  refine vo ?_
  refine vnt ?_
  refine vc_seq' ?_
  refine vc_sr ?_
  iterate 3 refine vo ?_
  refine vsp (fun g1 => ?_) (fun g1 => ?_)
  · iterate 7 refine vof ?_
    refine vo ?_
    refine vnt ?_
    refine vc_then ?_
    refine vc_sr ?_
    iterate 2 refine vo ?_
    refine vnt ?_
    refine vc_ret ?_
    refine thn_r ?_
    refine fin_i [] rfl (fz ?_) trivial
    first | exact putBF_eq (by omega) (by omega) | exact putBF_no (by omega)
  · iterate 6 refine von ?_
    try refine vwr ?_
    refine von ?_
    refine vo ?_
    refine vnt ?_
    refine vc_if (fun g2 => ?_) (fun g2 => ?_)
    · refine vc_sr ?_
      iterate 2 refine vo ?_
      refine vnt ?_
      refine vc_ret ?_
      refine thn_r ?_
      refine fin_i [] rfl (fz ?_) trivial
      first | exact putBF_eq (by omega) (by omega) | exact putBF_no (by omega)
    · refine vc_skip ?_
      refine thn ?_
      refine vc_sr ?_
      iterate 10 refine vo ?_
      try refine vwr ?_
      iterate 3 refine vo ?_
      refine vnt ?_
      refine vc_ret ?_
      refine fin_i [] rfl (fz ?_) trivial
      first | exact putBF_eq (by omega) (by omega) | exact putBF_no (by omega)
set_option maxHeartbeats 4000000 in
theorem c_spec_AddSums {a b : Int} (ha : 0 ≤ a ∧ a ≤ 65535 := by omega) (hb : 0 ≤ b ∧ b ≤ 65535 := by omega) : Con0 Tryz.prog 267 [I a, I b] (I (addS a b)) [] := by
  refine con_i Tryz.func267 Tryz.ntmps267 (t := [(0, I a), (1, I b)]) rfl ?_
  refine vc_sr ?_
  refine vo ?_
  refine vnt ?_
  refine vc_seq' ?_
  refine vc_sr ?_
  refine vo ?_
  refine voc c_spec_l01In rfl rfl ?_
  iterate 2 refine vo ?_
  refine vsp (fun g1 => ?_) (fun g1 => ?_)
  · iterate 3 refine vof ?_
    refine vo ?_
    refine vnt ?_
    refine vc_then ?_
    refine vc_sr ?_
    refine vo ?_
    refine vnt ?_
    refine vc_ret ?_
    refine thn_r ?_
    refine fin_i [] rfl (fz ?_) trivial
    first | (unfold addS; split <;> omega) | (have := inB_iff.2 ha; have := inB_iff.2 hb; simp_all)
  · refine von ?_
    refine vocn c_spec_l01In rfl rfl ?_
    refine von ?_
    refine vo ?_
    refine vnt ?_
    refine vc_if (fun g2 => ?_) (fun g2 => ?_)
    · refine vc_sr ?_
      refine vo ?_
      refine vnt ?_
      refine vc_ret ?_
      refine thn_r ?_
      refine fin_i [] rfl (fz ?_) trivial
      first | (unfold addS; split <;> omega) | (have := inB_iff.2 ha; have := inB_iff.2 hb; simp_all)
    · refine vc_skip ?_
      refine thn ?_
      refine vc_seq' ?_
      refine vc_sr ?_
      iterate 3 refine vo ?_
      try refine vwr ?_
      refine vo ?_
      refine vnt ?_
      refine vc_if (fun g3 => ?_) (fun g3 => ?_)
      · refine vc_sr ?_
        iterate 3 refine vo ?_
        try refine vwr ?_
        refine vo ?_
        try refine vwr ?_
        refine vo ?_
        refine vnt ?_
        refine vc_ret ?_
        refine thn_r ?_
        refine fin_i [] rfl (fz ?_) trivial
        first | (unfold addS; split <;> omega) | (have := inB_iff.2 ha; have := inB_iff.2 hb; simp_all)
      · refine vc_skip ?_
        refine thn ?_
        refine vc_sr ?_
        iterate 3 refine vo ?_
        try refine vwr ?_
        refine vo ?_
        refine vnt ?_
        refine vc_ret ?_
        refine fin_i [] rfl (fz ?_) trivial
        first | (unfold addS; split <;> omega) | (have := inB_iff.2 ha; have := inB_iff.2 hb; simp_all)
set_option maxHeartbeats 4000000 in
theorem c_spec_PutBytes {s p : ByteArray} {i : Int} (hs_s : s.size ≤ 1099511627776 := by first | assumption | omega | (simp only [ByteArray.size_append, ByteArray.size_extract, strOfNums_size, List.length_cons, List.length_nil]; omega)) (hs_p : p.size ≤ 1099511627776 := by first | assumption | omega | (simp only [ByteArray.size_append, ByteArray.size_extract, strOfNums_size, List.length_cons, List.length_nil]; omega)) : Con0 Tryz.prog 154 [Z s, I i, Z p] (Z (putBF s i p)) [] := by
  refine con_i Tryz.func154 Tryz.ntmps154 (t := [(0, Z s), (1, I i), (2, Z p)]) rfl ?_
  refine vc_sr ?_
  refine vo ?_
  refine vnt ?_
  refine vc_seq' ?_
  refine vc_sr ?_
  iterate 4 refine vo ?_
  refine voc c_spec_l02Within rfl rfl ?_
  refine vo ?_
  refine vnt ?_
  refine vc_if (fun g1 => ?_) (fun g1 => ?_)
  · have hw : ¬ _ := fun h => Bool.false_ne_true (g1.symm.trans (wthB_iff.2 h))
    refine vc_sr ?_
    iterate 2 refine vo ?_
    refine vnt ?_
    refine vc_ret ?_
    refine thn_r ?_
    refine fin_i [] rfl (fz ?_) trivial
    first | exact putBF_eq (by omega) (by omega) | exact putBF_no (by omega)
  · have hw := wthB_iff.1 g1
    refine vc_skip ?_
    refine thn ?_
    refine vc_sr ?_
    iterate 10 refine vo ?_
    try refine vwr ?_
    iterate 3 refine vo ?_
    refine vnt ?_
    refine vc_ret ?_
    refine fin_i [] rfl (fz ?_) trivial
    first | exact putBF_eq (by omega) (by omega) | exact putBF_no (by omega)
def psOkB (src dst kind len : Int) : Bool := inB src 0 4294967295 && inB dst 0 4294967295 && inB kind 0 255 && inB len 0 65535
def psR (src dst kind len : Int) : ByteArray := if psOkB src dst kind len then psF src dst kind len else ⟨#[]⟩
theorem psR_ok {src dst kind len : Int} (h : psOkB src dst kind len = true) : psR src dst kind len = psF src dst kind len := if_pos h
theorem wa_or (s : ByteArray) (k : Nat) : orI (IntKind.i64.wrap (IntKind.i64.wrap (bytI s ((2 * k : Nat) : Int)) * 2 ^ Int.toNat 8)) (IntKind.i64.wrap (bytI s (((2 * k : Nat) : Int) + 1))) = wAt s k := by
  rw [shl8, or8 _ _ _ (bAt_lt ..)]; rfl
theorem wa_add (s : ByteArray) (k : Nat) : wr (IntKind.i64.wrap (IntKind.i64.wrap (bytI s ((2 * k : Nat) : Int)) * 2 ^ Int.toNat 8) + IntKind.i64.wrap (bytI s (((2 * k : Nat) : Int) + 1))) = wAt s k := by
  rw [shl8, i64_byt, wr_id]
  · rfl
  · omega
  · have := bAt_lt s ((2 * k : Nat) : Int).toNat
    have := bAt_lt s (((2 * k : Nat) : Int) + 1).toNat
    omega
theorem wa_one (s : ByteArray) (k : Nat) (h : s.size ≤ 2 * k + 1) : IntKind.i64.wrap (IntKind.i64.wrap (bytI s ((2 * k : Nat) : Int)) * 2 ^ Int.toNat 8) = wAt s k := by
  rw [shl8, Int.toNat_natCast, wAt, bAt_out (i := 2 * k + 1) h, Nat.add_zero]
set_option maxHeartbeats 4000000 in
theorem c_impl_SumWords {s : ByteArray} (hs_s : s.size ≤ 1099511627776 := by first | assumption | omega | (simp only [ByteArray.size_append, ByteArray.size_extract, strOfNums_size, List.length_cons, List.length_nil]; omega)) : Con0 Tryz.prog 234 [Z s] (I (sumF s)) [] := by
  refine con_i Tryz.func234 Tryz.ntmps234 (t := [(0, Z s)]) rfl ?_
  refine vc_sr ?_
  refine vo ?_
  refine vnt ?_
  refine vc_sr ?_
  refine vo ?_
  refine vnt ?_
  refine vc_seq' ?_
  refine vc_sr ?_
  refine vo ?_
  refine vnt ?_
  refine vc_block ?_
  refine vc_lp (σ := Nat) [0] [] (fun k => [(3, I (sumW s k)), (4, I ((2 * k : Nat) : Int))]) (fun k => []) (fun k => k ≤ words s.size) (fun k => words s.size - k) 0 rfl rfl (sub_i [] (fz ?_) (fz ?_)) ?_ fun k hI => ?_
  · first | trivial | simp [sumW]
  · trivial
  · exact Nat.zero_le _
  refine vc_nf rfl rfl ?_
  have hk := bAt_lt s (2 * k)
  have hw := wAt_bd s k
  have hm := sumW_bd s k
  refine vc_seq' ?_
  refine vc_sr ?_
  iterate 4 refine vo ?_
  refine vnt ?_
  refine vc_if (fun g1 => ?_) (fun g1 => ?_)
  · refine vc_skip ?_
    refine thn ?_
    refine vc_seq' ?_
    refine vc_block ?_
    refine vc_sr ?_
    iterate 6 refine vo ?_
    refine vnt ?_
    refine vc_seq' ?_
    refine vc_sr ?_
    iterate 2 refine vo ?_
    try refine vwr ?_
    iterate 3 refine vo ?_
    refine vnt ?_
    refine vc_if (fun g2 => ?_) (fun g2 => ?_)
    · refine vc_region ?_
      iterate 4 refine vo ?_
      try refine vwr ?_
      iterate 3 refine vo ?_
      refine veq (wa_or s k) ?_
      refine vo ?_
      refine vnt ?_
      refine vc_region ?_
      iterate 2 refine vo ?_
      refine voc c_impl_AddSums rfl rfl ?_
      refine vo ?_
      refine vnil ?_
      refine inB_n ?_
      refine thn ?_
      refine vc_region ?_
      iterate 2 refine vo ?_
      try refine vwr ?_
      refine vo ?_
      refine vnt ?_
      refine ⟨k + 1, ?_, ?_, sub_i [] (fz ?_) (fz ?_)⟩
      · unfold words; omega
      · unfold words; omega
      · exact ⟨rfl, by omega⟩
      · first | trivial
    · rw [wa_one s k (by omega)]
      refine vc_skip ?_
      refine thn ?_
      refine vc_region ?_
      iterate 2 refine vo ?_
      refine voc c_impl_AddSums rfl rfl ?_
      refine vo ?_
      refine vnil ?_
      refine inB_n ?_
      refine thn ?_
      refine vc_region ?_
      iterate 2 refine vo ?_
      try refine vwr ?_
      refine vo ?_
      refine vnt ?_
      refine ⟨k + 1, ?_, ?_, sub_i [] (fz ?_) (fz ?_)⟩
      · unfold words; omega
      · unfold words; omega
      · exact ⟨rfl, by omega⟩
      · first | trivial
  · refine vc_exit ?_
    refine thn_x ?_
    refine thn_x ?_
    refine inB_x ?_
    refine thn ?_
    refine vc_sr ?_
    iterate 2 refine vo ?_
    refine vnt ?_
    refine vc_ret ?_
    refine fin_i [] rfl (fz ?_) trivial
    rw [sumF, show words s.size = k by unfold words at *; omega]
set_option maxHeartbeats 4000000 in
theorem c_impl_Checksum {s : ByteArray} (hs_s : s.size ≤ 1099511627776 := by first | assumption | omega | (simp only [ByteArray.size_append, ByteArray.size_extract, strOfNums_size, List.length_cons, List.length_nil]; omega)) : Con0 Tryz.prog 183 [Z s] (I (checkF s)) [] := by
  have hb := sumF_bd s
  refine con_i Tryz.func183 Tryz.ntmps183 (t := [(0, Z s)]) rfl ?_
  refine vc_sr ?_
  refine vo ?_
  refine vnt ?_
  refine vc_sr ?_
  refine vo ?_
  refine voc c_impl_SumWords rfl rfl ?_
  refine vo ?_
  try refine vwr ?_
  refine vo ?_
  refine vnt ?_
  refine vc_ret ?_
  refine fin_i [] rfl (fz ?_) trivial
  rfl
set_option maxHeartbeats 4000000 in
theorem c_impl_PseudoHeader {src dst kind len : Int} : Con0 Tryz.prog 180 [I src, I dst, I kind, I len] (.tup [Z (psR src dst kind len), B (psOkB src dst kind len)]) [] := by
  refine con_i Tryz.func180 Tryz.ntmps180 (t := [(0, I src), (1, I dst), (2, I kind), (3, I len)]) rfl ?_
  refine vc_sr ?_
  iterate 2 refine vo ?_
  refine vnt ?_
  refine vc_seq' ?_
  refine vc_sr ?_
  refine vo ?_
  refine voc c_impl_between rfl rfl ?_
  iterate 2 refine vo ?_
  refine vsp (fun g1 => ?_) (fun g1 => ?_)
  · iterate 3 refine vof ?_
    iterate 2 refine vo ?_
    iterate 3 refine vof ?_
    iterate 2 refine vo ?_
    iterate 3 refine vof ?_
    refine vo ?_
    refine vnt ?_
    refine vc_then ?_
    refine vc_sr ?_
    iterate 2 refine vo ?_
    refine vnt ?_
    refine vc_ret ?_
    refine thn_r ?_
    refine fin_i [] rfl (fz ?_) trivial
    first | (simp_all [psR, psOkB, psF]; done) | (have h3 := inB_iff.1 g3; have := u8w h3.1 h3.2; simp_all [psR, psOkB, psF])
  · refine von ?_
    refine vocn c_impl_between rfl rfl ?_
    refine von ?_
    iterate 2 refine vo ?_
    refine vsp (fun g2 => ?_) (fun g2 => ?_)
    · iterate 3 refine vof ?_
      iterate 2 refine vo ?_
      iterate 3 refine vof ?_
      refine vo ?_
      refine vnt ?_
      refine vc_then ?_
      refine vc_sr ?_
      iterate 2 refine vo ?_
      refine vnt ?_
      refine vc_ret ?_
      refine thn_r ?_
      refine fin_i [] rfl (fz ?_) trivial
      first | (simp_all [psR, psOkB, psF]; done) | (have h3 := inB_iff.1 g3; have := u8w h3.1 h3.2; simp_all [psR, psOkB, psF])
    · refine von ?_
      refine vocn c_impl_between rfl rfl ?_
      refine von ?_
      iterate 2 refine vo ?_
      refine vsp (fun g3 => ?_) (fun g3 => ?_)
      · iterate 3 refine vof ?_
        refine vo ?_
        refine vnt ?_
        refine vc_then ?_
        refine vc_sr ?_
        iterate 2 refine vo ?_
        refine vnt ?_
        refine vc_ret ?_
        refine thn_r ?_
        refine fin_i [] rfl (fz ?_) trivial
        first | (simp_all [psR, psOkB, psF]; done) | (have h3 := inB_iff.1 g3; have := u8w h3.1 h3.2; simp_all [psR, psOkB, psF])
      · refine von ?_
        refine vocn c_impl_between rfl rfl ?_
        refine von ?_
        refine vo ?_
        refine vnt ?_
        refine vc_if (fun g4 => ?_) (fun g4 => ?_)
        · refine vc_sr ?_
          iterate 2 refine vo ?_
          refine vnt ?_
          refine vc_ret ?_
          refine thn_r ?_
          refine fin_i [] rfl (fz ?_) trivial
          first | (simp_all [psR, psOkB, psF]; done) | (have h3 := inB_iff.1 g3; have := u8w h3.1 h3.2; simp_all [psR, psOkB, psF])
        · refine vc_skip ?_
          refine thn ?_
          refine vc_sr ?_
          refine vo ?_
          refine voc c_impl_Word32 rfl rfl ?_
          refine vzs (word32_le _) fun z1 => ?_
          refine vo ?_
          refine voc c_impl_Word32 rfl rfl ?_
          refine vzs (word32_le _) fun z2 => ?_
          iterate 5 refine vo ?_
          refine vs2 ?_
          iterate 2 refine vo ?_
          refine voc c_impl_Word16 rfl rfl ?_
          refine vzs (word16_le _) fun z3 => ?_
          iterate 3 refine vo ?_
          refine vnt ?_
          refine vc_ret ?_
          refine fin_i [] rfl (fz ?_) trivial
          first | (simp_all [psR, psOkB, psF]; done) | (have h3 := inB_iff.1 g3; have := u8w h3.1 h3.2; simp_all [psR, psOkB, psF])
set_option maxHeartbeats 4000000 in
theorem c_spec_SumWords {s : ByteArray} (hs_s : s.size ≤ 1099511627776 := by first | assumption | omega | (simp only [ByteArray.size_append, ByteArray.size_extract, strOfNums_size, List.length_cons, List.length_nil]; omega)) : Con0 Tryz.prog 263 [Z s] (I (sumF s)) [] := by
  refine con_i Tryz.func263 Tryz.ntmps263 (t := [(0, Z s)]) rfl ?_
  refine vc_sr ?_
  refine vo ?_
  refine vnt ?_
  refine vc_sr ?_
  refine vo ?_
  refine vnt ?_
  refine vc_seq' ?_
  refine vc_sr ?_
  refine vo ?_
  refine vnt ?_
  refine vc_block ?_
  refine vc_lp (σ := Nat) [0] [] (fun k => [(3, I (sumW s k)), (4, I ((2 * k : Nat) : Int))]) (fun k => []) (fun k => k ≤ words s.size) (fun k => words s.size - k) 0 rfl rfl (sub_i [] (fz ?_) (fz ?_)) ?_ fun k hI => ?_
  · first | trivial | simp [sumW]
  · trivial
  · exact Nat.zero_le _
  refine vc_nf rfl rfl ?_
  have hk := bAt_lt s (2 * k)
  have hw := wAt_bd s k
  have hm := sumW_bd s k
  refine vc_seq' ?_
  refine vc_sr ?_
  iterate 4 refine vo ?_
  refine vnt ?_
  refine vc_if (fun g1 => ?_) (fun g1 => ?_)
  · refine vc_skip ?_
    refine thn ?_
    refine vc_seq' ?_
    refine vc_block ?_
    refine vc_sr ?_
    iterate 6 refine vo ?_
    refine vnt ?_
    refine vc_seq' ?_
    refine vc_sr ?_
    iterate 2 refine vo ?_
    try refine vwr ?_
    iterate 3 refine vo ?_
    refine vnt ?_
    refine vc_if (fun g2 => ?_) (fun g2 => ?_)
    · refine vc_region ?_
      iterate 4 refine vo ?_
      try refine vwr ?_
      iterate 3 refine vo ?_
      try refine vwr ?_
      refine veq (wa_add s k) ?_
      refine vo ?_
      refine vnt ?_
      refine vc_region ?_
      iterate 2 refine vo ?_
      refine voc c_spec_AddSums rfl rfl ?_
      refine vo ?_
      refine vnil ?_
      refine inB_n ?_
      refine thn ?_
      refine vc_region ?_
      iterate 2 refine vo ?_
      try refine vwr ?_
      refine vo ?_
      refine vnt ?_
      refine ⟨k + 1, ?_, ?_, sub_i [] (fz ?_) (fz ?_)⟩
      · unfold words; omega
      · unfold words; omega
      · exact ⟨rfl, by omega⟩
      · first | trivial
    · rw [wa_one s k (by omega)]
      refine vc_skip ?_
      refine thn ?_
      refine vc_region ?_
      iterate 2 refine vo ?_
      refine voc c_spec_AddSums rfl rfl ?_
      refine vo ?_
      refine vnil ?_
      refine inB_n ?_
      refine thn ?_
      refine vc_region ?_
      iterate 2 refine vo ?_
      try refine vwr ?_
      refine vo ?_
      refine vnt ?_
      refine ⟨k + 1, ?_, ?_, sub_i [] (fz ?_) (fz ?_)⟩
      · unfold words; omega
      · unfold words; omega
      · exact ⟨rfl, by omega⟩
      · first | trivial
  · refine vc_exit ?_
    refine thn_x ?_
    refine thn_x ?_
    refine inB_x ?_
    refine thn ?_
    refine vc_sr ?_
    iterate 2 refine vo ?_
    refine vnt ?_
    refine vc_ret ?_
    refine fin_i [] rfl (fz ?_) trivial
    rw [sumF, show words s.size = k by unfold words at *; omega]
set_option maxHeartbeats 4000000 in
theorem c_spec_Checksum {s : ByteArray} (hs_s : s.size ≤ 1099511627776 := by first | assumption | omega | (simp only [ByteArray.size_append, ByteArray.size_extract, strOfNums_size, List.length_cons, List.length_nil]; omega)) : Con0 Tryz.prog 250 [Z s] (I (checkF s)) [] := by
  have hb := sumF_bd s
  refine con_i Tryz.func250 Tryz.ntmps250 (t := [(0, Z s)]) rfl ?_
  refine vc_sr ?_
  refine vo ?_
  refine vnt ?_
  refine vc_sr ?_
  refine vo ?_
  refine voc c_spec_SumWords rfl rfl ?_
  refine vo ?_
  try refine vwr ?_
  refine vo ?_
  refine vnt ?_
  refine vc_ret ?_
  refine fin_i [] rfl (fz ?_) trivial
  rfl
set_option maxHeartbeats 4000000 in
theorem c_spec_PseudoHeader {src dst kind len : Int} : Con0 Tryz.prog 249 [I src, I dst, I kind, I len] (.tup [Z (psR src dst kind len), B (psOkB src dst kind len)]) [] := by
  refine con_i Tryz.func249 Tryz.ntmps249 (t := [(0, I src), (1, I dst), (2, I kind), (3, I len)]) rfl ?_
  refine vc_sr ?_
  iterate 2 refine vo ?_
  refine vnt ?_
  refine vc_seq' ?_
  refine vc_sr ?_
  refine vo ?_
  refine voc c_spec_l01In rfl rfl ?_
  iterate 2 refine vo ?_
  refine vsp (fun g1 => ?_) (fun g1 => ?_)
  · iterate 3 refine vof ?_
    iterate 2 refine vo ?_
    iterate 3 refine vof ?_
    iterate 2 refine vo ?_
    iterate 3 refine vof ?_
    refine vo ?_
    refine vnt ?_
    refine vc_then ?_
    refine vc_sr ?_
    iterate 2 refine vo ?_
    refine vnt ?_
    refine vc_ret ?_
    refine thn_r ?_
    refine fin_i [] rfl (fz ?_) trivial
    first | (simp_all [psR, psOkB, psF]; done) | (have h3 := inB_iff.1 g3; have := u8w h3.1 h3.2; simp_all [psR, psOkB, psF])
  · refine von ?_
    refine vocn c_spec_l01In rfl rfl ?_
    refine von ?_
    iterate 2 refine vo ?_
    refine vsp (fun g2 => ?_) (fun g2 => ?_)
    · iterate 3 refine vof ?_
      iterate 2 refine vo ?_
      iterate 3 refine vof ?_
      refine vo ?_
      refine vnt ?_
      refine vc_then ?_
      refine vc_sr ?_
      iterate 2 refine vo ?_
      refine vnt ?_
      refine vc_ret ?_
      refine thn_r ?_
      refine fin_i [] rfl (fz ?_) trivial
      first | (simp_all [psR, psOkB, psF]; done) | (have h3 := inB_iff.1 g3; have := u8w h3.1 h3.2; simp_all [psR, psOkB, psF])
    · refine von ?_
      refine vocn c_spec_l01In rfl rfl ?_
      refine von ?_
      iterate 2 refine vo ?_
      refine vsp (fun g3 => ?_) (fun g3 => ?_)
      · iterate 3 refine vof ?_
        refine vo ?_
        refine vnt ?_
        refine vc_then ?_
        refine vc_sr ?_
        iterate 2 refine vo ?_
        refine vnt ?_
        refine vc_ret ?_
        refine thn_r ?_
        refine fin_i [] rfl (fz ?_) trivial
        first | (simp_all [psR, psOkB, psF]; done) | (have h3 := inB_iff.1 g3; have := u8w h3.1 h3.2; simp_all [psR, psOkB, psF])
      · refine von ?_
        refine vocn c_spec_l01In rfl rfl ?_
        refine von ?_
        refine vo ?_
        refine vnt ?_
        refine vc_if (fun g4 => ?_) (fun g4 => ?_)
        · refine vc_sr ?_
          iterate 2 refine vo ?_
          refine vnt ?_
          refine vc_ret ?_
          refine thn_r ?_
          refine fin_i [] rfl (fz ?_) trivial
          first | (simp_all [psR, psOkB, psF]; done) | (have h3 := inB_iff.1 g3; have := u8w h3.1 h3.2; simp_all [psR, psOkB, psF])
        · refine vc_skip ?_
          refine thn ?_
          refine vc_sr ?_
          refine vo ?_
          refine voc c_spec_Word32 rfl rfl ?_
          refine vzs (word32_le _) fun z1 => ?_
          refine vo ?_
          refine voc c_spec_Word32 rfl rfl ?_
          refine vzs (word32_le _) fun z2 => ?_
          iterate 5 refine vo ?_
          refine vs2 ?_
          iterate 2 refine vo ?_
          refine voc c_spec_Word16 rfl rfl ?_
          refine vzs (word16_le _) fun z3 => ?_
          iterate 3 refine vo ?_
          refine vnt ?_
          refine vc_ret ?_
          refine fin_i [] rfl (fz ?_) trivial
          first | (simp_all [psR, psOkB, psF]; done) | (have h3 := inB_iff.1 g3; have := u8w h3.1 h3.2; simp_all [psR, psOkB, psF])
def ethOkB (dst src vl ty : Int) (n : Nat) : Bool := inB dst 0 281474976710655 && inB src 0 281474976710655 && inB vl (-1) 4095 && inB ty 1536 65535 && !decide (ty = 33024) && inB n 46 400
def ethF (dst src vl ty : Int) (body : ByteArray) : ByteArray := if 0 ≤ vl then macF dst ++ macF src ++ (word16 33024 ++ word16 vl) ++ word16 ty ++ body else macF dst ++ macF src ++ word16 ty ++ body
def ethR (dst src vl ty : Int) (body : ByteArray) : ByteArray := if ethOkB dst src vl ty body.size then ethF dst src vl ty body else ⟨#[]⟩
def ipOkB (tos id ttl pr src dst : Int) (n : Nat) : Bool := inB tos 0 255 && inB ttl 0 255 && inB pr 0 255 && inB id 0 65535 && inB src 0 4294967295 && inB dst 0 4294967295 && decide (n ≤ 380)
def ipH0 (tos id ttl pr src dst : Int) (n : Nat) : ByteArray := strOfNums [69, tos] ++ word16 (20 + n) ++ word16 id ++ word16 16384 ++ strOfNums [ttl, pr] ++ word16 0 ++ word32 src ++ word32 dst
def ipHF (tos id ttl pr src dst : Int) (n : Nat) : ByteArray := putBF (ipH0 tos id ttl pr src dst n) 10 (word16 (checkF (ipH0 tos id ttl pr src dst n)))
def ipHR (tos id ttl pr src dst : Int) (n : Nat) : ByteArray := if ipOkB tos id ttl pr src dst n then ipHF tos id ttl pr src dst n else ⟨#[]⟩
def ipR (tos id ttl pr src dst : Int) (body : ByteArray) : ByteArray := if ipOkB tos id ttl pr src dst body.size then ipHF tos id ttl pr src dst body.size ++ body else ⟨#[]⟩
theorem ipHR_ok {tos id ttl pr src dst : Int} {n : Nat} (h : ipOkB tos id ttl pr src dst n = true) : ipHR tos id ttl pr src dst n = ipHF tos id ttl pr src dst n := if_pos h
theorem ipOk_w {tos id ttl pr src dst : Int} {n : Nat} (h : ipOkB tos id ttl pr src dst n = true) : IntKind.u8.wrap tos = tos ∧ IntKind.u8.wrap ttl = ttl ∧ IntKind.u8.wrap pr = pr := by
  simp only [ipOkB, Bool.and_eq_true, inB_iff] at h
  exact ⟨u8w h.1.1.1.1.1.1.1 h.1.1.1.1.1.1.2, u8w h.1.1.1.1.1.2.1 h.1.1.1.1.1.2.2, u8w h.1.1.1.1.2.1 h.1.1.1.1.2.2⟩
set_option maxHeartbeats 4000000 in
theorem c_impl_PadBody {s : ByteArray} (hs_s : s.size ≤ 1099511627776 := by first | assumption | omega | (simp only [ByteArray.size_append, ByteArray.size_extract, strOfNums_size, List.length_cons, List.length_nil]; omega)) : Con0 Tryz.prog 229 [Z s] (Z (padF s)) [] := by
  refine con_i Tryz.func229 Tryz.ntmps229 (t := [(0, Z s)]) rfl ?_
  refine vc_sr ?_
  refine vo ?_
  refine vnt ?_
  refine vc_seq' ?_
  refine vc_sr ?_
  iterate 3 refine vo ?_
  refine vnt ?_
  refine vc_if (fun g1 => ?_) (fun g1 => ?_)
  · refine vc_sr ?_
    iterate 2 refine vo ?_
    refine vnt ?_
    refine vc_ret ?_
    refine thn_r ?_
    refine fin_i [] rfl (fz ?_) trivial
    first | (rw [padF, if_neg (by omega)]; done) | (rw [padF, if_pos (by omega), show (46 - (s.size : Int)).toNat = 46 - s.size by omega])
  · refine vc_skip ?_
    refine thn ?_
    refine vc_sr ?_
    iterate 4 refine vo ?_
    try refine vwr ?_
    refine voc c_impl_repeat rfl rfl ?_
    refine vzs (rep_le _ _) fun z1 => ?_
    iterate 2 refine vo ?_
    refine vnt ?_
    refine vc_ret ?_
    refine fin_i [] rfl (fz ?_) trivial
    first | (rw [padF, if_neg (by omega)]; done) | (rw [padF, if_pos (by omega), show (46 - (s.size : Int)).toNat = 46 - s.size by omega])
set_option maxHeartbeats 4000000 in
theorem c_impl_EthOk {dst src vl ty : Int} {body : ByteArray} (hs_body : body.size ≤ 1099511627776 := by first | assumption | omega | (simp only [ByteArray.size_append, ByteArray.size_extract, strOfNums_size, List.length_cons, List.length_nil]; omega)) : Con0 Tryz.prog 233 [.agg [V dst, V src, V vl, V ty, VS body]] (B (ethOkB dst src vl ty body.size)) [] := by
  refine con_i Tryz.func233 Tryz.ntmps233 (t := [(0, .agg [V dst, V src, V vl, V ty, VS body])]) rfl ?_
  refine vc_sr ?_
  iterate 2 refine vo ?_
  refine vnt ?_
  refine vc_sr ?_
  iterate 2 refine vo ?_
  refine voc c_impl_between rfl rfl ?_
  refine vo ?_
  refine vsp (fun g1 => ?_) (fun g1 => ?_)
  · iterate 2 refine von ?_
    refine vocn c_impl_between rfl rfl ?_
    iterate 2 refine vo ?_
    refine vsp (fun g2 => ?_) (fun g2 => ?_)
    · iterate 2 refine von ?_
      refine vocn c_impl_between rfl rfl ?_
      iterate 2 refine vo ?_
      refine vsp (fun g3 => ?_) (fun g3 => ?_)
      · iterate 2 refine von ?_
        refine vocn c_impl_between rfl rfl ?_
        iterate 2 refine vo ?_
        refine vsp (fun g4 => ?_) (fun g4 => ?_)
        · iterate 3 refine von ?_
          iterate 2 refine vo ?_
          refine vsp (fun g5 => ?_) (fun g5 => ?_)
          · iterate 3 refine von ?_
            refine vocn c_impl_between rfl rfl ?_
            iterate 2 refine vo ?_
            refine vnt ?_
            refine vc_ret ?_
            refine fin_i [] rfl (fz ?_) trivial
            simp_all [ethOkB]
          · iterate 4 refine vof ?_
            iterate 2 refine vo ?_
            refine vnt ?_
            refine vc_ret ?_
            refine fin_i [] rfl (fz ?_) trivial
            simp_all [ethOkB]
        · iterate 3 refine vof ?_
          iterate 2 refine vo ?_
          iterate 4 refine vof ?_
          iterate 2 refine vo ?_
          refine vnt ?_
          refine vc_ret ?_
          refine fin_i [] rfl (fz ?_) trivial
          simp_all [ethOkB]
      · iterate 3 refine vof ?_
        iterate 2 refine vo ?_
        iterate 3 refine vof ?_
        iterate 2 refine vo ?_
        iterate 4 refine vof ?_
        iterate 2 refine vo ?_
        refine vnt ?_
        refine vc_ret ?_
        refine fin_i [] rfl (fz ?_) trivial
        simp_all [ethOkB]
    · iterate 3 refine vof ?_
      iterate 2 refine vo ?_
      iterate 3 refine vof ?_
      iterate 2 refine vo ?_
      iterate 3 refine vof ?_
      iterate 2 refine vo ?_
      iterate 4 refine vof ?_
      iterate 2 refine vo ?_
      refine vnt ?_
      refine vc_ret ?_
      refine fin_i [] rfl (fz ?_) trivial
      simp_all [ethOkB]
  · iterate 3 refine vof ?_
    iterate 2 refine vo ?_
    iterate 3 refine vof ?_
    iterate 2 refine vo ?_
    iterate 3 refine vof ?_
    iterate 2 refine vo ?_
    iterate 3 refine vof ?_
    iterate 2 refine vo ?_
    iterate 4 refine vof ?_
    iterate 2 refine vo ?_
    refine vnt ?_
    refine vc_ret ?_
    refine fin_i [] rfl (fz ?_) trivial
    simp_all [ethOkB]
set_option maxHeartbeats 4000000 in
theorem c_impl_BuildEth {dst src vl ty : Int} {body : ByteArray} (hs_body : body.size ≤ 1099511627776 := by first | assumption | omega | (simp only [ByteArray.size_append, ByteArray.size_extract, strOfNums_size, List.length_cons, List.length_nil]; omega)) : Con0 Tryz.prog 228 [.agg [V dst, V src, V vl, V ty, VS body]] (.tup [Z (ethR dst src vl ty body), B (ethOkB dst src vl ty body.size)]) [] := by
  refine con_i Tryz.func228 Tryz.ntmps228 (t := [(0, .agg [V dst, V src, V vl, V ty, VS body])]) rfl ?_
  refine vc_sr ?_
  iterate 3 refine vo ?_
  refine vnt ?_
  refine vc_seq' ?_
  refine vc_sr ?_
  refine vo ?_
  refine voc c_impl_EthOk rfl rfl ?_
  refine vo ?_
  refine vnt ?_
  refine vc_if (fun g1 => ?_) (fun g1 => ?_)
  · refine vc_sr ?_
    iterate 2 refine vo ?_
    refine vnt ?_
    refine vc_ret ?_
    refine thn_r ?_
    refine fin_i [] rfl (fz ?_) trivial
    first | (simp [ethR, g1]; done) | (simp [ethR, g1, ethF, g2, ByteArray.append_assoc]; done) | (simp [ethR, g1, ethF, ByteArray.append_assoc]; omega)
  · refine vc_skip ?_
    refine thn ?_
    refine vc_sr ?_
    iterate 2 refine vo ?_
    refine voc c_impl_macBytes rfl rfl ?_
    refine vzs (mac_le _) fun z1 => ?_
    iterate 2 refine vo ?_
    refine voc c_impl_macBytes rfl rfl ?_
    refine vzs (mac_le _) fun z2 => ?_
    iterate 2 refine vo ?_
    refine vnt ?_
    refine vc_seq' ?_
    refine vc_sr ?_
    iterate 3 refine vo ?_
    refine vnt ?_
    refine vc_if (fun g2 => ?_) (fun g2 => ?_)
    · refine vc_region ?_
      refine vo ?_
      refine voc c_impl_Word16 rfl rfl ?_
      refine vzs (word16_le _) fun z3 => ?_
      iterate 2 refine vo ?_
      refine voc c_impl_Word16 rfl rfl ?_
      refine vzs (word16_le _) fun z4 => ?_
      iterate 3 refine vo ?_
      refine vnt ?_
      refine vc_sr ?_
      iterate 3 refine vo ?_
      refine voc c_impl_Word16 rfl rfl ?_
      refine vzs (word16_le _) fun z5 => ?_
      iterate 6 refine vo ?_
      refine vnt ?_
      refine vc_ret ?_
      refine fin_i [] rfl (fz ?_) trivial
      first | (simp [ethR, g1]; done) | (simp [ethR, g1, ethF, g2, ByteArray.append_assoc]; done) | (simp [ethR, g1, ethF, ByteArray.append_assoc]; omega)
    · refine vc_skip ?_
      refine thn ?_
      refine vc_sr ?_
      iterate 3 refine vo ?_
      refine voc c_impl_Word16 rfl rfl ?_
      refine vzs (word16_le _) fun z6 => ?_
      iterate 6 refine vo ?_
      refine vnt ?_
      refine vc_ret ?_
      refine fin_i [] rfl (fz ?_) trivial
      first | (simp [ethR, g1]; done) | (simp [ethR, g1, ethF, g2, ByteArray.append_assoc]; done) | (simp [ethR, g1, ethF, ByteArray.append_assoc]; omega)
set_option maxHeartbeats 4000000 in
theorem c_impl_IpOk {tos id ttl pr src dst : Int} {body : ByteArray} (hs_body : body.size ≤ 1099511627776 := by first | assumption | omega | (simp only [ByteArray.size_append, ByteArray.size_extract, strOfNums_size, List.length_cons, List.length_nil]; omega)) : Con0 Tryz.prog 265 [.agg [V tos, V id, V ttl, V pr, V src, V dst, VS body]] (B (ipOkB tos id ttl pr src dst body.size)) [] := by
  refine con_i Tryz.func265 Tryz.ntmps265 (t := [(0, .agg [V tos, V id, V ttl, V pr, V src, V dst, VS body])]) rfl ?_
  refine vc_sr ?_
  iterate 2 refine vo ?_
  refine vnt ?_
  refine vc_sr ?_
  iterate 2 refine vo ?_
  refine voc c_impl_between rfl rfl ?_
  refine vo ?_
  refine vsp (fun g1 => ?_) (fun g1 => ?_)
  · iterate 2 refine von ?_
    refine vocn c_impl_between rfl rfl ?_
    iterate 2 refine vo ?_
    refine vsp (fun g2 => ?_) (fun g2 => ?_)
    · iterate 2 refine von ?_
      refine vocn c_impl_between rfl rfl ?_
      iterate 2 refine vo ?_
      refine vsp (fun g3 => ?_) (fun g3 => ?_)
      · iterate 2 refine von ?_
        refine vocn c_impl_between rfl rfl ?_
        iterate 2 refine vo ?_
        refine vsp (fun g4 => ?_) (fun g4 => ?_)
        · iterate 2 refine von ?_
          refine vocn c_impl_between rfl rfl ?_
          iterate 2 refine vo ?_
          refine vsp (fun g5 => ?_) (fun g5 => ?_)
          · iterate 2 refine von ?_
            refine vocn c_impl_between rfl rfl ?_
            iterate 2 refine vo ?_
            refine vsp (fun g6 => ?_) (fun g6 => ?_)
            · iterate 4 refine von ?_
              iterate 2 refine vo ?_
              refine vnt ?_
              refine vc_ret ?_
              refine fin_i [] rfl (fz ?_) trivial
              simp_all [ipOkB]
              try omega
            · iterate 4 refine vof ?_
              iterate 2 refine vo ?_
              refine vnt ?_
              refine vc_ret ?_
              refine fin_i [] rfl (fz ?_) trivial
              simp_all [ipOkB]
              try omega
          · iterate 3 refine vof ?_
            iterate 2 refine vo ?_
            iterate 4 refine vof ?_
            iterate 2 refine vo ?_
            refine vnt ?_
            refine vc_ret ?_
            refine fin_i [] rfl (fz ?_) trivial
            simp_all [ipOkB]
            try omega
        · iterate 3 refine vof ?_
          iterate 2 refine vo ?_
          iterate 3 refine vof ?_
          iterate 2 refine vo ?_
          iterate 4 refine vof ?_
          iterate 2 refine vo ?_
          refine vnt ?_
          refine vc_ret ?_
          refine fin_i [] rfl (fz ?_) trivial
          simp_all [ipOkB]
          try omega
      · iterate 3 refine vof ?_
        iterate 2 refine vo ?_
        iterate 3 refine vof ?_
        iterate 2 refine vo ?_
        iterate 3 refine vof ?_
        iterate 2 refine vo ?_
        iterate 4 refine vof ?_
        iterate 2 refine vo ?_
        refine vnt ?_
        refine vc_ret ?_
        refine fin_i [] rfl (fz ?_) trivial
        simp_all [ipOkB]
        try omega
    · iterate 3 refine vof ?_
      iterate 2 refine vo ?_
      iterate 3 refine vof ?_
      iterate 2 refine vo ?_
      iterate 3 refine vof ?_
      iterate 2 refine vo ?_
      iterate 3 refine vof ?_
      iterate 2 refine vo ?_
      iterate 4 refine vof ?_
      iterate 2 refine vo ?_
      refine vnt ?_
      refine vc_ret ?_
      refine fin_i [] rfl (fz ?_) trivial
      simp_all [ipOkB]
      try omega
  · iterate 3 refine vof ?_
    iterate 2 refine vo ?_
    iterate 3 refine vof ?_
    iterate 2 refine vo ?_
    iterate 3 refine vof ?_
    iterate 2 refine vo ?_
    iterate 3 refine vof ?_
    iterate 2 refine vo ?_
    iterate 3 refine vof ?_
    iterate 2 refine vo ?_
    iterate 4 refine vof ?_
    iterate 2 refine vo ?_
    refine vnt ?_
    refine vc_ret ?_
    refine fin_i [] rfl (fz ?_) trivial
    simp_all [ipOkB]
    try omega
set_option maxHeartbeats 4000000 in
theorem c_impl_IpHeader {tos id ttl pr src dst : Int} {body : ByteArray} (hs_body : body.size ≤ 1099511627776 := by first | assumption | omega | (simp only [ByteArray.size_append, ByteArray.size_extract, strOfNums_size, List.length_cons, List.length_nil]; omega)) : Con0 Tryz.prog 254 [.agg [V tos, V id, V ttl, V pr, V src, V dst, VS body]] (.tup [Z (ipHR tos id ttl pr src dst body.size), B (ipOkB tos id ttl pr src dst body.size)]) [] := by
  refine con_i Tryz.func254 Tryz.ntmps254 (t := [(0, .agg [V tos, V id, V ttl, V pr, V src, V dst, VS body])]) rfl ?_
  refine vc_sr ?_
  iterate 3 refine vo ?_
  refine vnt ?_
  refine vc_seq' ?_
  refine vc_sr ?_
  refine vo ?_
  refine voc c_impl_IpOk rfl rfl ?_
  refine vo ?_
  refine vnt ?_
  refine vc_if (fun g1 => ?_) (fun g1 => ?_)
  · refine vc_sr ?_
    iterate 2 refine vo ?_
    refine vnt ?_
    refine vc_ret ?_
    refine thn_r ?_
    refine fin_i [] rfl (fz ?_) trivial
    first | (simp [ipHR, g1]; done) | (have hw := ipOk_w g1; simp [ipHR, g1, ipHF, ipH0, hw])
  · refine vc_skip ?_
    refine thn ?_
    refine vc_sr ?_
    iterate 5 refine vo ?_
    refine vs2 ?_
    iterate 4 refine vo ?_
    try refine vwr ?_
    refine voc c_impl_Word16 rfl rfl ?_
    refine vzs (word16_le _) fun z1 => ?_
    iterate 3 refine vo ?_
    refine voc c_impl_Word16 rfl rfl ?_
    refine vzs (word16_le _) fun z2 => ?_
    refine vo ?_
    refine voc c_impl_Word16 rfl rfl ?_
    refine vzs (word16_le _) fun z3 => ?_
    iterate 9 refine vo ?_
    refine vs2 ?_
    refine vo ?_
    refine voc c_impl_Word16 rfl rfl ?_
    refine vzs (word16_le _) fun z4 => ?_
    iterate 3 refine vo ?_
    refine voc c_impl_Word32 rfl rfl ?_
    refine vzs (word32_le _) fun z5 => ?_
    iterate 3 refine vo ?_
    refine voc c_impl_Word32 rfl rfl ?_
    refine vzs (word32_le _) fun z6 => ?_
    iterate 2 refine vo ?_
    refine vnt ?_
    refine vc_sr ?_
    iterate 2 refine vo ?_
    refine voc c_impl_Checksum rfl rfl ?_
    refine voc c_impl_Word16 rfl rfl ?_
    refine vzs (word16_le _) fun z7 => ?_
    refine voc c_impl_PutBytes rfl rfl ?_
    refine vzs (Nat.le_of_eq (putBF_le _ _ _)) fun z8 => ?_
    iterate 2 refine vo ?_
    refine vnt ?_
    refine vc_ret ?_
    refine fin_i [] rfl (fz ?_) trivial
    first | (simp [ipHR, g1]; done) | (have hw := ipOk_w g1; simp [ipHR, g1, ipHF, ipH0, hw])
set_option maxHeartbeats 4000000 in
theorem c_spec_PadBody {s : ByteArray} (hs_s : s.size ≤ 1099511627776 := by first | assumption | omega | (simp only [ByteArray.size_append, ByteArray.size_extract, strOfNums_size, List.length_cons, List.length_nil]; omega)) : Con0 Tryz.prog 220 [Z s] (Z (padF s)) [] := by
  refine con_i Tryz.func220 Tryz.ntmps220 (t := [(0, Z s)]) rfl ?_
  refine vc_sr ?_
  refine vo ?_
  refine vnt ?_
  refine vc_seq' ?_
  refine vc_sr ?_
  iterate 3 refine vo ?_
  refine vnt ?_
  refine vc_if (fun g1 => ?_) (fun g1 => ?_)
  · refine vc_sr ?_
    iterate 4 refine vo ?_
    try refine vwr ?_
    refine voc c_spec_l01Long rfl rfl ?_
    refine vzs (rep_le _ _) fun z1 => ?_
    iterate 2 refine vo ?_
    refine vnt ?_
    refine vc_ret ?_
    refine thn_r ?_
    refine fin_i [] rfl (fz ?_) trivial
    first | (rw [padF, if_neg (by omega)]; done) | (rw [padF, if_pos (by omega), show (46 - (s.size : Int)).toNat = 46 - s.size by omega])
  · refine vc_skip ?_
    refine thn ?_
    refine vc_sr ?_
    iterate 2 refine vo ?_
    refine vnt ?_
    refine vc_ret ?_
    refine fin_i [] rfl (fz ?_) trivial
    first | (rw [padF, if_neg (by omega)]; done) | (rw [padF, if_pos (by omega), show (46 - (s.size : Int)).toNat = 46 - s.size by omega])
set_option maxHeartbeats 4000000 in
theorem c_spec_EthOk {dst src vl ty : Int} {body : ByteArray} (hs_body : body.size ≤ 1099511627776 := by first | assumption | omega | (simp only [ByteArray.size_append, ByteArray.size_extract, strOfNums_size, List.length_cons, List.length_nil]; omega)) : Con0 Tryz.prog 243 [.agg [V dst, V src, V vl, V ty, VS body]] (B (ethOkB dst src vl ty body.size)) [] := by
  refine con_i Tryz.func243 Tryz.ntmps243 (t := [(0, .agg [V dst, V src, V vl, V ty, VS body])]) rfl ?_
  refine vc_sr ?_
  iterate 2 refine vo ?_
  refine vnt ?_
  refine vc_sr ?_
  iterate 2 refine vo ?_
  refine voc c_spec_l01In rfl rfl ?_
  refine vo ?_
  refine vsp (fun g1 => ?_) (fun g1 => ?_)
  · iterate 2 refine von ?_
    refine vocn c_spec_l01In rfl rfl ?_
    iterate 2 refine vo ?_
    refine vsp (fun g2 => ?_) (fun g2 => ?_)
    · iterate 2 refine von ?_
      refine vocn c_spec_l01In rfl rfl ?_
      iterate 2 refine vo ?_
      refine vsp (fun g3 => ?_) (fun g3 => ?_)
      · iterate 2 refine von ?_
        refine vocn c_spec_l01In rfl rfl ?_
        iterate 2 refine vo ?_
        refine vsp (fun g4 => ?_) (fun g4 => ?_)
        · iterate 3 refine von ?_
          iterate 2 refine vo ?_
          refine vsp (fun g5 => ?_) (fun g5 => ?_)
          · iterate 3 refine von ?_
            refine vocn c_spec_l01In rfl rfl ?_
            iterate 2 refine vo ?_
            refine vnt ?_
            refine vc_ret ?_
            refine fin_i [] rfl (fz ?_) trivial
            simp_all [ethOkB]
          · iterate 4 refine vof ?_
            iterate 2 refine vo ?_
            refine vnt ?_
            refine vc_ret ?_
            refine fin_i [] rfl (fz ?_) trivial
            simp_all [ethOkB]
        · iterate 3 refine vof ?_
          iterate 2 refine vo ?_
          iterate 4 refine vof ?_
          iterate 2 refine vo ?_
          refine vnt ?_
          refine vc_ret ?_
          refine fin_i [] rfl (fz ?_) trivial
          simp_all [ethOkB]
      · iterate 3 refine vof ?_
        iterate 2 refine vo ?_
        iterate 3 refine vof ?_
        iterate 2 refine vo ?_
        iterate 4 refine vof ?_
        iterate 2 refine vo ?_
        refine vnt ?_
        refine vc_ret ?_
        refine fin_i [] rfl (fz ?_) trivial
        simp_all [ethOkB]
    · iterate 3 refine vof ?_
      iterate 2 refine vo ?_
      iterate 3 refine vof ?_
      iterate 2 refine vo ?_
      iterate 3 refine vof ?_
      iterate 2 refine vo ?_
      iterate 4 refine vof ?_
      iterate 2 refine vo ?_
      refine vnt ?_
      refine vc_ret ?_
      refine fin_i [] rfl (fz ?_) trivial
      simp_all [ethOkB]
  · iterate 3 refine vof ?_
    iterate 2 refine vo ?_
    iterate 3 refine vof ?_
    iterate 2 refine vo ?_
    iterate 3 refine vof ?_
    iterate 2 refine vo ?_
    iterate 3 refine vof ?_
    iterate 2 refine vo ?_
    iterate 4 refine vof ?_
    iterate 2 refine vo ?_
    refine vnt ?_
    refine vc_ret ?_
    refine fin_i [] rfl (fz ?_) trivial
    simp_all [ethOkB]
set_option maxHeartbeats 4000000 in
theorem c_spec_BuildEth {dst src vl ty : Int} {body : ByteArray} (hs_body : body.size ≤ 1099511627776 := by first | assumption | omega | (simp only [ByteArray.size_append, ByteArray.size_extract, strOfNums_size, List.length_cons, List.length_nil]; omega)) : Con0 Tryz.prog 219 [.agg [V dst, V src, V vl, V ty, VS body]] (.tup [Z (ethR dst src vl ty body), B (ethOkB dst src vl ty body.size)]) [] := by
  refine con_i Tryz.func219 Tryz.ntmps219 (t := [(0, .agg [V dst, V src, V vl, V ty, VS body])]) rfl ?_
  refine vc_sr ?_
  iterate 3 refine vo ?_
  refine vnt ?_
  refine vc_seq' ?_
  refine vc_sr ?_
  refine vo ?_
  refine voc c_spec_EthOk rfl rfl ?_
  refine vo ?_
  refine vnt ?_
  refine vc_if (fun g1 => ?_) (fun g1 => ?_)
  · refine vc_sr ?_
    iterate 2 refine vo ?_
    refine vnt ?_
    refine vc_ret ?_
    refine thn_r ?_
    refine fin_i [] rfl (fz ?_) trivial
    first | (simp [ethR, g1]; done) | (simp [ethR, g1, ethF, g2, ByteArray.append_assoc]; done) | (simp [ethR, g1, ethF, ByteArray.append_assoc]; omega)
  · refine vc_skip ?_
    refine thn ?_
    refine vc_sr ?_
    iterate 2 refine vo ?_
    refine voc c_spec_l04Address rfl rfl ?_
    refine vzs (mac_le _) fun z1 => ?_
    iterate 2 refine vo ?_
    refine voc c_spec_l04Address rfl rfl ?_
    refine vzs (mac_le _) fun z2 => ?_
    iterate 2 refine vo ?_
    refine vnt ?_
    refine vc_seq' ?_
    refine vc_sr ?_
    iterate 3 refine vo ?_
    refine vnt ?_
    refine vc_if (fun g2 => ?_) (fun g2 => ?_)
    · refine vc_region ?_
      refine vo ?_
      refine voc c_spec_Word16 rfl rfl ?_
      refine vzs (word16_le _) fun z3 => ?_
      iterate 3 refine vo ?_
      refine voc c_spec_Word16 rfl rfl ?_
      refine vzs (word16_le _) fun z4 => ?_
      iterate 2 refine vo ?_
      refine vnt ?_
      refine vc_sr ?_
      iterate 3 refine vo ?_
      refine voc c_spec_Word16 rfl rfl ?_
      refine vzs (word16_le _) fun z5 => ?_
      iterate 6 refine vo ?_
      refine vnt ?_
      refine vc_ret ?_
      refine fin_i [] rfl (fz ?_) trivial
      first | (simp [ethR, g1]; done) | (simp [ethR, g1, ethF, g2, ByteArray.append_assoc]; done) | (simp [ethR, g1, ethF, ByteArray.append_assoc]; omega)
    · refine vc_skip ?_
      refine thn ?_
      refine vc_sr ?_
      iterate 3 refine vo ?_
      refine voc c_spec_Word16 rfl rfl ?_
      refine vzs (word16_le _) fun z6 => ?_
      iterate 6 refine vo ?_
      refine vnt ?_
      refine vc_ret ?_
      refine fin_i [] rfl (fz ?_) trivial
      first | (simp [ethR, g1]; done) | (simp [ethR, g1, ethF, g2, ByteArray.append_assoc]; done) | (simp [ethR, g1, ethF, ByteArray.append_assoc]; omega)
set_option maxHeartbeats 4000000 in
theorem c_spec_IpOk {tos id ttl pr src dst : Int} {body : ByteArray} (hs_body : body.size ≤ 1099511627776 := by first | assumption | omega | (simp only [ByteArray.size_append, ByteArray.size_extract, strOfNums_size, List.length_cons, List.length_nil]; omega)) : Con0 Tryz.prog 264 [.agg [V tos, V id, V ttl, V pr, V src, V dst, VS body]] (B (ipOkB tos id ttl pr src dst body.size)) [] := by
  refine con_i Tryz.func264 Tryz.ntmps264 (t := [(0, .agg [V tos, V id, V ttl, V pr, V src, V dst, VS body])]) rfl ?_
  refine vc_sr ?_
  iterate 2 refine vo ?_
  refine vnt ?_
  refine vc_sr ?_
  iterate 2 refine vo ?_
  refine voc c_spec_l01In rfl rfl ?_
  refine vo ?_
  refine vsp (fun g1 => ?_) (fun g1 => ?_)
  · iterate 2 refine von ?_
    refine vocn c_spec_l01In rfl rfl ?_
    iterate 2 refine vo ?_
    refine vsp (fun g2 => ?_) (fun g2 => ?_)
    · iterate 2 refine von ?_
      refine vocn c_spec_l01In rfl rfl ?_
      iterate 2 refine vo ?_
      refine vsp (fun g3 => ?_) (fun g3 => ?_)
      · iterate 2 refine von ?_
        refine vocn c_spec_l01In rfl rfl ?_
        iterate 2 refine vo ?_
        refine vsp (fun g4 => ?_) (fun g4 => ?_)
        · iterate 2 refine von ?_
          refine vocn c_spec_l01In rfl rfl ?_
          iterate 2 refine vo ?_
          refine vsp (fun g5 => ?_) (fun g5 => ?_)
          · iterate 2 refine von ?_
            refine vocn c_spec_l01In rfl rfl ?_
            iterate 2 refine vo ?_
            refine vsp (fun g6 => ?_) (fun g6 => ?_)
            · iterate 4 refine von ?_
              iterate 2 refine vo ?_
              refine vnt ?_
              refine vc_ret ?_
              refine fin_i [] rfl (fz ?_) trivial
              simp_all [ipOkB]
              try omega
            · iterate 4 refine vof ?_
              iterate 2 refine vo ?_
              refine vnt ?_
              refine vc_ret ?_
              refine fin_i [] rfl (fz ?_) trivial
              simp_all [ipOkB]
              try omega
          · iterate 3 refine vof ?_
            iterate 2 refine vo ?_
            iterate 4 refine vof ?_
            iterate 2 refine vo ?_
            refine vnt ?_
            refine vc_ret ?_
            refine fin_i [] rfl (fz ?_) trivial
            simp_all [ipOkB]
            try omega
        · iterate 3 refine vof ?_
          iterate 2 refine vo ?_
          iterate 3 refine vof ?_
          iterate 2 refine vo ?_
          iterate 4 refine vof ?_
          iterate 2 refine vo ?_
          refine vnt ?_
          refine vc_ret ?_
          refine fin_i [] rfl (fz ?_) trivial
          simp_all [ipOkB]
          try omega
      · iterate 3 refine vof ?_
        iterate 2 refine vo ?_
        iterate 3 refine vof ?_
        iterate 2 refine vo ?_
        iterate 3 refine vof ?_
        iterate 2 refine vo ?_
        iterate 4 refine vof ?_
        iterate 2 refine vo ?_
        refine vnt ?_
        refine vc_ret ?_
        refine fin_i [] rfl (fz ?_) trivial
        simp_all [ipOkB]
        try omega
    · iterate 3 refine vof ?_
      iterate 2 refine vo ?_
      iterate 3 refine vof ?_
      iterate 2 refine vo ?_
      iterate 3 refine vof ?_
      iterate 2 refine vo ?_
      iterate 3 refine vof ?_
      iterate 2 refine vo ?_
      iterate 4 refine vof ?_
      iterate 2 refine vo ?_
      refine vnt ?_
      refine vc_ret ?_
      refine fin_i [] rfl (fz ?_) trivial
      simp_all [ipOkB]
      try omega
  · iterate 3 refine vof ?_
    iterate 2 refine vo ?_
    iterate 3 refine vof ?_
    iterate 2 refine vo ?_
    iterate 3 refine vof ?_
    iterate 2 refine vo ?_
    iterate 3 refine vof ?_
    iterate 2 refine vo ?_
    iterate 3 refine vof ?_
    iterate 2 refine vo ?_
    iterate 4 refine vof ?_
    iterate 2 refine vo ?_
    refine vnt ?_
    refine vc_ret ?_
    refine fin_i [] rfl (fz ?_) trivial
    simp_all [ipOkB]
    try omega
set_option maxHeartbeats 4000000 in
theorem c_spec_IpHeader {tos id ttl pr src dst : Int} {body : ByteArray} (hs_body : body.size ≤ 1099511627776 := by first | assumption | omega | (simp only [ByteArray.size_append, ByteArray.size_extract, strOfNums_size, List.length_cons, List.length_nil]; omega)) : Con0 Tryz.prog 251 [.agg [V tos, V id, V ttl, V pr, V src, V dst, VS body]] (.tup [Z (ipHR tos id ttl pr src dst body.size), B (ipOkB tos id ttl pr src dst body.size)]) [] := by
  refine con_i Tryz.func251 Tryz.ntmps251 (t := [(0, .agg [V tos, V id, V ttl, V pr, V src, V dst, VS body])]) rfl ?_
  refine vc_sr ?_
  iterate 3 refine vo ?_
  refine vnt ?_
  refine vc_seq' ?_
  refine vc_sr ?_
  refine vo ?_
  refine voc c_spec_IpOk rfl rfl ?_
  refine vo ?_
  refine vnt ?_
  refine vc_if (fun g1 => ?_) (fun g1 => ?_)
  · refine vc_sr ?_
    iterate 2 refine vo ?_
    refine vnt ?_
    refine vc_ret ?_
    refine thn_r ?_
    refine fin_i [] rfl (fz ?_) trivial
    first | (simp [ipHR, g1]; done) | (have hw := ipOk_w g1; simp [ipHR, g1, ipHF, ipH0, hw])
  · refine vc_skip ?_
    refine thn ?_
    refine vc_sr ?_
    iterate 5 refine vo ?_
    refine vs2 ?_
    iterate 4 refine vo ?_
    try refine vwr ?_
    refine voc c_spec_Word16 rfl rfl ?_
    refine vzs (word16_le _) fun z1 => ?_
    iterate 3 refine vo ?_
    refine voc c_spec_Word16 rfl rfl ?_
    refine vzs (word16_le _) fun z2 => ?_
    refine vo ?_
    refine voc c_spec_Word16 rfl rfl ?_
    refine vzs (word16_le _) fun z3 => ?_
    iterate 9 refine vo ?_
    refine vs2 ?_
    refine vo ?_
    refine voc c_spec_Word16 rfl rfl ?_
    refine vzs (word16_le _) fun z4 => ?_
    iterate 3 refine vo ?_
    refine voc c_spec_Word32 rfl rfl ?_
    refine vzs (word32_le _) fun z5 => ?_
    iterate 3 refine vo ?_
    refine voc c_spec_Word32 rfl rfl ?_
    refine vzs (word32_le _) fun z6 => ?_
    iterate 2 refine vo ?_
    refine vnt ?_
    refine vc_sr ?_
    iterate 2 refine vo ?_
    refine voc c_spec_Checksum rfl rfl ?_
    refine voc c_spec_Word16 rfl rfl ?_
    refine vzs (word16_le _) fun z7 => ?_
    refine voc c_spec_PutBytes rfl rfl ?_
    refine vzs (Nat.le_of_eq (putBF_le _ _ _)) fun z8 => ?_
    iterate 2 refine vo ?_
    refine vnt ?_
    refine vc_ret ?_
    refine fin_i [] rfl (fz ?_) trivial
    first | (simp [ipHR, g1]; done) | (have hw := ipOk_w g1; simp [ipHR, g1, ipHF, ipH0, hw])
def bareF (kind sp dp seq ack fl win : Int) (body : ByteArray) : ByteArray := if kind = 6 then word16 sp ++ word16 dp ++ word32 seq ++ word32 ack ++ strOfNums [80, fl] ++ word16 win ++ word16 0 ++ word16 0 ++ body else word16 sp ++ word16 dp ++ word16 (8 + body.size) ++ word16 0 ++ body
theorem ipH_le (tos id ttl pr src dst : Int) (n : Nat) : (ipHF tos id ttl pr src dst n).size ≤ 24 := by
  have h1 := word16_le (20 + n); have h2 := word16_le id; have h3 := word16_le 16384; have h4 := word16_le 0; have h5 := word32_le src; have h6 := word32_le dst
  unfold ipHF
  rw [putBF_le, ipH0]
  simp only [ByteArray.size_append, strOfNums_size, List.length_cons, List.length_nil]
  omega
theorem bare_le (kind sp dp seq ack fl win : Int) (body : ByteArray) : (bareF kind sp dp seq ack fl win body).size ≤ body.size + 20 := by
  have h1 := word16_le sp; have h2 := word16_le dp; have h3 := word32_le seq; have h4 := word32_le ack; have h5 := word16_le win; have h6 := word16_le 0; have h7 := word16_le (8 + body.size)
  unfold bareF
  split <;> simp only [ByteArray.size_append, strOfNums_size, List.length_cons, List.length_nil] <;> omega
def sumPl (kind : Int) : Int := if kind = 6 then 16 else 6
def segF (src dst kind sp dp seq ack fl win : Int) (body : ByteArray) : ByteArray := putBF (bareF kind sp dp seq ack fl win body) (sumPl kind) (word16 (if kind = 17 ∧ checkF (psF src dst kind (bareF kind sp dp seq ack fl win body).size ++ bareF kind sp dp seq ack fl win body) = 0 then 65535 else checkF (psF src dst kind (bareF kind sp dp seq ack fl win body).size ++ bareF kind sp dp seq ack fl win body)))
set_option maxHeartbeats 4000000 in
theorem c_impl_BuildIp {tos id ttl pr src dst : Int} {body : ByteArray} (hs_body : body.size ≤ 1099511627776 := by first | assumption | omega | (simp only [ByteArray.size_append, ByteArray.size_extract, strOfNums_size, List.length_cons, List.length_nil]; omega)) : Con0 Tryz.prog 227 [.agg [V tos, V id, V ttl, V pr, V src, V dst, VS body]] (.tup [Z (ipR tos id ttl pr src dst body), B (ipOkB tos id ttl pr src dst body.size)]) [] := by
  refine con_i Tryz.func227 Tryz.ntmps227 (t := [(0, .agg [V tos, V id, V ttl, V pr, V src, V dst, VS body])]) rfl ?_
  refine vc_sr ?_
  iterate 3 refine vo ?_
  refine vnt ?_
  refine vc_sr ?_
  refine vo ?_
  refine voc c_impl_IpHeader rfl rfl ?_
  iterate 5 refine vo ?_
  refine vnt ?_
  refine vc_seq' ?_
  refine vc_sr ?_
  iterate 2 refine vo ?_
  refine vnt ?_
  refine vc_if (fun g1 => ?_) (fun g1 => ?_)
  · refine vc_sr ?_
    iterate 2 refine vo ?_
    refine vnt ?_
    refine vc_ret ?_
    refine thn_r ?_
    refine fin_i [] rfl (fz ?_) trivial
    simp [ipR, g1]
  · rw [ipHR_ok g1]
    have z := ipH_le tos id ttl pr src dst body.size
    refine vc_skip ?_
    refine thn ?_
    refine vc_sr ?_
    iterate 6 refine vo ?_
    refine vnt ?_
    refine vc_ret ?_
    refine fin_i [] rfl (fz ?_) trivial
    simp [ipR, g1]
set_option maxHeartbeats 4000000 in
theorem c_spec_BuildIp {tos id ttl pr src dst : Int} {body : ByteArray} (hs_body : body.size ≤ 1099511627776 := by first | assumption | omega | (simp only [ByteArray.size_append, ByteArray.size_extract, strOfNums_size, List.length_cons, List.length_nil]; omega)) : Con0 Tryz.prog 218 [.agg [V tos, V id, V ttl, V pr, V src, V dst, VS body]] (.tup [Z (ipR tos id ttl pr src dst body), B (ipOkB tos id ttl pr src dst body.size)]) [] := by
  refine con_i Tryz.func218 Tryz.ntmps218 (t := [(0, .agg [V tos, V id, V ttl, V pr, V src, V dst, VS body])]) rfl ?_
  refine vc_sr ?_
  iterate 3 refine vo ?_
  refine vnt ?_
  refine vc_sr ?_
  refine vo ?_
  refine voc c_spec_IpHeader rfl rfl ?_
  iterate 5 refine vo ?_
  refine vnt ?_
  refine vc_seq' ?_
  refine vc_sr ?_
  iterate 2 refine vo ?_
  refine vnt ?_
  refine vc_if (fun g1 => ?_) (fun g1 => ?_)
  · refine vc_sr ?_
    iterate 2 refine vo ?_
    refine vnt ?_
    refine vc_ret ?_
    refine thn_r ?_
    refine fin_i [] rfl (fz ?_) trivial
    simp [ipR, g1]
  · rw [ipHR_ok g1]
    have z := ipH_le tos id ttl pr src dst body.size
    refine vc_skip ?_
    refine thn ?_
    refine vc_sr ?_
    iterate 6 refine vo ?_
    refine vnt ?_
    refine vc_ret ?_
    refine fin_i [] rfl (fz ?_) trivial
    simp [ipR, g1]
set_option maxHeartbeats 4000000 in
theorem c_impl_sumPlace {kind : Int} : Con0 Tryz.prog 182 [I kind] (I (sumPl kind)) [] := by
  refine con_i Tryz.func182 Tryz.ntmps182 (t := [(0, I kind)]) rfl ?_
  refine vc_sr ?_
  refine vo ?_
  refine vnt ?_
  refine vc_seq' ?_
  refine vc_sr ?_
  iterate 2 refine vo ?_
  refine vnt ?_
  refine vc_if (fun g1 => ?_) (fun g1 => ?_)
  · refine vc_sr ?_
    refine vo ?_
    refine vnt ?_
    refine vc_ret ?_
    refine thn_r ?_
    refine fin_i [] rfl (fz ?_) trivial
    simp [sumPl, g1]
  · refine vc_skip ?_
    refine thn ?_
    refine vc_sr ?_
    refine vo ?_
    refine vnt ?_
    refine vc_ret ?_
    refine fin_i [] rfl (fz ?_) trivial
    simp [sumPl, g1]
set_option maxHeartbeats 4000000 in
theorem c_impl_bareSegment {kind sp dp seq ack fl win : Int} {body : ByteArray} (hs_body : body.size ≤ 1099511627776 := by first | assumption | omega | (simp only [ByteArray.size_append, ByteArray.size_extract, strOfNums_size, List.length_cons, List.length_nil]; omega)) (hf : kind = 6 → 0 ≤ fl ∧ fl ≤ 255 := by assumption) : Con0 Tryz.prog 253 [.agg [V kind, V sp, V dp, V seq, V ack, V fl, V win, VS body]] (Z (bareF kind sp dp seq ack fl win body)) [] := by
  refine con_i Tryz.func253 Tryz.ntmps253 (t := [(0, .agg [V kind, V sp, V dp, V seq, V ack, V fl, V win, VS body])]) rfl ?_
  refine vc_sr ?_
  iterate 2 refine vo ?_
  refine vnt ?_
  refine vc_sr ?_
  iterate 2 refine vo ?_
  refine voc c_impl_Word16 rfl rfl ?_
  refine vzs (word16_le _) fun z1 => ?_
  iterate 2 refine vo ?_
  refine voc c_impl_Word16 rfl rfl ?_
  refine vzs (word16_le _) fun z2 => ?_
  iterate 2 refine vo ?_
  refine vnt ?_
  refine vc_seq' ?_
  refine vc_sr ?_
  iterate 3 refine vo ?_
  refine vnt ?_
  refine vc_if (fun g1 => ?_) (fun g1 => ?_)
  · refine vc_sr ?_
    iterate 3 refine vo ?_
    refine voc c_impl_Word32 rfl rfl ?_
    refine vzs (word32_le _) fun z3 => ?_
    iterate 3 refine vo ?_
    refine voc c_impl_Word32 rfl rfl ?_
    refine vzs (word32_le _) fun z4 => ?_
    iterate 6 refine vo ?_
    refine vs2 ?_
    iterate 3 refine vo ?_
    refine voc c_impl_Word16 rfl rfl ?_
    refine vzs (word16_le _) fun z5 => ?_
    refine vo ?_
    refine voc c_impl_Word16 rfl rfl ?_
    refine vzs (word16_le _) fun z6 => ?_
    refine vo ?_
    refine voc c_impl_Word16 rfl rfl ?_
    refine vzs (word16_le _) fun z7 => ?_
    iterate 5 refine vo ?_
    refine vnt ?_
    refine vc_ret ?_
    refine thn_r ?_
    refine fin_i [] rfl (fz ?_) trivial
    first | (have := hf g1; have hw := u8w this.1 this.2; simp [bareF, g1, hw]; done) | (simp [bareF, g1]; done) | trace_state
  · refine vc_skip ?_
    refine thn ?_
    refine vc_sr ?_
    iterate 5 refine vo ?_
    try refine vwr ?_
    refine voc c_impl_Word16 rfl rfl ?_
    refine vzs (word16_le _) fun z8 => ?_
    refine vo ?_
    refine voc c_impl_Word16 rfl rfl ?_
    refine vzs (word16_le _) fun z9 => ?_
    iterate 5 refine vo ?_
    refine vnt ?_
    refine vc_ret ?_
    refine fin_i [] rfl (fz ?_) trivial
    first | (have := hf g1; have hw := u8w this.1 this.2; simp [bareF, g1, hw]; done) | (simp [bareF, g1]; done) | trace_state
theorem segOk_kind {kind sp dp seq ack fl win : Int} {n : Nat} (h : segOkB kind sp dp seq ack fl win n = true) : (kind = 6 ∨ kind = 17) ∧ n ≤ 320 ∧ 0 ≤ fl ∧ fl ≤ 31 := by
  have := segOk_fl h
  simp only [segOkB, Bool.and_eq_true, Bool.or_eq_true, inB_iff, beq_iff_eq] at h
  simp at h
  omega
def segC (src dst kind sp dp seq ack fl win : Int) (body : ByteArray) : Bool := segOkB kind sp dp seq ack fl win body.size && psOkB src dst kind (bareF kind sp dp seq ack fl win body).size
def segR (src dst kind sp dp seq ack fl win : Int) (body : ByteArray) : ByteArray := if segC src dst kind sp dp seq ack fl win body then segF src dst kind sp dp seq ack fl win body else ⟨#[]⟩
theorem seg_n1 {src dst kind sp dp seq ack fl win : Int} {body : ByteArray} (h : segOkB kind sp dp seq ack fl win body.size = false) : segR src dst kind sp dp seq ack fl win body = ⟨#[]⟩ ∧ segC src dst kind sp dp seq ack fl win body = false := by
  have : segC src dst kind sp dp seq ack fl win body = false := by unfold segC; rw [h]; rfl
  exact ⟨if_neg (by rw [this]; exact Bool.false_ne_true), this⟩
theorem seg_n2 {src dst kind sp dp seq ack fl win : Int} {body : ByteArray} (h : psOkB src dst kind (bareF kind sp dp seq ack fl win body).size = false) : segR src dst kind sp dp seq ack fl win body = ⟨#[]⟩ ∧ segC src dst kind sp dp seq ack fl win body = false := by
  have : segC src dst kind sp dp seq ack fl win body = false := by unfold segC; rw [h, Bool.and_false]
  exact ⟨if_neg (by rw [this]; exact Bool.false_ne_true), this⟩
theorem seg_y0 {src dst kind sp dp seq ack fl win p : Int} {body : ByteArray} (h1 : segOkB kind sp dp seq ack fl win body.size = true) (h2 : psOkB src dst kind (bareF kind sp dp seq ack fl win body).size = true) (hp : sumPl kind = p) (h3 : kind = 17) (h4 : checkF (psF src dst kind (bareF kind sp dp seq ack fl win body).size ++ bareF kind sp dp seq ack fl win body) = 0) : segR src dst kind sp dp seq ack fl win body = putBF (bareF kind sp dp seq ack fl win body) p (word16 65535) ∧ segC src dst kind sp dp seq ack fl win body = true := by
  have : segC src dst kind sp dp seq ack fl win body = true := by unfold segC; rw [h1, h2]; rfl
  refine ⟨?_, this⟩
  unfold segR
  rw [if_pos this, segF, if_pos ⟨h3, h4⟩, hp]
theorem seg_y1 {src dst kind sp dp seq ack fl win p : Int} {body : ByteArray} (h1 : segOkB kind sp dp seq ack fl win body.size = true) (h2 : psOkB src dst kind (bareF kind sp dp seq ack fl win body).size = true) (hp : sumPl kind = p) (h3 : ¬ (kind = 17 ∧ checkF (psF src dst kind (bareF kind sp dp seq ack fl win body).size ++ bareF kind sp dp seq ack fl win body) = 0)) : segR src dst kind sp dp seq ack fl win body = putBF (bareF kind sp dp seq ack fl win body) p (word16 (checkF (psF src dst kind (bareF kind sp dp seq ack fl win body).size ++ bareF kind sp dp seq ack fl win body))) ∧ segC src dst kind sp dp seq ack fl win body = true := by
  have : segC src dst kind sp dp seq ack fl win body = true := by unfold segC; rw [h1, h2]; rfl
  refine ⟨?_, this⟩
  unfold segR
  rw [if_pos this, segF, if_neg h3, hp]
theorem bare_a {kind sp dp seq ack fl win : Int} {body : ByteArray} (h : kind = 6) (hf : 0 ≤ fl ∧ fl ≤ 255) : word16 sp ++ word16 dp ++ word32 seq ++ word32 ack ++ strOfNums [80, IntKind.u8.wrap fl] ++ word16 win ++ word32 0 ++ body = bareF kind sp dp seq ack fl win body := by
  have e : word32 0 = word16 0 ++ word16 0 := by decide
  rw [bareF, if_pos h, u8w hf.1 hf.2, e]
  simp only [ByteArray.append_assoc]
theorem bare_b {kind sp dp seq ack fl win : Int} {body : ByteArray} (h : ¬ kind = 6) : word16 sp ++ word16 dp ++ word16 (8 + body.size) ++ word16 0 ++ body = bareF kind sp dp seq ack fl win body := by rw [bareF, if_neg h]
set_option maxHeartbeats 4000000 in
theorem c_impl_BuildSegment {src dst : Int} {kind sp dp seq ack fl win : Int} {body : ByteArray} (hs_body : body.size ≤ 1099511627776 := by first | assumption | omega | (simp only [ByteArray.size_append, ByteArray.size_extract, strOfNums_size, List.length_cons, List.length_nil]; omega)) : Con0 Tryz.prog 226 [I src, I dst, .agg [V kind, V sp, V dp, V seq, V ack, V fl, V win, VS body]] (.tup [Z (segR src dst kind sp dp seq ack fl win body), B (segC src dst kind sp dp seq ack fl win body)]) [] := by
  refine con_i Tryz.func226 Tryz.ntmps226 (t := [(0, I src), (1, I dst), (2, .agg [V kind, V sp, V dp, V seq, V ack, V fl, V win, VS body])]) rfl ?_
  refine vc_sr ?_
  iterate 3 refine vo ?_
  refine vnt ?_
  refine vc_seq' ?_
  refine vc_sr ?_
  refine vo ?_
  refine voc c_impl_SegmentOk rfl rfl ?_
  refine vo ?_
  refine vnt ?_
  refine vc_if (fun g1 => ?_) (fun g1 => ?_)
  · refine vc_sr ?_
    iterate 2 refine vo ?_
    refine vnt ?_
    refine vc_ret ?_
    refine thn_r ?_
    refine fin_i [] rfl (fz ?_) trivial
    exact seg_n1 g1
  · have hk := segOk_kind g1
    have hf : kind = 6 → 0 ≤ fl ∧ fl ≤ 255 := fun _ => ⟨hk.2.2.1, by omega⟩
    have zb := bare_le kind sp dp seq ack fl win body
    refine vc_skip ?_
    refine thn ?_
    refine vc_sr ?_
    refine vo ?_
    refine voc c_impl_bareSegment rfl rfl ?_
    refine vo ?_
    refine vnt ?_
    refine vc_sr ?_
    iterate 6 refine vo ?_
    refine voc c_impl_PseudoHeader rfl rfl ?_
    iterate 5 refine vo ?_
    refine vnt ?_
    refine vc_seq' ?_
    refine vc_sr ?_
    iterate 2 refine vo ?_
    refine vnt ?_
    refine vc_if (fun g2 => ?_) (fun g2 => ?_)
    · refine vc_sr ?_
      iterate 2 refine vo ?_
      refine vnt ?_
      refine vc_ret ?_
      refine thn_r ?_
      refine fin_i [] rfl (fz ?_) trivial
      exact seg_n2 g2
    · rw [psR_ok g2]
      have zp := psF_le src dst kind (bareF kind sp dp seq ack fl win body).size
      have hc := sumF_bd (psF src dst kind (bareF kind sp dp seq ack fl win body).size ++ bareF kind sp dp seq ack fl win body)
      refine vc_skip ?_
      refine thn ?_
      refine vc_sr ?_
      iterate 3 refine vo ?_
      refine voc c_impl_Checksum rfl rfl ?_
      refine vo ?_
      refine vnt ?_
      refine vc_seq' ?_
      refine vc_sr ?_
      iterate 4 refine vo ?_
      refine vsp (fun g3 => ?_) (fun g3 => ?_)
      · iterate 2 refine von ?_
        refine vo ?_
        refine vnt ?_
        refine vc_if (fun g4 => ?_) (fun g4 => ?_)
        · refine vc_region ?_
          refine vo ?_
          refine vnt ?_
          refine vc_sr ?_
          iterate 3 refine vo ?_
          refine voc c_impl_sumPlace rfl rfl ?_
          refine vo ?_
          refine voc c_impl_Word16 rfl rfl ?_
          refine vzs (word16_le _) fun z1 => ?_
          refine voc c_impl_PutBytes rfl rfl ?_
          refine vzs (Nat.le_of_eq (putBF_le _ _ _)) fun z2 => ?_
          iterate 2 refine vo ?_
          refine vnt ?_
          refine vc_ret ?_
          refine fin_i [] rfl (fz ?_) trivial
          exact seg_y0 g1 g2 rfl g3 g4
        · refine vc_skip ?_
          refine thn ?_
          refine vc_sr ?_
          iterate 3 refine vo ?_
          refine voc c_impl_sumPlace rfl rfl ?_
          refine vo ?_
          refine voc c_impl_Word16 rfl rfl ?_
          refine vzs (word16_le _) fun z3 => ?_
          refine voc c_impl_PutBytes rfl rfl ?_
          refine vzs (Nat.le_of_eq (putBF_le _ _ _)) fun z4 => ?_
          iterate 2 refine vo ?_
          refine vnt ?_
          refine vc_ret ?_
          refine fin_i [] rfl (fz ?_) trivial
          exact seg_y1 g1 g2 rfl fun h => g4 h.2
      · iterate 2 refine vof ?_
        refine vo ?_
        refine vnt ?_
        refine vc_else ?_
        refine vc_skip ?_
        refine thn ?_
        refine vc_sr ?_
        iterate 3 refine vo ?_
        refine voc c_impl_sumPlace rfl rfl ?_
        refine vo ?_
        refine voc c_impl_Word16 rfl rfl ?_
        refine vzs (word16_le _) fun z5 => ?_
        refine voc c_impl_PutBytes rfl rfl ?_
        refine vzs (Nat.le_of_eq (putBF_le _ _ _)) fun z6 => ?_
        iterate 2 refine vo ?_
        refine vnt ?_
        refine vc_ret ?_
        refine fin_i [] rfl (fz ?_) trivial
        exact seg_y1 g1 g2 rfl fun h => g3 h.1
set_option maxHeartbeats 4000000 in
theorem c_spec_BuildSegment {src dst : Int} {kind sp dp seq ack fl win : Int} {body : ByteArray} (hs_body : body.size ≤ 1099511627776 := by first | assumption | omega | (simp only [ByteArray.size_append, ByteArray.size_extract, strOfNums_size, List.length_cons, List.length_nil]; omega)) : Con0 Tryz.prog 217 [I src, I dst, .agg [V kind, V sp, V dp, V seq, V ack, V fl, V win, VS body]] (.tup [Z (segR src dst kind sp dp seq ack fl win body), B (segC src dst kind sp dp seq ack fl win body)]) [] := by
  refine con_i Tryz.func217 Tryz.ntmps217 (t := [(0, I src), (1, I dst), (2, .agg [V kind, V sp, V dp, V seq, V ack, V fl, V win, VS body])]) rfl ?_
  refine vc_sr ?_
  iterate 3 refine vo ?_
  refine vnt ?_
  refine vc_seq' ?_
  refine vc_sr ?_
  refine vo ?_
  refine voc c_spec_SegmentOk rfl rfl ?_
  refine vo ?_
  refine vnt ?_
  refine vc_if (fun g1 => ?_) (fun g1 => ?_)
  · refine vc_sr ?_
    iterate 2 refine vo ?_
    refine vnt ?_
    refine vc_ret ?_
    refine thn_r ?_
    refine fin_i [] rfl (fz ?_) trivial
    exact seg_n1 g1
  · have hk := segOk_kind g1
    have hf : kind = 6 → 0 ≤ fl ∧ fl ≤ 255 := fun _ => ⟨hk.2.2.1, by omega⟩
    have zb := bare_le kind sp dp seq ack fl win body
    refine vc_skip ?_
    refine thn ?_
    refine vc_sr ?_
    iterate 2 refine vo ?_
    refine voc c_spec_Word16 rfl rfl ?_
    refine vzs (word16_le _) fun z1 => ?_
    iterate 2 refine vo ?_
    refine voc c_spec_Word16 rfl rfl ?_
    refine vzs (word16_le _) fun z2 => ?_
    iterate 2 refine vo ?_
    refine vnt ?_
    refine vc_sr ?_
    refine vo ?_
    refine vnt ?_
    refine vc_seq' ?_
    refine vc_sr ?_
    iterate 3 refine vo ?_
    refine vnt ?_
    refine vc_if (fun g2 => ?_) (fun g2 => ?_)
    · refine vc_sr ?_
      iterate 3 refine vo ?_
      refine voc c_spec_Word32 rfl rfl ?_
      refine vzs (word32_le _) fun z3 => ?_
      iterate 3 refine vo ?_
      refine voc c_spec_Word32 rfl rfl ?_
      refine vzs (word32_le _) fun z4 => ?_
      iterate 6 refine vo ?_
      refine vs2 ?_
      iterate 3 refine vo ?_
      refine voc c_spec_Word16 rfl rfl ?_
      refine vzs (word16_le _) fun z5 => ?_
      refine vo ?_
      refine voc c_spec_Word32 rfl rfl ?_
      refine vzs (word32_le _) fun z6 => ?_
      iterate 2 refine vo ?_
      refine vnt ?_
      refine vc_region ?_
      refine vo ?_
      refine vnt ?_
      refine vc_sr ?_
      iterate 4 refine vo ?_
      refine vstr (bare_a (seq := seq) (ack := ack) (win := win) g2 (hf g2)) ?_
      refine vo ?_
      refine vnt ?_
      refine vc_sr ?_
      iterate 6 refine vo ?_
      refine voc c_spec_PseudoHeader rfl rfl ?_
      iterate 5 refine vo ?_
      refine vnt ?_
      refine vc_seq' ?_
      refine vc_sr ?_
      iterate 2 refine vo ?_
      refine vnt ?_
      refine vc_if (fun g3 => ?_) (fun g3 => ?_)
      · refine vc_sr ?_
        iterate 2 refine vo ?_
        refine vnt ?_
        refine vc_ret ?_
        refine thn_r ?_
        refine fin_i [] rfl (fz ?_) trivial
        exact seg_n2 g3
      · rw [psR_ok g3]
        have zp := psF_le src dst kind (bareF kind sp dp seq ack fl win body).size
        have hc := sumF_bd (psF src dst kind (bareF kind sp dp seq ack fl win body).size ++ bareF kind sp dp seq ack fl win body)
        refine vc_skip ?_
        refine thn ?_
        refine vc_sr ?_
        iterate 3 refine vo ?_
        refine voc c_spec_Checksum rfl rfl ?_
        refine vo ?_
        refine vnt ?_
        refine vc_seq' ?_
        refine vc_sr ?_
        iterate 3 refine vo ?_
        refine vsp (fun g4 => ?_) (fun g4 => ?_)
        · iterate 3 refine von ?_
          refine vo ?_
          refine vnt ?_
          refine vc_if (fun g5 => ?_) (fun g5 => ?_)
          · refine vc_region ?_
            refine vo ?_
            refine vnt ?_
            refine vc_sr ?_
            iterate 3 refine vo ?_
            refine voc c_spec_Word16 rfl rfl ?_
            refine vzs (word16_le _) fun z7 => ?_
            refine voc c_spec_PutBytes rfl rfl ?_
            refine vzs (Nat.le_of_eq (putBF_le _ _ _)) fun z8 => ?_
            iterate 2 refine vo ?_
            refine vnt ?_
            refine vc_ret ?_
            refine fin_i [] rfl (fz ?_) trivial
            exact seg_y0 g1 g3 (if_pos g2) g5 g4
          · refine vc_skip ?_
            refine thn ?_
            refine vc_sr ?_
            iterate 3 refine vo ?_
            refine voc c_spec_Word16 rfl rfl ?_
            refine vzs (word16_le _) fun z9 => ?_
            refine voc c_spec_PutBytes rfl rfl ?_
            refine vzs (Nat.le_of_eq (putBF_le _ _ _)) fun z10 => ?_
            iterate 2 refine vo ?_
            refine vnt ?_
            refine vc_ret ?_
            refine fin_i [] rfl (fz ?_) trivial
            exact seg_y1 g1 g3 (if_pos g2) fun h => g5 h.1
        · iterate 3 refine vof ?_
          refine vo ?_
          refine vnt ?_
          refine vc_else ?_
          refine vc_skip ?_
          refine thn ?_
          refine vc_sr ?_
          iterate 3 refine vo ?_
          refine voc c_spec_Word16 rfl rfl ?_
          refine vzs (word16_le _) fun z11 => ?_
          refine voc c_spec_PutBytes rfl rfl ?_
          refine vzs (Nat.le_of_eq (putBF_le _ _ _)) fun z12 => ?_
          iterate 2 refine vo ?_
          refine vnt ?_
          refine vc_ret ?_
          refine fin_i [] rfl (fz ?_) trivial
          exact seg_y1 g1 g3 (if_pos g2) fun h => g4 h.2
    · refine vc_region ?_
      iterate 5 refine vo ?_
      try refine vwr ?_
      refine voc c_spec_Word16 rfl rfl ?_
      refine vzs (word16_le _) fun z13 => ?_
      refine vo ?_
      refine voc c_spec_Word16 rfl rfl ?_
      refine vzs (word16_le _) fun z14 => ?_
      iterate 2 refine vo ?_
      refine vnt ?_
      refine vc_sr ?_
      iterate 4 refine vo ?_
      refine vstr (bare_b (seq := seq) (ack := ack) (fl := fl) (win := win) g2) ?_
      refine vo ?_
      refine vnt ?_
      refine vc_sr ?_
      iterate 6 refine vo ?_
      refine voc c_spec_PseudoHeader rfl rfl ?_
      iterate 5 refine vo ?_
      refine vnt ?_
      refine vc_seq' ?_
      refine vc_sr ?_
      iterate 2 refine vo ?_
      refine vnt ?_
      refine vc_if (fun g6 => ?_) (fun g6 => ?_)
      · refine vc_sr ?_
        iterate 2 refine vo ?_
        refine vnt ?_
        refine vc_ret ?_
        refine thn_r ?_
        refine fin_i [] rfl (fz ?_) trivial
        exact seg_n2 g6
      · rw [psR_ok g6]
        have zp := psF_le src dst kind (bareF kind sp dp seq ack fl win body).size
        have hc := sumF_bd (psF src dst kind (bareF kind sp dp seq ack fl win body).size ++ bareF kind sp dp seq ack fl win body)
        refine vc_skip ?_
        refine thn ?_
        refine vc_sr ?_
        iterate 3 refine vo ?_
        refine voc c_spec_Checksum rfl rfl ?_
        refine vo ?_
        refine vnt ?_
        refine vc_seq' ?_
        refine vc_sr ?_
        iterate 3 refine vo ?_
        refine vsp (fun g7 => ?_) (fun g7 => ?_)
        · iterate 3 refine von ?_
          refine vo ?_
          refine vnt ?_
          refine vc_if (fun g8 => ?_) (fun g8 => ?_)
          · refine vc_region ?_
            refine vo ?_
            refine vnt ?_
            refine vc_sr ?_
            iterate 3 refine vo ?_
            refine voc c_spec_Word16 rfl rfl ?_
            refine vzs (word16_le _) fun z15 => ?_
            refine voc c_spec_PutBytes rfl rfl ?_
            refine vzs (Nat.le_of_eq (putBF_le _ _ _)) fun z16 => ?_
            iterate 2 refine vo ?_
            refine vnt ?_
            refine vc_ret ?_
            refine fin_i [] rfl (fz ?_) trivial
            exact seg_y0 g1 g6 (if_neg g2) g8 g7
          · refine vc_skip ?_
            refine thn ?_
            refine vc_sr ?_
            iterate 3 refine vo ?_
            refine voc c_spec_Word16 rfl rfl ?_
            refine vzs (word16_le _) fun z17 => ?_
            refine voc c_spec_PutBytes rfl rfl ?_
            refine vzs (Nat.le_of_eq (putBF_le _ _ _)) fun z18 => ?_
            iterate 2 refine vo ?_
            refine vnt ?_
            refine vc_ret ?_
            refine fin_i [] rfl (fz ?_) trivial
            exact seg_y1 g1 g6 (if_neg g2) fun h => g8 h.1
        · iterate 3 refine vof ?_
          refine vo ?_
          refine vnt ?_
          refine vc_else ?_
          refine vc_skip ?_
          refine thn ?_
          refine vc_sr ?_
          iterate 3 refine vo ?_
          refine voc c_spec_Word16 rfl rfl ?_
          refine vzs (word16_le _) fun z19 => ?_
          refine voc c_spec_PutBytes rfl rfl ?_
          refine vzs (Nat.le_of_eq (putBF_le _ _ _)) fun z20 => ?_
          iterate 2 refine vo ?_
          refine vnt ?_
          refine vc_ret ?_
          refine fin_i [] rfl (fz ?_) trivial
          exact seg_y1 g1 g6 (if_neg g2) fun h => g7 h.2
end Go.Proofs.YtbdcaacpemkloaaGreat
end
section
namespace Go.Proofs.YtbdcaacpemkloaaGreat
open Go Go.RowKit Go.Vc
set_option linter.unusedVariables false
set_option linter.unusedSimpArgs false
set_option linter.unnecessarySimpa false
def supC (dm sm vl tos id ttl si di kind sp dp seq ack fl win : Int) (body : ByteArray) : Bool := superOkB dm sm vl tos id ttl si di kind sp dp seq ack fl win body.size && ethOkB dm sm vl 2048 (padF (ipR tos id ttl kind si di (segR si di kind sp dp seq ack fl win body))).size
def imgR (dm sm vl tos id ttl si di kind sp dp seq ack fl win : Int) (body : ByteArray) : ByteArray := if superOkB dm sm vl tos id ttl si di kind sp dp seq ack fl win body.size then ethR dm sm vl 2048 (padF (ipR tos id ttl kind si di (segR si di kind sp dp seq ack fl win body))) else ⟨#[]⟩
theorem segR_le (src dst kind sp dp seq ack fl win : Int) (body : ByteArray) : (segR src dst kind sp dp seq ack fl win body).size ≤ body.size + 20 := by
  unfold segR
  split
  · unfold segF; rw [putBF_le]; exact bare_le ..
  · exact Nat.zero_le _
theorem ipR_le (tos id ttl pr src dst : Int) (body : ByteArray) : (ipR tos id ttl pr src dst body).size ≤ body.size + 24 := by
  have := ipH_le tos id ttl pr src dst body.size
  unfold ipR
  split
  · simp only [ByteArray.size_append]; omega
  · exact Nat.zero_le _
theorem padF_le (s : ByteArray) : (padF s).size = max 46 s.size := by
  have := rep_le 0 (46 - s.size)
  unfold padF
  split
  · simp only [ByteArray.size_append, repF, strOfNums_size, List.length_replicate]; omega
  · omega
theorem superOk_facts {dm sm vl tos id ttl si di kind sp dp seq ack fl win : Int} {n : Nat} (h : superOkB dm sm vl tos id ttl si di kind sp dp seq ack fl win n = true) : inB dm 0 281474976710655 = true ∧ inB sm 0 281474976710655 = true ∧ inB vl (-1) 4095 = true ∧ inB tos 0 255 = true ∧ inB ttl 0 255 = true ∧ inB id 0 65535 = true ∧ inB si 0 4294967295 = true ∧ inB di 0 4294967295 = true ∧ segOkB kind sp dp seq ack fl win n = true ∧ n ≤ 320 := by
  simp only [superOkB, Bool.and_eq_true] at h
  obtain ⟨h1, h2, h3, h4, h5, h6, h7, h8, h9, h10⟩ := h
  exact ⟨h1, h2, h3, h4, h5, h6, h7, h8, h9, (segOk_kind h9).2.1⟩
theorem sup_img {dm sm vl tos id ttl si di kind sp dp seq ack fl win : Int} {body : ByteArray} (h : superOkB dm sm vl tos id ttl si di kind sp dp seq ack fl win body.size = true) : supC dm sm vl tos id ttl si di kind sp dp seq ack fl win body = true ∧ (imgR dm sm vl tos id ttl si di kind sp dp seq ack fl win body).size ≤ 1000 := by
  obtain ⟨h1, h2, h3, h4, h5, h6, h7, h8, h9, h10⟩ := superOk_facts h
  have a1 := segR_le si di kind sp dp seq ack fl win body
  have a2 := ipR_le tos id ttl kind si di (segR si di kind sp dp seq ack fl win body)
  have a3 := padF_le (ipR tos id ttl kind si di (segR si di kind sp dp seq ack fl win body))
  have e : ethOkB dm sm vl 2048 (padF (ipR tos id ttl kind si di (segR si di kind sp dp seq ack fl win body))).size = true := by
    unfold ethOkB
    rw [h1, h2, h3]
    have : inB ((padF (ipR tos id ttl kind si di (segR si di kind sp dp seq ack fl win body))).size : Int) 46 400 = true := inB_iff.2 (by omega)
    rw [this]; rfl
  refine ⟨by unfold supC; rw [h, e]; rfl, ?_⟩
  unfold imgR
  rw [if_pos h, ethR, if_pos e, ethF]
  have b1 := mac_le dm; have b2 := mac_le sm; have b3 := word16_le 33024; have b4 := word16_le vl; have b5 := word16_le 2048
  split <;> simp only [ByteArray.size_append] <;> omega
set_option maxHeartbeats 4000000 in
theorem c_impl_BuildImage {dm sm vl tos id ttl si di kind sp dp seq ack fl win : Int} {body : ByteArray} : Con0 Tryz.prog 166 [.agg [V dm, V sm, V vl, V tos, V id, V ttl, V si, V di, V kind, V sp, V dp, V seq, V ack, V fl, V win, VS body]] (.tup [Z (imgR dm sm vl tos id ttl si di kind sp dp seq ack fl win body), B (supC dm sm vl tos id ttl si di kind sp dp seq ack fl win body)]) [] := by
  refine con_i Tryz.func166 Tryz.ntmps166 (t := [(0, .agg [V dm, V sm, V vl, V tos, V id, V ttl, V si, V di, V kind, V sp, V dp, V seq, V ack, V fl, V win, VS body])]) rfl ?_
  refine vc_sr ?_
  iterate 3 refine vo ?_
  refine vnt ?_
  refine vc_seq' ?_
  refine vc_sr ?_
  refine vo ?_
  refine voc c_impl_SuperOk rfl rfl ?_
  refine vo ?_
  refine vnt ?_
  refine vc_if (fun g1 => ?_) (fun g1 => ?_)
  · refine vc_sr ?_
    iterate 2 refine vo ?_
    refine vnt ?_
    refine vc_ret ?_
    refine thn_r ?_
    refine fin_i [] rfl (fz ?_) trivial
    simp [imgR, supC, g1]
  · have hb := (superOk_facts g1).2.2.2.2.2.2.2.2.2
    have a1 := segR_le si di kind sp dp seq ack fl win body
    have a2 := ipR_le tos id ttl kind si di (segR si di kind sp dp seq ack fl win body)
    have a3 := padF_le (ipR tos id ttl kind si di (segR si di kind sp dp seq ack fl win body))
    refine vc_skip ?_
    refine thn ?_
    refine vc_sr ?_
    iterate 6 refine vo ?_
    refine voc c_impl_BuildSegment rfl rfl ?_
    iterate 5 refine vo ?_
    refine vnt ?_
    refine vc_sr ?_
    iterate 15 refine vo ?_
    refine voc c_impl_BuildIp rfl rfl ?_
    iterate 5 refine vo ?_
    refine vnt ?_
    refine vc_sr ?_
    iterate 7 refine vo ?_
    refine voc c_impl_PadBody rfl rfl ?_
    refine vo ?_
    refine voc c_impl_BuildEth rfl rfl ?_
    iterate 4 refine vo ?_
    refine vnt ?_
    refine vc_ret ?_
    refine fin_i [] rfl (fz ?_) trivial
    simp [imgR, supC, g1]
set_option maxHeartbeats 4000000 in
theorem c_spec_BuildImage {dm sm vl tos id ttl si di kind sp dp seq ack fl win : Int} {body : ByteArray} : Con0 Tryz.prog 152 [.agg [V dm, V sm, V vl, V tos, V id, V ttl, V si, V di, V kind, V sp, V dp, V seq, V ack, V fl, V win, VS body]] (.tup [Z (imgR dm sm vl tos id ttl si di kind sp dp seq ack fl win body), B (supC dm sm vl tos id ttl si di kind sp dp seq ack fl win body)]) [] := by
  refine con_i Tryz.func152 Tryz.ntmps152 (t := [(0, .agg [V dm, V sm, V vl, V tos, V id, V ttl, V si, V di, V kind, V sp, V dp, V seq, V ack, V fl, V win, VS body])]) rfl ?_
  refine vc_sr ?_
  iterate 3 refine vo ?_
  refine vnt ?_
  refine vc_seq' ?_
  refine vc_sr ?_
  refine vo ?_
  refine voc c_spec_SuperOk rfl rfl ?_
  refine vo ?_
  refine vnt ?_
  refine vc_if (fun g1 => ?_) (fun g1 => ?_)
  · refine vc_sr ?_
    iterate 2 refine vo ?_
    refine vnt ?_
    refine vc_ret ?_
    refine thn_r ?_
    refine fin_i [] rfl (fz ?_) trivial
    simp [imgR, supC, g1]
  · have hb := (superOk_facts g1).2.2.2.2.2.2.2.2.2
    have a1 := segR_le si di kind sp dp seq ack fl win body
    have a2 := ipR_le tos id ttl kind si di (segR si di kind sp dp seq ack fl win body)
    have a3 := padF_le (ipR tos id ttl kind si di (segR si di kind sp dp seq ack fl win body))
    refine vc_skip ?_
    refine thn ?_
    refine vc_sr ?_
    iterate 6 refine vo ?_
    refine voc c_spec_BuildSegment rfl rfl ?_
    iterate 5 refine vo ?_
    refine vnt ?_
    refine vc_sr ?_
    iterate 15 refine vo ?_
    refine voc c_spec_BuildIp rfl rfl ?_
    iterate 5 refine vo ?_
    refine vnt ?_
    refine vc_sr ?_
    iterate 7 refine vo ?_
    refine voc c_spec_PadBody rfl rfl ?_
    refine vo ?_
    refine voc c_spec_BuildEth rfl rfl ?_
    iterate 4 refine vo ?_
    refine vnt ?_
    refine vc_ret ?_
    refine fin_i [] rfl (fz ?_) trivial
    simp [imgR, supC, g1]
end Go.Proofs.YtbdcaacpemkloaaGreat
end
section
namespace Go.Proofs.YtbdcaacpemkloaaGreat
open Go Go.RowKit Go.Vc
set_option linter.unusedVariables false
set_option linter.unusedSimpArgs false
set_option linter.unnecessarySimpa false
theorem bAt_extract (s : ByteArray) (a b k : Nat) : bAt (s.extract a b) k = if a + k < b then bAt s (a + k) else 0 := by
  unfold bAt
  by_cases h : k < (s.extract a b).size
  · rw [dif_pos h]
    have h2 : k < min b s.size - a := by rw [ByteArray.size_extract] at h; exact h
    rw [if_pos (by omega), dif_pos (by omega), ByteArray.getElem_extract]
  · rw [dif_neg h]
    have h2 : ¬ k < min b s.size - a := by rw [ByteArray.size_extract] at h; exact h
    split
    · rw [dif_neg (by omega)]
    · rfl
theorem bAt_append (s t : ByteArray) (k : Nat) : bAt (s ++ t) k = if k < s.size then bAt s k else bAt t (k - s.size) := by
  unfold bAt
  by_cases h : k < s.size
  · rw [if_pos h, dif_pos (by rw [ByteArray.size_append]; omega), dif_pos h, ByteArray.getElem_append_left h]
  · rw [if_neg h]
    by_cases h2 : k - s.size < t.size
    · rw [dif_pos (by rw [ByteArray.size_append]; omega), dif_pos h2, ByteArray.getElem_append_right (by omega)]
    · rw [dif_neg (by rw [ByteArray.size_append]; omega), dif_neg h2]
theorem bAt_putB {s p : ByteArray} {a : Nat} (h : a + p.size ≤ s.size) (k : Nat) : bAt (putB s a p) k = if a ≤ k ∧ k < a + p.size then bAt p (k - a) else bAt s k := by
  unfold putB
  have ea : (s.extract 0 a).size = a := by rw [ByteArray.size_extract]; omega
  have eb : ∀ k, k < a → bAt (s.extract 0 a) k = bAt s k := fun k hk => by rw [bAt_extract, if_pos (by omega), Nat.zero_add]
  have ec : ∀ k, bAt (s.extract (a + p.size) s.size) k = if a + p.size + k < s.size then bAt s (a + p.size + k) else 0 := fun k => bAt_extract _ _ _ _
  generalize s.extract 0 a = u at *
  generalize s.extract (a + p.size) s.size = v at *
  have e0 : bAt (u ++ p ++ v) k = if k < a + p.size then (if k < a then bAt u k else bAt p (k - a)) else bAt v (k - (a + p.size)) := by
    rw [bAt_append, bAt_append, ByteArray.size_append, ea]
  rw [e0]
  by_cases h1 : k < a
  · have q1 : k < a + p.size := by omega
    have q2 : ¬ (a ≤ k ∧ k < a + p.size) := by omega
    rw [if_pos q1, if_pos h1, if_neg q2, eb k h1]
  · by_cases h2 : k < a + p.size
    · have q2 : a ≤ k ∧ k < a + p.size := by omega
      rw [if_pos h2, if_neg h1, if_pos q2]
    · have q2 : ¬ (a ≤ k ∧ k < a + p.size) := by omega
      rw [if_neg h2, if_neg q2, ec]
      by_cases h3 : k < s.size
      · have q3 : a + p.size + (k - (a + p.size)) = k := by omega
        rw [q3, if_pos h3]
      · have q3 : a + p.size + (k - (a + p.size)) = k := by omega
        rw [q3, if_neg h3]
        unfold bAt; rw [dif_neg h3]
structure EthX where
  (dst src vl ty : Int)
  (body : ByteArray)
structure IpX where
  (tos id ttl pr src dst : Int)
  (body : ByteArray)
structure SegX where
  (kind sp dp seq ack fl win : Int)
  (body : ByteArray)
structure Pk where
  (dm sm vl tos id ttl si di kind sp dp seq ack fl win : Int)
  (body : ByteArray)
def m6 (s : ByteArray) (i : Int) : Int := get16 s i * 4294967296 + get32 s (i + 2)
def ethX (s : ByteArray) : EthX := if get16 s 12 = 33024 ∧ 18 ≤ s.size then ⟨m6 s 0, m6 s 6, get16 s 14, get16 s 16, s.extract (Int.toNat 18) s.size⟩ else ⟨m6 s 0, m6 s 6, -1, get16 s 12, s.extract (Int.toNat 14) s.size⟩
def EthX.ok (e : EthX) : Bool := ethOkB e.dst e.src e.vl e.ty e.body.size
def ethPB (s : ByteArray) : Bool := decide (18 ≤ s.size) && (ethX s).ok
def ethPF (s : ByteArray) : EthX := if ethPB s then ethX s else ⟨0, 0, 0, 0, ⟨#[]⟩⟩
theorem ethPF_y {s : ByteArray} (h : ethPB s = true) : ethPF s = ethX s := if_pos h
theorem ethPF_n {s : ByteArray} (h : ethPB s = false) : ethPF s = ⟨0, 0, 0, 0, ⟨#[]⟩⟩ := if_neg (by rw [h]; decide)
def ipX (s : ByteArray) : IpX := ⟨bAt s 1, get16 s 4, bAt s 8, bAt s 9, get32 s 12, get32 s 16, s.extract (Int.toNat 20) (get16 s 2).toNat⟩
def IpX.ok (d : IpX) : Bool := ipOkB d.tos d.id d.ttl d.pr d.src d.dst d.body.size
def IpX.im (d : IpX) : ByteArray := ipR d.tos d.id d.ttl d.pr d.src d.dst d.body
def ipPB (s : ByteArray) : Bool := decide (20 ≤ s.size) && (decide (20 ≤ get16 s 2) && (decide (get16 s 2 ≤ s.size) && ((ipX s).ok && decide ((ipX s).im = s.extract (Int.toNat 0) (get16 s 2).toNat))))
def ipPF (s : ByteArray) : IpX := if ipPB s then ipX s else ⟨0, 0, 0, 0, 0, 0, ⟨#[]⟩⟩
theorem ipPF_y {s : ByteArray} (h : ipPB s = true) : ipPF s = ipX s := if_pos h
theorem ipPF_n {s : ByteArray} (h : ipPB s = false) : ipPF s = ⟨0, 0, 0, 0, 0, 0, ⟨#[]⟩⟩ := if_neg (by rw [h]; decide)
def segX (kind : Int) (s : ByteArray) : SegX := if kind = 6 then ⟨kind, get16 s 0, get16 s 2, get32 s 4, get32 s 8, bAt s 13, get16 s 14, s.extract (Int.toNat 20) s.size⟩ else ⟨kind, get16 s 0, get16 s 2, 0, 0, 0, 0, s.extract (Int.toNat 8) s.size⟩
def SegX.ok (src dst : Int) (g : SegX) : Bool := segC src dst g.kind g.sp g.dp g.seq g.ack g.fl g.win g.body
def SegX.im (src dst : Int) (g : SegX) : ByteArray := segR src dst g.kind g.sp g.dp g.seq g.ack g.fl g.win g.body
def segPB (src dst kind : Int) (s : ByteArray) : Bool := ((decide (kind = 6) && decide (20 ≤ s.size)) || (decide (kind = 17) && decide (8 ≤ s.size))) && ((segX kind s).ok src dst && decide ((segX kind s).im src dst = s))
def segPF (src dst kind : Int) (s : ByteArray) : SegX := if segPB src dst kind s then segX kind s else ⟨0, 0, 0, 0, 0, 0, 0, ⟨#[]⟩⟩
theorem segPF_y {src dst kind : Int} {s : ByteArray} (h : segPB src dst kind s = true) : segPF src dst kind s = segX kind s := if_pos h
theorem segPF_n {src dst kind : Int} {s : ByteArray} (h : segPB src dst kind s = false) : segPF src dst kind s = ⟨0, 0, 0, 0, 0, 0, 0, ⟨#[]⟩⟩ := if_neg (by rw [h]; decide)
def Pk.sup (p : Pk) : Bool := superOkB p.dm p.sm p.vl p.tos p.id p.ttl p.si p.di p.kind p.sp p.dp p.seq p.ack p.fl p.win p.body.size
def Pk.im (p : Pk) : ByteArray := imgR p.dm p.sm p.vl p.tos p.id p.ttl p.si p.di p.kind p.sp p.dp p.seq p.ack p.fl p.win p.body
def Pk.sc (p : Pk) : Bool := supC p.dm p.sm p.vl p.tos p.id p.ttl p.si p.di p.kind p.sp p.dp p.seq p.ack p.fl p.win p.body
def pk0 : Pk := ⟨0, 0, 0, 0, 0, 0, 0, 0, 0, 0, 0, 0, 0, 0, 0, ⟨#[]⟩⟩
def mkPk (e : EthX) (d : IpX) (g : SegX) : Pk := ⟨e.dst, e.src, e.vl, d.tos, d.id, d.ttl, d.src, d.dst, g.kind, g.sp, g.dp, g.seq, g.ack, g.fl, g.win, g.body⟩
def rdX (s : ByteArray) : Pk := mkPk (ethX s) (ipX (ethX s).body) (segX (ipX (ethX s).body).pr (ipX (ethX s).body).body)
def rdC (s : ByteArray) : Int :=
  if ethPB s = true ∧ (ethX s).ty = 2048 then
    if ipPB (ethX s).body = true then
      if segPB (ipX (ethX s).body).src (ipX (ethX s).body).dst (ipX (ethX s).body).pr (ipX (ethX s).body).body = true then
        if (rdX s).sup = true then 0 else 5
      else 4
    else 3
  else 2
def rdF (s : ByteArray) : Pk := if rdC s = 0 then rdX s else pk0
theorem rd_2 {s : ByteArray} (h : ethPB s = false ∨ ¬ (ethX s).ty = 2048) : rdF s = pk0 ∧ rdC s = 2 := by
  have : rdC s = 2 := by
    unfold rdC
    rw [if_neg]
    rintro ⟨h1, h2⟩
    rcases h with h | h
    · rw [h] at h1; cases h1
    · exact h h2
  exact ⟨by rw [rdF, this, if_neg (by decide)], this⟩
theorem rd_3 {s : ByteArray} (h1 : ethPB s = true) (h2 : (ethX s).ty = 2048) (h : ipPB (ethX s).body = false) : rdF s = pk0 ∧ rdC s = 3 := by
  have : rdC s = 3 := by
    unfold rdC
    rw [if_pos ⟨h1, h2⟩, if_neg (by rw [h]; decide)]
  exact ⟨by rw [rdF, this, if_neg (by decide)], this⟩
theorem rd_4 {s : ByteArray} (h1 : ethPB s = true) (h2 : (ethX s).ty = 2048) (h3 : ipPB (ethX s).body = true) (h : segPB (ipX (ethX s).body).src (ipX (ethX s).body).dst (ipX (ethX s).body).pr (ipX (ethX s).body).body = false) : rdF s = pk0 ∧ rdC s = 4 := by
  have : rdC s = 4 := by
    unfold rdC
    rw [if_pos ⟨h1, h2⟩, if_pos h3, if_neg (by rw [h]; decide)]
  exact ⟨by rw [rdF, this, if_neg (by decide)], this⟩
theorem rd_5 {s : ByteArray} (h1 : ethPB s = true) (h2 : (ethX s).ty = 2048) (h3 : ipPB (ethX s).body = true) (h4 : segPB (ipX (ethX s).body).src (ipX (ethX s).body).dst (ipX (ethX s).body).pr (ipX (ethX s).body).body = true) (h : (rdX s).sup = false) : rdF s = pk0 ∧ rdC s = 5 := by
  have : rdC s = 5 := by
    unfold rdC
    rw [if_pos ⟨h1, h2⟩, if_pos h3, if_pos h4, if_neg (by rw [h]; decide)]
  exact ⟨by rw [rdF, this, if_neg (by decide)], this⟩
theorem rd_0 {s : ByteArray} (h1 : ethPB s = true) (h2 : (ethX s).ty = 2048) (h3 : ipPB (ethX s).body = true) (h4 : segPB (ipX (ethX s).body).src (ipX (ethX s).body).dst (ipX (ethX s).body).pr (ipX (ethX s).body).body = true) (h : (rdX s).sup = true) : rdF s = rdX s ∧ rdC s = 0 := by
  have : rdC s = 0 := by
    unfold rdC
    rw [if_pos ⟨h1, h2⟩, if_pos h3, if_pos h4, if_pos h]
  exact ⟨by rw [rdF, this, if_pos rfl], this⟩
theorem rdC_sup {s : ByteArray} (h : rdC s = 0) : (rdF s).sup = true := by
  rw [rdF, if_pos h]
  unfold rdC at h
  split at h
  · split at h
    · split at h
      · split at h
        · assumption
        · omega
      · omega
    · omega
  · omega
theorem ethX_body (s : ByteArray) : (ethX s).body.size ≤ s.size := by
  unfold ethX
  split <;> (simp only [ByteArray.size_extract]; omega)
theorem ipX_body (s : ByteArray) : (ipX s).body.size ≤ s.size := by
  unfold ipX
  simp only [ByteArray.size_extract]; omega
theorem segX_body (k : Int) (s : ByteArray) : (segX k s).body.size ≤ s.size := by
  unfold segX
  split <;> (simp only [ByteArray.size_extract]; omega)
theorem i64_or_big (a b i : Nat) (h : b < 2 ^ i) (ha : a * 2 ^ i + b < 4611686018427387904) : Go.bits .or .i64 ((a * 2 ^ i : Nat) : Int) (b : Int) = ((a * 2 ^ i + b : Nat) : Int) := by
  have e : ∀ n : Nat, n < 4611686018427387904 → (BitVec.ofInt 64 (n : Int)).toNat = n := fun n hn => by
    rw [BitVec.ofInt_natCast, BitVec.toNat_ofNat]; exact Nat.mod_eq_of_lt (by omega)
  show IntKind.i64.wrap ((BitVec.ofInt 64 ((a * 2 ^ i : Nat) : Int) ||| BitVec.ofInt 64 (b : Int)).toNat : Int) = _
  rw [BitVec.toNat_or, e _ (by omega), e _ (by omega), or_add _ _ _ h, IntKind.wrap_i64]
  generalize a * 2 ^ i = c at *
  omega
theorem m6_sh {a b : Int} (h0 : 0 ≤ a ∧ a ≤ 65535) (h1 : 0 ≤ b ∧ b ≤ 4294967295) : orI (IntKind.i64.wrap (a * 2 ^ Int.toNat 32)) b = a * 4294967296 + b := by
  obtain ⟨x, rfl⟩ := Int.eq_ofNat_of_zero_le h0.1
  obtain ⟨y, rfl⟩ := Int.eq_ofNat_of_zero_le h1.1
  have e1 : (2 : Int) ^ Int.toNat 32 = 4294967296 := by decide
  rw [e1, IntWalk.i64_in _ (by omega), orI_eq, show ((x : Int) * 4294967296) = ((x * 2 ^ 32 : Nat) : Int) by omega]
  rw [i64_or_big x y 32 (by omega) (by omega)]
  omega
theorem get16_in {s : ByteArray} {i : Int} (h0 : 0 ≤ i) (h : i + 2 ≤ s.size) : 0 ≤ get16 s i ∧ get16 s i ≤ 65535 := by
  have := get16_bd s i
  rw [get16, if_pos ⟨h0, h⟩] at *
  omega
theorem get32_in {s : ByteArray} {i : Int} (h0 : 0 ≤ i) (h : i + 4 ≤ s.size) : 0 ≤ get32 s i ∧ get32 s i ≤ 4294967295 := by
  have := get32_bd s i
  rw [get32, if_pos ⟨h0, h⟩] at *
  omega
end Go.Proofs.YtbdcaacpemkloaaGreat
end
section
namespace Go.Proofs.YtbdcaacpemkloaaGreat
open Go Go.RowKit Go.Vc
set_option linter.unusedVariables false
set_option linter.unusedSimpArgs false
set_option linter.unnecessarySimpa false
def sumsA (s : ByteArray) : Int := if get16 s 12 = 33024 then 18 else 14
def sumsK (s : ByteArray) : Int := bAt s (sumsA s + 9).toNat
def sumsB (s : ByteArray) : Int := sumsA s + 20 + sumPl (sumsK s)
theorem sumsA_bd (s : ByteArray) : sumsA s = 14 ∨ sumsA s = 18 := by unfold sumsA; split <;> simp
theorem sumsB_bd (s : ByteArray) : sumsB s = sumsA s + 26 ∨ sumsB s = sumsA s + 36 := by unfold sumsB sumPl; split <;> omega
def Pk.tm (p : Pk) : ByteArray := if p.sup then putBF (putBF p.im (sumsA p.im + 10) (word16 0)) (sumsB p.im) (word16 0) else ⟨#[]⟩
theorem get16_at {s : ByteArray} {i : Nat} (h : i + 2 ≤ s.size) : get16 s (i : Int) = ((bAt s i * 256 + bAt s (i + 1) : Nat) : Int) := by
  rw [get16, if_pos (by omega), Int.toNat_natCast]
theorem putBF_at {s p : ByteArray} {i : Nat} (h : i + p.size ≤ s.size) (k : Nat) : bAt (putBF s (i : Int) p) k = if i ≤ k ∧ k < i + p.size then bAt p (k - i) else bAt s k := by
  rw [Go.Proofs.YtbdcaacpemkloaaGreat.putBF_in h, bAt_putB h]
theorem mac_sz {a : Int} (h : inB a 0 281474976710655 = true) : (macF a).size = 6 := by
  have h1 := inB_iff.1 h
  unfold macF
  rw [ByteArray.size_append, word16_size (inB_iff.2 (by omega)), word32_size (inB_iff.2 (by omega))]
theorem bAt_lit {xs : List Int} {i : Nat} (h : i < xs.length) : bAt (strOfNums xs) i = xs[i].toNat % 256 := by
  unfold bAt
  rw [dif_pos (by rw [strOfNums_size]; exact h)]
  simp only [strOfNums, ByteArray.getElem_eq_getElem_data, List.getElem_toArray, List.getElem_map]
  rfl
theorem w16_at {v : Int} (h : inB v 0 65535 = true) : ((bAt (word16 v) 0 * 256 + bAt (word16 v) 1 : Nat) : Int) = v := by
  have h1 := inB_iff.1 h
  rw [show word16 v = strOfNums [v / 256, v % 256] by unfold word16; rw [if_pos h], bAt_lit (i := 0) (by simp), bAt_lit (i := 1) (by simp)]
  simp only [List.getElem_cons_zero, List.getElem_cons_succ]
  omega
theorem get16_mid {a r : ByteArray} {v : Int} (h : inB v 0 65535 = true) {i : Nat} (hi : i = a.size) : get16 (a ++ word16 v ++ r) (i : Int) = v := by
  subst hi
  have hs := word16_size h
  rw [get16_at (by rw [ByteArray.size_append, ByteArray.size_append, hs]; omega)]
  rw [bAt_append, if_pos (by rw [ByteArray.size_append, hs]; omega), bAt_append a, if_neg (by omega), Nat.sub_self]
  rw [bAt_append, if_pos (by rw [ByteArray.size_append, hs]; omega), bAt_append a, if_neg (by omega), show a.size + 1 - a.size = 1 by omega]
  exact w16_at h
theorem img_lay {p : Pk} (h : p.sup = true) : 46 + sumsA p.im ≤ p.im.size ∧ p.im.size ≤ 400 + sumsA p.im ∧ inB p.vl (-1) 4095 = true ∧ ((get16 p.im 12 = 33024 ∧ get16 p.im 14 = p.vl ∧ get16 p.im 16 = 2048) ∨ get16 p.im 12 = 2048) := by
  obtain ⟨h1, h2, h3, h4, h5, h6, h7, h8, h9, h10⟩ := superOk_facts h
  have e := (sup_img h).1
  unfold supC at e
  rw [Bool.and_eq_true] at e
  have e2 := e.2
  have hi : p.im = ethF p.dm p.sm p.vl 2048 (padF (ipR p.tos p.id p.ttl p.kind p.si p.di (segR p.si p.di p.kind p.sp p.dp p.seq p.ack p.fl p.win p.body))) := by
    unfold Pk.im imgR
    rw [if_pos (show superOkB _ _ _ _ _ _ _ _ _ _ _ _ _ _ _ _ = true from h), ethR, if_pos e2]
  have hb : inB ((padF (ipR p.tos p.id p.ttl p.kind p.si p.di (segR p.si p.di p.kind p.sp p.dp p.seq p.ack p.fl p.win p.body))).size : Int) 46 400 = true := by
    unfold ethOkB at e2
    simp only [Bool.and_eq_true] at e2
    exact e2.2
  generalize padF (ipR p.tos p.id p.ttl p.kind p.si p.di (segR p.si p.di p.kind p.sp p.dp p.seq p.ack p.fl p.win p.body)) = b at *
  have hb2 := inB_iff.1 hb
  have m1 := mac_sz h1
  have m2 := mac_sz h2
  have w1 : (word16 33024).size = 2 := rfl
  have w2 : (word16 2048).size = 2 := rfl
  have hv := inB_iff.1 h3
  rw [hi]
  unfold ethF
  by_cases hv0 : 0 ≤ p.vl
  · rw [if_pos hv0]
    have w3 : (word16 p.vl).size = 2 := word16_size (inB_iff.2 (by omega))
    have q1 : get16 (macF p.dm ++ macF p.sm ++ (word16 33024 ++ word16 p.vl) ++ word16 2048 ++ b) ((12 : Nat) : Int) = 33024 := by
      rw [show macF p.dm ++ macF p.sm ++ (word16 33024 ++ word16 p.vl) ++ word16 2048 ++ b = macF p.dm ++ macF p.sm ++ word16 33024 ++ (word16 p.vl ++ (word16 2048 ++ b)) by simp only [ByteArray.append_assoc]]
      exact get16_mid (by decide) (by rw [ByteArray.size_append, m1, m2])
    have q2 : get16 (macF p.dm ++ macF p.sm ++ (word16 33024 ++ word16 p.vl) ++ word16 2048 ++ b) ((14 : Nat) : Int) = p.vl := by
      rw [show macF p.dm ++ macF p.sm ++ (word16 33024 ++ word16 p.vl) ++ word16 2048 ++ b = (macF p.dm ++ macF p.sm ++ word16 33024) ++ word16 p.vl ++ (word16 2048 ++ b) by simp only [ByteArray.append_assoc]]
      exact get16_mid (inB_iff.2 (by omega)) (by simp only [ByteArray.size_append, m1, m2, w1])
    have q3 : get16 (macF p.dm ++ macF p.sm ++ (word16 33024 ++ word16 p.vl) ++ word16 2048 ++ b) ((16 : Nat) : Int) = 2048 := by
      rw [show macF p.dm ++ macF p.sm ++ (word16 33024 ++ word16 p.vl) ++ word16 2048 ++ b = (macF p.dm ++ macF p.sm ++ (word16 33024 ++ word16 p.vl)) ++ word16 2048 ++ b by simp only [ByteArray.append_assoc]]
      exact get16_mid (by decide) (by simp only [ByteArray.size_append, m1, m2, w1, w3])
    have hz : (macF p.dm ++ macF p.sm ++ (word16 33024 ++ word16 p.vl) ++ word16 2048 ++ b).size = 18 + b.size := by
      simp only [ByteArray.size_append, m1, m2, w1, w2, w3]
    have ha : sumsA (macF p.dm ++ macF p.sm ++ (word16 33024 ++ word16 p.vl) ++ word16 2048 ++ b) = 18 := by unfold sumsA; exact if_pos q1
    exact ⟨by omega, by omega, h3, .inl ⟨q1, q2, q3⟩⟩
  · rw [if_neg hv0]
    have q1 : get16 (macF p.dm ++ macF p.sm ++ word16 2048 ++ b) ((12 : Nat) : Int) = 2048 := get16_mid (by decide) (by rw [ByteArray.size_append, m1, m2])
    have hz : (macF p.dm ++ macF p.sm ++ word16 2048 ++ b).size = 14 + b.size := by
      simp only [ByteArray.size_append, m1, m2, w2]
    have ha : sumsA (macF p.dm ++ macF p.sm ++ word16 2048 ++ b) = 14 := by unfold sumsA; refine if_neg ?_; rw [show (12 : Int) = ((12 : Nat) : Int) from rfl, q1]; decide
    exact ⟨by omega, by omega, h3, .inr q1⟩
theorem get16_put {s p : ByteArray} {i j : Nat} (h : i + p.size ≤ s.size) (hj : j + 2 ≤ i ∨ i + p.size ≤ j) : get16 (putBF s (i : Int) p) (j : Int) = get16 s (j : Int) := by
  have hz := putBF_size s (i : Int) p
  by_cases hs : j + 2 ≤ s.size
  · rw [get16_at (by omega), get16_at hs, putBF_at h, if_neg (by omega), putBF_at h, if_neg (by omega)]
  · rw [get16, if_neg (by omega), get16, if_neg (by omega)]
theorem get16_here {s : ByteArray} {i : Nat} {v : Int} (hv : inB v 0 65535 = true) (h : i + 2 ≤ s.size) : get16 (putBF s (i : Int) (word16 v)) (i : Int) = v := by
  have hz := putBF_size s (i : Int) (word16 v)
  have hw := word16_size hv
  rw [get16_at (by omega), putBF_at (by omega), if_pos (by omega), putBF_at (by omega), if_pos (by omega), Nat.sub_self, show i + 1 - i = 1 by omega]
  exact w16_at hv
theorem tm_facts {p : Pk} (h : p.sup = true) {t : ByteArray} (ht : p.tm = t) : t.size = p.im.size ∧ sumsA t = sumsA p.im ∧ sumsB t = sumsB p.im ∧ get16 t (sumsA t + 10) = 0 ∧ get16 t (sumsB t) = 0 ∧ ethPB t = true := by
  obtain ⟨l1, l2, l3, l4⟩ := img_lay h
  unfold Pk.tm at ht
  rw [if_pos h] at ht
  have w0 : (word16 0).size = 2 := rfl
  have ha := sumsA_bd p.im
  have hb := sumsB_bd p.im
  obtain ⟨A, hA⟩ := Int.eq_ofNat_of_zero_le (show 0 ≤ sumsA p.im + 10 by omega)
  obtain ⟨B, hB⟩ := Int.eq_ofNat_of_zero_le (show 0 ≤ sumsB p.im by omega)
  rw [hA, hB] at ht
  have z1 := putBF_size p.im (A : Int) (word16 0)
  have z2 := putBF_size (putBF p.im (A : Int) (word16 0)) (B : Int) (word16 0)
  rw [ht] at z2
  have hg : ∀ j : Nat, j + 2 ≤ A → get16 t (j : Int) = get16 p.im (j : Int) := fun j hj => by
    rw [← ht, get16_put (by omega) (by omega), get16_put (by omega) (by omega)]
  have g12 : get16 t 12 = get16 p.im 12 := hg 12 (by omega)
  have eA : sumsA t = sumsA p.im := by unfold sumsA; rw [g12]
  have eK : sumsK t = sumsK p.im := by
    unfold sumsK
    rw [eA, ← ht, putBF_at (by omega), if_neg (by omega), putBF_at (by omega), if_neg (by omega)]
  have eB : sumsB t = sumsB p.im := by unfold sumsB; rw [eA, eK]
  have zB : get16 t (B : Int) = 0 := by rw [← ht]; exact get16_here (by decide) (by omega)
  have zA : get16 t (A : Int) = 0 := by rw [← ht, get16_put (by omega) (by omega)]; exact get16_here (by decide) (by omega)
  refine ⟨by omega, eA, eB, by rw [eA, hA]; exact zA, by rw [eB, hB]; exact zB, ?_⟩
  have hs : t.size = p.im.size := by omega
  have hvl := inB_iff.1 l3
  have k0 := get16_in (s := t) (i := 0) (by omega) (by omega)
  have k1 := get32_in (s := t) (i := 2) (by omega) (by omega)
  have k2 := get16_in (s := t) (i := 6) (by omega) (by omega)
  have k3 := get32_in (s := t) (i := 8) (by omega) (by omega)
  have i0 : inB (m6 t 0) 0 281474976710655 = true := inB_iff.2 (by unfold m6; simp only [Int.zero_add]; omega)
  have i1 : inB (m6 t 6) 0 281474976710655 = true := inB_iff.2 (by unfold m6; rw [show (6 : Int) + 2 = 8 from rfl]; omega)
  unfold ethPB EthX.ok ethX
  rw [decide_eq_true (show 18 ≤ t.size by omega), Bool.true_and]
  rcases l4 with ⟨q1, q2, q3⟩ | q1
  · have hA2 : sumsA p.im = 18 := by unfold sumsA; rw [if_pos q1]
    rw [if_pos ⟨by rw [g12, q1], by omega⟩]
    simp only
    rw [show get16 t 14 = p.vl from (hg 14 (by omega)).trans q2, show get16 t 16 = 2048 from (hg 16 (by omega)).trans q3]
    unfold ethOkB
    rw [i0, i1, l3, inB_iff.2 (show (1536 : Int) ≤ 2048 ∧ (2048 : Int) ≤ 65535 by omega), inB_iff.2 (by rw [ByteArray.size_extract]; have : Int.toNat 18 = 18 := rfl; omega)]
    decide
  · have hA2 : sumsA p.im = 14 := by unfold sumsA; rw [if_neg (by rw [q1]; decide)]
    rw [if_neg (by rw [g12, q1]; omega)]
    simp only
    rw [g12, q1]
    unfold ethOkB
    rw [i0, i1, inB_iff.2 (show (-1 : Int) ≤ -1 ∧ (-1 : Int) ≤ 4095 by omega), inB_iff.2 (show (1536 : Int) ≤ 2048 ∧ (2048 : Int) ≤ 65535 by omega), inB_iff.2 (by rw [ByteArray.size_extract]; have : Int.toNat 14 = 14 := rfl; omega)]
    decide
def fsN (t : ByteArray) : Int := get16 t (sumsA t + 2)
def fsC (t : ByteArray) : Int := checkF (psF (get32 t (sumsA t + 12)) (get32 t (sumsA t + 16)) (sumsK t) (fsN t - 20) ++ t.extract (sumsA t + 20).toNat (sumsA t + fsN t).toNat)
def fsY (t : ByteArray) : Int := if sumsK t = 17 ∧ fsC t = 0 then 65535 else fsC t
def fsS (t : ByteArray) : ByteArray := putBF (putBF t (sumsA t + 10) (word16 (checkF (t.extract (sumsA t).toNat (sumsA t + 20).toNat)))) (sumsB t) (word16 (fsY t))
def fsOk (t : ByteArray) : Bool := decide (sumsA t + 46 ≤ t.size) && (decide (sumsB t + 2 - sumsA t ≤ fsN t) && decide (fsN t ≤ t.size - sumsA t))
def fsB (t : ByteArray) : Bool := fsOk t && (decide (rdC (fsS t) = 0) && decide ((rdF (fsS t)).tm = t))
def fsF (t : ByteArray) : ByteArray := if fsB t then (rdF (fsS t)).im else ⟨#[]⟩
theorem fs_no {t : ByteArray} (h : fsB t = false) : fsF t = ⟨#[]⟩ ∧ fsB t = false := ⟨if_neg (by rw [h]; decide), h⟩
theorem fs_yes {t : ByteArray} (h1 : fsOk t = true) (h2 : rdC (fsS t) = 0) (h3 : (rdF (fsS t)).tm = t) : fsF t = (rdF (fsS t)).im ∧ fsB t = true := by
  have : fsB t = true := by unfold fsB; rw [h1, decide_eq_true h2, decide_eq_true h3]; rfl
  exact ⟨if_pos this, this⟩
theorem fs_facts {t : ByteArray} (h : fsB t = true) : fsOk t = true ∧ rdC (fsS t) = 0 ∧ (rdF (fsS t)).tm = t ∧ get16 t (sumsA t + 10) = 0 ∧ get16 t (sumsB t) = 0 ∧ ethPB t = true := by
  unfold fsB at h
  simp only [Bool.and_eq_true, decide_eq_true_eq] at h
  obtain ⟨h1, h2, h3⟩ := h
  obtain ⟨_, _, _, q1, q2, q3⟩ := tm_facts (rdC_sup h2) h3
  exact ⟨h1, h2, h3, q1, q2, q3⟩
end Go.Proofs.YtbdcaacpemkloaaGreat
end
section
namespace Go.Proofs.YtbdcaacpemkloaaGreat
open Go Go.RowKit Go.Vc
set_option linter.unusedVariables false
set_option linter.unusedSimpArgs false
set_option linter.unnecessarySimpa false
def fb (N : Nat) (ps : Pg) (a : Int) : Nat := bAt (pageAt ps (((N : Int) - 1 - a / 128) * 128)) (a % 128).toNat
def Turned (N M : Nat) (l : List Mp) (d : Int) (wr : Bool) : Prop := mapsOk l = true ∧ M ≤ N ∧ ∀ v : Int, 0 ≤ v → v < M → mpPage l d v wr = N - 1 - v
theorem ba_ext {s t : ByteArray} (h : s.size = t.size) (k : ∀ i, i < s.size → bAt s i = bAt t i) : s = t := by
  refine ByteArray.ext_getElem h fun i h1 h2 => ?_
  have := k i h1
  unfold bAt at this
  rw [dif_pos h1, dif_pos h2] at this
  exact UInt8.toNat_inj.1 this
theorem fb_lt (N : Nat) (ps : Pg) (a : Int) : fb N ps a < 256 := bAt_lt _ _
theorem page_at2 (ps : Pg) {x y : Int} (h : x / 128 = y / 128) : pageAt ps x = pageAt ps y := by unfold pageAt; rw [h]
theorem fb_read {N : Nat} {l : List Mp} {ps : Pg} {d : Int} {wr : Bool} (hm : MemOk ps) (hl : ps.length = N) (hp : ∀ v : Int, 0 ≤ v → v < N → mpPage l d v wr = N - 1 - v) :
    ∀ (n : Nat) (a : Int), 0 ≤ a → a + n ≤ 128 * N → ∃ rs, parts l ps.length d wr a n = some rs ∧ ∃ t : ByteArray, (∀ o, readAll ps rs o = o ++ t) ∧ t.size = n ∧ ∀ k : Nat, k < n → bAt t k = fb N ps (a + k) := by
  intro n
  induction n using Nat.strongRecOn with
  | _ n ih =>
    intro a h0 h1
    by_cases hn : n = 0
    · subst hn
      exact ⟨[], parts_zero, ⟨#[]⟩, fun o => (ba_append_nil o).symm, rfl, fun k hk => by omega⟩
    · obtain ⟨k, hk⟩ : ∃ k : Nat, (k : Int) = min (n : Int) (128 - a % 128) := ⟨(min (n : Int) (128 - a % 128)).toNat, by omega⟩
      have hv := hp (a / 128) (by omega) (by omega)
      obtain ⟨rs, e, t, t1, t2, t3⟩ := ih (n - k) (by omega) (a + k) (by omega) (by omega)
      have hseg : Seg ps.length (((N : Int) - 1 - a / 128) * 128 + a % 128, (k : Int)) := ⟨by simp only; omega, by simp only; omega, by simp only; omega, by simp only; omega⟩
      have hz := readSeg_size hm hseg
      simp only [Int.toNat_natCast] at hz
      refine ⟨(((N : Int) - 1 - a / 128) * 128 + a % 128, (k : Int)) :: rs, ?_, readSeg ps (((N : Int) - 1 - a / 128) * 128 + a % 128, (k : Int)) ++ t, fun o => ?_, ?_, fun j hj => ?_⟩
      · rw [parts_some (by omega) h0 (by rw [hv]; omega) (by rw [hv]; omega) hk, e, hv]; rfl
      · simp only [readAll]; rw [t1, ByteArray.append_assoc]
      · rw [ByteArray.size_append, hz, t2]; omega
      · rw [bAt_append, hz]
        by_cases hjk : j < k
        · rw [if_pos hjk]
          unfold readSeg fb
          simp only
          rw [bAt_extract, if_pos (by omega), page_at2 ps (x := ((N : Int) - 1 - a / 128) * 128 + a % 128) (y := ((N : Int) - 1 - (a + j) / 128) * 128) (by omega)]
          congr 1; omega
        · rw [if_neg hjk, t3 (j - k) (by omega)]
          congr 1; omega
theorem page_size {N : Nat} {ps : Pg} (hm : MemOk ps) (hl : ps.length = N) {a : Int} (h0 : 0 ≤ a) (h1 : a < 128 * N) : (pageAt ps (((N : Int) - 1 - a / 128) * 128)).size = 128 :=
  let ⟨_, _, h⟩ := hm.page (a := ((N : Int) - 1 - a / 128) * 128) (by omega) (by omega); h
theorem fb_seg {N : Nat} {ps : Pg} (hm : MemOk ps) (hl : ps.length = N) {a : Int} {b : ByteArray} (h0 : 0 ≤ a) (h1 : a < 128 * N) (h2 : a % 128 + b.size ≤ 128) {x : Int} (x0 : 0 ≤ x) (x1 : x < 128 * N) :
    fb N (writeSeg ps (((N : Int) - 1 - a / 128) * 128 + a % 128) b) x = if a ≤ x ∧ x < a + b.size then bAt b (x - a).toNat else fb N ps x := by
  have hpa := page_size hm hl h0 h1
  have hpx := page_size hm hl x0 x1
  have e1 : pageAt ps (((N : Int) - 1 - a / 128) * 128 + a % 128) = pageAt ps (((N : Int) - 1 - a / 128) * 128) := page_at2 ps (by omega)
  have hset : pageAt (writeSeg ps (((N : Int) - 1 - a / 128) * 128 + a % 128) b) (((N : Int) - 1 - x / 128) * 128) = if a / 128 = x / 128 then putB (pageAt ps (((N : Int) - 1 - a / 128) * 128)) (a % 128).toNat b else pageAt ps (((N : Int) - 1 - x / 128) * 128) := by
    unfold writeSeg
    rw [e1]
    show (List.set ps _ _).getD _ _ = _
    rw [List.getD_eq_getElem?_getD, List.getElem?_set]
    by_cases h : a / 128 = x / 128
    · rw [if_pos (by omega), if_pos h, if_pos (by omega)]
      simp only [Option.getD_some]
      congr 2; omega
    · rw [if_neg (by omega), if_neg h]
      show _ = ps.getD _ _
      rw [List.getD_eq_getElem?_getD]
  unfold fb
  rw [hset]
  by_cases h : a / 128 = x / 128
  · rw [if_pos h, bAt_putB (by rw [hpa]; omega)]
    by_cases h3 : a ≤ x ∧ x < a + b.size
    · rw [if_pos h3, if_pos (by omega)]
      congr 1; omega
    · rw [if_neg h3, if_neg (by omega), h]
  · rw [if_neg h, if_neg (by omega)]
theorem fb_write {N M : Nat} {l : List Mp} {d : Int} {wr : Bool} (hMN : M ≤ N) (hp : ∀ v : Int, 0 ≤ v → v < M → mpPage l d v wr = N - 1 - v) :
    ∀ (n : Nat) (a : Int) (ps : Pg) (s : ByteArray), MemOk ps → ps.length = N → s.size = n → 0 ≤ a → a + n ≤ 128 * M → ∃ rs, parts l ps.length d wr a n = some rs ∧ MemOk (writeAll ps rs s) ∧ (writeAll ps rs s).length = N ∧
      ∀ x : Int, 0 ≤ x → x < 128 * N → fb N (writeAll ps rs s) x = if a ≤ x ∧ x < a + n then bAt s (x - a).toNat else fb N ps x := by
  intro n
  induction n using Nat.strongRecOn with
  | _ n ih =>
    intro a ps s hm hl hs h0 h1
    by_cases hn : n = 0
    · subst hn
      exact ⟨[], parts_zero, hm, hl, fun x _ _ => by rw [if_neg (by omega)]; rfl⟩
    · obtain ⟨k, hk⟩ : ∃ k : Nat, (k : Int) = min (n : Int) (128 - a % 128) := ⟨(min (n : Int) (128 - a % 128)).toNat, by omega⟩
      have hv := hp (a / 128) (by omega) (by omega)
      have ez : (s.extract 0 k).size = k := by rw [ByteArray.size_extract]; omega
      have ez2 : (s.extract k s.size).size = n - k := by rw [ByteArray.size_extract]; omega
      have hw := hm.writeSeg (a := ((N : Int) - 1 - a / 128) * 128 + a % 128) (b := s.extract 0 k) (by omega) (by omega) (by rw [ez]; omega)
      obtain ⟨rs, e, t1, t2, t3⟩ := ih (n - k) (by omega) (a + k) (writeSeg ps (((N : Int) - 1 - a / 128) * 128 + a % 128) (s.extract 0 k)) (s.extract k s.size) hw.1 (hw.2.trans hl) ez2 (by omega) (by omega)
      rw [hw.2] at e
      refine ⟨(((N : Int) - 1 - a / 128) * 128 + a % 128, (k : Int)) :: rs, ?_, ?_, ?_, fun x x0 x1 => ?_⟩
      · rw [parts_some (by omega) h0 (by rw [hv]; omega) (by rw [hv]; omega) hk, e, hv]; rfl
      · simpa only [writeAll, Int.toNat_natCast] using t1
      · simpa only [writeAll, Int.toNat_natCast] using t2
      · simp only [writeAll, Int.toNat_natCast]
        rw [t3 x x0 x1, fb_seg hm hl h0 (by omega) (by rw [ez]; omega) x0 x1, ez]
        by_cases c1 : a + k ≤ x ∧ x < a + k + ((n - k : Nat) : Int)
        · rw [if_pos c1, if_pos (by omega), bAt_extract, if_pos (by omega)]
          congr 1; omega
        · rw [if_neg c1]
          by_cases c2 : a ≤ x ∧ x < a + k
          · rw [if_pos c2, if_pos (by omega), bAt_extract, if_pos (by omega)]
            congr 1; omega
          · rw [if_neg c2, if_neg (by omega)]
theorem runs_of {l : List Mp} {ps : Pg} {d a n : Int} {wr : Bool} (h1 : mapsOk l = true) (h2 : MemOk ps) (h3 : 0 ≤ n) (h4 : n ≤ 4096) : runs l ps d a n wr = parts l ps.length d wr a n.toNat := by
  unfold runs
  rw [if_pos]
  unfold runsOk
  rw [h1, memOk_iff.2 h2, inB_iff.2 ⟨h3, h4⟩]; rfl
theorem dmaR_fb {N : Nat} {l : List Mp} {ps : Pg} {d a n : Int} (ht : Turned N N l d false) (hm : MemOk ps) (hl : ps.length = N) (h0 : 0 ≤ a) (hn : 0 ≤ n) (hn2 : n ≤ 4096) (h1 : a + n ≤ 128 * N) :
    ∃ t, dmaRF l ps d a n = (t, true) ∧ (t.size : Int) = n ∧ ∀ k : Nat, (k : Int) < n → bAt t k = fb N ps (a + k) := by
  obtain ⟨rs, e, t, t1, t2, t3⟩ := fb_read hm hl ht.2.2 n.toNat a h0 (by omega)
  refine ⟨t, ?_, by omega, fun k hk => t3 k (by omega)⟩
  rw [dmaRF_yes ((runs_of ht.1 hm hn hn2).trans e), t1, ba_empty]
theorem dmaW_fb {N M : Nat} {l : List Mp} {ps : Pg} {d a : Int} {s : ByteArray} {wr : Bool} (ht : Turned N M l d wr) (hm : MemOk ps) (hl : ps.length = N) (h0 : 0 ≤ a) (hn2 : s.size ≤ 4096) (h1 : a + s.size ≤ 128 * M) :
    ∃ qs, dmaWF l ps d a s wr = (qs, true) ∧ MemOk qs ∧ qs.length = N ∧ ∀ x : Int, 0 ≤ x → x < 128 * N → fb N qs x = if a ≤ x ∧ x < a + s.size then bAt s (x - a).toNat else fb N ps x := by
  obtain ⟨rs, e, t1, t2, t3⟩ := fb_write ht.2.1 ht.2.2 s.size a ps s hm hl rfl h0 h1
  exact ⟨_, dmaWF_yes ((runs_of ht.1 hm (by omega) (by omega)).trans (by rw [Int.toNat_natCast]; exact e)), t1, t2, t3⟩
def fs (N : Nat) (ps : Pg) (a : Int) (n : Nat) : ByteArray := ⟨((List.range n).map fun k : Nat => UInt8.ofNat (fb N ps (a + k))).toArray⟩
theorem fs_size (N : Nat) (ps : Pg) (a : Int) (n : Nat) : (fs N ps a n).size = n := by
  show ((List.range n).map _).toArray.size = n
  simp
theorem fs_at {N : Nat} {ps : Pg} {a : Int} {n k : Nat} (h : k < n) : bAt (fs N ps a n) k = fb N ps (a + k) := by
  unfold bAt
  rw [dif_pos (by rw [fs_size]; exact h)]
  show (((List.range n).map fun k : Nat => UInt8.ofNat (fb N ps (a + k))).toArray[k]'(by simpa using h)).toNat = _
  simp
  have := fb_lt N ps (a + k)
  omega
theorem dmaR_fs {N : Nat} {l : List Mp} {ps : Pg} {d a n : Int} (ht : Turned N N l d false) (hm : MemOk ps) (hl : ps.length = N) (h0 : 0 ≤ a) (hn : 0 ≤ n) (hn2 : n ≤ 4096) (h1 : a + n ≤ 128 * N) : dmaRF l ps d a n = (fs N ps a n.toNat, true) := by
  obtain ⟨t, e, t1, t2⟩ := dmaR_fb ht hm hl h0 hn hn2 h1
  rw [e, ba_ext (s := t) (t := fs N ps a n.toNat) (by rw [fs_size]; omega) fun i hi => by rw [t2 i (by omega), fs_at (by omega)]]
end Go.Proofs.YtbdcaacpemkloaaGreat
end
section
namespace Go.Proofs.YtbdcaacpemkloaaGreat
open Go Go.RowKit Go.Vc
set_option linter.unusedVariables false
set_option linter.unusedSimpArgs false
set_option linter.unnecessarySimpa false
theorem enc_u8 {op fl ln at_ sz ck : Int} (h : descB op fl ln at_ sz ck = true) : IntKind.u8.wrap op = op ∧ IntKind.u8.wrap fl = fl := by
  have := descB_iff.1 h
  exact ⟨u8w (by omega) (by omega), u8w (by omega) (by omega)⟩
theorem ring_and {h t s : Int} (hs : sizeB s = true) : andI (t - h) (2 * s - 1) = usedF s h t := by
  have := sizeB_cases hs
  rw [andI_eq, usedF]
  rcases this with rfl | rfl | rfl | rfl
  · exact and_mask_i64 (t - h) 2 (by decide)
  · exact and_mask_i64 (t - h) 3 (by decide)
  · exact and_mask_i64 (t - h) 4 (by decide)
  · exact and_mask_i64 (t - h) 5 (by decide)
theorem and_wr (x m : Int) : andI (wr x) m = andI x m := by
  have e : BitVec.ofInt 64 (wr x) = BitVec.ofInt 64 x := by
    apply BitVec.eq_of_toNat_eq
    rw [BitVec.toNat_ofInt, BitVec.toNat_ofInt, wr_eq]
    unfold wrap64
    omega
  unfold andI Vc.bits
  rw [e]
theorem slot_bd {b s k : Int} (hs : sizeB s = true) (hb : 0 ≤ b ∧ b ≤ 130944) (hk : 0 ≤ k) : k.tmod s = k % s ∧ 0 ≤ k % s ∧ k % s ≤ 15 ∧ ¬ s = 0 := by
  have h := sizeB_cases hs
  have q1 := Int.emod_nonneg k (show s ≠ 0 by omega)
  have q2 := Int.emod_lt_of_pos k (show 0 < s by omega)
  exact ⟨Int.tmod_eq_emod_of_nonneg hk, q1, by omega, by omega⟩
set_option maxHeartbeats 4000000 in
theorem c_impl_DescOk {op fl ln at_ sz ck : Int} : Con0 Tryz.prog 173 [.agg [V op, V fl, V ln, V at_, V sz, V ck]] (B (descB op fl ln at_ sz ck)) [] := by
  refine con_i Tryz.func173 Tryz.ntmps173 (t := [(0, .agg [V op, V fl, V ln, V at_, V sz, V ck])]) rfl ?_
  refine vc_sr ?_
  iterate 2 refine vo ?_
  refine vnt ?_
  refine vc_sr ?_
  iterate 2 refine vo ?_
  refine voc c_impl_between rfl rfl ?_
  refine vo ?_
  refine vsp (fun g1 => ?_) (fun g1 => ?_)
  · iterate 2 refine von ?_
    refine vocn c_impl_between rfl rfl ?_
    iterate 2 refine vo ?_
    refine vsp (fun g2 => ?_) (fun g2 => ?_)
    · iterate 2 refine von ?_
      refine vocn c_impl_between rfl rfl ?_
      iterate 2 refine vo ?_
      refine vsp (fun g3 => ?_) (fun g3 => ?_)
      · iterate 2 refine von ?_
        refine vocn c_impl_between rfl rfl ?_
        iterate 2 refine vo ?_
        refine vsp (fun g4 => ?_) (fun g4 => ?_)
        · iterate 2 refine von ?_
          refine vocn c_impl_between rfl rfl ?_
          iterate 2 refine vo ?_
          refine vsp (fun g5 => ?_) (fun g5 => ?_)
          · iterate 2 refine von ?_
            refine vocn c_impl_between rfl rfl ?_
            iterate 2 refine vo ?_
            refine vnt ?_
            refine vc_ret ?_
            refine fin_i [] rfl (fz ?_) trivial
            simp_all [descB]
          · iterate 3 refine vof ?_
            iterate 2 refine vo ?_
            refine vnt ?_
            refine vc_ret ?_
            refine fin_i [] rfl (fz ?_) trivial
            simp_all [descB]
        · iterate 3 refine vof ?_
          iterate 2 refine vo ?_
          iterate 3 refine vof ?_
          iterate 2 refine vo ?_
          refine vnt ?_
          refine vc_ret ?_
          refine fin_i [] rfl (fz ?_) trivial
          simp_all [descB]
      · iterate 3 refine vof ?_
        iterate 2 refine vo ?_
        iterate 3 refine vof ?_
        iterate 2 refine vo ?_
        iterate 3 refine vof ?_
        iterate 2 refine vo ?_
        refine vnt ?_
        refine vc_ret ?_
        refine fin_i [] rfl (fz ?_) trivial
        simp_all [descB]
    · iterate 3 refine vof ?_
      iterate 2 refine vo ?_
      iterate 3 refine vof ?_
      iterate 2 refine vo ?_
      iterate 3 refine vof ?_
      iterate 2 refine vo ?_
      iterate 3 refine vof ?_
      iterate 2 refine vo ?_
      refine vnt ?_
      refine vc_ret ?_
      refine fin_i [] rfl (fz ?_) trivial
      simp_all [descB]
  · iterate 3 refine vof ?_
    iterate 2 refine vo ?_
    iterate 3 refine vof ?_
    iterate 2 refine vo ?_
    iterate 3 refine vof ?_
    iterate 2 refine vo ?_
    iterate 3 refine vof ?_
    iterate 2 refine vo ?_
    iterate 3 refine vof ?_
    iterate 2 refine vo ?_
    refine vnt ?_
    refine vc_ret ?_
    refine fin_i [] rfl (fz ?_) trivial
    simp_all [descB]
set_option maxHeartbeats 4000000 in
theorem c_impl_EncodeDesc {op fl ln at_ sz ck : Int} : Con0 Tryz.prog 82 [.agg [V op, V fl, V ln, V at_, V sz, V ck]] (Z (encDF op fl ln at_ sz ck)) [] := by
  refine con_i Tryz.func82 Tryz.ntmps82 (t := [(0, .agg [V op, V fl, V ln, V at_, V sz, V ck])]) rfl ?_
  refine vc_sr ?_
  iterate 2 refine vo ?_
  refine vnt ?_
  refine vc_seq' ?_
  refine vc_sr ?_
  refine vo ?_
  refine voc c_impl_DescOk rfl rfl ?_
  refine vo ?_
  refine vnt ?_
  refine vc_if (fun g1 => ?_) (fun g1 => ?_)
  · refine vc_sr ?_
    refine vo ?_
    refine vnt ?_
    refine vc_ret ?_
    refine thn_r ?_
    refine fin_i [] rfl (fz ?_) trivial
    first | (simp [encDF, g1]; done) | (have hw := enc_u8 g1; simp [encDF, g1, encD, hw])
  · refine vc_skip ?_
    refine thn ?_
    refine vc_sr ?_
    iterate 8 refine vo ?_
    refine vs2 ?_
    iterate 2 refine vo ?_
    refine voc c_impl_Word16 rfl rfl ?_
    refine vzs (word16_le _) fun z1 => ?_
    iterate 3 refine vo ?_
    refine voc c_impl_Word32 rfl rfl ?_
    refine vzs (word32_le _) fun z2 => ?_
    iterate 3 refine vo ?_
    refine voc c_impl_Word16 rfl rfl ?_
    refine vzs (word16_le _) fun z3 => ?_
    iterate 3 refine vo ?_
    refine voc c_impl_Word16 rfl rfl ?_
    refine vzs (word16_le _) fun z4 => ?_
    refine vo ?_
    refine voc c_impl_Word32 rfl rfl ?_
    refine vzs (word32_le _) fun z5 => ?_
    iterate 2 refine vo ?_
    refine vnt ?_
    refine vc_ret ?_
    refine fin_i [] rfl (fz ?_) trivial
    first | (simp [encDF, g1]; done) | (have hw := enc_u8 g1; simp [encDF, g1, encD, hw])
set_option maxHeartbeats 4000000 in
theorem c_spec_DescOk {op fl ln at_ sz ck : Int} : Con0 Tryz.prog 160 [.agg [V op, V fl, V ln, V at_, V sz, V ck]] (B (descB op fl ln at_ sz ck)) [] := by
  refine con_i Tryz.func160 Tryz.ntmps160 (t := [(0, .agg [V op, V fl, V ln, V at_, V sz, V ck])]) rfl ?_
  refine vc_sr ?_
  iterate 2 refine vo ?_
  refine vnt ?_
  refine vc_sr ?_
  iterate 2 refine vo ?_
  refine voc c_spec_l01In rfl rfl ?_
  refine vo ?_
  refine vsp (fun g1 => ?_) (fun g1 => ?_)
  · iterate 2 refine von ?_
    refine vocn c_spec_l01In rfl rfl ?_
    iterate 2 refine vo ?_
    refine vsp (fun g2 => ?_) (fun g2 => ?_)
    · iterate 2 refine von ?_
      refine vocn c_spec_l01In rfl rfl ?_
      iterate 2 refine vo ?_
      refine vsp (fun g3 => ?_) (fun g3 => ?_)
      · iterate 2 refine von ?_
        refine vocn c_spec_l01In rfl rfl ?_
        iterate 2 refine vo ?_
        refine vsp (fun g4 => ?_) (fun g4 => ?_)
        · iterate 2 refine von ?_
          refine vocn c_spec_l01In rfl rfl ?_
          iterate 2 refine vo ?_
          refine vsp (fun g5 => ?_) (fun g5 => ?_)
          · iterate 2 refine von ?_
            refine vocn c_spec_l01In rfl rfl ?_
            iterate 2 refine vo ?_
            refine vnt ?_
            refine vc_ret ?_
            refine fin_i [] rfl (fz ?_) trivial
            simp_all [descB]
          · iterate 3 refine vof ?_
            iterate 2 refine vo ?_
            refine vnt ?_
            refine vc_ret ?_
            refine fin_i [] rfl (fz ?_) trivial
            simp_all [descB]
        · iterate 3 refine vof ?_
          iterate 2 refine vo ?_
          iterate 3 refine vof ?_
          iterate 2 refine vo ?_
          refine vnt ?_
          refine vc_ret ?_
          refine fin_i [] rfl (fz ?_) trivial
          simp_all [descB]
      · iterate 3 refine vof ?_
        iterate 2 refine vo ?_
        iterate 3 refine vof ?_
        iterate 2 refine vo ?_
        iterate 3 refine vof ?_
        iterate 2 refine vo ?_
        refine vnt ?_
        refine vc_ret ?_
        refine fin_i [] rfl (fz ?_) trivial
        simp_all [descB]
    · iterate 3 refine vof ?_
      iterate 2 refine vo ?_
      iterate 3 refine vof ?_
      iterate 2 refine vo ?_
      iterate 3 refine vof ?_
      iterate 2 refine vo ?_
      iterate 3 refine vof ?_
      iterate 2 refine vo ?_
      refine vnt ?_
      refine vc_ret ?_
      refine fin_i [] rfl (fz ?_) trivial
      simp_all [descB]
  · iterate 3 refine vof ?_
    iterate 2 refine vo ?_
    iterate 3 refine vof ?_
    iterate 2 refine vo ?_
    iterate 3 refine vof ?_
    iterate 2 refine vo ?_
    iterate 3 refine vof ?_
    iterate 2 refine vo ?_
    iterate 3 refine vof ?_
    iterate 2 refine vo ?_
    refine vnt ?_
    refine vc_ret ?_
    refine fin_i [] rfl (fz ?_) trivial
    simp_all [descB]
set_option maxHeartbeats 4000000 in
theorem c_spec_EncodeDesc {op fl ln at_ sz ck : Int} : Con0 Tryz.prog 70 [.agg [V op, V fl, V ln, V at_, V sz, V ck]] (Z (encDF op fl ln at_ sz ck)) [] := by
  refine con_i Tryz.func70 Tryz.ntmps70 (t := [(0, .agg [V op, V fl, V ln, V at_, V sz, V ck])]) rfl ?_
  refine vc_sr ?_
  iterate 2 refine vo ?_
  refine vnt ?_
  refine vc_seq' ?_
  refine vc_sr ?_
  refine vo ?_
  refine voc c_spec_DescOk rfl rfl ?_
  refine vo ?_
  refine vnt ?_
  refine vc_if (fun g1 => ?_) (fun g1 => ?_)
  · refine vc_sr ?_
    refine vo ?_
    refine vnt ?_
    refine vc_ret ?_
    refine thn_r ?_
    refine fin_i [] rfl (fz ?_) trivial
    first | (simp [encDF, g1]; done) | (have hw := enc_u8 g1; simp [encDF, g1, encD, hw])
  · refine vc_skip ?_
    refine thn ?_
    refine vc_sr ?_
    iterate 8 refine vo ?_
    refine vs2 ?_
    iterate 2 refine vo ?_
    refine voc c_spec_Word16 rfl rfl ?_
    refine vzs (word16_le _) fun z1 => ?_
    iterate 3 refine vo ?_
    refine voc c_spec_Word32 rfl rfl ?_
    refine vzs (word32_le _) fun z2 => ?_
    iterate 3 refine vo ?_
    refine voc c_spec_Word16 rfl rfl ?_
    refine vzs (word16_le _) fun z3 => ?_
    iterate 3 refine vo ?_
    refine voc c_spec_Word16 rfl rfl ?_
    refine vzs (word16_le _) fun z4 => ?_
    refine vo ?_
    refine voc c_spec_Word32 rfl rfl ?_
    refine vzs (word32_le _) fun z5 => ?_
    iterate 2 refine vo ?_
    refine vnt ?_
    refine vc_ret ?_
    refine fin_i [] rfl (fz ?_) trivial
    first | (simp [encDF, g1]; done) | (have hw := enc_u8 g1; simp [encDF, g1, encD, hw])
set_option maxHeartbeats 4000000 in
theorem c_impl_SlotAddress {b s h t k : Int} (hr : ringOkB b s h t = true := by assumption) (hk : 0 ≤ k := by omega) : Con0 Tryz.prog 232 [.agg [V b, V s, V h, V t], I k] (I (rslot b s k)) [] := by
  have hf := ringOk_facts hr
  have hm := slot_bd hf.1 ⟨hf.2.1, hf.2.2.1⟩ hk
  refine con_i Tryz.func232 Tryz.ntmps232 (t := [(0, .agg [V b, V s, V h, V t]), (1, I k)]) rfl ?_
  refine vc_sr ?_
  iterate 2 refine vo ?_
  refine vnt ?_
  refine vc_seq' ?_
  refine vc_sr ?_
  refine vo ?_
  refine voc c_impl_RingOk rfl rfl ?_
  iterate 2 refine vo ?_
  refine vsp (fun g1 => ?_) (fun g1 => ?_)
  · iterate 2 refine vof ?_
    refine vo ?_
    refine vnt ?_
    refine vc_then ?_
    refine vc_sr ?_
    refine vo ?_
    refine vnt ?_
    refine vc_ret ?_
    refine thn_r ?_
    refine fin_i [] rfl (fz ?_) trivial
    first | (simp_all; done) | omega | (rw [rslot, hm.1]; done) | (rw [rslot, hm.1]; omega)
  · iterate 2 refine von ?_
    refine vo ?_
    refine vnt ?_
    refine vc_if (fun g2 => ?_) (fun g2 => ?_)
    · refine vc_sr ?_
      refine vo ?_
      refine vnt ?_
      refine vc_ret ?_
      refine thn_r ?_
      refine fin_i [] rfl (fz ?_) trivial
      first | (simp_all; done) | omega | (rw [rslot, hm.1]; done) | (rw [rslot, hm.1]; omega)
    · refine vc_skip ?_
      refine thn ?_
      refine vc_sr ?_
      iterate 7 refine vo ?_
      try refine vwr ?_
      refine vo ?_
      try refine vwr ?_
      refine vo ?_
      refine vnt ?_
      refine vc_ret ?_
      refine fin_i [] rfl (fz ?_) trivial
      first | (simp_all; done) | omega | (rw [rslot, hm.1]; done) | (rw [rslot, hm.1]; omega)
set_option maxHeartbeats 4000000 in
theorem c_spec_RingUsed {b s h t : Int} (h0 : sizeB s = true := by assumption) : Con0 Tryz.prog 157 [.agg [V b, V s, V h, V t]] (I (usedF s h t)) [] := by
  have hs := sizeB_cases h0
  refine con_i Tryz.func157 Tryz.ntmps157 (t := [(0, .agg [V b, V s, V h, V t])]) rfl ?_
  refine vc_sr ?_
  iterate 2 refine vo ?_
  refine vnt ?_
  refine vc_seq' ?_
  refine vc_sr ?_
  iterate 2 refine vo ?_
  refine voc c_spec_l20Size rfl rfl ?_
  refine vo ?_
  refine vnt ?_
  refine vc_if (fun g1 => ?_) (fun g1 => ?_)
  · refine vc_sr ?_
    refine vo ?_
    refine vnt ?_
    refine vc_ret ?_
    refine thn_r ?_
    refine fin_i [] rfl (fz ?_) trivial
    first | (simp_all; done) | (rw [and_wr, ring_and h0])
  · refine vc_skip ?_
    refine thn ?_
    refine vc_sr ?_
    iterate 5 refine vo ?_
    try refine vwr ?_
    iterate 3 refine vo ?_
    try refine vwr ?_
    refine vo ?_
    try refine vwr ?_
    iterate 2 refine vo ?_
    refine vnt ?_
    refine vc_ret ?_
    refine fin_i [] rfl (fz ?_) trivial
    first | (simp_all; done) | (rw [and_wr, ring_and h0])
set_option maxHeartbeats 4000000 in
theorem c_spec_RingOk {b s h t : Int} : Con0 Tryz.prog 156 [.agg [V b, V s, V h, V t]] (B (ringOkB b s h t)) [] := by
  refine con_i Tryz.func156 Tryz.ntmps156 (t := [(0, .agg [V b, V s, V h, V t])]) rfl ?_
  refine vc_sr ?_
  iterate 2 refine vo ?_
  refine vnt ?_
  refine vc_sr ?_
  iterate 2 refine vo ?_
  refine voc c_spec_l01In rfl rfl ?_
  refine vo ?_
  refine vsp (fun g1 => ?_) (fun g1 => ?_)
  · iterate 2 refine von ?_
    refine vocn c_spec_l20Size rfl rfl ?_
    iterate 2 refine vo ?_
    refine vsp (fun g2 => ?_) (fun g2 => ?_)
    · have hs := sizeB_cases g2
      iterate 5 refine von ?_
      try refine vwr ?_
      refine von ?_
      try refine vwr ?_
      refine vocn c_spec_l01In rfl rfl ?_
      iterate 2 refine vo ?_
      refine vsp (fun g3 => ?_) (fun g3 => ?_)
      · iterate 5 refine von ?_
        try refine vwr ?_
        refine von ?_
        try refine vwr ?_
        refine vocn c_spec_l01In rfl rfl ?_
        iterate 2 refine vo ?_
        refine vsp (fun g4 => ?_) (fun g4 => ?_)
        · refine von ?_
          refine vocn c_spec_RingUsed rfl rfl ?_
          iterate 3 refine von ?_
          iterate 2 refine vo ?_
          refine vnt ?_
          refine vc_ret ?_
          refine fin_i [] rfl (fz ?_) trivial
          simp_all [ringOkB, usedF]
          try rfl
        · iterate 5 refine vof ?_
          iterate 2 refine vo ?_
          refine vnt ?_
          refine vc_ret ?_
          refine fin_i [] rfl (fz ?_) trivial
          simp_all [ringOkB, usedF]
          try rfl
      · iterate 7 refine vof ?_
        iterate 2 refine vo ?_
        iterate 5 refine vof ?_
        iterate 2 refine vo ?_
        refine vnt ?_
        refine vc_ret ?_
        refine fin_i [] rfl (fz ?_) trivial
        simp_all [ringOkB, usedF]
        try rfl
    · iterate 7 refine vof ?_
      iterate 2 refine vo ?_
      iterate 7 refine vof ?_
      iterate 2 refine vo ?_
      iterate 5 refine vof ?_
      iterate 2 refine vo ?_
      refine vnt ?_
      refine vc_ret ?_
      refine fin_i [] rfl (fz ?_) trivial
      simp_all [ringOkB, usedF]
      try rfl
  · iterate 3 refine vof ?_
    iterate 2 refine vo ?_
    iterate 7 refine vof ?_
    iterate 2 refine vo ?_
    iterate 7 refine vof ?_
    iterate 2 refine vo ?_
    iterate 5 refine vof ?_
    iterate 2 refine vo ?_
    refine vnt ?_
    refine vc_ret ?_
    refine fin_i [] rfl (fz ?_) trivial
    simp_all [ringOkB, usedF]
    try rfl
set_option maxHeartbeats 4000000 in
theorem c_spec_SlotAddress {b s h t k : Int} (hr : ringOkB b s h t = true := by assumption) (hk : 0 ≤ k := by omega) : Con0 Tryz.prog 225 [.agg [V b, V s, V h, V t], I k] (I (rslot b s k)) [] := by
  have hf := ringOk_facts hr
  have hm := slot_bd hf.1 ⟨hf.2.1, hf.2.2.1⟩ hk
  refine con_i Tryz.func225 Tryz.ntmps225 (t := [(0, .agg [V b, V s, V h, V t]), (1, I k)]) rfl ?_
  refine vc_sr ?_
  iterate 2 refine vo ?_
  refine vnt ?_
  refine vc_seq' ?_
  refine vc_sr ?_
  refine vo ?_
  refine voc c_spec_RingOk rfl rfl ?_
  iterate 2 refine vo ?_
  refine vsp (fun g1 => ?_) (fun g1 => ?_)
  · iterate 2 refine vof ?_
    refine vo ?_
    refine vnt ?_
    refine vc_then ?_
    refine vc_sr ?_
    refine vo ?_
    refine vnt ?_
    refine vc_ret ?_
    refine thn_r ?_
    refine fin_i [] rfl (fz ?_) trivial
    first | (simp_all; done) | omega | (rw [rslot, hm.1]; done) | (rw [rslot, hm.1]; omega)
  · iterate 2 refine von ?_
    refine vo ?_
    refine vnt ?_
    refine vc_if (fun g2 => ?_) (fun g2 => ?_)
    · refine vc_sr ?_
      refine vo ?_
      refine vnt ?_
      refine vc_ret ?_
      refine thn_r ?_
      refine fin_i [] rfl (fz ?_) trivial
      first | (simp_all; done) | omega | (rw [rslot, hm.1]; done) | (rw [rslot, hm.1]; omega)
    · refine vc_skip ?_
      refine thn ?_
      refine vc_sr ?_
      iterate 7 refine vo ?_
      try refine vwr ?_
      refine vo ?_
      try refine vwr ?_
      refine vo ?_
      refine vnt ?_
      refine vc_ret ?_
      refine fin_i [] rfl (fz ?_) trivial
      first | (simp_all; done) | omega | (rw [rslot, hm.1]; done) | (rw [rslot, hm.1]; omega)
end Go.Proofs.YtbdcaacpemkloaaGreat
end
section
namespace Go.Proofs.YtbdcaacpemkloaaGreat
open Go Go.RowKit Go.Vc
set_option linter.unusedVariables false
set_option linter.unusedSimpArgs false
set_option linter.unnecessarySimpa false
set_option maxHeartbeats 4000000 in
theorem c_impl_copyStrings {ps : Pg} (hp : ps.length ≤ 1099511627776 := by first | assumption | omega) : Con0 Tryz.prog 163 [.one (.sl 1 (ps.map strE))] (.one (.hs 0)) [(0, .arr 9 1 ((ps).map strE))] := by
  refine con_i Tryz.func163 Tryz.ntmps163 (t := [(0, .one (.sl 1 (ps.map strE)))]) rfl ?_
  refine vc_sr ?_
  refine vo ?_
  refine vnt ?_
  refine vc_sr ?_
  iterate 4 refine vo ?_
  refine vnt ?_
  refine vc_ret ?_
  refine fin_i [(0, some 40)] rfl (fz ?_) (fz ?_) <;> first | trivial | rfl
set_option maxHeartbeats 4000000 in
theorem c_impl_copyMemory {ps : Pg} (hp : ps.length ≤ 1099511627776 := by first | assumption | omega) : Con0 Tryz.prog 72 [.agg [.sl 1 (ps.map strE)]] (.agg [.hs 0]) [(0, .arr 9 1 ((ps).map strE))] := by
  refine con_i Tryz.func72 Tryz.ntmps72 (t := [(0, .agg [.sl 1 (ps.map strE)])]) rfl ?_
  refine vc_sr ?_
  iterate 2 refine vo ?_
  refine vnt ?_
  refine vc_sr ?_
  iterate 2 refine vo ?_
  refine voc c_impl_copyStrings rfl rfl ?_
  iterate 2 refine vo ?_
  refine vnt ?_
  refine vc_ret ?_
  refine fin_i [(0, some 40)] rfl (fz ?_) (fz ?_) <;> first | trivial | rfl
set_option maxHeartbeats 4000000 in
theorem c_spec_l16Copy {ps : Pg} (hp : ps.length ≤ 1099511627776 := by first | assumption | omega) : Con0 Tryz.prog 62 [.agg [.sl 1 (ps.map strE)]] (.agg [.hs 0]) [(0, .arr 9 1 ((ps).map strE))] := by
  refine con_i Tryz.func62 Tryz.ntmps62 (t := [(0, .agg [.sl 1 (ps.map strE)])]) rfl ?_
  refine vc_sr ?_
  iterate 2 refine vo ?_
  refine vnt ?_
  refine vc_sr ?_
  iterate 6 refine vo ?_
  refine vnt ?_
  refine vc_ret ?_
  refine fin_i [(0, some 48)] rfl (fz ?_) (fz ?_) <;> first | trivial | rfl
section
variable {P : Program} [TyEnv P] {n : Nat} {ops os : List Oper} {dr : Bool} {K : Tm → Hp → Prop} {t : Tm} {H : Hp} {fp : List Fp} {d : Nat}
theorem vep {sz i k : Nat} {es : List (List Value)} (h : Vd P n ops dr K os ((d, .one (.ep sz es i k)) :: t) H fp) : Vd P n ops dr K os ((d, .one (.ep sz es (Int.toNat (i : Nat)) k)) :: t) H fp := h
theorem vpt {j sz i k : Nat} (h : Vd P n ops dr K os ((d, .one (.ptr j i sz k)) :: t) H fp) : Vd P n ops dr K os ((d, .one (.ptr j (Int.toNat (i : Nat)) sz k)) :: t) H fp := h
end
theorem at_eq {α : Type} [Inhabited α] {l : List α} {i : Nat} (h : i < l.length) : at' l i = l[i] := by unfold at'; rw [List.getElem?_eq_getElem h]; rfl
theorem mem_stp {ps : Pg} {i : Nat} (h : ∀ j (g : j < ps.length), j < i → ps[j].size = 128) (hi : i < ps.length) (hs : ((at' ps i).size : Int) = 128) : ∀ j (g : j < ps.length), j < i + 1 → ps[j].size = 128 := fun j g hj => by
  rcases Nat.lt_or_ge j i with h2 | h2
  · exact h j g h2
  · obtain rfl : j = i := by omega
    rw [at_eq hi] at hs; omega
theorem mem_bad {ps : Pg} {i : Nat} (hi : i < ps.length) (hs : ¬ ((at' ps i).size : Int) = 128) : memOk ps = false := memOk_bad hi (by rw [at_eq hi] at hs; omega)
theorem mem_end {ps : Pg} {i : Nat} (h : ∀ j (g : j < ps.length), j < i → ps[j].size = 128) (hi : ¬ i < ps.length) : memOk ps = decide ((ps.length : Int) ≤ 64) := memOk_all fun k g => h k g (by omega)
theorem mpIdx_end {l : List Mp} {d v : Int} {i : Nat} (h : mpIdx l d v = mpIdxF d v i (l.drop i)) (hi : ¬ i < l.length) : mpIdx l d v = -1 := by
  rw [h, List.drop_eq_nil_of_le (by omega)]; rfl
theorem mpIdx_hit {l : List Mp} {d v : Int} {i : Nat} (h : mpIdx l d v = mpIdxF d v i (l.drop i)) (hi : i < l.length) (h1 : (at' l i).1 = d) (h2 : (at' l i).2.1 = v) : mpIdx l d v = i := by
  rw [h, drop_at hi]; simp [mpIdxF, Go.hit, h1, h2]
theorem mpIdx_go {l : List Mp} {d v : Int} {i : Nat} (h : mpIdx l d v = mpIdxF d v i (l.drop i)) (hi : i < l.length) (hh : ¬ ((at' l i).1 = d ∧ (at' l i).2.1 = v)) : mpIdx l d v = mpIdxF d v (i + 1) (l.drop (i + 1)) := by
  rw [h, drop_at hi]
  have : Go.hit (at' l i) d v = false := hit_no.2 hh
  simp [mpIdxF, this]
set_option maxHeartbeats 4000000 in
theorem c_impl_MemoryOk {ps : Pg} (hp : ps.length ≤ 1099511627776 := by first | assumption | omega) : Con0 Tryz.prog 245 [.agg [.sl 1 (ps.map strE)]] (B (memOk ps)) [] := by
  refine con_i Tryz.func245 Tryz.ntmps245 (t := [(0, .agg [.sl 1 (ps.map strE)])]) rfl ?_
  refine vc_sr ?_
  iterate 2 refine vo ?_
  refine vnt ?_
  refine vc_seq' ?_
  refine vc_sr ?_
  iterate 3 refine vo ?_
  try refine vln ?_
  refine vo ?_
  refine vnt ?_
  refine vc_block ?_
  refine vc_lp (σ := Nat) [1, 6, 7] [8] (fun i => [(8, I (i : Nat))]) (fun i => []) (fun i => i ≤ ps.length ∧ ∀ j (g : j < ps.length), j < i → ps[j].size = 128) (fun i => ps.length - i) 0 rfl rfl (sub_i [] (fz ?_) (fz ?_)) ?_ fun i hI => ?_
  · first | trivial | rfl
  · first | trivial | rfl | (exact ⟨rfl, trivial⟩)
  · exact ⟨Nat.zero_le _, fun j g h => by omega⟩
  refine vc_nf rfl rfl ?_
  refine vc_sr ?_
  refine vo ?_
  refine vnt ?_
  refine vc_seq' ?_
  refine vc_if (fun g1 => ?_) (fun g1 => ?_)
  · refine vc_skip ?_
    refine thn ?_
    refine vc_seq' ?_
    refine vc_block ?_
    refine vc_sr ?_
    iterate 3 refine vo ?_
    refine vnt ?_
    refine vc_sr ?_
    iterate 3 refine vo ?_
    refine vnt ?_
    refine vc_if (fun g2 => ?_) (fun g2 => ?_)
    · refine vc_sr ?_
      refine vo ?_
      refine vnt ?_
      refine vc_ret ?_
      refine inB_r ?_
      refine thn_r ?_
      refine thn_r ?_
      refine inB_r ?_
      refine thn_r ?_
      refine fin_i [] rfl (fz ?_) trivial
      exact mem_bad g1 g2
    · refine vc_skip ?_
      refine inB_n ?_
      refine thn ?_
      refine vc_region ?_
      refine vo ?_
      try refine vwr ?_
      refine vo ?_
      refine vnt ?_
      refine ⟨i + 1, ?_, ?_, sub_i [] (fz ?_) (fz ?_)⟩
      · exact ⟨by omega, mem_stp hI.2 g1 g2⟩
      · omega
      · first | rfl | trivial
      · first | trivial
  · refine vc_exit ?_
    refine thn_x ?_
    refine thn_x ?_
    refine inB_x ?_
    refine thn ?_
    refine vc_sr ?_
    iterate 3 refine vo ?_
    try refine vln ?_
    iterate 2 refine vo ?_
    refine vnt ?_
    refine vc_ret ?_
    refine fin_i [] rfl (fz ?_) trivial
    exact mem_end hI.2 g1
set_option maxHeartbeats 4000000 in
theorem c_spec_MemoryOk {ps : Pg} (hp : ps.length ≤ 1099511627776 := by first | assumption | omega) : Con0 Tryz.prog 240 [.agg [.sl 1 (ps.map strE)]] (B (memOk ps)) [] := by
  refine con_i Tryz.func240 Tryz.ntmps240 (t := [(0, .agg [.sl 1 (ps.map strE)])]) rfl ?_
  refine vc_sr ?_
  iterate 2 refine vo ?_
  refine vnt ?_
  refine vc_seq' ?_
  refine vc_sr ?_
  refine vo ?_
  refine vnt ?_
  refine vc_block ?_
  refine vc_lp (σ := Nat) [1] [8] (fun i => [(3, I (i : Nat))]) (fun i => []) (fun i => i ≤ ps.length ∧ ∀ j (g : j < ps.length), j < i → ps[j].size = 128) (fun i => ps.length - i) 0 rfl rfl (sub_i [] (fz ?_) (fz ?_)) ?_ fun i hI => ?_
  · first | trivial | rfl
  · first | trivial | rfl | (exact ⟨rfl, trivial⟩)
  · exact ⟨Nat.zero_le _, fun j g h => by omega⟩
  refine vc_nf rfl rfl ?_
  refine vc_seq' ?_
  refine vc_sr ?_
  iterate 4 refine vo ?_
  try refine vln ?_
  refine vo ?_
  refine vnt ?_
  refine vc_if (fun g1 => ?_) (fun g1 => ?_)
  · refine vc_skip ?_
    refine thn ?_
    refine vc_seq' ?_
    refine vc_block ?_
    refine vc_sr ?_
    iterate 7 refine vo ?_
    refine vnt ?_
    refine vc_if (fun g2 => ?_) (fun g2 => ?_)
    · refine vc_sr ?_
      refine vo ?_
      refine vnt ?_
      refine vc_ret ?_
      refine inB_r ?_
      refine thn_r ?_
      refine thn_r ?_
      refine inB_r ?_
      refine thn_r ?_
      refine fin_i [] rfl (fz ?_) trivial
      exact mem_bad g1 g2
    · refine vc_skip ?_
      refine inB_n ?_
      refine thn ?_
      refine vc_region ?_
      iterate 2 refine vo ?_
      try refine vwr ?_
      refine vo ?_
      refine vnt ?_
      refine ⟨i + 1, ?_, ?_, sub_i [] (fz ?_) (fz ?_)⟩
      · exact ⟨by omega, mem_stp hI.2 g1 g2⟩
      · omega
      · first | rfl | trivial
      · first | trivial
  · refine vc_exit ?_
    refine thn_x ?_
    refine thn_x ?_
    refine inB_x ?_
    refine thn ?_
    refine vc_sr ?_
    iterate 3 refine vo ?_
    try refine vln ?_
    iterate 2 refine vo ?_
    refine vnt ?_
    refine vc_ret ?_
    refine fin_i [] rfl (fz ?_) trivial
    exact mem_end hI.2 g1
set_option maxHeartbeats 4000000 in
theorem c_impl_within {ps : Pg} {a n : Int} (hp : ps.length ≤ 1099511627776 := by first | assumption | omega) : Con0 Tryz.prog 247 [.agg [.sl 1 (ps.map strE)], I a, I n] (B (memInB ps a n)) [] := by
  refine con_i Tryz.func247 Tryz.ntmps247 (t := [(0, .agg [.sl 1 (ps.map strE)]), (1, I a), (2, I n)]) rfl ?_
  refine vc_sr ?_
  iterate 2 refine vo ?_
  refine vnt ?_
  refine vc_sr ?_
  iterate 3 refine vo ?_
  try refine vln ?_
  refine vo ?_
  try refine vwr ?_
  refine vo ?_
  refine vnt ?_
  refine vc_sr ?_
  refine vo ?_
  refine voc c_impl_MemoryOk rfl rfl ?_
  refine vo ?_
  refine vsp (fun g1 => ?_) (fun g1 => ?_)
  · iterate 2 refine von ?_
    iterate 2 refine vo ?_
    refine vsp (fun g2 => ?_) (fun g2 => ?_)
    · iterate 3 refine von ?_
      iterate 2 refine vo ?_
      refine vsp (fun g3 => ?_) (fun g3 => ?_)
      · iterate 2 refine von ?_
        iterate 2 refine vo ?_
        refine vsp (fun g4 => ?_) (fun g4 => ?_)
        · iterate 4 refine von ?_
          try refine vwr ?_
          refine von ?_
          iterate 2 refine vo ?_
          refine vnt ?_
          refine vc_ret ?_
          refine fin_i [] rfl (fz ?_) trivial
          simp [memInB, g1]
          try first | omega | (rw [Bool.eq_iff_iff]; simp; omega)
        · iterate 5 refine vof ?_
          iterate 2 refine vo ?_
          refine vnt ?_
          refine vc_ret ?_
          refine fin_i [] rfl (fz ?_) trivial
          simp [memInB, g1]
          try first | omega | (rw [Bool.eq_iff_iff]; simp; omega)
      · iterate 2 refine vof ?_
        iterate 2 refine vo ?_
        iterate 5 refine vof ?_
        iterate 2 refine vo ?_
        refine vnt ?_
        refine vc_ret ?_
        refine fin_i [] rfl (fz ?_) trivial
        simp [memInB, g1]
        try first | omega | (rw [Bool.eq_iff_iff]; simp; omega)
    · iterate 3 refine vof ?_
      iterate 2 refine vo ?_
      iterate 2 refine vof ?_
      iterate 2 refine vo ?_
      iterate 5 refine vof ?_
      iterate 2 refine vo ?_
      refine vnt ?_
      refine vc_ret ?_
      refine fin_i [] rfl (fz ?_) trivial
      simp [memInB, g1]
      try first | omega | (rw [Bool.eq_iff_iff]; simp; omega)
  · iterate 2 refine vof ?_
    iterate 2 refine vo ?_
    iterate 3 refine vof ?_
    iterate 2 refine vo ?_
    iterate 2 refine vof ?_
    iterate 2 refine vo ?_
    iterate 5 refine vof ?_
    iterate 2 refine vo ?_
    refine vnt ?_
    refine vc_ret ?_
    refine fin_i [] rfl (fz ?_) trivial
    simp [memInB, g1]
    try first | omega | (rw [Bool.eq_iff_iff]; simp; omega)
set_option maxHeartbeats 4000000 in
theorem c_spec_l16Within {ps : Pg} {a n : Int} (hp : ps.length ≤ 1099511627776 := by first | assumption | omega) : Con0 Tryz.prog 242 [.agg [.sl 1 (ps.map strE)], I a, I n] (B (memInB ps a n)) [] := by
  refine con_i Tryz.func242 Tryz.ntmps242 (t := [(0, .agg [.sl 1 (ps.map strE)]), (1, I a), (2, I n)]) rfl ?_
  refine vc_sr ?_
  iterate 2 refine vo ?_
  refine vnt ?_
  refine vc_sr ?_
  iterate 3 refine vo ?_
  try refine vln ?_
  refine vo ?_
  try refine vwr ?_
  refine vo ?_
  refine vnt ?_
  refine vc_sr ?_
  refine vo ?_
  refine voc c_spec_MemoryOk rfl rfl ?_
  refine vo ?_
  refine vsp (fun g1 => ?_) (fun g1 => ?_)
  · iterate 2 refine von ?_
    iterate 2 refine vo ?_
    refine vsp (fun g2 => ?_) (fun g2 => ?_)
    · iterate 2 refine von ?_
      iterate 2 refine vo ?_
      refine vsp (fun g3 => ?_) (fun g3 => ?_)
      · iterate 3 refine von ?_
        iterate 2 refine vo ?_
        refine vsp (fun g4 => ?_) (fun g4 => ?_)
        · iterate 4 refine von ?_
          try refine vwr ?_
          refine von ?_
          iterate 2 refine vo ?_
          refine vnt ?_
          refine vc_ret ?_
          refine fin_i [] rfl (fz ?_) trivial
          simp [memInB, g1]
          try first | omega | (rw [Bool.eq_iff_iff]; simp; omega)
        · iterate 5 refine vof ?_
          iterate 2 refine vo ?_
          refine vnt ?_
          refine vc_ret ?_
          refine fin_i [] rfl (fz ?_) trivial
          simp [memInB, g1]
          try first | omega | (rw [Bool.eq_iff_iff]; simp; omega)
      · iterate 3 refine vof ?_
        iterate 2 refine vo ?_
        iterate 5 refine vof ?_
        iterate 2 refine vo ?_
        refine vnt ?_
        refine vc_ret ?_
        refine fin_i [] rfl (fz ?_) trivial
        simp [memInB, g1]
        try first | omega | (rw [Bool.eq_iff_iff]; simp; omega)
    · iterate 2 refine vof ?_
      iterate 2 refine vo ?_
      iterate 3 refine vof ?_
      iterate 2 refine vo ?_
      iterate 5 refine vof ?_
      iterate 2 refine vo ?_
      refine vnt ?_
      refine vc_ret ?_
      refine fin_i [] rfl (fz ?_) trivial
      simp [memInB, g1]
      try first | omega | (rw [Bool.eq_iff_iff]; simp; omega)
  · iterate 2 refine vof ?_
    iterate 2 refine vo ?_
    iterate 2 refine vof ?_
    iterate 2 refine vo ?_
    iterate 3 refine vof ?_
    iterate 2 refine vo ?_
    iterate 5 refine vof ?_
    iterate 2 refine vo ?_
    refine vnt ?_
    refine vc_ret ?_
    refine fin_i [] rfl (fz ?_) trivial
    simp [memInB, g1]
    try first | omega | (rw [Bool.eq_iff_iff]; simp; omega)
set_option maxHeartbeats 4000000 in
theorem c_impl_pageMapping {l : List Mp} {d v : Int} (hl : l.length ≤ 1099511627776 := by first | assumption | omega) : Con0 Tryz.prog 262 [.one (.sl 4 (l.map mpE)), I d, I v] (I (mpIdx l d v)) [] := by
  refine con_i Tryz.func262 Tryz.ntmps262 (t := [(0, .one (.sl 4 (l.map mpE))), (1, I d), (2, I v)]) rfl ?_
  refine vc_sr ?_
  refine vo ?_
  refine vnt ?_
  refine vc_seq' ?_
  refine vc_sr ?_
  iterate 2 refine vo ?_
  try refine vln ?_
  refine vo ?_
  refine vnt ?_
  refine vc_block ?_
  refine vc_lp (σ := Nat) [1, 2, 9, 10] [] (fun i => [(11, I (i : Nat))]) (fun i => []) (fun i => i ≤ l.length ∧ mpIdx l d v = mpIdxF d v i (l.drop i)) (fun i => l.length - i) 0 rfl rfl (sub_i [] (fz ?_) (fz ?_)) ?_ fun i hI => ?_
  · first | trivial | rfl
  · first | trivial | rfl
  · exact ⟨Nat.zero_le _, rfl⟩
  refine vc_nf rfl rfl ?_
  refine vc_sr ?_
  refine vo ?_
  refine vnt ?_
  refine vc_seq' ?_
  refine vc_if (fun g1 => ?_) (fun g1 => ?_)
  · refine vc_skip ?_
    refine thn ?_
    refine vc_seq' ?_
    refine vc_block ?_
    refine vc_sr ?_
    iterate 6 refine vo ?_
    refine vnt ?_
    refine vc_sr ?_
    iterate 5 refine vo ?_
    refine vsp (fun g2 => ?_) (fun g2 => ?_)
    · iterate 4 refine von ?_
      refine vo ?_
      refine vnt ?_
      refine vc_if (fun g3 => ?_) (fun g3 => ?_)
      · refine vc_sr ?_
        iterate 2 refine vo ?_
        refine vnt ?_
        refine vc_ret ?_
        refine inB_r ?_
        refine thn_r ?_
        refine thn_r ?_
        refine inB_r ?_
        refine thn_r ?_
        refine fin_i [] rfl (fz ?_) trivial
        exact mpIdx_hit hI.2 g1 g2 g3
      · refine vc_skip ?_
        refine inB_n ?_
        refine thn ?_
        refine vc_region ?_
        refine vo ?_
        try refine vwr ?_
        refine vo ?_
        refine vnt ?_
        refine ⟨i + 1, ?_, ?_, sub_i [] (fz ?_) (fz ?_)⟩
        · exact ⟨by omega, mpIdx_go hI.2 g1 fun h => by simp_all⟩
        · omega
        · first | rfl | trivial
        · first | trivial
    · iterate 4 refine vof ?_
      refine vo ?_
      refine vnt ?_
      refine vc_else ?_
      refine vc_skip ?_
      refine inB_n ?_
      refine thn ?_
      refine vc_region ?_
      refine vo ?_
      try refine vwr ?_
      refine vo ?_
      refine vnt ?_
      refine ⟨i + 1, ?_, ?_, sub_i [] (fz ?_) (fz ?_)⟩
      · exact ⟨by omega, mpIdx_go hI.2 g1 fun h => by simp_all⟩
      · omega
      · first | rfl | trivial
      · first | trivial
  · refine vc_exit ?_
    refine thn_x ?_
    refine thn_x ?_
    refine inB_x ?_
    refine thn ?_
    refine vc_sr ?_
    refine vo ?_
    refine vnt ?_
    refine vc_ret ?_
    refine fin_i [] rfl (fz ?_) trivial
    exact mpIdx_end hI.2 g1
theorem mp_bad {l : List Mp} {i : Nat} (hi : i < l.length) (h : inB (at' l i).1 0 7 = false ∨ inB (at' l i).2.1 0 1023 = false ∨ inB (at' l i).2.2.1 0 63 = false ∨ ¬ mpIdx l (at' l i).1 (at' l i).2.1 = i) : mapsOk l = false := by
  rw [at_eq hi] at h
  refine mapsOk_bad hi fun hg => ?_
  obtain ⟨⟨h1, h2, h3⟩, h4⟩ := hg hi
  rcases h with h | h | h | h
  · rw [inB_iff.2 h1] at h; cases h
  · rw [inB_iff.2 h2] at h; cases h
  · rw [inB_iff.2 h3] at h; cases h
  · exact h ((mpIdx_self hi).2 h4)
theorem mp_stp {l : List Mp} {i : Nat} (h : ∀ j, j < i → mapGood l j) (hi : i < l.length) (h1 : inB (at' l i).1 0 7 = true) (h2 : inB (at' l i).2.1 0 1023 = true) (h3 : inB (at' l i).2.2.1 0 63 = true) (h4 : mpIdx l (at' l i).1 (at' l i).2.1 = i) : ∀ j, j < i + 1 → mapGood l j := fun j hj => by
  rcases Nat.lt_or_ge j i with g | g
  · exact h j g
  · obtain rfl : j = i := by omega
    rw [at_eq hi] at h1 h2 h3 h4
    exact fun _ => ⟨⟨inB_iff.1 h1, inB_iff.1 h2, inB_iff.1 h3⟩, (mpIdx_self hi).1 h4⟩
theorem mp_end {l : List Mp} {i : Nat} (h : ∀ j, j < i → mapGood l j) (hi : ¬ i < l.length) : mapsOk l = decide ((l.length : Int) ≤ 96) := mapsOk_all fun k hk => h k (by omega)
theorem mp_dup {l : List Mp} {i j : Nat} (hi : i < l.length) (hj : j < i) (h1 : (at' l j).1 = (at' l i).1) (h2 : (at' l j).2.1 = (at' l i).2.1) : mapsOk l = false := by
  rw [at_eq hi, at_eq (by omega)] at h1 h2
  exact mapsOk_bad hi fun hg => (hg hi).2 j hj ⟨h1, h2⟩
theorem mp_stp2 {l : List Mp} {i j : Nat} (h : ∀ j, j < i → mapGood l j) (hi : i < l.length) (h1 : inB (at' l i).1 0 7 = true) (h2 : inB (at' l i).2.1 0 1023 = true) (h3 : inB (at' l i).2.2.1 0 63 = true) (h4 : ∀ k, k < j → ¬ ((at' l k).1 = (at' l i).1 ∧ (at' l k).2.1 = (at' l i).2.1)) (hj : ¬ j < i) : ∀ j, j < i + 1 → mapGood l j := fun k hk => by
  rcases Nat.lt_or_ge k i with g | g
  · exact h k g
  · obtain rfl : k = i := by omega
    rw [at_eq hi] at h1 h2 h3 h4
    exact fun _ => ⟨⟨inB_iff.1 h1, inB_iff.1 h2, inB_iff.1 h3⟩, fun q hq => by have := h4 q (by omega); rwa [at_eq (by omega)] at this⟩
theorem pg_hit {l : List Mp} {d v : Int} {i : Nat} {wt : Bool} (hm : MapsOk l) (hi : i < l.length) (h1 : (at' l i).1 = d) (h2 : (at' l i).2.1 = v) : mpPage l d v wt = if wt && !(at' l i).2.2.2 then -1 else (at' l i).2.2.1 := by
  rw [at_eq hi] at *
  exact mpPage_unique hm hi (hit_iff.2 ⟨h1, h2⟩) wt
def noPg (l : List Mp) (d v : Int) (wt : Bool) (i : Nat) : Prop := ∀ j, j < i → ¬ ((at' l j).1 = d ∧ (at' l j).2.1 = v ∧ ((at' l j).2.2.2 = true ∨ wt = false))
theorem pg_end {l : List Mp} {d v : Int} {i : Nat} {wt : Bool} (hm : MapsOk l) (h : noPg l d v wt i) (hi : ¬ i < l.length) : mpPage l d v wt = -1 := by
  rcases mp_first l d v with h1 | ⟨k, hk, h1, h2⟩
  · exact mpPage_no h1 wt
  · rw [mpPage_unique hm hk h2 wt]
    have := h k (by omega)
    rw [at_eq hk] at this
    have h3 := hit_iff.1 h2
    rw [if_pos]
    cases hw : wt <;> cases hx : l[k].2.2.2 <;> simp_all
theorem pg_idx {l : List Mp} {d v : Int} {wt : Bool} (hm : MapsOk l) : (mpIdx l d v < 0 → mpPage l d v wt = -1) ∧ (0 ≤ mpIdx l d v → ∃ i, i < l.length ∧ mpIdx l d v = (i : Nat) ∧ mpPage l d v wt = if wt && !(at' l i).2.2.2 then -1 else (at' l i).2.2.1) := by
  rcases mp_first l d v with h1 | ⟨k, hk, h1, h2⟩
  · rw [mpIdx_no h1]
    exact ⟨fun _ => mpPage_no h1 wt, fun h => by omega⟩
  · rw [mpIdx_at hk h1 h2]
    exact ⟨fun h => by omega, fun _ => ⟨k, hk, rfl, by rw [at_eq hk]; exact mpPage_at hk h1 h2 wt⟩⟩
set_option maxHeartbeats 4000000 in
theorem c_impl_MappingsOk {l : List Mp} (hl : l.length ≤ 1099511627776 := by first | assumption | omega) : Con0 Tryz.prog 244 [.one (.sl 4 (l.map mpE))] (B (mapsOk l)) [] := by
  refine con_i Tryz.func244 Tryz.ntmps244 (t := [(0, .one (.sl 4 (l.map mpE)))]) rfl ?_
  refine vc_sr ?_
  refine vo ?_
  refine vnt ?_
  refine vc_seq' ?_
  refine vc_sr ?_
  iterate 2 refine vo ?_
  try refine vln ?_
  refine vo ?_
  refine vnt ?_
  refine vc_block ?_
  refine vc_lp (σ := Nat) [0, 5, 6] [] (fun i => [(7, I (i : Nat))]) (fun i => []) (fun i => i ≤ l.length ∧ ∀ j, j < i → mapGood l j) (fun i => l.length - i) 0 rfl rfl (sub_i [] (fz ?_) (fz ?_)) ?_ fun i hI => ?_
  · first | trivial | rfl
  · first | trivial | rfl
  · exact ⟨Nat.zero_le _, fun j h => by omega⟩
  refine vc_nf rfl rfl ?_
  refine vc_sr ?_
  refine vo ?_
  refine vnt ?_
  refine vc_seq' ?_
  refine vc_if (fun g1 => ?_) (fun g1 => ?_)
  · refine vc_skip ?_
    refine thn ?_
    refine vc_seq' ?_
    refine vc_block ?_
    refine vc_sr ?_
    iterate 6 refine vo ?_
    refine vnt ?_
    refine vc_sr ?_
    iterate 2 refine vo ?_
    refine voc c_impl_between rfl rfl ?_
    iterate 2 refine vo ?_
    refine vsp (fun g2 => ?_) (fun g2 => ?_)
    · iterate 4 refine vof ?_
      iterate 2 refine vo ?_
      iterate 4 refine vof ?_
      iterate 2 refine vo ?_
      iterate 8 refine vof ?_
      refine vo ?_
      refine vnt ?_
      refine vc_then ?_
      refine vc_sr ?_
      refine vo ?_
      refine vnt ?_
      refine vc_ret ?_
      refine inB_r ?_
      refine thn_r ?_
      refine thn_r ?_
      refine inB_r ?_
      refine thn_r ?_
      refine fin_i [] rfl (fz ?_) trivial
      exact mp_bad g1 (by simp_all)
    · iterate 2 refine von ?_
      refine vocn c_impl_between rfl rfl ?_
      refine von ?_
      iterate 2 refine vo ?_
      refine vsp (fun g3 => ?_) (fun g3 => ?_)
      · iterate 4 refine vof ?_
        iterate 2 refine vo ?_
        iterate 8 refine vof ?_
        refine vo ?_
        refine vnt ?_
        refine vc_then ?_
        refine vc_sr ?_
        refine vo ?_
        refine vnt ?_
        refine vc_ret ?_
        refine inB_r ?_
        refine thn_r ?_
        refine thn_r ?_
        refine inB_r ?_
        refine thn_r ?_
        refine fin_i [] rfl (fz ?_) trivial
        exact mp_bad g1 (by simp_all)
      · iterate 2 refine von ?_
        refine vocn c_impl_between rfl rfl ?_
        refine von ?_
        iterate 2 refine vo ?_
        refine vsp (fun g4 => ?_) (fun g4 => ?_)
        · iterate 8 refine vof ?_
          refine vo ?_
          refine vnt ?_
          refine vc_then ?_
          refine vc_sr ?_
          refine vo ?_
          refine vnt ?_
          refine vc_ret ?_
          refine inB_r ?_
          refine thn_r ?_
          refine thn_r ?_
          refine inB_r ?_
          refine thn_r ?_
          refine fin_i [] rfl (fz ?_) trivial
          exact mp_bad g1 (by simp_all)
        · iterate 5 refine von ?_
          refine vocn c_impl_pageMapping rfl rfl ?_
          iterate 2 refine von ?_
          refine vo ?_
          refine vnt ?_
          refine vc_if (fun g5 => ?_) (fun g5 => ?_)
          · refine vc_sr ?_
            refine vo ?_
            refine vnt ?_
            refine vc_ret ?_
            refine inB_r ?_
            refine thn_r ?_
            refine thn_r ?_
            refine inB_r ?_
            refine thn_r ?_
            refine fin_i [] rfl (fz ?_) trivial
            exact mp_bad g1 (by simp_all)
          · refine vc_skip ?_
            refine inB_n ?_
            refine thn ?_
            refine vc_region ?_
            refine vo ?_
            try refine vwr ?_
            refine vo ?_
            refine vnt ?_
            refine ⟨i + 1, ?_, ?_, sub_i [] (fz ?_) (fz ?_)⟩
            · exact ⟨by omega, mp_stp hI.2 g1 g2 g3 g4 g5⟩
            · omega
            · first | rfl | trivial
            · first | trivial
  · refine vc_exit ?_
    refine thn_x ?_
    refine thn_x ?_
    refine inB_x ?_
    refine thn ?_
    refine vc_sr ?_
    iterate 2 refine vo ?_
    try refine vln ?_
    iterate 2 refine vo ?_
    refine vnt ?_
    refine vc_ret ?_
    refine fin_i [] rfl (fz ?_) trivial
    exact mp_end hI.2 g1
theorem pg_stp {l : List Mp} {d v : Int} {i : Nat} {wt : Bool} (h : noPg l d v wt i) (hh : ¬ ((at' l i).1 = d ∧ (at' l i).2.1 = v ∧ ((at' l i).2.2.2 = true ∨ wt = false))) : noPg l d v wt (i + 1) := fun j hj => by
  rcases Nat.lt_or_ge j i with g | g
  · exact h j g
  · obtain rfl : j = i := by omega
    exact hh
theorem mp_phys {l : List Mp} (hm : MapsOk l) {i : Nat} (hi : i < l.length) : 0 ≤ (at' l i).2.2.1 ∧ (at' l i).2.2.1 ≤ 63 := by rw [at_eq hi]; exact (hm.2 i hi).1.2.2
theorem place_neg {l : List Mp} {d a : Int} {wt : Bool} (hm : MapsOk l) (h : a < 0) : placeF l d a wt = -1 := by
  unfold placeF
  by_cases h2 : mpPage l d (a / 128) wt < 0
  · rw [if_pos h2]
  · have := mpPage_v hm (d := d) (v := a / 128) (wr := wt) (by omega); omega
set_option maxHeartbeats 4000000 in
theorem c_spec_l17Page {l : List Mp} {d v : Int} {wt : Bool} (hm : MapsOk l := by assumption) : Con0 Tryz.prog 241 [.one (.sl 4 (l.map mpE)), I d, I v, B wt] (I (mpPage l d v wt)) [] := by
  have hl := hm.1
  refine con_i Tryz.func241 Tryz.ntmps241 (t := [(0, .one (.sl 4 (l.map mpE))), (1, I d), (2, I v), (3, B wt)]) rfl ?_
  refine vc_sr ?_
  refine vo ?_
  refine vnt ?_
  refine vc_seq' ?_
  refine vc_sr ?_
  refine vo ?_
  refine vnt ?_
  refine vc_block ?_
  refine vc_lp (σ := Nat) [0, 1, 2, 3] [] (fun i => [(9, I (i : Nat))]) (fun i => []) (fun i => i ≤ l.length ∧ noPg l d v wt i) (fun i => l.length - i) 0 rfl rfl (sub_i [] (fz ?_) (fz ?_)) ?_ fun i hI => ?_
  · first | trivial | rfl
  · first | trivial | rfl
  · exact ⟨Nat.zero_le _, fun j h => by omega⟩
  refine vc_nf rfl rfl ?_
  refine vc_seq' ?_
  refine vc_sr ?_
  iterate 3 refine vo ?_
  try refine vln ?_
  refine vo ?_
  refine vnt ?_
  refine vc_if (fun g1 => ?_) (fun g1 => ?_)
  · refine vc_skip ?_
    refine thn ?_
    refine vc_seq' ?_
    refine vc_block ?_
    refine vc_sr ?_
    iterate 8 refine vo ?_
    refine vsp (fun g2 => ?_) (fun g2 => ?_)
    · iterate 7 refine von ?_
      iterate 2 refine vo ?_
      refine vsp (fun g3 => ?_) (fun g3 => ?_)
      · iterate 6 refine von ?_
        refine vsp (fun g4 => ?_) (fun g4 => ?_)
        · iterate 2 refine vof ?_
          refine von ?_
          refine vo ?_
          refine vnt ?_
          refine vc_then ?_
          refine vc_sr ?_
          iterate 6 refine vo ?_
          refine vnt ?_
          refine vc_ret ?_
          refine inB_r ?_
          refine thn_r ?_
          refine thn_r ?_
          refine inB_r ?_
          refine thn_r ?_
          refine fin_i [] rfl (fz ?_) trivial
          rw [pg_hit hm g1 g2 g3, if_neg]
          simp_all
        · iterate 3 refine von ?_
          refine vo ?_
          refine vnt ?_
          refine vc_if (fun g5 => ?_) (fun g5 => ?_)
          · refine vc_sr ?_
            iterate 6 refine vo ?_
            refine vnt ?_
            refine vc_ret ?_
            refine inB_r ?_
            refine thn_r ?_
            refine thn_r ?_
            refine inB_r ?_
            refine thn_r ?_
            refine fin_i [] rfl (fz ?_) trivial
            rw [pg_hit hm g1 g2 g3, if_neg]
            simp_all
          · refine vc_skip ?_
            refine inB_n ?_
            refine thn ?_
            refine vc_region ?_
            iterate 2 refine vo ?_
            try refine vwr ?_
            refine vo ?_
            refine vnt ?_
            refine ⟨i + 1, ?_, ?_, sub_i [] (fz ?_) (fz ?_)⟩
            · exact ⟨by omega, pg_stp hI.2 (by simp_all)⟩
            · omega
            · first | rfl | trivial
            · first | trivial
      · iterate 9 refine vof ?_
        refine vo ?_
        refine vnt ?_
        refine vc_else ?_
        refine vc_skip ?_
        refine inB_n ?_
        refine thn ?_
        refine vc_region ?_
        iterate 2 refine vo ?_
        try refine vwr ?_
        refine vo ?_
        refine vnt ?_
        refine ⟨i + 1, ?_, ?_, sub_i [] (fz ?_) (fz ?_)⟩
        · exact ⟨by omega, pg_stp hI.2 (by simp_all)⟩
        · omega
        · first | rfl | trivial
        · first | trivial
    · iterate 7 refine vof ?_
      iterate 2 refine vo ?_
      iterate 9 refine vof ?_
      refine vo ?_
      refine vnt ?_
      refine vc_else ?_
      refine vc_skip ?_
      refine inB_n ?_
      refine thn ?_
      refine vc_region ?_
      iterate 2 refine vo ?_
      try refine vwr ?_
      refine vo ?_
      refine vnt ?_
      refine ⟨i + 1, ?_, ?_, sub_i [] (fz ?_) (fz ?_)⟩
      · exact ⟨by omega, pg_stp hI.2 (by simp_all)⟩
      · omega
      · first | rfl | trivial
      · first | trivial
  · refine vc_exit ?_
    refine thn_x ?_
    refine thn_x ?_
    refine inB_x ?_
    refine thn ?_
    refine vc_sr ?_
    refine vo ?_
    refine vnt ?_
    refine vc_ret ?_
    refine fin_i [] rfl (fz ?_) trivial
    exact pg_end hm hI.2 g1
set_option maxHeartbeats 4000000 in
theorem c_impl_place {l : List Mp} {d a : Int} {wt : Bool} (hm : MapsOk l := by assumption) (ha : a ≤ 9223372036854775807 := by omega) : Con0 Tryz.prog 246 [.one (.sl 4 (l.map mpE)), I d, I a, B wt] (I (placeF l d a wt)) [] := by
  have hl := hm.1
  refine con_i Tryz.func246 Tryz.ntmps246 (t := [(0, .one (.sl 4 (l.map mpE))), (1, I d), (2, I a), (3, B wt)]) rfl ?_
  refine vc_sr ?_
  refine vo ?_
  refine vnt ?_
  refine vc_seq' ?_
  refine vc_sr ?_
  iterate 2 refine vo ?_
  refine vnt ?_
  refine vc_if (fun g1 => ?_) (fun g1 => ?_)
  · refine vc_sr ?_
    refine vo ?_
    refine vnt ?_
    refine vc_ret ?_
    refine thn_r ?_
    refine fin_i [] rfl (fz ?_) trivial
    exact place_neg hm g1
  · refine vc_skip ?_
    refine thn ?_
    refine vc_sr ?_
    iterate 4 refine vo ?_
    try refine veq (IntWalk.i64_quo _ _ (by omega)) ?_
    refine voc c_impl_pageMapping rfl rfl ?_
    refine vo ?_
    refine vnt ?_
    refine vc_seq' ?_
    refine vc_sr ?_
    iterate 3 refine vo ?_
    refine vsp (fun g2 => ?_) (fun g2 => ?_)
    · iterate 9 refine vof ?_
      refine vo ?_
      refine vnt ?_
      refine vc_then ?_
      refine vc_sr ?_
      refine vo ?_
      refine vnt ?_
      refine vc_ret ?_
      refine thn_r ?_
      refine fin_i [] rfl (fz ?_) trivial
      rw [placeF, (pg_idx hm).1 g2]
      rfl
    · obtain ⟨i, hi, e, hpg⟩ := (pg_idx (wt := wt) hm).2 g2
      rw [e]
      have hf := mp_phys hm hi
      iterate 2 refine von ?_
      refine vsp (fun g3 => ?_) (fun g3 => ?_)
      · iterate 3 refine von ?_
        try first | refine vep ?_ | refine vpt ?_
        iterate 4 refine von ?_
        refine vo ?_
        refine vnt ?_
        refine vc_if (fun g4 => ?_) (fun g4 => ?_)
        · refine vc_sr ?_
          refine vo ?_
          refine vnt ?_
          refine vc_ret ?_
          refine thn_r ?_
          refine fin_i [] rfl (fz ?_) trivial
          rw [placeF, hpg]
          simp_all
          try omega
        · refine vc_skip ?_
          refine thn ?_
          refine vc_sr ?_
          iterate 3 refine vo ?_
          try first | refine vep ?_ | refine vpt ?_
          iterate 3 refine vo ?_
          try refine vwr ?_
          iterate 2 refine vo ?_
          try refine veq (Int.tmod_eq_emod_of_nonneg (by omega)) ?_
          refine vo ?_
          try refine vwr ?_
          refine vo ?_
          refine vnt ?_
          refine vc_ret ?_
          refine fin_i [] rfl (fz ?_) trivial
          rw [placeF, hpg]
          simp_all
          try omega
      · iterate 6 refine vof ?_
        refine von ?_
        refine vo ?_
        refine vnt ?_
        refine vc_else ?_
        refine vc_skip ?_
        refine thn ?_
        refine vc_sr ?_
        iterate 3 refine vo ?_
        try first | refine vep ?_ | refine vpt ?_
        iterate 3 refine vo ?_
        try refine vwr ?_
        iterate 2 refine vo ?_
        try refine veq (Int.tmod_eq_emod_of_nonneg (by omega)) ?_
        refine vo ?_
        try refine vwr ?_
        refine vo ?_
        refine vnt ?_
        refine vc_ret ?_
        refine fin_i [] rfl (fz ?_) trivial
        rw [placeF, hpg]
        simp_all
        try omega
theorem nd_stp {l : List Mp} {k j : Nat} (h : ∀ q, q < j → ¬ ((at' l q).1 = (at' l k).1 ∧ (at' l q).2.1 = (at' l k).2.1)) (hh : ¬ ((at' l j).1 = (at' l k).1 ∧ (at' l j).2.1 = (at' l k).2.1)) : ∀ q, q < j + 1 → ¬ ((at' l q).1 = (at' l k).1 ∧ (at' l q).2.1 = (at' l k).2.1) := fun q hq => by
  rcases Nat.lt_or_ge q j with g | g
  · exact h q g
  · obtain rfl : q = j := by omega
    exact hh
set_option maxHeartbeats 4000000 in
theorem c_spec_MappingsOk {l : List Mp} (hl : l.length ≤ 1099511627776 := by first | assumption | omega) : Con0 Tryz.prog 214 [.one (.sl 4 (l.map mpE))] (B (mapsOk l)) [] := by
  refine con_i Tryz.func214 Tryz.ntmps214 (t := [(0, .one (.sl 4 (l.map mpE)))]) rfl ?_
  refine vc_sr ?_
  refine vo ?_
  refine vnt ?_
  refine vc_seq' ?_
  refine vc_sr ?_
  iterate 2 refine vo ?_
  try refine vln ?_
  refine vo ?_
  refine vnt ?_
  refine vc_if (fun g1 => ?_) (fun g1 => ?_)
  · refine vc_sr ?_
    refine vo ?_
    refine vnt ?_
    refine vc_ret ?_
    refine thn_r ?_
    refine fin_i [] rfl (fz ?_) trivial
    exact mapsOk_long (by omega)
  · refine vc_skip ?_
    refine thn ?_
    refine vc_seq' ?_
    refine vc_sr ?_
    refine vo ?_
    refine vnt ?_
    refine vc_block ?_
    refine vc_lp (σ := Nat) [0] [] (fun k => [(3, I (k : Nat))]) (fun k => []) (fun k => k ≤ l.length ∧ ∀ j, j < k → mapGood l j) (fun k => l.length - k) 0 rfl rfl (sub_i [] (fz ?_) (fz ?_)) ?_ fun k hI => ?_
    · first | trivial | rfl
    · first | trivial | rfl
    · exact ⟨Nat.zero_le _, fun j h => by omega⟩
    refine vc_nf rfl rfl ?_
    refine vc_seq' ?_
    refine vc_sr ?_
    iterate 3 refine vo ?_
    try refine vln ?_
    refine vo ?_
    refine vnt ?_
    refine vc_if (fun g2 => ?_) (fun g2 => ?_)
    · refine vc_skip ?_
      refine thn ?_
      refine vc_seq' ?_
      refine vc_block ?_
      refine vc_sr ?_
      iterate 3 refine vo ?_
      try first | refine vep ?_ | refine vpt ?_
      iterate 3 refine vo ?_
      refine vnt ?_
      refine vc_seq' ?_
      refine vc_sr ?_
      iterate 2 refine vo ?_
      refine voc c_spec_l01In rfl rfl ?_
      iterate 2 refine vo ?_
      refine vsp (fun g3 => ?_) (fun g3 => ?_)
      · iterate 4 refine vof ?_
        iterate 2 refine vo ?_
        iterate 4 refine vof ?_
        refine vo ?_
        refine vnt ?_
        refine vc_then ?_
        refine vc_sr ?_
        refine vo ?_
        refine vnt ?_
        refine vc_ret ?_
        refine thn_r ?_
        refine inB_r ?_
        refine thn_r ?_
        refine thn_r ?_
        refine inB_r ?_
        refine thn_r ?_
        refine fin_i [] rfl (fz ?_) trivial
        exact mp_bad g2 (by simp_all)
      · iterate 2 refine von ?_
        refine vocn c_spec_l01In rfl rfl ?_
        refine von ?_
        iterate 2 refine vo ?_
        refine vsp (fun g4 => ?_) (fun g4 => ?_)
        · iterate 4 refine vof ?_
          refine vo ?_
          refine vnt ?_
          refine vc_then ?_
          refine vc_sr ?_
          refine vo ?_
          refine vnt ?_
          refine vc_ret ?_
          refine thn_r ?_
          refine inB_r ?_
          refine thn_r ?_
          refine thn_r ?_
          refine inB_r ?_
          refine thn_r ?_
          refine fin_i [] rfl (fz ?_) trivial
          exact mp_bad g2 (by simp_all)
        · iterate 2 refine von ?_
          refine vocn c_spec_l01In rfl rfl ?_
          refine von ?_
          refine vo ?_
          refine vnt ?_
          refine vc_if (fun g5 => ?_) (fun g5 => ?_)
          · refine vc_sr ?_
            refine vo ?_
            refine vnt ?_
            refine vc_ret ?_
            refine thn_r ?_
            refine inB_r ?_
            refine thn_r ?_
            refine thn_r ?_
            refine inB_r ?_
            refine thn_r ?_
            refine fin_i [] rfl (fz ?_) trivial
            exact mp_bad g2 (by simp_all)
          · refine vc_skip ?_
            refine thn ?_
            refine vc_sr ?_
            refine vo ?_
            refine vnt ?_
            refine vc_block ?_
            refine vc_lp (σ := Nat) [0, 3, 4] [32] (fun j => [(5, I (j : Nat))]) (fun j => []) (fun j => j ≤ k ∧ ∀ q, q < j → ¬ ((at' l q).1 = (at' l k).1 ∧ (at' l q).2.1 = (at' l k).2.1)) (fun j => k - j) 0 rfl rfl (sub_i [] (fz ?_) (fz ?_)) ?_ fun j hJ => ?_
            · first | trivial | rfl
            · first | trivial | rfl
            · exact ⟨Nat.zero_le _, fun q h => by omega⟩
            refine vc_nf rfl rfl ?_
            refine vc_seq' ?_
            refine vc_sr ?_
            iterate 3 refine vo ?_
            refine vnt ?_
            refine vc_if (fun g6 => ?_) (fun g6 => ?_)
            · refine vc_skip ?_
              refine thn ?_
              refine vc_seq' ?_
              refine vc_block ?_
              refine vc_sr ?_
              iterate 3 refine vo ?_
              try first | refine vep ?_ | refine vpt ?_
              iterate 6 refine vo ?_
              refine vsp (fun g7 => ?_) (fun g7 => ?_)
              · iterate 3 refine von ?_
                try first | refine vep ?_ | refine vpt ?_
                iterate 5 refine von ?_
                refine vo ?_
                refine vnt ?_
                refine vc_if (fun g8 => ?_) (fun g8 => ?_)
                · refine vc_sr ?_
                  refine vo ?_
                  refine vnt ?_
                  refine vc_ret ?_
                  refine inB_r ?_
                  refine thn_r ?_
                  refine thn_r ?_
                  refine inB_r ?_
                  refine inB_r ?_
                  refine thn_r ?_
                  refine thn_r ?_
                  refine inB_r ?_
                  refine thn_r ?_
                  refine fin_i [] rfl (fz ?_) trivial
                  exact mp_dup g2 g6 g7 g8
                · refine vc_skip ?_
                  refine inB_n ?_
                  refine thn ?_
                  refine vc_region ?_
                  iterate 2 refine vo ?_
                  try refine vwr ?_
                  refine vo ?_
                  refine vnt ?_
                  refine ⟨j + 1, ?_, ?_, sub_i [] (fz ?_) (fz ?_)⟩
                  · exact ⟨by omega, nd_stp hJ.2 (by simp_all)⟩
                  · omega
                  · first | rfl | trivial
                  · first | trivial | rfl
              · iterate 8 refine vof ?_
                refine vo ?_
                refine vnt ?_
                refine vc_else ?_
                refine vc_skip ?_
                refine inB_n ?_
                refine thn ?_
                refine vc_region ?_
                iterate 2 refine vo ?_
                try refine vwr ?_
                refine vo ?_
                refine vnt ?_
                refine ⟨j + 1, ?_, ?_, sub_i [] (fz ?_) (fz ?_)⟩
                · exact ⟨by omega, nd_stp hJ.2 (by simp_all)⟩
                · omega
                · first | rfl | trivial
                · first | trivial | rfl
            · refine vc_exit ?_
              refine thn_x ?_
              refine thn_x ?_
              refine inB_x ?_
              refine inB_n ?_
              refine thn ?_
              refine vc_region ?_
              iterate 2 refine vo ?_
              try refine vwr ?_
              refine vo ?_
              refine vnt ?_
              refine ⟨k + 1, ?_, ?_, sub_i [] (fz ?_) (fz ?_)⟩
              · exact ⟨by omega, mp_stp2 hI.2 g2 g3 g4 g5 hJ.2 (by omega)⟩
              · omega
              · first | rfl | trivial
              · first | trivial | rfl
    · refine vc_exit ?_
      refine thn_x ?_
      refine thn_x ?_
      refine inB_x ?_
      refine thn ?_
      refine vc_sr ?_
      refine vo ?_
      refine vnt ?_
      refine vc_ret ?_
      refine fin_i [] rfl (fz ?_) trivial
      rw [mp_end hI.2 g2, decide_eq_true (by omega)]
end Go.Proofs.YtbdcaacpemkloaaGreat
end
section
namespace Go.Proofs.YtbdcaacpemkloaaGreat
open Go Go.RowKit Go.Vc
set_option linter.unusedVariables false
set_option linter.unusedSimpArgs false
set_option linter.unnecessarySimpa false
theorem vc_lp2 {P : Program} [TyEnv P] {n : Nat} {K : Post} {t t0 : Tm} {H H0 : Hp} {c : Code} {A B : Type} (live keep : List Nat) (ov : A → B → Tm) (gv : A → B → Hp) (I : A → B → Prop) (μ : A → B → Nat) (x10 : A) (x20 : B) (ht : keepF t live = some t0) (hH : keepH H keep = some H0) (hs : Sub t H (ov x10 x20 ++ t0) (gv x10 x20 ++ H0)) (h0 : I x10 x20)
    (h : ∀ x1 x2, I x1 x2 → VC P n c (thenP (fun t H => ∃ x1' x2', I x1' x2' ∧ μ x1' x2' < μ x1 x2 ∧ Sub t H (ov x1' x2' ++ t0) (gv x1' x2' ++ H0)) K) (ov x1 x2 ++ t0) (gv x1 x2 ++ H0)) : VC P n (.loop c) K t H :=
  vc_lp (σ := A × B) live keep (fun s => ov s.1 s.2) (fun s => gv s.1 s.2) (fun s => I s.1 s.2) (fun s => μ s.1 s.2) (x10, x20) ht hH hs h0 fun s hi => vc_mono (h s.1 s.2 hi) fun e t H hk => by
    cases e <;> first | exact hk | (obtain ⟨x1', x2', h1, h2, h3⟩ := hk; exact ⟨(x1', x2'), h1, h2, h3⟩)
theorem vc_lp3 {P : Program} [TyEnv P] {n : Nat} {K : Post} {t t0 : Tm} {H H0 : Hp} {c : Code} {A B C : Type} (live keep : List Nat) (ov : A → B → C → Tm) (gv : A → B → C → Hp) (I : A → B → C → Prop) (μ : A → B → C → Nat) (x10 : A) (x20 : B) (x30 : C) (ht : keepF t live = some t0) (hH : keepH H keep = some H0) (hs : Sub t H (ov x10 x20 x30 ++ t0) (gv x10 x20 x30 ++ H0)) (h0 : I x10 x20 x30)
    (h : ∀ x1 x2 x3, I x1 x2 x3 → VC P n c (thenP (fun t H => ∃ x1' x2' x3', I x1' x2' x3' ∧ μ x1' x2' x3' < μ x1 x2 x3 ∧ Sub t H (ov x1' x2' x3' ++ t0) (gv x1' x2' x3' ++ H0)) K) (ov x1 x2 x3 ++ t0) (gv x1 x2 x3 ++ H0)) : VC P n (.loop c) K t H :=
  vc_lp (σ := A × B × C) live keep (fun s => ov s.1 s.2.1 s.2.2) (fun s => gv s.1 s.2.1 s.2.2) (fun s => I s.1 s.2.1 s.2.2) (fun s => μ s.1 s.2.1 s.2.2) (x10, x20, x30) ht hH hs h0 fun s hi => vc_mono (h s.1 s.2.1 s.2.2 hi) fun e t H hk => by
    cases e <;> first | exact hk | (obtain ⟨x1', x2', x3', h1, h2, h3⟩ := hk; exact ⟨(x1', x2', x3'), h1, h2, h3⟩)
def runE (r : Int × Int) : List Value := [.int .i64 r.1, .int .i64 r.2]
theorem runsOk_of {l : List Mp} {ps : Pg} {n : Int} : runsOk l ps n = (mapsOk l && (memOk ps && inB n 0 4096)) := rfl
theorem pl_ok {l : List Mp} {d a : Int} {wt : Bool} (hm : MapsOk l) (h0 : 0 ≤ placeF l d a wt) : placeF l d a wt = mpPage l d (a / 128) wt * 128 + a % 128 ∧ 0 ≤ mpPage l d (a / 128) wt ∧ mpPage l d (a / 128) wt ≤ 63 ∧ 0 ≤ a ∧ a ≤ 131071 := by
  unfold placeF at *
  have hb := mpPage_bd hm d (a / 128) wt
  split at h0
  · omega
  · rename_i h
    have hv := mpPage_v hm (d := d) (v := a / 128) (wr := wt) (by omega)
    rw [if_neg h]
    exact ⟨rfl, by omega, by omega, by omega, by omega⟩
theorem pl_no {l : List Mp} {ps : Pg} {d a : Int} {wt : Bool} {m k : Nat} (hm : MapsOk l) (hps : MemOk ps) (hk : (k : Int) = min (m : Int) (128 - a % 128)) (hm0 : 0 < m) (ha : 0 ≤ a) (h : placeF l d a wt < 0 ∨ memInB ps (placeF l d a wt) k = false) : parts l ps.length d wt a m = none := by
  refine parts_none hm0 ?_
  unfold placeF at h
  by_cases h1 : mpPage l d (a / 128) wt < 0
  · exact .inl h1
  · rw [if_neg h1] at h
    right
    rcases h with h | h
    · omega
    · rcases Int.lt_or_le (mpPage l d (a / 128) wt) ps.length with h2 | h2
      · have : memInB ps (mpPage l d (a / 128) wt * 128 + a % 128) k = true := memInB_iff.2 ⟨hps, by omega, by omega, by omega, by omega⟩
        rw [this] at h; cases h
      · exact h2
theorem pl_yes {l : List Mp} {ps : Pg} {d a : Int} {wt : Bool} {m k : Nat} {x : Option (List (Int × Int))} {out : List (Int × Int)} (hm : MapsOk l) (hk : (k : Int) = min (m : Int) (128 - a % 128)) (hm0 : 0 < m) (h0 : 0 ≤ placeF l d a wt) (h1 : memInB ps (placeF l d a wt) k = true) (hx : x = (parts l ps.length d wt a m).map (out ++ ·)) : x = (parts l ps.length d wt (a + k) (m - k)).map ((out ++ [(placeF l d a wt, (k : Int))]) ++ ·) := by
  obtain ⟨e, p0, p1, p2, p3⟩ := pl_ok hm h0
  have hb := memInB_iff.1 h1
  rw [hx, parts_some hm0 p2 p0 (by omega) hk, map_step, e]
theorem rn_no {l : List Mp} {ps : Pg} {d a n : Int} {wt : Bool} (h : runs l ps d a n wt = none) : (runs l ps d a n wt).isSome = false ∧ ((runs l ps d a n wt).getD []).map runE = [] := by rw [h]; exact ⟨rfl, rfl⟩
theorem rn_yes {l : List Mp} {ps : Pg} {d a n : Int} {wt : Bool} {out : List (Int × Int)} (h : runs l ps d a n wt = some out) : (runs l ps d a n wt).isSome = true ∧ (runs l ps d a n wt).getD [] = out := by rw [h]; exact ⟨rfl, rfl⟩
theorem rn_bad {l : List Mp} {ps : Pg} {d a n : Int} {wt : Bool} (h : mapsOk l = false ∨ memOk ps = false ∨ inB n 0 4096 = false) : runs l ps d a n wt = none := by
  refine runs_not ?_
  unfold runsOk
  rcases h with h | h | h <;> rw [h] <;> simp
theorem rn_end {l : List Mp} {ps : Pg} {d a a1 n : Int} {wt : Bool} {m : Nat} {out : List (Int × Int)} (h : runs l ps d a n wt = (parts l ps.length d wt a1 m).map (out ++ ·)) (hm : ¬ 0 < (m : Int)) : runs l ps d a n wt = some out := by
  obtain rfl : m = 0 := by omega
  rw [h, parts_zero]; simp
set_option maxHeartbeats 4000000 in
theorem c_impl_runsOf {l : List Mp} {ps : Pg} {d a n : Int} {wt : Bool} (hl : l.length ≤ 1099511627776 := by first | assumption | omega) (hp : ps.length ≤ 1099511627776 := by first | assumption | omega) (ha : a ≤ 9223372036854775807 := by omega) : Con0 Tryz.prog 208 [.one (.sl 4 (l.map mpE)), .agg [.sl 1 (ps.map strE)], I d, I a, I n, B wt] (.tup [.one (.hs 0), B (runs l ps d a n wt).isSome]) [(0, .arr 257 2 (((runs l ps d a n wt).getD []).map runE))] := by
  refine con_i Tryz.func208 Tryz.ntmps208 (t := [(0, .one (.sl 4 (l.map mpE))), (1, .agg [.sl 1 (ps.map strE)]), (2, I d), (3, I a), (4, I n), (5, B wt)]) rfl ?_
  refine vc_sr ?_
  iterate 3 refine vo ?_
  refine vnt ?_
  refine vc_seq' ?_
  refine vc_sr ?_
  refine vo ?_
  refine voc c_impl_MappingsOk rfl rfl ?_
  iterate 2 refine vo ?_
  refine vsp (fun g1 => ?_) (fun g1 => ?_)
  · iterate 3 refine vof ?_
    iterate 2 refine vo ?_
    iterate 3 refine vof ?_
    refine vo ?_
    refine vnt ?_
    refine vc_then ?_
    refine vc_sr ?_
    iterate 2 refine vo ?_
    refine vnt ?_
    refine vc_ret ?_
    refine thn_r ?_
    have hno : runs l ps d a n wt = none := rn_bad (n := n) (.inl g1)
    refine fin_i [(0, none)] rfl (fz ?_) (fz ?_)
    · exact (rn_no hno).1
    · exact (rn_no hno).2
  · have hm := mapsOk_iff.1 g1
    refine von ?_
    refine vocn c_impl_MemoryOk rfl rfl ?_
    refine von ?_
    iterate 2 refine vo ?_
    refine vsp (fun g2 => ?_) (fun g2 => ?_)
    · iterate 3 refine vof ?_
      refine vo ?_
      refine vnt ?_
      refine vc_then ?_
      refine vc_sr ?_
      iterate 2 refine vo ?_
      refine vnt ?_
      refine vc_ret ?_
      refine thn_r ?_
      have hno : runs l ps d a n wt = none := rn_bad (n := n) (.inr (.inl g2))
      refine fin_i [(0, none)] rfl (fz ?_) (fz ?_)
      · exact (rn_no hno).1
      · exact (rn_no hno).2
    · have hps := memOk_iff.1 g2
      have hpl := hps.1
      refine von ?_
      refine vocn c_impl_between rfl rfl ?_
      refine von ?_
      refine vo ?_
      refine vnt ?_
      refine vc_if (fun g3 => ?_) (fun g3 => ?_)
      · refine vc_sr ?_
        iterate 2 refine vo ?_
        refine vnt ?_
        refine vc_ret ?_
        refine thn_r ?_
        have hno : runs l ps d a n wt = none := rn_bad (n := n) (.inr (.inr g3))
        refine fin_i [(0, none)] rfl (fz ?_) (fz ?_)
        · exact (rn_no hno).1
        · exact (rn_no hno).2
      · have hn := inB_iff.1 g3
        have hr : runsOk l ps n = true := by rw [runsOk_of, g1, g2, g3]; rfl
        obtain ⟨m0, rfl⟩ := Int.eq_ofNat_of_zero_le hn.1
        refine vc_skip ?_
        refine thn ?_
        refine vc_seq' ?_
        refine vc_sr ?_
        iterate 2 refine vo ?_
        refine vnt ?_
        refine vc_if (fun g4 => ?_) (fun g4 => ?_)
        · refine vc_sr ?_
          iterate 2 refine vo ?_
          refine vnt ?_
          refine vc_ret ?_
          refine thn_r ?_
          have hy : runs l ps d a (m0 : Int) wt = some [] := by rw [runs_is hr, show m0 = 0 by omega, parts_zero]
          refine fin_i [(0, none)] rfl (fz ?_) (fz ?_)
          · exact (rn_yes hy).1
          · rw [(rn_yes hy).2]; rfl
        · refine vc_skip ?_
          refine thn ?_
          refine vc_seq' ?_
          refine vc_sr ?_
          iterate 2 refine vo ?_
          refine vnt ?_
          refine vc_if (fun g5 => ?_) (fun g5 => ?_)
          · refine vc_sr ?_
            iterate 2 refine vo ?_
            refine vnt ?_
            refine vc_ret ?_
            refine thn_r ?_
            have hno : runs l ps d a (m0 : Int) wt = none := by rw [runs_is hr]; exact parts_neg (by omega) g5
            refine fin_i [(0, none)] rfl (fz ?_) (fz ?_)
            · exact (rn_no hno).1
            · exact (rn_no hno).2
          · refine vc_skip ?_
            refine thn ?_
            refine vc_sr ?_
            iterate 2 refine vo ?_
            refine vnt ?_
            refine vc_seq' ?_
            refine vc_block ?_
            refine vc_lp3 [0, 2, 5, 7] [56] (fun (out : List (Int × Int)) (a1 : Int) (m : Nat) => [(3, I a1), (4, I (m : Int)), (14, .one (.hs 7))]) (fun (out : List (Int × Int)) (a1 : Int) (m : Nat) => [(7, .arr 257 2 (out.map runE))]) (fun (out : List (Int × Int)) (a1 : Int) (m : Nat) => 0 ≤ a1 ∧ a1 ≤ 9223372036854775807 ∧ out.length + m ≤ 4096 ∧ runs l ps d a m0 wt = (parts l ps.length d wt a1 m).map (out ++ ·)) (fun (out : List (Int × Int)) (a1 : Int) (m : Nat) => m) [] a m0 rfl rfl (sub_i [(7, some 272)] (fz ?_) (fz ?_)) ?_ fun out a1 m hI => ?_
            · first | trivial | rfl
            · first | trivial | rfl
            · exact ⟨by omega, by omega, by simp; omega, by rw [runs_is hr]; exact (map_nil_append _).symm⟩
            refine vc_nf rfl rfl ?_
            refine vc_seq' ?_
            refine vc_sr ?_
            iterate 2 refine vo ?_
            refine vnt ?_
            refine vc_if (fun g6 => ?_) (fun g6 => ?_)
            · obtain ⟨k, hk⟩ : ∃ k : Nat, (k : Int) = min (m : Int) (128 - a1 % 128) := ⟨(min (m : Int) (128 - a1 % 128)).toNat, by omega⟩
              refine vc_skip ?_
              refine thn ?_
              refine vc_block ?_
              refine vc_sr ?_
              iterate 4 refine vo ?_
              refine voc c_impl_place rfl rfl ?_
              refine vo ?_
              refine vnt ?_
              refine vc_sr ?_
              iterate 3 refine vo ?_
              try refine veq (Int.tmod_eq_emod_of_nonneg (by omega)) ?_
              refine vo ?_
              try refine vwr ?_
              refine vo ?_
              refine veq hk.symm ?_
              refine vo ?_
              refine vnt ?_
              refine vc_seq' ?_
              refine vc_sr ?_
              iterate 3 refine vo ?_
              refine vsp (fun g7 => ?_) (fun g7 => ?_)
              · iterate 5 refine vof ?_
                refine vo ?_
                refine vnt ?_
                refine vc_then ?_
                refine vc_sr ?_
                iterate 2 refine vo ?_
                refine vnt ?_
                refine vc_ret ?_
                refine thn_r ?_
                refine inB_r ?_
                refine thn_r ?_
                refine inB_r ?_
                refine thn_r ?_
                have hno : runs l ps d a (m0 : Int) wt = none := by rw [hI.2.2.2, pl_no hm hps hk (by omega) hI.1 (.inl g7)]; rfl
                refine fin_i [(0, none)] rfl (fz ?_) (fz ?_)
                · exact (rn_no hno).1
                · exact (rn_no hno).2
              · iterate 3 refine von ?_
                refine vocn c_impl_within rfl rfl ?_
                refine von ?_
                refine vo ?_
                refine vnt ?_
                refine vc_if (fun g8 => ?_) (fun g8 => ?_)
                · refine vc_sr ?_
                  iterate 2 refine vo ?_
                  refine vnt ?_
                  refine vc_ret ?_
                  refine thn_r ?_
                  refine inB_r ?_
                  refine thn_r ?_
                  refine inB_r ?_
                  refine thn_r ?_
                  have hno : runs l ps d a (m0 : Int) wt = none := by rw [hI.2.2.2, pl_no hm hps hk (by omega) hI.1 (.inr g8)]; rfl
                  refine fin_i [(0, none)] rfl (fz ?_) (fz ?_)
                  · exact (rn_no hno).1
                  · exact (rn_no hno).2
                · have hpl2 := pl_ok hm g7
                  refine vc_skip ?_
                  refine thn ?_
                  refine vc_sr ?_
                  iterate 7 refine vo ?_
                  refine vnt ?_
                  refine vc_sr ?_
                  iterate 3 refine vo ?_
                  try refine vwr ?_
                  refine vo ?_
                  refine vnt ?_
                  refine vc_sr ?_
                  iterate 3 refine vo ?_
                  try refine vwr ?_
                  refine vo ?_
                  refine vnt ?_
                  refine vc_sr ?_
                  iterate 3 refine vo ?_
                  refine vsp (fun g9 => ?_) (fun g9 => ?_)
                  · iterate 2 refine von ?_
                    refine vo ?_
                    refine vnt ?_
                    refine vc_if (fun g10 => ?_) (fun g10 => ?_)
                    · refine vc_sr ?_
                      iterate 2 refine vo ?_
                      refine vnt ?_
                      refine vc_ret ?_
                      refine inB_r ?_
                      refine thn_r ?_
                      refine inB_r ?_
                      refine thn_r ?_
                      exfalso; omega
                    · refine vc_skip ?_
                      refine inB_n ?_
                      refine thn ?_
                      refine ⟨out ++ [(placeF l d a1 wt, (k : Int))], a1 + k, m - k, ?_, ?_, sub_i [(7, some (8 * 61))] (fz ?_) (fz ?_)⟩
                      · exact ⟨by omega, by omega, by simp; omega, pl_yes hm hk (by omega) g7 g8 hI.2.2.2⟩
                      · omega
                      · first | trivial | rfl | omega
                      · first | trivial | rfl | (simp [runE])
                  · iterate 2 refine vof ?_
                    refine vo ?_
                    refine vnt ?_
                    refine vc_else ?_
                    refine vc_skip ?_
                    refine inB_n ?_
                    refine thn ?_
                    refine ⟨out ++ [(placeF l d a1 wt, (k : Int))], a1 + k, m - k, ?_, ?_, sub_i [(7, some (8 * 61))] (fz ?_) (fz ?_)⟩
                    · exact ⟨by omega, by omega, by simp; omega, pl_yes hm hk (by omega) g7 g8 hI.2.2.2⟩
                    · omega
                    · first | trivial | rfl | omega
                    · first | trivial | rfl | (simp [runE])
            · refine vc_exit ?_
              refine thn_x ?_
              refine thn_x ?_
              refine inB_x ?_
              refine thn ?_
              refine vc_sr ?_
              iterate 3 refine vo ?_
              refine vnt ?_
              refine vc_ret ?_
              have hy := rn_end hI.2.2.2 (by omega)
              refine fin_i [(0, some 7)] rfl (fz ?_) (fz ?_)
              · exact (rn_yes hy).1
              · rw [(rn_yes hy).2]
theorem pg_out {l : List Mp} {ps : Pg} {d a : Int} {wt : Bool} {m : Nat} (hps : MemOk ps) (hm0 : 0 < m) (h0 : 0 ≤ mpPage l d (a / 128) wt) (h : memInB ps (mpPage l d (a / 128) wt * 128) 128 = false) : parts l ps.length d wt a m = none := by
  refine parts_none hm0 (.inr ?_)
  rcases Int.lt_or_le (mpPage l d (a / 128) wt) ps.length with h2 | h2
  · have : memInB ps (mpPage l d (a / 128) wt * 128) 128 = true := memInB_iff.2 ⟨hps, by omega, by omega, by omega, by omega⟩
    rw [this] at h; cases h
  · exact h2
theorem pg_in {l : List Mp} {ps : Pg} {d a : Int} {wt : Bool} {m k : Nat} {x : Option (List (Int × Int))} {out : List (Int × Int)} (hk : (k : Int) = min (m : Int) (128 - a % 128)) (hm0 : 0 < m) (ha : 0 ≤ a) (h0 : 0 ≤ mpPage l d (a / 128) wt) (h1 : memInB ps (mpPage l d (a / 128) wt * 128) 128 = true) (hx : x = (parts l ps.length d wt a m).map (out ++ ·)) : x = (parts l ps.length d wt (a + k) (m - k)).map ((out ++ [(mpPage l d (a / 128) wt * 128 + a % 128, (k : Int))]) ++ ·) := by
  have hb := memInB_iff.1 h1
  rw [hx, parts_some hm0 ha h0 (by omega) hk, map_step]
theorem pg_v {l : List Mp} {d a : Int} {wt : Bool} (hm : MapsOk l) (h0 : 0 ≤ mpPage l d (a / 128) wt) : mpPage l d (a / 128) wt ≤ 63 ∧ a ≤ 131071 := by
  have := mpPage_bd hm d (a / 128) wt
  have := mpPage_v hm h0
  omega
theorem rn_no2 {l : List Mp} {ps : Pg} {d a n : Int} {wt : Bool} (h : runs l ps d a n wt = none) : (runs l ps d a n wt).isSome = false ∧ (runs l ps d a n wt).getD [] = [] := by rw [h]; exact ⟨rfl, rfl⟩
set_option maxHeartbeats 4000000 in
theorem c_spec_l17Parts {l : List Mp} {ps : Pg} {d a n : Int} {wt : Bool} (hl : l.length ≤ 1099511627776 := by first | assumption | omega) (hp : ps.length ≤ 1099511627776 := by first | assumption | omega) (ha : a ≤ 9223372036854775807 := by omega) : Con0 Tryz.prog 196 [.one (.sl 4 (l.map mpE)), .agg [.sl 1 (ps.map strE)], I d, I a, I n, B wt] (.tup [.one (.hs 0), .one (.hs 1), B (runs l ps d a n wt).isSome]) [(0, .arr 3 1 ((((runs l ps d a n wt).getD []).map (·.1)).map intE)), (1, .arr 3 1 ((((runs l ps d a n wt).getD []).map (·.2)).map intE))] := by
  refine con_i Tryz.func196 Tryz.ntmps196 (t := [(0, .one (.sl 4 (l.map mpE))), (1, .agg [.sl 1 (ps.map strE)]), (2, I d), (3, I a), (4, I n), (5, B wt)]) rfl ?_
  refine vc_sr ?_
  iterate 4 refine vo ?_
  refine vnt ?_
  refine vc_sr ?_
  iterate 2 refine vo ?_
  refine vnt ?_
  refine vc_sr ?_
  iterate 2 refine vo ?_
  refine vnt ?_
  refine vc_seq' ?_
  refine vc_sr ?_
  refine vo ?_
  refine voc c_spec_MappingsOk rfl rfl ?_
  iterate 2 refine vo ?_
  refine vsp (fun g1 => ?_) (fun g1 => ?_)
  · iterate 3 refine vof ?_
    iterate 2 refine vo ?_
    iterate 3 refine vof ?_
    refine vo ?_
    refine vnt ?_
    refine vc_then ?_
    refine vc_sr ?_
    iterate 5 refine vo ?_
    refine vnt ?_
    refine vc_ret ?_
    refine thn_r ?_
    have hno : runs l ps d a n wt = none := rn_bad (n := n) (.inl g1)
    refine fin_i [(0, some 160), (1, some 168)] rfl (fz ?_) (fz ?_)
    · exact (rn_no2 hno).1
    · rw [(rn_no2 hno).2]; first | trivial | rfl | exact ⟨rfl, rfl⟩
  · have hm := mapsOk_iff.1 g1
    refine von ?_
    refine vocn c_spec_MemoryOk rfl rfl ?_
    refine von ?_
    iterate 2 refine vo ?_
    refine vsp (fun g2 => ?_) (fun g2 => ?_)
    · iterate 3 refine vof ?_
      refine vo ?_
      refine vnt ?_
      refine vc_then ?_
      refine vc_sr ?_
      iterate 5 refine vo ?_
      refine vnt ?_
      refine vc_ret ?_
      refine thn_r ?_
      have hno : runs l ps d a n wt = none := rn_bad (n := n) (.inr (.inl g2))
      refine fin_i [(0, some 160), (1, some 168)] rfl (fz ?_) (fz ?_)
      · exact (rn_no2 hno).1
      · rw [(rn_no2 hno).2]; first | trivial | rfl | exact ⟨rfl, rfl⟩
    · have hps := memOk_iff.1 g2
      have hpl := hps.1
      refine von ?_
      refine vocn c_spec_l01In rfl rfl ?_
      refine von ?_
      refine vo ?_
      refine vnt ?_
      refine vc_if (fun g3 => ?_) (fun g3 => ?_)
      · refine vc_sr ?_
        iterate 5 refine vo ?_
        refine vnt ?_
        refine vc_ret ?_
        refine thn_r ?_
        have hno : runs l ps d a n wt = none := rn_bad (n := n) (.inr (.inr g3))
        refine fin_i [(0, some 160), (1, some 168)] rfl (fz ?_) (fz ?_)
        · exact (rn_no2 hno).1
        · rw [(rn_no2 hno).2]; first | trivial | rfl | exact ⟨rfl, rfl⟩
      · have hn := inB_iff.1 g3
        have hr : runsOk l ps n = true := by rw [runsOk_of, g1, g2, g3]; rfl
        obtain ⟨m0, rfl⟩ := Int.eq_ofNat_of_zero_le hn.1
        refine vc_skip ?_
        refine thn ?_
        refine vc_seq' ?_
        refine vc_block ?_
        refine vc_lp3 [0, 2, 5, 7] [56] (fun (out : List (Int × Int)) (a1 : Int) (m : Nat) => [(3, I a1), (4, I (m : Int)), (15, .one (.hs 6)), (16, .one (.hs 7))]) (fun (out : List (Int × Int)) (a1 : Int) (m : Nat) => [(6, .arr 3 1 ((out.map (·.1)).map intE)), (7, .arr 3 1 ((out.map (·.2)).map intE))]) (fun (out : List (Int × Int)) (a1 : Int) (m : Nat) => a1 ≤ 9223372036854775807 ∧ out.length + m ≤ 4096 ∧ runs l ps d a m0 wt = (parts l ps.length d wt a1 m).map (out ++ ·)) (fun (out : List (Int × Int)) (a1 : Int) (m : Nat) => m) [] a m0 rfl rfl (sub_i [(6, some 160), (7, some 168)] (fz ?_) (fz ?_)) ?_ fun out a1 m hI => ?_
        · first | trivial | rfl
        · first | trivial | rfl | exact ⟨rfl, rfl⟩
        · exact ⟨by omega, by simp; omega, by rw [runs_is hr]; exact (map_nil_append _).symm⟩
        refine vc_nf rfl rfl ?_
        refine vc_seq' ?_
        refine vc_sr ?_
        iterate 2 refine vo ?_
        refine vnt ?_
        refine vc_if (fun g4 => ?_) (fun g4 => ?_)
        · refine vc_skip ?_
          refine thn ?_
          refine vc_block ?_
          refine vc_sr ?_
          refine vo ?_
          refine vnt ?_
          refine vc_seq' ?_
          refine vc_sr ?_
          iterate 2 refine vo ?_
          refine vnt ?_
          refine vc_if (fun g5 => ?_) (fun g5 => ?_)
          · obtain ⟨k, hk⟩ : ∃ k : Nat, (k : Int) = min (m : Int) (128 - a1 % 128) := ⟨(min (m : Int) (128 - a1 % 128)).toNat, by omega⟩
            refine vc_region ?_
            iterate 4 refine vo ?_
            try refine veq (IntWalk.i64_quo _ _ (by omega)) ?_
            refine vo ?_
            refine voc c_spec_l17Page rfl rfl ?_
            refine vo ?_
            refine vnt ?_
            refine vc_sr ?_
            iterate 2 refine vo ?_
            try refine veq (Int.tmod_eq_emod_of_nonneg (by omega)) ?_
            refine vo ?_
            refine vnt ?_
            refine vc_seq' ?_
            refine vc_sr ?_
            iterate 3 refine vo ?_
            refine vsp (fun g6 => ?_) (fun g6 => ?_)
            · iterate 5 refine vof ?_
              refine vo ?_
              refine vnt ?_
              refine vc_then ?_
              refine vc_sr ?_
              iterate 5 refine vo ?_
              refine vnt ?_
              refine vc_ret ?_
              refine thn_r ?_
              refine inB_r ?_
              refine thn_r ?_
              refine inB_r ?_
              refine thn_r ?_
              have hno : runs l ps d a (m0 : Int) wt = none := by rw [hI.2.2, parts_none (by omega) (.inl g6)]; rfl
              refine fin_i [(0, some 464), (1, some 472)] rfl (fz ?_) (fz ?_)
              · exact (rn_no2 hno).1
              · rw [(rn_no2 hno).2]; first | trivial | rfl | exact ⟨rfl, rfl⟩
            · have hv := pg_v hm g6
              iterate 3 refine von ?_
              try refine vwr ?_
              refine vocn c_spec_l16Within rfl rfl ?_
              refine von ?_
              refine vo ?_
              refine vnt ?_
              refine vc_if (fun g7 => ?_) (fun g7 => ?_)
              · refine vc_sr ?_
                iterate 5 refine vo ?_
                refine vnt ?_
                refine vc_ret ?_
                refine thn_r ?_
                refine inB_r ?_
                refine thn_r ?_
                refine inB_r ?_
                refine thn_r ?_
                have hno : runs l ps d a (m0 : Int) wt = none := by rw [hI.2.2, pg_out hps (by omega) g6 g7]; rfl
                refine fin_i [(0, some 464), (1, some 472)] rfl (fz ?_) (fz ?_)
                · exact (rn_no2 hno).1
                · rw [(rn_no2 hno).2]; first | trivial | rfl | exact ⟨rfl, rfl⟩
              · refine vc_skip ?_
                refine thn ?_
                refine vc_sr ?_
                iterate 3 refine vo ?_
                try refine vwr ?_
                refine vo ?_
                refine veq hk.symm ?_
                refine vo ?_
                refine vnt ?_
                refine vc_sr ?_
                iterate 3 refine vo ?_
                try refine vwr ?_
                iterate 2 refine vo ?_
                try refine vwr ?_
                iterate 3 refine vo ?_
                refine vnt ?_
                refine vc_sr ?_
                iterate 5 refine vo ?_
                refine vnt ?_
                refine vc_sr ?_
                iterate 3 refine vo ?_
                try refine vwr ?_
                refine vo ?_
                refine vnt ?_
                refine vc_region ?_
                iterate 3 refine vo ?_
                try refine vwr ?_
                refine vo ?_
                refine vnil ?_
                refine inB_n ?_
                refine thn ?_
                refine ⟨out ++ [(mpPage l d (a1 / 128) wt * 128 + a1 % 128, (k : Int))], a1 + k, m - k, ?_, ?_, sub_i [(6, some 560), (7, some 592)] (fz ?_) (fz ?_)⟩
                · exact ⟨by omega, by simp; omega, pg_in hk (by omega) g5 g6 g7 hI.2.2⟩
                · omega
                · first | trivial | rfl | omega
                · first | trivial | rfl | (simp [intE])
          · refine vc_skip ?_
            refine thn ?_
            refine vc_sr ?_
            iterate 2 refine vo ?_
            try refine veq (Int.tmod_eq_emod_of_nonneg (by omega)) ?_
            refine vo ?_
            refine vnt ?_
            refine vc_seq' ?_
            refine vc_sr ?_
            iterate 3 refine vo ?_
            refine vsp (fun g8 => ?_) (fun g8 => ?_)
            · iterate 5 refine vof ?_
              refine vo ?_
              refine vnt ?_
              refine vc_then ?_
              refine vc_sr ?_
              iterate 5 refine vo ?_
              refine vnt ?_
              refine vc_ret ?_
              refine thn_r ?_
              refine inB_r ?_
              refine thn_r ?_
              refine inB_r ?_
              refine thn_r ?_
              have hno : runs l ps d a (m0 : Int) wt = none := by rw [hI.2.2, parts_neg (by omega) g5]; rfl
              refine fin_i [(0, some 464), (1, some 472)] rfl (fz ?_) (fz ?_)
              · exact (rn_no2 hno).1
              · rw [(rn_no2 hno).2]; first | trivial | rfl | exact ⟨rfl, rfl⟩
            · exfalso; omega
        · refine vc_exit ?_
          refine thn_x ?_
          refine thn_x ?_
          refine inB_x ?_
          refine thn ?_
          refine vc_sr ?_
          iterate 5 refine vo ?_
          refine vnt ?_
          refine vc_ret ?_
          have hy := rn_end hI.2.2 (by omega)
          refine fin_i [(0, some 6), (1, some 7)] rfl (fz ?_) (fz ?_)
          · exact (rn_yes hy).1
          · rw [(rn_yes hy).2]; first | trivial | rfl | exact ⟨rfl, rfl⟩
end Go.Proofs.YtbdcaacpemkloaaGreat
end
section
namespace Go.Proofs.YtbdcaacpemkloaaGreat
open Go Go.RowKit Go.Vc
set_option linter.unusedVariables false
set_option linter.unusedSimpArgs false
set_option linter.unnecessarySimpa false
section
variable {P : Program} [TyEnv P] {n : Nat} {ops os : List Oper} {dr : Bool} {K : Tm → Hp → Prop} {t : Tm} {H : Hp} {fp : List Fp} {d : Nat}
theorem vlb {s : ByteArray} (h : Vd P n ops dr K os ((d, .one (.v (.int .i64 (s.size : Int)))) :: t) H fp) : Vd P n ops dr K os ((d, .one (.v (.int .i64 ((bytesE s).length : Int)))) :: t) H fp := by
  rw [bytesE_len]; exact h
end
theorem pg_at {ps : Pg} {a : Int} (h0 : 0 ≤ a) (h : a / 128 < (ps.length : Int)) : at' ps (a / 128).toNat = pageAt ps a := by
  unfold at' pageAt
  rw [List.getD_eq_getElem?_getD, List.getElem?_eq_getElem (show (a / 128).toNat < ps.length by omega)]; rfl
theorem seg_in {ps : Pg} {a n : Int} (hm : MemOk ps) (hs : Seg ps.length (a, n)) : memInB ps a n = true := by
  obtain ⟨h0, h1, h2, h3⟩ := hs
  simp only at h0 h1 h2 h3
  exact memInB_iff.2 ⟨hm, by omega, by omega, by omega, by omega⟩
theorem seg_rd {ps : Pg} {a n k : Int} (hm : MemOk ps) (hs : Seg ps.length (a, n)) (hk : k = a % 128 + n) : (at' ps (a / 128).toNat).extract (a % 128).toNat k.toNat = readSeg ps (a, n) := by
  obtain ⟨h0, h1, h2, h3⟩ := hs
  simp only at h0 h1 h2 h3
  rw [pg_at h0 h3, readSeg]
  simp only
  rw [show (a % 128).toNat + n.toNat = k.toNat by omega]
theorem seg_pg {ps : Pg} {a n : Int} (hm : MemOk ps) (hs : Seg ps.length (a, n)) : (at' ps (a / 128).toNat).size = 128 := by
  obtain ⟨h0, h1, h2, h3⟩ := hs
  obtain ⟨g, e, he⟩ := hm.page h0 h3
  rw [pg_at h0 h3]; exact he
theorem seg_sz {ps : Pg} {a n : Int} (hm : MemOk ps) (hs : Seg ps.length (a, n)) : ((readSeg ps (a, n)).size : Int) = n := by
  rw [readSeg_size hm hs]
  have := hs.2.1
  simp only at this ⊢
  omega
theorem rd_go {ps : Pg} {a b n : Int} {o : ByteArray} (hm : MemOk ps) (hs : Seg ps.length (a, n)) (h : (o = ⟨#[]⟩ ∧ b = a) ∨ (o = readSeg ps (a, n) ∧ b = a + n)) (g : (o.size : Int) < n) : o = ⟨#[]⟩ ∧ a = b := by
  rcases h with h | ⟨rfl, rfl⟩
  · exact ⟨h.1, h.2.symm⟩
  · have := seg_sz hm hs
    omega
theorem rd_end {ps : Pg} {a b n : Int} {o : ByteArray} (hs : Seg ps.length (a, n)) (h : (o = ⟨#[]⟩ ∧ b = a) ∨ (o = readSeg ps (a, n) ∧ b = a + n)) (g : n ≤ (o.size : Int)) : o = readSeg ps (a, n) := by
  rcases h with ⟨rfl, rfl⟩ | h
  · have := hs.2.1
    have e : (ByteArray.size ⟨#[]⟩ : Int) = 0 := rfl
    simp only at this
    omega
  · exact h.1
set_option maxHeartbeats 4000000 in
theorem c_impl_ReadMemory {ps : Pg} {a n : Int} (hm : MemOk ps := by assumption) (hs : Seg ps.length (a, n) := by assumption) : Con0 Tryz.prog 209 [.agg [.sl 1 (ps.map strE)], I a, I n] (.tup [Z (readSeg ps (a, n)), B true]) [] := by
  have hw := seg_in hm hs
  have hz := seg_sz hm hs
  have hg := seg_pg hm hs
  have hs1 : 0 ≤ a ∧ 1 ≤ n ∧ a % 128 + n ≤ 128 ∧ a / 128 < (ps.length : Int) := hs
  have hl := hm.1
  have hb0 : (bytesE ⟨#[]⟩).length = 0 := rfl
  have hb1 := bytesE_len (readSeg ps (a, n))
  have he : ByteArray.size ⟨#[]⟩ = 0 := rfl
  refine con_i Tryz.func209 Tryz.ntmps209 (t := [(0, .agg [.sl 1 (ps.map strE)]), (1, I a), (2, I n)]) rfl ?_
  refine vc_sr ?_
  iterate 3 refine vo ?_
  refine vnt ?_
  refine vc_seq' ?_
  refine vc_sr ?_
  iterate 3 refine vo ?_
  refine voc c_impl_within rfl rfl ?_
  refine vo ?_
  refine vnt ?_
  refine vc_if (fun g1 => ?_) (fun g1 => ?_)
  · rw [hw] at g1; cases g1
  · refine vc_skip ?_
    refine thn ?_
    refine vc_sr ?_
    iterate 3 refine vo ?_
    refine vnt ?_
    refine vc_seq' ?_
    refine vc_block ?_
    refine vc_lp2 [2, 3] [24] (fun (o : ByteArray) (b : Int) => [(1, I b), (8, .one (.hs 7))]) (fun (o : ByteArray) (b : Int) => [(7, .arr 5 1 (bytesE o))]) (fun (o : ByteArray) (b : Int) => (o = ⟨#[]⟩ ∧ b = a) ∨ (o = readSeg ps (a, n) ∧ b = a + n)) (fun (o : ByteArray) (b : Int) => (n - o.size).toNat) ⟨#[]⟩ a rfl rfl (sub_i [(7, some 144)] (fz ?_) (fz ?_)) ?_ fun o b hI => ?_
    · first | trivial | rfl
    · first | trivial | rfl
    · exact .inl ⟨rfl, rfl⟩
    refine vc_nf rfl rfl ?_
    refine vc_seq' ?_
    refine vc_sr ?_
    iterate 2 refine vo ?_
    try first | refine vlb ?_ | refine vln ?_
    iterate 2 refine vo ?_
    refine vnt ?_
    refine vc_if (fun g2 => ?_) (fun g2 => ?_)
    · obtain ⟨rfl, rfl⟩ := rd_go hm hs hI g2
      refine vc_skip ?_
      refine thn ?_
      refine vc_block ?_
      refine vc_sr ?_
      iterate 4 refine vo ?_
      try refine veq (IntWalk.i64_quo _ _ (by omega)) ?_
      refine vo ?_
      try with_reducible (first | refine vep ?_ | refine vpt ?_)
      iterate 2 refine vo ?_
      refine vnt ?_
      refine vc_sr ?_
      iterate 2 refine vo ?_
      try refine veq (Int.tmod_eq_emod_of_nonneg (by omega)) ?_
      refine vo ?_
      refine vnt ?_
      refine vc_sr ?_
      iterate 5 refine vo ?_
      try refine vwr ?_
      iterate 2 refine vo ?_
      try first | refine vlb ?_ | refine vln ?_
      refine veq (show (ByteArray.size ⟨#[]⟩ : Int) = 0 from rfl) ?_
      refine vo ?_
      try refine vwr ?_
      iterate 2 refine vo ?_
      refine vstr (seg_rd hm hs (by omega)) ?_
      refine vo ?_
      refine vnt ?_
      refine vc_sr ?_
      iterate 4 refine vo ?_
      refine vnt ?_
      refine vc_region ?_
      iterate 3 refine vo ?_
      refine veq hz ?_
      refine vo ?_
      try refine vwr ?_
      refine vo ?_
      refine vnil ?_
      refine inB_n ?_
      refine thn ?_
      refine ⟨readSeg ps (a, n), a + n, ?_, ?_, sub_i [(7, some 344)] (fz ?_) (fz ?_)⟩
      · exact .inr ⟨rfl, rfl⟩
      · rw [hz, show ((ByteArray.size ⟨#[]⟩ : Nat) : Int) = 0 from rfl]; omega
      · first | trivial | rfl
      · first | trivial | rfl | (simp [bytesE_nil])
    · obtain rfl := rd_end hs hI g2
      refine vc_exit ?_
      refine thn_x ?_
      refine thn_x ?_
      refine inB_x ?_
      refine thn ?_
      refine vc_sr ?_
      iterate 4 refine vo ?_
      refine vnt ?_
      refine vc_ret ?_
      refine fin_i [] rfl (fz ?_) trivial
      rw [ofE_bytesE]
      try exact ⟨rfl, rfl⟩
theorem seg_wr {ps : Pg} {a : Int} {S : ByteArray} (hs : Seg ps.length (a, (S.size : Int))) : (writeSeg ps a S).map strE = (ps.map strE).set (a / 128).toNat [.string (putB (at' ps (a / 128).toNat) (a % 128).toNat S)] := by
  obtain ⟨h0, h1, h2, h3⟩ := hs
  rw [pg_at h0 h3, writeSeg, List.map_set]; rfl
theorem seg_wr2 {ps : Pg} {a : Int} {S : ByteArray} (hm : MemOk ps) (hs : Seg ps.length (a, (S.size : Int))) : (writeSeg ps a S).map strE = (ps.map strE).set (a / 128).toNat [.string (putBF (at' ps (a / 128).toNat) (a % 128) S)] := by
  rw [seg_wr hs]
  have hg := seg_pg hm hs
  obtain ⟨h0, h1, h2, h3⟩ := hs
  simp only at h2
  have e : (a % 128) = ((a % 128).toNat : Nat) := by omega
  rw [show putBF (at' ps (a / 128).toNat) (a % 128) S = putB (at' ps (a / 128).toNat) (a % 128).toNat S by
    conv => lhs; rw [e]
    exact putBF_in (by omega)]
theorem ex_full (S : ByteArray) : S.extract (Int.toNat (S.size : Nat)) S.size = ⟨#[]⟩ := ba_full S
theorem ex_all (S : ByteArray) : S.extract (Int.toNat 0) (Int.toNat (S.size : Nat)) = S := ba_all S
set_option maxHeartbeats 4000000 in
theorem c_impl_WriteMemory {ps : Pg} {a : Int} {S : ByteArray} (hm : MemOk ps := by assumption) (hs : Seg ps.length (a, (S.size : Int)) := by assumption) : Con0 Tryz.prog 257 [.agg [.sl 1 (ps.map strE)], I a, Z S] (.tup [.agg [.hs 0], B true]) [(0, .arr 9 1 ((writeSeg ps a S).map strE))] := by
  have hw := seg_in hm hs
  have hg := seg_pg hm hs
  have hs1 : 0 ≤ a ∧ 1 ≤ (S.size : Int) ∧ a % 128 + S.size ≤ 128 ∧ a / 128 < (ps.length : Int) := hs
  have hl := hm.1
  have he : ByteArray.size ⟨#[]⟩ = 0 := rfl
  have hs2 : S.size ≤ 1099511627776 := by omega
  have hg2 : (at' ps (a / 128).toNat).size ≤ 1099511627776 := by omega
  refine con_i Tryz.func257 Tryz.ntmps257 (t := [(0, .agg [.sl 1 (ps.map strE)]), (1, I a), (2, Z S)]) rfl ?_
  refine vc_sr ?_
  iterate 3 refine vo ?_
  refine vnt ?_
  refine vc_sr ?_
  refine vo ?_
  refine voc c_impl_copyMemory rfl rfl ?_
  iterate 2 refine vo ?_
  refine vnt ?_
  refine vc_seq' ?_
  refine vc_sr ?_
  iterate 4 refine vo ?_
  refine voc c_impl_within rfl rfl ?_
  refine vo ?_
  refine vnt ?_
  refine vc_if (fun g1 => ?_) (fun g1 => ?_)
  · rw [hw] at g1; cases g1
  · refine vc_skip ?_
    refine thn ?_
    refine vc_seq' ?_
    refine vc_block ?_
    refine vc_lp3 [6, 8] [48, 64] (fun (q : Pg) (b : Int) (s : ByteArray) => [(1, I b), (2, Z s)]) (fun (q : Pg) (b : Int) (s : ByteArray) => [(96, .arr 9 1 (q.map strE))]) (fun (q : Pg) (b : Int) (s : ByteArray) => (q = ps ∧ b = a ∧ s = S) ∨ (q = writeSeg ps a S ∧ b = a + S.size ∧ s = ⟨#[]⟩)) (fun (q : Pg) (b : Int) (s : ByteArray) => s.size) ps a S rfl rfl (sub_i [] (fz ?_) (fz ?_)) ?_ fun q b s hI => ?_
    · first | trivial | rfl
    · first | trivial | rfl
    · exact .inl ⟨rfl, rfl, rfl⟩
    refine vc_nf rfl rfl ?_
    refine vc_seq' ?_
    refine vc_sr ?_
    iterate 3 refine vo ?_
    refine vnt ?_
    refine vc_if (fun g2 => ?_) (fun g2 => ?_)
    · obtain ⟨rfl, rfl, rfl⟩ : ps = q ∧ a = b ∧ S = s := by rcases hI with h | h <;> first | exact ⟨h.1.symm, h.2.1.symm, h.2.2.symm⟩ | (exfalso; rw [h.2.2] at g2; simp at g2; omega)
      refine vc_skip ?_
      refine thn ?_
      refine vc_block ?_
      refine vc_sr ?_
      iterate 4 refine vo ?_
      try refine veq (IntWalk.i64_quo _ _ (by omega)) ?_
      refine vo ?_
      try with_reducible (first | refine vep ?_ | refine vpt ?_)
      iterate 3 refine vo ?_
      refine vnt ?_
      refine vc_sr ?_
      iterate 3 refine vo ?_
      try refine veq (Int.tmod_eq_emod_of_nonneg (by omega)) ?_
      iterate 4 refine vo ?_
      refine vnt ?_
      refine vc_sr ?_
      iterate 4 refine vo ?_
      try refine veq (IntWalk.i64_quo _ _ (by omega)) ?_
      iterate 3 refine vo ?_
      try with_reducible (first | refine vep ?_ | refine vpt ?_)
      refine vo ?_
      refine vnt ?_
      refine vc_sr ?_
      iterate 3 refine vo ?_
      refine vstr (ex_full S) ?_
      refine vo ?_
      refine vnt ?_
      refine vc_region ?_
      iterate 3 refine vo ?_
      try refine vwr ?_
      refine vo ?_
      refine vnil ?_
      refine inB_n ?_
      refine thn ?_
      refine ⟨writeSeg ps a S, a + S.size, ⟨#[]⟩, ?_, ?_, sub_i [] (fz ?_) (fz ?_)⟩
      · exact .inr ⟨rfl, rfl, rfl⟩
      · omega
      · first | trivial | rfl
      · first | exact seg_wr hs | exact seg_wr2 hm hs
    · obtain rfl : q = writeSeg ps a S := by rcases hI with h | h <;> first | exact h.1 | (exfalso; rw [h.2.2] at g2; omega)
      refine vc_exit ?_
      refine thn_x ?_
      refine thn_x ?_
      refine inB_x ?_
      refine thn ?_
      refine vc_sr ?_
      iterate 3 refine vo ?_
      refine vnt ?_
      refine vc_ret ?_
      refine fin_i [(0, some 96)] rfl (fz ?_) (fz ?_) <;> first | trivial | rfl
set_option maxHeartbeats 4000000 in
theorem c_spec_WriteMemory {ps : Pg} {a : Int} {S : ByteArray} (hm : MemOk ps := by assumption) (hs : Seg ps.length (a, (S.size : Int)) := by assumption) : Con0 Tryz.prog 224 [.agg [.sl 1 (ps.map strE)], I a, Z S] (.tup [.agg [.hs 0], B true]) [(0, .arr 9 1 ((writeSeg ps a S).map strE))] := by
  have hw := seg_in hm hs
  have hg := seg_pg hm hs
  have hs1 : 0 ≤ a ∧ 1 ≤ (S.size : Int) ∧ a % 128 + S.size ≤ 128 ∧ a / 128 < (ps.length : Int) := hs
  have hl := hm.1
  have he : ByteArray.size ⟨#[]⟩ = 0 := rfl
  have hs2 : S.size ≤ 1099511627776 := by omega
  have hg2 : (at' ps (a / 128).toNat).size ≤ 1099511627776 := by omega
  refine con_i Tryz.func224 Tryz.ntmps224 (t := [(0, .agg [.sl 1 (ps.map strE)]), (1, I a), (2, Z S)]) rfl ?_
  refine vc_sr ?_
  iterate 3 refine vo ?_
  refine vnt ?_
  refine vc_sr ?_
  refine vo ?_
  refine voc c_spec_l16Copy rfl rfl ?_
  iterate 2 refine vo ?_
  refine vnt ?_
  refine vc_seq' ?_
  refine vc_sr ?_
  iterate 4 refine vo ?_
  refine voc c_spec_l16Within rfl rfl ?_
  refine vo ?_
  refine vnt ?_
  refine vc_if (fun g1 => ?_) (fun g1 => ?_)
  · rw [hw] at g1; cases g1
  · refine vc_skip ?_
    refine thn ?_
    refine vc_seq' ?_
    refine vc_block ?_
    refine vc_lp3 [6, 8] [48, 64] (fun (q : Pg) (b : Int) (s : ByteArray) => [(1, I b), (2, Z s)]) (fun (q : Pg) (b : Int) (s : ByteArray) => [(96, .arr 9 1 (q.map strE))]) (fun (q : Pg) (b : Int) (s : ByteArray) => (q = ps ∧ b = a ∧ s = S) ∨ (q = writeSeg ps a S ∧ b = a + S.size ∧ s = ⟨#[]⟩)) (fun (q : Pg) (b : Int) (s : ByteArray) => s.size) ps a S rfl rfl (sub_i [] (fz ?_) (fz ?_)) ?_ fun q b s hI => ?_
    · first | trivial | rfl
    · first | trivial | rfl
    · exact .inl ⟨rfl, rfl, rfl⟩
    refine vc_nf rfl rfl ?_
    refine vc_seq' ?_
    refine vc_sr ?_
    iterate 3 refine vo ?_
    refine vnt ?_
    refine vc_if (fun g2 => ?_) (fun g2 => ?_)
    · obtain ⟨rfl, rfl, rfl⟩ : ps = q ∧ a = b ∧ S = s := by rcases hI with h | h <;> first | exact ⟨h.1.symm, h.2.1.symm, h.2.2.symm⟩ | (exfalso; rw [h.2.2] at g2; simp at g2; omega)
      refine vc_skip ?_
      refine thn ?_
      refine vc_block ?_
      refine vc_sr ?_
      iterate 2 refine vo ?_
      try refine veq (Int.tmod_eq_emod_of_nonneg (by omega)) ?_
      refine vo ?_
      refine vnt ?_
      refine vc_sr ?_
      iterate 4 refine vo ?_
      try refine vwr ?_
      refine vo ?_
      refine veq (show min (S.size : Int) (128 - a % 128) = S.size by omega) ?_
      refine vo ?_
      refine vnt ?_
      refine vc_sr ?_
      iterate 4 refine vo ?_
      try refine veq (IntWalk.i64_quo _ _ (by omega)) ?_
      iterate 4 refine vo ?_
      try refine veq (IntWalk.i64_quo _ _ (by omega)) ?_
      refine vo ?_
      try with_reducible (first | refine vep ?_ | refine vpt ?_)
      iterate 5 refine vo ?_
      refine vstr (ex_all S) ?_
      refine voc c_spec_PutBytes rfl rfl ?_
      refine vzs (Nat.le_of_eq (putBF_le _ _ _)) fun z1 => ?_
      refine vo ?_
      try with_reducible (first | refine vep ?_ | refine vpt ?_)
      refine vo ?_
      refine vnt ?_
      refine vc_sr ?_
      iterate 3 refine vo ?_
      try refine vwr ?_
      refine vo ?_
      refine vnt ?_
      refine vc_region ?_
      iterate 3 refine vo ?_
      refine vstr (ex_full S) ?_
      refine vo ?_
      refine vnil ?_
      refine inB_n ?_
      refine thn ?_
      refine ⟨writeSeg ps a S, a + S.size, ⟨#[]⟩, ?_, ?_, sub_i [] (fz ?_) (fz ?_)⟩
      · exact .inr ⟨rfl, rfl, rfl⟩
      · omega
      · first | trivial | rfl
      · first | exact seg_wr hs | exact seg_wr2 hm hs
    · obtain rfl : q = writeSeg ps a S := by rcases hI with h | h <;> first | exact h.1 | (exfalso; rw [h.2.2] at g2; omega)
      refine vc_exit ?_
      refine thn_x ?_
      refine thn_x ?_
      refine inB_x ?_
      refine thn ?_
      refine vc_sr ?_
      iterate 3 refine vo ?_
      refine vnt ?_
      refine vc_ret ?_
      refine fin_i [(0, some 96)] rfl (fz ?_) (fz ?_) <;> first | trivial | rfl
end Go.Proofs.YtbdcaacpemkloaaGreat
end
section
namespace Go.Proofs.YtbdcaacpemkloaaGreat
open Go Go.RowKit Go.Vc
set_option linter.unusedVariables false
set_option linter.unusedSimpArgs false
set_option linter.unnecessarySimpa false
theorem rd_stp {ps : Pg} {rs : List (Int × Int)} {i : Nat} {o : ByteArray} (hi : i < rs.length) (h : readAll ps rs ⟨#[]⟩ = readAll ps (rs.drop i) o) : readAll ps rs ⟨#[]⟩ = readAll ps (rs.drop (i + 1)) (o ++ readSeg ps ((at' rs i).1, (at' rs i).2)) := by
  rw [h, drop_at hi]; rfl
theorem rd_le {ps : Pg} {rs : List (Int × Int)} {i : Nat} {o : ByteArray} {n : Int} (h : readAll ps rs ⟨#[]⟩ = readAll ps (rs.drop i) o) (hn : ((readAll ps rs ⟨#[]⟩).size : Int) ≤ n) : (o.size : Int) ≤ n := by
  have := readAll_le ps (rs.drop i) o
  rw [← h] at this; omega
theorem at_map {α β : Type} [Inhabited α] [Inhabited β] {l : List α} {f : α → β} {i : Nat} (h : i < l.length) : at' (l.map f) i = f (at' l i) := by
  rw [at_eq h, at_eq (by simpa using h), List.getElem_map]
theorem at_mem {α : Type} [Inhabited α] {l : List α} {i : Nat} (h : i < l.length) : at' l i ∈ l := by rw [at_eq h]; exact List.getElem_mem h
theorem rd_fin {l : List Mp} {ps : Pg} {d a n : Int} {rs : List (Int × Int)} {i : Nat} {o : ByteArray} (hrs : runs l ps d a n false = some rs) (h : readAll ps rs ⟨#[]⟩ = readAll ps (rs.drop i) o) (hi : ¬ i < rs.length) : (dmaRF l ps d a n).1 = o ∧ (dmaRF l ps d a n).2 = true := by
  rw [dmaRF_yes hrs]
  refine ⟨?_, rfl⟩
  rw [h, List.drop_eq_nil_of_le (by omega)]; rfl
theorem rd_none {l : List Mp} {ps : Pg} {d a n : Int} (h : (runs l ps d a n false).isSome = false) : (dmaRF l ps d a n).1 = ⟨#[]⟩ ∧ (dmaRF l ps d a n).2 = false := by
  have : runs l ps d a n false = none := by cases hx : runs l ps d a n false with
    | none => rfl
    | some x => rw [hx] at h; cases h
  rw [dmaRF_no this]; exact ⟨rfl, rfl⟩
set_option maxHeartbeats 4000000 in
theorem c_impl_DmaRead {l : List Mp} {ps : Pg} {d a n : Int} (hl : l.length ≤ 1099511627776 := by first | assumption | omega) (hp : ps.length ≤ 1099511627776 := by first | assumption | omega) (ha : a ≤ 9223372036854775807 := by omega) : Con0 Tryz.prog 133 [.one (.sl 4 (l.map mpE)), .agg [.sl 1 (ps.map strE)], I d, I a, I n] (.tup [Z (dmaRF l ps d a n).1, B (dmaRF l ps d a n).2]) [] := by
  refine con_i Tryz.func133 Tryz.ntmps133 (t := [(0, .one (.sl 4 (l.map mpE))), (1, .agg [.sl 1 (ps.map strE)]), (2, I d), (3, I a), (4, I n)]) rfl ?_
  refine vc_sr ?_
  iterate 3 refine vo ?_
  refine vnt ?_
  refine vc_sr ?_
  iterate 5 refine vo ?_
  refine voc c_impl_runsOf rfl rfl ?_
  iterate 5 refine vo ?_
  refine vnt ?_
  refine vc_seq' ?_
  refine vc_sr ?_
  iterate 2 refine vo ?_
  refine vnt ?_
  refine vc_if (fun g1 => ?_) (fun g1 => ?_)
  · refine vc_sr ?_
    iterate 2 refine vo ?_
    refine vnt ?_
    refine vc_ret ?_
    refine thn_r ?_
    refine fin_i [] rfl (fz ?_) trivial
    exact rd_none g1
  · obtain ⟨rs, hrs⟩ := Option.isSome_iff_exists.1 g1
    obtain ⟨hm, hps, hn, hseg, hsum, hlen⟩ := runs_fine hrs
    have hpl := hps.1
    have hrz : ((readAll ps rs ⟨#[]⟩).size : Int) ≤ 4096 := by rw [readAll_size hps rs _ hseg, hsum]; exact (by show ((0 : Nat) : Int) + n ≤ 4096; omega)
    have e : (runs l ps d a n false).getD [] = rs := by rw [hrs]; rfl
    rw [e]
    refine vc_skip ?_
    refine thn ?_
    refine vc_sr ?_
    refine vo ?_
    refine vnt ?_
    refine vc_seq' ?_
    refine vc_sr ?_
    iterate 2 refine vo ?_
    try first | refine vlb ?_ | refine vln ?_
    refine vo ?_
    refine vnt ?_
    refine vc_block ?_
    refine vc_lp2 [6, 30, 31] [48, 200] (fun (i : Nat) (o : ByteArray) => [(14, Z o), (32, I (i : Nat))]) (fun (i : Nat) (o : ByteArray) => []) (fun (i : Nat) (o : ByteArray) => i ≤ rs.length ∧ readAll ps rs ⟨#[]⟩ = readAll ps (rs.drop i) o) (fun (i : Nat) (o : ByteArray) => rs.length - i) 0 ⟨#[]⟩ rfl rfl (sub_i [] (fz ?_) (fz ?_)) ?_ fun i o hI => ?_
    · first | trivial | rfl
    · first | trivial | rfl
    · exact ⟨Nat.zero_le _, rfl⟩
    refine vc_nf rfl rfl ?_
    refine vc_sr ?_
    refine vo ?_
    refine vnt ?_
    refine vc_seq' ?_
    refine vc_if (fun g2 => ?_) (fun g2 => ?_)
    · have hs : Seg ps.length ((at' rs i).1, (at' rs i).2) := hseg _ (at_mem g2)
      have ho := rd_le hI.2 hrz
      have hz := seg_sz hps hs
      have hz2 := (seg_i64 hpl (hseg _ (at_mem g2)))
      refine vc_skip ?_
      refine thn ?_
      refine vc_seq' ?_
      refine vc_block ?_
      refine vc_sr ?_
      refine vo ?_
      try with_reducible (first | refine vep ?_ | refine vpt ?_)
      iterate 3 refine vo ?_
      refine vnt ?_
      refine vc_sr ?_
      iterate 5 refine vo ?_
      refine voc c_impl_ReadMemory rfl rfl ?_
      iterate 5 refine vo ?_
      refine vnt ?_
      refine vc_region ?_
      iterate 4 refine vo ?_
      refine vnil ?_
      refine inB_n ?_
      refine thn ?_
      refine vc_region ?_
      refine vo ?_
      try refine vwr ?_
      refine vo ?_
      refine vnt ?_
      refine ⟨i + 1, o ++ readSeg ps ((at' rs i).1, (at' rs i).2), ?_, ?_, sub_i [] (fz ?_) (fz ?_)⟩
      · exact ⟨by omega, rd_stp g2 hI.2⟩
      · omega
      · first | trivial | rfl | exact ⟨rfl, rfl⟩
      · first | trivial | rfl
    · refine vc_exit ?_
      refine thn_x ?_
      refine thn_x ?_
      refine inB_x ?_
      refine thn ?_
      refine vc_sr ?_
      iterate 3 refine vo ?_
      refine vnt ?_
      refine vc_ret ?_
      refine fin_i [] rfl (fz ?_) trivial
      exact rd_fin hrs hI.2 g2
theorem wr_facts {q : Pg} {np : Nat} {rs : List (Int × Int)} {i : Nat} {s1 : ByteArray} (hi : i < rs.length) (hf : Fits np (rs.drop i) s1.size) (hq : MemOk q) (hl : q.length = np) : Seg q.length ((at' rs i).1, ((s1.extract (Int.toNat 0) (at' rs i).2.toNat).size : Int)) ∧ 1 ≤ (at' rs i).2 ∧ (at' rs i).2 ≤ s1.size ∧ Fits np (rs.drop (i + 1)) (s1.extract (at' rs i).2.toNat s1.size).size ∧ MemOk (writeSeg q (at' rs i).1 (s1.extract (Int.toNat 0) (at' rs i).2.toNat)) ∧ (writeSeg q (at' rs i).1 (s1.extract (Int.toNat 0) (at' rs i).2.toNat)).length = np := by
  rw [drop_at hi] at hf
  obtain ⟨h1, h2, h3⟩ := hf.cons
  obtain ⟨g0, g1, g2, g3⟩ := h1
  have e : (s1.extract (Int.toNat 0) (at' rs i).2.toNat).size = (at' rs i).2.toNat := by rw [ByteArray.size_extract]; have : Int.toNat 0 = 0 := rfl; omega
  have e2 : (s1.extract (at' rs i).2.toNat s1.size).size = s1.size - (at' rs i).2.toNat := by rw [ByteArray.size_extract]; omega
  refine ⟨⟨g0, by rw [e]; simp only; omega, by rw [e]; simp only; omega, by rw [hl]; exact g3⟩, g1, h2, by rw [e2]; exact h3, ?_⟩
  have := hq.writeSeg (a := (at' rs i).1) (b := s1.extract (Int.toNat 0) (at' rs i).2.toNat) g0 (by rw [hl]; exact g3) (by rw [e]; omega)
  exact ⟨this.1, by rw [this.2, hl]⟩
theorem wr_stp {ps q : Pg} {rs : List (Int × Int)} {i : Nat} {s s1 : ByteArray} (hi : i < rs.length) (h : writeAll ps rs s = writeAll q (rs.drop i) s1) : writeAll ps rs s = writeAll (writeSeg q (at' rs i).1 (s1.extract (Int.toNat 0) (at' rs i).2.toNat)) (rs.drop (i + 1)) (s1.extract (at' rs i).2.toNat s1.size) := by
  rw [h, drop_at hi]; rfl
theorem wr_fin {l : List Mp} {ps q : Pg} {d a : Int} {s s1 : ByteArray} {wt : Bool} {rs : List (Int × Int)} {i : Nat} (hrs : runs l ps d a s.size wt = some rs) (h : writeAll ps rs s = writeAll q (rs.drop i) s1) (hi : ¬ i < rs.length) : (dmaWF l ps d a s wt).2 = true ∧ (dmaWF l ps d a s wt).1 = q := by
  have e : dmaWF l ps d a s wt = (writeAll ps rs s, true) := by unfold dmaWF dmaW; rw [hrs]; rfl
  rw [e]
  refine ⟨rfl, ?_⟩
  rw [h, List.drop_eq_nil_of_le (by omega)]; rfl
theorem wr_none {l : List Mp} {ps : Pg} {d a : Int} {s : ByteArray} {wt : Bool} (h : (runs l ps d a s.size wt).isSome = false) : (dmaWF l ps d a s wt).2 = false ∧ (dmaWF l ps d a s wt).1 = ps := by
  have : runs l ps d a s.size wt = none := by cases hx : runs l ps d a s.size wt with
    | none => rfl
    | some x => rw [hx] at h; cases h
  rw [dmaWF_no this]; exact ⟨rfl, rfl⟩
set_option maxHeartbeats 4000000 in
theorem c_impl_put {l : List Mp} {ps : Pg} {d a : Int} {s : ByteArray} {wt : Bool} (hl : l.length ≤ 1099511627776 := by first | assumption | omega) (hp : ps.length ≤ 1099511627776 := by first | assumption | omega) (hs_s : s.size ≤ 1099511627776 := by first | assumption | omega | (simp only [ByteArray.size_append, ByteArray.size_extract, strOfNums_size, List.length_cons, List.length_nil]; omega)) (ha : a ≤ 9223372036854775807 := by omega) : Con0 Tryz.prog 230 [.one (.sl 4 (l.map mpE)), .agg [.sl 1 (ps.map strE)], I d, I a, Z s, B wt] (.tup [.agg [.hs 0], B (dmaWF l ps d a s wt).2]) [(0, .arr 9 1 ((dmaWF l ps d a s wt).1.map strE))] := by
  refine con_i Tryz.func230 Tryz.ntmps230 (t := [(0, .one (.sl 4 (l.map mpE))), (1, .agg [.sl 1 (ps.map strE)]), (2, I d), (3, I a), (4, Z s), (5, B wt)]) rfl ?_
  refine vc_sr ?_
  iterate 3 refine vo ?_
  refine vnt ?_
  refine vc_sr ?_
  refine vo ?_
  refine voc c_impl_copyMemory rfl rfl ?_
  iterate 2 refine vo ?_
  refine vnt ?_
  refine vc_sr ?_
  iterate 7 refine vo ?_
  refine voc c_impl_runsOf rfl rfl ?_
  iterate 5 refine vo ?_
  refine vnt ?_
  refine vc_seq' ?_
  refine vc_sr ?_
  iterate 2 refine vo ?_
  refine vnt ?_
  refine vc_if (fun g1 => ?_) (fun g1 => ?_)
  · refine vc_sr ?_
    iterate 3 refine vo ?_
    refine vnt ?_
    refine vc_ret ?_
    refine thn_r ?_
    refine fin_i [(0, some 160)] rfl (fz ?_) (fz ?_)
    · exact (wr_none g1).1
    · rw [(wr_none g1).2]
  · obtain ⟨rs, hrs⟩ := Option.isSome_iff_exists.1 g1
    obtain ⟨hm, hps, hn, hseg, hsum, hlen⟩ := runs_fine hrs
    have hpl := hps.1
    have e : (runs l ps d a s.size wt).getD [] = rs := by rw [hrs]; rfl
    rw [e]
    refine vc_skip ?_
    refine thn ?_
    refine vc_seq' ?_
    refine vc_sr ?_
    iterate 2 refine vo ?_
    try first | refine vlb ?_ | refine vln ?_
    refine vo ?_
    refine vnt ?_
    refine vc_block ?_
    refine vc_lp3 [12, 14, 35, 36] [96, 232] (fun (i : Nat) (q : Pg) (s1 : ByteArray) => [(4, Z s1), (37, I (i : Nat))]) (fun (i : Nat) (q : Pg) (s1 : ByteArray) => [(7, .arr 9 1 (q.map strE)), (112, .row 27 [.hs 7])]) (fun (i : Nat) (q : Pg) (s1 : ByteArray) => i ≤ rs.length ∧ writeAll ps rs s = writeAll q (rs.drop i) s1 ∧ MemOk q ∧ q.length = ps.length ∧ Fits ps.length (rs.drop i) s1.size) (fun (i : Nat) (q : Pg) (s1 : ByteArray) => rs.length - i) 0 ps s rfl rfl (sub_i [(7, some 160)] (fz ?_) (fz ?_)) ?_ fun i q s1 hI => ?_
    · first | trivial | rfl
    · first | trivial | rfl | exact ⟨rfl, rfl⟩
    · exact ⟨Nat.zero_le _, rfl, hps, rfl, hseg, by rw [List.drop_zero]; exact hsum⟩
    refine vc_nf rfl rfl ?_
    refine vc_sr ?_
    refine vo ?_
    refine vnt ?_
    refine vc_seq' ?_
    refine vc_if (fun g2 => ?_) (fun g2 => ?_)
    · obtain ⟨hs, hz1, hz2, hfit, hmq, hlq⟩ := wr_facts g2 hI.2.2.2.2 hI.2.2.1 hI.2.2.2.1
      have hq2 := hI.2.2.1
      have hql := hI.2.2.2.1
      refine vc_skip ?_
      refine thn ?_
      refine vc_seq' ?_
      refine vc_block ?_
      refine vc_sr ?_
      refine vo ?_
      try with_reducible (first | refine vep ?_ | refine vpt ?_)
      iterate 3 refine vo ?_
      refine vnt ?_
      refine vc_sr ?_
      iterate 7 refine vo ?_
      refine voc c_impl_WriteMemory rfl rfl ?_
      iterate 4 refine vo ?_
      refine vnt ?_
      refine vc_region ?_
      iterate 5 refine vo ?_
      refine vnil ?_
      refine inB_n ?_
      refine thn ?_
      refine vc_region ?_
      refine vo ?_
      try refine vwr ?_
      refine vo ?_
      refine vnt ?_
      refine ⟨i + 1, writeSeg q (at' rs i).1 (s1.extract (Int.toNat 0) (at' rs i).2.toNat), s1.extract (at' rs i).2.toNat s1.size, ?_, ?_, sub_i [(7, some 392)] (fz ?_) (fz ?_)⟩
      · exact ⟨by omega, wr_stp g2 hI.2.1, hmq, hlq, hfit⟩
      · omega
      · first | trivial | rfl | exact ⟨rfl, rfl⟩
      · first | trivial | rfl | exact ⟨rfl, rfl⟩
    · refine vc_exit ?_
      refine thn_x ?_
      refine thn_x ?_
      refine inB_x ?_
      refine thn ?_
      refine vc_sr ?_
      iterate 3 refine vo ?_
      refine vnt ?_
      refine vc_ret ?_
      refine fin_i [(0, some 7)] rfl (fz ?_) (fz ?_)
      · exact (wr_fin hrs hI.2.1 g2).1
      · rw [(wr_fin hrs hI.2.1 g2).2]
set_option maxHeartbeats 4000000 in
theorem c_impl_DmaWrite {l : List Mp} {ps : Pg} {d a : Int} {s : ByteArray} (hl : l.length ≤ 1099511627776 := by first | assumption | omega) (hp : ps.length ≤ 1099511627776 := by first | assumption | omega) (hs_s : s.size ≤ 1099511627776 := by first | assumption | omega | (simp only [ByteArray.size_append, ByteArray.size_extract, strOfNums_size, List.length_cons, List.length_nil]; omega)) (ha : a ≤ 9223372036854775807 := by omega) : Con0 Tryz.prog 231 [.one (.sl 4 (l.map mpE)), .agg [.sl 1 (ps.map strE)], I d, I a, Z s] (.tup [.agg [.hs 0], B (dmaWF l ps d a s true).2]) [(0, .arr 9 1 ((dmaWF l ps d a s true).1.map strE))] := by
  refine con_i Tryz.func231 Tryz.ntmps231 (t := [(0, .one (.sl 4 (l.map mpE))), (1, .agg [.sl 1 (ps.map strE)]), (2, I d), (3, I a), (4, Z s)]) rfl ?_
  refine vc_sr ?_
  iterate 3 refine vo ?_
  refine vnt ?_
  refine vc_sr ?_
  iterate 5 refine vo ?_
  refine voc c_impl_put rfl rfl ?_
  iterate 4 refine vo ?_
  refine vnt ?_
  refine vc_ret ?_
  refine fin_i [(0, some 136)] rfl (fz ?_) (fz ?_) <;> first | trivial | rfl
set_option maxHeartbeats 4000000 in
theorem c_spec_DmaWrite {l : List Mp} {ps : Pg} {d a : Int} {s : ByteArray} (hl : l.length ≤ 1099511627776 := by first | assumption | omega) (hp : ps.length ≤ 1099511627776 := by first | assumption | omega) (hs_s : s.size ≤ 1099511627776 := by first | assumption | omega | (simp only [ByteArray.size_append, ByteArray.size_extract, strOfNums_size, List.length_cons, List.length_nil]; omega)) (ha : a ≤ 9223372036854775807 := by omega) : Con0 Tryz.prog 158 [.one (.sl 4 (l.map mpE)), .agg [.sl 1 (ps.map strE)], I d, I a, Z s] (.tup [.agg [.hs 0], B (dmaWF l ps d a s true).2]) [(0, .arr 9 1 ((dmaWF l ps d a s true).1.map strE))] := by
  refine con_i Tryz.func158 Tryz.ntmps158 (t := [(0, .one (.sl 4 (l.map mpE))), (1, .agg [.sl 1 (ps.map strE)]), (2, I d), (3, I a), (4, Z s)]) rfl ?_
  refine vc_sr ?_
  iterate 3 refine vo ?_
  refine vnt ?_
  refine vc_sr ?_
  iterate 6 refine vo ?_
  refine voc c_spec_l17Parts rfl rfl ?_
  iterate 7 refine vo ?_
  refine vnt ?_
  refine vc_sr ?_
  refine vo ?_
  refine voc c_spec_l16Copy rfl rfl ?_
  iterate 2 refine vo ?_
  refine vnt ?_
  refine vc_seq' ?_
  refine vc_sr ?_
  iterate 2 refine vo ?_
  refine vnt ?_
  refine vc_if (fun g1 => ?_) (fun g1 => ?_)
  · refine vc_sr ?_
    iterate 3 refine vo ?_
    refine vnt ?_
    refine vc_ret ?_
    refine thn_r ?_
    refine fin_i [(0, some 232)] rfl (fz ?_) (fz ?_)
    · exact (wr_none g1).1
    · rw [(wr_none g1).2]
  · obtain ⟨rs, hrs⟩ := Option.isSome_iff_exists.1 g1
    obtain ⟨hm, hps, hn, hseg, hsum, hlen⟩ := runs_fine hrs
    have hpl := hps.1
    have e : (runs l ps d a s.size true).getD [] = rs := by rw [hrs]; rfl
    rw [e]
    refine vc_skip ?_
    refine thn ?_
    refine vc_seq' ?_
    refine vc_sr ?_
    refine vo ?_
    refine vnt ?_
    refine vc_block ?_
    refine vc_lp3 [10, 12, 13, 15] [80, 192, 193] (fun (i : Nat) (q : Pg) (s1 : ByteArray) => [(4, Z s1), (16, I (i : Nat))]) (fun (i : Nat) (q : Pg) (s1 : ByteArray) => [(7, .arr 9 1 (q.map strE)), (120, .row 27 [.hs 7])]) (fun (i : Nat) (q : Pg) (s1 : ByteArray) => i ≤ rs.length ∧ writeAll ps rs s = writeAll q (rs.drop i) s1 ∧ MemOk q ∧ q.length = ps.length ∧ Fits ps.length (rs.drop i) s1.size) (fun (i : Nat) (q : Pg) (s1 : ByteArray) => rs.length - i) 0 ps s rfl rfl (sub_i [(7, some 232)] (fz ?_) (fz ?_)) ?_ fun i q s1 hI => ?_
    · first | trivial | rfl
    · first | trivial | rfl | exact ⟨rfl, rfl⟩
    · exact ⟨Nat.zero_le _, rfl, hps, rfl, hseg, by rw [List.drop_zero]; exact hsum⟩
    refine vc_nf rfl rfl ?_
    refine vc_seq' ?_
    refine vc_sr ?_
    iterate 3 refine vo ?_
    try first | refine vlb ?_ | refine vln ?_
    refine veq (show ((rs.map (·.1)).length : Int) = rs.length by rw [List.length_map]) ?_
    refine vo ?_
    refine vnt ?_
    refine vc_if (fun g2 => ?_) (fun g2 => ?_)
    · obtain ⟨hs, hz1, hz2, hfit, hmq, hlq⟩ := wr_facts g2 hI.2.2.2.2 hI.2.2.1 hI.2.2.2.1
      have hq2 := hI.2.2.1
      have hql := hI.2.2.2.1
      refine vc_skip ?_
      refine thn ?_
      refine vc_seq' ?_
      refine vc_block ?_
      refine vc_sr ?_
      iterate 4 refine vo ?_
      try with_reducible (first | refine vep ?_ | refine vpt ?_)
      refine vo ?_
      refine veq (at_map g2) ?_
      iterate 4 refine vo ?_
      try with_reducible (first | refine vep ?_ | refine vpt ?_)
      refine vo ?_
      refine veq (at_map g2) ?_
      refine vo ?_
      refine voc c_spec_WriteMemory rfl rfl ?_
      iterate 4 refine vo ?_
      refine vnt ?_
      refine vc_region ?_
      iterate 4 refine vo ?_
      try with_reducible (first | refine vep ?_ | refine vpt ?_)
      refine vo ?_
      refine veq (at_map g2) ?_
      iterate 2 refine vo ?_
      refine vnil ?_
      refine inB_n ?_
      refine thn ?_
      refine vc_region ?_
      iterate 2 refine vo ?_
      try refine vwr ?_
      refine vo ?_
      refine vnt ?_
      refine ⟨i + 1, writeSeg q (at' rs i).1 (s1.extract (Int.toNat 0) (at' rs i).2.toNat), s1.extract (at' rs i).2.toNat s1.size, ?_, ?_, sub_i [(7, some 408)] (fz ?_) (fz ?_)⟩
      · exact ⟨by omega, wr_stp g2 hI.2.1, hmq, hlq, hfit⟩
      · omega
      · first | trivial | rfl | exact ⟨rfl, rfl⟩
      · first | trivial | rfl | exact ⟨rfl, rfl⟩
    · refine vc_exit ?_
      refine thn_x ?_
      refine thn_x ?_
      refine inB_x ?_
      refine thn ?_
      refine vc_sr ?_
      iterate 3 refine vo ?_
      refine vnt ?_
      refine vc_ret ?_
      refine fin_i [(0, some 7)] rfl (fz ?_) (fz ?_)
      · exact (wr_fin hrs hI.2.1 g2).1
      · rw [(wr_fin hrs hI.2.1 g2).2]
end Go.Proofs.YtbdcaacpemkloaaGreat
end
section
namespace Go.Proofs.YtbdcaacpemkloaaGreat
open Go Go.RowKit Go.Vc
set_option linter.unusedVariables false
set_option linter.unusedSimpArgs false
set_option linter.unnecessarySimpa false
theorem rt_y {l : List Mp} {ps : Pg} {d b s h t : Int} (h1 : ringOkB b s h t = true) (h2 : ¬ usedF s h t = 0) (h3 : (dmaRF l ps d (rslot b s h) 16).2 = true) : rtakeF l ps d b s h t = ((dmaRF l ps d (rslot b s h) 16).1, rnext s h, true) := by
  unfold rtakeF
  rw [if_pos h1, if_neg h2]
  generalize dmaRF l ps d (rslot b s h) 16 = x at h3 ⊢
  obtain ⟨x1, x2⟩ := x
  simp only at h3
  subst h3; rfl
theorem rt_n {l : List Mp} {ps : Pg} {d b s h t : Int} (hh : ringOkB b s h t = false ∨ usedF s h t = 0 ∨ (dmaRF l ps d (rslot b s h) 16).2 = false) : rtakeF l ps d b s h t = (⟨#[]⟩, h, false) := by
  unfold rtakeF
  split
  · split
    · rfl
    · rename_i g1 g2
      have h3 : (dmaRF l ps d (rslot b s h) 16).2 = false := by
        rcases hh with hh | hh | hh
        · rw [g1] at hh; cases hh
        · exact (g2 hh).elim
        · exact hh
      generalize dmaRF l ps d (rslot b s h) 16 = x at h3 ⊢
      obtain ⟨x1, x2⟩ := x
      simp only at h3
      subst h3; rfl
  · rfl
theorem dw_no {l : List Mp} {ps : Pg} {d a : Int} {s : ByteArray} {wt : Bool} (h : (dmaWF l ps d a s wt).2 = false) : (dmaWF l ps d a s wt).1 = ps := by
  generalize hx : dmaWF l ps d a s wt = x at h ⊢
  obtain ⟨x1, x2⟩ := x
  simp only at h
  subst h
  exact dmaWF_same hx.symm
set_option maxHeartbeats 4000000 in
theorem c_impl_RingTake {l : List Mp} {ps : Pg} {d b s h t : Int} (hl : l.length ≤ 1099511627776 := by first | assumption | omega) (hp : ps.length ≤ 1099511627776 := by first | assumption | omega) : Con0 Tryz.prog 176 [.one (.sl 4 (l.map mpE)), .agg [.sl 1 (ps.map strE)], I d, .agg [V b, V s, V h, V t]] (.tup [Z (rtakeF l ps d b s h t).1, .agg [V b, V s, V (rtakeF l ps d b s h t).2.1, V t], B (rtakeF l ps d b s h t).2.2]) [] := by
  refine con_i Tryz.func176 Tryz.ntmps176 (t := [(0, .one (.sl 4 (l.map mpE))), (1, .agg [.sl 1 (ps.map strE)]), (2, I d), (3, .agg [V b, V s, V h, V t])]) rfl ?_
  refine vc_sr ?_
  iterate 5 refine vo ?_
  refine vnt ?_
  refine vc_seq' ?_
  refine vc_sr ?_
  refine vo ?_
  refine voc c_impl_RingOk rfl rfl ?_
  iterate 2 refine vo ?_
  refine vsp (fun g1 => ?_) (fun g1 => ?_)
  · iterate 3 refine vof ?_
    refine vo ?_
    refine vnt ?_
    refine vc_then ?_
    refine vc_sr ?_
    iterate 4 refine vo ?_
    refine vnt ?_
    refine vc_ret ?_
    refine thn_r ?_
    refine fin_i [] rfl (fz ?_) trivial
    rw [rt_n (.inl g1)]
    simp
  · have hr := ringOk_facts g1
    have hq := hr.1
    have hsl := rslot_bd g1 h
    refine von ?_
    refine vocn c_impl_RingUsed rfl rfl ?_
    refine von ?_
    refine vo ?_
    refine vnt ?_
    refine vc_if (fun g2 => ?_) (fun g2 => ?_)
    · refine vc_sr ?_
      iterate 4 refine vo ?_
      refine vnt ?_
      refine vc_ret ?_
      refine thn_r ?_
      refine fin_i [] rfl (fz ?_) trivial
      rw [rt_n (.inr (.inl g2))]
      simp
    · refine vc_skip ?_
      refine thn ?_
      refine vc_sr ?_
      iterate 6 refine vo ?_
      refine voc c_impl_SlotAddress rfl rfl ?_
      refine voc c_impl_DmaRead rfl rfl ?_
      iterate 5 refine vo ?_
      refine vnt ?_
      refine vc_seq' ?_
      refine vc_sr ?_
      iterate 2 refine vo ?_
      refine vnt ?_
      refine vc_if (fun g3 => ?_) (fun g3 => ?_)
      · refine vc_sr ?_
        iterate 4 refine vo ?_
        refine vnt ?_
        refine vc_ret ?_
        refine thn_r ?_
        refine fin_i [] rfl (fz ?_) trivial
        rw [rt_n (.inr (.inr g3))]
        simp
      · refine vc_skip ?_
        refine thn ?_
        refine vc_sr ?_
        iterate 3 refine vo ?_
        try refine vwr ?_
        iterate 3 refine vo ?_
        try refine vwr ?_
        refine vo ?_
        try refine veq (Int.tmod_eq_emod_of_nonneg (by omega)) ?_
        iterate 2 refine vo ?_
        refine vnt ?_
        refine vc_sr ?_
        iterate 5 refine vo ?_
        refine vnt ?_
        refine vc_ret ?_
        refine fin_i [] rfl (fz ?_) trivial
        rw [rt_y g1 g2 g3]
        simp [rnext]
end Go.Proofs.YtbdcaacpemkloaaGreat
end
section
namespace Go.Proofs.YtbdcaacpemkloaaGreat
open Go Go.RowKit Go.Vc
set_option linter.unusedVariables false
set_option linter.unusedSimpArgs false
set_option linter.unnecessarySimpa false
theorem atp_eq {α : Type} [Inhabited α] {l : List α} {i : Nat} (h : i < l.length) : at' l i = l[i] := by unfold at'; rw [List.getElem?_eq_getElem h]; rfl
theorem atp_mem {α : Type} [Inhabited α] {l : List α} {i : Nat} (h : i < l.length) : at' l i ∈ l := by rw [atp_eq h]; exact List.getElem_mem h
structure Sm where
  (kind si di sp dp next : Int)
  (data : ByteArray)
  (done : Bool)
def sm0 : Sm := ⟨0, 0, 0, 0, 0, 0, ⟨#[]⟩, false⟩
instance : Inhabited Sm := ⟨sm0⟩
def giveB (pb pz pc : Int) (fr ks : List Int) : Bool := poolB pb pz pc fr && poolB pb pz pc (fr ++ ks)
def giveF (pb pz pc : Int) (fr ks : List Int) : List Int := if giveB pb pz pc fr ks then fr ++ ks else fr
theorem give_y {pb pz pc : Int} {fr ks : List Int} (h1 : poolB pb pz pc fr = true) (h2 : poolB pb pz pc (fr ++ ks) = true) : giveF pb pz pc fr ks = fr ++ ks ∧ giveB pb pz pc fr ks = true := by
  have : giveB pb pz pc fr ks = true := by unfold giveB; rw [h1, h2]; rfl
  exact ⟨if_pos this, this⟩
theorem give_n {pb pz pc : Int} {fr ks : List Int} (h : poolB pb pz pc fr = false ∨ poolB pb pz pc (fr ++ ks) = false) : giveF pb pz pc fr ks = fr ∧ giveB pb pz pc fr ks = false := by
  have : giveB pb pz pc fr ks = false := by unfold giveB; rcases h with h | h <;> rw [h] <;> simp
  exact ⟨if_neg (by rw [this]; decide), this⟩
def bufA (pb pz pc : Int) (fr : List Int) (k : Int) : Int := if poolB pb pz pc fr && inB k 0 (pc - 1) then pb + k * pz else -1
theorem bufA_n {pb pz pc k : Int} {fr : List Int} (h : poolB pb pz pc fr = false ∨ inB k 0 (pc - 1) = false) : bufA pb pz pc fr k = -1 := by
  refine if_neg ?_
  rcases h with h | h <;> rw [h] <;> simp
theorem bufA_y {pb pz pc k : Int} {fr : List Int} (h1 : poolB pb pz pc fr = true) (h2 : inB k 0 (pc - 1) = true) : bufA pb pz pc fr k = pb + k * pz ∧ 0 ≤ k * pz ∧ k * pz ≤ 7680 := by
  obtain ⟨b0, b1, z0, z1, c0, c1, _⟩ := poolB_facts h1
  have hk := inB_iff.1 h2
  refine ⟨if_pos (by rw [h1, h2]; rfl), Int.mul_nonneg hk.1 (by omega), ?_⟩
  have h3 := Int.mul_le_mul (show k ≤ 15 by omega) z1 (by omega) (by omega)
  omega
theorem bufA_bd (pb pz pc : Int) (fr : List Int) (k : Int) : -1 ≤ bufA pb pz pc fr k ∧ bufA pb pz pc fr k ≤ 140000 := by
  by_cases h1 : poolB pb pz pc fr = true
  · by_cases h2 : inB k 0 (pc - 1) = true
    · obtain ⟨e, h3, h4⟩ := bufA_y h1 h2
      obtain ⟨b0, b1, _⟩ := poolB_facts h1
      omega
    · rw [bufA_n (.inr (by simpa using h2))]; omega
  · rw [bufA_n (.inl (by simpa using h1))]; omega
end Go.Proofs.YtbdcaacpemkloaaGreat
end
section
namespace Go.Proofs.YtbdcaacpemkloaaGreat
open Go Go.RowKit Go.Vc
set_option linter.unusedVariables false
set_option linter.unusedSimpArgs false
set_option linter.unnecessarySimpa false
theorem atq_eq {α : Type} [Inhabited α] {l : List α} {i : Nat} (h : i < l.length) : at' l i = l[i] := by unfold at'; rw [List.getElem?_eq_getElem h]; rfl
theorem all_stp {α : Type} [Inhabited α] {l : List α} {p : α → Bool} {i : Nat} (h : (l.take i).all p = true) (hi : i < l.length) (hp : p (at' l i) = true) : (l.take (i + 1)).all p = true := by
  rw [List.take_succ_eq_append_getElem hi, List.all_append, h, ← atq_eq hi]
  simp [hp]
theorem all_bad {α : Type} [Inhabited α] {l : List α} {p : α → Bool} {i : Nat} (hi : i < l.length) (hp : p (at' l i) = false) : l.all p = false := by
  rw [Bool.eq_false_iff]
  intro h
  have := List.all_eq_true.1 h l[i] (List.getElem_mem hi)
  rw [atq_eq hi] at hp
  rw [hp] at this; cases this
theorem all_end {α : Type} {l : List α} {p : α → Bool} {i : Nat} (h : (l.take i).all p = true) (hi : ¬ i < l.length) : l.all p = true := by
  rw [List.take_of_length_le (by omega)] at h; exact h
abbrev Pc := Int × Int
def pcE (p : Pc) : List Value := [.int .i64 p.1, .int .i64 p.2]
def dscE (d : Dsc) : List Value := [.int .i64 d.1, .int .i64 d.2.1, .int .i64 d.2.2.1, .int .i64 d.2.2.2.1, .int .i64 d.2.2.2.2.1, .int .i64 d.2.2.2.2.2]
def pcOk (p : Pc) : Bool := decide (0 ≤ p.1) && inB p.2 0 4096
def pcsOk (l : List Pc) : Bool := l.all pcOk && decide (l.length ≤ 16)
theorem pcOk_no {p : Pc} (h : p.1 < 0 ∨ inB p.2 0 4096 = false) : pcOk p = false := by
  unfold pcOk
  rcases h with h | h
  · rw [decide_eq_false (by omega)]; rfl
  · rw [h, Bool.and_false]
theorem pcOk_yes {p : Pc} (h1 : 0 ≤ p.1) (h2 : inB p.2 0 4096 = true) : pcOk p = true := by
  unfold pcOk
  rw [decide_eq_true h1, h2]; rfl
theorem pcsOk_end {l : List Pc} {i : Nat} (h : (l.take i).all pcOk = true) (hi : ¬ i < l.length) : pcsOk l = decide ((l.length : Int) ≤ 16) := by
  unfold pcsOk
  rw [all_end h hi, Bool.true_and]
  congr 1
  exact propext ⟨fun h => by omega, fun h => by omega⟩
theorem pcsOk_bad {l : List Pc} {i : Nat} (hi : i < l.length) (h : (at' l i).1 < 0 ∨ inB (at' l i).2 0 4096 = false) : pcsOk l = false := by
  unfold pcsOk
  rw [all_bad hi (pcOk_no h)]; rfl
theorem pcsOk_iff {l : List Pc} : pcsOk l = true ↔ (∀ i, i < l.length → 0 ≤ (at' l i).1 ∧ 0 ≤ (at' l i).2 ∧ (at' l i).2 ≤ 4096) ∧ l.length ≤ 16 := by
  unfold pcsOk
  rw [Bool.and_eq_true, decide_eq_true_eq, List.all_eq_true]
  constructor
  · rintro ⟨h1, h2⟩
    refine ⟨fun i hi => ?_, h2⟩
    have := h1 l[i] (List.getElem_mem hi)
    rw [← atq_eq hi] at this
    unfold pcOk at this
    rw [Bool.and_eq_true, decide_eq_true_eq, inB_iff] at this
    exact ⟨this.1, this.2.1, this.2.2⟩
  · rintro ⟨h1, h2⟩
    refine ⟨fun x hx => ?_, h2⟩
    obtain ⟨i, hi, rfl⟩ := List.getElem_of_mem hx
    have := h1 i hi
    rw [atq_eq hi] at this
    unfold pcOk
    rw [Bool.and_eq_true, decide_eq_true_eq, inB_iff]
    exact ⟨this.1, this.2.1, this.2.2⟩
def dOk (d : Dsc) : Bool := descB d.1 d.2.1 d.2.2.1 d.2.2.2.1 d.2.2.2.2.1 d.2.2.2.2.2
def dAt (l : List Pc) (size ck : Int) : Nat → Dsc
  | 0 => (2, 0, 0, 0, size, ck)
  | i + 1 => (1, if i + 1 = l.length then 1 else 0, (at' l i).2, (at' l i).1, 0, ck)
def dsF (l : List Pc) (size ck : Int) (n : Nat) : List Dsc := (List.range n).map (dAt l size ck)
theorem dsF_stp (l : List Pc) (size ck : Int) (n : Nat) : dsF l size ck n ++ [dAt l size ck n] = dsF l size ck (n + 1) := by
  unfold dsF
  rw [List.range_succ, List.map_append]; rfl
theorem dsF_len (l : List Pc) (size ck : Int) (n : Nat) : (dsF l size ck n).length = n := by unfold dsF; rw [List.length_map, List.length_range]
theorem dsF_at {l : List Pc} {size ck : Int} {n i : Nat} (h : i < n) : at' (dsF l size ck n) i = dAt l size ck i := by
  rw [atq_eq (by rw [dsF_len]; exact h)]
  unfold dsF
  rw [List.getElem_map, List.getElem_range]
def descrB (l : List Pc) (size ck : Int) : Bool := !decide (l = []) && (pcsOk l && (inB size 1 128 && (dsF l size ck (l.length + 1)).all dOk))
def descrF (l : List Pc) (size ck : Int) : List Dsc := if descrB l size ck then dsF l size ck (l.length + 1) else []
theorem descr_n {l : List Pc} {size ck : Int} (h : l = [] ∨ pcsOk l = false ∨ inB size 1 128 = false ∨ (dsF l size ck (l.length + 1)).all dOk = false) : descrF l size ck = [] := by
  refine if_neg ?_
  unfold descrB
  rcases h with h | h | h | h
  · rw [decide_eq_true h]; simp
  · rw [h]; simp
  · rw [h]; simp
  · rw [h]; simp
theorem descr_y {l : List Pc} {size ck : Int} (h1 : ¬ l = []) (h2 : pcsOk l = true) (h3 : inB size 1 128 = true) (h4 : (dsF l size ck (l.length + 1)).all dOk = true) : descrF l size ck = dsF l size ck (l.length + 1) := by
  refine if_pos ?_
  unfold descrB
  rw [decide_eq_false h1, h2, h3, h4]; rfl
theorem descr_bad {l : List Pc} {size ck : Int} {i : Nat} (hi : i < l.length + 1) (h : dOk (dAt l size ck i) = false) : descrF l size ck = [] := by
  refine descr_n (.inr (.inr (.inr ?_)))
  exact all_bad (i := i) (by rw [dsF_len]; exact hi) (by rw [dsF_at hi]; exact h)
theorem descrF_le (l : List Pc) (size ck : Int) : (descrF l size ck).length ≤ l.length + 1 := by
  unfold descrF
  split
  · rw [dsF_len]; exact Nat.le_refl _
  · exact Nat.zero_le _
def podP (d : Dsc) : Pc := (d.2.2.2.1, d.2.2.1)
def podL (l : List Dsc) : List Pc := (l.drop 1).map podP
def podB (l : List Dsc) : Bool := decide (2 ≤ l.length) && decide (descrF (podL l) (at' l 0).2.2.2.2.1 (at' l 0).2.2.2.2.2 = l)
def podF (l : List Dsc) : List Pc := if podB l then podL l else []
def podS (l : List Dsc) : Int := if podB l then (at' l 0).2.2.2.2.1 else 0
def podC (l : List Dsc) : Int := if podB l then (at' l 0).2.2.2.2.2 else 0
theorem podL_len (l : List Dsc) : (podL l).length = l.length - 1 := by unfold podL; rw [List.length_map, List.length_drop]
theorem pod_n {l : List Dsc} (h : l.length < 2 ∨ ¬ descrF (podL l) (at' l 0).2.2.2.2.1 (at' l 0).2.2.2.2.2 = l) : podF l = [] ∧ podS l = 0 ∧ podC l = 0 ∧ podB l = false := by
  have : podB l = false := by
    unfold podB
    rcases h with h | h
    · rw [decide_eq_false (by omega)]; rfl
    · rw [decide_eq_false h]; simp
  unfold podF podS podC
  rw [this]
  exact ⟨rfl, rfl, rfl, rfl⟩
theorem pod_y {l : List Dsc} (h1 : 2 ≤ l.length) (h2 : descrF (podL l) (at' l 0).2.2.2.2.1 (at' l 0).2.2.2.2.2 = l) : podF l = podL l ∧ podS l = (at' l 0).2.2.2.2.1 ∧ podC l = (at' l 0).2.2.2.2.2 ∧ podB l = true := by
  have : podB l = true := by
    unfold podB
    rw [decide_eq_true h1, decide_eq_true h2]; rfl
  unfold podF podS podC
  rw [this]
  exact ⟨rfl, rfl, rfl, rfl⟩
theorem podL_stp {l : List Dsc} {i : Nat} (h : i < (l.drop 1).length) : ((l.drop 1).take i).map podP ++ [podP (at' (l.drop 1) i)] = ((l.drop 1).take (i + 1)).map podP := by
  rw [List.take_succ_eq_append_getElem h, List.map_append, atq_eq h]; rfl
theorem podL_end {l : List Dsc} {i : Nat} (h : ¬ i < (l.drop 1).length) : ((l.drop 1).take i).map podP = podL l := by
  rw [List.take_of_length_le (by omega)]; rfl
theorem same_stp {l m : List Dsc} {i : Nat} (h : ∀ j, j < i → at' m j = at' l j) (hi : at' m i = at' l i) : ∀ j, j < i + 1 → at' m j = at' l j := fun j hj => by
  rcases Nat.lt_or_ge j i with g | g
  · exact h j g
  · obtain rfl : j = i := by omega
    exact hi
theorem same_end {l m : List Dsc} {i : Nat} (hl : m.length = l.length) (h : ∀ j, j < i → at' m j = at' l j) (hi : ¬ i < m.length) : m = l := by
  refine List.ext_getElem hl fun j h1 h2 => ?_
  have := h j (by omega)
  rwa [atq_eq h1, atq_eq h2] at this
theorem ceq_dsc (a b : Dsc) : ceqV (dscE a) (dscE b) = decide (a = b) := by
  obtain ⟨a1, a2, a3, a4, a5, a6⟩ := a
  obtain ⟨b1, b2, b3, b4, b5, b6⟩ := b
  rw [Bool.eq_iff_iff]
  simp [ceqV, dscE]
def gath (l : List Mp) (ps : Pg) (d : Int) : List Pc → ByteArray → ByteArray × Bool
  | [], o => (o, true)
  | p :: r, o => if (dmaRF l ps d p.1 p.2).2 = true then gath l ps d r (o ++ (dmaRF l ps d p.1 p.2).1) else (⟨#[]⟩, false)
def gathF (l : List Mp) (ps : Pg) (d : Int) (pcs : List Pc) : ByteArray × Bool := if pcsOk pcs then gath l ps d pcs ⟨#[]⟩ else (⟨#[]⟩, false)
theorem gath_stp {l : List Mp} {ps : Pg} {d : Int} {pcs : List Pc} {i : Nat} {o : ByteArray} {x : ByteArray × Bool} (h : x = gath l ps d (pcs.drop i) o) (hi : i < pcs.length) (hd : (dmaRF l ps d (at' pcs i).1 (at' pcs i).2).2 = true) : x = gath l ps d (pcs.drop (i + 1)) (o ++ (dmaRF l ps d (at' pcs i).1 (at' pcs i).2).1) := by
  rw [h, drop_at hi]
  simp only [gath]
  rw [if_pos hd]
theorem gath_bad {l : List Mp} {ps : Pg} {d : Int} {pcs : List Pc} {i : Nat} {o : ByteArray} {x : ByteArray × Bool} (h : x = gath l ps d (pcs.drop i) o) (hi : i < pcs.length) (hd : (dmaRF l ps d (at' pcs i).1 (at' pcs i).2).2 = false) : x = (⟨#[]⟩, false) := by
  rw [h, drop_at hi]
  simp only [gath]
  rw [if_neg (by rw [hd]; decide)]
theorem gath_end {l : List Mp} {ps : Pg} {d : Int} {pcs : List Pc} {i : Nat} {o : ByteArray} {x : ByteArray × Bool} (h : x = gath l ps d (pcs.drop i) o) (hi : ¬ i < pcs.length) : x = (o, true) := by
  rw [h, List.drop_eq_nil_of_le (by omega)]; rfl
theorem gathF_y {l : List Mp} {ps : Pg} {d : Int} {pcs : List Pc} (h : pcsOk pcs = true) : gathF l ps d pcs = gath l ps d pcs ⟨#[]⟩ := if_pos h
theorem gathF_n {l : List Mp} {ps : Pg} {d : Int} {pcs : List Pc} (h : pcsOk pcs = false) : gathF l ps d pcs = (⟨#[]⟩, false) := if_neg (by rw [h]; decide)
theorem dmaRF_le (l : List Mp) (ps : Pg) (d a n : Int) (hn : n ≤ 4096) : (dmaRF l ps d a n).1.size ≤ 4096 := by
  cases hq : (dmaRF l ps d a n).2 with
  | true =>
    have := dmaRF_size (l := l) (ps := ps) (d := d) (a := a) (n := n) (t := (dmaRF l ps d a n).1) (by rw [← hq])
    omega
  | false =>
    have : (dmaRF l ps d a n).1 = ⟨#[]⟩ := by
      unfold dmaRF at hq ⊢
      split <;> rename_i e
      · rw [e] at hq; cases hq
      · rfl
    rw [this]; exact Nat.zero_le _
def Pk.part (p : Pk) (size : Int) (k : Nat) : Pk :=
  { p with body := p.body.extract ((k : Int) * size).toNat (min (p.body.size : Int) (((k : Int) + 1) * size)).toNat, seq := (p.seq + (k : Int) * size) % 4294967296, id := (p.id + k) % 65536, fl := if ((k : Int) + 1) * size < (p.body.size : Int) then andNotI p.fl 9 else p.fl }
def spN (p : Pk) (size : Int) : Nat := (((p.body.size : Int) + size - 1) / size).toNat
def splitF (p : Pk) (size : Int) : List Pk :=
  if p.sup && inB size 1 128 then
    if p.kind = 6 ∧ size < (p.body.size : Int) then (List.range (spN p size)).map (p.part size) else [p]
  else []
def pkE (p : Pk) : List Value := [.int .i64 p.dm, .int .i64 p.sm, .int .i64 p.vl, .int .i64 p.tos, .int .i64 p.id, .int .i64 p.ttl, .int .i64 p.si, .int .i64 p.di, .int .i64 p.kind, .int .i64 p.sp, .int .i64 p.dp, .int .i64 p.seq, .int .i64 p.ack, .int .i64 p.fl, .int .i64 p.win, .string p.body]
theorem split_cnt {n size : Int} {k : Nat} (h1 : 1 ≤ size) (h2 : ¬ (k : Int) * size < n) (h3 : 0 < k → ((k : Int) - 1) * size < n) (h4 : 0 < n) : ((n + size - 1) / size).toNat = k := by
  have hk : 0 < k := by
    rcases Nat.eq_zero_or_pos k with rfl | h
    · simp at h2; omega
    · exact h
  have h5 := h3 hk
  have e : ((k : Int) - 1) * size = (k : Int) * size - size := by rw [Int.sub_mul, Int.one_mul]
  rw [e] at h5
  have q : (n + size - 1) / size = k := by
    rw [show n + size - 1 = (n + size - 1 - (k : Int) * size) + (k : Int) * size by omega, Int.add_mul_ediv_right _ _ (by omega), Int.ediv_eq_zero_of_lt (by omega) (by omega), Int.zero_add]
  rw [q]; rfl
theorem part_stp (p : Pk) (size : Int) (k : Nat) : (List.range k).map (p.part size) ++ [p.part size k] = (List.range (k + 1)).map (p.part size) := by
  rw [List.range_succ, List.map_append]; rfl
theorem split_0 {p : Pk} {size : Int} (h : p.sup = false ∨ inB size 1 128 = false) : splitF p size = [] := by
  unfold splitF
  rcases h with h | h <;> rw [h] <;> simp
theorem split_1 {p : Pk} {size : Int} (h1 : p.sup = true) (h2 : inB size 1 128 = true) (h : ¬ p.kind = 6 ∨ (p.body.size : Int) ≤ size) : splitF p size = [p] := by
  unfold splitF
  rw [h1, h2, Bool.and_self, if_pos rfl, if_neg]
  rintro ⟨a, b⟩
  rcases h with h | h
  · exact h a
  · omega
theorem split_n {p : Pk} {size : Int} (h1 : p.sup = true) (h2 : inB size 1 128 = true) (h3 : p.kind = 6) (h4 : size < (p.body.size : Int)) {k : Nat} (h5 : ¬ (k : Int) * size < p.body.size) (h6 : 0 < k → ((k : Int) - 1) * size < p.body.size) : splitF p size = (List.range k).map (p.part size) := by
  have hs := inB_iff.1 h2
  unfold splitF
  rw [h1, h2, Bool.and_self, if_pos rfl, if_pos ⟨h3, h4⟩, spN, split_cnt (by omega) h5 h6 (by omega)]
def stepN (c : Nat) : Nat := if c % 2 = 1 then (c / 2) ^^^ 3988292384 else c / 2
def stepK (c : Nat) : Nat → Nat
  | 0 => c
  | k + 1 => stepN (stepK c k)
def crcN (s : ByteArray) : Nat → Nat
  | 0 => 4294967295
  | i + 1 => stepK (crcN s i ^^^ bAt s i) 8
theorem stepN_lt {c : Nat} (h : c < 4294967296) : stepN c < 4294967296 := by
  unfold stepN
  split
  · exact Nat.xor_lt_two_pow (n := 32) (by omega) (by omega)
  · omega
theorem stepK_lt {c : Nat} (h : c < 4294967296) : ∀ k, stepK c k < 4294967296
  | 0 => h
  | k + 1 => stepN_lt (stepK_lt h k)
theorem crcN_lt (s : ByteArray) : ∀ i, crcN s i < 4294967296
  | 0 => by unfold crcN; omega
  | i + 1 => stepK_lt (Nat.xor_lt_two_pow (n := 32) (crcN_lt s i) (by have := bAt_lt s i; omega)) 8
def crcF (s : ByteArray) : Int := 4294967295 - (crcN s s.size : Nat)
theorem crcF_bd (s : ByteArray) : 0 ≤ crcF s ∧ crcF s ≤ 4294967295 := by
  have := crcN_lt s s.size
  unfold crcF; omega
def fcsF (s : ByteArray) : ByteArray := s ++ strOfNums [crcF s % 256, crcF s / 256 % 256, crcF s / 65536 % 256, crcF s / 16777216 % 256]
def Pk.ok (p : Pk) : Bool := p.sup && decide (p.body.size ≤ 128)
def frF (p : Pk) : ByteArray := if p.ok then fcsF p.im else ⟨#[]⟩
instance : Inhabited Pk := ⟨pk0⟩
def framesF (l : List Pk) : List ByteArray := (l.filter Pk.ok).map frF
theorem frames_y {l : List Pk} {i : Nat} (hi : i < l.length) (h : (at' l i).ok = true) : framesF (l.take i) ++ [frF (at' l i)] = framesF (l.take (i + 1)) := by
  unfold framesF
  rw [List.take_succ_eq_append_getElem hi, List.filter_append, List.map_append, ← atq_eq hi]
  simp [h]
theorem frames_n {l : List Pk} {i : Nat} (hi : i < l.length) (h : (at' l i).ok = false) : framesF (l.take i) = framesF (l.take (i + 1)) := by
  unfold framesF
  rw [List.take_succ_eq_append_getElem hi, List.filter_append, List.map_append, ← atq_eq hi]
  simp [h]
theorem frames_end {l : List Pk} {i : Nat} (hi : ¬ i < l.length) : framesF (l.take i) = framesF l := by
  rw [List.take_of_length_le (by omega)]
theorem frames_le (l : List Pk) : (framesF l).length ≤ l.length := by
  unfold framesF
  rw [List.length_map]
  exact List.length_filter_le ..
end Go.Proofs.YtbdcaacpemkloaaGreat
end
section
namespace Go.Proofs.YtbdcaacpemkloaaGreat
open Go Go.RowKit Go.Vc
set_option linter.unusedVariables false
set_option linter.unusedSimpArgs false
set_option linter.unnecessarySimpa false
theorem rt_true {l : List Mp} {ps : Pg} {d b s : Int} {h t : Int} (q : ringOkB b s h t = true) (hr : (rtakeF l ps d b s h t).2.2 = true) : (rtakeF l ps d b s h t).2.1 = rnext s h ∧ ringOkB b s (rnext s h) t = true ∧ usedF s (rnext s h) t = usedF s h t - 1 ∧ (rtakeF l ps d b s h t).1.size ≤ 16 := by
  by_cases hu : usedF s h t = 0
  · rw [rt_n (.inr (.inl hu))] at hr; cases hr
  rcases Bool.eq_false_or_eq_true (dmaRF l ps d (rslot b s h) 16).2 with g3 | g3
  · rw [rt_y q hu g3]
    obtain ⟨hs, b0, b1, s0, s1, h0, h1, t0, t1, u1, u0⟩ := ringOk_facts q
    have hz := dmaRF_size (l := l) (ps := ps) (d := d) (a := rslot b s h) (n := 16) (t := (dmaRF l ps d (rslot b s h) 16).1) (by rw [← g3])
    have hsz := sizeB_cases hs
    have hu2 := hu
    unfold usedF at hu2 ⊢
    unfold rnext
    have key : 0 ≤ (h + 1) % (2 * s) ∧ (h + 1) % (2 * s) ≤ 2 * s - 1 ∧ (t - (h + 1) % (2 * s)) % (2 * s) = (t - h) % (2 * s) - 1 := by
      rcases hsz with rfl | rfl | rfl | rfl <;> omega
    obtain ⟨k1, k2, k3⟩ := key
    refine ⟨rfl, ?_, k3, by simp only; omega⟩
    simp only [ringOkB, Bool.and_eq_true, inB_iff, decide_eq_true_eq]
    refine ⟨⟨⟨⟨⟨b0, b1⟩, hs⟩, k1, k2⟩, t0, t1⟩, by omega⟩
  · rw [rt_n (.inr (.inr g3))] at hr; cases hr
theorem rt_sz (l : List Mp) (ps : Pg) (d b s : Int) (h t : Int) : (rtakeF l ps d b s h t).1.size ≤ 16 := by
  by_cases g1 : ringOkB b s h t = true
  · rcases Bool.eq_false_or_eq_true (rtakeF l ps d b s h t).2.2 with g | g
    · exact (rt_true g1 g).2.2.2
    · by_cases g2 : usedF s h t = 0
      · rw [rt_n (.inr (.inl g2))]; exact Nat.zero_le _
      · rcases Bool.eq_false_or_eq_true (dmaRF l ps d (rslot b s h) 16).2 with g3 | g3
        · rw [rt_y g1 g2 g3] at g; cases g
        · rw [rt_n (.inr (.inr g3))]; exact Nat.zero_le _
  · rw [rt_n (.inl (by simpa using g1))]; exact Nat.zero_le _
def dsc1 (l : List Mp) (ps : Pg) (d b s : Int) (t h : Int) : Dsc × Bool := decDF (rtakeF l ps d b s h t).1
def chn (l : List Mp) (ps : Pg) (d b s : Int) (t : Int) : Nat → Int → List Dsc → Option (List Dsc × Int)
  | 0, h, out => some (out, h)
  | n + 1, h, out =>
    if (rtakeF l ps d b s h t).2.2 = true ∧ (dsc1 l ps d b s t h).2 = true then
      if (dsc1 l ps d b s t h).1.1 = 1 ∧ (dsc1 l ps d b s t h).1.2.1 % 2 = 1 then some (out ++ [(dsc1 l ps d b s t h).1], rnext s h)
      else chn l ps d b s t n (rnext s h) (out ++ [(dsc1 l ps d b s t h).1])
    else none
theorem chn_no {l : List Mp} {ps : Pg} {d b s : Int} {t h : Int} {n : Nat} {out : List Dsc} (hn : 0 < n) (h1 : (rtakeF l ps d b s h t).2.2 = false ∨ (dsc1 l ps d b s t h).2 = false) : chn l ps d b s t n h out = none := by
  obtain ⟨n, rfl⟩ : ∃ m, n = m + 1 := ⟨n - 1, by omega⟩
  simp only [chn]
  rw [if_neg]
  rintro ⟨a, b⟩
  rcases h1 with h1 | h1
  · rw [h1] at a; cases a
  · rw [h1] at b; cases b
theorem chn_last {l : List Mp} {ps : Pg} {d b s : Int} {t h : Int} {n : Nat} {out : List Dsc} (hn : 0 < n) (h1 : (rtakeF l ps d b s h t).2.2 = true) (h2 : (dsc1 l ps d b s t h).2 = true) (h3 : (dsc1 l ps d b s t h).1.1 = 1) (h4 : (dsc1 l ps d b s t h).1.2.1 % 2 = 1) : chn l ps d b s t n h out = some (out ++ [(dsc1 l ps d b s t h).1], rnext s h) := by
  obtain ⟨n, rfl⟩ : ∃ m, n = m + 1 := ⟨n - 1, by omega⟩
  simp only [chn]
  rw [if_pos ⟨h1, h2⟩, if_pos ⟨h3, h4⟩]
theorem chn_go {l : List Mp} {ps : Pg} {d b s : Int} {t h : Int} {n : Nat} {out : List Dsc} (hn : 0 < n) (h1 : (rtakeF l ps d b s h t).2.2 = true) (h2 : (dsc1 l ps d b s t h).2 = true) (h3 : ¬ ((dsc1 l ps d b s t h).1.1 = 1 ∧ (dsc1 l ps d b s t h).1.2.1 % 2 = 1)) : chn l ps d b s t n h out = chn l ps d b s t (n - 1) (rnext s h) (out ++ [(dsc1 l ps d b s t h).1]) := by
  obtain ⟨n, rfl⟩ : ∃ m, n = m + 1 := ⟨n - 1, by omega⟩
  simp only [chn]
  rw [if_pos ⟨h1, h2⟩, if_neg h3]
  rfl
def tcF (l : List Mp) (ps : Pg) (d b s : Int) (h t : Int) : List Dsc × Int × Bool :=
  if ringOkB b s h t = true ∧ ¬ usedF s h t = 0 then
    match chn l ps d b s t (usedF s h t).toNat h [] with
    | some x => (x.1, x.2, true)
    | none => ([], t, false)
  else ([], h, false)
theorem tc_n {l : List Mp} {ps : Pg} {d b s : Int} {h t : Int} (hh : ringOkB b s h t = false ∨ usedF s h t = 0) : tcF l ps d b s h t = ([], h, false) := by
  unfold tcF
  rw [if_neg]
  rintro ⟨h1, h2⟩
  rcases hh with hh | hh
  · rw [hh] at h1; cases h1
  · exact h2 hh
theorem tc_f {l : List Mp} {ps : Pg} {d b s : Int} {h t : Int} (h1 : ringOkB b s h t = true) (h2 : ¬ usedF s h t = 0) (h3 : chn l ps d b s t (usedF s h t).toNat h [] = none) : tcF l ps d b s h t = ([], t, false) := by
  unfold tcF
  rw [if_pos ⟨h1, h2⟩, h3]
theorem tc_y {l : List Mp} {ps : Pg} {d b s : Int} {h t : Int} {o : List Dsc} {h9 : Int} (h1 : ringOkB b s h t = true) (h2 : ¬ usedF s h t = 0) (h3 : chn l ps d b s t (usedF s h t).toNat h [] = some (o, h9)) : tcF l ps d b s h t = (o, h9, true) := by
  unfold tcF
  rw [if_pos ⟨h1, h2⟩, h3]
theorem used_bd {b s h t : Int} (q : ringOkB b s h t = true) : 0 ≤ usedF s h t ∧ usedF s h t ≤ 16 := by
  obtain ⟨hs, b0, b1, s0, s1, h0, h1, t0, t1, u1, u0⟩ := ringOk_facts q
  unfold usedF
  have hsz := sizeB_cases hs
  rcases hsz with rfl | rfl | rfl | rfl <;> omega
theorem chn_dec {l : List Mp} {ps : Pg} {d b s : Int} {t : Int} : ∀ (n : Nat) {h : Int} {out o : List Dsc} {h9 : Int}, ringOkB b s h t = true → n = (usedF s h t).toNat → chn l ps d b s t n h out = some (o, h9) → ringOkB b s h9 t = true ∧ usedF s h9 t ≤ usedF s h t ∧ (0 < n → usedF s h9 t < usedF s h t) ∧ o.length ≤ out.length + n
  | 0, h, out, o, h9, q, hn, hc => by
    simp only [chn, Option.some.injEq, Prod.mk.injEq] at hc
    obtain ⟨rfl, rfl⟩ := hc
    exact ⟨q, Int.le_refl _, fun h => by omega, by omega⟩
  | n + 1, h, out, o, h9, q, hn, hc => by
    have hb := used_bd q
    by_cases g1 : (rtakeF l ps d b s h t).2.2 = true
    · by_cases g2 : (dsc1 l ps d b s t h).2 = true
      · obtain ⟨_, q2, u2, _⟩ := rt_true q g1
        by_cases g3 : (dsc1 l ps d b s t h).1.1 = 1 ∧ (dsc1 l ps d b s t h).1.2.1 % 2 = 1
        · rw [chn_last (by omega) g1 g2 g3.1 g3.2] at hc
          simp only [Option.some.injEq, Prod.mk.injEq] at hc
          obtain ⟨rfl, rfl⟩ := hc
          exact ⟨q2, by omega, fun _ => by omega, by simp only [List.length_append, List.length_cons, List.length_nil]; omega⟩
        · rw [chn_go (by omega) g1 g2 g3] at hc
          obtain ⟨a1, a2, a3, a4⟩ := chn_dec n q2 (by omega) hc
          refine ⟨a1, by omega, fun _ => by omega, ?_⟩
          simp only [List.length_append, List.length_cons, List.length_nil] at a4
          omega
      · rw [chn_no (by omega) (.inr (by simpa using g2))] at hc; cases hc
    · rw [chn_no (by omega) (.inl (by simpa using g1))] at hc; cases hc
theorem ring_tt {b s h t : Int} (q : ringOkB b s h t = true) : ringOkB b s t t = true ∧ usedF s t t = 0 := by
  obtain ⟨hs, b0, b1, s0, s1, h0, h1, t0, t1, u1, u0⟩ := ringOk_facts q
  have e : usedF s t t = 0 := by unfold usedF; rw [Int.sub_self]; exact Int.zero_emod _
  refine ⟨?_, e⟩
  simp only [ringOkB, Bool.and_eq_true, inB_iff, decide_eq_true_eq]
  unfold usedF at e
  exact ⟨⟨⟨⟨⟨b0, b1⟩, hs⟩, t0, t1⟩, t0, t1⟩, by omega⟩
theorem tc_dec {l : List Mp} {ps : Pg} {d b s : Int} {h t : Int} (q : ringOkB b s h t = true) (hu : ¬ usedF s h t = 0) : ringOkB b s (tcF l ps d b s h t).2.1 t = true ∧ usedF s (tcF l ps d b s h t).2.1 t < usedF s h t ∧ (tcF l ps d b s h t).1.length ≤ 16 := by
  have hb := used_bd q
  cases hc : chn l ps d b s t (usedF s h t).toNat h [] with
  | none =>
    rw [tc_f q hu hc]
    obtain ⟨a, b⟩ := ring_tt q
    exact ⟨a, by simp only; omega, by simp⟩
  | some x =>
    obtain ⟨o, h9⟩ := x
    rw [tc_y q hu hc]
    obtain ⟨a1, a2, a3, a4⟩ := chn_dec _ q rfl hc
    exact ⟨a1, a3 (by omega), by simp only [List.length_nil] at a4 ⊢; omega⟩
theorem tc_len (l : List Mp) (ps : Pg) (d b s : Int) (h t : Int) : (tcF l ps d b s h t).1.length ≤ 16 := by
  by_cases q : ringOkB b s h t = true
  · by_cases hu : usedF s h t = 0
    · rw [tc_n (.inr hu)]; simp
    · exact (tc_dec q hu).2.2
  · rw [tc_n (.inl (by simpa using q))]; simp
def txI (l : List Mp) (ps : Pg) (d b s : Int) (h t : Int) : ByteArray := fsF (gathF l ps d (podL (tcF l ps d b s h t).1)).1
def txB (l : List Mp) (ps : Pg) (d b s : Int) (h t : Int) : Bool := (tcF l ps d b s h t).2.2 && (podB (tcF l ps d b s h t).1 && ((gathF l ps d (podL (tcF l ps d b s h t).1)).2 && (fsB (gathF l ps d (podL (tcF l ps d b s h t).1)).1 && decide (rdC (txI l ps d b s h t) = 0))))
def txF (l : List Mp) (ps : Pg) (d b s : Int) (h t : Int) : Int × List ByteArray × Int :=
  if ringOkB b s h t = true ∧ ¬ usedF s h t = 0 then
    if txB l ps d b s h t = true then ((tcF l ps d b s h t).2.1, framesF (splitF (rdF (txI l ps d b s h t)) (podS (tcF l ps d b s h t).1)), 1)
    else ((tcF l ps d b s h t).2.1, [], 2)
  else (h, [], 0)
theorem tx_0 {l : List Mp} {ps : Pg} {d b s : Int} {h t : Int} (hh : ringOkB b s h t = false ∨ usedF s h t = 0) : txF l ps d b s h t = (h, [], 0) := by
  unfold txF
  rw [if_neg]
  rintro ⟨h1, h2⟩
  rcases hh with hh | hh
  · rw [hh] at h1; cases h1
  · exact h2 hh
theorem tx_2 {l : List Mp} {ps : Pg} {d b s : Int} {h t : Int} (h1 : ringOkB b s h t = true) (h2 : ¬ usedF s h t = 0) (h3 : txB l ps d b s h t = false) : txF l ps d b s h t = ((tcF l ps d b s h t).2.1, [], 2) := by
  unfold txF
  rw [if_pos ⟨h1, h2⟩, if_neg (by rw [h3]; decide)]
theorem tx_1 {l : List Mp} {ps : Pg} {d b s : Int} {h t : Int} (h1 : ringOkB b s h t = true) (h2 : ¬ usedF s h t = 0) (h3 : txB l ps d b s h t = true) : txF l ps d b s h t = ((tcF l ps d b s h t).2.1, framesF (splitF (rdF (txI l ps d b s h t)) (podS (tcF l ps d b s h t).1)), 1) := by
  unfold txF
  rw [if_pos ⟨h1, h2⟩, if_pos h3]
theorem sup_len {p : Pk} (h : p.sup = true) : p.body.size ≤ 320 := (superOk_facts h).2.2.2.2.2.2.2.2.2
theorem split_le (p : Pk) (size : Int) : (splitF p size).length ≤ 320 := by
  unfold splitF
  split
  · rename_i h
    rw [Bool.and_eq_true] at h
    have h1 := sup_len h.1
    have h2 := inB_iff.1 h.2
    split
    · rw [List.length_map, List.length_range]
      unfold spN
      have : ((p.body.size : Int) + size - 1) / size ≤ 320 := by
        apply Int.ediv_le_of_le_mul (by omega)
        have : (320 : Int) ≤ 320 * size := by omega
        have e : (320 : Int) * size = 319 * size + size := by omega
        omega
      omega
    · simp
  · simp
def usedB (b s h t : Int) : Nat := if ringOkB b s h t then (usedF s h t).toNat else 0
theorem usedB_le (b s h t : Int) : usedB b s h t ≤ 16 := by
  unfold usedB
  split
  · rename_i h1
    have := used_bd h1
    omega
  · omega
theorem tx_dec {l : List Mp} {ps : Pg} {d b s : Int} {h t : Int} (hc : ¬ (txF l ps d b s h t).2.2 = 0) : usedB b s (txF l ps d b s h t).1 t < usedB b s h t ∧ (txF l ps d b s h t).2.1.length ≤ 320 := by
  by_cases q : ringOkB b s h t = true
  · by_cases hu : usedF s h t = 0
    · rw [tx_0 (.inr hu)] at hc; exact (hc rfl).elim
    · obtain ⟨a1, a2, _⟩ := tc_dec (l := l) (ps := ps) (d := d) q hu
      have b1 := used_bd q
      have b2 := used_bd a1
      have hlt : usedB b s (tcF l ps d b s h t).2.1 t < usedB b s h t := by
        unfold usedB
        rw [if_pos q, if_pos a1]; omega
      by_cases g : txB l ps d b s h t = true
      · rw [tx_1 q hu g]
        exact ⟨hlt, Nat.le_trans (frames_le _) (split_le _ _)⟩
      · rw [tx_2 q hu (by simpa using g)]
        exact ⟨hlt, by simp⟩
  · rw [tx_0 (.inl (by simpa using q))] at hc; exact (hc rfl).elim
def txAll (l : List Mp) (ps : Pg) (d b s : Int) (t : Int) : Nat → Int → List ByteArray → Int → Int → Int × List ByteArray × Int × Int
  | 0, h, o, x, y => (h, o, x, y)
  | n + 1, h, o, x, y => if (txF l ps d b s h t).2.2 = 0 then (h, o, x, y) else txAll l ps d b s t n (txF l ps d b s h t).1 (o ++ (txF l ps d b s h t).2.1) (if (txF l ps d b s h t).2.2 = 1 then x + 1 else x) (if (txF l ps d b s h t).2.2 = 1 then y else y + 1)
theorem txA_end {l : List Mp} {ps : Pg} {d b s : Int} {t h x y : Int} {n : Nat} {o : List ByteArray} (hc : (txF l ps d b s h t).2.2 = 0) : txAll l ps d b s t n h o x y = (h, o, x, y) := by
  cases n with
  | zero => rfl
  | succ n => simp only [txAll]; rw [if_pos hc]
theorem txA_go {l : List Mp} {ps : Pg} {d b s : Int} {t h x y : Int} {n : Nat} {o : List ByteArray} (hn : 0 < n) (hc : ¬ (txF l ps d b s h t).2.2 = 0) : txAll l ps d b s t n h o x y = txAll l ps d b s t (n - 1) (txF l ps d b s h t).1 (o ++ (txF l ps d b s h t).2.1) (if (txF l ps d b s h t).2.2 = 1 then x + 1 else x) (if (txF l ps d b s h t).2.2 = 1 then y else y + 1) := by
  obtain ⟨n, rfl⟩ : ∃ m, n = m + 1 := ⟨n - 1, by omega⟩
  simp only [txAll]
  rw [if_neg hc]; rfl
def txAF (l : List Mp) (ps : Pg) (d b s : Int) (h t : Int) : Int × List ByteArray × Int × Int := txAll l ps d b s t 17 h [] 0 0
end Go.Proofs.YtbdcaacpemkloaaGreat
end

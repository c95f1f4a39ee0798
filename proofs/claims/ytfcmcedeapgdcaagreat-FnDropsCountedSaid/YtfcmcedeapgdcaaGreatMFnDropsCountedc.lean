/- Part 3 of what the proof of FnDropsCounted rests on: an idealised machine, contracts of functions, and the walk of the law. No condition. -/
import Derived.Test.YtfcmcedeapgdcaaGreatMFnDropsCountedb
section
namespace Go.Proofs.YtfcmcedeapgdcaaGreat
open Go Go.RowKit Go.Vc
set_option linter.unusedVariables false
set_option linter.unusedSimpArgs false
set_option linter.unnecessarySimpa false
theorem enc_u8 {op fl ln at_ sz ck : Int} (h : descB op fl ln at_ sz ck = true) : IntKind.u8.wrap op = op ∧ IntKind.u8.wrap fl = fl := by
  have := descB_iff.1 h
  exact ⟨u8w (by omega) (by omega), u8w (by omega) (by omega)⟩
def encCF (x1 x2 x3 x4 x5 p : Int) : ByteArray := if completionOkB x1 x2 x3 x4 x5 && inB p 0 1 then encC x1 x2 x3 x4 x5 p else ⟨#[]⟩
theorem ring_and {h t s : Int} (hs : sizeB s = true) : andI (t - h) (2 * s - 1) = usedF s h t := by
  have := sizeB_cases hs
  rw [andI_eq, usedF]
  rcases this with rfl | rfl | rfl | rfl
  · exact and_mask_i64 (t - h) 2 (by decide)
  · exact and_mask_i64 (t - h) 3 (by decide)
  · exact and_mask_i64 (t - h) 4 (by decide)
  · exact and_mask_i64 (t - h) 5 (by decide)
theorem and_wr (x m : Int) : andI (wr x) m = andI x m := by
  have e : BitVec.ofInt 64 (wr x) = BitVec.ofInt 64 x := by
    apply BitVec.eq_of_toNat_eq
    rw [BitVec.toNat_ofInt, BitVec.toNat_ofInt, wr_eq]
    unfold wrap64
    omega
  unfold andI Vc.bits
  rw [e]
theorem phase_eq {b s c : Int} (h : queueOkB b s c = true) : wr (1 - wr (c.tdiv s)) = phaseC s c := by
  obtain ⟨h1, h2, h3, h4, h5⟩ := queueOk_facts h
  have e : c.tdiv s = if c < s then 0 else 1 := by
    rw [Int.tdiv_eq_ediv_of_nonneg h4]
    rcases h3 with rfl | rfl | rfl | rfl <;> split <;> omega
  rw [e, phaseC]
  split <;> decide
theorem slot_q {b s c : Int} (h : queueOkB b s c = true) : c.tmod s = c % s ∧ 0 ≤ c % s ∧ c % s ≤ 15 ∧ ¬ s = 0 ∧ 0 ≤ b ∧ b ≤ 130944 := by
  obtain ⟨h1, h2, h3, h4, h5⟩ := queueOk_facts h
  have q1 := Int.emod_nonneg c (show s ≠ 0 by omega)
  have q2 := Int.emod_lt_of_pos c (show 0 < s by omega)
  exact ⟨Int.tmod_eq_emod_of_nonneg h4, q1, by omega, by omega, h1, h2⟩
theorem slot_bd {b s k : Int} (hs : sizeB s = true) (hb : 0 ≤ b ∧ b ≤ 130944) (hk : 0 ≤ k) : k.tmod s = k % s ∧ 0 ≤ k % s ∧ k % s ≤ 15 ∧ ¬ s = 0 := by
  have h := sizeB_cases hs
  have q1 := Int.emod_nonneg k (show s ≠ 0 by omega)
  have q2 := Int.emod_lt_of_pos k (show 0 < s by omega)
  exact ⟨Int.tmod_eq_emod_of_nonneg hk, q1, by omega, by omega⟩
set_option maxHeartbeats 4000000 in
theorem c_impl_DescOk {op fl ln at_ sz ck : Int} : Con0 Tryz.prog 118 [.agg [V op, V fl, V ln, V at_, V sz, V ck]] (B (descB op fl ln at_ sz ck)) [] := by
  refine con_i Tryz.func118 Tryz.ntmps118 (t := [(0, .agg [V op, V fl, V ln, V at_, V sz, V ck])]) rfl ?_
  refine vc_sr ?_
  iterate 2 refine vo ?_
  refine vnt ?_
  refine vc_sr ?_
  iterate 2 refine vo ?_
  refine voc c_impl_between rfl rfl ?_
  refine vo ?_
  refine vsp (fun g1 => ?_) (fun g1 => ?_)
  · iterate 2 refine von ?_
    refine vocn c_impl_between rfl rfl ?_
    iterate 2 refine vo ?_
    refine vsp (fun g2 => ?_) (fun g2 => ?_)
    · iterate 2 refine von ?_
      refine vocn c_impl_between rfl rfl ?_
      iterate 2 refine vo ?_
      refine vsp (fun g3 => ?_) (fun g3 => ?_)
      · iterate 2 refine von ?_
        refine vocn c_impl_between rfl rfl ?_
        iterate 2 refine vo ?_
        refine vsp (fun g4 => ?_) (fun g4 => ?_)
        · iterate 2 refine von ?_
          refine vocn c_impl_between rfl rfl ?_
          iterate 2 refine vo ?_
          refine vsp (fun g5 => ?_) (fun g5 => ?_)
          · iterate 2 refine von ?_
            refine vocn c_impl_between rfl rfl ?_
            iterate 2 refine vo ?_
            refine vnt ?_
            refine vc_ret ?_
            refine fin_i [] rfl (fz ?_) trivial
            simp_all [descB]
          · iterate 3 refine vof ?_
            iterate 2 refine vo ?_
            refine vnt ?_
            refine vc_ret ?_
            refine fin_i [] rfl (fz ?_) trivial
            simp_all [descB]
        · iterate 3 refine vof ?_
          iterate 2 refine vo ?_
          iterate 3 refine vof ?_
          iterate 2 refine vo ?_
          refine vnt ?_
          refine vc_ret ?_
          refine fin_i [] rfl (fz ?_) trivial
          simp_all [descB]
      · iterate 3 refine vof ?_
        iterate 2 refine vo ?_
        iterate 3 refine vof ?_
        iterate 2 refine vo ?_
        iterate 3 refine vof ?_
        iterate 2 refine vo ?_
        refine vnt ?_
        refine vc_ret ?_
        refine fin_i [] rfl (fz ?_) trivial
        simp_all [descB]
    · iterate 3 refine vof ?_
      iterate 2 refine vo ?_
      iterate 3 refine vof ?_
      iterate 2 refine vo ?_
      iterate 3 refine vof ?_
      iterate 2 refine vo ?_
      iterate 3 refine vof ?_
      iterate 2 refine vo ?_
      refine vnt ?_
      refine vc_ret ?_
      refine fin_i [] rfl (fz ?_) trivial
      simp_all [descB]
  · iterate 3 refine vof ?_
    iterate 2 refine vo ?_
    iterate 3 refine vof ?_
    iterate 2 refine vo ?_
    iterate 3 refine vof ?_
    iterate 2 refine vo ?_
    iterate 3 refine vof ?_
    iterate 2 refine vo ?_
    iterate 3 refine vof ?_
    iterate 2 refine vo ?_
    refine vnt ?_
    refine vc_ret ?_
    refine fin_i [] rfl (fz ?_) trivial
    simp_all [descB]
set_option maxHeartbeats 4000000 in
theorem c_impl_EncodeDesc {op fl ln at_ sz ck : Int} : Con0 Tryz.prog 92 [.agg [V op, V fl, V ln, V at_, V sz, V ck]] (Z (encDF op fl ln at_ sz ck)) [] := by
  refine con_i Tryz.func92 Tryz.ntmps92 (t := [(0, .agg [V op, V fl, V ln, V at_, V sz, V ck])]) rfl ?_
  refine vc_sr ?_
  iterate 2 refine vo ?_
  refine vnt ?_
  refine vc_seq' ?_
  refine vc_sr ?_
  refine vo ?_
  refine voc c_impl_DescOk rfl rfl ?_
  refine vo ?_
  refine vnt ?_
  refine vc_if (fun g1 => ?_) (fun g1 => ?_)
  · refine vc_sr ?_
    refine vo ?_
    refine vnt ?_
    refine vc_ret ?_
    refine thn_r ?_
    refine fin_i [] rfl (fz ?_) trivial
    first | (simp [encDF, g1]; done) | (have hw := enc_u8 g1; simp [encDF, g1, encD, hw])
  · refine vc_skip ?_
    refine thn ?_
    refine vc_sr ?_
    iterate 8 refine vo ?_
    refine vs2 ?_
    iterate 2 refine vo ?_
    refine voc c_impl_Word16 rfl rfl ?_
    refine vzs (word16_le _) fun z1 => ?_
    iterate 3 refine vo ?_
    refine voc c_impl_Word32 rfl rfl ?_
    refine vzs (word32_le _) fun z2 => ?_
    iterate 3 refine vo ?_
    refine voc c_impl_Word16 rfl rfl ?_
    refine vzs (word16_le _) fun z3 => ?_
    iterate 3 refine vo ?_
    refine voc c_impl_Word16 rfl rfl ?_
    refine vzs (word16_le _) fun z4 => ?_
    refine vo ?_
    refine voc c_impl_Word32 rfl rfl ?_
    refine vzs (word32_le _) fun z5 => ?_
    iterate 2 refine vo ?_
    refine vnt ?_
    refine vc_ret ?_
    refine fin_i [] rfl (fz ?_) trivial
    first | (simp [encDF, g1]; done) | (have hw := enc_u8 g1; simp [encDF, g1, encD, hw])
set_option maxHeartbeats 4000000 in
theorem c_impl_CompletionOk {x1 x2 x3 x4 x5 : Int} : Con0 Tryz.prog 111 [.agg [V x1, V x2, V x3, V x4, V x5]] (B (completionOkB x1 x2 x3 x4 x5)) [] := by
  refine con_i Tryz.func111 Tryz.ntmps111 (t := [(0, .agg [V x1, V x2, V x3, V x4, V x5])]) rfl ?_
  refine vc_sr ?_
  iterate 2 refine vo ?_
  refine vnt ?_
  refine vc_sr ?_
  iterate 2 refine vo ?_
  refine voc c_impl_between rfl rfl ?_
  refine vo ?_
  refine vsp (fun g1 => ?_) (fun g1 => ?_)
  · iterate 2 refine von ?_
    refine vocn c_impl_between rfl rfl ?_
    iterate 2 refine vo ?_
    refine vsp (fun g2 => ?_) (fun g2 => ?_)
    · iterate 2 refine von ?_
      refine vocn c_impl_between rfl rfl ?_
      iterate 2 refine vo ?_
      refine vsp (fun g3 => ?_) (fun g3 => ?_)
      · iterate 2 refine von ?_
        refine vocn c_impl_between rfl rfl ?_
        iterate 2 refine vo ?_
        refine vsp (fun g4 => ?_) (fun g4 => ?_)
        · iterate 2 refine von ?_
          refine vocn c_impl_between rfl rfl ?_
          iterate 2 refine vo ?_
          refine vnt ?_
          refine vc_ret ?_
          refine fin_i [] rfl (fz ?_) trivial
          simp_all [completionOkB]
        · iterate 3 refine vof ?_
          iterate 2 refine vo ?_
          refine vnt ?_
          refine vc_ret ?_
          refine fin_i [] rfl (fz ?_) trivial
          simp_all [completionOkB]
      · iterate 3 refine vof ?_
        iterate 2 refine vo ?_
        iterate 3 refine vof ?_
        iterate 2 refine vo ?_
        refine vnt ?_
        refine vc_ret ?_
        refine fin_i [] rfl (fz ?_) trivial
        simp_all [completionOkB]
    · iterate 3 refine vof ?_
      iterate 2 refine vo ?_
      iterate 3 refine vof ?_
      iterate 2 refine vo ?_
      iterate 3 refine vof ?_
      iterate 2 refine vo ?_
      refine vnt ?_
      refine vc_ret ?_
      refine fin_i [] rfl (fz ?_) trivial
      simp_all [completionOkB]
  · iterate 3 refine vof ?_
    iterate 2 refine vo ?_
    iterate 3 refine vof ?_
    iterate 2 refine vo ?_
    iterate 3 refine vof ?_
    iterate 2 refine vo ?_
    iterate 3 refine vof ?_
    iterate 2 refine vo ?_
    refine vnt ?_
    refine vc_ret ?_
    refine fin_i [] rfl (fz ?_) trivial
    simp_all [completionOkB]
set_option maxHeartbeats 4000000 in
theorem c_impl_EncodeCompletion {x1 x2 x3 x4 x5 p : Int} : Con0 Tryz.prog 112 [.agg [V x1, V x2, V x3, V x4, V x5], I p] (Z (encCF x1 x2 x3 x4 x5 p)) [] := by
  refine con_i Tryz.func112 Tryz.ntmps112 (t := [(0, .agg [V x1, V x2, V x3, V x4, V x5]), (1, I p)]) rfl ?_
  refine vc_sr ?_
  iterate 2 refine vo ?_
  refine vnt ?_
  refine vc_seq' ?_
  refine vc_sr ?_
  refine vo ?_
  refine voc c_impl_CompletionOk rfl rfl ?_
  iterate 2 refine vo ?_
  refine vsp (fun g1 => ?_) (fun g1 => ?_)
  · iterate 3 refine vof ?_
    refine vo ?_
    refine vnt ?_
    refine vc_then ?_
    refine vc_sr ?_
    refine vo ?_
    refine vnt ?_
    refine vc_ret ?_
    refine thn_r ?_
    refine fin_i [] rfl (fz ?_) trivial
    first | (simp [encCF, g1]; done) | (simp [encCF, encC, g1, g2])
  · refine von ?_
    refine vocn c_impl_between rfl rfl ?_
    refine von ?_
    refine vo ?_
    refine vnt ?_
    refine vc_if (fun g2 => ?_) (fun g2 => ?_)
    · refine vc_sr ?_
      refine vo ?_
      refine vnt ?_
      refine vc_ret ?_
      refine thn_r ?_
      refine fin_i [] rfl (fz ?_) trivial
      first | (simp [encCF, g1]; done) | (simp [encCF, encC, g1, g2])
    · refine vc_skip ?_
      refine thn ?_
      refine vc_sr ?_
      iterate 2 refine vo ?_
      refine voc c_impl_Word16 rfl rfl ?_
      refine vzs (word16_le _) fun z1 => ?_
      iterate 2 refine vo ?_
      refine voc c_impl_Word16 rfl rfl ?_
      refine vzs (word16_le _) fun z2 => ?_
      iterate 3 refine vo ?_
      refine voc c_impl_Word16 rfl rfl ?_
      refine vzs (word16_le _) fun z3 => ?_
      iterate 3 refine vo ?_
      refine voc c_impl_Word16 rfl rfl ?_
      refine vzs (word16_le _) fun z4 => ?_
      iterate 3 refine vo ?_
      refine voc c_impl_Word32 rfl rfl ?_
      refine vzs (word32_le _) fun z5 => ?_
      iterate 2 refine vo ?_
      refine voc c_impl_Word32 rfl rfl ?_
      refine vzs (word32_le _) fun z6 => ?_
      iterate 2 refine vo ?_
      refine vnt ?_
      refine vc_ret ?_
      refine fin_i [] rfl (fz ?_) trivial
      first | (simp [encCF, g1]; done) | (simp [encCF, encC, g1, g2])
set_option maxHeartbeats 4000000 in
theorem c_impl_QueueOk {b s c : Int} : Con0 Tryz.prog 35 [.agg [V b, V s, V c]] (B (queueOkB b s c)) [] := by
  refine con_i Tryz.func35 Tryz.ntmps35 (t := [(0, .agg [V b, V s, V c])]) rfl ?_
  refine vc_sr ?_
  iterate 2 refine vo ?_
  refine vnt ?_
  refine vc_sr ?_
  iterate 2 refine vo ?_
  refine voc c_impl_between rfl rfl ?_
  refine vo ?_
  refine vsp (fun g1 => ?_) (fun g1 => ?_)
  · iterate 2 refine von ?_
    refine vocn c_impl_ringSize rfl rfl ?_
    iterate 2 refine vo ?_
    refine vsp (fun g2 => ?_) (fun g2 => ?_)
    · have hs := sizeB_cases g2
      iterate 5 refine von ?_
      try refine vwr ?_
      refine von ?_
      try refine vwr ?_
      refine vocn c_impl_between rfl rfl ?_
      iterate 2 refine vo ?_
      refine vnt ?_
      refine vc_ret ?_
      refine fin_i [] rfl (fz ?_) trivial
      simp_all [queueOkB]
    · iterate 7 refine vof ?_
      iterate 2 refine vo ?_
      refine vnt ?_
      refine vc_ret ?_
      refine fin_i [] rfl (fz ?_) trivial
      simp_all [queueOkB]
  · iterate 3 refine vof ?_
    iterate 2 refine vo ?_
    iterate 7 refine vof ?_
    iterate 2 refine vo ?_
    refine vnt ?_
    refine vc_ret ?_
    refine fin_i [] rfl (fz ?_) trivial
    simp_all [queueOkB]
set_option maxHeartbeats 4000000 in
theorem c_impl_phaseOf {b s c : Int} (hq : queueOkB b s c = true := by assumption) : Con0 Tryz.prog 39 [.agg [V b, V s, V c]] (I (phaseC s c)) [] := by
  have hf := queueOk_facts hq
  refine con_i Tryz.func39 Tryz.ntmps39 (t := [(0, .agg [V b, V s, V c])]) rfl ?_
  refine vc_sr ?_
  iterate 2 refine vo ?_
  refine vnt ?_
  refine vc_seq' ?_
  refine vc_sr ?_
  iterate 5 refine vo ?_
  refine vnt ?_
  refine vc_if (fun g1 => ?_) (fun g1 => ?_)
  · refine vc_sr ?_
    refine vo ?_
    refine vnt ?_
    refine vc_ret ?_
    refine thn_r ?_
    refine fin_i [] rfl (fz ?_) trivial
    first | (exact (phase_eq hq).symm) | (rw [phaseC]; split <;> omega)
  · refine vc_skip ?_
    refine thn ?_
    refine vc_sr ?_
    refine vo ?_
    refine vnt ?_
    refine vc_ret ?_
    refine fin_i [] rfl (fz ?_) trivial
    first | (exact (phase_eq hq).symm) | (rw [phaseC]; split <;> omega)
set_option maxHeartbeats 4000000 in
theorem c_spec_DescOk {op fl ln at_ sz ck : Int} : Con0 Tryz.prog 100 [.agg [V op, V fl, V ln, V at_, V sz, V ck]] (B (descB op fl ln at_ sz ck)) [] := by
  refine con_i Tryz.func100 Tryz.ntmps100 (t := [(0, .agg [V op, V fl, V ln, V at_, V sz, V ck])]) rfl ?_
  refine vc_sr ?_
  iterate 2 refine vo ?_
  refine vnt ?_
  refine vc_sr ?_
  iterate 2 refine vo ?_
  refine voc c_spec_l01In rfl rfl ?_
  refine vo ?_
  refine vsp (fun g1 => ?_) (fun g1 => ?_)
  · iterate 2 refine von ?_
    refine vocn c_spec_l01In rfl rfl ?_
    iterate 2 refine vo ?_
    refine vsp (fun g2 => ?_) (fun g2 => ?_)
    · iterate 2 refine von ?_
      refine vocn c_spec_l01In rfl rfl ?_
      iterate 2 refine vo ?_
      refine vsp (fun g3 => ?_) (fun g3 => ?_)
      · iterate 2 refine von ?_
        refine vocn c_spec_l01In rfl rfl ?_
        iterate 2 refine vo ?_
        refine vsp (fun g4 => ?_) (fun g4 => ?_)
        · iterate 2 refine von ?_
          refine vocn c_spec_l01In rfl rfl ?_
          iterate 2 refine vo ?_
          refine vsp (fun g5 => ?_) (fun g5 => ?_)
          · iterate 2 refine von ?_
            refine vocn c_spec_l01In rfl rfl ?_
            iterate 2 refine vo ?_
            refine vnt ?_
            refine vc_ret ?_
            refine fin_i [] rfl (fz ?_) trivial
            simp_all [descB]
          · iterate 3 refine vof ?_
            iterate 2 refine vo ?_
            refine vnt ?_
            refine vc_ret ?_
            refine fin_i [] rfl (fz ?_) trivial
            simp_all [descB]
        · iterate 3 refine vof ?_
          iterate 2 refine vo ?_
          iterate 3 refine vof ?_
          iterate 2 refine vo ?_
          refine vnt ?_
          refine vc_ret ?_
          refine fin_i [] rfl (fz ?_) trivial
          simp_all [descB]
      · iterate 3 refine vof ?_
        iterate 2 refine vo ?_
        iterate 3 refine vof ?_
        iterate 2 refine vo ?_
        iterate 3 refine vof ?_
        iterate 2 refine vo ?_
        refine vnt ?_
        refine vc_ret ?_
        refine fin_i [] rfl (fz ?_) trivial
        simp_all [descB]
    · iterate 3 refine vof ?_
      iterate 2 refine vo ?_
      iterate 3 refine vof ?_
      iterate 2 refine vo ?_
      iterate 3 refine vof ?_
      iterate 2 refine vo ?_
      iterate 3 refine vof ?_
      iterate 2 refine vo ?_
      refine vnt ?_
      refine vc_ret ?_
      refine fin_i [] rfl (fz ?_) trivial
      simp_all [descB]
  · iterate 3 refine vof ?_
    iterate 2 refine vo ?_
    iterate 3 refine vof ?_
    iterate 2 refine vo ?_
    iterate 3 refine vof ?_
    iterate 2 refine vo ?_
    iterate 3 refine vof ?_
    iterate 2 refine vo ?_
    iterate 3 refine vof ?_
    iterate 2 refine vo ?_
    refine vnt ?_
    refine vc_ret ?_
    refine fin_i [] rfl (fz ?_) trivial
    simp_all [descB]
set_option maxHeartbeats 4000000 in
theorem c_spec_EncodeDesc {op fl ln at_ sz ck : Int} : Con0 Tryz.prog 64 [.agg [V op, V fl, V ln, V at_, V sz, V ck]] (Z (encDF op fl ln at_ sz ck)) [] := by
  refine con_i Tryz.func64 Tryz.ntmps64 (t := [(0, .agg [V op, V fl, V ln, V at_, V sz, V ck])]) rfl ?_
  refine vc_sr ?_
  iterate 2 refine vo ?_
  refine vnt ?_
  refine vc_seq' ?_
  refine vc_sr ?_
  refine vo ?_
  refine voc c_spec_DescOk rfl rfl ?_
  refine vo ?_
  refine vnt ?_
  refine vc_if (fun g1 => ?_) (fun g1 => ?_)
  · refine vc_sr ?_
    refine vo ?_
    refine vnt ?_
    refine vc_ret ?_
    refine thn_r ?_
    refine fin_i [] rfl (fz ?_) trivial
    first | (simp [encDF, g1]; done) | (have hw := enc_u8 g1; simp [encDF, g1, encD, hw])
  · refine vc_skip ?_
    refine thn ?_
    refine vc_sr ?_
    iterate 8 refine vo ?_
    refine vs2 ?_
    iterate 2 refine vo ?_
    refine voc c_spec_Word16 rfl rfl ?_
    refine vzs (word16_le _) fun z1 => ?_
    iterate 3 refine vo ?_
    refine voc c_spec_Word32 rfl rfl ?_
    refine vzs (word32_le _) fun z2 => ?_
    iterate 3 refine vo ?_
    refine voc c_spec_Word16 rfl rfl ?_
    refine vzs (word16_le _) fun z3 => ?_
    iterate 3 refine vo ?_
    refine voc c_spec_Word16 rfl rfl ?_
    refine vzs (word16_le _) fun z4 => ?_
    refine vo ?_
    refine voc c_spec_Word32 rfl rfl ?_
    refine vzs (word32_le _) fun z5 => ?_
    iterate 2 refine vo ?_
    refine vnt ?_
    refine vc_ret ?_
    refine fin_i [] rfl (fz ?_) trivial
    first | (simp [encDF, g1]; done) | (have hw := enc_u8 g1; simp [encDF, g1, encD, hw])
set_option maxHeartbeats 4000000 in
theorem c_impl_SlotAddress {b s h t k : Int} (hr : ringOkB b s h t = true := by assumption) (hk : 0 ≤ k := by omega) : Con0 Tryz.prog 74 [.agg [V b, V s, V h, V t], I k] (I (rslot b s k)) [] := by
  have hf := ringOk_facts hr
  have hm := slot_bd hf.1 ⟨hf.2.1, hf.2.2.1⟩ hk
  refine con_i Tryz.func74 Tryz.ntmps74 (t := [(0, .agg [V b, V s, V h, V t]), (1, I k)]) rfl ?_
  refine vc_sr ?_
  iterate 2 refine vo ?_
  refine vnt ?_
  refine vc_seq' ?_
  refine vc_sr ?_
  refine vo ?_
  refine voc c_impl_RingOk rfl rfl ?_
  iterate 2 refine vo ?_
  refine vsp (fun g1 => ?_) (fun g1 => ?_)
  · iterate 2 refine vof ?_
    refine vo ?_
    refine vnt ?_
    refine vc_then ?_
    refine vc_sr ?_
    refine vo ?_
    refine vnt ?_
    refine vc_ret ?_
    refine thn_r ?_
    refine fin_i [] rfl (fz ?_) trivial
    first | (simp_all; done) | omega | (rw [rslot, hm.1]; done) | (rw [rslot, hm.1]; omega)
  · iterate 2 refine von ?_
    refine vo ?_
    refine vnt ?_
    refine vc_if (fun g2 => ?_) (fun g2 => ?_)
    · refine vc_sr ?_
      refine vo ?_
      refine vnt ?_
      refine vc_ret ?_
      refine thn_r ?_
      refine fin_i [] rfl (fz ?_) trivial
      first | (simp_all; done) | omega | (rw [rslot, hm.1]; done) | (rw [rslot, hm.1]; omega)
    · refine vc_skip ?_
      refine thn ?_
      refine vc_sr ?_
      iterate 7 refine vo ?_
      try refine vwr ?_
      refine vo ?_
      try refine vwr ?_
      refine vo ?_
      refine vnt ?_
      refine vc_ret ?_
      refine fin_i [] rfl (fz ?_) trivial
      first | (simp_all; done) | omega | (rw [rslot, hm.1]; done) | (rw [rslot, hm.1]; omega)
set_option maxHeartbeats 4000000 in
theorem c_impl_slotOfCount {b s c : Int} (hq : queueOkB b s c = true := by assumption) : Con0 Tryz.prog 37 [.agg [V b, V s, V c]] (I (slotC b s c)) [] := by
  have hm := slot_q hq
  refine con_i Tryz.func37 Tryz.ntmps37 (t := [(0, .agg [V b, V s, V c])]) rfl ?_
  refine vc_sr ?_
  iterate 2 refine vo ?_
  refine vnt ?_
  refine vc_sr ?_
  iterate 8 refine vo ?_
  try refine vwr ?_
  refine vo ?_
  try refine vwr ?_
  refine vo ?_
  refine vnt ?_
  refine vc_ret ?_
  refine fin_i [] rfl (fz ?_) trivial
  rw [slotC, hm.1]
set_option maxHeartbeats 4000000 in
theorem c_spec_RingUsed {b s h t : Int} (h0 : sizeB s = true := by assumption) : Con0 Tryz.prog 97 [.agg [V b, V s, V h, V t]] (I (usedF s h t)) [] := by
  have hs := sizeB_cases h0
  refine con_i Tryz.func97 Tryz.ntmps97 (t := [(0, .agg [V b, V s, V h, V t])]) rfl ?_
  refine vc_sr ?_
  iterate 2 refine vo ?_
  refine vnt ?_
  refine vc_seq' ?_
  refine vc_sr ?_
  iterate 2 refine vo ?_
  refine voc c_spec_l20Size rfl rfl ?_
  refine vo ?_
  refine vnt ?_
  refine vc_if (fun g1 => ?_) (fun g1 => ?_)
  · refine vc_sr ?_
    refine vo ?_
    refine vnt ?_
    refine vc_ret ?_
    refine thn_r ?_
    refine fin_i [] rfl (fz ?_) trivial
    first | (simp_all; done) | (rw [and_wr, ring_and h0])
  · refine vc_skip ?_
    refine thn ?_
    refine vc_sr ?_
    iterate 5 refine vo ?_
    try refine vwr ?_
    iterate 3 refine vo ?_
    try refine vwr ?_
    refine vo ?_
    try refine vwr ?_
    iterate 2 refine vo ?_
    refine vnt ?_
    refine vc_ret ?_
    refine fin_i [] rfl (fz ?_) trivial
    first | (simp_all; done) | (rw [and_wr, ring_and h0])
set_option maxHeartbeats 4000000 in
theorem c_spec_RingOk {b s h t : Int} : Con0 Tryz.prog 61 [.agg [V b, V s, V h, V t]] (B (ringOkB b s h t)) [] := by
  refine con_i Tryz.func61 Tryz.ntmps61 (t := [(0, .agg [V b, V s, V h, V t])]) rfl ?_
  refine vc_sr ?_
  iterate 2 refine vo ?_
  refine vnt ?_
  refine vc_sr ?_
  iterate 2 refine vo ?_
  refine voc c_spec_l01In rfl rfl ?_
  refine vo ?_
  refine vsp (fun g1 => ?_) (fun g1 => ?_)
  · iterate 2 refine von ?_
    refine vocn c_spec_l20Size rfl rfl ?_
    iterate 2 refine vo ?_
    refine vsp (fun g2 => ?_) (fun g2 => ?_)
    · have hs := sizeB_cases g2
      iterate 5 refine von ?_
      try refine vwr ?_
      refine von ?_
      try refine vwr ?_
      refine vocn c_spec_l01In rfl rfl ?_
      iterate 2 refine vo ?_
      refine vsp (fun g3 => ?_) (fun g3 => ?_)
      · iterate 5 refine von ?_
        try refine vwr ?_
        refine von ?_
        try refine vwr ?_
        refine vocn c_spec_l01In rfl rfl ?_
        iterate 2 refine vo ?_
        refine vsp (fun g4 => ?_) (fun g4 => ?_)
        · refine von ?_
          refine vocn c_spec_RingUsed rfl rfl ?_
          iterate 3 refine von ?_
          iterate 2 refine vo ?_
          refine vnt ?_
          refine vc_ret ?_
          refine fin_i [] rfl (fz ?_) trivial
          simp_all [ringOkB, usedF]
          try rfl
        · iterate 5 refine vof ?_
          iterate 2 refine vo ?_
          refine vnt ?_
          refine vc_ret ?_
          refine fin_i [] rfl (fz ?_) trivial
          simp_all [ringOkB, usedF]
          try rfl
      · iterate 7 refine vof ?_
        iterate 2 refine vo ?_
        iterate 5 refine vof ?_
        iterate 2 refine vo ?_
        refine vnt ?_
        refine vc_ret ?_
        refine fin_i [] rfl (fz ?_) trivial
        simp_all [ringOkB, usedF]
        try rfl
    · iterate 7 refine vof ?_
      iterate 2 refine vo ?_
      iterate 7 refine vof ?_
      iterate 2 refine vo ?_
      iterate 5 refine vof ?_
      iterate 2 refine vo ?_
      refine vnt ?_
      refine vc_ret ?_
      refine fin_i [] rfl (fz ?_) trivial
      simp_all [ringOkB, usedF]
      try rfl
  · iterate 3 refine vof ?_
    iterate 2 refine vo ?_
    iterate 7 refine vof ?_
    iterate 2 refine vo ?_
    iterate 7 refine vof ?_
    iterate 2 refine vo ?_
    iterate 5 refine vof ?_
    iterate 2 refine vo ?_
    refine vnt ?_
    refine vc_ret ?_
    refine fin_i [] rfl (fz ?_) trivial
    simp_all [ringOkB, usedF]
    try rfl
set_option maxHeartbeats 4000000 in
theorem c_spec_SlotAddress {b s h t k : Int} (hr : ringOkB b s h t = true := by assumption) (hk : 0 ≤ k := by omega) : Con0 Tryz.prog 99 [.agg [V b, V s, V h, V t], I k] (I (rslot b s k)) [] := by
  have hf := ringOk_facts hr
  have hm := slot_bd hf.1 ⟨hf.2.1, hf.2.2.1⟩ hk
  refine con_i Tryz.func99 Tryz.ntmps99 (t := [(0, .agg [V b, V s, V h, V t]), (1, I k)]) rfl ?_
  refine vc_sr ?_
  iterate 2 refine vo ?_
  refine vnt ?_
  refine vc_seq' ?_
  refine vc_sr ?_
  refine vo ?_
  refine voc c_spec_RingOk rfl rfl ?_
  iterate 2 refine vo ?_
  refine vsp (fun g1 => ?_) (fun g1 => ?_)
  · iterate 2 refine vof ?_
    refine vo ?_
    refine vnt ?_
    refine vc_then ?_
    refine vc_sr ?_
    refine vo ?_
    refine vnt ?_
    refine vc_ret ?_
    refine thn_r ?_
    refine fin_i [] rfl (fz ?_) trivial
    first | (simp_all; done) | omega | (rw [rslot, hm.1]; done) | (rw [rslot, hm.1]; omega)
  · iterate 2 refine von ?_
    refine vo ?_
    refine vnt ?_
    refine vc_if (fun g2 => ?_) (fun g2 => ?_)
    · refine vc_sr ?_
      refine vo ?_
      refine vnt ?_
      refine vc_ret ?_
      refine thn_r ?_
      refine fin_i [] rfl (fz ?_) trivial
      first | (simp_all; done) | omega | (rw [rslot, hm.1]; done) | (rw [rslot, hm.1]; omega)
    · refine vc_skip ?_
      refine thn ?_
      refine vc_sr ?_
      iterate 7 refine vo ?_
      try refine vwr ?_
      refine vo ?_
      try refine vwr ?_
      refine vo ?_
      refine vnt ?_
      refine vc_ret ?_
      refine fin_i [] rfl (fz ?_) trivial
      first | (simp_all; done) | omega | (rw [rslot, hm.1]; done) | (rw [rslot, hm.1]; omega)
end Go.Proofs.YtfcmcedeapgdcaaGreat
end
section
namespace Go.Proofs.YtfcmcedeapgdcaaGreat
open Go Go.RowKit Go.Vc
set_option linter.unusedVariables false
set_option linter.unusedSimpArgs false
set_option linter.unnecessarySimpa false
set_option maxHeartbeats 4000000 in
theorem c_impl_copyStrings {ps : Pg} (hp : ps.length ≤ 1099511627776 := by first | assumption | omega) : Con0 Tryz.prog 71 [.one (.sl 1 (ps.map strE))] (.one (.hs 0)) [(0, .arr 9 1 ((ps).map strE))] := by
  refine con_i Tryz.func71 Tryz.ntmps71 (t := [(0, .one (.sl 1 (ps.map strE)))]) rfl ?_
  refine vc_sr ?_
  refine vo ?_
  refine vnt ?_
  refine vc_sr ?_
  iterate 4 refine vo ?_
  refine vnt ?_
  refine vc_ret ?_
  refine fin_i [(0, some 40)] rfl (fz ?_) (fz ?_) <;> first | trivial | rfl
set_option maxHeartbeats 4000000 in
theorem c_impl_copyMemory {ps : Pg} (hp : ps.length ≤ 1099511627776 := by first | assumption | omega) : Con0 Tryz.prog 29 [.agg [.sl 1 (ps.map strE)]] (.agg [.hs 0]) [(0, .arr 9 1 ((ps).map strE))] := by
  refine con_i Tryz.func29 Tryz.ntmps29 (t := [(0, .agg [.sl 1 (ps.map strE)])]) rfl ?_
  refine vc_sr ?_
  iterate 2 refine vo ?_
  refine vnt ?_
  refine vc_sr ?_
  iterate 2 refine vo ?_
  refine voc c_impl_copyStrings rfl rfl ?_
  iterate 2 refine vo ?_
  refine vnt ?_
  refine vc_ret ?_
  refine fin_i [(0, some 40)] rfl (fz ?_) (fz ?_) <;> first | trivial | rfl
set_option maxHeartbeats 4000000 in
theorem c_spec_l16Copy {ps : Pg} (hp : ps.length ≤ 1099511627776 := by first | assumption | omega) : Con0 Tryz.prog 59 [.agg [.sl 1 (ps.map strE)]] (.agg [.hs 0]) [(0, .arr 9 1 ((ps).map strE))] := by
  refine con_i Tryz.func59 Tryz.ntmps59 (t := [(0, .agg [.sl 1 (ps.map strE)])]) rfl ?_
  refine vc_sr ?_
  iterate 2 refine vo ?_
  refine vnt ?_
  refine vc_sr ?_
  iterate 6 refine vo ?_
  refine vnt ?_
  refine vc_ret ?_
  refine fin_i [(0, some 48)] rfl (fz ?_) (fz ?_) <;> first | trivial | rfl
section
variable {P : Program} [TyEnv P] {n : Nat} {ops os : List Oper} {dr : Bool} {K : Tm → Hp → Prop} {t : Tm} {H : Hp} {fp : List Fp} {d : Nat}
theorem vep {sz i k : Nat} {es : List (List Value)} (h : Vd P n ops dr K os ((d, .one (.ep sz es i k)) :: t) H fp) : Vd P n ops dr K os ((d, .one (.ep sz es (Int.toNat (i : Nat)) k)) :: t) H fp := h
theorem vpt {j sz i k : Nat} (h : Vd P n ops dr K os ((d, .one (.ptr j i sz k)) :: t) H fp) : Vd P n ops dr K os ((d, .one (.ptr j (Int.toNat (i : Nat)) sz k)) :: t) H fp := h
end
theorem at_eq {α : Type} [Inhabited α] {l : List α} {i : Nat} (h : i < l.length) : at' l i = l[i] := by unfold at'; rw [List.getElem?_eq_getElem h]; rfl
theorem mem_stp {ps : Pg} {i : Nat} (h : ∀ j (g : j < ps.length), j < i → ps[j].size = 128) (hi : i < ps.length) (hs : ((at' ps i).size : Int) = 128) : ∀ j (g : j < ps.length), j < i + 1 → ps[j].size = 128 := fun j g hj => by
  rcases Nat.lt_or_ge j i with h2 | h2
  · exact h j g h2
  · obtain rfl : j = i := by omega
    rw [at_eq hi] at hs; omega
theorem mem_bad {ps : Pg} {i : Nat} (hi : i < ps.length) (hs : ¬ ((at' ps i).size : Int) = 128) : memOk ps = false := memOk_bad hi (by rw [at_eq hi] at hs; omega)
theorem mem_end {ps : Pg} {i : Nat} (h : ∀ j (g : j < ps.length), j < i → ps[j].size = 128) (hi : ¬ i < ps.length) : memOk ps = decide ((ps.length : Int) ≤ 64) := memOk_all fun k g => h k g (by omega)
theorem mpIdx_end {l : List Mp} {d v : Int} {i : Nat} (h : mpIdx l d v = mpIdxF d v i (l.drop i)) (hi : ¬ i < l.length) : mpIdx l d v = -1 := by
  rw [h, List.drop_eq_nil_of_le (by omega)]; rfl
theorem mpIdx_hit {l : List Mp} {d v : Int} {i : Nat} (h : mpIdx l d v = mpIdxF d v i (l.drop i)) (hi : i < l.length) (h1 : (at' l i).1 = d) (h2 : (at' l i).2.1 = v) : mpIdx l d v = i := by
  rw [h, drop_at hi]; simp [mpIdxF, Go.hit, h1, h2]
theorem mpIdx_go {l : List Mp} {d v : Int} {i : Nat} (h : mpIdx l d v = mpIdxF d v i (l.drop i)) (hi : i < l.length) (hh : ¬ ((at' l i).1 = d ∧ (at' l i).2.1 = v)) : mpIdx l d v = mpIdxF d v (i + 1) (l.drop (i + 1)) := by
  rw [h, drop_at hi]
  have : Go.hit (at' l i) d v = false := hit_no.2 hh
  simp [mpIdxF, this]
set_option maxHeartbeats 4000000 in
theorem c_impl_MemoryOk {ps : Pg} (hp : ps.length ≤ 1099511627776 := by first | assumption | omega) : Con0 Tryz.prog 114 [.agg [.sl 1 (ps.map strE)]] (B (memOk ps)) [] := by
  refine con_i Tryz.func114 Tryz.ntmps114 (t := [(0, .agg [.sl 1 (ps.map strE)])]) rfl ?_
  refine vc_sr ?_
  iterate 2 refine vo ?_
  refine vnt ?_
  refine vc_seq' ?_
  refine vc_sr ?_
  iterate 3 refine vo ?_
  try refine vln ?_
  refine vo ?_
  refine vnt ?_
  refine vc_block ?_
  refine vc_lp (σ := Nat) [1, 6, 7] [8] (fun i => [(8, I (i : Nat))]) (fun i => []) (fun i => i ≤ ps.length ∧ ∀ j (g : j < ps.length), j < i → ps[j].size = 128) (fun i => ps.length - i) 0 rfl rfl (sub_i [] (fz ?_) (fz ?_)) ?_ fun i hI => ?_
  · first | trivial | rfl
  · first | trivial | rfl | (exact ⟨rfl, trivial⟩)
  · exact ⟨Nat.zero_le _, fun j g h => by omega⟩
  refine vc_nf rfl rfl ?_
  refine vc_sr ?_
  refine vo ?_
  refine vnt ?_
  refine vc_seq' ?_
  refine vc_if (fun g1 => ?_) (fun g1 => ?_)
  · refine vc_skip ?_
    refine thn ?_
    refine vc_seq' ?_
    refine vc_block ?_
    refine vc_sr ?_
    iterate 3 refine vo ?_
    refine vnt ?_
    refine vc_sr ?_
    iterate 3 refine vo ?_
    refine vnt ?_
    refine vc_if (fun g2 => ?_) (fun g2 => ?_)
    · refine vc_sr ?_
      refine vo ?_
      refine vnt ?_
      refine vc_ret ?_
      refine inB_r ?_
      refine thn_r ?_
      refine thn_r ?_
      refine inB_r ?_
      refine thn_r ?_
      refine fin_i [] rfl (fz ?_) trivial
      exact mem_bad g1 g2
    · refine vc_skip ?_
      refine inB_n ?_
      refine thn ?_
      refine vc_region ?_
      refine vo ?_
      try refine vwr ?_
      refine vo ?_
      refine vnt ?_
      refine ⟨i + 1, ?_, ?_, sub_i [] (fz ?_) (fz ?_)⟩
      · exact ⟨by omega, mem_stp hI.2 g1 g2⟩
      · omega
      · first | rfl | trivial
      · first | trivial
  · refine vc_exit ?_
    refine thn_x ?_
    refine thn_x ?_
    refine inB_x ?_
    refine thn ?_
    refine vc_sr ?_
    iterate 3 refine vo ?_
    try refine vln ?_
    iterate 2 refine vo ?_
    refine vnt ?_
    refine vc_ret ?_
    refine fin_i [] rfl (fz ?_) trivial
    exact mem_end hI.2 g1
set_option maxHeartbeats 4000000 in
theorem c_spec_MemoryOk {ps : Pg} (hp : ps.length ≤ 1099511627776 := by first | assumption | omega) : Con0 Tryz.prog 136 [.agg [.sl 1 (ps.map strE)]] (B (memOk ps)) [] := by
  refine con_i Tryz.func136 Tryz.ntmps136 (t := [(0, .agg [.sl 1 (ps.map strE)])]) rfl ?_
  refine vc_sr ?_
  iterate 2 refine vo ?_
  refine vnt ?_
  refine vc_seq' ?_
  refine vc_sr ?_
  refine vo ?_
  refine vnt ?_
  refine vc_block ?_
  refine vc_lp (σ := Nat) [1] [8] (fun i => [(3, I (i : Nat))]) (fun i => []) (fun i => i ≤ ps.length ∧ ∀ j (g : j < ps.length), j < i → ps[j].size = 128) (fun i => ps.length - i) 0 rfl rfl (sub_i [] (fz ?_) (fz ?_)) ?_ fun i hI => ?_
  · first | trivial | rfl
  · first | trivial | rfl | (exact ⟨rfl, trivial⟩)
  · exact ⟨Nat.zero_le _, fun j g h => by omega⟩
  refine vc_nf rfl rfl ?_
  refine vc_seq' ?_
  refine vc_sr ?_
  iterate 4 refine vo ?_
  try refine vln ?_
  refine vo ?_
  refine vnt ?_
  refine vc_if (fun g1 => ?_) (fun g1 => ?_)
  · refine vc_skip ?_
    refine thn ?_
    refine vc_seq' ?_
    refine vc_block ?_
    refine vc_sr ?_
    iterate 7 refine vo ?_
    refine vnt ?_
    refine vc_if (fun g2 => ?_) (fun g2 => ?_)
    · refine vc_sr ?_
      refine vo ?_
      refine vnt ?_
      refine vc_ret ?_
      refine inB_r ?_
      refine thn_r ?_
      refine thn_r ?_
      refine inB_r ?_
      refine thn_r ?_
      refine fin_i [] rfl (fz ?_) trivial
      exact mem_bad g1 g2
    · refine vc_skip ?_
      refine inB_n ?_
      refine thn ?_
      refine vc_region ?_
      iterate 2 refine vo ?_
      try refine vwr ?_
      refine vo ?_
      refine vnt ?_
      refine ⟨i + 1, ?_, ?_, sub_i [] (fz ?_) (fz ?_)⟩
      · exact ⟨by omega, mem_stp hI.2 g1 g2⟩
      · omega
      · first | rfl | trivial
      · first | trivial
  · refine vc_exit ?_
    refine thn_x ?_
    refine thn_x ?_
    refine inB_x ?_
    refine thn ?_
    refine vc_sr ?_
    iterate 3 refine vo ?_
    try refine vln ?_
    iterate 2 refine vo ?_
    refine vnt ?_
    refine vc_ret ?_
    refine fin_i [] rfl (fz ?_) trivial
    exact mem_end hI.2 g1
set_option maxHeartbeats 4000000 in
theorem c_impl_within {ps : Pg} {a n : Int} (hp : ps.length ≤ 1099511627776 := by first | assumption | omega) : Con0 Tryz.prog 116 [.agg [.sl 1 (ps.map strE)], I a, I n] (B (memInB ps a n)) [] := by
  refine con_i Tryz.func116 Tryz.ntmps116 (t := [(0, .agg [.sl 1 (ps.map strE)]), (1, I a), (2, I n)]) rfl ?_
  refine vc_sr ?_
  iterate 2 refine vo ?_
  refine vnt ?_
  refine vc_sr ?_
  iterate 3 refine vo ?_
  try refine vln ?_
  refine vo ?_
  try refine vwr ?_
  refine vo ?_
  refine vnt ?_
  refine vc_sr ?_
  refine vo ?_
  refine voc c_impl_MemoryOk rfl rfl ?_
  refine vo ?_
  refine vsp (fun g1 => ?_) (fun g1 => ?_)
  · iterate 2 refine von ?_
    iterate 2 refine vo ?_
    refine vsp (fun g2 => ?_) (fun g2 => ?_)
    · iterate 3 refine von ?_
      iterate 2 refine vo ?_
      refine vsp (fun g3 => ?_) (fun g3 => ?_)
      · iterate 2 refine von ?_
        iterate 2 refine vo ?_
        refine vsp (fun g4 => ?_) (fun g4 => ?_)
        · iterate 4 refine von ?_
          try refine vwr ?_
          refine von ?_
          iterate 2 refine vo ?_
          refine vnt ?_
          refine vc_ret ?_
          refine fin_i [] rfl (fz ?_) trivial
          simp [memInB, g1]
          try first | omega | (rw [Bool.eq_iff_iff]; simp; omega)
        · iterate 5 refine vof ?_
          iterate 2 refine vo ?_
          refine vnt ?_
          refine vc_ret ?_
          refine fin_i [] rfl (fz ?_) trivial
          simp [memInB, g1]
          try first | omega | (rw [Bool.eq_iff_iff]; simp; omega)
      · iterate 2 refine vof ?_
        iterate 2 refine vo ?_
        iterate 5 refine vof ?_
        iterate 2 refine vo ?_
        refine vnt ?_
        refine vc_ret ?_
        refine fin_i [] rfl (fz ?_) trivial
        simp [memInB, g1]
        try first | omega | (rw [Bool.eq_iff_iff]; simp; omega)
    · iterate 3 refine vof ?_
      iterate 2 refine vo ?_
      iterate 2 refine vof ?_
      iterate 2 refine vo ?_
      iterate 5 refine vof ?_
      iterate 2 refine vo ?_
      refine vnt ?_
      refine vc_ret ?_
      refine fin_i [] rfl (fz ?_) trivial
      simp [memInB, g1]
      try first | omega | (rw [Bool.eq_iff_iff]; simp; omega)
  · iterate 2 refine vof ?_
    iterate 2 refine vo ?_
    iterate 3 refine vof ?_
    iterate 2 refine vo ?_
    iterate 2 refine vof ?_
    iterate 2 refine vo ?_
    iterate 5 refine vof ?_
    iterate 2 refine vo ?_
    refine vnt ?_
    refine vc_ret ?_
    refine fin_i [] rfl (fz ?_) trivial
    simp [memInB, g1]
    try first | omega | (rw [Bool.eq_iff_iff]; simp; omega)
set_option maxHeartbeats 4000000 in
theorem c_spec_l16Within {ps : Pg} {a n : Int} (hp : ps.length ≤ 1099511627776 := by first | assumption | omega) : Con0 Tryz.prog 138 [.agg [.sl 1 (ps.map strE)], I a, I n] (B (memInB ps a n)) [] := by
  refine con_i Tryz.func138 Tryz.ntmps138 (t := [(0, .agg [.sl 1 (ps.map strE)]), (1, I a), (2, I n)]) rfl ?_
  refine vc_sr ?_
  iterate 2 refine vo ?_
  refine vnt ?_
  refine vc_sr ?_
  iterate 3 refine vo ?_
  try refine vln ?_
  refine vo ?_
  try refine vwr ?_
  refine vo ?_
  refine vnt ?_
  refine vc_sr ?_
  refine vo ?_
  refine voc c_spec_MemoryOk rfl rfl ?_
  refine vo ?_
  refine vsp (fun g1 => ?_) (fun g1 => ?_)
  · iterate 2 refine von ?_
    iterate 2 refine vo ?_
    refine vsp (fun g2 => ?_) (fun g2 => ?_)
    · iterate 2 refine von ?_
      iterate 2 refine vo ?_
      refine vsp (fun g3 => ?_) (fun g3 => ?_)
      · iterate 3 refine von ?_
        iterate 2 refine vo ?_
        refine vsp (fun g4 => ?_) (fun g4 => ?_)
        · iterate 4 refine von ?_
          try refine vwr ?_
          refine von ?_
          iterate 2 refine vo ?_
          refine vnt ?_
          refine vc_ret ?_
          refine fin_i [] rfl (fz ?_) trivial
          simp [memInB, g1]
          try first | omega | (rw [Bool.eq_iff_iff]; simp; omega)
        · iterate 5 refine vof ?_
          iterate 2 refine vo ?_
          refine vnt ?_
          refine vc_ret ?_
          refine fin_i [] rfl (fz ?_) trivial
          simp [memInB, g1]
          try first | omega | (rw [Bool.eq_iff_iff]; simp; omega)
      · iterate 3 refine vof ?_
        iterate 2 refine vo ?_
        iterate 5 refine vof ?_
        iterate 2 refine vo ?_
        refine vnt ?_
        refine vc_ret ?_
        refine fin_i [] rfl (fz ?_) trivial
        simp [memInB, g1]
        try first | omega | (rw [Bool.eq_iff_iff]; simp; omega)
    · iterate 2 refine vof ?_
      iterate 2 refine vo ?_
      iterate 3 refine vof ?_
      iterate 2 refine vo ?_
      iterate 5 refine vof ?_
      iterate 2 refine vo ?_
      refine vnt ?_
      refine vc_ret ?_
      refine fin_i [] rfl (fz ?_) trivial
      simp [memInB, g1]
      try first | omega | (rw [Bool.eq_iff_iff]; simp; omega)
  · iterate 2 refine vof ?_
    iterate 2 refine vo ?_
    iterate 2 refine vof ?_
    iterate 2 refine vo ?_
    iterate 3 refine vof ?_
    iterate 2 refine vo ?_
    iterate 5 refine vof ?_
    iterate 2 refine vo ?_
    refine vnt ?_
    refine vc_ret ?_
    refine fin_i [] rfl (fz ?_) trivial
    simp [memInB, g1]
    try first | omega | (rw [Bool.eq_iff_iff]; simp; omega)
set_option maxHeartbeats 4000000 in
theorem c_impl_pageMapping {l : List Mp} {d v : Int} (hl : l.length ≤ 1099511627776 := by first | assumption | omega) : Con0 Tryz.prog 135 [.one (.sl 4 (l.map mpE)), I d, I v] (I (mpIdx l d v)) [] := by
  refine con_i Tryz.func135 Tryz.ntmps135 (t := [(0, .one (.sl 4 (l.map mpE))), (1, I d), (2, I v)]) rfl ?_
  refine vc_sr ?_
  refine vo ?_
  refine vnt ?_
  refine vc_seq' ?_
  refine vc_sr ?_
  iterate 2 refine vo ?_
  try refine vln ?_
  refine vo ?_
  refine vnt ?_
  refine vc_block ?_
  refine vc_lp (σ := Nat) [1, 2, 9, 10] [] (fun i => [(11, I (i : Nat))]) (fun i => []) (fun i => i ≤ l.length ∧ mpIdx l d v = mpIdxF d v i (l.drop i)) (fun i => l.length - i) 0 rfl rfl (sub_i [] (fz ?_) (fz ?_)) ?_ fun i hI => ?_
  · first | trivial | rfl
  · first | trivial | rfl
  · exact ⟨Nat.zero_le _, rfl⟩
  refine vc_nf rfl rfl ?_
  refine vc_sr ?_
  refine vo ?_
  refine vnt ?_
  refine vc_seq' ?_
  refine vc_if (fun g1 => ?_) (fun g1 => ?_)
  · refine vc_skip ?_
    refine thn ?_
    refine vc_seq' ?_
    refine vc_block ?_
    refine vc_sr ?_
    iterate 6 refine vo ?_
    refine vnt ?_
    refine vc_sr ?_
    iterate 5 refine vo ?_
    refine vsp (fun g2 => ?_) (fun g2 => ?_)
    · iterate 4 refine von ?_
      refine vo ?_
      refine vnt ?_
      refine vc_if (fun g3 => ?_) (fun g3 => ?_)
      · refine vc_sr ?_
        iterate 2 refine vo ?_
        refine vnt ?_
        refine vc_ret ?_
        refine inB_r ?_
        refine thn_r ?_
        refine thn_r ?_
        refine inB_r ?_
        refine thn_r ?_
        refine fin_i [] rfl (fz ?_) trivial
        exact mpIdx_hit hI.2 g1 g2 g3
      · refine vc_skip ?_
        refine inB_n ?_
        refine thn ?_
        refine vc_region ?_
        refine vo ?_
        try refine vwr ?_
        refine vo ?_
        refine vnt ?_
        refine ⟨i + 1, ?_, ?_, sub_i [] (fz ?_) (fz ?_)⟩
        · exact ⟨by omega, mpIdx_go hI.2 g1 fun h => by simp_all⟩
        · omega
        · first | rfl | trivial
        · first | trivial
    · iterate 4 refine vof ?_
      refine vo ?_
      refine vnt ?_
      refine vc_else ?_
      refine vc_skip ?_
      refine inB_n ?_
      refine thn ?_
      refine vc_region ?_
      refine vo ?_
      try refine vwr ?_
      refine vo ?_
      refine vnt ?_
      refine ⟨i + 1, ?_, ?_, sub_i [] (fz ?_) (fz ?_)⟩
      · exact ⟨by omega, mpIdx_go hI.2 g1 fun h => by simp_all⟩
      · omega
      · first | rfl | trivial
      · first | trivial
  · refine vc_exit ?_
    refine thn_x ?_
    refine thn_x ?_
    refine inB_x ?_
    refine thn ?_
    refine vc_sr ?_
    refine vo ?_
    refine vnt ?_
    refine vc_ret ?_
    refine fin_i [] rfl (fz ?_) trivial
    exact mpIdx_end hI.2 g1
theorem mp_bad {l : List Mp} {i : Nat} (hi : i < l.length) (h : inB (at' l i).1 0 7 = false ∨ inB (at' l i).2.1 0 1023 = false ∨ inB (at' l i).2.2.1 0 63 = false ∨ ¬ mpIdx l (at' l i).1 (at' l i).2.1 = i) : mapsOk l = false := by
  rw [at_eq hi] at h
  refine mapsOk_bad hi fun hg => ?_
  obtain ⟨⟨h1, h2, h3⟩, h4⟩ := hg hi
  rcases h with h | h | h | h
  · rw [inB_iff.2 h1] at h; cases h
  · rw [inB_iff.2 h2] at h; cases h
  · rw [inB_iff.2 h3] at h; cases h
  · exact h ((mpIdx_self hi).2 h4)
theorem mp_stp {l : List Mp} {i : Nat} (h : ∀ j, j < i → mapGood l j) (hi : i < l.length) (h1 : inB (at' l i).1 0 7 = true) (h2 : inB (at' l i).2.1 0 1023 = true) (h3 : inB (at' l i).2.2.1 0 63 = true) (h4 : mpIdx l (at' l i).1 (at' l i).2.1 = i) : ∀ j, j < i + 1 → mapGood l j := fun j hj => by
  rcases Nat.lt_or_ge j i with g | g
  · exact h j g
  · obtain rfl : j = i := by omega
    rw [at_eq hi] at h1 h2 h3 h4
    exact fun _ => ⟨⟨inB_iff.1 h1, inB_iff.1 h2, inB_iff.1 h3⟩, (mpIdx_self hi).1 h4⟩
theorem mp_end {l : List Mp} {i : Nat} (h : ∀ j, j < i → mapGood l j) (hi : ¬ i < l.length) : mapsOk l = decide ((l.length : Int) ≤ 96) := mapsOk_all fun k hk => h k (by omega)
theorem mp_dup {l : List Mp} {i j : Nat} (hi : i < l.length) (hj : j < i) (h1 : (at' l j).1 = (at' l i).1) (h2 : (at' l j).2.1 = (at' l i).2.1) : mapsOk l = false := by
  rw [at_eq hi, at_eq (by omega)] at h1 h2
  exact mapsOk_bad hi fun hg => (hg hi).2 j hj ⟨h1, h2⟩
theorem mp_stp2 {l : List Mp} {i j : Nat} (h : ∀ j, j < i → mapGood l j) (hi : i < l.length) (h1 : inB (at' l i).1 0 7 = true) (h2 : inB (at' l i).2.1 0 1023 = true) (h3 : inB (at' l i).2.2.1 0 63 = true) (h4 : ∀ k, k < j → ¬ ((at' l k).1 = (at' l i).1 ∧ (at' l k).2.1 = (at' l i).2.1)) (hj : ¬ j < i) : ∀ j, j < i + 1 → mapGood l j := fun k hk => by
  rcases Nat.lt_or_ge k i with g | g
  · exact h k g
  · obtain rfl : k = i := by omega
    rw [at_eq hi] at h1 h2 h3 h4
    exact fun _ => ⟨⟨inB_iff.1 h1, inB_iff.1 h2, inB_iff.1 h3⟩, fun q hq => by have := h4 q (by omega); rwa [at_eq (by omega)] at this⟩
theorem pg_hit {l : List Mp} {d v : Int} {i : Nat} {wt : Bool} (hm : MapsOk l) (hi : i < l.length) (h1 : (at' l i).1 = d) (h2 : (at' l i).2.1 = v) : mpPage l d v wt = if wt && !(at' l i).2.2.2 then -1 else (at' l i).2.2.1 := by
  rw [at_eq hi] at *
  exact mpPage_unique hm hi (hit_iff.2 ⟨h1, h2⟩) wt
def noPg (l : List Mp) (d v : Int) (wt : Bool) (i : Nat) : Prop := ∀ j, j < i → ¬ ((at' l j).1 = d ∧ (at' l j).2.1 = v ∧ ((at' l j).2.2.2 = true ∨ wt = false))
theorem pg_end {l : List Mp} {d v : Int} {i : Nat} {wt : Bool} (hm : MapsOk l) (h : noPg l d v wt i) (hi : ¬ i < l.length) : mpPage l d v wt = -1 := by
  rcases mp_first l d v with h1 | ⟨k, hk, h1, h2⟩
  · exact mpPage_no h1 wt
  · rw [mpPage_unique hm hk h2 wt]
    have := h k (by omega)
    rw [at_eq hk] at this
    have h3 := hit_iff.1 h2
    rw [if_pos]
    cases hw : wt <;> cases hx : l[k].2.2.2 <;> simp_all
theorem pg_idx {l : List Mp} {d v : Int} {wt : Bool} (hm : MapsOk l) : (mpIdx l d v < 0 → mpPage l d v wt = -1) ∧ (0 ≤ mpIdx l d v → ∃ i, i < l.length ∧ mpIdx l d v = (i : Nat) ∧ mpPage l d v wt = if wt && !(at' l i).2.2.2 then -1 else (at' l i).2.2.1) := by
  rcases mp_first l d v with h1 | ⟨k, hk, h1, h2⟩
  · rw [mpIdx_no h1]
    exact ⟨fun _ => mpPage_no h1 wt, fun h => by omega⟩
  · rw [mpIdx_at hk h1 h2]
    exact ⟨fun h => by omega, fun _ => ⟨k, hk, rfl, by rw [at_eq hk]; exact mpPage_at hk h1 h2 wt⟩⟩
set_option maxHeartbeats 4000000 in
theorem c_impl_MappingsOk {l : List Mp} (hl : l.length ≤ 1099511627776 := by first | assumption | omega) : Con0 Tryz.prog 113 [.one (.sl 4 (l.map mpE))] (B (mapsOk l)) [] := by
  refine con_i Tryz.func113 Tryz.ntmps113 (t := [(0, .one (.sl 4 (l.map mpE)))]) rfl ?_
  refine vc_sr ?_
  refine vo ?_
  refine vnt ?_
  refine vc_seq' ?_
  refine vc_sr ?_
  iterate 2 refine vo ?_
  try refine vln ?_
  refine vo ?_
  refine vnt ?_
  refine vc_block ?_
  refine vc_lp (σ := Nat) [0, 5, 6] [] (fun i => [(7, I (i : Nat))]) (fun i => []) (fun i => i ≤ l.length ∧ ∀ j, j < i → mapGood l j) (fun i => l.length - i) 0 rfl rfl (sub_i [] (fz ?_) (fz ?_)) ?_ fun i hI => ?_
  · first | trivial | rfl
  · first | trivial | rfl
  · exact ⟨Nat.zero_le _, fun j h => by omega⟩
  refine vc_nf rfl rfl ?_
  refine vc_sr ?_
  refine vo ?_
  refine vnt ?_
  refine vc_seq' ?_
  refine vc_if (fun g1 => ?_) (fun g1 => ?_)
  · refine vc_skip ?_
    refine thn ?_
    refine vc_seq' ?_
    refine vc_block ?_
    refine vc_sr ?_
    iterate 6 refine vo ?_
    refine vnt ?_
    refine vc_sr ?_
    iterate 2 refine vo ?_
    refine voc c_impl_between rfl rfl ?_
    iterate 2 refine vo ?_
    refine vsp (fun g2 => ?_) (fun g2 => ?_)
    · iterate 4 refine vof ?_
      iterate 2 refine vo ?_
      iterate 4 refine vof ?_
      iterate 2 refine vo ?_
      iterate 8 refine vof ?_
      refine vo ?_
      refine vnt ?_
      refine vc_then ?_
      refine vc_sr ?_
      refine vo ?_
      refine vnt ?_
      refine vc_ret ?_
      refine inB_r ?_
      refine thn_r ?_
      refine thn_r ?_
      refine inB_r ?_
      refine thn_r ?_
      refine fin_i [] rfl (fz ?_) trivial
      exact mp_bad g1 (by simp_all)
    · iterate 2 refine von ?_
      refine vocn c_impl_between rfl rfl ?_
      refine von ?_
      iterate 2 refine vo ?_
      refine vsp (fun g3 => ?_) (fun g3 => ?_)
      · iterate 4 refine vof ?_
        iterate 2 refine vo ?_
        iterate 8 refine vof ?_
        refine vo ?_
        refine vnt ?_
        refine vc_then ?_
        refine vc_sr ?_
        refine vo ?_
        refine vnt ?_
        refine vc_ret ?_
        refine inB_r ?_
        refine thn_r ?_
        refine thn_r ?_
        refine inB_r ?_
        refine thn_r ?_
        refine fin_i [] rfl (fz ?_) trivial
        exact mp_bad g1 (by simp_all)
      · iterate 2 refine von ?_
        refine vocn c_impl_between rfl rfl ?_
        refine von ?_
        iterate 2 refine vo ?_
        refine vsp (fun g4 => ?_) (fun g4 => ?_)
        · iterate 8 refine vof ?_
          refine vo ?_
          refine vnt ?_
          refine vc_then ?_
          refine vc_sr ?_
          refine vo ?_
          refine vnt ?_
          refine vc_ret ?_
          refine inB_r ?_
          refine thn_r ?_
          refine thn_r ?_
          refine inB_r ?_
          refine thn_r ?_
          refine fin_i [] rfl (fz ?_) trivial
          exact mp_bad g1 (by simp_all)
        · iterate 5 refine von ?_
          refine vocn c_impl_pageMapping rfl rfl ?_
          iterate 2 refine von ?_
          refine vo ?_
          refine vnt ?_
          refine vc_if (fun g5 => ?_) (fun g5 => ?_)
          · refine vc_sr ?_
            refine vo ?_
            refine vnt ?_
            refine vc_ret ?_
            refine inB_r ?_
            refine thn_r ?_
            refine thn_r ?_
            refine inB_r ?_
            refine thn_r ?_
            refine fin_i [] rfl (fz ?_) trivial
            exact mp_bad g1 (by simp_all)
          · refine vc_skip ?_
            refine inB_n ?_
            refine thn ?_
            refine vc_region ?_
            refine vo ?_
            try refine vwr ?_
            refine vo ?_
            refine vnt ?_
            refine ⟨i + 1, ?_, ?_, sub_i [] (fz ?_) (fz ?_)⟩
            · exact ⟨by omega, mp_stp hI.2 g1 g2 g3 g4 g5⟩
            · omega
            · first | rfl | trivial
            · first | trivial
  · refine vc_exit ?_
    refine thn_x ?_
    refine thn_x ?_
    refine inB_x ?_
    refine thn ?_
    refine vc_sr ?_
    iterate 2 refine vo ?_
    try refine vln ?_
    iterate 2 refine vo ?_
    refine vnt ?_
    refine vc_ret ?_
    refine fin_i [] rfl (fz ?_) trivial
    exact mp_end hI.2 g1
theorem pg_stp {l : List Mp} {d v : Int} {i : Nat} {wt : Bool} (h : noPg l d v wt i) (hh : ¬ ((at' l i).1 = d ∧ (at' l i).2.1 = v ∧ ((at' l i).2.2.2 = true ∨ wt = false))) : noPg l d v wt (i + 1) := fun j hj => by
  rcases Nat.lt_or_ge j i with g | g
  · exact h j g
  · obtain rfl : j = i := by omega
    exact hh
theorem mp_phys {l : List Mp} (hm : MapsOk l) {i : Nat} (hi : i < l.length) : 0 ≤ (at' l i).2.2.1 ∧ (at' l i).2.2.1 ≤ 63 := by rw [at_eq hi]; exact (hm.2 i hi).1.2.2
theorem place_neg {l : List Mp} {d a : Int} {wt : Bool} (hm : MapsOk l) (h : a < 0) : placeF l d a wt = -1 := by
  unfold placeF
  by_cases h2 : mpPage l d (a / 128) wt < 0
  · rw [if_pos h2]
  · have := mpPage_v hm (d := d) (v := a / 128) (wr := wt) (by omega); omega
set_option maxHeartbeats 4000000 in
theorem c_spec_l17Page {l : List Mp} {d v : Int} {wt : Bool} (hm : MapsOk l := by assumption) : Con0 Tryz.prog 137 [.one (.sl 4 (l.map mpE)), I d, I v, B wt] (I (mpPage l d v wt)) [] := by
  have hl := hm.1
  refine con_i Tryz.func137 Tryz.ntmps137 (t := [(0, .one (.sl 4 (l.map mpE))), (1, I d), (2, I v), (3, B wt)]) rfl ?_
  refine vc_sr ?_
  refine vo ?_
  refine vnt ?_
  refine vc_seq' ?_
  refine vc_sr ?_
  refine vo ?_
  refine vnt ?_
  refine vc_block ?_
  refine vc_lp (σ := Nat) [0, 1, 2, 3] [] (fun i => [(9, I (i : Nat))]) (fun i => []) (fun i => i ≤ l.length ∧ noPg l d v wt i) (fun i => l.length - i) 0 rfl rfl (sub_i [] (fz ?_) (fz ?_)) ?_ fun i hI => ?_
  · first | trivial | rfl
  · first | trivial | rfl
  · exact ⟨Nat.zero_le _, fun j h => by omega⟩
  refine vc_nf rfl rfl ?_
  refine vc_seq' ?_
  refine vc_sr ?_
  iterate 3 refine vo ?_
  try refine vln ?_
  refine vo ?_
  refine vnt ?_
  refine vc_if (fun g1 => ?_) (fun g1 => ?_)
  · refine vc_skip ?_
    refine thn ?_
    refine vc_seq' ?_
    refine vc_block ?_
    refine vc_sr ?_
    iterate 8 refine vo ?_
    refine vsp (fun g2 => ?_) (fun g2 => ?_)
    · iterate 7 refine von ?_
      iterate 2 refine vo ?_
      refine vsp (fun g3 => ?_) (fun g3 => ?_)
      · iterate 6 refine von ?_
        refine vsp (fun g4 => ?_) (fun g4 => ?_)
        · iterate 2 refine vof ?_
          refine von ?_
          refine vo ?_
          refine vnt ?_
          refine vc_then ?_
          refine vc_sr ?_
          iterate 6 refine vo ?_
          refine vnt ?_
          refine vc_ret ?_
          refine inB_r ?_
          refine thn_r ?_
          refine thn_r ?_
          refine inB_r ?_
          refine thn_r ?_
          refine fin_i [] rfl (fz ?_) trivial
          rw [pg_hit hm g1 g2 g3, if_neg]
          simp_all
        · iterate 3 refine von ?_
          refine vo ?_
          refine vnt ?_
          refine vc_if (fun g5 => ?_) (fun g5 => ?_)
          · refine vc_sr ?_
            iterate 6 refine vo ?_
            refine vnt ?_
            refine vc_ret ?_
            refine inB_r ?_
            refine thn_r ?_
            refine thn_r ?_
            refine inB_r ?_
            refine thn_r ?_
            refine fin_i [] rfl (fz ?_) trivial
            rw [pg_hit hm g1 g2 g3, if_neg]
            simp_all
          · refine vc_skip ?_
            refine inB_n ?_
            refine thn ?_
            refine vc_region ?_
            iterate 2 refine vo ?_
            try refine vwr ?_
            refine vo ?_
            refine vnt ?_
            refine ⟨i + 1, ?_, ?_, sub_i [] (fz ?_) (fz ?_)⟩
            · exact ⟨by omega, pg_stp hI.2 (by simp_all)⟩
            · omega
            · first | rfl | trivial
            · first | trivial
      · iterate 9 refine vof ?_
        refine vo ?_
        refine vnt ?_
        refine vc_else ?_
        refine vc_skip ?_
        refine inB_n ?_
        refine thn ?_
        refine vc_region ?_
        iterate 2 refine vo ?_
        try refine vwr ?_
        refine vo ?_
        refine vnt ?_
        refine ⟨i + 1, ?_, ?_, sub_i [] (fz ?_) (fz ?_)⟩
        · exact ⟨by omega, pg_stp hI.2 (by simp_all)⟩
        · omega
        · first | rfl | trivial
        · first | trivial
    · iterate 7 refine vof ?_
      iterate 2 refine vo ?_
      iterate 9 refine vof ?_
      refine vo ?_
      refine vnt ?_
      refine vc_else ?_
      refine vc_skip ?_
      refine inB_n ?_
      refine thn ?_
      refine vc_region ?_
      iterate 2 refine vo ?_
      try refine vwr ?_
      refine vo ?_
      refine vnt ?_
      refine ⟨i + 1, ?_, ?_, sub_i [] (fz ?_) (fz ?_)⟩
      · exact ⟨by omega, pg_stp hI.2 (by simp_all)⟩
      · omega
      · first | rfl | trivial
      · first | trivial
  · refine vc_exit ?_
    refine thn_x ?_
    refine thn_x ?_
    refine inB_x ?_
    refine thn ?_
    refine vc_sr ?_
    refine vo ?_
    refine vnt ?_
    refine vc_ret ?_
    refine fin_i [] rfl (fz ?_) trivial
    exact pg_end hm hI.2 g1
set_option maxHeartbeats 4000000 in
theorem c_impl_place {l : List Mp} {d a : Int} {wt : Bool} (hm : MapsOk l := by assumption) (ha : a ≤ 9223372036854775807 := by omega) : Con0 Tryz.prog 115 [.one (.sl 4 (l.map mpE)), I d, I a, B wt] (I (placeF l d a wt)) [] := by
  have hl := hm.1
  refine con_i Tryz.func115 Tryz.ntmps115 (t := [(0, .one (.sl 4 (l.map mpE))), (1, I d), (2, I a), (3, B wt)]) rfl ?_
  refine vc_sr ?_
  refine vo ?_
  refine vnt ?_
  refine vc_seq' ?_
  refine vc_sr ?_
  iterate 2 refine vo ?_
  refine vnt ?_
  refine vc_if (fun g1 => ?_) (fun g1 => ?_)
  · refine vc_sr ?_
    refine vo ?_
    refine vnt ?_
    refine vc_ret ?_
    refine thn_r ?_
    refine fin_i [] rfl (fz ?_) trivial
    exact place_neg hm g1
  · refine vc_skip ?_
    refine thn ?_
    refine vc_sr ?_
    iterate 4 refine vo ?_
    try refine veq (IntWalk.i64_quo _ _ (by omega)) ?_
    refine voc c_impl_pageMapping rfl rfl ?_
    refine vo ?_
    refine vnt ?_
    refine vc_seq' ?_
    refine vc_sr ?_
    iterate 3 refine vo ?_
    refine vsp (fun g2 => ?_) (fun g2 => ?_)
    · iterate 9 refine vof ?_
      refine vo ?_
      refine vnt ?_
      refine vc_then ?_
      refine vc_sr ?_
      refine vo ?_
      refine vnt ?_
      refine vc_ret ?_
      refine thn_r ?_
      refine fin_i [] rfl (fz ?_) trivial
      rw [placeF, (pg_idx hm).1 g2]
      rfl
    · obtain ⟨i, hi, e, hpg⟩ := (pg_idx (wt := wt) hm).2 g2
      rw [e]
      have hf := mp_phys hm hi
      iterate 2 refine von ?_
      refine vsp (fun g3 => ?_) (fun g3 => ?_)
      · iterate 3 refine von ?_
        try first | refine vep ?_ | refine vpt ?_
        iterate 4 refine von ?_
        refine vo ?_
        refine vnt ?_
        refine vc_if (fun g4 => ?_) (fun g4 => ?_)
        · refine vc_sr ?_
          refine vo ?_
          refine vnt ?_
          refine vc_ret ?_
          refine thn_r ?_
          refine fin_i [] rfl (fz ?_) trivial
          rw [placeF, hpg]
          simp_all
          try omega
        · refine vc_skip ?_
          refine thn ?_
          refine vc_sr ?_
          iterate 3 refine vo ?_
          try first | refine vep ?_ | refine vpt ?_
          iterate 3 refine vo ?_
          try refine vwr ?_
          iterate 2 refine vo ?_
          try refine veq (Int.tmod_eq_emod_of_nonneg (by omega)) ?_
          refine vo ?_
          try refine vwr ?_
          refine vo ?_
          refine vnt ?_
          refine vc_ret ?_
          refine fin_i [] rfl (fz ?_) trivial
          rw [placeF, hpg]
          simp_all
          try omega
      · iterate 6 refine vof ?_
        refine von ?_
        refine vo ?_
        refine vnt ?_
        refine vc_else ?_
        refine vc_skip ?_
        refine thn ?_
        refine vc_sr ?_
        iterate 3 refine vo ?_
        try first | refine vep ?_ | refine vpt ?_
        iterate 3 refine vo ?_
        try refine vwr ?_
        iterate 2 refine vo ?_
        try refine veq (Int.tmod_eq_emod_of_nonneg (by omega)) ?_
        refine vo ?_
        try refine vwr ?_
        refine vo ?_
        refine vnt ?_
        refine vc_ret ?_
        refine fin_i [] rfl (fz ?_) trivial
        rw [placeF, hpg]
        simp_all
        try omega
theorem nd_stp {l : List Mp} {k j : Nat} (h : ∀ q, q < j → ¬ ((at' l q).1 = (at' l k).1 ∧ (at' l q).2.1 = (at' l k).2.1)) (hh : ¬ ((at' l j).1 = (at' l k).1 ∧ (at' l j).2.1 = (at' l k).2.1)) : ∀ q, q < j + 1 → ¬ ((at' l q).1 = (at' l k).1 ∧ (at' l q).2.1 = (at' l k).2.1) := fun q hq => by
  rcases Nat.lt_or_ge q j with g | g
  · exact h q g
  · obtain rfl : q = j := by omega
    exact hh
set_option maxHeartbeats 4000000 in
theorem c_spec_MappingsOk {l : List Mp} (hl : l.length ≤ 1099511627776 := by first | assumption | omega) : Con0 Tryz.prog 56 [.one (.sl 4 (l.map mpE))] (B (mapsOk l)) [] := by
  refine con_i Tryz.func56 Tryz.ntmps56 (t := [(0, .one (.sl 4 (l.map mpE)))]) rfl ?_
  refine vc_sr ?_
  refine vo ?_
  refine vnt ?_
  refine vc_seq' ?_
  refine vc_sr ?_
  iterate 2 refine vo ?_
  try refine vln ?_
  refine vo ?_
  refine vnt ?_
  refine vc_if (fun g1 => ?_) (fun g1 => ?_)
  · refine vc_sr ?_
    refine vo ?_
    refine vnt ?_
    refine vc_ret ?_
    refine thn_r ?_
    refine fin_i [] rfl (fz ?_) trivial
    exact mapsOk_long (by omega)
  · refine vc_skip ?_
    refine thn ?_
    refine vc_seq' ?_
    refine vc_sr ?_
    refine vo ?_
    refine vnt ?_
    refine vc_block ?_
    refine vc_lp (σ := Nat) [0] [] (fun k => [(3, I (k : Nat))]) (fun k => []) (fun k => k ≤ l.length ∧ ∀ j, j < k → mapGood l j) (fun k => l.length - k) 0 rfl rfl (sub_i [] (fz ?_) (fz ?_)) ?_ fun k hI => ?_
    · first | trivial | rfl
    · first | trivial | rfl
    · exact ⟨Nat.zero_le _, fun j h => by omega⟩
    refine vc_nf rfl rfl ?_
    refine vc_seq' ?_
    refine vc_sr ?_
    iterate 3 refine vo ?_
    try refine vln ?_
    refine vo ?_
    refine vnt ?_
    refine vc_if (fun g2 => ?_) (fun g2 => ?_)
    · refine vc_skip ?_
      refine thn ?_
      refine vc_seq' ?_
      refine vc_block ?_
      refine vc_sr ?_
      iterate 3 refine vo ?_
      try first | refine vep ?_ | refine vpt ?_
      iterate 3 refine vo ?_
      refine vnt ?_
      refine vc_seq' ?_
      refine vc_sr ?_
      iterate 2 refine vo ?_
      refine voc c_spec_l01In rfl rfl ?_
      iterate 2 refine vo ?_
      refine vsp (fun g3 => ?_) (fun g3 => ?_)
      · iterate 4 refine vof ?_
        iterate 2 refine vo ?_
        iterate 4 refine vof ?_
        refine vo ?_
        refine vnt ?_
        refine vc_then ?_
        refine vc_sr ?_
        refine vo ?_
        refine vnt ?_
        refine vc_ret ?_
        refine thn_r ?_
        refine inB_r ?_
        refine thn_r ?_
        refine thn_r ?_
        refine inB_r ?_
        refine thn_r ?_
        refine fin_i [] rfl (fz ?_) trivial
        exact mp_bad g2 (by simp_all)
      · iterate 2 refine von ?_
        refine vocn c_spec_l01In rfl rfl ?_
        refine von ?_
        iterate 2 refine vo ?_
        refine vsp (fun g4 => ?_) (fun g4 => ?_)
        · iterate 4 refine vof ?_
          refine vo ?_
          refine vnt ?_
          refine vc_then ?_
          refine vc_sr ?_
          refine vo ?_
          refine vnt ?_
          refine vc_ret ?_
          refine thn_r ?_
          refine inB_r ?_
          refine thn_r ?_
          refine thn_r ?_
          refine inB_r ?_
          refine thn_r ?_
          refine fin_i [] rfl (fz ?_) trivial
          exact mp_bad g2 (by simp_all)
        · iterate 2 refine von ?_
          refine vocn c_spec_l01In rfl rfl ?_
          refine von ?_
          refine vo ?_
          refine vnt ?_
          refine vc_if (fun g5 => ?_) (fun g5 => ?_)
          · refine vc_sr ?_
            refine vo ?_
            refine vnt ?_
            refine vc_ret ?_
            refine thn_r ?_
            refine inB_r ?_
            refine thn_r ?_
            refine thn_r ?_
            refine inB_r ?_
            refine thn_r ?_
            refine fin_i [] rfl (fz ?_) trivial
            exact mp_bad g2 (by simp_all)
          · refine vc_skip ?_
            refine thn ?_
            refine vc_sr ?_
            refine vo ?_
            refine vnt ?_
            refine vc_block ?_
            refine vc_lp (σ := Nat) [0, 3, 4] [32] (fun j => [(5, I (j : Nat))]) (fun j => []) (fun j => j ≤ k ∧ ∀ q, q < j → ¬ ((at' l q).1 = (at' l k).1 ∧ (at' l q).2.1 = (at' l k).2.1)) (fun j => k - j) 0 rfl rfl (sub_i [] (fz ?_) (fz ?_)) ?_ fun j hJ => ?_
            · first | trivial | rfl
            · first | trivial | rfl
            · exact ⟨Nat.zero_le _, fun q h => by omega⟩
            refine vc_nf rfl rfl ?_
            refine vc_seq' ?_
            refine vc_sr ?_
            iterate 3 refine vo ?_
            refine vnt ?_
            refine vc_if (fun g6 => ?_) (fun g6 => ?_)
            · refine vc_skip ?_
              refine thn ?_
              refine vc_seq' ?_
              refine vc_block ?_
              refine vc_sr ?_
              iterate 3 refine vo ?_
              try first | refine vep ?_ | refine vpt ?_
              iterate 6 refine vo ?_
              refine vsp (fun g7 => ?_) (fun g7 => ?_)
              · iterate 3 refine von ?_
                try first | refine vep ?_ | refine vpt ?_
                iterate 5 refine von ?_
                refine vo ?_
                refine vnt ?_
                refine vc_if (fun g8 => ?_) (fun g8 => ?_)
                · refine vc_sr ?_
                  refine vo ?_
                  refine vnt ?_
                  refine vc_ret ?_
                  refine inB_r ?_
                  refine thn_r ?_
                  refine thn_r ?_
                  refine inB_r ?_
                  refine inB_r ?_
                  refine thn_r ?_
                  refine thn_r ?_
                  refine inB_r ?_
                  refine thn_r ?_
                  refine fin_i [] rfl (fz ?_) trivial
                  exact mp_dup g2 g6 g7 g8
                · refine vc_skip ?_
                  refine inB_n ?_
                  refine thn ?_
                  refine vc_region ?_
                  iterate 2 refine vo ?_
                  try refine vwr ?_
                  refine vo ?_
                  refine vnt ?_
                  refine ⟨j + 1, ?_, ?_, sub_i [] (fz ?_) (fz ?_)⟩
                  · exact ⟨by omega, nd_stp hJ.2 (by simp_all)⟩
                  · omega
                  · first | rfl | trivial
                  · first | trivial | rfl
              · iterate 8 refine vof ?_
                refine vo ?_
                refine vnt ?_
                refine vc_else ?_
                refine vc_skip ?_
                refine inB_n ?_
                refine thn ?_
                refine vc_region ?_
                iterate 2 refine vo ?_
                try refine vwr ?_
                refine vo ?_
                refine vnt ?_
                refine ⟨j + 1, ?_, ?_, sub_i [] (fz ?_) (fz ?_)⟩
                · exact ⟨by omega, nd_stp hJ.2 (by simp_all)⟩
                · omega
                · first | rfl | trivial
                · first | trivial | rfl
            · refine vc_exit ?_
              refine thn_x ?_
              refine thn_x ?_
              refine inB_x ?_
              refine inB_n ?_
              refine thn ?_
              refine vc_region ?_
              iterate 2 refine vo ?_
              try refine vwr ?_
              refine vo ?_
              refine vnt ?_
              refine ⟨k + 1, ?_, ?_, sub_i [] (fz ?_) (fz ?_)⟩
              · exact ⟨by omega, mp_stp2 hI.2 g2 g3 g4 g5 hJ.2 (by omega)⟩
              · omega
              · first | rfl | trivial
              · first | trivial | rfl
    · refine vc_exit ?_
      refine thn_x ?_
      refine thn_x ?_
      refine inB_x ?_
      refine thn ?_
      refine vc_sr ?_
      refine vo ?_
      refine vnt ?_
      refine vc_ret ?_
      refine fin_i [] rfl (fz ?_) trivial
      rw [mp_end hI.2 g2, decide_eq_true (by omega)]
end Go.Proofs.YtfcmcedeapgdcaaGreat
end
section
namespace Go.Proofs.YtfcmcedeapgdcaaGreat
open Go Go.RowKit Go.Vc
set_option linter.unusedVariables false
set_option linter.unusedSimpArgs false
set_option linter.unnecessarySimpa false
theorem vc_lp2 {P : Program} [TyEnv P] {n : Nat} {K : Post} {t t0 : Tm} {H H0 : Hp} {c : Code} {A B : Type} (live keep : List Nat) (ov : A → B → Tm) (gv : A → B → Hp) (I : A → B → Prop) (μ : A → B → Nat) (x10 : A) (x20 : B) (ht : keepF t live = some t0) (hH : keepH H keep = some H0) (hs : Sub t H (ov x10 x20 ++ t0) (gv x10 x20 ++ H0)) (h0 : I x10 x20)
    (h : ∀ x1 x2, I x1 x2 → VC P n c (thenP (fun t H => ∃ x1' x2', I x1' x2' ∧ μ x1' x2' < μ x1 x2 ∧ Sub t H (ov x1' x2' ++ t0) (gv x1' x2' ++ H0)) K) (ov x1 x2 ++ t0) (gv x1 x2 ++ H0)) : VC P n (.loop c) K t H :=
  vc_lp (σ := A × B) live keep (fun s => ov s.1 s.2) (fun s => gv s.1 s.2) (fun s => I s.1 s.2) (fun s => μ s.1 s.2) (x10, x20) ht hH hs h0 fun s hi => vc_mono (h s.1 s.2 hi) fun e t H hk => by
    cases e <;> first | exact hk | (obtain ⟨x1', x2', h1, h2, h3⟩ := hk; exact ⟨(x1', x2'), h1, h2, h3⟩)
theorem vc_lp3 {P : Program} [TyEnv P] {n : Nat} {K : Post} {t t0 : Tm} {H H0 : Hp} {c : Code} {A B C : Type} (live keep : List Nat) (ov : A → B → C → Tm) (gv : A → B → C → Hp) (I : A → B → C → Prop) (μ : A → B → C → Nat) (x10 : A) (x20 : B) (x30 : C) (ht : keepF t live = some t0) (hH : keepH H keep = some H0) (hs : Sub t H (ov x10 x20 x30 ++ t0) (gv x10 x20 x30 ++ H0)) (h0 : I x10 x20 x30)
    (h : ∀ x1 x2 x3, I x1 x2 x3 → VC P n c (thenP (fun t H => ∃ x1' x2' x3', I x1' x2' x3' ∧ μ x1' x2' x3' < μ x1 x2 x3 ∧ Sub t H (ov x1' x2' x3' ++ t0) (gv x1' x2' x3' ++ H0)) K) (ov x1 x2 x3 ++ t0) (gv x1 x2 x3 ++ H0)) : VC P n (.loop c) K t H :=
  vc_lp (σ := A × B × C) live keep (fun s => ov s.1 s.2.1 s.2.2) (fun s => gv s.1 s.2.1 s.2.2) (fun s => I s.1 s.2.1 s.2.2) (fun s => μ s.1 s.2.1 s.2.2) (x10, x20, x30) ht hH hs h0 fun s hi => vc_mono (h s.1 s.2.1 s.2.2 hi) fun e t H hk => by
    cases e <;> first | exact hk | (obtain ⟨x1', x2', x3', h1, h2, h3⟩ := hk; exact ⟨(x1', x2', x3'), h1, h2, h3⟩)
def runE (r : Int × Int) : List Value := [.int .i64 r.1, .int .i64 r.2]
theorem runsOk_of {l : List Mp} {ps : Pg} {n : Int} : runsOk l ps n = (mapsOk l && (memOk ps && inB n 0 4096)) := rfl
theorem pl_ok {l : List Mp} {d a : Int} {wt : Bool} (hm : MapsOk l) (h0 : 0 ≤ placeF l d a wt) : placeF l d a wt = mpPage l d (a / 128) wt * 128 + a % 128 ∧ 0 ≤ mpPage l d (a / 128) wt ∧ mpPage l d (a / 128) wt ≤ 63 ∧ 0 ≤ a ∧ a ≤ 131071 := by
  unfold placeF at *
  have hb := mpPage_bd hm d (a / 128) wt
  split at h0
  · omega
  · rename_i h
    have hv := mpPage_v hm (d := d) (v := a / 128) (wr := wt) (by omega)
    rw [if_neg h]
    exact ⟨rfl, by omega, by omega, by omega, by omega⟩
theorem pl_no {l : List Mp} {ps : Pg} {d a : Int} {wt : Bool} {m k : Nat} (hm : MapsOk l) (hps : MemOk ps) (hk : (k : Int) = min (m : Int) (128 - a % 128)) (hm0 : 0 < m) (ha : 0 ≤ a) (h : placeF l d a wt < 0 ∨ memInB ps (placeF l d a wt) k = false) : parts l ps.length d wt a m = none := by
  refine parts_none hm0 ?_
  unfold placeF at h
  by_cases h1 : mpPage l d (a / 128) wt < 0
  · exact .inl h1
  · rw [if_neg h1] at h
    right
    rcases h with h | h
    · omega
    · rcases Int.lt_or_le (mpPage l d (a / 128) wt) ps.length with h2 | h2
      · have : memInB ps (mpPage l d (a / 128) wt * 128 + a % 128) k = true := memInB_iff.2 ⟨hps, by omega, by omega, by omega, by omega⟩
        rw [this] at h; cases h
      · exact h2
theorem pl_yes {l : List Mp} {ps : Pg} {d a : Int} {wt : Bool} {m k : Nat} {x : Option (List (Int × Int))} {out : List (Int × Int)} (hm : MapsOk l) (hk : (k : Int) = min (m : Int) (128 - a % 128)) (hm0 : 0 < m) (h0 : 0 ≤ placeF l d a wt) (h1 : memInB ps (placeF l d a wt) k = true) (hx : x = (parts l ps.length d wt a m).map (out ++ ·)) : x = (parts l ps.length d wt (a + k) (m - k)).map ((out ++ [(placeF l d a wt, (k : Int))]) ++ ·) := by
  obtain ⟨e, p0, p1, p2, p3⟩ := pl_ok hm h0
  have hb := memInB_iff.1 h1
  rw [hx, parts_some hm0 p2 p0 (by omega) hk, map_step, e]
theorem rn_no {l : List Mp} {ps : Pg} {d a n : Int} {wt : Bool} (h : runs l ps d a n wt = none) : (runs l ps d a n wt).isSome = false ∧ ((runs l ps d a n wt).getD []).map runE = [] := by rw [h]; exact ⟨rfl, rfl⟩
theorem rn_yes {l : List Mp} {ps : Pg} {d a n : Int} {wt : Bool} {out : List (Int × Int)} (h : runs l ps d a n wt = some out) : (runs l ps d a n wt).isSome = true ∧ (runs l ps d a n wt).getD [] = out := by rw [h]; exact ⟨rfl, rfl⟩
theorem rn_bad {l : List Mp} {ps : Pg} {d a n : Int} {wt : Bool} (h : mapsOk l = false ∨ memOk ps = false ∨ inB n 0 4096 = false) : runs l ps d a n wt = none := by
  refine runs_not ?_
  unfold runsOk
  rcases h with h | h | h <;> rw [h] <;> simp
theorem rn_end {l : List Mp} {ps : Pg} {d a a1 n : Int} {wt : Bool} {m : Nat} {out : List (Int × Int)} (h : runs l ps d a n wt = (parts l ps.length d wt a1 m).map (out ++ ·)) (hm : ¬ 0 < (m : Int)) : runs l ps d a n wt = some out := by
  obtain rfl : m = 0 := by omega
  rw [h, parts_zero]; simp
set_option maxHeartbeats 4000000 in
theorem c_impl_runsOf {l : List Mp} {ps : Pg} {d a n : Int} {wt : Bool} (hl : l.length ≤ 1099511627776 := by first | assumption | omega) (hp : ps.length ≤ 1099511627776 := by first | assumption | omega) (ha : a ≤ 9223372036854775807 := by omega) : Con0 Tryz.prog 81 [.one (.sl 4 (l.map mpE)), .agg [.sl 1 (ps.map strE)], I d, I a, I n, B wt] (.tup [.one (.hs 0), B (runs l ps d a n wt).isSome]) [(0, .arr 139 2 (((runs l ps d a n wt).getD []).map runE))] := by
  refine con_i Tryz.func81 Tryz.ntmps81 (t := [(0, .one (.sl 4 (l.map mpE))), (1, .agg [.sl 1 (ps.map strE)]), (2, I d), (3, I a), (4, I n), (5, B wt)]) rfl ?_
  refine vc_sr ?_
  iterate 3 refine vo ?_
  refine vnt ?_
  refine vc_seq' ?_
  refine vc_sr ?_
  refine vo ?_
  refine voc c_impl_MappingsOk rfl rfl ?_
  iterate 2 refine vo ?_
  refine vsp (fun g1 => ?_) (fun g1 => ?_)
  · iterate 3 refine vof ?_
    iterate 2 refine vo ?_
    iterate 3 refine vof ?_
    refine vo ?_
    refine vnt ?_
    refine vc_then ?_
    refine vc_sr ?_
    iterate 2 refine vo ?_
    refine vnt ?_
    refine vc_ret ?_
    refine thn_r ?_
    have hno : runs l ps d a n wt = none := rn_bad (n := n) (.inl g1)
    refine fin_i [(0, none)] rfl (fz ?_) (fz ?_)
    · exact (rn_no hno).1
    · exact (rn_no hno).2
  · have hm := mapsOk_iff.1 g1
    refine von ?_
    refine vocn c_impl_MemoryOk rfl rfl ?_
    refine von ?_
    iterate 2 refine vo ?_
    refine vsp (fun g2 => ?_) (fun g2 => ?_)
    · iterate 3 refine vof ?_
      refine vo ?_
      refine vnt ?_
      refine vc_then ?_
      refine vc_sr ?_
      iterate 2 refine vo ?_
      refine vnt ?_
      refine vc_ret ?_
      refine thn_r ?_
      have hno : runs l ps d a n wt = none := rn_bad (n := n) (.inr (.inl g2))
      refine fin_i [(0, none)] rfl (fz ?_) (fz ?_)
      · exact (rn_no hno).1
      · exact (rn_no hno).2
    · have hps := memOk_iff.1 g2
      have hpl := hps.1
      refine von ?_
      refine vocn c_impl_between rfl rfl ?_
      refine von ?_
      refine vo ?_
      refine vnt ?_
      refine vc_if (fun g3 => ?_) (fun g3 => ?_)
      · refine vc_sr ?_
        iterate 2 refine vo ?_
        refine vnt ?_
        refine vc_ret ?_
        refine thn_r ?_
        have hno : runs l ps d a n wt = none := rn_bad (n := n) (.inr (.inr g3))
        refine fin_i [(0, none)] rfl (fz ?_) (fz ?_)
        · exact (rn_no hno).1
        · exact (rn_no hno).2
      · have hn := inB_iff.1 g3
        have hr : runsOk l ps n = true := by rw [runsOk_of, g1, g2, g3]; rfl
        obtain ⟨m0, rfl⟩ := Int.eq_ofNat_of_zero_le hn.1
        refine vc_skip ?_
        refine thn ?_
        refine vc_seq' ?_
        refine vc_sr ?_
        iterate 2 refine vo ?_
        refine vnt ?_
        refine vc_if (fun g4 => ?_) (fun g4 => ?_)
        · refine vc_sr ?_
          iterate 2 refine vo ?_
          refine vnt ?_
          refine vc_ret ?_
          refine thn_r ?_
          have hy : runs l ps d a (m0 : Int) wt = some [] := by rw [runs_is hr, show m0 = 0 by omega, parts_zero]
          refine fin_i [(0, none)] rfl (fz ?_) (fz ?_)
          · exact (rn_yes hy).1
          · rw [(rn_yes hy).2]; rfl
        · refine vc_skip ?_
          refine thn ?_
          refine vc_seq' ?_
          refine vc_sr ?_
          iterate 2 refine vo ?_
          refine vnt ?_
          refine vc_if (fun g5 => ?_) (fun g5 => ?_)
          · refine vc_sr ?_
            iterate 2 refine vo ?_
            refine vnt ?_
            refine vc_ret ?_
            refine thn_r ?_
            have hno : runs l ps d a (m0 : Int) wt = none := by rw [runs_is hr]; exact parts_neg (by omega) g5
            refine fin_i [(0, none)] rfl (fz ?_) (fz ?_)
            · exact (rn_no hno).1
            · exact (rn_no hno).2
          · refine vc_skip ?_
            refine thn ?_
            refine vc_sr ?_
            iterate 2 refine vo ?_
            refine vnt ?_
            refine vc_seq' ?_
            refine vc_block ?_
            refine vc_lp3 [0, 2, 5, 7] [56] (fun (out : List (Int × Int)) (a1 : Int) (m : Nat) => [(3, I a1), (4, I (m : Int)), (14, .one (.hs 7))]) (fun (out : List (Int × Int)) (a1 : Int) (m : Nat) => [(7, .arr 139 2 (out.map runE))]) (fun (out : List (Int × Int)) (a1 : Int) (m : Nat) => 0 ≤ a1 ∧ a1 ≤ 9223372036854775807 ∧ out.length + m ≤ 4096 ∧ runs l ps d a m0 wt = (parts l ps.length d wt a1 m).map (out ++ ·)) (fun (out : List (Int × Int)) (a1 : Int) (m : Nat) => m) [] a m0 rfl rfl (sub_i [(7, some 272)] (fz ?_) (fz ?_)) ?_ fun out a1 m hI => ?_
            · first | trivial | rfl
            · first | trivial | rfl
            · exact ⟨by omega, by omega, by simp; omega, by rw [runs_is hr]; exact (map_nil_append _).symm⟩
            refine vc_nf rfl rfl ?_
            refine vc_seq' ?_
            refine vc_sr ?_
            iterate 2 refine vo ?_
            refine vnt ?_
            refine vc_if (fun g6 => ?_) (fun g6 => ?_)
            · obtain ⟨k, hk⟩ : ∃ k : Nat, (k : Int) = min (m : Int) (128 - a1 % 128) := ⟨(min (m : Int) (128 - a1 % 128)).toNat, by omega⟩
              refine vc_skip ?_
              refine thn ?_
              refine vc_block ?_
              refine vc_sr ?_
              iterate 4 refine vo ?_
              refine voc c_impl_place rfl rfl ?_
              refine vo ?_
              refine vnt ?_
              refine vc_sr ?_
              iterate 3 refine vo ?_
              try refine veq (Int.tmod_eq_emod_of_nonneg (by omega)) ?_
              refine vo ?_
              try refine vwr ?_
              refine vo ?_
              refine veq hk.symm ?_
              refine vo ?_
              refine vnt ?_
              refine vc_seq' ?_
              refine vc_sr ?_
              iterate 3 refine vo ?_
              refine vsp (fun g7 => ?_) (fun g7 => ?_)
              · iterate 5 refine vof ?_
                refine vo ?_
                refine vnt ?_
                refine vc_then ?_
                refine vc_sr ?_
                iterate 2 refine vo ?_
                refine vnt ?_
                refine vc_ret ?_
                refine thn_r ?_
                refine inB_r ?_
                refine thn_r ?_
                refine inB_r ?_
                refine thn_r ?_
                have hno : runs l ps d a (m0 : Int) wt = none := by rw [hI.2.2.2, pl_no hm hps hk (by omega) hI.1 (.inl g7)]; rfl
                refine fin_i [(0, none)] rfl (fz ?_) (fz ?_)
                · exact (rn_no hno).1
                · exact (rn_no hno).2
              · iterate 3 refine von ?_
                refine vocn c_impl_within rfl rfl ?_
                refine von ?_
                refine vo ?_
                refine vnt ?_
                refine vc_if (fun g8 => ?_) (fun g8 => ?_)
                · refine vc_sr ?_
                  iterate 2 refine vo ?_
                  refine vnt ?_
                  refine vc_ret ?_
                  refine thn_r ?_
                  refine inB_r ?_
                  refine thn_r ?_
                  refine inB_r ?_
                  refine thn_r ?_
                  have hno : runs l ps d a (m0 : Int) wt = none := by rw [hI.2.2.2, pl_no hm hps hk (by omega) hI.1 (.inr g8)]; rfl
                  refine fin_i [(0, none)] rfl (fz ?_) (fz ?_)
                  · exact (rn_no hno).1
                  · exact (rn_no hno).2
                · have hpl2 := pl_ok hm g7
                  refine vc_skip ?_
                  refine thn ?_
                  refine vc_sr ?_
                  iterate 7 refine vo ?_
                  refine vnt ?_
                  refine vc_sr ?_
                  iterate 3 refine vo ?_
                  try refine vwr ?_
                  refine vo ?_
                  refine vnt ?_
                  refine vc_sr ?_
                  iterate 3 refine vo ?_
                  try refine vwr ?_
                  refine vo ?_
                  refine vnt ?_
                  refine vc_sr ?_
                  iterate 3 refine vo ?_
                  refine vsp (fun g9 => ?_) (fun g9 => ?_)
                  · iterate 2 refine von ?_
                    refine vo ?_
                    refine vnt ?_
                    refine vc_if (fun g10 => ?_) (fun g10 => ?_)
                    · refine vc_sr ?_
                      iterate 2 refine vo ?_
                      refine vnt ?_
                      refine vc_ret ?_
                      refine inB_r ?_
                      refine thn_r ?_
                      refine inB_r ?_
                      refine thn_r ?_
                      exfalso; omega
                    · refine vc_skip ?_
                      refine inB_n ?_
                      refine thn ?_
                      refine ⟨out ++ [(placeF l d a1 wt, (k : Int))], a1 + k, m - k, ?_, ?_, sub_i [(7, some (8 * 61))] (fz ?_) (fz ?_)⟩
                      · exact ⟨by omega, by omega, by simp; omega, pl_yes hm hk (by omega) g7 g8 hI.2.2.2⟩
                      · omega
                      · first | trivial | rfl | omega
                      · first | trivial | rfl | (simp [runE])
                  · iterate 2 refine vof ?_
                    refine vo ?_
                    refine vnt ?_
                    refine vc_else ?_
                    refine vc_skip ?_
                    refine inB_n ?_
                    refine thn ?_
                    refine ⟨out ++ [(placeF l d a1 wt, (k : Int))], a1 + k, m - k, ?_, ?_, sub_i [(7, some (8 * 61))] (fz ?_) (fz ?_)⟩
                    · exact ⟨by omega, by omega, by simp; omega, pl_yes hm hk (by omega) g7 g8 hI.2.2.2⟩
                    · omega
                    · first | trivial | rfl | omega
                    · first | trivial | rfl | (simp [runE])
            · refine vc_exit ?_
              refine thn_x ?_
              refine thn_x ?_
              refine inB_x ?_
              refine thn ?_
              refine vc_sr ?_
              iterate 3 refine vo ?_
              refine vnt ?_
              refine vc_ret ?_
              have hy := rn_end hI.2.2.2 (by omega)
              refine fin_i [(0, some 7)] rfl (fz ?_) (fz ?_)
              · exact (rn_yes hy).1
              · rw [(rn_yes hy).2]
theorem pg_out {l : List Mp} {ps : Pg} {d a : Int} {wt : Bool} {m : Nat} (hps : MemOk ps) (hm0 : 0 < m) (h0 : 0 ≤ mpPage l d (a / 128) wt) (h : memInB ps (mpPage l d (a / 128) wt * 128) 128 = false) : parts l ps.length d wt a m = none := by
  refine parts_none hm0 (.inr ?_)
  rcases Int.lt_or_le (mpPage l d (a / 128) wt) ps.length with h2 | h2
  · have : memInB ps (mpPage l d (a / 128) wt * 128) 128 = true := memInB_iff.2 ⟨hps, by omega, by omega, by omega, by omega⟩
    rw [this] at h; cases h
  · exact h2
theorem pg_in {l : List Mp} {ps : Pg} {d a : Int} {wt : Bool} {m k : Nat} {x : Option (List (Int × Int))} {out : List (Int × Int)} (hk : (k : Int) = min (m : Int) (128 - a % 128)) (hm0 : 0 < m) (ha : 0 ≤ a) (h0 : 0 ≤ mpPage l d (a / 128) wt) (h1 : memInB ps (mpPage l d (a / 128) wt * 128) 128 = true) (hx : x = (parts l ps.length d wt a m).map (out ++ ·)) : x = (parts l ps.length d wt (a + k) (m - k)).map ((out ++ [(mpPage l d (a / 128) wt * 128 + a % 128, (k : Int))]) ++ ·) := by
  have hb := memInB_iff.1 h1
  rw [hx, parts_some hm0 ha h0 (by omega) hk, map_step]
theorem pg_v {l : List Mp} {d a : Int} {wt : Bool} (hm : MapsOk l) (h0 : 0 ≤ mpPage l d (a / 128) wt) : mpPage l d (a / 128) wt ≤ 63 ∧ a ≤ 131071 := by
  have := mpPage_bd hm d (a / 128) wt
  have := mpPage_v hm h0
  omega
theorem rn_no2 {l : List Mp} {ps : Pg} {d a n : Int} {wt : Bool} (h : runs l ps d a n wt = none) : (runs l ps d a n wt).isSome = false ∧ (runs l ps d a n wt).getD [] = [] := by rw [h]; exact ⟨rfl, rfl⟩
set_option maxHeartbeats 4000000 in
theorem c_spec_l17Parts {l : List Mp} {ps : Pg} {d a n : Int} {wt : Bool} (hl : l.length ≤ 1099511627776 := by first | assumption | omega) (hp : ps.length ≤ 1099511627776 := by first | assumption | omega) (ha : a ≤ 9223372036854775807 := by omega) : Con0 Tryz.prog 121 [.one (.sl 4 (l.map mpE)), .agg [.sl 1 (ps.map strE)], I d, I a, I n, B wt] (.tup [.one (.hs 0), .one (.hs 1), B (runs l ps d a n wt).isSome]) [(0, .arr 3 1 ((((runs l ps d a n wt).getD []).map (·.1)).map intE)), (1, .arr 3 1 ((((runs l ps d a n wt).getD []).map (·.2)).map intE))] := by
  refine con_i Tryz.func121 Tryz.ntmps121 (t := [(0, .one (.sl 4 (l.map mpE))), (1, .agg [.sl 1 (ps.map strE)]), (2, I d), (3, I a), (4, I n), (5, B wt)]) rfl ?_
  refine vc_sr ?_
  iterate 4 refine vo ?_
  refine vnt ?_
  refine vc_sr ?_
  iterate 2 refine vo ?_
  refine vnt ?_
  refine vc_sr ?_
  iterate 2 refine vo ?_
  refine vnt ?_
  refine vc_seq' ?_
  refine vc_sr ?_
  refine vo ?_
  refine voc c_spec_MappingsOk rfl rfl ?_
  iterate 2 refine vo ?_
  refine vsp (fun g1 => ?_) (fun g1 => ?_)
  · iterate 3 refine vof ?_
    iterate 2 refine vo ?_
    iterate 3 refine vof ?_
    refine vo ?_
    refine vnt ?_
    refine vc_then ?_
    refine vc_sr ?_
    iterate 5 refine vo ?_
    refine vnt ?_
    refine vc_ret ?_
    refine thn_r ?_
    have hno : runs l ps d a n wt = none := rn_bad (n := n) (.inl g1)
    refine fin_i [(0, some 160), (1, some 168)] rfl (fz ?_) (fz ?_)
    · exact (rn_no2 hno).1
    · rw [(rn_no2 hno).2]; first | trivial | rfl | exact ⟨rfl, rfl⟩
  · have hm := mapsOk_iff.1 g1
    refine von ?_
    refine vocn c_spec_MemoryOk rfl rfl ?_
    refine von ?_
    iterate 2 refine vo ?_
    refine vsp (fun g2 => ?_) (fun g2 => ?_)
    · iterate 3 refine vof ?_
      refine vo ?_
      refine vnt ?_
      refine vc_then ?_
      refine vc_sr ?_
      iterate 5 refine vo ?_
      refine vnt ?_
      refine vc_ret ?_
      refine thn_r ?_
      have hno : runs l ps d a n wt = none := rn_bad (n := n) (.inr (.inl g2))
      refine fin_i [(0, some 160), (1, some 168)] rfl (fz ?_) (fz ?_)
      · exact (rn_no2 hno).1
      · rw [(rn_no2 hno).2]; first | trivial | rfl | exact ⟨rfl, rfl⟩
    · have hps := memOk_iff.1 g2
      have hpl := hps.1
      refine von ?_
      refine vocn c_spec_l01In rfl rfl ?_
      refine von ?_
      refine vo ?_
      refine vnt ?_
      refine vc_if (fun g3 => ?_) (fun g3 => ?_)
      · refine vc_sr ?_
        iterate 5 refine vo ?_
        refine vnt ?_
        refine vc_ret ?_
        refine thn_r ?_
        have hno : runs l ps d a n wt = none := rn_bad (n := n) (.inr (.inr g3))
        refine fin_i [(0, some 160), (1, some 168)] rfl (fz ?_) (fz ?_)
        · exact (rn_no2 hno).1
        · rw [(rn_no2 hno).2]; first | trivial | rfl | exact ⟨rfl, rfl⟩
      · have hn := inB_iff.1 g3
        have hr : runsOk l ps n = true := by rw [runsOk_of, g1, g2, g3]; rfl
        obtain ⟨m0, rfl⟩ := Int.eq_ofNat_of_zero_le hn.1
        refine vc_skip ?_
        refine thn ?_
        refine vc_seq' ?_
        refine vc_block ?_
        refine vc_lp3 [0, 2, 5, 7] [56] (fun (out : List (Int × Int)) (a1 : Int) (m : Nat) => [(3, I a1), (4, I (m : Int)), (15, .one (.hs 6)), (16, .one (.hs 7))]) (fun (out : List (Int × Int)) (a1 : Int) (m : Nat) => [(6, .arr 3 1 ((out.map (·.1)).map intE)), (7, .arr 3 1 ((out.map (·.2)).map intE))]) (fun (out : List (Int × Int)) (a1 : Int) (m : Nat) => a1 ≤ 9223372036854775807 ∧ out.length + m ≤ 4096 ∧ runs l ps d a m0 wt = (parts l ps.length d wt a1 m).map (out ++ ·)) (fun (out : List (Int × Int)) (a1 : Int) (m : Nat) => m) [] a m0 rfl rfl (sub_i [(6, some 160), (7, some 168)] (fz ?_) (fz ?_)) ?_ fun out a1 m hI => ?_
        · first | trivial | rfl
        · first | trivial | rfl | exact ⟨rfl, rfl⟩
        · exact ⟨by omega, by simp; omega, by rw [runs_is hr]; exact (map_nil_append _).symm⟩
        refine vc_nf rfl rfl ?_
        refine vc_seq' ?_
        refine vc_sr ?_
        iterate 2 refine vo ?_
        refine vnt ?_
        refine vc_if (fun g4 => ?_) (fun g4 => ?_)
        · refine vc_skip ?_
          refine thn ?_
          refine vc_block ?_
          refine vc_sr ?_
          refine vo ?_
          refine vnt ?_
          refine vc_seq' ?_
          refine vc_sr ?_
          iterate 2 refine vo ?_
          refine vnt ?_
          refine vc_if (fun g5 => ?_) (fun g5 => ?_)
          · obtain ⟨k, hk⟩ : ∃ k : Nat, (k : Int) = min (m : Int) (128 - a1 % 128) := ⟨(min (m : Int) (128 - a1 % 128)).toNat, by omega⟩
            refine vc_region ?_
            iterate 4 refine vo ?_
            try refine veq (IntWalk.i64_quo _ _ (by omega)) ?_
            refine vo ?_
            refine voc c_spec_l17Page rfl rfl ?_
            refine vo ?_
            refine vnt ?_
            refine vc_sr ?_
            iterate 2 refine vo ?_
            try refine veq (Int.tmod_eq_emod_of_nonneg (by omega)) ?_
            refine vo ?_
            refine vnt ?_
            refine vc_seq' ?_
            refine vc_sr ?_
            iterate 3 refine vo ?_
            refine vsp (fun g6 => ?_) (fun g6 => ?_)
            · iterate 5 refine vof ?_
              refine vo ?_
              refine vnt ?_
              refine vc_then ?_
              refine vc_sr ?_
              iterate 5 refine vo ?_
              refine vnt ?_
              refine vc_ret ?_
              refine thn_r ?_
              refine inB_r ?_
              refine thn_r ?_
              refine inB_r ?_
              refine thn_r ?_
              have hno : runs l ps d a (m0 : Int) wt = none := by rw [hI.2.2, parts_none (by omega) (.inl g6)]; rfl
              refine fin_i [(0, some 464), (1, some 472)] rfl (fz ?_) (fz ?_)
              · exact (rn_no2 hno).1
              · rw [(rn_no2 hno).2]; first | trivial | rfl | exact ⟨rfl, rfl⟩
            · have hv := pg_v hm g6
              iterate 3 refine von ?_
              try refine vwr ?_
              refine vocn c_spec_l16Within rfl rfl ?_
              refine von ?_
              refine vo ?_
              refine vnt ?_
              refine vc_if (fun g7 => ?_) (fun g7 => ?_)
              · refine vc_sr ?_
                iterate 5 refine vo ?_
                refine vnt ?_
                refine vc_ret ?_
                refine thn_r ?_
                refine inB_r ?_
                refine thn_r ?_
                refine inB_r ?_
                refine thn_r ?_
                have hno : runs l ps d a (m0 : Int) wt = none := by rw [hI.2.2, pg_out hps (by omega) g6 g7]; rfl
                refine fin_i [(0, some 464), (1, some 472)] rfl (fz ?_) (fz ?_)
                · exact (rn_no2 hno).1
                · rw [(rn_no2 hno).2]; first | trivial | rfl | exact ⟨rfl, rfl⟩
              · refine vc_skip ?_
                refine thn ?_
                refine vc_sr ?_
                iterate 3 refine vo ?_
                try refine vwr ?_
                refine vo ?_
                refine veq hk.symm ?_
                refine vo ?_
                refine vnt ?_
                refine vc_sr ?_
                iterate 3 refine vo ?_
                try refine vwr ?_
                iterate 2 refine vo ?_
                try refine vwr ?_
                iterate 3 refine vo ?_
                refine vnt ?_
                refine vc_sr ?_
                iterate 5 refine vo ?_
                refine vnt ?_
                refine vc_sr ?_
                iterate 3 refine vo ?_
                try refine vwr ?_
                refine vo ?_
                refine vnt ?_
                refine vc_region ?_
                iterate 3 refine vo ?_
                try refine vwr ?_
                refine vo ?_
                refine vnil ?_
                refine inB_n ?_
                refine thn ?_
                refine ⟨out ++ [(mpPage l d (a1 / 128) wt * 128 + a1 % 128, (k : Int))], a1 + k, m - k, ?_, ?_, sub_i [(6, some 560), (7, some 592)] (fz ?_) (fz ?_)⟩
                · exact ⟨by omega, by simp; omega, pg_in hk (by omega) g5 g6 g7 hI.2.2⟩
                · omega
                · first | trivial | rfl | omega
                · first | trivial | rfl | (simp [intE])
          · refine vc_skip ?_
            refine thn ?_
            refine vc_sr ?_
            iterate 2 refine vo ?_
            try refine veq (Int.tmod_eq_emod_of_nonneg (by omega)) ?_
            refine vo ?_
            refine vnt ?_
            refine vc_seq' ?_
            refine vc_sr ?_
            iterate 3 refine vo ?_
            refine vsp (fun g8 => ?_) (fun g8 => ?_)
            · iterate 5 refine vof ?_
              refine vo ?_
              refine vnt ?_
              refine vc_then ?_
              refine vc_sr ?_
              iterate 5 refine vo ?_
              refine vnt ?_
              refine vc_ret ?_
              refine thn_r ?_
              refine inB_r ?_
              refine thn_r ?_
              refine inB_r ?_
              refine thn_r ?_
              have hno : runs l ps d a (m0 : Int) wt = none := by rw [hI.2.2, parts_neg (by omega) g5]; rfl
              refine fin_i [(0, some 464), (1, some 472)] rfl (fz ?_) (fz ?_)
              · exact (rn_no2 hno).1
              · rw [(rn_no2 hno).2]; first | trivial | rfl | exact ⟨rfl, rfl⟩
            · exfalso; omega
        · refine vc_exit ?_
          refine thn_x ?_
          refine thn_x ?_
          refine inB_x ?_
          refine thn ?_
          refine vc_sr ?_
          iterate 5 refine vo ?_
          refine vnt ?_
          refine vc_ret ?_
          have hy := rn_end hI.2.2 (by omega)
          refine fin_i [(0, some 6), (1, some 7)] rfl (fz ?_) (fz ?_)
          · exact (rn_yes hy).1
          · rw [(rn_yes hy).2]; first | trivial | rfl | exact ⟨rfl, rfl⟩
end Go.Proofs.YtfcmcedeapgdcaaGreat
end
section
namespace Go.Proofs.YtfcmcedeapgdcaaGreat
open Go Go.RowKit Go.Vc
set_option linter.unusedVariables false
set_option linter.unusedSimpArgs false
set_option linter.unnecessarySimpa false
section
variable {P : Program} [TyEnv P] {n : Nat} {ops os : List Oper} {dr : Bool} {K : Tm → Hp → Prop} {t : Tm} {H : Hp} {fp : List Fp} {d : Nat}
theorem vlb {s : ByteArray} (h : Vd P n ops dr K os ((d, .one (.v (.int .i64 (s.size : Int)))) :: t) H fp) : Vd P n ops dr K os ((d, .one (.v (.int .i64 ((bytesE s).length : Int)))) :: t) H fp := by
  rw [bytesE_len]; exact h
end
theorem pg_at {ps : Pg} {a : Int} (h0 : 0 ≤ a) (h : a / 128 < (ps.length : Int)) : at' ps (a / 128).toNat = pageAt ps a := by
  unfold at' pageAt
  rw [List.getD_eq_getElem?_getD, List.getElem?_eq_getElem (show (a / 128).toNat < ps.length by omega)]; rfl
theorem seg_in {ps : Pg} {a n : Int} (hm : MemOk ps) (hs : Seg ps.length (a, n)) : memInB ps a n = true := by
  obtain ⟨h0, h1, h2, h3⟩ := hs
  simp only at h0 h1 h2 h3
  exact memInB_iff.2 ⟨hm, by omega, by omega, by omega, by omega⟩
theorem seg_rd {ps : Pg} {a n k : Int} (hm : MemOk ps) (hs : Seg ps.length (a, n)) (hk : k = a % 128 + n) : (at' ps (a / 128).toNat).extract (a % 128).toNat k.toNat = readSeg ps (a, n) := by
  obtain ⟨h0, h1, h2, h3⟩ := hs
  simp only at h0 h1 h2 h3
  rw [pg_at h0 h3, readSeg]
  simp only
  rw [show (a % 128).toNat + n.toNat = k.toNat by omega]
theorem seg_pg {ps : Pg} {a n : Int} (hm : MemOk ps) (hs : Seg ps.length (a, n)) : (at' ps (a / 128).toNat).size = 128 := by
  obtain ⟨h0, h1, h2, h3⟩ := hs
  obtain ⟨g, e, he⟩ := hm.page h0 h3
  rw [pg_at h0 h3]; exact he
theorem seg_sz {ps : Pg} {a n : Int} (hm : MemOk ps) (hs : Seg ps.length (a, n)) : ((readSeg ps (a, n)).size : Int) = n := by
  rw [readSeg_size hm hs]
  have := hs.2.1
  simp only at this ⊢
  omega
theorem rd_go {ps : Pg} {a b n : Int} {o : ByteArray} (hm : MemOk ps) (hs : Seg ps.length (a, n)) (h : (o = ⟨#[]⟩ ∧ b = a) ∨ (o = readSeg ps (a, n) ∧ b = a + n)) (g : (o.size : Int) < n) : o = ⟨#[]⟩ ∧ a = b := by
  rcases h with h | ⟨rfl, rfl⟩
  · exact ⟨h.1, h.2.symm⟩
  · have := seg_sz hm hs
    omega
theorem rd_end {ps : Pg} {a b n : Int} {o : ByteArray} (hs : Seg ps.length (a, n)) (h : (o = ⟨#[]⟩ ∧ b = a) ∨ (o = readSeg ps (a, n) ∧ b = a + n)) (g : n ≤ (o.size : Int)) : o = readSeg ps (a, n) := by
  rcases h with ⟨rfl, rfl⟩ | h
  · have := hs.2.1
    have e : (ByteArray.size ⟨#[]⟩ : Int) = 0 := rfl
    simp only at this
    omega
  · exact h.1
set_option maxHeartbeats 4000000 in
theorem c_impl_ReadMemory {ps : Pg} {a n : Int} (hm : MemOk ps := by assumption) (hs : Seg ps.length (a, n) := by assumption) : Con0 Tryz.prog 82 [.agg [.sl 1 (ps.map strE)], I a, I n] (.tup [Z (readSeg ps (a, n)), B true]) [] := by
  have hw := seg_in hm hs
  have hz := seg_sz hm hs
  have hg := seg_pg hm hs
  have hs1 : 0 ≤ a ∧ 1 ≤ n ∧ a % 128 + n ≤ 128 ∧ a / 128 < (ps.length : Int) := hs
  have hl := hm.1
  have hb0 : (bytesE ⟨#[]⟩).length = 0 := rfl
  have hb1 := bytesE_len (readSeg ps (a, n))
  have he : ByteArray.size ⟨#[]⟩ = 0 := rfl
  refine con_i Tryz.func82 Tryz.ntmps82 (t := [(0, .agg [.sl 1 (ps.map strE)]), (1, I a), (2, I n)]) rfl ?_
  refine vc_sr ?_
  iterate 3 refine vo ?_
  refine vnt ?_
  refine vc_seq' ?_
  refine vc_sr ?_
  iterate 3 refine vo ?_
  refine voc c_impl_within rfl rfl ?_
  refine vo ?_
  refine vnt ?_
  refine vc_if (fun g1 => ?_) (fun g1 => ?_)
  · rw [hw] at g1; cases g1
  · refine vc_skip ?_
    refine thn ?_
    refine vc_sr ?_
    iterate 3 refine vo ?_
    refine vnt ?_
    refine vc_seq' ?_
    refine vc_block ?_
    refine vc_lp2 [2, 3] [24] (fun (o : ByteArray) (b : Int) => [(1, I b), (8, .one (.hs 7))]) (fun (o : ByteArray) (b : Int) => [(7, .arr 5 1 (bytesE o))]) (fun (o : ByteArray) (b : Int) => (o = ⟨#[]⟩ ∧ b = a) ∨ (o = readSeg ps (a, n) ∧ b = a + n)) (fun (o : ByteArray) (b : Int) => (n - o.size).toNat) ⟨#[]⟩ a rfl rfl (sub_i [(7, some 144)] (fz ?_) (fz ?_)) ?_ fun o b hI => ?_
    · first | trivial | rfl
    · first | trivial | rfl
    · exact .inl ⟨rfl, rfl⟩
    refine vc_nf rfl rfl ?_
    refine vc_seq' ?_
    refine vc_sr ?_
    iterate 2 refine vo ?_
    try first | refine vlb ?_ | refine vln ?_
    iterate 2 refine vo ?_
    refine vnt ?_
    refine vc_if (fun g2 => ?_) (fun g2 => ?_)
    · obtain ⟨rfl, rfl⟩ := rd_go hm hs hI g2
      refine vc_skip ?_
      refine thn ?_
      refine vc_block ?_
      refine vc_sr ?_
      iterate 4 refine vo ?_
      try refine veq (IntWalk.i64_quo _ _ (by omega)) ?_
      refine vo ?_
      try with_reducible (first | refine vep ?_ | refine vpt ?_)
      iterate 2 refine vo ?_
      refine vnt ?_
      refine vc_sr ?_
      iterate 2 refine vo ?_
      try refine veq (Int.tmod_eq_emod_of_nonneg (by omega)) ?_
      refine vo ?_
      refine vnt ?_
      refine vc_sr ?_
      iterate 5 refine vo ?_
      try refine vwr ?_
      iterate 2 refine vo ?_
      try first | refine vlb ?_ | refine vln ?_
      refine veq (show (ByteArray.size ⟨#[]⟩ : Int) = 0 from rfl) ?_
      refine vo ?_
      try refine vwr ?_
      iterate 2 refine vo ?_
      refine vstr (seg_rd hm hs (by omega)) ?_
      refine vo ?_
      refine vnt ?_
      refine vc_sr ?_
      iterate 4 refine vo ?_
      refine vnt ?_
      refine vc_region ?_
      iterate 3 refine vo ?_
      refine veq hz ?_
      refine vo ?_
      try refine vwr ?_
      refine vo ?_
      refine vnil ?_
      refine inB_n ?_
      refine thn ?_
      refine ⟨readSeg ps (a, n), a + n, ?_, ?_, sub_i [(7, some 344)] (fz ?_) (fz ?_)⟩
      · exact .inr ⟨rfl, rfl⟩
      · rw [hz, show ((ByteArray.size ⟨#[]⟩ : Nat) : Int) = 0 from rfl]; omega
      · first | trivial | rfl
      · first | trivial | rfl | (simp [bytesE_nil])
    · obtain rfl := rd_end hs hI g2
      refine vc_exit ?_
      refine thn_x ?_
      refine thn_x ?_
      refine inB_x ?_
      refine thn ?_
      refine vc_sr ?_
      iterate 4 refine vo ?_
      refine vnt ?_
      refine vc_ret ?_
      refine fin_i [] rfl (fz ?_) trivial
      rw [ofE_bytesE]
      try exact ⟨rfl, rfl⟩
theorem seg_wr {ps : Pg} {a : Int} {S : ByteArray} (hs : Seg ps.length (a, (S.size : Int))) : (writeSeg ps a S).map strE = (ps.map strE).set (a / 128).toNat [.string (putB (at' ps (a / 128).toNat) (a % 128).toNat S)] := by
  obtain ⟨h0, h1, h2, h3⟩ := hs
  rw [pg_at h0 h3, writeSeg, List.map_set]; rfl
theorem seg_wr2 {ps : Pg} {a : Int} {S : ByteArray} (hm : MemOk ps) (hs : Seg ps.length (a, (S.size : Int))) : (writeSeg ps a S).map strE = (ps.map strE).set (a / 128).toNat [.string (putBF (at' ps (a / 128).toNat) (a % 128) S)] := by
  rw [seg_wr hs]
  have hg := seg_pg hm hs
  obtain ⟨h0, h1, h2, h3⟩ := hs
  simp only at h2
  have e : (a % 128) = ((a % 128).toNat : Nat) := by omega
  rw [show putBF (at' ps (a / 128).toNat) (a % 128) S = putB (at' ps (a / 128).toNat) (a % 128).toNat S by
    conv => lhs; rw [e]
    exact putBF_in (by omega)]
theorem ex_full (S : ByteArray) : S.extract (Int.toNat (S.size : Nat)) S.size = ⟨#[]⟩ := ba_full S
theorem ex_all (S : ByteArray) : S.extract (Int.toNat 0) (Int.toNat (S.size : Nat)) = S := ba_all S
set_option maxHeartbeats 4000000 in
theorem c_impl_WriteMemory {ps : Pg} {a : Int} {S : ByteArray} (hm : MemOk ps := by assumption) (hs : Seg ps.length (a, (S.size : Int)) := by assumption) : Con0 Tryz.prog 132 [.agg [.sl 1 (ps.map strE)], I a, Z S] (.tup [.agg [.hs 0], B true]) [(0, .arr 9 1 ((writeSeg ps a S).map strE))] := by
  have hw := seg_in hm hs
  have hg := seg_pg hm hs
  have hs1 : 0 ≤ a ∧ 1 ≤ (S.size : Int) ∧ a % 128 + S.size ≤ 128 ∧ a / 128 < (ps.length : Int) := hs
  have hl := hm.1
  have he : ByteArray.size ⟨#[]⟩ = 0 := rfl
  have hs2 : S.size ≤ 1099511627776 := by omega
  have hg2 : (at' ps (a / 128).toNat).size ≤ 1099511627776 := by omega
  refine con_i Tryz.func132 Tryz.ntmps132 (t := [(0, .agg [.sl 1 (ps.map strE)]), (1, I a), (2, Z S)]) rfl ?_
  refine vc_sr ?_
  iterate 3 refine vo ?_
  refine vnt ?_
  refine vc_sr ?_
  refine vo ?_
  refine voc c_impl_copyMemory rfl rfl ?_
  iterate 2 refine vo ?_
  refine vnt ?_
  refine vc_seq' ?_
  refine vc_sr ?_
  iterate 4 refine vo ?_
  refine voc c_impl_within rfl rfl ?_
  refine vo ?_
  refine vnt ?_
  refine vc_if (fun g1 => ?_) (fun g1 => ?_)
  · rw [hw] at g1; cases g1
  · refine vc_skip ?_
    refine thn ?_
    refine vc_seq' ?_
    refine vc_block ?_
    refine vc_lp3 [6, 8] [48, 64] (fun (q : Pg) (b : Int) (s : ByteArray) => [(1, I b), (2, Z s)]) (fun (q : Pg) (b : Int) (s : ByteArray) => [(96, .arr 9 1 (q.map strE))]) (fun (q : Pg) (b : Int) (s : ByteArray) => (q = ps ∧ b = a ∧ s = S) ∨ (q = writeSeg ps a S ∧ b = a + S.size ∧ s = ⟨#[]⟩)) (fun (q : Pg) (b : Int) (s : ByteArray) => s.size) ps a S rfl rfl (sub_i [] (fz ?_) (fz ?_)) ?_ fun q b s hI => ?_
    · first | trivial | rfl
    · first | trivial | rfl
    · exact .inl ⟨rfl, rfl, rfl⟩
    refine vc_nf rfl rfl ?_
    refine vc_seq' ?_
    refine vc_sr ?_
    iterate 3 refine vo ?_
    refine vnt ?_
    refine vc_if (fun g2 => ?_) (fun g2 => ?_)
    · obtain ⟨rfl, rfl, rfl⟩ : ps = q ∧ a = b ∧ S = s := by rcases hI with h | h <;> first | exact ⟨h.1.symm, h.2.1.symm, h.2.2.symm⟩ | (exfalso; rw [h.2.2] at g2; simp at g2; omega)
      refine vc_skip ?_
      refine thn ?_
      refine vc_block ?_
      refine vc_sr ?_
      iterate 4 refine vo ?_
      try refine veq (IntWalk.i64_quo _ _ (by omega)) ?_
      refine vo ?_
      try with_reducible (first | refine vep ?_ | refine vpt ?_)
      iterate 3 refine vo ?_
      refine vnt ?_
      refine vc_sr ?_
      iterate 3 refine vo ?_
      try refine veq (Int.tmod_eq_emod_of_nonneg (by omega)) ?_
      iterate 4 refine vo ?_
      refine vnt ?_
      refine vc_sr ?_
      iterate 4 refine vo ?_
      try refine veq (IntWalk.i64_quo _ _ (by omega)) ?_
      iterate 3 refine vo ?_
      try with_reducible (first | refine vep ?_ | refine vpt ?_)
      refine vo ?_
      refine vnt ?_
      refine vc_sr ?_
      iterate 3 refine vo ?_
      refine vstr (ex_full S) ?_
      refine vo ?_
      refine vnt ?_
      refine vc_region ?_
      iterate 3 refine vo ?_
      try refine vwr ?_
      refine vo ?_
      refine vnil ?_
      refine inB_n ?_
      refine thn ?_
      refine ⟨writeSeg ps a S, a + S.size, ⟨#[]⟩, ?_, ?_, sub_i [] (fz ?_) (fz ?_)⟩
      · exact .inr ⟨rfl, rfl, rfl⟩
      · omega
      · first | trivial | rfl
      · first | exact seg_wr hs | exact seg_wr2 hm hs
    · obtain rfl : q = writeSeg ps a S := by rcases hI with h | h <;> first | exact h.1 | (exfalso; rw [h.2.2] at g2; omega)
      refine vc_exit ?_
      refine thn_x ?_
      refine thn_x ?_
      refine inB_x ?_
      refine thn ?_
      refine vc_sr ?_
      iterate 3 refine vo ?_
      refine vnt ?_
      refine vc_ret ?_
      refine fin_i [(0, some 96)] rfl (fz ?_) (fz ?_) <;> first | trivial | rfl
set_option maxHeartbeats 4000000 in
theorem c_spec_WriteMemory {ps : Pg} {a : Int} {S : ByteArray} (hm : MemOk ps := by assumption) (hs : Seg ps.length (a, (S.size : Int)) := by assumption) : Con0 Tryz.prog 122 [.agg [.sl 1 (ps.map strE)], I a, Z S] (.tup [.agg [.hs 0], B true]) [(0, .arr 9 1 ((writeSeg ps a S).map strE))] := by
  have hw := seg_in hm hs
  have hg := seg_pg hm hs
  have hs1 : 0 ≤ a ∧ 1 ≤ (S.size : Int) ∧ a % 128 + S.size ≤ 128 ∧ a / 128 < (ps.length : Int) := hs
  have hl := hm.1
  have he : ByteArray.size ⟨#[]⟩ = 0 := rfl
  have hs2 : S.size ≤ 1099511627776 := by omega
  have hg2 : (at' ps (a / 128).toNat).size ≤ 1099511627776 := by omega
  refine con_i Tryz.func122 Tryz.ntmps122 (t := [(0, .agg [.sl 1 (ps.map strE)]), (1, I a), (2, Z S)]) rfl ?_
  refine vc_sr ?_
  iterate 3 refine vo ?_
  refine vnt ?_
  refine vc_sr ?_
  refine vo ?_
  refine voc c_spec_l16Copy rfl rfl ?_
  iterate 2 refine vo ?_
  refine vnt ?_
  refine vc_seq' ?_
  refine vc_sr ?_
  iterate 4 refine vo ?_
  refine voc c_spec_l16Within rfl rfl ?_
  refine vo ?_
  refine vnt ?_
  refine vc_if (fun g1 => ?_) (fun g1 => ?_)
  · rw [hw] at g1; cases g1
  · refine vc_skip ?_
    refine thn ?_
    refine vc_seq' ?_
    refine vc_block ?_
    refine vc_lp3 [6, 8] [48, 64] (fun (q : Pg) (b : Int) (s : ByteArray) => [(1, I b), (2, Z s)]) (fun (q : Pg) (b : Int) (s : ByteArray) => [(96, .arr 9 1 (q.map strE))]) (fun (q : Pg) (b : Int) (s : ByteArray) => (q = ps ∧ b = a ∧ s = S) ∨ (q = writeSeg ps a S ∧ b = a + S.size ∧ s = ⟨#[]⟩)) (fun (q : Pg) (b : Int) (s : ByteArray) => s.size) ps a S rfl rfl (sub_i [] (fz ?_) (fz ?_)) ?_ fun q b s hI => ?_
    · first | trivial | rfl
    · first | trivial | rfl
    · exact .inl ⟨rfl, rfl, rfl⟩
    refine vc_nf rfl rfl ?_
    refine vc_seq' ?_
    refine vc_sr ?_
    iterate 3 refine vo ?_
    refine vnt ?_
    refine vc_if (fun g2 => ?_) (fun g2 => ?_)
    · obtain ⟨rfl, rfl, rfl⟩ : ps = q ∧ a = b ∧ S = s := by rcases hI with h | h <;> first | exact ⟨h.1.symm, h.2.1.symm, h.2.2.symm⟩ | (exfalso; rw [h.2.2] at g2; simp at g2; omega)
      refine vc_skip ?_
      refine thn ?_
      refine vc_block ?_
      refine vc_sr ?_
      iterate 2 refine vo ?_
      try refine veq (Int.tmod_eq_emod_of_nonneg (by omega)) ?_
      refine vo ?_
      refine vnt ?_
      refine vc_sr ?_
      iterate 4 refine vo ?_
      try refine vwr ?_
      refine vo ?_
      refine veq (show min (S.size : Int) (128 - a % 128) = S.size by omega) ?_
      refine vo ?_
      refine vnt ?_
      refine vc_sr ?_
      iterate 4 refine vo ?_
      try refine veq (IntWalk.i64_quo _ _ (by omega)) ?_
      iterate 4 refine vo ?_
      try refine veq (IntWalk.i64_quo _ _ (by omega)) ?_
      refine vo ?_
      try with_reducible (first | refine vep ?_ | refine vpt ?_)
      iterate 5 refine vo ?_
      refine vstr (ex_all S) ?_
      refine voc c_spec_PutBytes rfl rfl ?_
      refine vzs (Nat.le_of_eq (putBF_le _ _ _)) fun z1 => ?_
      refine vo ?_
      try with_reducible (first | refine vep ?_ | refine vpt ?_)
      refine vo ?_
      refine vnt ?_
      refine vc_sr ?_
      iterate 3 refine vo ?_
      try refine vwr ?_
      refine vo ?_
      refine vnt ?_
      refine vc_region ?_
      iterate 3 refine vo ?_
      refine vstr (ex_full S) ?_
      refine vo ?_
      refine vnil ?_
      refine inB_n ?_
      refine thn ?_
      refine ⟨writeSeg ps a S, a + S.size, ⟨#[]⟩, ?_, ?_, sub_i [] (fz ?_) (fz ?_)⟩
      · exact .inr ⟨rfl, rfl, rfl⟩
      · omega
      · first | trivial | rfl
      · first | exact seg_wr hs | exact seg_wr2 hm hs
    · obtain rfl : q = writeSeg ps a S := by rcases hI with h | h <;> first | exact h.1 | (exfalso; rw [h.2.2] at g2; omega)
      refine vc_exit ?_
      refine thn_x ?_
      refine thn_x ?_
      refine inB_x ?_
      refine thn ?_
      refine vc_sr ?_
      iterate 3 refine vo ?_
      refine vnt ?_
      refine vc_ret ?_
      refine fin_i [(0, some 96)] rfl (fz ?_) (fz ?_) <;> first | trivial | rfl
end Go.Proofs.YtfcmcedeapgdcaaGreat
end
section
namespace Go.Proofs.YtfcmcedeapgdcaaGreat
open Go Go.RowKit Go.Vc
set_option linter.unusedVariables false
set_option linter.unusedSimpArgs false
set_option linter.unnecessarySimpa false
theorem rd_stp {ps : Pg} {rs : List (Int × Int)} {i : Nat} {o : ByteArray} (hi : i < rs.length) (h : readAll ps rs ⟨#[]⟩ = readAll ps (rs.drop i) o) : readAll ps rs ⟨#[]⟩ = readAll ps (rs.drop (i + 1)) (o ++ readSeg ps ((at' rs i).1, (at' rs i).2)) := by
  rw [h, drop_at hi]; rfl
theorem rd_le {ps : Pg} {rs : List (Int × Int)} {i : Nat} {o : ByteArray} {n : Int} (h : readAll ps rs ⟨#[]⟩ = readAll ps (rs.drop i) o) (hn : ((readAll ps rs ⟨#[]⟩).size : Int) ≤ n) : (o.size : Int) ≤ n := by
  have := readAll_le ps (rs.drop i) o
  rw [← h] at this; omega
theorem at_map {α β : Type} [Inhabited α] [Inhabited β] {l : List α} {f : α → β} {i : Nat} (h : i < l.length) : at' (l.map f) i = f (at' l i) := by
  rw [at_eq h, at_eq (by simpa using h), List.getElem_map]
theorem at_mem {α : Type} [Inhabited α] {l : List α} {i : Nat} (h : i < l.length) : at' l i ∈ l := by rw [at_eq h]; exact List.getElem_mem h
theorem rd_fin {l : List Mp} {ps : Pg} {d a n : Int} {rs : List (Int × Int)} {i : Nat} {o : ByteArray} (hrs : runs l ps d a n false = some rs) (h : readAll ps rs ⟨#[]⟩ = readAll ps (rs.drop i) o) (hi : ¬ i < rs.length) : (dmaRF l ps d a n).1 = o ∧ (dmaRF l ps d a n).2 = true := by
  rw [dmaRF_yes hrs]
  refine ⟨?_, rfl⟩
  rw [h, List.drop_eq_nil_of_le (by omega)]; rfl
theorem rd_none {l : List Mp} {ps : Pg} {d a n : Int} (h : (runs l ps d a n false).isSome = false) : (dmaRF l ps d a n).1 = ⟨#[]⟩ ∧ (dmaRF l ps d a n).2 = false := by
  have : runs l ps d a n false = none := by cases hx : runs l ps d a n false with
    | none => rfl
    | some x => rw [hx] at h; cases h
  rw [dmaRF_no this]; exact ⟨rfl, rfl⟩
set_option maxHeartbeats 4000000 in
theorem c_impl_DmaRead {l : List Mp} {ps : Pg} {d a n : Int} (hl : l.length ≤ 1099511627776 := by first | assumption | omega) (hp : ps.length ≤ 1099511627776 := by first | assumption | omega) (ha : a ≤ 9223372036854775807 := by omega) : Con0 Tryz.prog 36 [.one (.sl 4 (l.map mpE)), .agg [.sl 1 (ps.map strE)], I d, I a, I n] (.tup [Z (dmaRF l ps d a n).1, B (dmaRF l ps d a n).2]) [] := by
  refine con_i Tryz.func36 Tryz.ntmps36 (t := [(0, .one (.sl 4 (l.map mpE))), (1, .agg [.sl 1 (ps.map strE)]), (2, I d), (3, I a), (4, I n)]) rfl ?_
  refine vc_sr ?_
  iterate 3 refine vo ?_
  refine vnt ?_
  refine vc_sr ?_
  iterate 5 refine vo ?_
  refine voc c_impl_runsOf rfl rfl ?_
  iterate 5 refine vo ?_
  refine vnt ?_
  refine vc_seq' ?_
  refine vc_sr ?_
  iterate 2 refine vo ?_
  refine vnt ?_
  refine vc_if (fun g1 => ?_) (fun g1 => ?_)
  · refine vc_sr ?_
    iterate 2 refine vo ?_
    refine vnt ?_
    refine vc_ret ?_
    refine thn_r ?_
    refine fin_i [] rfl (fz ?_) trivial
    exact rd_none g1
  · obtain ⟨rs, hrs⟩ := Option.isSome_iff_exists.1 g1
    obtain ⟨hm, hps, hn, hseg, hsum, hlen⟩ := runs_fine hrs
    have hpl := hps.1
    have hrz : ((readAll ps rs ⟨#[]⟩).size : Int) ≤ 4096 := by rw [readAll_size hps rs _ hseg, hsum]; exact (by show ((0 : Nat) : Int) + n ≤ 4096; omega)
    have e : (runs l ps d a n false).getD [] = rs := by rw [hrs]; rfl
    rw [e]
    refine vc_skip ?_
    refine thn ?_
    refine vc_sr ?_
    refine vo ?_
    refine vnt ?_
    refine vc_seq' ?_
    refine vc_sr ?_
    iterate 2 refine vo ?_
    try first | refine vlb ?_ | refine vln ?_
    refine vo ?_
    refine vnt ?_
    refine vc_block ?_
    refine vc_lp2 [6, 30, 31] [48, 200] (fun (i : Nat) (o : ByteArray) => [(14, Z o), (32, I (i : Nat))]) (fun (i : Nat) (o : ByteArray) => []) (fun (i : Nat) (o : ByteArray) => i ≤ rs.length ∧ readAll ps rs ⟨#[]⟩ = readAll ps (rs.drop i) o) (fun (i : Nat) (o : ByteArray) => rs.length - i) 0 ⟨#[]⟩ rfl rfl (sub_i [] (fz ?_) (fz ?_)) ?_ fun i o hI => ?_
    · first | trivial | rfl
    · first | trivial | rfl
    · exact ⟨Nat.zero_le _, rfl⟩
    refine vc_nf rfl rfl ?_
    refine vc_sr ?_
    refine vo ?_
    refine vnt ?_
    refine vc_seq' ?_
    refine vc_if (fun g2 => ?_) (fun g2 => ?_)
    · have hs : Seg ps.length ((at' rs i).1, (at' rs i).2) := hseg _ (at_mem g2)
      have ho := rd_le hI.2 hrz
      have hz := seg_sz hps hs
      have hz2 := (seg_i64 hpl (hseg _ (at_mem g2)))
      refine vc_skip ?_
      refine thn ?_
      refine vc_seq' ?_
      refine vc_block ?_
      refine vc_sr ?_
      refine vo ?_
      try with_reducible (first | refine vep ?_ | refine vpt ?_)
      iterate 3 refine vo ?_
      refine vnt ?_
      refine vc_sr ?_
      iterate 5 refine vo ?_
      refine voc c_impl_ReadMemory rfl rfl ?_
      iterate 5 refine vo ?_
      refine vnt ?_
      refine vc_region ?_
      iterate 4 refine vo ?_
      refine vnil ?_
      refine inB_n ?_
      refine thn ?_
      refine vc_region ?_
      refine vo ?_
      try refine vwr ?_
      refine vo ?_
      refine vnt ?_
      refine ⟨i + 1, o ++ readSeg ps ((at' rs i).1, (at' rs i).2), ?_, ?_, sub_i [] (fz ?_) (fz ?_)⟩
      · exact ⟨by omega, rd_stp g2 hI.2⟩
      · omega
      · first | trivial | rfl | exact ⟨rfl, rfl⟩
      · first | trivial | rfl
    · refine vc_exit ?_
      refine thn_x ?_
      refine thn_x ?_
      refine inB_x ?_
      refine thn ?_
      refine vc_sr ?_
      iterate 3 refine vo ?_
      refine vnt ?_
      refine vc_ret ?_
      refine fin_i [] rfl (fz ?_) trivial
      exact rd_fin hrs hI.2 g2
theorem wr_facts {q : Pg} {np : Nat} {rs : List (Int × Int)} {i : Nat} {s1 : ByteArray} (hi : i < rs.length) (hf : Fits np (rs.drop i) s1.size) (hq : MemOk q) (hl : q.length = np) : Seg q.length ((at' rs i).1, ((s1.extract (Int.toNat 0) (at' rs i).2.toNat).size : Int)) ∧ 1 ≤ (at' rs i).2 ∧ (at' rs i).2 ≤ s1.size ∧ Fits np (rs.drop (i + 1)) (s1.extract (at' rs i).2.toNat s1.size).size ∧ MemOk (writeSeg q (at' rs i).1 (s1.extract (Int.toNat 0) (at' rs i).2.toNat)) ∧ (writeSeg q (at' rs i).1 (s1.extract (Int.toNat 0) (at' rs i).2.toNat)).length = np := by
  rw [drop_at hi] at hf
  obtain ⟨h1, h2, h3⟩ := hf.cons
  obtain ⟨g0, g1, g2, g3⟩ := h1
  have e : (s1.extract (Int.toNat 0) (at' rs i).2.toNat).size = (at' rs i).2.toNat := by rw [ByteArray.size_extract]; have : Int.toNat 0 = 0 := rfl; omega
  have e2 : (s1.extract (at' rs i).2.toNat s1.size).size = s1.size - (at' rs i).2.toNat := by rw [ByteArray.size_extract]; omega
  refine ⟨⟨g0, by rw [e]; simp only; omega, by rw [e]; simp only; omega, by rw [hl]; exact g3⟩, g1, h2, by rw [e2]; exact h3, ?_⟩
  have := hq.writeSeg (a := (at' rs i).1) (b := s1.extract (Int.toNat 0) (at' rs i).2.toNat) g0 (by rw [hl]; exact g3) (by rw [e]; omega)
  exact ⟨this.1, by rw [this.2, hl]⟩
theorem wr_stp {ps q : Pg} {rs : List (Int × Int)} {i : Nat} {s s1 : ByteArray} (hi : i < rs.length) (h : writeAll ps rs s = writeAll q (rs.drop i) s1) : writeAll ps rs s = writeAll (writeSeg q (at' rs i).1 (s1.extract (Int.toNat 0) (at' rs i).2.toNat)) (rs.drop (i + 1)) (s1.extract (at' rs i).2.toNat s1.size) := by
  rw [h, drop_at hi]; rfl
theorem wr_fin {l : List Mp} {ps q : Pg} {d a : Int} {s s1 : ByteArray} {wt : Bool} {rs : List (Int × Int)} {i : Nat} (hrs : runs l ps d a s.size wt = some rs) (h : writeAll ps rs s = writeAll q (rs.drop i) s1) (hi : ¬ i < rs.length) : (dmaWF l ps d a s wt).2 = true ∧ (dmaWF l ps d a s wt).1 = q := by
  have e : dmaWF l ps d a s wt = (writeAll ps rs s, true) := by unfold dmaWF dmaW; rw [hrs]; rfl
  rw [e]
  refine ⟨rfl, ?_⟩
  rw [h, List.drop_eq_nil_of_le (by omega)]; rfl
theorem wr_none {l : List Mp} {ps : Pg} {d a : Int} {s : ByteArray} {wt : Bool} (h : (runs l ps d a s.size wt).isSome = false) : (dmaWF l ps d a s wt).2 = false ∧ (dmaWF l ps d a s wt).1 = ps := by
  have : runs l ps d a s.size wt = none := by cases hx : runs l ps d a s.size wt with
    | none => rfl
    | some x => rw [hx] at h; cases h
  rw [dmaWF_no this]; exact ⟨rfl, rfl⟩
set_option maxHeartbeats 4000000 in
theorem c_impl_put {l : List Mp} {ps : Pg} {d a : Int} {s : ByteArray} {wt : Bool} (hl : l.length ≤ 1099511627776 := by first | assumption | omega) (hp : ps.length ≤ 1099511627776 := by first | assumption | omega) (hs_s : s.size ≤ 1099511627776 := by first | assumption | omega | (simp only [ByteArray.size_append, ByteArray.size_extract, strOfNums_size, List.length_cons, List.length_nil]; omega)) (ha : a ≤ 9223372036854775807 := by omega) : Con0 Tryz.prog 108 [.one (.sl 4 (l.map mpE)), .agg [.sl 1 (ps.map strE)], I d, I a, Z s, B wt] (.tup [.agg [.hs 0], B (dmaWF l ps d a s wt).2]) [(0, .arr 9 1 ((dmaWF l ps d a s wt).1.map strE))] := by
  refine con_i Tryz.func108 Tryz.ntmps108 (t := [(0, .one (.sl 4 (l.map mpE))), (1, .agg [.sl 1 (ps.map strE)]), (2, I d), (3, I a), (4, Z s), (5, B wt)]) rfl ?_
  refine vc_sr ?_
  iterate 3 refine vo ?_
  refine vnt ?_
  refine vc_sr ?_
  refine vo ?_
  refine voc c_impl_copyMemory rfl rfl ?_
  iterate 2 refine vo ?_
  refine vnt ?_
  refine vc_sr ?_
  iterate 7 refine vo ?_
  refine voc c_impl_runsOf rfl rfl ?_
  iterate 5 refine vo ?_
  refine vnt ?_
  refine vc_seq' ?_
  refine vc_sr ?_
  iterate 2 refine vo ?_
  refine vnt ?_
  refine vc_if (fun g1 => ?_) (fun g1 => ?_)
  · refine vc_sr ?_
    iterate 3 refine vo ?_
    refine vnt ?_
    refine vc_ret ?_
    refine thn_r ?_
    refine fin_i [(0, some 160)] rfl (fz ?_) (fz ?_)
    · exact (wr_none g1).1
    · rw [(wr_none g1).2]
  · obtain ⟨rs, hrs⟩ := Option.isSome_iff_exists.1 g1
    obtain ⟨hm, hps, hn, hseg, hsum, hlen⟩ := runs_fine hrs
    have hpl := hps.1
    have e : (runs l ps d a s.size wt).getD [] = rs := by rw [hrs]; rfl
    rw [e]
    refine vc_skip ?_
    refine thn ?_
    refine vc_seq' ?_
    refine vc_sr ?_
    iterate 2 refine vo ?_
    try first | refine vlb ?_ | refine vln ?_
    refine vo ?_
    refine vnt ?_
    refine vc_block ?_
    refine vc_lp3 [12, 14, 35, 36] [96, 232] (fun (i : Nat) (q : Pg) (s1 : ByteArray) => [(4, Z s1), (37, I (i : Nat))]) (fun (i : Nat) (q : Pg) (s1 : ByteArray) => [(7, .arr 9 1 (q.map strE)), (112, .row 27 [.hs 7])]) (fun (i : Nat) (q : Pg) (s1 : ByteArray) => i ≤ rs.length ∧ writeAll ps rs s = writeAll q (rs.drop i) s1 ∧ MemOk q ∧ q.length = ps.length ∧ Fits ps.length (rs.drop i) s1.size) (fun (i : Nat) (q : Pg) (s1 : ByteArray) => rs.length - i) 0 ps s rfl rfl (sub_i [(7, some 160)] (fz ?_) (fz ?_)) ?_ fun i q s1 hI => ?_
    · first | trivial | rfl
    · first | trivial | rfl | exact ⟨rfl, rfl⟩
    · exact ⟨Nat.zero_le _, rfl, hps, rfl, hseg, by rw [List.drop_zero]; exact hsum⟩
    refine vc_nf rfl rfl ?_
    refine vc_sr ?_
    refine vo ?_
    refine vnt ?_
    refine vc_seq' ?_
    refine vc_if (fun g2 => ?_) (fun g2 => ?_)
    · obtain ⟨hs, hz1, hz2, hfit, hmq, hlq⟩ := wr_facts g2 hI.2.2.2.2 hI.2.2.1 hI.2.2.2.1
      have hq2 := hI.2.2.1
      have hql := hI.2.2.2.1
      refine vc_skip ?_
      refine thn ?_
      refine vc_seq' ?_
      refine vc_block ?_
      refine vc_sr ?_
      refine vo ?_
      try with_reducible (first | refine vep ?_ | refine vpt ?_)
      iterate 3 refine vo ?_
      refine vnt ?_
      refine vc_sr ?_
      iterate 7 refine vo ?_
      refine voc c_impl_WriteMemory rfl rfl ?_
      iterate 4 refine vo ?_
      refine vnt ?_
      refine vc_region ?_
      iterate 5 refine vo ?_
      refine vnil ?_
      refine inB_n ?_
      refine thn ?_
      refine vc_region ?_
      refine vo ?_
      try refine vwr ?_
      refine vo ?_
      refine vnt ?_
      refine ⟨i + 1, writeSeg q (at' rs i).1 (s1.extract (Int.toNat 0) (at' rs i).2.toNat), s1.extract (at' rs i).2.toNat s1.size, ?_, ?_, sub_i [(7, some 392)] (fz ?_) (fz ?_)⟩
      · exact ⟨by omega, wr_stp g2 hI.2.1, hmq, hlq, hfit⟩
      · omega
      · first | trivial | rfl | exact ⟨rfl, rfl⟩
      · first | trivial | rfl | exact ⟨rfl, rfl⟩
    · refine vc_exit ?_
      refine thn_x ?_
      refine thn_x ?_
      refine inB_x ?_
      refine thn ?_
      refine vc_sr ?_
      iterate 3 refine vo ?_
      refine vnt ?_
      refine vc_ret ?_
      refine fin_i [(0, some 7)] rfl (fz ?_) (fz ?_)
      · exact (wr_fin hrs hI.2.1 g2).1
      · rw [(wr_fin hrs hI.2.1 g2).2]
set_option maxHeartbeats 4000000 in
theorem c_impl_DmaWrite {l : List Mp} {ps : Pg} {d a : Int} {s : ByteArray} (hl : l.length ≤ 1099511627776 := by first | assumption | omega) (hp : ps.length ≤ 1099511627776 := by first | assumption | omega) (hs_s : s.size ≤ 1099511627776 := by first | assumption | omega | (simp only [ByteArray.size_append, ByteArray.size_extract, strOfNums_size, List.length_cons, List.length_nil]; omega)) (ha : a ≤ 9223372036854775807 := by omega) : Con0 Tryz.prog 77 [.one (.sl 4 (l.map mpE)), .agg [.sl 1 (ps.map strE)], I d, I a, Z s] (.tup [.agg [.hs 0], B (dmaWF l ps d a s true).2]) [(0, .arr 9 1 ((dmaWF l ps d a s true).1.map strE))] := by
  refine con_i Tryz.func77 Tryz.ntmps77 (t := [(0, .one (.sl 4 (l.map mpE))), (1, .agg [.sl 1 (ps.map strE)]), (2, I d), (3, I a), (4, Z s)]) rfl ?_
  refine vc_sr ?_
  iterate 3 refine vo ?_
  refine vnt ?_
  refine vc_sr ?_
  iterate 5 refine vo ?_
  refine voc c_impl_put rfl rfl ?_
  iterate 4 refine vo ?_
  refine vnt ?_
  refine vc_ret ?_
  refine fin_i [(0, some 136)] rfl (fz ?_) (fz ?_) <;> first | trivial | rfl
set_option maxHeartbeats 4000000 in
theorem c_spec_DmaWrite {l : List Mp} {ps : Pg} {d a : Int} {s : ByteArray} (hl : l.length ≤ 1099511627776 := by first | assumption | omega) (hp : ps.length ≤ 1099511627776 := by first | assumption | omega) (hs_s : s.size ≤ 1099511627776 := by first | assumption | omega | (simp only [ByteArray.size_append, ByteArray.size_extract, strOfNums_size, List.length_cons, List.length_nil]; omega)) (ha : a ≤ 9223372036854775807 := by omega) : Con0 Tryz.prog 98 [.one (.sl 4 (l.map mpE)), .agg [.sl 1 (ps.map strE)], I d, I a, Z s] (.tup [.agg [.hs 0], B (dmaWF l ps d a s true).2]) [(0, .arr 9 1 ((dmaWF l ps d a s true).1.map strE))] := by
  refine con_i Tryz.func98 Tryz.ntmps98 (t := [(0, .one (.sl 4 (l.map mpE))), (1, .agg [.sl 1 (ps.map strE)]), (2, I d), (3, I a), (4, Z s)]) rfl ?_
  refine vc_sr ?_
  iterate 3 refine vo ?_
  refine vnt ?_
  refine vc_sr ?_
  iterate 6 refine vo ?_
  refine voc c_spec_l17Parts rfl rfl ?_
  iterate 7 refine vo ?_
  refine vnt ?_
  refine vc_sr ?_
  refine vo ?_
  refine voc c_spec_l16Copy rfl rfl ?_
  iterate 2 refine vo ?_
  refine vnt ?_
  refine vc_seq' ?_
  refine vc_sr ?_
  iterate 2 refine vo ?_
  refine vnt ?_
  refine vc_if (fun g1 => ?_) (fun g1 => ?_)
  · refine vc_sr ?_
    iterate 3 refine vo ?_
    refine vnt ?_
    refine vc_ret ?_
    refine thn_r ?_
    refine fin_i [(0, some 232)] rfl (fz ?_) (fz ?_)
    · exact (wr_none g1).1
    · rw [(wr_none g1).2]
  · obtain ⟨rs, hrs⟩ := Option.isSome_iff_exists.1 g1
    obtain ⟨hm, hps, hn, hseg, hsum, hlen⟩ := runs_fine hrs
    have hpl := hps.1
    have e : (runs l ps d a s.size true).getD [] = rs := by rw [hrs]; rfl
    rw [e]
    refine vc_skip ?_
    refine thn ?_
    refine vc_seq' ?_
    refine vc_sr ?_
    refine vo ?_
    refine vnt ?_
    refine vc_block ?_
    refine vc_lp3 [10, 12, 13, 15] [80, 192, 193] (fun (i : Nat) (q : Pg) (s1 : ByteArray) => [(4, Z s1), (16, I (i : Nat))]) (fun (i : Nat) (q : Pg) (s1 : ByteArray) => [(7, .arr 9 1 (q.map strE)), (120, .row 27 [.hs 7])]) (fun (i : Nat) (q : Pg) (s1 : ByteArray) => i ≤ rs.length ∧ writeAll ps rs s = writeAll q (rs.drop i) s1 ∧ MemOk q ∧ q.length = ps.length ∧ Fits ps.length (rs.drop i) s1.size) (fun (i : Nat) (q : Pg) (s1 : ByteArray) => rs.length - i) 0 ps s rfl rfl (sub_i [(7, some 232)] (fz ?_) (fz ?_)) ?_ fun i q s1 hI => ?_
    · first | trivial | rfl
    · first | trivial | rfl | exact ⟨rfl, rfl⟩
    · exact ⟨Nat.zero_le _, rfl, hps, rfl, hseg, by rw [List.drop_zero]; exact hsum⟩
    refine vc_nf rfl rfl ?_
    refine vc_seq' ?_
    refine vc_sr ?_
    iterate 3 refine vo ?_
    try first | refine vlb ?_ | refine vln ?_
    refine veq (show ((rs.map (·.1)).length : Int) = rs.length by rw [List.length_map]) ?_
    refine vo ?_
    refine vnt ?_
    refine vc_if (fun g2 => ?_) (fun g2 => ?_)
    · obtain ⟨hs, hz1, hz2, hfit, hmq, hlq⟩ := wr_facts g2 hI.2.2.2.2 hI.2.2.1 hI.2.2.2.1
      have hq2 := hI.2.2.1
      have hql := hI.2.2.2.1
      refine vc_skip ?_
      refine thn ?_
      refine vc_seq' ?_
      refine vc_block ?_
      refine vc_sr ?_
      iterate 4 refine vo ?_
      try with_reducible (first | refine vep ?_ | refine vpt ?_)
      refine vo ?_
      refine veq (at_map g2) ?_
      iterate 4 refine vo ?_
      try with_reducible (first | refine vep ?_ | refine vpt ?_)
      refine vo ?_
      refine veq (at_map g2) ?_
      refine vo ?_
      refine voc c_spec_WriteMemory rfl rfl ?_
      iterate 4 refine vo ?_
      refine vnt ?_
      refine vc_region ?_
      iterate 4 refine vo ?_
      try with_reducible (first | refine vep ?_ | refine vpt ?_)
      refine vo ?_
      refine veq (at_map g2) ?_
      iterate 2 refine vo ?_
      refine vnil ?_
      refine inB_n ?_
      refine thn ?_
      refine vc_region ?_
      iterate 2 refine vo ?_
      try refine vwr ?_
      refine vo ?_
      refine vnt ?_
      refine ⟨i + 1, writeSeg q (at' rs i).1 (s1.extract (Int.toNat 0) (at' rs i).2.toNat), s1.extract (at' rs i).2.toNat s1.size, ?_, ?_, sub_i [(7, some 408)] (fz ?_) (fz ?_)⟩
      · exact ⟨by omega, wr_stp g2 hI.2.1, hmq, hlq, hfit⟩
      · omega
      · first | trivial | rfl | exact ⟨rfl, rfl⟩
      · first | trivial | rfl | exact ⟨rfl, rfl⟩
    · refine vc_exit ?_
      refine thn_x ?_
      refine thn_x ?_
      refine inB_x ?_
      refine thn ?_
      refine vc_sr ?_
      iterate 3 refine vo ?_
      refine vnt ?_
      refine vc_ret ?_
      refine fin_i [(0, some 7)] rfl (fz ?_) (fz ?_)
      · exact (wr_fin hrs hI.2.1 g2).1
      · rw [(wr_fin hrs hI.2.1 g2).2]
end Go.Proofs.YtfcmcedeapgdcaaGreat
end
section
namespace Go.Proofs.YtfcmcedeapgdcaaGreat
open Go Go.RowKit Go.Vc
set_option linter.unusedVariables false
set_option linter.unusedSimpArgs false
set_option linter.unnecessarySimpa false
theorem rt_y {l : List Mp} {ps : Pg} {d b s h t : Int} (h1 : ringOkB b s h t = true) (h2 : ¬ usedF s h t = 0) (h3 : (dmaRF l ps d (rslot b s h) 16).2 = true) : rtakeF l ps d b s h t = ((dmaRF l ps d (rslot b s h) 16).1, rnext s h, true) := by
  unfold rtakeF
  rw [if_pos h1, if_neg h2]
  generalize dmaRF l ps d (rslot b s h) 16 = x at h3 ⊢
  obtain ⟨x1, x2⟩ := x
  simp only at h3
  subst h3; rfl
theorem rt_n {l : List Mp} {ps : Pg} {d b s h t : Int} (hh : ringOkB b s h t = false ∨ usedF s h t = 0 ∨ (dmaRF l ps d (rslot b s h) 16).2 = false) : rtakeF l ps d b s h t = (⟨#[]⟩, h, false) := by
  unfold rtakeF
  split
  · split
    · rfl
    · rename_i g1 g2
      have h3 : (dmaRF l ps d (rslot b s h) 16).2 = false := by
        rcases hh with hh | hh | hh
        · rw [g1] at hh; cases hh
        · exact (g2 hh).elim
        · exact hh
      generalize dmaRF l ps d (rslot b s h) 16 = x at h3 ⊢
      obtain ⟨x1, x2⟩ := x
      simp only at h3
      subst h3; rfl
  · rfl
theorem enc_ok {x1 x2 x3 x4 x5 s c : Int} (h : completionOkB x1 x2 x3 x4 x5 = true) : encCF x1 x2 x3 x4 x5 (phaseC s c) = encC x1 x2 x3 x4 x5 (phaseC s c) := by
  unfold encCF
  rw [h, inB_iff.2 (phaseC_bd s c)]; rfl
theorem pc_y {l : List Mp} {ps : Pg} {d b s c x1 x2 x3 x4 x5 : Int} (h1 : queueOkB b s c = true) (h2 : completionOkB x1 x2 x3 x4 x5 = true) (h3 : (dmaWF l ps d (slotC b s c) (encC x1 x2 x3 x4 x5 (phaseC s c)) true).2 = true) : putC l ps d b s c x1 x2 x3 x4 x5 = ((dmaWF l ps d (slotC b s c) (encC x1 x2 x3 x4 x5 (phaseC s c)) true).1, nextC s c, true) := by
  unfold putC
  rw [if_pos h1, if_pos h2]
  generalize dmaWF l ps d (slotC b s c) (encC x1 x2 x3 x4 x5 (phaseC s c)) true = x at h3 ⊢
  obtain ⟨x1, x2⟩ := x
  simp only at h3
  subst h3; rfl
theorem pc_n {l : List Mp} {ps : Pg} {d b s c x1 x2 x3 x4 x5 : Int} (hh : queueOkB b s c = false ∨ completionOkB x1 x2 x3 x4 x5 = false ∨ (dmaWF l ps d (slotC b s c) (encC x1 x2 x3 x4 x5 (phaseC s c)) true).2 = false) : putC l ps d b s c x1 x2 x3 x4 x5 = (ps, c, false) := by
  unfold putC
  split
  · split
    · rename_i g1 g2
      have h3 : (dmaWF l ps d (slotC b s c) (encC x1 x2 x3 x4 x5 (phaseC s c)) true).2 = false := by
        rcases hh with hh | hh | hh
        · rw [g1] at hh; cases hh
        · rw [g2] at hh; cases hh
        · exact hh
      generalize dmaWF l ps d (slotC b s c) (encC x1 x2 x3 x4 x5 (phaseC s c)) true = x at h3 ⊢
      obtain ⟨x1, x2⟩ := x
      simp only at h3
      subst h3; rfl
    · rfl
  · rfl
theorem dw_no {l : List Mp} {ps : Pg} {d a : Int} {s : ByteArray} {wt : Bool} (h : (dmaWF l ps d a s wt).2 = false) : (dmaWF l ps d a s wt).1 = ps := by
  generalize hx : dmaWF l ps d a s wt = x at h ⊢
  obtain ⟨x1, x2⟩ := x
  simp only at h
  subst h
  exact dmaWF_same hx.symm
set_option maxHeartbeats 4000000 in
theorem c_impl_RingTake {l : List Mp} {ps : Pg} {d b s h t : Int} (hl : l.length ≤ 1099511627776 := by first | assumption | omega) (hp : ps.length ≤ 1099511627776 := by first | assumption | omega) : Con0 Tryz.prog 33 [.one (.sl 4 (l.map mpE)), .agg [.sl 1 (ps.map strE)], I d, .agg [V b, V s, V h, V t]] (.tup [Z (rtakeF l ps d b s h t).1, .agg [V b, V s, V (rtakeF l ps d b s h t).2.1, V t], B (rtakeF l ps d b s h t).2.2]) [] := by
  refine con_i Tryz.func33 Tryz.ntmps33 (t := [(0, .one (.sl 4 (l.map mpE))), (1, .agg [.sl 1 (ps.map strE)]), (2, I d), (3, .agg [V b, V s, V h, V t])]) rfl ?_
  refine vc_sr ?_
  iterate 5 refine vo ?_
  refine vnt ?_
  refine vc_seq' ?_
  refine vc_sr ?_
  refine vo ?_
  refine voc c_impl_RingOk rfl rfl ?_
  iterate 2 refine vo ?_
  refine vsp (fun g1 => ?_) (fun g1 => ?_)
  · iterate 3 refine vof ?_
    refine vo ?_
    refine vnt ?_
    refine vc_then ?_
    refine vc_sr ?_
    iterate 4 refine vo ?_
    refine vnt ?_
    refine vc_ret ?_
    refine thn_r ?_
    refine fin_i [] rfl (fz ?_) trivial
    rw [rt_n (.inl g1)]
    simp
  · have hr := ringOk_facts g1
    have hq := hr.1
    have hsl := rslot_bd g1 h
    refine von ?_
    refine vocn c_impl_RingUsed rfl rfl ?_
    refine von ?_
    refine vo ?_
    refine vnt ?_
    refine vc_if (fun g2 => ?_) (fun g2 => ?_)
    · refine vc_sr ?_
      iterate 4 refine vo ?_
      refine vnt ?_
      refine vc_ret ?_
      refine thn_r ?_
      refine fin_i [] rfl (fz ?_) trivial
      rw [rt_n (.inr (.inl g2))]
      simp
    · refine vc_skip ?_
      refine thn ?_
      refine vc_sr ?_
      iterate 6 refine vo ?_
      refine voc c_impl_SlotAddress rfl rfl ?_
      refine voc c_impl_DmaRead rfl rfl ?_
      iterate 5 refine vo ?_
      refine vnt ?_
      refine vc_seq' ?_
      refine vc_sr ?_
      iterate 2 refine vo ?_
      refine vnt ?_
      refine vc_if (fun g3 => ?_) (fun g3 => ?_)
      · refine vc_sr ?_
        iterate 4 refine vo ?_
        refine vnt ?_
        refine vc_ret ?_
        refine thn_r ?_
        refine fin_i [] rfl (fz ?_) trivial
        rw [rt_n (.inr (.inr g3))]
        simp
      · refine vc_skip ?_
        refine thn ?_
        refine vc_sr ?_
        iterate 3 refine vo ?_
        try refine vwr ?_
        iterate 3 refine vo ?_
        try refine vwr ?_
        refine vo ?_
        try refine veq (Int.tmod_eq_emod_of_nonneg (by omega)) ?_
        iterate 2 refine vo ?_
        refine vnt ?_
        refine vc_sr ?_
        iterate 5 refine vo ?_
        refine vnt ?_
        refine vc_ret ?_
        refine fin_i [] rfl (fz ?_) trivial
        rw [rt_y g1 g2 g3]
        simp [rnext]
set_option maxHeartbeats 4000000 in
theorem c_impl_PutCompletion {l : List Mp} {ps : Pg} {d b s c x1 x2 x3 x4 x5 : Int} (hl : l.length ≤ 1099511627776 := by first | assumption | omega) (hp : ps.length ≤ 1099511627776 := by first | assumption | omega) : Con0 Tryz.prog 80 [.one (.sl 4 (l.map mpE)), .agg [.sl 1 (ps.map strE)], I d, .agg [V b, V s, V c], .agg [V x1, V x2, V x3, V x4, V x5]] (.tup [.agg [.hs 0], .agg [V b, V s, V (putC l ps d b s c x1 x2 x3 x4 x5).2.1], B (putC l ps d b s c x1 x2 x3 x4 x5).2.2]) [(0, .arr 9 1 ((putC l ps d b s c x1 x2 x3 x4 x5).1.map strE))] := by
  refine con_i Tryz.func80 Tryz.ntmps80 (t := [(0, .one (.sl 4 (l.map mpE))), (1, .agg [.sl 1 (ps.map strE)]), (2, I d), (3, .agg [V b, V s, V c]), (4, .agg [V x1, V x2, V x3, V x4, V x5])]) rfl ?_
  refine vc_sr ?_
  iterate 6 refine vo ?_
  refine vnt ?_
  refine vc_seq' ?_
  refine vc_sr ?_
  refine vo ?_
  refine voc c_impl_QueueOk rfl rfl ?_
  iterate 2 refine vo ?_
  refine vsp (fun g1 => ?_) (fun g1 => ?_)
  · iterate 3 refine vof ?_
    refine vo ?_
    refine vnt ?_
    refine vc_then ?_
    refine vc_sr ?_
    refine vo ?_
    refine voc c_impl_copyMemory rfl rfl ?_
    iterate 4 refine vo ?_
    refine vnt ?_
    refine vc_ret ?_
    refine thn_r ?_
    have hn : putC l ps d b s c x1 x2 x3 x4 x5 = (ps, c, false) := pc_n (.inl g1)
    refine fin_i [(0, some 192)] rfl (fz ?_) (fz ?_)
    · rw [hn]; simp
    · first | (rw [hn]; done) | (rw [hn, dw_no g3]; done)
  · have hq := slot_q g1
    have hqf := queueOk_facts g1
    have hsl := slotC_bd g1
    refine von ?_
    refine vocn c_impl_CompletionOk rfl rfl ?_
    refine von ?_
    refine vo ?_
    refine vnt ?_
    refine vc_if (fun g2 => ?_) (fun g2 => ?_)
    · refine vc_sr ?_
      refine vo ?_
      refine voc c_impl_copyMemory rfl rfl ?_
      iterate 4 refine vo ?_
      refine vnt ?_
      refine vc_ret ?_
      refine thn_r ?_
      have hn : putC l ps d b s c x1 x2 x3 x4 x5 = (ps, c, false) := pc_n (.inr (.inl g2))
      refine fin_i [(0, some 192)] rfl (fz ?_) (fz ?_)
      · rw [hn]; simp
      · first | (rw [hn]; done) | (rw [hn, dw_no g3]; done)
    · have hz := encC_size x1 x2 x3 x4 x5 (phaseC s c)
      refine vc_skip ?_
      refine thn ?_
      refine vc_sr ?_
      iterate 4 refine vo ?_
      refine voc c_impl_slotOfCount rfl rfl ?_
      iterate 2 refine vo ?_
      refine voc c_impl_phaseOf rfl rfl ?_
      refine voc c_impl_EncodeCompletion rfl rfl ?_
      refine vstr (enc_ok g2) ?_
      refine voc c_impl_DmaWrite rfl rfl ?_
      iterate 6 refine vo ?_
      refine vnt ?_
      refine vc_seq' ?_
      refine vc_sr ?_
      iterate 2 refine vo ?_
      refine vnt ?_
      refine vc_if (fun g3 => ?_) (fun g3 => ?_)
      · refine vc_sr ?_
        iterate 5 refine vo ?_
        refine vnt ?_
        refine vc_ret ?_
        refine thn_r ?_
        have hn : putC l ps d b s c x1 x2 x3 x4 x5 = (ps, c, false) := pc_n (.inr (.inr g3))
        refine fin_i [(0, some 288)] rfl (fz ?_) (fz ?_)
        · rw [hn]; simp
        · first | (rw [hn]; done) | (rw [hn, dw_no g3]; done)
      · refine vc_skip ?_
        refine thn ?_
        refine vc_sr ?_
        iterate 3 refine vo ?_
        try refine vwr ?_
        iterate 3 refine vo ?_
        try refine vwr ?_
        refine vo ?_
        try refine veq (Int.tmod_eq_emod_of_nonneg (by omega)) ?_
        iterate 2 refine vo ?_
        refine vnt ?_
        refine vc_sr ?_
        iterate 5 refine vo ?_
        refine vnt ?_
        refine vc_ret ?_
        have hn := pc_y g1 g2 g3
        refine fin_i [(0, some 288)] rfl (fz ?_) (fz ?_)
        · rw [hn]; simp [nextC]
        · rw [hn]
end Go.Proofs.YtfcmcedeapgdcaaGreat
end
section
namespace Go.Proofs.YtfcmcedeapgdcaaGreat
open Go Go.RowKit Go.Vc
set_option linter.unusedVariables false
set_option linter.unusedSimpArgs false
set_option linter.unnecessarySimpa false
def bitF (s : ByteArray) (i : Nat) : Nat := bAt s (i / 8) / 2 ^ (7 - i % 8) % 2
def kwF (key : ByteArray) (b : Nat) : Nat → Nat
  | 0 => 0
  | n + 1 => 2 * kwF key b n + bitF key (b + n)
def hashF (key x : ByteArray) : Nat → Int
  | 0 => 0
  | n + 1 => if bitF x n = 1 then xorI (hashF key x n) (kwF key n 32) else hashF key x n
theorem bitF_le (s : ByteArray) (i : Nat) : bitF s i ≤ 1 := by unfold bitF; omega
theorem kwF_lt (key : ByteArray) (b : Nat) : ∀ n, kwF key b n < 2 ^ n
  | 0 => by simp [kwF]
  | n + 1 => by
    have := kwF_lt key b n
    have := bitF_le key (b + n)
    simp only [kwF, Nat.pow_succ]
    omega
theorem and_one (n : Int) : andI n 1 = n % 2 := by
  rw [andI_eq]; exact and_mask_i64 n 1 (by decide)
theorem bit_eq (s : ByteArray) (i : Nat) (h : i / 8 < s.size) {e : Int} (he : e = 7 - (i : Int) % 8) : andI (IntKind.i64.wrap (bytI s ((i : Int) / 8) / 2 ^ e.toNat)) 1 = (bitF s i : Int) := by
  have hb := bAt_lt s (i / 8)
  have e1 : ((i : Int) / 8).toNat = i / 8 := by omega
  have e2 : e.toNat = 7 - i % 8 := by omega
  rw [and_one, bytI_nat, e1, e2]
  have hd : ((bAt s (i / 8) : Nat) : Int) / 2 ^ (7 - i % 8) = ((bAt s (i / 8) / 2 ^ (7 - i % 8) : Nat) : Int) := by
    rw [Int.natCast_ediv]; simp
  have hq : bAt s (i / 8) / 2 ^ (7 - i % 8) ≤ bAt s (i / 8) := Nat.div_le_self _ _
  rw [hd]
  unfold bitF
  generalize bAt s (i / 8) / 2 ^ (7 - i % 8) = q at *
  rw [IntWalk.i64_in _ (by omega)]; omega
theorem kwF_bd (key : ByteArray) (b : Nat) {n : Nat} (hn : n ≤ 32) : kwF key b n ≤ 4294967295 := by
  have h1 := kwF_lt key b n
  have h3 : 2 ^ n ≤ 2 ^ 32 := Nat.pow_le_pow_right (by decide) hn
  omega
theorem kw_or (key : ByteArray) (b n : Nat) (hn : n < 32) : orI (IntKind.i64.wrap ((kwF key b n : Nat) * 2 ^ Int.toNat 1)) (bitF key (b + n) : Nat) = (kwF key b (n + 1) : Nat) := by
  have h1 := kwF_lt key b n
  have h2 := bitF_le key (b + n)
  have h3 : 2 ^ n ≤ 2 ^ 31 := Nat.pow_le_pow_right (by decide) (by omega)
  have e1 : (2 : Int) ^ Int.toNat 1 = 2 := by decide
  rw [e1, IntWalk.i64_in _ (by omega), orI_eq, show ((kwF key b n : Nat) : Int) * 2 = ((kwF key b n * 2 ^ 1 : Nat) : Int) by omega, i64_or_add _ _ 1 (by omega) (by omega) (by omega)]
  simp only [kwF]; omega
set_option maxHeartbeats 4000000 in
theorem c_impl_keyBit {s : ByteArray} {i : Nat} (hi : i / 8 < s.size := by omega) (hi2 : i ≤ 1000000 := by omega) : Con0 Tryz.prog 133 [Z s, I (i : Nat)] (I (bitF s i : Nat)) [] := by
  have hb8 : IntKind.u8.bits = 8 := rfl
  have hb64 : IntKind.i64.bits = 64 := rfl
  refine con_i Tryz.func133 Tryz.ntmps133 (t := [(0, Z s), (1, I (i : Nat))]) rfl ?_
  refine vc_sr ?_
  refine vo ?_
  refine vnt ?_
  refine vc_sr ?_
  iterate 3 refine vo ?_
  try refine veq (IntWalk.i64_quo _ _ (by omega)) ?_
  iterate 3 refine vo ?_
  try refine veq (Int.tmod_eq_emod_of_nonneg (by omega)) ?_
  refine vo ?_
  try refine vwr ?_
  iterate 4 refine vo ?_
  refine vnt ?_
  refine vc_ret ?_
  refine fin_i [] rfl (fz ?_) trivial
  exact (bit_eq s i hi rfl).symm
set_option maxHeartbeats 4000000 in
theorem c_impl_KeyWindow {key : ByteArray} {b : Nat} (hk : key.size = 16 := by assumption) (hb : b ≤ 96 := by omega) : Con0 Tryz.prog 134 [Z key, I (b : Nat)] (I (kwF key b 32 : Nat)) [] := by
  have hin : inB (b : Int) 0 96 = true := inB_iff.2 (by omega)
  refine con_i Tryz.func134 Tryz.ntmps134 (t := [(0, Z key), (1, I (b : Nat))]) rfl ?_
  refine vc_sr ?_
  refine vo ?_
  refine vnt ?_
  refine vc_seq' ?_
  refine vc_sr ?_
  iterate 4 refine vo ?_
  refine vsp (fun g1 => ?_) (fun g1 => ?_)
  · exact (g1 (by omega)).elim
  · refine von ?_
    refine vocn c_impl_between rfl rfl ?_
    refine von ?_
    refine vo ?_
    refine vnt ?_
    refine vc_if (fun g2 => ?_) (fun g2 => ?_)
    · rw [hin] at g2; cases g2
    · refine vc_skip ?_
      refine thn ?_
      refine vc_sr ?_
      refine vo ?_
      refine vnt ?_
      refine vc_seq' ?_
      refine vc_sr ?_
      iterate 2 refine vo ?_
      refine vnt ?_
      refine vc_block ?_
      refine vc_lp (σ := Nat) [0, 1] [] (fun j => [(5, I (kwF key b j : Nat)), (6, I (b + j : Nat))]) (fun j => []) (fun j => j ≤ 32) (fun j => 32 - j) 0 rfl rfl (sub_i [] (fz ?_) (fz ?_)) ?_ fun j hI => ?_
      · first | trivial | rfl | exact ⟨rfl, rfl⟩
      · first | trivial | rfl
      · exact Nat.zero_le _
      refine vc_nf rfl rfl ?_
      have h1 := kwF_bd key b hI
      have h2 := bitF_le key (b + j)
      refine vc_seq' ?_
      refine vc_sr ?_
      iterate 3 refine vo ?_
      try refine vwr ?_
      refine vo ?_
      refine vnt ?_
      refine vc_if (fun g3 => ?_) (fun g3 => ?_)
      · refine vc_skip ?_
        refine thn ?_
        refine vc_seq' ?_
        refine vc_block ?_
        refine vc_region ?_
        iterate 4 refine vo ?_
        refine voc c_impl_keyBit rfl rfl ?_
        refine vo ?_
        refine veq (kw_or key b j (by omega)) ?_
        refine vo ?_
        refine vnil ?_
        refine inB_n ?_
        refine thn ?_
        refine vc_region ?_
        iterate 2 refine vo ?_
        try refine vwr ?_
        refine vo ?_
        refine vnt ?_
        refine ⟨j + 1, ?_, ?_, sub_i [] (fz ?_) (fz ?_)⟩
        · omega
        · omega
        · first | trivial | rfl | exact ⟨rfl, rfl⟩ | (refine ⟨?_, ?_⟩ <;> first | rfl | omega)
        · first | trivial | rfl
      · refine vc_exit ?_
        refine thn_x ?_
        refine thn_x ?_
        refine inB_x ?_
        refine thn ?_
        refine vc_sr ?_
        iterate 2 refine vo ?_
        refine vnt ?_
        refine vc_ret ?_
        refine fin_i [] rfl (fz ?_) trivial
        rw [show j = 32 by omega]
set_option maxHeartbeats 4000000 in
theorem c_impl_HashBytes {key x : ByteArray} (hk : key.size = 16 := by assumption) (hx : x.size ≤ 12 := by omega) : Con0 Tryz.prog 109 [Z key, Z x] (I (hashF key x (8 * x.size))) [] := by
  refine con_i Tryz.func109 Tryz.ntmps109 (t := [(0, Z key), (1, Z x)]) rfl ?_
  refine vc_sr ?_
  refine vo ?_
  refine vnt ?_
  refine vc_seq' ?_
  refine vc_sr ?_
  iterate 4 refine vo ?_
  refine vsp (fun g1 => ?_) (fun g1 => ?_)
  · exact (g1 (by omega)).elim
  · iterate 3 refine von ?_
    refine vo ?_
    refine vnt ?_
    refine vc_if (fun g2 => ?_) (fun g2 => ?_)
    · exfalso; omega
    · refine vc_skip ?_
      refine thn ?_
      refine vc_sr ?_
      refine vo ?_
      refine vnt ?_
      refine vc_seq' ?_
      refine vc_sr ?_
      refine vo ?_
      refine vnt ?_
      refine vc_block ?_
      refine vc_lp (σ := Nat) [0, 1] [] (fun j => [(5, I (hashF key x j)), (6, I (j : Nat))]) (fun j => []) (fun j => j ≤ 8 * x.size) (fun j => 8 * x.size - j) 0 rfl rfl (sub_i [] (fz ?_) (fz ?_)) ?_ fun j hI => ?_
      · first | trivial | rfl | exact ⟨rfl, rfl⟩
      · first | trivial | rfl
      · exact Nat.zero_le _
      refine vc_nf rfl rfl ?_
      refine vc_seq' ?_
      refine vc_sr ?_
      iterate 4 refine vo ?_
      try refine vwr ?_
      refine vo ?_
      refine vnt ?_
      refine vc_if (fun g3 => ?_) (fun g3 => ?_)
      · refine vc_skip ?_
        refine thn ?_
        refine vc_seq' ?_
        refine vc_block ?_
        refine vc_sr ?_
        iterate 2 refine vo ?_
        refine voc c_impl_keyBit rfl rfl ?_
        refine vo ?_
        refine vnt ?_
        refine vc_if (fun g4 => ?_) (fun g4 => ?_)
        · refine vc_region ?_
          iterate 3 refine vo ?_
          refine voc c_impl_KeyWindow rfl rfl ?_
          iterate 2 refine vo ?_
          refine vnil ?_
          refine inB_n ?_
          refine thn ?_
          refine vc_region ?_
          iterate 2 refine vo ?_
          try refine vwr ?_
          refine vo ?_
          refine vnt ?_
          refine ⟨j + 1, ?_, ?_, sub_i [] (fz ?_) (fz ?_)⟩
          · omega
          · omega
          · first | (refine ⟨?_, rfl⟩; rw [hashF, if_pos (by omega)]; done) | (refine ⟨?_, rfl⟩; rw [hashF, if_neg (by omega)]; done) | trace_state
          · first | trivial | rfl
        · refine vc_skip ?_
          refine inB_n ?_
          refine thn ?_
          refine vc_region ?_
          iterate 2 refine vo ?_
          try refine vwr ?_
          refine vo ?_
          refine vnt ?_
          refine ⟨j + 1, ?_, ?_, sub_i [] (fz ?_) (fz ?_)⟩
          · omega
          · omega
          · first | (refine ⟨?_, rfl⟩; rw [hashF, if_pos (by omega)]; done) | (refine ⟨?_, rfl⟩; rw [hashF, if_neg (by omega)]; done) | trace_state
          · first | trivial | rfl
      · refine vc_exit ?_
        refine thn_x ?_
        refine thn_x ?_
        refine inB_x ?_
        refine thn ?_
        refine vc_sr ?_
        iterate 2 refine vo ?_
        refine vnt ?_
        refine vc_ret ?_
        refine fin_i [] rfl (fz ?_) trivial
        rw [show j = 8 * x.size by omega]
def hinF (si di sp dp : Int) : ByteArray := word32 si ++ word32 di ++ word16 sp ++ word16 dp
theorem hin_le (si di sp dp : Int) : (hinF si di sp dp).size ≤ 12 := by
  have := word32_le si; have := word32_le di; have := word16_le sp; have := word16_le dp
  unfold hinF
  simp only [ByteArray.size_append]; omega
def hflF (key : ByteArray) (si di sp dp : Int) : Int := hashF key (hinF si di sp dp) (8 * (hinF si di sp dp).size)
set_option maxHeartbeats 4000000 in
theorem c_impl_HashInput {kind si di sp dp : Int} : Con0 Tryz.prog 110 [.agg [V kind, V si, V di, V sp, V dp]] (Z (hinF si di sp dp)) [] := by
  refine con_i Tryz.func110 Tryz.ntmps110 (t := [(0, .agg [V kind, V si, V di, V sp, V dp])]) rfl ?_
  refine vc_sr ?_
  iterate 2 refine vo ?_
  refine vnt ?_
  refine vc_sr ?_
  iterate 2 refine vo ?_
  refine voc c_impl_Word32 rfl rfl ?_
  refine vzs (word32_le _) fun z1 => ?_
  iterate 2 refine vo ?_
  refine voc c_impl_Word32 rfl rfl ?_
  refine vzs (word32_le _) fun z2 => ?_
  iterate 3 refine vo ?_
  refine voc c_impl_Word16 rfl rfl ?_
  refine vzs (word16_le _) fun z3 => ?_
  iterate 3 refine vo ?_
  refine voc c_impl_Word16 rfl rfl ?_
  refine vzs (word16_le _) fun z4 => ?_
  iterate 2 refine vo ?_
  refine vnt ?_
  refine vc_ret ?_
  refine fin_i [] rfl (fz ?_) trivial
  rfl
set_option maxHeartbeats 4000000 in
theorem c_impl_HashFlow {key : ByteArray} {kind si di sp dp : Int} (hk : key.size = 16 := by assumption) : Con0 Tryz.prog 78 [Z key, .agg [V kind, V si, V di, V sp, V dp]] (I (hflF key si di sp dp)) [] := by
  have hz := hin_le si di sp dp
  refine con_i Tryz.func78 Tryz.ntmps78 (t := [(0, Z key), (1, .agg [V kind, V si, V di, V sp, V dp])]) rfl ?_
  refine vc_sr ?_
  iterate 2 refine vo ?_
  refine vnt ?_
  refine vc_sr ?_
  iterate 2 refine vo ?_
  refine voc c_impl_HashInput rfl rfl ?_
  refine voc c_impl_HashBytes rfl rfl ?_
  refine vo ?_
  refine vnt ?_
  refine vc_ret ?_
  refine fin_i [] rfl (fz ?_) trivial
  rfl
end Go.Proofs.YtfcmcedeapgdcaaGreat
end
section
namespace Go.Vc
open Go Go.RowKit
set_option linter.unusedVariables false
set_option linter.unusedSectionVars false
set_option linter.unusedSimpArgs false
set_option linter.unnecessarySimpa false
def fldK (g : TypeId → Option (List Nat)) (sz : TypeId → Option Nat) : Nat → List Field → Option (List Nat)
  | _, [] => some []
  | off, f :: fs => if f.name = "_" then none else if f.offset = off then match g f.type with
    | some k1 => if sz f.type = some k1.length then match fldK g sz (off + k1.length) fs with
      | some k2 => some (k1 ++ k2)
      | none => none else none
    | none => none else none
def szT (P : Program) [TyEnv P] (T : TypeId) : Option Nat := (TyEnv.ti P T).map (·.size)
def ksOf (P : Program) [TyEnv P] : Nat → TypeId → Option (List Nat)
  | 0, _ => none
  | d + 1, T => match TyEnv.ti P T with
    | some i => match i.k with
      | .int .i64 => some [0]
      | .bool => some [1]
      | .str => some [2]
      | .struct _ => if P.stoodInHeld T then none else fldK (ksOf P d) (szT P) 0 (P.fieldsOf T).toList
      | _ => none
    | none => none
def rowT (P : Program) [TyEnv P] (T : TypeId) : Bool := match TyEnv.ti P T with
  | some i => i.k.row
  | none => false
def VL (row : Bool) (xs : List Value) (v : Value) : Prop := if row then v = .agg xs.toArray else xs = [v]
theorem kd_0 {a : Value} (h : kd a = 0) : ∃ x, a = .int .i64 x := by
  cases a <;> simp [kd] at h
  rename_i k n
  cases k <;> simp [kd] at h
  exact ⟨n, rfl⟩
theorem kd_1 {a : Value} (h : kd a = 1) : ∃ x, a = .bool x := by
  cases a <;> simp [kd] at h
  · exact ⟨_, rfl⟩
  · rename_i k n; cases k <;> simp [kd] at h
theorem kd_2 {a : Value} (h : kd a = 2) : ∃ x, a = .string x := by
  cases a <;> simp [kd] at h
  · rename_i k n; cases k <;> simp [kd] at h
  · exact ⟨_, rfl⟩
theorem ceqV_app : ∀ (k1 : List Nat) {a1 b1 a2 b2 : List Value}, (∀ k ∈ k1, k < 3) → a1.map kd = k1 → b1.map kd = k1 → ceqV (a1 ++ a2) (b1 ++ b2) = (ceqV a1 b1 && ceqV a2 b2)
  | [], [], [], _, _, _, _, _ => by simp [ceqV]
  | k :: k1, a :: a1, b :: b1, a2, b2, h, ha, hb => by
    simp only [List.map_cons, List.cons.injEq] at ha hb
    have ih := ceqV_app k1 (a2 := a2) (b2 := b2) (fun k hk => h k (List.mem_cons_of_mem _ hk)) ha.2 hb.2
    have hk := h k (List.mem_cons_self ..)
    have : k = 0 ∨ k = 1 ∨ k = 2 := by omega
    rcases this with rfl | rfl | rfl
    · obtain ⟨x, rfl⟩ := kd_0 ha.1
      obtain ⟨y, rfl⟩ := kd_0 hb.1
      simp only [List.cons_append, ceqV, ih, Bool.and_assoc]
    · obtain ⟨x, rfl⟩ := kd_1 ha.1
      obtain ⟨y, rfl⟩ := kd_1 hb.1
      simp only [List.cons_append, ceqV, ih, Bool.and_assoc]
    · obtain ⟨x, rfl⟩ := kd_2 ha.1
      obtain ⟨y, rfl⟩ := kd_2 hb.1
      simp only [List.cons_append, ceqV, ih, Bool.and_assoc]
section
variable {P : Program} [TyEnv P]
theorem fldK_lt {g : TypeId → Option (List Nat)} {sz : TypeId → Option Nat} (hg : ∀ T ks, g T = some ks → ∀ k ∈ ks, k < 3) : ∀ {fs : List Field} {off : Nat} {ks : List Nat}, fldK g sz off fs = some ks → ∀ k ∈ ks, k < 3
  | [], _, _, h => by simp only [fldK, Option.some.injEq] at h; subst h; simp
  | f :: fs, off, ks, h => by
    simp only [fldK] at h
    split at h
    · cases h
    · split at h
      · split at h
        · rename_i k1 h1
          split at h
          · split at h
            · rename_i k2 h2
              simp only [Option.some.injEq] at h
              subst h
              intro k hk
              rcases List.mem_append.1 hk with hk | hk
              · exact hg _ _ h1 k hk
              · exact fldK_lt hg h2 k hk
            · cases h
          · cases h
        · cases h
      · cases h
theorem ksOf_lt : ∀ {d : Nat} {T : TypeId} {ks : List Nat}, ksOf P d T = some ks → ∀ k ∈ ks, k < 3
  | d + 1, T, ks, h => by
    simp only [ksOf] at h
    split at h
    · split at h
      · simp only [Option.some.injEq] at h; subst h; simp
      · simp only [Option.some.injEq] at h; subst h; simp
      · simp only [Option.some.injEq] at h; subst h; simp
      · split at h
        · cases h
        · exact fldK_lt (fun T ks h => ksOf_lt (d := d) h) h
      · cases h
    · cases h
theorem part_ok {T : TypeId} {i : TyI} (hi : TyEnv.ti P T = some i) {xs : List Value} {off : Nat} (h : off + i.size ≤ xs.length) (w : World) : ∃ v, (part T xs.toArray off).run P w = .ok v w ∧ VL i.k.row ((xs.drop off).take i.size) v := by
  obtain ⟨d, hu, hr⟩ := ty_und hi
  cases hrow : i.k.row with
  | true =>
    have hagg : (isAgg T).run P w = .ok true w := by
      unfold isAgg
      rw [Sem.run_bind, run_underlying hu w]
      rw [hrow] at hr
      cases d <;> first | rfl | (cases hr)
    have hz : (Go.sizeOf T).run P w = .ok i.size w := by
      obtain ⟨inf, h1, h2⟩ := Option.map_eq_some_iff.1 (ty_size hi)
      simp [sizeOf, typeInfo, h1, h2]
    refine ⟨.agg (xs.toArray.extract off (off + i.size)), ?_, ?_⟩
    · simp [part, Sem.run_bind, hagg, hz]
    · simp only [VL, if_true]
      congr 1
      rw [List.extract_toArray]
      simp [List.extract, Nat.add_sub_cancel_left]
  | false =>
    have hagg : (isAgg T).run P w = .ok false w := by
      unfold isAgg
      rw [Sem.run_bind, run_underlying hu w]
      rw [hrow] at hr
      cases d <;> first | rfl | (cases hr)
    have h1 := ty_one hi hrow
    have hx : xs[off]? = some (xs[off]'(by omega)) := List.getElem?_eq_getElem (by omega)
    refine ⟨xs[off]'(by omega), ?_, ?_⟩
    · simp [part, Sem.run_bind, hagg, hx]
    · simp only [VL, Bool.false_eq_true, if_false]
      rw [h1, List.drop_eq_getElem_cons (by omega)]; rfl
def EqD (P : Program) [TyEnv P] (N : Nat) (T : TypeId) (ks : List Nat) : Prop := ∀ (w : World) (xs ys : List Value) (u v : Value), xs.map kd = ks → ys.map kd = ks → VL (rowT P T) xs u → VL (rowT P T) ys v → (Op.equalIn N T u v).run P w = .ok (ceqV xs ys) w
theorem flds_ok {N : Nat} {g : TypeId → Option (List Nat)} (hg : ∀ T ks, g T = some ks → EqD P N T ks ∧ ∀ k ∈ ks, k < 3) : ∀ {fs : List Field} {off : Nat} {ks : List Nat}, fldK g (szT P) off fs = some ks → ∀ (w : World) (xs ys : List Value), (xs.drop off).map kd = ks → (ys.drop off).map kd = ks → (Op.eqFields N xs.toArray ys.toArray fs).run P w = .ok (ceqV (xs.drop off) (ys.drop off)) w
  | [], off, ks, h, w, xs, ys, hx, hy => by
    simp only [fldK, Option.some.injEq] at h
    subst h
    have e1 : xs.drop off = [] := by simpa using hx
    have e2 : ys.drop off = [] := by simpa using hy
    simp [Op.eqFields, e1, e2, ceqV]
  | f :: fs, off, ks, h, w, xs, ys, hx, hy => by
    simp only [fldK] at h
    split at h
    · cases h
    · rename_i hn
      split at h
      · rename_i ho
        split at h
        · rename_i k1 h1
          split at h
          · rename_i hs
            split at h
            · rename_i k2 h2
              simp only [Option.some.injEq] at h
              subst h
              obtain ⟨i, hi, hsz⟩ := Option.map_eq_some_iff.1 hs
              have lx := congrArg List.length hx
              have ly := congrArg List.length hy
              simp only [List.length_map, List.length_drop, List.length_append] at lx ly
              have hpos := ty_pos hi
              obtain ⟨u, u1, u2⟩ := part_ok hi (xs := xs) (off := off) (by omega) w
              obtain ⟨v, v1, v2⟩ := part_ok hi (xs := ys) (off := off) (by omega) w
              have hrow : rowT P f.type = i.k.row := by unfold rowT; rw [hi]
              have sx : xs.drop off = (xs.drop off).take i.size ++ xs.drop (off + i.size) := by rw [← List.drop_drop]; exact (List.take_append_drop _ _).symm
              have sy : ys.drop off = (ys.drop off).take i.size ++ ys.drop (off + i.size) := by rw [← List.drop_drop]; exact (List.take_append_drop _ _).symm
              rw [sx, List.map_append] at hx
              rw [sy, List.map_append] at hy
              have hx' := List.append_inj hx (by rw [List.length_map, List.length_take, List.length_drop]; omega)
              have hy' := List.append_inj hy (by rw [List.length_map, List.length_take, List.length_drop]; omega)
              obtain ⟨gE, gl⟩ := hg _ _ h1
              have hr := gE w _ _ u v hx'.1 hy'.1 (by rw [hrow]; exact u2) (by rw [hrow]; exact v2)
              have ih := flds_ok hg h2 w xs ys (by rw [← hsz]; exact hx'.2) (by rw [← hsz]; exact hy'.2)
              simp only [Op.eqFields]
              rw [if_pos hn, ho]
              simp only [Sem.run_bind, u1, v1, hr, Result.andThen_ok]
              have hc : ceqV (xs.drop off) (ys.drop off) = (ceqV ((xs.drop off).take i.size) ((ys.drop off).take i.size) && ceqV (xs.drop (off + i.size)) (ys.drop (off + i.size))) := by
                rw [sx, sy]
                have := ceqV_app k1 (a2 := xs.drop (off + i.size)) (b2 := ys.drop (off + i.size)) gl hx'.1 hy'.1
                rw [← sx, ← sy] at this ⊢
                exact this
              rw [hc]
              cases hb : ceqV ((xs.drop off).take i.size) ((ys.drop off).take i.size) with
              | false => simp
              | true =>
                simp only [Bool.not_true, Bool.false_eq_true, if_false, Bool.true_and]
                rw [hsz]; exact ih
            · cases h
          · cases h
        · cases h
      · cases h
theorem ksOf_ok : ∀ {d N : Nat} {T : TypeId} {ks : List Nat}, ksOf P d T = some ks → d ≤ N → EqD P N T ks
  | d + 1, 0, T, ks, h, hN => by omega
  | d + 1, N + 1, T, ks, h, hN => by
    intro w xs ys u v hx hy hu hv
    simp only [ksOf] at h
    split at h
    · rename_i i hi
      have hrow : rowT P T = i.k.row := by unfold rowT; rw [hi]
      rw [hrow] at hu hv
      have hkind := ty_kind hi
      split at h
      · rename_i hk
        simp only [Option.some.injEq] at h; subst h
        rw [hk] at hu hv hkind
        simp only [VL, TK.row, Bool.false_eq_true, if_false] at hu hv
        subst hu hv
        simp only [List.map_cons, List.map_nil, List.cons.injEq, and_true] at hx hy
        obtain ⟨a, rfl⟩ := kd_0 hx
        obtain ⟨b, rfl⟩ := kd_0 hy
        rw [run_equalIn_int w N T _ _ a b hkind]
        simp only [ceqV, Bool.and_true]
        congr 1
      · rename_i hk
        simp only [Option.some.injEq] at h; subst h
        rw [hk] at hu hv hkind
        simp only [VL, TK.row, Bool.false_eq_true, if_false] at hu hv
        subst hu hv
        simp only [List.map_cons, List.map_nil, List.cons.injEq, and_true] at hx hy
        obtain ⟨a, rfl⟩ := kd_1 hx
        obtain ⟨b, rfl⟩ := kd_1 hy
        rw [run_equalIn_bool' w N T a b hkind]
        simp only [ceqV, Bool.and_true]
      · rename_i hk
        simp only [Option.some.injEq] at h; subst h
        rw [hk] at hu hv hkind
        simp only [VL, TK.row, Bool.false_eq_true, if_false] at hu hv
        subst hu hv
        simp only [List.map_cons, List.map_nil, List.cons.injEq, and_true] at hx hy
        obtain ⟨a, rfl⟩ := kd_2 hx
        obtain ⟨b, rfl⟩ := kd_2 hy
        rw [run_equalIn_string w N T a b hkind, str_beq]
        simp only [ceqV, Bool.and_true]
      · rename_i fs hk
        split at h
        · cases h
        · rename_i hst
          rw [hk] at hu hv hkind
          simp only [VL, TK.row, if_true] at hu hv
          subst hu hv
          rw [run_equalIn_struct w N T _ _ hkind.1 (by simpa using hst)]
          have := flds_ok (N := N) (g := ksOf P d) (fun T ks h => ⟨ksOf_ok h (by omega), ksOf_lt h⟩) h w xs ys (by rw [List.drop_zero]; exact hx) (by rw [List.drop_zero]; exact hy)
          rw [List.drop_zero, List.drop_zero] at this
          exact this
      · cases h
    · cases h
theorem eqOk_of {T : TypeId} {ks : List Nat} (d : Nat) (h : ksOf P d T = some ks) (hd : d ≤ 10000) (hr : rowT P T = true) (hg : P.eqGuardType P.depth T = false) : EqOk P T ks := by
  refine ⟨hg, fun w xs ys hx hy => ?_⟩
  have := ksOf_ok h hd w xs ys _ _ hx hy (by rw [hr]; exact rfl) (by rw [hr]; exact rfl)
  simpa [Op.equal, Op.maxDepth] using this
end
end Go.Vc
end
section
namespace Go.Proofs.YtfcmcedeapgdcaaGreat
open Go Go.RowKit Go.Vc
set_option linter.unusedVariables false
set_option linter.unusedSimpArgs false
set_option linter.unnecessarySimpa false
theorem eqk_Packet : EqOk Tryz.prog 35 [0, 0, 0, 0, 0, 0, 0, 0, 0, 0, 0, 0, 0, 0, 0, 2] := eqOk_of 4 (by kernel_rfl) (by decide) (by kernel_rfl) (by kernel_rfl)
theorem eqk_Super : EqOk Tryz.prog 37 [0, 0, 0, 0, 0, 0, 0, 0, 0, 0, 0, 0, 0, 0, 0, 2, 0, 0] := eqOk_of 4 (by kernel_rfl) (by decide) (by kernel_rfl) (by kernel_rfl)
def samB (dm sm vl tos id ttl si di kind sp dp seq ack fl win dm2 sm2 vl2 tos2 id2 ttl2 si2 di2 kind2 sp2 dp2 seq2 ack2 fl2 win2 : Int) : Bool := decide (dm = dm2) && decide (sm = sm2) && decide (vl = vl2) && decide (tos = tos2) && decide (ttl = ttl2) && decide (si = si2) && decide (di = di2) && decide (kind = kind2) && decide (sp = sp2) && decide (dp = dp2) && decide (ack = ack2) && decide (win = win2)
def noHeld (dm sm vl tos id ttl si di kind sp dp seq ack fl win : Int) (body : ByteArray) (size count : Int) : Bool := decide (dm = 0) && decide (sm = 0) && decide (vl = 0) && decide (tos = 0) && decide (id = 0) && decide (ttl = 0) && decide (si = 0) && decide (di = 0) && decide (kind = 0) && decide (sp = 0) && decide (dp = 0) && decide (seq = 0) && decide (ack = 0) && decide (fl = 0) && decide (win = 0) && decide (body = ⟨#[]⟩) && decide (size = 0) && decide (count = 0)
def rxOkB (rb rs rh rt db ds dc vb vs vc dm sm vl tos id ttl si di kind sp dp seq ack fl win : Int) (body : ByteArray) (size count : Int) (hold : Bool) (dropped : Int) : Bool := ringOkB rb rs rh rt && (queueOkB db ds dc && (queueOkB vb vs vc && (decide (db = vb) && (decide (ds = vs) && (inB dropped 0 1000000000000 && (if hold then superOkB dm sm vl tos id ttl si di kind sp dp seq ack fl win body.size && (inB size 0 320 && inB count 1 320) else noHeld dm sm vl tos id ttl si di kind sp dp seq ack fl win body size count))))))
set_option maxHeartbeats 4000000 in
theorem c_impl_FlowOf {dm sm vl tos id ttl si di kind sp dp seq ack fl win : Int} {body : ByteArray} : Con0 Tryz.prog 79 [.agg [V dm, V sm, V vl, V tos, V id, V ttl, V si, V di, V kind, V sp, V dp, V seq, V ack, V fl, V win, VS body]] (.agg [V kind, V si, V di, V sp, V dp]) [] := by
  refine con_i Tryz.func79 Tryz.ntmps79 (t := [(0, .agg [V dm, V sm, V vl, V tos, V id, V ttl, V si, V di, V kind, V sp, V dp, V seq, V ack, V fl, V win, VS body])]) rfl ?_
  refine vc_sr ?_
  iterate 2 refine vo ?_
  refine vnt ?_
  refine vc_sr ?_
  iterate 15 refine vo ?_
  refine vnt ?_
  refine vc_ret ?_
  refine fin_i [] rfl (fz ?_) trivial
  simp
set_option maxHeartbeats 4000000 in
theorem c_impl_Single {dm sm vl tos id ttl si di kind sp dp seq ack fl win : Int} {body : ByteArray} : Con0 Tryz.prog 32 [.agg [V dm, V sm, V vl, V tos, V id, V ttl, V si, V di, V kind, V sp, V dp, V seq, V ack, V fl, V win, VS body]] (.agg [V dm, V sm, V vl, V tos, V id, V ttl, V si, V di, V kind, V sp, V dp, V seq, V ack, V fl, V win, VS body, V body.size, V 1]) [] := by
  refine con_i Tryz.func32 Tryz.ntmps32 (t := [(0, .agg [V dm, V sm, V vl, V tos, V id, V ttl, V si, V di, V kind, V sp, V dp, V seq, V ack, V fl, V win, VS body])]) rfl ?_
  refine vc_sr ?_
  iterate 2 refine vo ?_
  refine vnt ?_
  refine vc_sr ?_
  iterate 7 refine vo ?_
  refine vnt ?_
  refine vc_ret ?_
  refine fin_i [] rfl (fz ?_) trivial
  simp
set_option maxHeartbeats 4000000 in
theorem c_impl_SamePath {dm sm vl tos id ttl si di kind sp dp seq ack fl win dm2 sm2 vl2 tos2 id2 ttl2 si2 di2 kind2 sp2 dp2 seq2 ack2 fl2 win2 : Int} {body body2 : ByteArray} : Con0 Tryz.prog 72 [.agg [V dm, V sm, V vl, V tos, V id, V ttl, V si, V di, V kind, V sp, V dp, V seq, V ack, V fl, V win, VS body], .agg [V dm2, V sm2, V vl2, V tos2, V id2, V ttl2, V si2, V di2, V kind2, V sp2, V dp2, V seq2, V ack2, V fl2, V win2, VS body2]] (B (samB dm sm vl tos id ttl si di kind sp dp seq ack fl win dm2 sm2 vl2 tos2 id2 ttl2 si2 di2 kind2 sp2 dp2 seq2 ack2 fl2 win2)) [] := by
  have hE := eqk_Packet
  refine con_i Tryz.func72 Tryz.ntmps72 (t := [(0, .agg [V dm, V sm, V vl, V tos, V id, V ttl, V si, V di, V kind, V sp, V dp, V seq, V ack, V fl, V win, VS body]), (1, .agg [V dm2, V sm2, V vl2, V tos2, V id2, V ttl2, V si2, V di2, V kind2, V sp2, V dp2, V seq2, V ack2, V fl2, V win2, VS body2])]) rfl ?_
  refine vc_sr ?_
  iterate 3 refine vo ?_
  refine vnt ?_
  refine vc_sr ?_
  iterate 4 refine vo ?_
  refine vnt ?_
  refine vc_sr ?_
  iterate 6 refine vo ?_
  refine vnt ?_
  refine vc_sr ?_
  iterate 6 refine vo ?_
  refine vnt ?_
  refine vc_sr ?_
  iterate 6 refine vo ?_
  refine vnt ?_
  refine vc_sr ?_
  iterate 4 refine vo ?_
  refine vnt ?_
  refine vc_ret ?_
  refine fin_i [] rfl (fz ?_) trivial
  simp [ceqV, samB, Bool.and_assoc]
set_option maxHeartbeats 4000000 in
theorem c_impl_RxOk {rb rs rh rt db ds dc vb vs vc dm sm vl tos id ttl si di kind sp dp seq ack fl win size count dropped : Int} {body : ByteArray} {hold : Bool} : Con0 Tryz.prog 12 [.agg [V rb, V rs, V rh, V rt, V db, V ds, V dc, V vb, V vs, V vc, V dm, V sm, V vl, V tos, V id, V ttl, V si, V di, V kind, V sp, V dp, V seq, V ack, V fl, V win, VS body, V size, V count, VB hold, V dropped]] (B (rxOkB rb rs rh rt db ds dc vb vs vc dm sm vl tos id ttl si di kind sp dp seq ack fl win body size count hold dropped)) [] := by
  have hE := eqk_Super
  refine con_i Tryz.func12 Tryz.ntmps12 (t := [(0, .agg [V rb, V rs, V rh, V rt, V db, V ds, V dc, V vb, V vs, V vc, V dm, V sm, V vl, V tos, V id, V ttl, V si, V di, V kind, V sp, V dp, V seq, V ack, V fl, V win, VS body, V size, V count, VB hold, V dropped])]) rfl ?_
  refine vc_sr ?_
  iterate 2 refine vo ?_
  refine vnt ?_
  refine vc_seq' ?_
  refine vc_sr ?_
  iterate 2 refine vo ?_
  refine voc c_impl_RingOk rfl rfl ?_
  iterate 2 refine vo ?_
  refine vsp (fun g1 => ?_) (fun g1 => ?_)
  · iterate 4 refine vof ?_
    iterate 2 refine vo ?_
    iterate 4 refine vof ?_
    iterate 2 refine vo ?_
    iterate 7 refine vof ?_
    iterate 2 refine vo ?_
    iterate 7 refine vof ?_
    iterate 2 refine vo ?_
    iterate 4 refine vof ?_
    refine vo ?_
    refine vnt ?_
    refine vc_then ?_
    refine vc_sr ?_
    refine vo ?_
    refine vnt ?_
    refine vc_ret ?_
    refine thn_r ?_
    refine fin_i [] rfl (fz ?_) trivial
    rw [rxOkB, g1]
    simp
  · iterate 2 refine von ?_
    refine vocn c_impl_QueueOk rfl rfl ?_
    refine von ?_
    iterate 2 refine vo ?_
    refine vsp (fun g2 => ?_) (fun g2 => ?_)
    · iterate 4 refine vof ?_
      iterate 2 refine vo ?_
      iterate 7 refine vof ?_
      iterate 2 refine vo ?_
      iterate 7 refine vof ?_
      iterate 2 refine vo ?_
      iterate 4 refine vof ?_
      refine vo ?_
      refine vnt ?_
      refine vc_then ?_
      refine vc_sr ?_
      refine vo ?_
      refine vnt ?_
      refine vc_ret ?_
      refine thn_r ?_
      refine fin_i [] rfl (fz ?_) trivial
      rw [rxOkB, g1, g2]
      simp
    · iterate 2 refine von ?_
      refine vocn c_impl_QueueOk rfl rfl ?_
      refine von ?_
      iterate 2 refine vo ?_
      refine vsp (fun g3 => ?_) (fun g3 => ?_)
      · iterate 7 refine vof ?_
        iterate 2 refine vo ?_
        iterate 7 refine vof ?_
        iterate 2 refine vo ?_
        iterate 4 refine vof ?_
        refine vo ?_
        refine vnt ?_
        refine vc_then ?_
        refine vc_sr ?_
        refine vo ?_
        refine vnt ?_
        refine vc_ret ?_
        refine thn_r ?_
        refine fin_i [] rfl (fz ?_) trivial
        rw [rxOkB, g1, g2, g3]
        simp
      · iterate 7 refine von ?_
        iterate 2 refine vo ?_
        refine vsp (fun g4 => ?_) (fun g4 => ?_)
        · iterate 7 refine vof ?_
          iterate 2 refine vo ?_
          iterate 4 refine vof ?_
          refine vo ?_
          refine vnt ?_
          refine vc_then ?_
          refine vc_sr ?_
          refine vo ?_
          refine vnt ?_
          refine vc_ret ?_
          refine thn_r ?_
          refine fin_i [] rfl (fz ?_) trivial
          rw [rxOkB, g1, g2, g3, decide_eq_false g4]
          simp
        · iterate 7 refine von ?_
          iterate 2 refine vo ?_
          refine vsp (fun g5 => ?_) (fun g5 => ?_)
          · iterate 4 refine vof ?_
            refine vo ?_
            refine vnt ?_
            refine vc_then ?_
            refine vc_sr ?_
            refine vo ?_
            refine vnt ?_
            refine vc_ret ?_
            refine thn_r ?_
            refine fin_i [] rfl (fz ?_) trivial
            rw [rxOkB, g1, g2, g3, decide_eq_true g4, decide_eq_false g5]
            simp
          · iterate 2 refine von ?_
            refine vocn c_impl_between rfl rfl ?_
            refine von ?_
            refine vo ?_
            refine vnt ?_
            refine vc_if (fun g6 => ?_) (fun g6 => ?_)
            · refine vc_sr ?_
              refine vo ?_
              refine vnt ?_
              refine vc_ret ?_
              refine thn_r ?_
              refine fin_i [] rfl (fz ?_) trivial
              rw [rxOkB, g1, g2, g3, decide_eq_true g4, decide_eq_true g5, g6]
              simp
            · refine vc_skip ?_
              refine thn ?_
              refine vc_seq' ?_
              refine vc_sr ?_
              iterate 3 refine vo ?_
              refine vnt ?_
              refine vc_if (fun g7 => ?_) (fun g7 => ?_)
              · refine vc_sr ?_
                iterate 5 refine vo ?_
                refine vnt ?_
                refine vc_ret ?_
                refine thn_r ?_
                refine fin_i [] rfl (fz ?_) trivial
                rw [rxOkB, g1, g2, g3, decide_eq_true g4, decide_eq_true g5, g6]
                rw [g7]
                simp [ceqV, noHeld, Bool.and_assoc]
              · refine vc_skip ?_
                refine thn ?_
                refine vc_sr ?_
                iterate 3 refine vo ?_
                refine voc c_impl_SuperOk rfl rfl ?_
                refine vo ?_
                refine vsp (fun g8 => ?_) (fun g8 => ?_)
                · iterate 3 refine von ?_
                  refine vocn c_impl_between rfl rfl ?_
                  iterate 2 refine vo ?_
                  refine vsp (fun g9 => ?_) (fun g9 => ?_)
                  · iterate 3 refine von ?_
                    refine vocn c_impl_between rfl rfl ?_
                    iterate 2 refine vo ?_
                    refine vnt ?_
                    refine vc_ret ?_
                    refine fin_i [] rfl (fz ?_) trivial
                    rw [rxOkB, g1, g2, g3, decide_eq_true g4, decide_eq_true g5, g6]
                    rw [g7]
                    simp [g8, g9]
                  · iterate 4 refine vof ?_
                    iterate 2 refine vo ?_
                    refine vnt ?_
                    refine vc_ret ?_
                    refine fin_i [] rfl (fz ?_) trivial
                    rw [rxOkB, g1, g2, g3, decide_eq_true g4, decide_eq_true g5, g6]
                    rw [g7]
                    simp [g8, g9]
                · iterate 4 refine vof ?_
                  iterate 2 refine vo ?_
                  iterate 4 refine vof ?_
                  iterate 2 refine vo ?_
                  refine vnt ?_
                  refine vc_ret ?_
                  refine fin_i [] rfl (fz ?_) trivial
                  rw [rxOkB, g1, g2, g3, decide_eq_true g4, decide_eq_true g5, g6]
                  rw [g7]
                  simp [g8]
set_option maxHeartbeats 4000000 in
theorem c_spec_FlowOf {dm sm vl tos id ttl si di kind sp dp seq ack fl win : Int} {body : ByteArray} : Con0 Tryz.prog 53 [.agg [V dm, V sm, V vl, V tos, V id, V ttl, V si, V di, V kind, V sp, V dp, V seq, V ack, V fl, V win, VS body]] (.agg [V kind, V si, V di, V sp, V dp]) [] := by
  refine con_i Tryz.func53 Tryz.ntmps53 (t := [(0, .agg [V dm, V sm, V vl, V tos, V id, V ttl, V si, V di, V kind, V sp, V dp, V seq, V ack, V fl, V win, VS body])]) rfl ?_
  refine vc_sr ?_
  iterate 2 refine vo ?_
  refine vnt ?_
  refine vc_sr ?_
  iterate 15 refine vo ?_
  refine vnt ?_
  refine vc_ret ?_
  refine fin_i [] rfl (fz ?_) trivial
  simp
end Go.Proofs.YtfcmcedeapgdcaaGreat
end
section
namespace Go.Proofs.YtfcmcedeapgdcaaGreat
open Go Go.RowKit Go.Vc
set_option linter.unusedVariables false
set_option linter.unusedSimpArgs false
set_option linter.unnecessarySimpa false
theorem dec_n {s : ByteArray} (h : ¬ s.size = 16 ∨ ¬ encDF (bAt s 0) (bAt s 1) (get16 s 2) (get32 s 4) (get16 s 8) (get16 s 10) = s) : decDF s = ((0, 0, 0, 0, 0, 0), false) := by
  unfold decDF
  split
  · split
    · rename_i h1 h2
      rcases h with h | h
      · exact (h h1).elim
      · exact (h h2).elim
    · rfl
  · rfl
theorem dec_y {s : ByteArray} (h1 : s.size = 16) (h2 : encDF (bAt s 0) (bAt s 1) (get16 s 2) (get32 s 4) (get16 s 8) (get16 s 10) = s) : decDF s = (decX s, true) := by
  unfold decDF
  rw [if_pos h1, if_pos h2]
theorem dec_at (s : ByteArray) : (decDF s).1.2.2.2.1 ≤ 4294967295 := by
  have := get32_bd s 4
  unfold decDF
  split
  · split
    · exact this.2
    · simp
  · simp
theorem dw_len (l : List Mp) (ps : Pg) (d a : Int) (s : ByteArray) (wt : Bool) : (dmaWF l ps d a s wt).1.length = ps.length := dmaWF_len (qs := (dmaWF l ps d a s wt).1) (ok := (dmaWF l ps d a s wt).2) rfl
set_option maxHeartbeats 4000000 in
theorem c_impl_DecodeDesc {s : ByteArray} (hs_s : s.size ≤ 1099511627776 := by first | with_reducible assumption | omega | (simp only [ByteArray.size_append, ByteArray.size_extract, strOfNums_size, List.length_cons, List.length_nil]; omega)) : Con0 Tryz.prog 75 [Z s] (.tup [.agg [V (decDF s).1.1, V (decDF s).1.2.1, V (decDF s).1.2.2.1, V (decDF s).1.2.2.2.1, V (decDF s).1.2.2.2.2.1, V (decDF s).1.2.2.2.2.2], B (decDF s).2]) [] := by
  refine con_i Tryz.func75 Tryz.ntmps75 (t := [(0, Z s)]) rfl ?_
  refine vc_sr ?_
  iterate 2 refine vo ?_
  refine vnt ?_
  refine vc_seq' ?_
  refine vc_sr ?_
  iterate 3 refine vo ?_
  refine vnt ?_
  refine vc_if (fun g1 => ?_) (fun g1 => ?_)
  · refine vc_sr ?_
    iterate 3 refine vo ?_
    refine vnt ?_
    refine vc_ret ?_
    refine thn_r ?_
    refine fin_i [] rfl (fz ?_) trivial
    rw [dec_n (.inl (by omega))]
    simp
  · refine vc_skip ?_
    refine thn ?_
    refine vc_sr ?_
    iterate 3 refine vo ?_
    refine veq (i64_byt s 0) ?_
    iterate 3 refine vo ?_
    refine veq (i64_byt s 1) ?_
    refine vo ?_
    refine voc c_impl_Get16 rfl rfl ?_
    refine vo ?_
    refine voc c_impl_Get32 rfl rfl ?_
    refine vo ?_
    refine voc c_impl_Get16 rfl rfl ?_
    refine vo ?_
    refine voc c_impl_Get16 rfl rfl ?_
    iterate 3 refine vo ?_
    refine vnt ?_
    refine vc_seq' ?_
    refine vc_sr ?_
    refine vo ?_
    refine voc c_impl_EncodeDesc rfl rfl ?_
    iterate 2 refine vo ?_
    refine vnt ?_
    refine vc_if (fun g2 => ?_) (fun g2 => ?_)
    · refine vc_sr ?_
      iterate 3 refine vo ?_
      refine vnt ?_
      refine vc_ret ?_
      refine thn_r ?_
      refine fin_i [] rfl (fz ?_) trivial
      rw [dec_n (.inr g2)]
      simp
    · refine vc_skip ?_
      refine thn ?_
      refine vc_sr ?_
      iterate 3 refine vo ?_
      refine vnt ?_
      refine vc_ret ?_
      refine fin_i [] rfl (fz ?_) trivial
      rw [dec_y (by omega) g2]
      simp [decX]
def stF (l : List Mp) (ps : Pg) (d db ds dc dm sm vl tos id ttl si di kind sp dp seq ack fl win : Int) (body : ByteArray) (size count : Int) (key entry : ByteArray) : Pg × Int × Bool :=
  if (decDF entry).2 = true ∧ (decDF entry).1.1 = 3 ∧ ¬ (decDF entry).1.2.2.1 < ((imgR dm sm vl tos id ttl si di kind sp dp seq ack fl win body).size : Int) then
    if (dmaWF l ps d (decDF entry).1.2.2.2.1 (imgR dm sm vl tos id ttl si di kind sp dp seq ack fl win body) true).2 = true then putC l (dmaWF l ps d (decDF entry).1.2.2.2.1 (imgR dm sm vl tos id ttl si di kind sp dp seq ack fl win body) true).1 d db ds dc (decDF entry).1.2.2.2.2.2 (imgR dm sm vl tos id ttl si di kind sp dp seq ack fl win body).size size count (hflF key si di sp dp) else (ps, dc, false)
  else (ps, dc, false)
theorem st_n {l : List Mp} {ps : Pg} {d db ds dc dm sm vl tos id ttl si di kind sp dp seq ack fl win size count : Int} {body key entry : ByteArray} (h : (decDF entry).2 = false ∨ ¬ (decDF entry).1.1 = 3 ∨ (decDF entry).1.2.2.1 < ((imgR dm sm vl tos id ttl si di kind sp dp seq ack fl win body).size : Int) ∨ (dmaWF l ps d (decDF entry).1.2.2.2.1 (imgR dm sm vl tos id ttl si di kind sp dp seq ack fl win body) true).2 = false) : stF l ps d db ds dc dm sm vl tos id ttl si di kind sp dp seq ack fl win body size count key entry = (ps, dc, false) := by
  unfold stF
  split
  · rename_i h1
    split
    · rename_i h2
      rcases h with h | h | h | h
      · rw [h1.1] at h; cases h
      · exact (h h1.2.1).elim
      · exact (h1.2.2 h).elim
      · rw [h2] at h; cases h
    · rfl
  · rfl
theorem st_y {l : List Mp} {ps : Pg} {d db ds dc dm sm vl tos id ttl si di kind sp dp seq ack fl win size count : Int} {body key entry : ByteArray} (h1 : (decDF entry).2 = true) (h2 : (decDF entry).1.1 = 3) (h3 : ((imgR dm sm vl tos id ttl si di kind sp dp seq ack fl win body).size : Int) ≤ (decDF entry).1.2.2.1) (h4 : (dmaWF l ps d (decDF entry).1.2.2.2.1 (imgR dm sm vl tos id ttl si di kind sp dp seq ack fl win body) true).2 = true) : stF l ps d db ds dc dm sm vl tos id ttl si di kind sp dp seq ack fl win body size count key entry = putC l (dmaWF l ps d (decDF entry).1.2.2.2.1 (imgR dm sm vl tos id ttl si di kind sp dp seq ack fl win body) true).1 d db ds dc (decDF entry).1.2.2.2.2.2 (imgR dm sm vl tos id ttl si di kind sp dp seq ack fl win body).size size count (hflF key si di sp dp) := by
  unfold stF
  rw [if_pos ⟨h1, h2, by omega⟩, if_pos h4]
set_option maxHeartbeats 4000000 in
theorem c_impl_storeHeld_n {l : List Mp} {ps : Pg} {d rb rs rh rt db ds dc vb vs vc dm sm vl tos id ttl si di kind sp dp seq ack fl win size count dropped : Int} {body key entry : ByteArray} {hold : Bool} (hl : l.length ≤ 1099511627776 := by first | with_reducible assumption | omega) (hp : ps.length ≤ 1099511627776 := by first | with_reducible assumption | omega) (hk : key.size = 16 := by assumption) (hsp : superOkB dm sm vl tos id ttl si di kind sp dp seq ack fl win body.size = true := by assumption) (hse : entry.size ≤ 1099511627776 := by first | assumption | omega) (hn : (stF l ps d db ds dc dm sm vl tos id ttl si di kind sp dp seq ack fl win body size count key entry).2.2 = false := by assumption) : Con0 Tryz.prog 34 [.one (.sl 4 (l.map mpE)), .agg [.sl 1 (ps.map strE)], I d, .agg [V rb, V rs, V rh, V rt, V db, V ds, V dc, V vb, V vs, V vc, V dm, V sm, V vl, V tos, V id, V ttl, V si, V di, V kind, V sp, V dp, V seq, V ack, V fl, V win, VS body, V size, V count, VB hold, V dropped], Z key, Z entry] (.tup [.agg [.junk], .agg [V db, V ds, V (stF l ps d db ds dc dm sm vl tos id ttl si di kind sp dp seq ack fl win body size count key entry).2.1], B false]) [] := by
  have hi := sup_img hsp
  have ha := dec_at entry
  have hln := dw_len l ps d (decDF entry).1.2.2.2.1 (imgR dm sm vl tos id ttl si di kind sp dp seq ack fl win body) true
  refine con_i Tryz.func34 Tryz.ntmps34 (t := [(0, .one (.sl 4 (l.map mpE))), (1, .agg [.sl 1 (ps.map strE)]), (2, I d), (3, .agg [V rb, V rs, V rh, V rt, V db, V ds, V dc, V vb, V vs, V vc, V dm, V sm, V vl, V tos, V id, V ttl, V si, V di, V kind, V sp, V dp, V seq, V ack, V fl, V win, VS body, V size, V count, VB hold, V dropped]), (4, Z key), (5, Z entry)]) rfl ?_
  refine vc_sr ?_
  iterate 5 refine vo ?_
  refine vnt ?_
  refine vc_sr ?_
  refine vo ?_
  refine voc c_impl_DecodeDesc rfl rfl ?_
  iterate 6 refine vo ?_
  refine vnt ?_
  refine vc_sr ?_
  iterate 3 refine vo ?_
  refine voc c_impl_BuildImage rfl rfl ?_
  iterate 5 refine vo ?_
  refine vnt ?_
  refine vc_seq' ?_
  refine vc_sr ?_
  iterate 3 refine vo ?_
  refine vsp (fun g1 => ?_) (fun g1 => ?_)
  · iterate 2 refine vof ?_
    iterate 2 refine vo ?_
    iterate 3 refine vof ?_
    iterate 2 refine vo ?_
    iterate 5 refine vof ?_
    refine vo ?_
    refine vnt ?_
    refine vc_then ?_
    refine vc_sr ?_
    iterate 6 refine vo ?_
    refine vnt ?_
    refine vc_ret ?_
    refine thn_r ?_
    have hst : stF l ps d db ds dc dm sm vl tos id ttl si di kind sp dp seq ack fl win body size count key entry = (ps, dc, false) := st_n (.inl g1)
    refine fin_i [] rfl (fz ?_) trivial
    simp [hst]
  · iterate 2 refine von ?_
    iterate 2 refine vo ?_
    refine vsp (fun g2 => ?_) (fun g2 => ?_)
    · rw [hi.1] at g2; cases g2
    · iterate 3 refine von ?_
      iterate 2 refine vo ?_
      refine vsp (fun g3 => ?_) (fun g3 => ?_)
      · iterate 5 refine vof ?_
        refine vo ?_
        refine vnt ?_
        refine vc_then ?_
        refine vc_sr ?_
        iterate 6 refine vo ?_
        refine vnt ?_
        refine vc_ret ?_
        refine thn_r ?_
        have hst : stF l ps d db ds dc dm sm vl tos id ttl si di kind sp dp seq ack fl win body size count key entry = (ps, dc, false) := st_n (.inr (.inl g3))
        refine fin_i [] rfl (fz ?_) trivial
        simp [hst]
      · iterate 5 refine von ?_
        refine vo ?_
        refine vnt ?_
        refine vc_if (fun g4 => ?_) (fun g4 => ?_)
        · refine vc_sr ?_
          iterate 6 refine vo ?_
          refine vnt ?_
          refine vc_ret ?_
          refine thn_r ?_
          have hst : stF l ps d db ds dc dm sm vl tos id ttl si di kind sp dp seq ack fl win body size count key entry = (ps, dc, false) := st_n (.inr (.inr (.inl g4)))
          refine fin_i [] rfl (fz ?_) trivial
          simp [hst]
        · refine vc_skip ?_
          refine thn ?_
          refine vc_sr ?_
          iterate 6 refine vo ?_
          refine voc c_impl_DmaWrite rfl rfl ?_
          iterate 6 refine vo ?_
          refine vnt ?_
          refine vc_seq' ?_
          refine vc_sr ?_
          iterate 2 refine vo ?_
          refine vnt ?_
          refine vc_if (fun g5 => ?_) (fun g5 => ?_)
          · refine vc_sr ?_
            iterate 6 refine vo ?_
            refine vnt ?_
            refine vc_ret ?_
            refine thn_r ?_
            have hst : stF l ps d db ds dc dm sm vl tos id ttl si di kind sp dp seq ack fl win body size count key entry = (ps, dc, false) := st_n (.inr (.inr (.inr g5)))
            refine fin_i [] rfl (fz ?_) trivial
            simp [hst]
          · refine vc_skip ?_
            refine thn ?_
            refine vc_sr ?_
            iterate 14 refine vo ?_
            refine voc c_impl_FlowOf rfl rfl ?_
            refine voc c_impl_HashFlow rfl rfl ?_
            iterate 3 refine vo ?_
            refine vnt ?_
            refine vc_sr ?_
            iterate 6 refine vo ?_
            refine voc c_impl_PutCompletion rfl rfl ?_
            iterate 6 refine vo ?_
            refine vnt ?_
            refine vc_ret ?_
            have hst := st_y (l := l) (ps := ps) (d := d) (db := db) (ds := ds) (dc := dc) (size := size) (count := count) (key := key) g1 g3 g4 g5
            refine fin_i [] rfl (fz ?_) trivial
            rw [hst] at hn ⊢
            simp [hn]
set_option maxHeartbeats 4000000 in
theorem c_impl_storeHeld_y {l : List Mp} {ps : Pg} {d rb rs rh rt db ds dc vb vs vc dm sm vl tos id ttl si di kind sp dp seq ack fl win size count dropped : Int} {body key entry : ByteArray} {hold : Bool} (hl : l.length ≤ 1099511627776 := by first | with_reducible assumption | omega) (hp : ps.length ≤ 1099511627776 := by first | with_reducible assumption | omega) (hk : key.size = 16 := by assumption) (hsp : superOkB dm sm vl tos id ttl si di kind sp dp seq ack fl win body.size = true := by assumption) (hse : entry.size ≤ 1099511627776 := by first | assumption | omega) (hy : (stF l ps d db ds dc dm sm vl tos id ttl si di kind sp dp seq ack fl win body size count key entry).2.2 = true := by assumption) : Con0 Tryz.prog 34 [.one (.sl 4 (l.map mpE)), .agg [.sl 1 (ps.map strE)], I d, .agg [V rb, V rs, V rh, V rt, V db, V ds, V dc, V vb, V vs, V vc, V dm, V sm, V vl, V tos, V id, V ttl, V si, V di, V kind, V sp, V dp, V seq, V ack, V fl, V win, VS body, V size, V count, VB hold, V dropped], Z key, Z entry] (.tup [.agg [.hs 0], .agg [V db, V ds, V (stF l ps d db ds dc dm sm vl tos id ttl si di kind sp dp seq ack fl win body size count key entry).2.1], B true]) [(0, .arr 9 1 ((stF l ps d db ds dc dm sm vl tos id ttl si di kind sp dp seq ack fl win body size count key entry).1.map strE))] := by
  have hi := sup_img hsp
  have ha := dec_at entry
  have hln := dw_len l ps d (decDF entry).1.2.2.2.1 (imgR dm sm vl tos id ttl si di kind sp dp seq ack fl win body) true
  refine con_i Tryz.func34 Tryz.ntmps34 (t := [(0, .one (.sl 4 (l.map mpE))), (1, .agg [.sl 1 (ps.map strE)]), (2, I d), (3, .agg [V rb, V rs, V rh, V rt, V db, V ds, V dc, V vb, V vs, V vc, V dm, V sm, V vl, V tos, V id, V ttl, V si, V di, V kind, V sp, V dp, V seq, V ack, V fl, V win, VS body, V size, V count, VB hold, V dropped]), (4, Z key), (5, Z entry)]) rfl ?_
  refine vc_sr ?_
  iterate 5 refine vo ?_
  refine vnt ?_
  refine vc_sr ?_
  refine vo ?_
  refine voc c_impl_DecodeDesc rfl rfl ?_
  iterate 6 refine vo ?_
  refine vnt ?_
  refine vc_sr ?_
  iterate 3 refine vo ?_
  refine voc c_impl_BuildImage rfl rfl ?_
  iterate 5 refine vo ?_
  refine vnt ?_
  refine vc_seq' ?_
  refine vc_sr ?_
  iterate 3 refine vo ?_
  refine vsp (fun g1 => ?_) (fun g1 => ?_)
  · iterate 2 refine vof ?_
    iterate 2 refine vo ?_
    iterate 3 refine vof ?_
    iterate 2 refine vo ?_
    iterate 5 refine vof ?_
    refine vo ?_
    refine vnt ?_
    refine vc_then ?_
    refine vc_sr ?_
    iterate 6 refine vo ?_
    refine vnt ?_
    refine vc_ret ?_
    refine thn_r ?_
    rw [st_n (.inl g1)] at hy
    cases hy
  · iterate 2 refine von ?_
    iterate 2 refine vo ?_
    refine vsp (fun g2 => ?_) (fun g2 => ?_)
    · rw [hi.1] at g2; cases g2
    · iterate 3 refine von ?_
      iterate 2 refine vo ?_
      refine vsp (fun g3 => ?_) (fun g3 => ?_)
      · iterate 5 refine vof ?_
        refine vo ?_
        refine vnt ?_
        refine vc_then ?_
        refine vc_sr ?_
        iterate 6 refine vo ?_
        refine vnt ?_
        refine vc_ret ?_
        refine thn_r ?_
        rw [st_n (.inr (.inl g3))] at hy
        cases hy
      · iterate 5 refine von ?_
        refine vo ?_
        refine vnt ?_
        refine vc_if (fun g4 => ?_) (fun g4 => ?_)
        · refine vc_sr ?_
          iterate 6 refine vo ?_
          refine vnt ?_
          refine vc_ret ?_
          refine thn_r ?_
          rw [st_n (.inr (.inr (.inl g4)))] at hy
          cases hy
        · refine vc_skip ?_
          refine thn ?_
          refine vc_sr ?_
          iterate 6 refine vo ?_
          refine voc c_impl_DmaWrite rfl rfl ?_
          iterate 6 refine vo ?_
          refine vnt ?_
          refine vc_seq' ?_
          refine vc_sr ?_
          iterate 2 refine vo ?_
          refine vnt ?_
          refine vc_if (fun g5 => ?_) (fun g5 => ?_)
          · refine vc_sr ?_
            iterate 6 refine vo ?_
            refine vnt ?_
            refine vc_ret ?_
            refine thn_r ?_
            rw [st_n (.inr (.inr (.inr g5)))] at hy
            cases hy
          · refine vc_skip ?_
            refine thn ?_
            refine vc_sr ?_
            iterate 14 refine vo ?_
            refine voc c_impl_FlowOf rfl rfl ?_
            refine voc c_impl_HashFlow rfl rfl ?_
            iterate 3 refine vo ?_
            refine vnt ?_
            refine vc_sr ?_
            iterate 6 refine vo ?_
            refine voc c_impl_PutCompletion rfl rfl ?_
            iterate 6 refine vo ?_
            refine vnt ?_
            refine vc_ret ?_
            have hst := st_y (l := l) (ps := ps) (d := d) (db := db) (ds := ds) (dc := dc) (size := size) (count := count) (key := key) g1 g3 g4 g5
            refine fin_i [(0, some 736)] rfl (fz ?_) (fz ?_)
            · rw [hst] at hy ⊢; simp [hy]
            · rw [hst]
end Go.Proofs.YtfcmcedeapgdcaaGreat
end
section
namespace Go.Proofs.YtfcmcedeapgdcaaGreat
open Go Go.RowKit Go.Vc
set_option linter.unusedVariables false
set_option linter.unusedSimpArgs false
set_option linter.unnecessarySimpa false
theorem bAt_extract (s : ByteArray) (a b k : Nat) : bAt (s.extract a b) k = if a + k < b then bAt s (a + k) else 0 := by
  unfold bAt
  by_cases h : k < (s.extract a b).size
  · rw [dif_pos h]
    have h2 : k < min b s.size - a := by rw [ByteArray.size_extract] at h; exact h
    rw [if_pos (by omega), dif_pos (by omega), ByteArray.getElem_extract]
  · rw [dif_neg h]
    have h2 : ¬ k < min b s.size - a := by rw [ByteArray.size_extract] at h; exact h
    split
    · rw [dif_neg (by omega)]
    · rfl
theorem bAt_append (s t : ByteArray) (k : Nat) : bAt (s ++ t) k = if k < s.size then bAt s k else bAt t (k - s.size) := by
  unfold bAt
  by_cases h : k < s.size
  · rw [if_pos h, dif_pos (by rw [ByteArray.size_append]; omega), dif_pos h, ByteArray.getElem_append_left h]
  · rw [if_neg h]
    by_cases h2 : k - s.size < t.size
    · rw [dif_pos (by rw [ByteArray.size_append]; omega), dif_pos h2, ByteArray.getElem_append_right (by omega)]
    · rw [dif_neg (by rw [ByteArray.size_append]; omega), dif_neg h2]
theorem bAt_putB {s p : ByteArray} {a : Nat} (h : a + p.size ≤ s.size) (k : Nat) : bAt (putB s a p) k = if a ≤ k ∧ k < a + p.size then bAt p (k - a) else bAt s k := by
  unfold putB
  have ea : (s.extract 0 a).size = a := by rw [ByteArray.size_extract]; omega
  have eb : ∀ k, k < a → bAt (s.extract 0 a) k = bAt s k := fun k hk => by rw [bAt_extract, if_pos (by omega), Nat.zero_add]
  have ec : ∀ k, bAt (s.extract (a + p.size) s.size) k = if a + p.size + k < s.size then bAt s (a + p.size + k) else 0 := fun k => bAt_extract _ _ _ _
  generalize s.extract 0 a = u at *
  generalize s.extract (a + p.size) s.size = v at *
  have e0 : bAt (u ++ p ++ v) k = if k < a + p.size then (if k < a then bAt u k else bAt p (k - a)) else bAt v (k - (a + p.size)) := by
    rw [bAt_append, bAt_append, ByteArray.size_append, ea]
  rw [e0]
  by_cases h1 : k < a
  · have q1 : k < a + p.size := by omega
    have q2 : ¬ (a ≤ k ∧ k < a + p.size) := by omega
    rw [if_pos q1, if_pos h1, if_neg q2, eb k h1]
  · by_cases h2 : k < a + p.size
    · have q2 : a ≤ k ∧ k < a + p.size := by omega
      rw [if_pos h2, if_neg h1, if_pos q2]
    · have q2 : ¬ (a ≤ k ∧ k < a + p.size) := by omega
      rw [if_neg h2, if_neg q2, ec]
      by_cases h3 : k < s.size
      · have q3 : a + p.size + (k - (a + p.size)) = k := by omega
        rw [q3, if_pos h3]
      · have q3 : a + p.size + (k - (a + p.size)) = k := by omega
        rw [q3, if_neg h3]
        unfold bAt; rw [dif_neg h3]
structure EthX where
  (dst src vl ty : Int)
  (body : ByteArray)
structure IpX where
  (tos id ttl pr src dst : Int)
  (body : ByteArray)
structure SegX where
  (kind sp dp seq ack fl win : Int)
  (body : ByteArray)
structure Pk where
  (dm sm vl tos id ttl si di kind sp dp seq ack fl win : Int)
  (body : ByteArray)
def m6 (s : ByteArray) (i : Int) : Int := get16 s i * 4294967296 + get32 s (i + 2)
def ethX (s : ByteArray) : EthX := if get16 s 12 = 33024 ∧ 18 ≤ s.size then ⟨m6 s 0, m6 s 6, get16 s 14, get16 s 16, s.extract (Int.toNat 18) s.size⟩ else ⟨m6 s 0, m6 s 6, -1, get16 s 12, s.extract (Int.toNat 14) s.size⟩
def EthX.ok (e : EthX) : Bool := ethOkB e.dst e.src e.vl e.ty e.body.size
def ethPB (s : ByteArray) : Bool := decide (18 ≤ s.size) && (ethX s).ok
def ipX (s : ByteArray) : IpX := ⟨bAt s 1, get16 s 4, bAt s 8, bAt s 9, get32 s 12, get32 s 16, s.extract (Int.toNat 20) (get16 s 2).toNat⟩
def IpX.ok (d : IpX) : Bool := ipOkB d.tos d.id d.ttl d.pr d.src d.dst d.body.size
def IpX.im (d : IpX) : ByteArray := ipR d.tos d.id d.ttl d.pr d.src d.dst d.body
def ipPB (s : ByteArray) : Bool := decide (20 ≤ s.size) && (decide (20 ≤ get16 s 2) && (decide (get16 s 2 ≤ s.size) && ((ipX s).ok && decide ((ipX s).im = s.extract (Int.toNat 0) (get16 s 2).toNat))))
def segX (kind : Int) (s : ByteArray) : SegX := if kind = 6 then ⟨kind, get16 s 0, get16 s 2, get32 s 4, get32 s 8, bAt s 13, get16 s 14, s.extract (Int.toNat 20) s.size⟩ else ⟨kind, get16 s 0, get16 s 2, 0, 0, 0, 0, s.extract (Int.toNat 8) s.size⟩
def SegX.ok (src dst : Int) (g : SegX) : Bool := segC src dst g.kind g.sp g.dp g.seq g.ack g.fl g.win g.body
def SegX.im (src dst : Int) (g : SegX) : ByteArray := segR src dst g.kind g.sp g.dp g.seq g.ack g.fl g.win g.body
def segPB (src dst kind : Int) (s : ByteArray) : Bool := ((decide (kind = 6) && decide (20 ≤ s.size)) || (decide (kind = 17) && decide (8 ≤ s.size))) && ((segX kind s).ok src dst && decide ((segX kind s).im src dst = s))
def Pk.sup (p : Pk) : Bool := superOkB p.dm p.sm p.vl p.tos p.id p.ttl p.si p.di p.kind p.sp p.dp p.seq p.ack p.fl p.win p.body.size
def Pk.im (p : Pk) : ByteArray := imgR p.dm p.sm p.vl p.tos p.id p.ttl p.si p.di p.kind p.sp p.dp p.seq p.ack p.fl p.win p.body
def pk0 : Pk := ⟨0, 0, 0, 0, 0, 0, 0, 0, 0, 0, 0, 0, 0, 0, 0, ⟨#[]⟩⟩
def mkPk (e : EthX) (d : IpX) (g : SegX) : Pk := ⟨e.dst, e.src, e.vl, d.tos, d.id, d.ttl, d.src, d.dst, g.kind, g.sp, g.dp, g.seq, g.ack, g.fl, g.win, g.body⟩
def rdX (s : ByteArray) : Pk := mkPk (ethX s) (ipX (ethX s).body) (segX (ipX (ethX s).body).pr (ipX (ethX s).body).body)
def rdC (s : ByteArray) : Int :=
  if ethPB s = true ∧ (ethX s).ty = 2048 then
    if ipPB (ethX s).body = true then
      if segPB (ipX (ethX s).body).src (ipX (ethX s).body).dst (ipX (ethX s).body).pr (ipX (ethX s).body).body = true then
        if (rdX s).sup = true then 0 else 5
      else 4
    else 3
  else 2
def rdF (s : ByteArray) : Pk := if rdC s = 0 then rdX s else pk0
theorem rd_0 {s : ByteArray} (h1 : ethPB s = true) (h2 : (ethX s).ty = 2048) (h3 : ipPB (ethX s).body = true) (h4 : segPB (ipX (ethX s).body).src (ipX (ethX s).body).dst (ipX (ethX s).body).pr (ipX (ethX s).body).body = true) (h : (rdX s).sup = true) : rdF s = rdX s ∧ rdC s = 0 := by
  have : rdC s = 0 := by
    unfold rdC
    rw [if_pos ⟨h1, h2⟩, if_pos h3, if_pos h4, if_pos h]
  exact ⟨by rw [rdF, this, if_pos rfl], this⟩
end Go.Proofs.YtfcmcedeapgdcaaGreat
end
section
namespace Go.Proofs.YtfcmcedeapgdcaaGreat
open Go Go.RowKit Go.Vc
set_option linter.unusedVariables false
set_option linter.unusedSimpArgs false
set_option linter.unnecessarySimpa false
theorem atp_eq {α : Type} [Inhabited α] {l : List α} {i : Nat} (h : i < l.length) : at' l i = l[i] := by unfold at'; rw [List.getElem?_eq_getElem h]; rfl
theorem atp_mem {α : Type} [Inhabited α] {l : List α} {i : Nat} (h : i < l.length) : at' l i ∈ l := by rw [atp_eq h]; exact List.getElem_mem h
structure Sm where
  (kind si di sp dp next : Int)
  (data : ByteArray)
  (done : Bool)
def sm0 : Sm := ⟨0, 0, 0, 0, 0, 0, ⟨#[]⟩, false⟩
instance : Inhabited Sm := ⟨sm0⟩
def smE (s : Sm) : List Value := [.int .i64 s.kind, .int .i64 s.si, .int .i64 s.di, .int .i64 s.sp, .int .i64 s.dp, .int .i64 s.next, .string s.data, .bool s.done]
def smHit (s : Sm) (kind si di sp dp : Int) : Bool := decide (s.kind = kind) && (decide (s.si = si) && (decide (s.di = di) && (decide (s.sp = sp) && decide (s.dp = dp))))
def smIdxF (kind si di sp dp : Int) : Nat → List Sm → Int
  | _, [] => -1
  | i, s :: l => if smHit s kind si di sp dp then (i : Int) else smIdxF kind si di sp dp (i + 1) l
def smIdx (l : List Sm) (kind si di sp dp : Int) : Int := smIdxF kind si di sp dp 0 l
theorem sm_hit {l : List Sm} {kind si di sp dp : Int} {i : Nat} (h : smIdx l kind si di sp dp = smIdxF kind si di sp dp i (l.drop i)) (hi : i < l.length) (hh : smHit (at' l i) kind si di sp dp = true) : smIdx l kind si di sp dp = i := by
  rw [h, drop_at hi]
  simp only [smIdxF]
  rw [if_pos hh]
theorem sm_go {l : List Sm} {kind si di sp dp : Int} {i : Nat} (h : smIdx l kind si di sp dp = smIdxF kind si di sp dp i (l.drop i)) (hi : i < l.length) (hh : smHit (at' l i) kind si di sp dp = false) : smIdx l kind si di sp dp = smIdxF kind si di sp dp (i + 1) (l.drop (i + 1)) := by
  rw [h, drop_at hi]
  simp only [smIdxF]
  rw [if_neg (by rw [hh]; decide)]
theorem sm_end {l : List Sm} {kind si di sp dp : Int} {i : Nat} (h : smIdx l kind si di sp dp = smIdxF kind si di sp dp i (l.drop i)) (hi : ¬ i < l.length) : smIdx l kind si di sp dp = -1 := by
  rw [h, List.drop_eq_nil_of_le (by omega)]; rfl
theorem smIdxF_bd (kind si di sp dp : Int) : ∀ (l : List Sm) (i : Nat), smIdxF kind si di sp dp i l = -1 ∨ ((i : Int) ≤ smIdxF kind si di sp dp i l ∧ smIdxF kind si di sp dp i l < i + l.length)
  | [], i => .inl rfl
  | s :: l, i => by
    simp only [smIdxF]
    split
    · right; simp; omega
    · rcases smIdxF_bd kind si di sp dp l (i + 1) with h | h
      · exact .inl h
      · right; simp only [List.length_cons]; omega
theorem smIdx_bd (l : List Sm) (kind si di sp dp : Int) : -1 ≤ smIdx l kind si di sp dp ∧ smIdx l kind si di sp dp < l.length := by
  have := smIdxF_bd kind si di sp dp l 0
  unfold smIdx
  omega
theorem smIdx_ge {l : List Sm} {kind si di sp dp : Int} (h : ¬ smIdx l kind si di sp dp < 0) : ∃ i, i < l.length ∧ smIdx l kind si di sp dp = (i : Nat) := by
  have := smIdx_bd l kind si di sp dp
  exact ⟨(smIdx l kind si di sp dp).toNat, by omega, by omega⟩
def Pk.ix (p : Pk) (l : List Sm) : Int := smIdx l p.kind p.si p.di p.sp p.dp
def Pk.dg (p : Pk) : ByteArray := word16 (p.body.size : Int) ++ p.body
def dlO (s : Sm) (p : Pk) : Int := (s.next - p.seq) % 4294967296
def dlS (s : Sm) (p : Pk) : Sm := { s with data := s.data ++ p.body.extract (dlO s p).toNat p.body.size, next := (s.next + p.body.size - dlO s p) % 4294967296, done := !decide (andI p.fl 1 = 0) }
def dlF (l : List Sm) (p : Pk) : List Sm :=
  if p.sup = true then
    if p.kind = 17 then
      if p.ix l < 0 then l ++ [⟨p.kind, p.si, p.di, p.sp, p.dp, 0, p.dg, false⟩]
      else l.set (p.ix l).toNat { at' l (p.ix l).toNat with data := (at' l (p.ix l).toNat).data ++ p.dg }
    else if ¬ andI p.fl 2 = 0 then
      if p.ix l < 0 then l ++ [⟨p.kind, p.si, p.di, p.sp, p.dp, (p.seq + 1) % 4294967296, ⟨#[]⟩, false⟩] else l
    else if p.ix l < 0 ∨ (at' l (p.ix l).toNat).done = true ∨ ¬ andI p.fl 4 = 0 then l
    else if dlO (at' l (p.ix l).toNat) p ≤ p.body.size then l.set (p.ix l).toNat (dlS (at' l (p.ix l).toNat) p) else l
  else l
def bufA (pb pz pc : Int) (fr : List Int) (k : Int) : Int := if poolB pb pz pc fr && inB k 0 (pc - 1) then pb + k * pz else -1
theorem bufA_n {pb pz pc k : Int} {fr : List Int} (h : poolB pb pz pc fr = false ∨ inB k 0 (pc - 1) = false) : bufA pb pz pc fr k = -1 := by
  refine if_neg ?_
  rcases h with h | h <;> rw [h] <;> simp
theorem bufA_y {pb pz pc k : Int} {fr : List Int} (h1 : poolB pb pz pc fr = true) (h2 : inB k 0 (pc - 1) = true) : bufA pb pz pc fr k = pb + k * pz ∧ 0 ≤ k * pz ∧ k * pz ≤ 7680 := by
  obtain ⟨b0, b1, z0, z1, c0, c1, _⟩ := poolB_facts h1
  have hk := inB_iff.1 h2
  refine ⟨if_pos (by rw [h1, h2]; rfl), Int.mul_nonneg hk.1 (by omega), ?_⟩
  have h3 := Int.mul_le_mul (show k ≤ 15 by omega) z1 (by omega) (by omega)
  omega
def dcC (s : ByteArray) : Comp := (get16 s 0, get16 s 2, get16 s 4, get16 s 6, get32 s 8)
def dcB (s : ByteArray) : Bool := decide (s.size = 16) && !decide (1 < get32 s 12)
theorem dc_n {s : ByteArray} (h : ¬ s.size = 16 ∨ 1 < get32 s 12) : dcB s = false := by
  unfold dcB
  rcases h with h | h
  · rw [decide_eq_false h]; rfl
  · rw [decide_eq_true h]; simp
theorem dc_y {s : ByteArray} (h1 : s.size = 16) (h2 : get32 s 12 ≤ 1) : dcB s = true := by
  unfold dcB
  rw [decide_eq_true h1, decide_eq_false (by omega)]; rfl
theorem nx_n {l : List Mp} {ps : Pg} {d b s c : Int} (h : queueOkB b s c = false ∨ (dmaRF l ps d (slotC b s c) 16).2 = false ∨ ¬ get32 (dmaRF l ps d (slotC b s c) 16).1 12 = phaseC s c) : nextF l ps d b s c = ((0, 0, 0, 0, 0), c, false) := by
  unfold nextF
  split
  · rename_i h1
    split
    · rename_i t e
      split
      · rename_i h3
        rw [e] at h
        simp only at h
        rcases h with h | h | h
        · rw [h] at h1; cases h1
        · cases h
        · exact (h h3).elim
      · rfl
    · rfl
  · rfl
theorem nx_y {l : List Mp} {ps : Pg} {d b s c : Int} (h1 : queueOkB b s c = true) (h2 : (dmaRF l ps d (slotC b s c) 16).2 = true) (h3 : get32 (dmaRF l ps d (slotC b s c) 16).1 12 = phaseC s c) : nextF l ps d b s c = (dcC (dmaRF l ps d (slotC b s c) 16).1, nextC s c, true) := by
  unfold nextF
  rw [if_pos h1]
  generalize dmaRF l ps d (slotC b s c) 16 = x at h2 h3 ⊢
  obtain ⟨t, ok⟩ := x
  simp only at h2 h3
  subst h2
  simp only
  rw [if_pos h3]; rfl
end Go.Proofs.YtfcmcedeapgdcaaGreat
end
section
namespace Go.Proofs.YtfcmcedeapgdcaaGreat
open Go Go.RowKit Go.Vc
set_option linter.unusedVariables false
set_option linter.unusedSimpArgs false
set_option linter.unnecessarySimpa false
def sumsA (s : ByteArray) : Int := if get16 s 12 = 33024 then 18 else 14
def sumsK (s : ByteArray) : Int := bAt s (sumsA s + 9).toNat
def sumsB (s : ByteArray) : Int := sumsA s + 20 + sumPl (sumsK s)
def Pk.tm (p : Pk) : ByteArray := if p.sup then putBF (putBF p.im (sumsA p.im + 10) (word16 0)) (sumsB p.im) (word16 0) else ⟨#[]⟩
theorem get16_at {s : ByteArray} {i : Nat} (h : i + 2 ≤ s.size) : get16 s (i : Int) = ((bAt s i * 256 + bAt s (i + 1) : Nat) : Int) := by
  rw [get16, if_pos (by omega), Int.toNat_natCast]
theorem putBF_at {s p : ByteArray} {i : Nat} (h : i + p.size ≤ s.size) (k : Nat) : bAt (putBF s (i : Int) p) k = if i ≤ k ∧ k < i + p.size then bAt p (k - i) else bAt s k := by
  rw [Go.Proofs.YtfcmcedeapgdcaaGreat.putBF_in h, bAt_putB h]
theorem mac_sz {a : Int} (h : inB a 0 281474976710655 = true) : (macF a).size = 6 := by
  have h1 := inB_iff.1 h
  unfold macF
  rw [ByteArray.size_append, word16_size (inB_iff.2 (by omega)), word32_size (inB_iff.2 (by omega))]
theorem bAt_lit {xs : List Int} {i : Nat} (h : i < xs.length) : bAt (strOfNums xs) i = xs[i].toNat % 256 := by
  unfold bAt
  rw [dif_pos (by rw [strOfNums_size]; exact h)]
  simp only [strOfNums, ByteArray.getElem_eq_getElem_data, List.getElem_toArray, List.getElem_map]
  rfl
theorem w16_at {v : Int} (h : inB v 0 65535 = true) : ((bAt (word16 v) 0 * 256 + bAt (word16 v) 1 : Nat) : Int) = v := by
  have h1 := inB_iff.1 h
  rw [show word16 v = strOfNums [v / 256, v % 256] by unfold word16; rw [if_pos h], bAt_lit (i := 0) (by simp), bAt_lit (i := 1) (by simp)]
  simp only [List.getElem_cons_zero, List.getElem_cons_succ]
  omega
theorem get16_mid {a r : ByteArray} {v : Int} (h : inB v 0 65535 = true) {i : Nat} (hi : i = a.size) : get16 (a ++ word16 v ++ r) (i : Int) = v := by
  subst hi
  have hs := word16_size h
  rw [get16_at (by rw [ByteArray.size_append, ByteArray.size_append, hs]; omega)]
  rw [bAt_append, if_pos (by rw [ByteArray.size_append, hs]; omega), bAt_append a, if_neg (by omega), Nat.sub_self]
  rw [bAt_append, if_pos (by rw [ByteArray.size_append, hs]; omega), bAt_append a, if_neg (by omega), show a.size + 1 - a.size = 1 by omega]
  exact w16_at h
theorem get16_put {s p : ByteArray} {i j : Nat} (h : i + p.size ≤ s.size) (hj : j + 2 ≤ i ∨ i + p.size ≤ j) : get16 (putBF s (i : Int) p) (j : Int) = get16 s (j : Int) := by
  have hz := putBF_size s (i : Int) p
  by_cases hs : j + 2 ≤ s.size
  · rw [get16_at (by omega), get16_at hs, putBF_at h, if_neg (by omega), putBF_at h, if_neg (by omega)]
  · rw [get16, if_neg (by omega), get16, if_neg (by omega)]
end Go.Proofs.YtfcmcedeapgdcaaGreat
end
section
namespace Go.Proofs.YtfcmcedeapgdcaaGreat
open Go Go.RowKit Go.Vc
set_option linter.unusedVariables false
set_option linter.unusedSimpArgs false
set_option linter.unnecessarySimpa false
theorem atq_eq {α : Type} [Inhabited α] {l : List α} {i : Nat} (h : i < l.length) : at' l i = l[i] := by unfold at'; rw [List.getElem?_eq_getElem h]; rfl
abbrev Pc := Int × Int
def pcOk (p : Pc) : Bool := decide (0 ≤ p.1) && inB p.2 0 4096
def pcsOk (l : List Pc) : Bool := l.all pcOk && decide (l.length ≤ 16)
theorem pcsOk_iff {l : List Pc} : pcsOk l = true ↔ (∀ i, i < l.length → 0 ≤ (at' l i).1 ∧ 0 ≤ (at' l i).2 ∧ (at' l i).2 ≤ 4096) ∧ l.length ≤ 16 := by
  unfold pcsOk
  rw [Bool.and_eq_true, decide_eq_true_eq, List.all_eq_true]
  constructor
  · rintro ⟨h1, h2⟩
    refine ⟨fun i hi => ?_, h2⟩
    have := h1 l[i] (List.getElem_mem hi)
    rw [← atq_eq hi] at this
    unfold pcOk at this
    rw [Bool.and_eq_true, decide_eq_true_eq, inB_iff] at this
    exact ⟨this.1, this.2.1, this.2.2⟩
  · rintro ⟨h1, h2⟩
    refine ⟨fun x hx => ?_, h2⟩
    obtain ⟨i, hi, rfl⟩ := List.getElem_of_mem hx
    have := h1 i hi
    rw [atq_eq hi] at this
    unfold pcOk
    rw [Bool.and_eq_true, decide_eq_true_eq, inB_iff]
    exact ⟨this.1, this.2.1, this.2.2⟩
def dOk (d : Dsc) : Bool := descB d.1 d.2.1 d.2.2.1 d.2.2.2.1 d.2.2.2.2.1 d.2.2.2.2.2
def dAt (l : List Pc) (size ck : Int) : Nat → Dsc
  | 0 => (2, 0, 0, 0, size, ck)
  | i + 1 => (1, if i + 1 = l.length then 1 else 0, (at' l i).2, (at' l i).1, 0, ck)
def dsF (l : List Pc) (size ck : Int) (n : Nat) : List Dsc := (List.range n).map (dAt l size ck)
theorem dsF_len (l : List Pc) (size ck : Int) (n : Nat) : (dsF l size ck n).length = n := by unfold dsF; rw [List.length_map, List.length_range]
theorem dsF_at {l : List Pc} {size ck : Int} {n i : Nat} (h : i < n) : at' (dsF l size ck n) i = dAt l size ck i := by
  rw [atq_eq (by rw [dsF_len]; exact h)]
  unfold dsF
  rw [List.getElem_map, List.getElem_range]
def descrB (l : List Pc) (size ck : Int) : Bool := !decide (l = []) && (pcsOk l && (inB size 1 128 && (dsF l size ck (l.length + 1)).all dOk))
theorem dmaRF_le (l : List Mp) (ps : Pg) (d a n : Int) (hn : n ≤ 4096) : (dmaRF l ps d a n).1.size ≤ 4096 := by
  cases hq : (dmaRF l ps d a n).2 with
  | true =>
    have := dmaRF_size (l := l) (ps := ps) (d := d) (a := a) (n := n) (t := (dmaRF l ps d a n).1) (by rw [← hq])
    omega
  | false =>
    have : (dmaRF l ps d a n).1 = ⟨#[]⟩ := by
      unfold dmaRF at hq ⊢
      split <;> rename_i e
      · rw [e] at hq; cases hq
      · rfl
    rw [this]; exact Nat.zero_le _
def Pk.part (p : Pk) (size : Int) (k : Nat) : Pk :=
  { p with body := p.body.extract ((k : Int) * size).toNat (min (p.body.size : Int) (((k : Int) + 1) * size)).toNat, seq := (p.seq + (k : Int) * size) % 4294967296, id := (p.id + k) % 65536, fl := if ((k : Int) + 1) * size < (p.body.size : Int) then andNotI p.fl 9 else p.fl }
def pkE (p : Pk) : List Value := [.int .i64 p.dm, .int .i64 p.sm, .int .i64 p.vl, .int .i64 p.tos, .int .i64 p.id, .int .i64 p.ttl, .int .i64 p.si, .int .i64 p.di, .int .i64 p.kind, .int .i64 p.sp, .int .i64 p.dp, .int .i64 p.seq, .int .i64 p.ack, .int .i64 p.fl, .int .i64 p.win, .string p.body]
def Pk.ok (p : Pk) : Bool := p.sup && decide (p.body.size ≤ 128)
instance : Inhabited Pk := ⟨pk0⟩
end Go.Proofs.YtfcmcedeapgdcaaGreat
end
section
namespace Go.Vc
open Go Go.RowKit
set_option linter.unusedVariables false
section
variable {P : Program} [TyEnv P] {n : Nat} {ops os : List Oper} {dr : Bool} {K : Tm → Hp → Prop} {t : Tm} {H : Hp} {fp : List Fp} {d : Nat}
theorem vepl {sz k j : Nat} {c : Int} {es : List (List Value)} (hj : c.toNat = j) (h : Vd P n ops dr K os ((d, .one (.ep sz es j k)) :: t) H fp) : Vd P n ops dr K os ((d, .one (.ep sz es c.toNat k)) :: t) H fp := by rw [hj]; exact h
theorem vptl {i sz k j : Nat} {c : Int} (hj : c.toNat = j) (h : Vd P n ops dr K os ((d, .one (.ptr i j sz k)) :: t) H fp) : Vd P n ops dr K os ((d, .one (.ptr i c.toNat sz k)) :: t) H fp := by rw [hj]; exact h
theorem vdrl {sz j : Nat} {c : Int} {α : Type} {l : List α} {f : α → List Value} (hj : c.toNat = j) (h : Vd P n ops dr K os ((d, .one (.sl sz ((l.drop j).map f))) :: t) H fp) : Vd P n ops dr K os ((d, .one (.sl sz ((l.map f).drop c.toNat))) :: t) H fp := by
  rw [hj]; rw [List.map_drop] at h; exact h
theorem vhc {k sz j : Nat} {c : Int} (hj : c.toNat = j) (h : Vd P n ops dr K os ((d, .one (.hc k j sz)) :: t) H fp) : Vd P n ops dr K os ((d, .one (.hc k c.toNat sz)) :: t) H fp := by rw [hj]; exact h
end
end Go.Vc
end
section
namespace Go.Proofs.YtfcmcedeapgdcaaGreat
open Go Go.RowKit Go.Vc
set_option linter.unusedVariables false
set_option linter.unusedSimpArgs false
set_option linter.unnecessarySimpa false
theorem eqk_Flow : EqOk Tryz.prog 105 [0, 0, 0, 0, 0] := eqOk_of 4 (by kernel_rfl) (by decide) (by kernel_rfl) (by kernel_rfl)
theorem seen_at {n : Nat} {xs : List Int} {k : Int} (h0 : 0 ≤ k) (h1 : k < n) : at' (seenF n xs) k.toNat = xs.contains k := by
  obtain ⟨i, rfl⟩ := Int.eq_ofNat_of_zero_le h0
  rw [atp_eq (by rw [seenF_length]; omega)]
  have := seenF_get xs (show i < n by omega)
  rw [List.getElem?_eq_getElem (by rw [seenF_length]; omega)] at this
  simpa using this
theorem seen_set {n : Nat} {xs : List Int} {k : Int} (h0 : 0 ≤ k) (h1 : k < n) : ((seenF n xs).map booE).set k.toNat [.bool true] = (seenF n (xs ++ [k])).map booE := by
  obtain ⟨i, rfl⟩ := Int.eq_ofNat_of_zero_le h0
  rw [← seenF_set xs (show i < n by omega), List.map_set]; rfl
theorem seen_nil (n : Nat) : (seenF n []).map booE = List.replicate (n : Int).toNat [Value.bool false] := by
  rw [seenF_nil, List.map_replicate]; rfl
theorem take_at {α : Type} [Inhabited α] {l : List α} {i : Nat} (h : i < l.length) : l.take (i + 1) = l.take i ++ [at' l i] := by
  rw [List.take_succ_eq_append_getElem h, atp_eq h]
theorem pool_no {b z c : Int} {fr : List Int} (h : inB b 0 130944 = false ∨ inB z 1 512 = false ∨ inB c 0 16 = false) : poolB b z c fr = false := by
  unfold poolB
  rcases h with h | h | h <;> rw [h] <;> simp
theorem pool_rng {b z : Int} {n : Nat} {fr : List Int} {i : Nat} (hi : i < fr.length) (h : inB (at' fr i) 0 ((n : Int) - 1) = false) : poolB b z n fr = false := poolB_range hi (atp_eq hi).symm h
theorem pool_dup {b z : Int} {n : Nat} {fr : List Int} {i : Nat} (hi : i < fr.length) (h : (fr.take i).contains (at' fr i) = true) : poolB b z n fr = false := poolB_dup hi (atp_eq hi).symm h
theorem pool_stp {n : Nat} {fr : List Int} {i : Nat} (hi : i < fr.length) (g : poolG n fr i) (h1 : inB (at' fr i) 0 ((n : Int) - 1) = true) (h2 : (fr.take i).contains (at' fr i) = false) : poolG n fr (i + 1) := poolG_step hi (atp_eq hi).symm g h1 h2
theorem pool_all {b z : Int} {n : Nat} {fr : List Int} {i : Nat} (h0 : inB b 0 130944 = true) (h1 : inB z 1 512 = true) (h2 : inB (n : Int) 0 16 = true) (g : poolG n fr i) (hi : i ≤ fr.length) (hh : ¬ i < fr.length) : poolB b z n fr = true := by
  obtain rfl : i = fr.length := by omega
  exact poolB_all h0 h1 h2 g
def dcX (s : ByteArray) : Comp := if dcB s then dcC s else (0, 0, 0, 0, 0)
def dcP (s : ByteArray) : Int := if dcB s then get32 s 12 else 0
theorem dcX_y {s : ByteArray} (h : dcB s = true) : dcX s = dcC s ∧ dcP s = get32 s 12 := ⟨if_pos h, if_pos h⟩
theorem dcX_n {s : ByteArray} (h : dcB s = false) : dcX s = (0, 0, 0, 0, 0) ∧ dcP s = 0 := ⟨if_neg (by rw [h]; decide), if_neg (by rw [h]; decide)⟩
theorem dma16 {l : List Mp} {ps : Pg} {d a : Int} (h : (dmaRF l ps d a 16).2 = true) : (dmaRF l ps d a 16).1.size = 16 := by
  have := dmaRF_size (l := l) (ps := ps) (d := d) (a := a) (n := 16) (t := (dmaRF l ps d a 16).1) (by rw [← h])
  omega
theorem dma_z (l : List Mp) (ps : Pg) (d a : Int) : (dmaRF l ps d a 16).1.size ≤ 1099511627776 := Nat.le_trans (dmaRF_le l ps d a 16 (by decide)) (by decide)
theorem dc_ph {l : List Mp} {ps : Pg} {d a s c : Int} (h : (dmaRF l ps d a 16).2 = true) (h2 : dcB (dmaRF l ps d a 16).1 = false) : ¬ get32 (dmaRF l ps d a 16).1 12 = phaseC s c := by
  have h1 := dma16 h
  have hp := phaseC_bd s c
  unfold dcB at h2
  rw [decide_eq_true h1, Bool.true_and, Bool.not_eq_false', decide_eq_true_eq] at h2
  omega
theorem rpu_n {l : List Mp} {ps : Pg} {d b s h t : Int} {e : ByteArray} (hh : freeF b s h t = 0 ∨ ¬ e.size = 16 ∨ (dmaWF l ps d (rslot b s t) e true).2 = false) : rputF l ps d b s h t e = (ps, t, false) := by
  unfold rputF
  split
  · rfl
  · split
    · rename_i g1 g2
      have h3 : (dmaWF l ps d (rslot b s t) e true).2 = false := by
        rcases hh with hh | hh | hh
        · exact (g1 hh).elim
        · exact (hh g2).elim
        · exact hh
      generalize dmaWF l ps d (rslot b s t) e true = x at h3 ⊢
      obtain ⟨x1, x2⟩ := x
      simp only at h3
      subst h3; rfl
    · rfl
theorem rpu_y {l : List Mp} {ps : Pg} {d b s h t : Int} {e : ByteArray} (h1 : ¬ freeF b s h t = 0) (h2 : e.size = 16) (h3 : (dmaWF l ps d (rslot b s t) e true).2 = true) : rputF l ps d b s h t e = ((dmaWF l ps d (rslot b s t) e true).1, rnext s t, true) := by
  unfold rputF
  rw [if_neg h1, if_pos h2]
  generalize dmaWF l ps d (rslot b s t) e true = x at h3 ⊢
  obtain ⟨x1, x2⟩ := x
  simp only at h3
  subst h3; rfl
set_option maxHeartbeats 4000000 in
theorem c_spec_l21Copy {pb pz pc : Int} {fr : List Int} (hl_fr : fr.length ≤ 1099511627776 := by first | with_reducible assumption | omega) : Con0 Tryz.prog 60 [.agg [V pb, V pz, V pc, .sl 1 (fr.map intE)]] (.agg [V pb, V pz, V pc, .hs 0]) [(0, .arr 3 1 (fr.map intE))] := by
  refine con_i Tryz.func60 Tryz.ntmps60 (t := [(0, .agg [V pb, V pz, V pc, .sl 1 (fr.map intE)])]) rfl ?_
  refine vc_sr ?_
  iterate 2 refine vo ?_
  refine vnt ?_
  refine vc_sr ?_
  iterate 12 refine vo ?_
  refine vnt ?_
  refine vc_ret ?_
  refine fin_i [(0, some 96)] rfl (fz ?_) (fz ?_) <;> first | trivial | rfl | simp
set_option maxHeartbeats 4000000 in
theorem c_spec_PoolOk {pb pz pc : Int} {fr : List Int} (hl_fr : fr.length ≤ 1099511627776 := by first | with_reducible assumption | omega) : Con0 Tryz.prog 58 [.agg [V pb, V pz, V pc, .sl 1 (fr.map intE)]] (B (poolB pb pz pc fr)) [] := by
  refine con_i Tryz.func58 Tryz.ntmps58 (t := [(0, .agg [V pb, V pz, V pc, .sl 1 (fr.map intE)])]) rfl ?_
  refine vc_sr ?_
  iterate 2 refine vo ?_
  refine vnt ?_
  refine vc_seq' ?_
  refine vc_sr ?_
  iterate 2 refine vo ?_
  refine voc c_spec_l01In rfl rfl ?_
  iterate 2 refine vo ?_
  refine vsp (fun g1 => ?_) (fun g1 => ?_)
  · iterate 4 refine vof ?_
    iterate 2 refine vo ?_
    iterate 4 refine vof ?_
    refine vo ?_
    refine vnt ?_
    refine vc_then ?_
    refine vc_sr ?_
    refine vo ?_
    refine vnt ?_
    refine vc_ret ?_
    refine thn_r ?_
    refine fin_i [] rfl (fz ?_) trivial
    exact pool_no (.inl g1)
  · iterate 2 refine von ?_
    refine vocn c_spec_l01In rfl rfl ?_
    refine von ?_
    iterate 2 refine vo ?_
    refine vsp (fun g2 => ?_) (fun g2 => ?_)
    · iterate 4 refine vof ?_
      refine vo ?_
      refine vnt ?_
      refine vc_then ?_
      refine vc_sr ?_
      refine vo ?_
      refine vnt ?_
      refine vc_ret ?_
      refine thn_r ?_
      refine fin_i [] rfl (fz ?_) trivial
      exact pool_no (.inr (.inl g2))
    · iterate 2 refine von ?_
      refine vocn c_spec_l01In rfl rfl ?_
      refine von ?_
      refine vo ?_
      refine vnt ?_
      refine vc_if (fun g3 => ?_) (fun g3 => ?_)
      · refine vc_sr ?_
        refine vo ?_
        refine vnt ?_
        refine vc_ret ?_
        refine thn_r ?_
        refine fin_i [] rfl (fz ?_) trivial
        exact pool_no (.inr (.inr g3))
      · have hz3 := inB_iff.1 g3
        obtain ⟨n, rfl⟩ := Int.eq_ofNat_of_zero_le hz3.1
        refine vc_skip ?_
        refine thn ?_
        refine vc_sr ?_
        iterate 4 refine vo ?_
        refine vnt ?_
        refine vc_seq' ?_
        refine vc_sr ?_
        refine vo ?_
        refine vnt ?_
        refine vc_block ?_
        refine vc_lp (σ := Nat) [1, 3] [8] (fun i => [(4, I (i : Nat))]) (fun i => [(184, .arr 4 1 ((seenF n (fr.take i)).map booE))]) (fun i => i ≤ fr.length ∧ poolG n fr i) (fun i => fr.length - i) 0 rfl rfl (sub_i [(184, some 184)] (fz ?_) (fz ?_)) ?_ fun i hI => ?_
        · first | trivial | rfl
        · first | trivial | exact (seen_nil n).symm | exact seen_nil n | (simp [seen_nil]; done) | trace_state
        · exact ⟨Nat.zero_le _, poolG_zero n fr⟩
        refine vc_nf rfl rfl ?_
        have hsl := seenF_length n (fr.take i)
        refine vc_seq' ?_
        refine vc_sr ?_
        iterate 4 refine vo ?_
        try first | refine vlb ?_ | refine vln ?_
        refine vo ?_
        refine vnt ?_
        refine vc_if (fun g4 => ?_) (fun g4 => ?_)
        · refine vc_skip ?_
          refine thn ?_
          refine vc_seq' ?_
          refine vc_block ?_
          refine vc_seq' ?_
          refine vc_sr ?_
          iterate 4 refine vo ?_
          try with_reducible (first | refine vep ?_ | refine vpt ?_)
          iterate 4 refine vo ?_
          try refine vwr ?_
          refine voc c_spec_l01In rfl rfl ?_
          iterate 2 refine vo ?_
          refine vsp (fun g5 => ?_) (fun g5 => ?_)
          · iterate 8 refine vof ?_
            refine vo ?_
            refine vnt ?_
            refine vc_then ?_
            refine vc_sr ?_
            refine vo ?_
            refine vnt ?_
            refine vc_ret ?_
            refine thn_r ?_
            refine inB_r ?_
            refine thn_r ?_
            refine thn_r ?_
            refine inB_r ?_
            refine thn_r ?_
            refine fin_i [] rfl (fz ?_) trivial
            exact pool_rng g4 g5
          · have hkb := inB_iff.1 g5
            iterate 5 refine von ?_
            try with_reducible (first | refine vep ?_ | refine vpt ?_)
            iterate 2 refine von ?_
            try with_reducible (first | refine vep ?_ | refine vpt ?_)
            refine von ?_
            refine vo ?_
            refine vnt ?_
            refine vc_if (fun g6 => ?_) (fun g6 => ?_)
            · rw [seen_at (by omega) (by omega)] at g6
              have hct : (fr.take i).contains (at' fr i) = true := by first | exact g6 | simpa using g6
              refine vc_sr ?_
              refine vo ?_
              refine vnt ?_
              refine vc_ret ?_
              refine thn_r ?_
              refine inB_r ?_
              refine thn_r ?_
              refine thn_r ?_
              refine inB_r ?_
              refine thn_r ?_
              refine fin_i [] rfl (fz ?_) trivial
              exact pool_dup g4 hct
            · rw [seen_at (by omega) (by omega)] at g6
              have hct : (fr.take i).contains (at' fr i) = false := by first | exact g6 | simpa using g6
              refine vc_skip ?_
              refine thn ?_
              refine vc_region ?_
              iterate 5 refine vo ?_
              try with_reducible (first | refine vep ?_ | refine vpt ?_)
              iterate 2 refine vo ?_
              try with_reducible (first | refine vep ?_ | refine vpt ?_)
              refine vo ?_
              refine vnil ?_
              refine inB_n ?_
              refine thn ?_
              refine vc_region ?_
              iterate 2 refine vo ?_
              try refine vwr ?_
              refine vo ?_
              refine vnt ?_
              refine ⟨i + 1, ?_, ?_, sub_i [(184, some 184)] (fz ?_) (fz ?_)⟩
              · exact ⟨by omega, pool_stp g4 hI.2 g5 hct⟩
              · omega
              · first | trivial | rfl | exact ⟨rfl, rfl⟩
              · first | (rw [take_at g4]; exact (seen_set (by omega) (by omega)).symm) | (rw [take_at g4, seen_set (by omega) (by omega)]; done) | trace_state
        · refine vc_exit ?_
          refine thn_x ?_
          refine thn_x ?_
          refine inB_x ?_
          refine thn ?_
          refine vc_sr ?_
          refine vo ?_
          refine vnt ?_
          refine vc_ret ?_
          refine fin_i [] rfl (fz ?_) trivial
          exact pool_all g1 g2 g3 hI.2 hI.1 (by omega)
set_option maxHeartbeats 4000000 in
theorem c_spec_BufferAddress {pb pz pc k : Int} {fr : List Int} (hl_fr : fr.length ≤ 1099511627776 := by first | with_reducible assumption | omega) : Con0 Tryz.prog 65 [.agg [V pb, V pz, V pc, .sl 1 (fr.map intE)], I k] (I (bufA pb pz pc fr k)) [] := by
  refine con_i Tryz.func65 Tryz.ntmps65 (t := [(0, .agg [V pb, V pz, V pc, .sl 1 (fr.map intE)]), (1, I k)]) rfl ?_
  refine vc_sr ?_
  iterate 2 refine vo ?_
  refine vnt ?_
  refine vc_seq' ?_
  refine vc_sr ?_
  refine vo ?_
  refine voc c_spec_PoolOk rfl rfl ?_
  iterate 2 refine vo ?_
  refine vsp (fun g1 => ?_) (fun g1 => ?_)
  · iterate 6 refine vof ?_
    refine vo ?_
    refine vnt ?_
    refine vc_then ?_
    refine vc_sr ?_
    refine vo ?_
    refine vnt ?_
    refine vc_ret ?_
    refine thn_r ?_
    refine fin_i [] rfl (fz ?_) trivial
    rw [bufA_n (.inl g1)]
  · have hpf := poolB_facts g1
    iterate 4 refine von ?_
    try refine vwr ?_
    refine vocn c_spec_l01In rfl rfl ?_
    refine von ?_
    refine vo ?_
    refine vnt ?_
    refine vc_if (fun g2 => ?_) (fun g2 => ?_)
    · refine vc_sr ?_
      refine vo ?_
      refine vnt ?_
      refine vc_ret ?_
      refine thn_r ?_
      refine fin_i [] rfl (fz ?_) trivial
      rw [bufA_n (.inr g2)]
    · have hba := bufA_y g1 g2
      refine vc_skip ?_
      refine thn ?_
      refine vc_sr ?_
      iterate 6 refine vo ?_
      try refine vwr ?_
      refine vo ?_
      try refine vwr ?_
      refine vo ?_
      refine vnt ?_
      refine vc_ret ?_
      refine fin_i [] rfl (fz ?_) trivial
      exact hba.1
set_option maxHeartbeats 4000000 in
theorem c_impl_DecodeCompletion {s : ByteArray} (hs_s : s.size ≤ 1099511627776 := by first | with_reducible assumption | omega | (simp only [ByteArray.size_append, ByteArray.size_extract, strOfNums_size, List.length_cons, List.length_nil]; omega)) : Con0 Tryz.prog 38 [Z s] (.tup [.agg [V (dcX s).1, V (dcX s).2.1, V (dcX s).2.2.1, V (dcX s).2.2.2.1, V (dcX s).2.2.2.2], I (dcP s), B (dcB s)]) [] := by
  refine con_i Tryz.func38 Tryz.ntmps38 (t := [(0, Z s)]) rfl ?_
  refine vc_sr ?_
  iterate 3 refine vo ?_
  refine vnt ?_
  refine vc_seq' ?_
  refine vc_sr ?_
  iterate 3 refine vo ?_
  refine vnt ?_
  refine vc_if (fun g1 => ?_) (fun g1 => ?_)
  · refine vc_sr ?_
    iterate 4 refine vo ?_
    refine vnt ?_
    refine vc_ret ?_
    refine thn_r ?_
    refine fin_i [] rfl (fz ?_) trivial
    have hb := dc_n (s := s) (.inl (by omega))
    rw [(dcX_n hb).1, (dcX_n hb).2, hb]
    first | exact ⟨⟨rfl, rfl, rfl, rfl, rfl⟩, rfl, rfl⟩ | simp
  · refine vc_skip ?_
    refine thn ?_
    refine vc_sr ?_
    refine vo ?_
    refine voc c_impl_Get16 rfl rfl ?_
    refine vo ?_
    refine voc c_impl_Get16 rfl rfl ?_
    refine vo ?_
    refine voc c_impl_Get16 rfl rfl ?_
    refine vo ?_
    refine voc c_impl_Get16 rfl rfl ?_
    refine vo ?_
    refine voc c_impl_Get32 rfl rfl ?_
    iterate 3 refine vo ?_
    refine vnt ?_
    refine vc_sr ?_
    refine vo ?_
    refine voc c_impl_Get32 rfl rfl ?_
    refine vo ?_
    refine vnt ?_
    refine vc_seq' ?_
    refine vc_sr ?_
    iterate 2 refine vo ?_
    refine vnt ?_
    refine vc_if (fun g2 => ?_) (fun g2 => ?_)
    · refine vc_sr ?_
      iterate 4 refine vo ?_
      refine vnt ?_
      refine vc_ret ?_
      refine thn_r ?_
      refine fin_i [] rfl (fz ?_) trivial
      have hb := dc_n (s := s) (.inr (by omega))
      rw [(dcX_n hb).1, (dcX_n hb).2, hb]
      first | exact ⟨⟨rfl, rfl, rfl, rfl, rfl⟩, rfl, rfl⟩ | simp
    · refine vc_skip ?_
      refine thn ?_
      refine vc_sr ?_
      iterate 5 refine vo ?_
      refine vnt ?_
      refine vc_ret ?_
      refine fin_i [] rfl (fz ?_) trivial
      have hb := dc_y (s := s) (by omega) (by omega)
      rw [(dcX_y hb).1, (dcX_y hb).2, hb]
      first | exact ⟨⟨rfl, rfl, rfl, rfl, rfl⟩, rfl, rfl⟩ | simp [dcC]
set_option maxHeartbeats 4000000 in
theorem c_impl_NextCompletion {l : List Mp} {ps : Pg} {d b s c : Int} (hl : l.length ≤ 1099511627776 := by first | with_reducible assumption | omega) (hp : ps.length ≤ 1099511627776 := by first | with_reducible assumption | omega) : Con0 Tryz.prog 11 [.one (.sl 4 (l.map mpE)), .agg [.sl 1 (ps.map strE)], I d, .agg [V b, V s, V c]] (.tup [.agg [V (nextF l ps d b s c).1.1, V (nextF l ps d b s c).1.2.1, V (nextF l ps d b s c).1.2.2.1, V (nextF l ps d b s c).1.2.2.2.1, V (nextF l ps d b s c).1.2.2.2.2], .agg [V b, V s, V (nextF l ps d b s c).2.1], B (nextF l ps d b s c).2.2]) [] := by
  have hdz := dma_z l ps d (slotC b s c)
  refine con_i Tryz.func11 Tryz.ntmps11 (t := [(0, .one (.sl 4 (l.map mpE))), (1, .agg [.sl 1 (ps.map strE)]), (2, I d), (3, .agg [V b, V s, V c])]) rfl ?_
  refine vc_sr ?_
  iterate 5 refine vo ?_
  refine vnt ?_
  refine vc_seq' ?_
  refine vc_sr ?_
  refine vo ?_
  refine voc c_impl_QueueOk rfl rfl ?_
  refine vo ?_
  refine vnt ?_
  refine vc_if (fun g1 => ?_) (fun g1 => ?_)
  · refine vc_sr ?_
    iterate 5 refine vo ?_
    refine vnt ?_
    refine vc_ret ?_
    refine thn_r ?_
    refine fin_i [] rfl (fz ?_) trivial
    have hh : nextF l ps d b s c = _ := nx_n (.inl g1)
    rw [hh]
    first | exact ⟨⟨rfl, rfl, rfl, rfl, rfl⟩, rfl, rfl⟩ | simp [nextC]
  · have hq := slot_q g1
    have hqf := queueOk_facts g1
    have hsl := slotC_bd g1
    refine vc_skip ?_
    refine thn ?_
    refine vc_sr ?_
    iterate 4 refine vo ?_
    refine voc c_impl_slotOfCount rfl rfl ?_
    refine voc c_impl_DmaRead rfl rfl ?_
    iterate 5 refine vo ?_
    refine vnt ?_
    refine vc_seq' ?_
    refine vc_sr ?_
    iterate 2 refine vo ?_
    refine vnt ?_
    refine vc_if (fun g2 => ?_) (fun g2 => ?_)
    · refine vc_sr ?_
      iterate 5 refine vo ?_
      refine vnt ?_
      refine vc_ret ?_
      refine thn_r ?_
      refine fin_i [] rfl (fz ?_) trivial
      have hh : nextF l ps d b s c = _ := nx_n (.inr (.inl g2))
      rw [hh]
      first | exact ⟨⟨rfl, rfl, rfl, rfl, rfl⟩, rfl, rfl⟩ | simp [nextC]
    · refine vc_skip ?_
      refine thn ?_
      refine vc_sr ?_
      refine vo ?_
      refine voc c_impl_DecodeCompletion rfl rfl ?_
      iterate 8 refine vo ?_
      refine vnt ?_
      refine vc_seq' ?_
      refine vc_sr ?_
      iterate 3 refine vo ?_
      refine vsp (fun g3 => ?_) (fun g3 => ?_)
      · iterate 4 refine vof ?_
        refine vo ?_
        refine vnt ?_
        refine vc_then ?_
        refine vc_sr ?_
        iterate 5 refine vo ?_
        refine vnt ?_
        refine vc_ret ?_
        refine thn_r ?_
        refine fin_i [] rfl (fz ?_) trivial
        have hh : nextF l ps d b s c = _ := nx_n (.inr (.inr (dc_ph g2 g3)))
        rw [hh]
        first | exact ⟨⟨rfl, rfl, rfl, rfl, rfl⟩, rfl, rfl⟩ | simp [nextC]
      · rw [(dcX_y g3).1, (dcX_y g3).2]
        iterate 2 refine von ?_
        refine vocn c_impl_phaseOf rfl rfl ?_
        refine von ?_
        refine vo ?_
        refine vnt ?_
        refine vc_if (fun g4 => ?_) (fun g4 => ?_)
        · refine vc_sr ?_
          iterate 5 refine vo ?_
          refine vnt ?_
          refine vc_ret ?_
          refine thn_r ?_
          refine fin_i [] rfl (fz ?_) trivial
          have hh : nextF l ps d b s c = _ := nx_n (.inr (.inr g4))
          rw [hh]
          first | exact ⟨⟨rfl, rfl, rfl, rfl, rfl⟩, rfl, rfl⟩ | simp [nextC]
        · refine vc_skip ?_
          refine thn ?_
          refine vc_sr ?_
          iterate 3 refine vo ?_
          try refine vwr ?_
          iterate 3 refine vo ?_
          try refine vwr ?_
          refine vo ?_
          try refine veq (Int.tmod_eq_emod_of_nonneg (by omega)) ?_
          iterate 2 refine vo ?_
          refine vnt ?_
          refine vc_sr ?_
          iterate 5 refine vo ?_
          refine vnt ?_
          refine vc_ret ?_
          refine fin_i [] rfl (fz ?_) trivial
          have hh : nextF l ps d b s c = _ := nx_y g1 g2 g4
          rw [hh]
          first | exact ⟨⟨rfl, rfl, rfl, rfl, rfl⟩, rfl, rfl⟩ | simp [nextC]
set_option maxHeartbeats 4000000 in
theorem c_spec_RingFree {b s h t : Int} : Con0 Tryz.prog 62 [.agg [V b, V s, V h, V t]] (I (freeF b s h t)) [] := by
  refine con_i Tryz.func62 Tryz.ntmps62 (t := [(0, .agg [V b, V s, V h, V t])]) rfl ?_
  refine vc_sr ?_
  iterate 2 refine vo ?_
  refine vnt ?_
  refine vc_seq' ?_
  refine vc_sr ?_
  refine vo ?_
  refine voc c_spec_RingOk rfl rfl ?_
  refine vo ?_
  refine vnt ?_
  refine vc_if (fun g1 => ?_) (fun g1 => ?_)
  · refine vc_sr ?_
    refine vo ?_
    refine vnt ?_
    refine vc_ret ?_
    refine thn_r ?_
    refine fin_i [] rfl (fz ?_) trivial
    rw [freeF, g1]
    simp
  · have hr := ringOk_facts g1
    have hs0 := hr.1
    have hub : 0 ≤ usedF s h t ∧ usedF s h t ≤ 16 := by unfold usedF; have hsz := sizeB_cases hs0; omega
    refine vc_skip ?_
    refine thn ?_
    refine vc_sr ?_
    iterate 3 refine vo ?_
    refine voc c_spec_RingUsed rfl rfl ?_
    refine vo ?_
    try refine vwr ?_
    refine vo ?_
    refine vnt ?_
    refine vc_ret ?_
    refine fin_i [] rfl (fz ?_) trivial
    rw [freeF, g1]
    simp [usedF]
set_option maxHeartbeats 4000000 in
theorem c_spec_RingPut {l : List Mp} {ps : Pg} {d b s h t : Int} {e : ByteArray} (hl : l.length ≤ 1099511627776 := by first | with_reducible assumption | omega) (hp : ps.length ≤ 1099511627776 := by first | with_reducible assumption | omega) (hs_e : e.size ≤ 1099511627776 := by first | with_reducible assumption | omega | (simp only [ByteArray.size_append, ByteArray.size_extract, strOfNums_size, List.length_cons, List.length_nil]; omega)) : Con0 Tryz.prog 63 [.one (.sl 4 (l.map mpE)), .agg [.sl 1 (ps.map strE)], I d, .agg [V b, V s, V h, V t], Z e] (.tup [.agg [.hs 0], .agg [V b, V s, V h, V (rputF l ps d b s h t e).2.1], B (rputF l ps d b s h t e).2.2]) [(0, .arr 9 1 ((rputF l ps d b s h t e).1.map strE))] := by
  refine con_i Tryz.func63 Tryz.ntmps63 (t := [(0, .one (.sl 4 (l.map mpE))), (1, .agg [.sl 1 (ps.map strE)]), (2, I d), (3, .agg [V b, V s, V h, V t]), (4, Z e)]) rfl ?_
  refine vc_sr ?_
  iterate 5 refine vo ?_
  refine vnt ?_
  refine vc_seq' ?_
  refine vc_sr ?_
  refine vo ?_
  refine voc c_spec_RingFree rfl rfl ?_
  iterate 2 refine vo ?_
  refine vsp (fun g1 => ?_) (fun g1 => ?_)
  · iterate 3 refine vof ?_
    refine vo ?_
    refine vnt ?_
    refine vc_then ?_
    refine vc_sr ?_
    refine vo ?_
    refine voc c_spec_l16Copy rfl rfl ?_
    iterate 4 refine vo ?_
    refine vnt ?_
    refine vc_ret ?_
    refine thn_r ?_
    have hh : rputF l ps d b s h t e = _ := rpu_n (.inl g1)
    refine fin_i [(0, some 192)] rfl (fz ?_) (fz ?_)
    · rw [hh]; first | exact ⟨rfl, rfl⟩ | simp [rnext]
    · first | (rw [hh]; done) | (rw [hh, dw_no g3]; done)
  · have hr0 := freeF_ok g1
    have hr := ringOk_facts hr0
    have hsl := rslot_bd hr0 t
    have hsz := sizeB_cases hr.1
    iterate 3 refine von ?_
    refine vo ?_
    refine vnt ?_
    refine vc_if (fun g2 => ?_) (fun g2 => ?_)
    · refine vc_sr ?_
      refine vo ?_
      refine voc c_spec_l16Copy rfl rfl ?_
      iterate 4 refine vo ?_
      refine vnt ?_
      refine vc_ret ?_
      refine thn_r ?_
      have hh : rputF l ps d b s h t e = _ := rpu_n (.inr (.inl (by omega)))
      refine fin_i [(0, some 192)] rfl (fz ?_) (fz ?_)
      · rw [hh]; first | exact ⟨rfl, rfl⟩ | simp [rnext]
      · first | (rw [hh]; done) | (rw [hh, dw_no g3]; done)
    · refine vc_skip ?_
      refine thn ?_
      refine vc_sr ?_
      iterate 6 refine vo ?_
      refine voc c_spec_SlotAddress rfl rfl ?_
      refine vo ?_
      refine voc c_spec_DmaWrite rfl rfl ?_
      iterate 6 refine vo ?_
      refine vnt ?_
      refine vc_seq' ?_
      refine vc_sr ?_
      iterate 2 refine vo ?_
      refine vnt ?_
      refine vc_if (fun g3 => ?_) (fun g3 => ?_)
      · refine vc_sr ?_
        refine vo ?_
        refine voc c_spec_l16Copy rfl rfl ?_
        iterate 4 refine vo ?_
        refine vnt ?_
        refine vc_ret ?_
        refine thn_r ?_
        have hh : rputF l ps d b s h t e = _ := rpu_n (.inr (.inr g3))
        refine fin_i [(0, some 328)] rfl (fz ?_) (fz ?_)
        · rw [hh]; first | exact ⟨rfl, rfl⟩ | simp [rnext]
        · first | (rw [hh]; done) | (rw [hh, dw_no g3]; done)
      · refine vc_skip ?_
        refine thn ?_
        refine vc_sr ?_
        iterate 3 refine vo ?_
        try refine vwr ?_
        iterate 3 refine vo ?_
        try refine vwr ?_
        refine vo ?_
        try refine veq (Int.tmod_eq_emod_of_nonneg (by omega)) ?_
        iterate 2 refine vo ?_
        refine vnt ?_
        refine vc_sr ?_
        iterate 5 refine vo ?_
        refine vnt ?_
        refine vc_ret ?_
        have hh : rputF l ps d b s h t e = _ := rpu_y g1 (by omega) g3
        refine fin_i [(0, some 280)] rfl (fz ?_) (fz ?_)
        · rw [hh]; first | exact ⟨rfl, rfl⟩ | simp [rnext]
        · first | (rw [hh]; done) | (rw [hh, dw_no g3]; done)
theorem ceq_flow (s : Sm) (kind si di sp dp : Int) : ceqV [.int .i64 s.kind, .int .i64 s.si, .int .i64 s.di, .int .i64 s.sp, .int .i64 s.dp] [.int .i64 kind, .int .i64 si, .int .i64 di, .int .i64 sp, .int .i64 dp] = smHit s kind si di sp dp := by
  simp [ceqV, smHit]
set_option maxHeartbeats 4000000 in
theorem c_spec_StreamIndex {l : List Sm} {kind si di sp dp : Int} (hl_l : l.length ≤ 1099511627776 := by first | with_reducible assumption | omega) : Con0 Tryz.prog 54 [.one (.sl 8 (l.map smE)), .agg [V kind, V si, V di, V sp, V dp]] (I (smIdx l kind si di sp dp)) [] := by
  have hE := eqk_Flow
  refine con_i Tryz.func54 Tryz.ntmps54 (t := [(0, .one (.sl 8 (l.map smE))), (1, .agg [V kind, V si, V di, V sp, V dp])]) rfl ?_
  refine vc_sr ?_
  iterate 2 refine vo ?_
  refine vnt ?_
  refine vc_seq' ?_
  refine vc_sr ?_
  refine vo ?_
  refine vnt ?_
  refine vc_block ?_
  refine vc_lp (σ := Nat) [0, 3] [24] (fun i => [(5, I (i : Nat))]) (fun i => []) (fun i => i ≤ l.length ∧ smIdx l kind si di sp dp = smIdxF kind si di sp dp i (l.drop i)) (fun i => l.length - i) 0 rfl rfl (sub_i [] (fz ?_) (fz ?_)) ?_ fun i hI => ?_
  · first | trivial | rfl
  · first | trivial | rfl
  · exact ⟨Nat.zero_le _, rfl⟩
  refine vc_nf rfl rfl ?_
  refine vc_seq' ?_
  refine vc_sr ?_
  iterate 3 refine vo ?_
  try first | refine vlb ?_ | refine vln ?_
  refine vo ?_
  refine vnt ?_
  refine vc_if (fun g1 => ?_) (fun g1 => ?_)
  · refine vc_skip ?_
    refine thn ?_
    refine vc_seq' ?_
    refine vc_block ?_
    refine vc_sr ?_
    iterate 3 refine vo ?_
    try with_reducible (first | refine vep ?_ | refine vpt ?_)
    iterate 4 refine vo ?_
    refine vnt ?_
    refine vc_if (fun g2 => ?_) (fun g2 => ?_)
    · refine vc_sr ?_
      iterate 2 refine vo ?_
      refine vnt ?_
      refine vc_ret ?_
      refine inB_r ?_
      refine thn_r ?_
      refine thn_r ?_
      refine inB_r ?_
      refine thn_r ?_
      refine fin_i [] rfl (fz ?_) trivial
      exact sm_hit hI.2 (by omega) ((ceq_flow ..).symm.trans g2)
    · refine vc_skip ?_
      refine inB_n ?_
      refine thn ?_
      refine vc_region ?_
      iterate 2 refine vo ?_
      try refine vwr ?_
      refine vo ?_
      refine vnt ?_
      refine ⟨i + 1, ?_, ?_, sub_i [] (fz ?_) (fz ?_)⟩
      · exact ⟨by omega, sm_go hI.2 (by omega) ((ceq_flow ..).symm.trans g2)⟩
      · omega
      · first | rfl | trivial | exact ⟨rfl, rfl⟩
      · first | rfl | trivial
  · refine vc_exit ?_
    refine thn_x ?_
    refine thn_x ?_
    refine inB_x ?_
    refine thn ?_
    refine vc_sr ?_
    refine vo ?_
    refine vnt ?_
    refine vc_ret ?_
    refine fin_i [] rfl (fz ?_) trivial
    exact sm_end hI.2 (by omega)
end Go.Proofs.YtfcmcedeapgdcaaGreat
end
section
namespace Go.Proofs.YtfcmcedeapgdcaaGreat
open Go Go.RowKit Go.Vc
set_option linter.unusedVariables false
set_option linter.unusedSimpArgs false
set_option linter.unnecessarySimpa false
theorem ring_tt {b s h t : Int} (q : ringOkB b s h t = true) : ringOkB b s t t = true ∧ usedF s t t = 0 := by
  obtain ⟨hs, b0, b1, s0, s1, h0, h1, t0, t1, u1, u0⟩ := ringOk_facts q
  have e : usedF s t t = 0 := by unfold usedF; rw [Int.sub_self]; exact Int.zero_emod _
  refine ⟨?_, e⟩
  simp only [ringOkB, Bool.and_eq_true, inB_iff, decide_eq_true_eq]
  unfold usedF at e
  exact ⟨⟨⟨⟨⟨b0, b1⟩, hs⟩, t0, t1⟩, t0, t1⟩, by omega⟩
end Go.Proofs.YtfcmcedeapgdcaaGreat
end
section
namespace Go.Vc
open Go Go.RowKit
set_option linter.unusedVariables false
set_option linter.unusedSectionVars false
set_option linter.unusedSimpArgs false
set_option linter.unnecessarySimpa false
def offK (k : Nat) (H : Hp) : Hp := H.filter fun x => x.1 != k
theorem offK_id {k : Nat} : ∀ {H : Hp}, k ∉ H.map (·.1) → offK k H = H
  | [], _ => rfl
  | (d, v) :: t, h => by
    simp only [List.map_cons, List.mem_cons, not_or] at h
    unfold offK
    rw [List.filter_cons, if_pos (by simp only [bne_iff_ne, ne_eq]; exact fun e => h.1 e.symm)]
    exact congrArg _ (offK_id h.2)
theorem upd1_perm {k : Nat} {b : Blk} (b' : Blk) : ∀ {H : Hp}, (H.map (·.1)).Nodup → lk H k = some b → (upd1 k b' H).Perm ((k, b') :: offK k H)
  | [], _, h => by cases h
  | (d, v) :: t, hn, h => by
    simp only [List.map_cons, List.nodup_cons] at hn
    simp only [lk] at h
    simp only [upd1]
    by_cases e : d = k
    · subst e
      have : offK d ((d, v) :: t) = t := by
        unfold offK
        rw [List.filter_cons, if_neg (by simp)]
        exact offK_id hn.1
      rw [if_pos rfl, this]
    · rw [if_neg e] at h ⊢
      have : offK k ((d, v) :: t) = (d, v) :: offK k t := by
        unfold offK
        rw [List.filter_cons, if_pos (by simpa using e)]
      rw [this]
      exact ((upd1_perm b' hn.2 h).cons _).trans (.swap ..)
theorem upd1_same {k : Nat} {b : Blk} : ∀ {H : Hp}, lk H k = some b → upd1 k b H = H
  | [], h => by cases h
  | (d, v) :: t, h => by
    simp only [lk] at h
    simp only [upd1]
    split at h
    · rename_i e; subst e; simp at h; subst h; simp
    · rename_i e; rw [if_neg e, upd1_same h]
theorem lk_offK {k m : Nat} (h : m ≠ k) : ∀ {H : Hp}, lk (offK k H) m = lk H m
  | [] => rfl
  | (d, v) :: t => by
    unfold offK
    rw [List.filter_cons]
    by_cases e : d = k
    · rw [if_neg (by simp [e])]
      simp only [lk]
      rw [if_neg (fun e2 => h (e2.symm.trans e))]
      exact lk_offK h
    · rw [if_pos (by simpa using e)]
      simp only [lk]
      split
      · rfl
      · exact lk_offK h
theorem nd_offK {k : Nat} {H : Hp} (h : (H.map (·.1)).Nodup) : ((offK k H).map (·.1)).Nodup :=
  h.sublist (List.filter_sublist.map _)
abbrev Snt := Int × Int × List (List Value)
def sntR (w : World) (x : Snt) (e : List Value) : Prop := ∃ v, e = [.int .i64 x.1, .int .i64 x.2.1, v] ∧ RB w (.sl 1 x.2.2) v
theorem sntR.ex {w w' : World} {x : Snt} {e : List Value} (h : sntR w x e) (hx : Ex w w') : sntR w' x e := by
  obtain ⟨v, h1, h2⟩ := h
  exact ⟨v, h1, RB.ex (p := .sl 1 x.2.2) h2 hx⟩
def joinA (L : List Asn) : Asn where
  P w F := SepL w L F
  stable h hs := SepL.stable h hs
  lt h b hb := SepL.lt h b hb
theorem SepL.app {w : World} : ∀ {L M : List Asn} {F G : Nat → Prop}, SepL w L F → SepL w M G → (∀ b, F b → ¬ G b) → SepL w (L ++ M) fun b => F b ∨ G b
  | [], M, F, G, h, k, hd => by
    have : (fun b => F b ∨ G b) = G := by funext b; exact propext ⟨fun x => x.elim (fun x => (h b x).elim) id, .inr⟩
    rw [this]; exact k
  | A :: L, M, F, G, ⟨F1, F2, h1, h2, h3, h4⟩, k, hd => by
    refine ⟨F1, fun b => F2 b ∨ G b, h1, SepL.app h2 k fun b hb => hd b ((h4 b).2 (.inr hb)), fun b hb hg => ?_, fun b => ?_⟩
    · rcases hg with hg | hg
      · exact h3 b hb hg
      · exact hd b ((h4 b).2 (.inl hb)) hg
    · show (F b ∨ G b) ↔ (F1 b ∨ (F2 b ∨ G b))
      rw [h4, or_assoc]
theorem SepL.unapp {w : World} : ∀ {L M : List Asn} {F : Nat → Prop}, SepL w (L ++ M) F → ∃ F1 F2, SepL w L F1 ∧ SepL w M F2 ∧ (∀ b, F1 b → ¬ F2 b) ∧ ∀ b, F b ↔ (F1 b ∨ F2 b)
  | [], M, F, h => ⟨fun _ => False, F, fun _ h => h, h, fun _ h => h.elim, fun b => ⟨.inr, fun x => x.elim False.elim id⟩⟩
  | A :: L, M, F, ⟨F1, F2, h1, h2, h3, h4⟩ => by
    obtain ⟨G1, G2, g1, g2, g3, g4⟩ := SepL.unapp h2
    refine ⟨fun b => F1 b ∨ G1 b, G2, ⟨F1, G1, h1, g1, fun b hb hg => h3 b hb ((g4 b).2 (.inl hg)), fun _ => Iff.rfl⟩, g2, fun b hb hg => ?_, fun b => ?_⟩
    · rcases hb with hb | hb
      · exact h3 b hb ((g4 b).2 (.inr hg))
      · exact g3 b hb hg
    · rw [h4, g4, or_assoc]
section
variable {w0 w : World} {Js : List Asn}
theorem _root_.Go.St.joinL {L : List Asn} (h : St w0 w (L ++ Js)) : St w0 w (joinA L :: Js) := by
  obtain ⟨h1, F, h2, h3⟩ := h
  obtain ⟨F1, F2, g1, g2, g3, g4⟩ := SepL.unapp h2
  exact ⟨h1, F, ⟨F1, F2, g1, g2, g3, g4⟩, h3⟩
theorem _root_.Go.St.unjoin {L : List Asn} (h : St w0 w (joinA L :: Js)) : St w0 w (L ++ Js) := by
  obtain ⟨h1, F, ⟨F1, F2, g1, g2, g3, g4⟩, h3⟩ := h
  have := SepL.app (L := L) (M := Js) g1 g2 g3
  refine ⟨h1, _, this, fun b hb => h3 b ((g4 b).2 hb)⟩
end
def fl1 (es : List (List Value)) : Prop := ∀ e ∈ es, e.length = 1 ∧ e.all (·.oneCell') = true
theorem slot_RB {w : World} {E : TypeId} {sz : Nat} {v : Value} {es : List (List Value)} (h : Slot 0 w E sz v es.length es.flatten) (hes : ∀ e ∈ es, e.length = sz ∧ e.all (·.oneCell') = true) : RB w (.sl sz es) v := by
  obtain ⟨hl, ⟨hv, h0⟩ | ⟨b, off, cap, cur, hv, _, hb, c1, c2, c3, c4⟩⟩ := h
  · have : es = [] := List.eq_nil_of_length_eq_zero h0
    subst this
    exact ⟨none, 0, by rw [hv]; rfl, Nat.le_refl _, Nat.zero_le _, hes, fun h => (h rfl).elim⟩
  · refine ⟨some ⟨b, off, none⟩, cap, hv, c1, c2, hes, fun _ => ⟨b, off, rfl, fun i e he j hj => ?_⟩⟩
    have hi := (List.getElem?_eq_some_iff.1 he).1
    have := Nat.mul_le_mul_right sz (show i + 1 ≤ es.length from hi)
    rw [Nat.succ_mul] at this
    rw [cell_row hb, Nat.add_assoc, c4 (i * sz + j) (by omega), flat_at hes he hj]
end Go.Vc
end
section
namespace Go.Vc
open Go Go.RowKit
set_option linter.unusedVariables false
set_option linter.unusedSectionVars false
set_option linter.unusedSimpArgs false
set_option linter.unnecessarySimpa false
abbrev Sn := Int × Int × List Int
section
variable {P : Program} [TyEnv P] {n : Nat} {ops os : List Oper} {dr : Bool} {K : Tm → Hp → Prop} {t t' : Tm} {H H' : Hp} {fp : List Fp} {o : Oper} {k1 k2 : List Nat} {T e : TypeId} {i ei : TyI} {x y : Operand}
theorem good_of {v : AV} {δ rs : Hp} (h : Tri P o (gt t) rs v δ) (h1 : ∀ k b, (k, b) ∈ rs → lk H k = some b) (h2 : ∀ k b, (k, b) ∈ δ → (∃ b', (k, b') ∈ rs) ∨ lk H k = none) : Good P o (gt t) H v δ rs := ⟨h, h1, h2⟩
end
end Go.Vc
end
section
namespace Go.Proofs.YtfcmcedeapgdcaaGreat
open Go Go.RowKit Go.Vc
set_option linter.unusedVariables false
set_option linter.unusedSimpArgs false
set_option linter.unnecessarySimpa false
def fb (N : Nat) (ps : Pg) (a : Int) : Nat := bAt (pageAt ps (((N : Int) - 1 - a / 128) * 128)) (a % 128).toNat
def Turned (N M : Nat) (l : List Mp) (d : Int) (wr : Bool) : Prop := mapsOk l = true ∧ M ≤ N ∧ ∀ v : Int, 0 ≤ v → v < M → mpPage l d v wr = N - 1 - v
theorem ba_ext {s t : ByteArray} (h : s.size = t.size) (k : ∀ i, i < s.size → bAt s i = bAt t i) : s = t := by
  refine ByteArray.ext_getElem h fun i h1 h2 => ?_
  have := k i h1
  unfold bAt at this
  rw [dif_pos h1, dif_pos h2] at this
  exact UInt8.toNat_inj.1 this
theorem fb_lt (N : Nat) (ps : Pg) (a : Int) : fb N ps a < 256 := bAt_lt _ _
theorem page_at2 (ps : Pg) {x y : Int} (h : x / 128 = y / 128) : pageAt ps x = pageAt ps y := by unfold pageAt; rw [h]
theorem fb_read {N : Nat} {l : List Mp} {ps : Pg} {d : Int} {wr : Bool} (hm : MemOk ps) (hl : ps.length = N) (hp : ∀ v : Int, 0 ≤ v → v < N → mpPage l d v wr = N - 1 - v) :
    ∀ (n : Nat) (a : Int), 0 ≤ a → a + n ≤ 128 * N → ∃ rs, parts l ps.length d wr a n = some rs ∧ ∃ t : ByteArray, (∀ o, readAll ps rs o = o ++ t) ∧ t.size = n ∧ ∀ k : Nat, k < n → bAt t k = fb N ps (a + k) := by
  intro n
  induction n using Nat.strongRecOn with
  | _ n ih =>
    intro a h0 h1
    by_cases hn : n = 0
    · subst hn
      exact ⟨[], parts_zero, ⟨#[]⟩, fun o => (ba_append_nil o).symm, rfl, fun k hk => by omega⟩
    · obtain ⟨k, hk⟩ : ∃ k : Nat, (k : Int) = min (n : Int) (128 - a % 128) := ⟨(min (n : Int) (128 - a % 128)).toNat, by omega⟩
      have hv := hp (a / 128) (by omega) (by omega)
      obtain ⟨rs, e, t, t1, t2, t3⟩ := ih (n - k) (by omega) (a + k) (by omega) (by omega)
      have hseg : Seg ps.length (((N : Int) - 1 - a / 128) * 128 + a % 128, (k : Int)) := ⟨by simp only; omega, by simp only; omega, by simp only; omega, by simp only; omega⟩
      have hz := readSeg_size hm hseg
      simp only [Int.toNat_natCast] at hz
      refine ⟨(((N : Int) - 1 - a / 128) * 128 + a % 128, (k : Int)) :: rs, ?_, readSeg ps (((N : Int) - 1 - a / 128) * 128 + a % 128, (k : Int)) ++ t, fun o => ?_, ?_, fun j hj => ?_⟩
      · rw [parts_some (by omega) h0 (by rw [hv]; omega) (by rw [hv]; omega) hk, e, hv]; rfl
      · simp only [readAll]; rw [t1, ByteArray.append_assoc]
      · rw [ByteArray.size_append, hz, t2]; omega
      · rw [bAt_append, hz]
        by_cases hjk : j < k
        · rw [if_pos hjk]
          unfold readSeg fb
          simp only
          rw [bAt_extract, if_pos (by omega), page_at2 ps (x := ((N : Int) - 1 - a / 128) * 128 + a % 128) (y := ((N : Int) - 1 - (a + j) / 128) * 128) (by omega)]
          congr 1; omega
        · rw [if_neg hjk, t3 (j - k) (by omega)]
          congr 1; omega
theorem page_size {N : Nat} {ps : Pg} (hm : MemOk ps) (hl : ps.length = N) {a : Int} (h0 : 0 ≤ a) (h1 : a < 128 * N) : (pageAt ps (((N : Int) - 1 - a / 128) * 128)).size = 128 :=
  let ⟨_, _, h⟩ := hm.page (a := ((N : Int) - 1 - a / 128) * 128) (by omega) (by omega); h
theorem fb_seg {N : Nat} {ps : Pg} (hm : MemOk ps) (hl : ps.length = N) {a : Int} {b : ByteArray} (h0 : 0 ≤ a) (h1 : a < 128 * N) (h2 : a % 128 + b.size ≤ 128) {x : Int} (x0 : 0 ≤ x) (x1 : x < 128 * N) :
    fb N (writeSeg ps (((N : Int) - 1 - a / 128) * 128 + a % 128) b) x = if a ≤ x ∧ x < a + b.size then bAt b (x - a).toNat else fb N ps x := by
  have hpa := page_size hm hl h0 h1
  have hpx := page_size hm hl x0 x1
  have e1 : pageAt ps (((N : Int) - 1 - a / 128) * 128 + a % 128) = pageAt ps (((N : Int) - 1 - a / 128) * 128) := page_at2 ps (by omega)
  have hset : pageAt (writeSeg ps (((N : Int) - 1 - a / 128) * 128 + a % 128) b) (((N : Int) - 1 - x / 128) * 128) = if a / 128 = x / 128 then putB (pageAt ps (((N : Int) - 1 - a / 128) * 128)) (a % 128).toNat b else pageAt ps (((N : Int) - 1 - x / 128) * 128) := by
    unfold writeSeg
    rw [e1]
    show (List.set ps _ _).getD _ _ = _
    rw [List.getD_eq_getElem?_getD, List.getElem?_set]
    by_cases h : a / 128 = x / 128
    · rw [if_pos (by omega), if_pos h, if_pos (by omega)]
      simp only [Option.getD_some]
      congr 2; omega
    · rw [if_neg (by omega), if_neg h]
      show _ = ps.getD _ _
      rw [List.getD_eq_getElem?_getD]
  unfold fb
  rw [hset]
  by_cases h : a / 128 = x / 128
  · rw [if_pos h, bAt_putB (by rw [hpa]; omega)]
    by_cases h3 : a ≤ x ∧ x < a + b.size
    · rw [if_pos h3, if_pos (by omega)]
      congr 1; omega
    · rw [if_neg h3, if_neg (by omega), h]
  · rw [if_neg h, if_neg (by omega)]
theorem fb_write {N M : Nat} {l : List Mp} {d : Int} {wr : Bool} (hMN : M ≤ N) (hp : ∀ v : Int, 0 ≤ v → v < M → mpPage l d v wr = N - 1 - v) :
    ∀ (n : Nat) (a : Int) (ps : Pg) (s : ByteArray), MemOk ps → ps.length = N → s.size = n → 0 ≤ a → a + n ≤ 128 * M → ∃ rs, parts l ps.length d wr a n = some rs ∧ MemOk (writeAll ps rs s) ∧ (writeAll ps rs s).length = N ∧
      ∀ x : Int, 0 ≤ x → x < 128 * N → fb N (writeAll ps rs s) x = if a ≤ x ∧ x < a + n then bAt s (x - a).toNat else fb N ps x := by
  intro n
  induction n using Nat.strongRecOn with
  | _ n ih =>
    intro a ps s hm hl hs h0 h1
    by_cases hn : n = 0
    · subst hn
      exact ⟨[], parts_zero, hm, hl, fun x _ _ => by rw [if_neg (by omega)]; rfl⟩
    · obtain ⟨k, hk⟩ : ∃ k : Nat, (k : Int) = min (n : Int) (128 - a % 128) := ⟨(min (n : Int) (128 - a % 128)).toNat, by omega⟩
      have hv := hp (a / 128) (by omega) (by omega)
      have ez : (s.extract 0 k).size = k := by rw [ByteArray.size_extract]; omega
      have ez2 : (s.extract k s.size).size = n - k := by rw [ByteArray.size_extract]; omega
      have hw := hm.writeSeg (a := ((N : Int) - 1 - a / 128) * 128 + a % 128) (b := s.extract 0 k) (by omega) (by omega) (by rw [ez]; omega)
      obtain ⟨rs, e, t1, t2, t3⟩ := ih (n - k) (by omega) (a + k) (writeSeg ps (((N : Int) - 1 - a / 128) * 128 + a % 128) (s.extract 0 k)) (s.extract k s.size) hw.1 (hw.2.trans hl) ez2 (by omega) (by omega)
      rw [hw.2] at e
      refine ⟨(((N : Int) - 1 - a / 128) * 128 + a % 128, (k : Int)) :: rs, ?_, ?_, ?_, fun x x0 x1 => ?_⟩
      · rw [parts_some (by omega) h0 (by rw [hv]; omega) (by rw [hv]; omega) hk, e, hv]; rfl
      · simpa only [writeAll, Int.toNat_natCast] using t1
      · simpa only [writeAll, Int.toNat_natCast] using t2
      · simp only [writeAll, Int.toNat_natCast]
        rw [t3 x x0 x1, fb_seg hm hl h0 (by omega) (by rw [ez]; omega) x0 x1, ez]
        by_cases c1 : a + k ≤ x ∧ x < a + k + ((n - k : Nat) : Int)
        · rw [if_pos c1, if_pos (by omega), bAt_extract, if_pos (by omega)]
          congr 1; omega
        · rw [if_neg c1]
          by_cases c2 : a ≤ x ∧ x < a + k
          · rw [if_pos c2, if_pos (by omega), bAt_extract, if_pos (by omega)]
            congr 1; omega
          · rw [if_neg c2, if_neg (by omega)]
theorem runs_of {l : List Mp} {ps : Pg} {d a n : Int} {wr : Bool} (h1 : mapsOk l = true) (h2 : MemOk ps) (h3 : 0 ≤ n) (h4 : n ≤ 4096) : runs l ps d a n wr = parts l ps.length d wr a n.toNat := by
  unfold runs
  rw [if_pos]
  unfold runsOk
  rw [h1, memOk_iff.2 h2, inB_iff.2 ⟨h3, h4⟩]; rfl
theorem dmaR_fb {N : Nat} {l : List Mp} {ps : Pg} {d a n : Int} (ht : Turned N N l d false) (hm : MemOk ps) (hl : ps.length = N) (h0 : 0 ≤ a) (hn : 0 ≤ n) (hn2 : n ≤ 4096) (h1 : a + n ≤ 128 * N) :
    ∃ t, dmaRF l ps d a n = (t, true) ∧ (t.size : Int) = n ∧ ∀ k : Nat, (k : Int) < n → bAt t k = fb N ps (a + k) := by
  obtain ⟨rs, e, t, t1, t2, t3⟩ := fb_read hm hl ht.2.2 n.toNat a h0 (by omega)
  refine ⟨t, ?_, by omega, fun k hk => t3 k (by omega)⟩
  rw [dmaRF_yes ((runs_of ht.1 hm hn hn2).trans e), t1, ba_empty]
theorem dmaW_fb {N M : Nat} {l : List Mp} {ps : Pg} {d a : Int} {s : ByteArray} {wr : Bool} (ht : Turned N M l d wr) (hm : MemOk ps) (hl : ps.length = N) (h0 : 0 ≤ a) (hn2 : s.size ≤ 4096) (h1 : a + s.size ≤ 128 * M) :
    ∃ qs, dmaWF l ps d a s wr = (qs, true) ∧ MemOk qs ∧ qs.length = N ∧ ∀ x : Int, 0 ≤ x → x < 128 * N → fb N qs x = if a ≤ x ∧ x < a + s.size then bAt s (x - a).toNat else fb N ps x := by
  obtain ⟨rs, e, t1, t2, t3⟩ := fb_write ht.2.1 ht.2.2 s.size a ps s hm hl rfl h0 h1
  exact ⟨_, dmaWF_yes ((runs_of ht.1 hm (by omega) (by omega)).trans (by rw [Int.toNat_natCast]; exact e)), t1, t2, t3⟩
def fs (N : Nat) (ps : Pg) (a : Int) (n : Nat) : ByteArray := ⟨((List.range n).map fun k : Nat => UInt8.ofNat (fb N ps (a + k))).toArray⟩
theorem fs_size (N : Nat) (ps : Pg) (a : Int) (n : Nat) : (fs N ps a n).size = n := by
  show ((List.range n).map _).toArray.size = n
  simp
theorem fs_at {N : Nat} {ps : Pg} {a : Int} {n k : Nat} (h : k < n) : bAt (fs N ps a n) k = fb N ps (a + k) := by
  unfold bAt
  rw [dif_pos (by rw [fs_size]; exact h)]
  show (((List.range n).map fun k : Nat => UInt8.ofNat (fb N ps (a + k))).toArray[k]'(by simpa using h)).toNat = _
  simp
  have := fb_lt N ps (a + k)
  omega
theorem dmaR_fs {N : Nat} {l : List Mp} {ps : Pg} {d a n : Int} (ht : Turned N N l d false) (hm : MemOk ps) (hl : ps.length = N) (h0 : 0 ≤ a) (hn : 0 ≤ n) (hn2 : n ≤ 4096) (h1 : a + n ≤ 128 * N) : dmaRF l ps d a n = (fs N ps a n.toNat, true) := by
  obtain ⟨t, e, t1, t2⟩ := dmaR_fb ht hm hl h0 hn hn2 h1
  rw [e, ba_ext (s := t) (t := fs N ps a n.toNat) (by rw [fs_size]; omega) fun i hi => by rw [t2 i (by omega), fs_at (by omega)]]
theorem fs_in {N : Nat} {ps qs : Pg} {a x : Int} {n : Nat} {s : ByteArray} (h : ∀ y : Int, 0 ≤ y → y < 128 * N → fb N qs y = if a ≤ y ∧ y < a + s.size then bAt s (y - a).toNat else fb N ps y) (h0 : 0 ≤ x) (h1 : x + n ≤ 128 * N) (h2 : a ≤ x) (h3 : x + n ≤ a + s.size) : fs N qs x n = s.extract (x - a).toNat ((x - a).toNat + n) := by
  refine ba_ext (by rw [fs_size, ByteArray.size_extract]; omega) fun i hi => ?_
  rw [fs_size] at hi
  rw [fs_at hi, h _ (by omega) (by omega), if_pos (by omega), bAt_extract, if_pos (by omega)]
  congr 1; omega
theorem fs_here {N : Nat} {ps qs : Pg} {a : Int} {s : ByteArray} (h : ∀ y : Int, 0 ≤ y → y < 128 * N → fb N qs y = if a ≤ y ∧ y < a + s.size then bAt s (y - a).toNat else fb N ps y) (h0 : 0 ≤ a) (h1 : a + s.size ≤ 128 * N) : fs N qs a s.size = s := by
  rw [fs_in h h0 h1 (Int.le_refl _) (Int.le_refl _), show (a - a).toNat = 0 by omega, Nat.zero_add, ByteArray.extract_zero_size]
theorem fs_off {N : Nat} {ps qs : Pg} {a x : Int} {n : Nat} {s : ByteArray} (h : ∀ y : Int, 0 ≤ y → y < 128 * N → fb N qs y = if a ≤ y ∧ y < a + s.size then bAt s (y - a).toNat else fb N ps y) (h0 : 0 ≤ x) (h1 : x + n ≤ 128 * N) (h2 : x + n ≤ a ∨ a + s.size ≤ x) : fs N qs x n = fs N ps x n := by
  refine ba_ext (by rw [fs_size, fs_size]) fun i hi => ?_
  rw [fs_size] at hi
  rw [fs_at hi, fs_at hi, h _ (by omega) (by omega), if_neg (by omega)]
end Go.Proofs.YtfcmcedeapgdcaaGreat
end
section
namespace Go.Proofs.YtfcmcedeapgdcaaGreat
open Go Go.RowKit Go.Vc
set_option linter.unusedVariables false
set_option linter.unusedSimpArgs false
set_option linter.unnecessarySimpa false
end Go.Proofs.YtfcmcedeapgdcaaGreat
end
section
namespace Go.Proofs.YtfcmcedeapgdcaaGreat
open Go Go.RowKit Go.Vc
set_option linter.unusedVariables false
set_option linter.unusedSimpArgs false
set_option linter.unnecessarySimpa false
end Go.Proofs.YtfcmcedeapgdcaaGreat
end
section
namespace Go.Proofs.YtfcmcedeapgdcaaGreat
open Go Go.RowKit Go.Vc
set_option linter.unusedVariables false
set_option linter.unusedSimpArgs false
set_option linter.unnecessarySimpa false
end Go.Proofs.YtfcmcedeapgdcaaGreat
end
section
namespace Go.Proofs.YtfcmcedeapgdcaaGreat
open Go Go.RowKit Go.Vc
set_option linter.unusedVariables false
set_option linter.unusedSimpArgs false
set_option linter.unnecessarySimpa false
end Go.Proofs.YtfcmcedeapgdcaaGreat
end
section
namespace Go.Proofs.YtfcmcedeapgdcaaGreat
open Go Go.RowKit Go.Vc
set_option linter.unusedVariables false
set_option linter.unusedSimpArgs false
set_option linter.unnecessarySimpa false
end Go.Proofs.YtfcmcedeapgdcaaGreat
end
section
namespace Go.Proofs.YtfcmcedeapgdcaaGreat
open Go Go.RowKit Go.Vc
set_option linter.unusedVariables false
set_option linter.unusedSimpArgs false
set_option linter.unnecessarySimpa false
end Go.Proofs.YtfcmcedeapgdcaaGreat
end
section
namespace Go.Proofs.YtfcmcedeapgdcaaGreat
open Go Go.RowKit Go.Vc
set_option linter.unusedVariables false
set_option linter.unusedSimpArgs false
set_option linter.unnecessarySimpa false
end Go.Proofs.YtfcmcedeapgdcaaGreat
end
section
namespace Go.Proofs.YtfcmcedeapgdcaaGreat
open Go Go.RowKit Go.Vc
set_option linter.unusedVariables false
set_option linter.unusedSimpArgs false
set_option linter.unnecessarySimpa false
end Go.Proofs.YtfcmcedeapgdcaaGreat
end
section
namespace Go
open Go.RowKit
theorem and_mask_i64 (x : Int) (i : Nat) (hi : i ≤ 62) : bits .and .i64 x (2 ^ i - 1) = x % 2 ^ i := by
  have hp : (2 : Nat) ^ i ≤ 2 ^ 62 := Nat.pow_le_pow_right (by decide) hi
  have hpos : 0 < 2 ^ i := Nat.two_pow_pos i
  have hc : ((2 : Int) ^ i - 1) = ((2 ^ i - 1 : Nat) : Int) := by rw [Int.natCast_sub hpos]; simp
  rw [hc]
  show IntKind.i64.wrap (((BitVec.ofInt 64 x &&& BitVec.ofInt 64 ((2 ^ i - 1 : Nat) : Int)).toNat : Nat) : Int) = x % 2 ^ i
  rw [BitVec.ofInt_natCast, BitVec.toNat_and, BitVec.toNat_ofNat, BitVec.toNat_ofInt, Nat.mod_eq_of_lt (a := 2 ^ i - 1) (by omega), Nat.and_two_pow_sub_one_eq_mod]
  have hlt : (x % (2 ^ 64 : Nat)).toNat % 2 ^ i < 2 ^ i := Nat.mod_lt _ hpos
  rw [IntKind.wrap_i64, Int.emod_eq_of_lt (by omega) (by omega)]
  have h0 : 0 ≤ x % (2 ^ 64 : Nat) := Int.emod_nonneg _ (by decide)
  have e : (((x % (2 ^ 64 : Nat)).toNat % 2 ^ i : Nat) : Int) = x % 2 ^ i := by
    rw [Int.natCast_emod, Int.toNat_of_nonneg h0]
    have hd : ((2 ^ i : Nat) : Int) ∣ ((2 ^ 64 : Nat) : Int) := Int.natCast_dvd_natCast.2 (Nat.pow_dvd_pow 2 (by omega))
    rw [Int.emod_emod_of_dvd _ hd]; simp
  omega
theorem emod_le (x : Int) {n : Int} (h : 0 < n) : x % n ≤ n - 1 := by have := Int.emod_lt_of_pos x h; omega
theorem and255_bd (x : Int) : 0 ≤ bits .and .i64 x 255 ∧ bits .and .i64 x 255 ≤ 255 := by
  have h := and_mask_i64 x 8 (by decide)
  have e : ((2 : Int) ^ 8 - 1) = 255 := by decide
  rw [e] at h
  rw [h]
  omega
theorem Holds.bytes {w : World} {xs : List UInt8} {vs : List Value} (h : Holds w xs vs) : ∃ a cap, vs = [.slice a xs.length cap] ∧ xs.length ≤ cap ∧ cap ≤ maxLen ∧
    (∀ i (hi : i < xs.length), ∃ b off, a = some ⟨b, off, none⟩ ∧ w.cell? ⟨b, off + i, none⟩ = some (.int .u8 (xs[i]'hi).toNat)) := by
  obtain ⟨a, cap, rfl, h1, h2, h3⟩ := h.slice
  refine ⟨a, cap, rfl, h1, h2, fun i hi => ?_⟩
  obtain ⟨b, off, ts, ha, ht, hc⟩ := h3 i hi
  obtain rfl := ht.byte
  have := hc 0 (by decide)
  exact ⟨b, off, ha, by simpa [Rep.size] using this⟩
def OneB (B : Nat) (w w' : World) : Prop := w'.os = w.os ∧ w'.tape = w.tape ∧ w'.output = w.output ∧ w.heap.size ≤ w'.heap.size ∧ ∀ k, k < w.heap.size → k ≠ B → w'.heap[k]? = w.heap[k]?
theorem OneB.refl (B : Nat) (w : World) : OneB B w w := ⟨rfl, rfl, rfl, Nat.le_refl _, fun _ _ _ => rfl⟩
theorem OneB.ex {B : Nat} {w a b : World} (h : OneB B w a) (hx : Ex a b) : OneB B w b := by
  obtain ⟨h1, h2, h3, h4, h5⟩ := h
  have hb := hx.below
  exact ⟨hb.os.trans h1, hb.tape.trans h2, hb.output.trans h3, Nat.le_trans h4 hb.size, fun k hk hn => (hx.block (Nat.lt_of_lt_of_le hk h4)).trans (h5 k hk hn)⟩
theorem OneB.drew {B : Nat} {w a : World} (h : OneB B w a) : OneB B w a.drew := h
theorem OneB.plus {B : Nat} {w a : World} (h : OneB B w a) (g : Gr) : OneB B w (a.plus g) := h.ex ((Ex.refl _).plus g)
theorem OneB.setCell {B : Nat} {w a : World} (h : OneB B w a) (i : Nat) (v : Value) : OneB B w (a.setCell ⟨B, i, none⟩ v) := by
  obtain ⟨h1, h2, h3, h4, h5⟩ := h
  exact ⟨h1, h2, h3, by simpa using h4, fun k hk hn => (row_setCell_other (p := ⟨B, i, none⟩) hn v).trans (h5 k hk hn)⟩
theorem OneB.upd {B : Nat} {w a : World} (h : OneB B w a) (f : Nat → Obj) : OneB B w (a.upd [B] f) := by
  obtain ⟨h1, h2, h3, h4, h5⟩ := h
  exact ⟨h1, h2, h3, by simpa using h4, fun k hk hn => (World.block_upd a [B] f (by simpa using hn)).trans (h5 k hk hn)⟩
theorem OneB.trans {B : Nat} {a b c : World} (h : OneB B a b) (k : OneB B b c) : OneB B a c := by
  obtain ⟨h1, h2, h3, h4, h5⟩ := h
  obtain ⟨k1, k2, k3, k4, k5⟩ := k
  exact ⟨k1.trans h1, k2.trans h2, k3.trans h3, Nat.le_trans h4 k4, fun i hi hn => (k5 i (Nat.lt_of_lt_of_le hi h4) hn).trans (h5 i hi hn)⟩
theorem OneB.form {B : Nat} {w w' : World} {o : Obj} (h : OneB B w w') (hB : B < w.heap.size) (ho : w'.heap[B]? = some o) : ∃ g, w' = (w.upd [B] (fun _ => o)).plus g := by
  obtain ⟨h1, h2, h3, h4, h5⟩ := h
  obtain ⟨f, g, e⟩ := World.as_upd (w := w) (w' := w') [B] h1 h2 h3 h4 (fun k hk hn => h5 k hk (by simpa using hn))
  refine ⟨g, ?_⟩
  have hf : f B = o := by
    have : w'.heap[B]? = some (f B) := by
      rw [e]
      simp only [World.plus]
      rw [Array.getElem?_append_left (by simpa using hB), World.block_upd_in w [B] f (by simp) hB]
    rw [this] at ho
    simpa using ho
  rw [e]
  congr 1
  unfold World.upd
  congr 1
  apply Array.ext_getElem?
  intro i
  simp only [Array.getElem?_mapIdx]
  cases w.heap[i]? with
  | none => rfl
  | some x =>
    by_cases hi : i = B
    · subst hi; simp [hf]
    · simp [hi]
section
variable (w : World)
@[go_sem] theorem World.upd_upd1 (n : Nat) (f g : Nat → Obj) : (w.upd [n] f).upd [n] g = w.upd [n] g := by
  unfold World.upd
  simp only
  congr 1
  apply Array.ext_getElem?
  intro k
  simp only [Array.getElem?_mapIdx]
  cases w.heap[k]? with
  | none => rfl
  | some o => by_cases hk : k = n <;> simp [hk]
@[go_sem] theorem World.plus_upd1 (n : Nat) (f : Nat → Obj) (g : Gr) (hn : n < w.heap.size) : (w.plus g).upd [n] f = (w.upd [n] f).plus g := by
  unfold World.upd World.plus
  simp only
  congr 1
  apply Array.ext_getElem?
  intro k
  simp only [Array.getElem?_mapIdx, Array.getElem?_append, Array.size_mapIdx]
  by_cases hk : k < w.heap.size
  · simp [hk]
  · simp only [if_neg hk]
    cases g.o[k - w.heap.size]? with
    | none => rfl
    | some o => simp; omega
@[go_sem] theorem World.alloc_upd1 (n : Nat) (f : Nat → Obj) (o : Obj) (hn : n < w.heap.size) : (w.alloc o).upd [n] f = (w.upd [n] f).alloc o := by
  rw [World.alloc_is_plus, World.plus_upd1 _ _ _ _ hn, World.alloc_is_plus]; rfl
@[go_sem] theorem World.cell?_upd_in (n i : Nat) (cs : Array Value) (E : TypeId) (fr : Nat × Nat) (hn : n < w.heap.size) : (w.upd [n] (fun _ => .cells cs E fr)).cell? ⟨n, i, none⟩ = cs[i]? := by
  simp [World.cell?, World.block_upd_in w [n] _ (List.mem_singleton.2 rfl) hn]
@[go_sem] theorem World.frozen?_upd_in (n i : Nat) (cs : Array Value) (E : TypeId) (hn : n < w.heap.size) : (w.upd [n] (fun _ => .cells cs E (0, 0))).frozen? ⟨n, i, none⟩ = false := by
  simp [World.frozen?, World.block_upd_in w [n] _ (List.mem_singleton.2 rfl) hn]
end
def CurAt (T : TypeId) (w : World) (B : Nat) (v : Value) (n : Nat) : Prop := ∃ i h : Int, w.heap[B]? = some (.cells #[v, .int .i64 i, .int .i64 h] T (0, 0)) ∧ 0 ≤ i ∧ i ≤ n
theorem CurAt.lt {T : TypeId} {w : World} {B : Nat} {v : Value} {n : Nat} (h : CurAt T w B v n) : B < w.heap.size := let ⟨_, _, h, _⟩ := h; row_lt h
theorem CurAt.ex {T : TypeId} {w w' : World} {B : Nat} {v : Value} {n : Nat} (h : CurAt T w B v n) (hx : Ex w w') : CurAt T w' B v n := let ⟨i, k, h, h1⟩ := h; ⟨i, k, hx.row h, h1⟩
theorem CurAt.plus {T : TypeId} {w : World} {B : Nat} {v : Value} {n : Nat} (h : CurAt T w B v n) (g : Gr) : CurAt T (w.plus g) B v n := h.ex ((Ex.refl _).plus g)
theorem CurAt.alloc {T : TypeId} {w : World} {B : Nat} {v : Value} {n : Nat} (h : CurAt T w B v n) (o : Obj) : CurAt T (w.alloc o) B v n := h.ex ((Ex.refl _).alloc o)
theorem CurAt.drew {T : TypeId} {w : World} {B : Nat} {v : Value} {n : Nat} (h : CurAt T w B v n) : CurAt T w.drew B v n := h
theorem CurAt.setCell {T : TypeId} {w : World} {B : Nat} {v : Value} {n : Nat} (h : CurAt T w B v n) {p : Addr} (hp : B ≠ p.block) (x : Value) : CurAt T (w.setCell p x) B v n := let ⟨i, k, h, h1⟩ := h; ⟨i, k, (row_setCell_other hp x).trans h, h1⟩
theorem CurAt.upd {T : TypeId} {w : World} {B : Nat} {v : Value} {n : Nat} {i h : Int} (hB : B < w.heap.size) (h0 : 0 ≤ i) (h1 : i ≤ n) : CurAt T (w.upd [B] (fun _ => .cells #[v, .int .i64 i, .int .i64 h] T (0, 0))) B v n :=
  ⟨i, h, World.block_upd_in w [B] _ (by simp) hB, h0, h1⟩
def Cu (T : TypeId) (w0 : World) (B : Nat) (v : Value) (code : List UInt8) (w : World) : Prop := Ex w0 w ∧ Holds w0 code [v] ∧ w0.heap.size ≤ B ∧ CurAt T w B v code.length
section
variable {T : TypeId} {w0 w : World} {B : Nat} {v : Value} {code : List UInt8}
theorem Cu.lt (h : Cu T w0 B v code w) : B < w.heap.size := h.2.2.2.lt
theorem Cu.ex {w' : World} (h : Cu T w0 B v code w) (hx : Ex w w') : Cu T w0 B v code w' := ⟨h.1.trans hx, h.2.1, h.2.2.1, h.2.2.2.ex hx⟩
theorem Cu.plus (h : Cu T w0 B v code w) (g : Gr) : Cu T w0 B v code (w.plus g) := h.ex ((Ex.refl _).plus g)
theorem Cu.alloc (h : Cu T w0 B v code w) (o : Obj) : Cu T w0 B v code (w.alloc o) := h.ex ((Ex.refl _).alloc o)
theorem Cu.drew (h : Cu T w0 B v code w) : Cu T w0 B v code w.drew := h.ex (Ex.refl _).drew
theorem Cu.setCell (h : Cu T w0 B v code w) {p : Addr} (hp : w0.heap.size ≤ p.block) (hn : B ≠ p.block) (x : Value) : Cu T w0 B v code (w.setCell p x) := ⟨h.1.setCell hp x, h.2.1, h.2.2.1, h.2.2.2.setCell hn x⟩
theorem Cu.upd (h : Cu T w0 B v code w) {i k : Int} (h0 : 0 ≤ i) (h1 : i ≤ code.length) : Cu T w0 B v code (w.upd [B] (fun _ => .cells #[v, .int .i64 i, .int .i64 k] T (0, 0))) :=
  ⟨h.1.upd1 h.2.2.1, h.2.1, h.2.2.1, CurAt.upd h.lt h0 h1⟩
theorem Cu.new {h : Int} (k : Holds w0 code [v]) (hx : Ex w0 w) (hB : w0.heap.size ≤ B) (hc : w.heap[B]? = some (.cells #[v, .int .i64 0, .int .i64 h] T (0, 0))) : Cu T w0 B v code w := ⟨hx, k, hB, 0, h, hc, Int.le_refl _, by omega⟩
theorem Cu.holds (h : Cu T w0 B v code w) : Holds w code [v] := h.2.1.ex h.1
end
def Mv (T : TypeId) (B : Nat) (v : Value) (n : Nat) (w wr : World) : Prop := OneB B w wr ∧ CurAt T wr B v n
theorem OneB.setNew {B : Nat} {w a : World} (h : OneB B w a) {p : Addr} (hp : w.heap.size ≤ p.block) (v : Value) : OneB B w (a.setCell p v) := by
  obtain ⟨h1, h2, h3, h4, h5⟩ := h
  exact ⟨h1, h2, h3, by simpa using h4, fun k hk hn => (row_setCell_other (by omega) v).trans (h5 k hk hn)⟩
section
variable {T : TypeId} {w0 w wr : World} {B : Nat} {v : Value} {n : Nat} {code : List UInt8}
theorem Mv.refl (h : CurAt T w B v n) : Mv T B v n w w := ⟨OneB.refl _ _, h⟩
theorem Mv.plus (h : Mv T B v n w wr) (g : Gr) : Mv T B v n w (wr.plus g) := ⟨h.1.plus g, h.2.plus g⟩
theorem Mv.alloc (h : Mv T B v n w wr) (o : Obj) : Mv T B v n w (wr.alloc o) := ⟨h.1.ex ((Ex.refl _).alloc o), h.2.alloc o⟩
theorem Mv.drew (h : Mv T B v n w wr) : Mv T B v n w wr.drew := ⟨h.1.drew, h.2.drew⟩
theorem Mv.setCell (h : Mv T B v n w wr) {p : Addr} (hp : w.heap.size ≤ p.block) (hn : B ≠ p.block) (x : Value) : Mv T B v n w (wr.setCell p x) := ⟨h.1.setNew hp x, h.2.setCell hn x⟩
theorem Mv.upd (h : Mv T B v n w wr) {i k : Int} (h0 : 0 ≤ i) (h1 : i ≤ n) : Mv T B v n w (wr.upd [B] (fun _ => .cells #[v, .int .i64 i, .int .i64 k] T (0, 0))) := ⟨h.1.upd _, CurAt.upd h.2.lt h0 h1⟩
theorem Mv.size (h : Mv T B v n w wr) : w.heap.size ≤ wr.heap.size := h.1.2.2.2.1
end
def DrawnN (T : TypeId) (B : Nat) (v : Value) (n : Nat) (lo hi : Int) (w : World) (e : Ending) (w' : World) : Prop :=
  ∃ (r i h : Int) (g : Gr), lo ≤ r ∧ r ≤ hi ∧ 0 ≤ i ∧ i ≤ n ∧ e = .returned (.int .i64 r) ∧ w' = (w.upd [B] (fun _ => .cells #[v, .int .i64 i, .int .i64 h] T (0, 0))).plus g
theorem DrawnN.of {T : TypeId} {B : Nat} {v : Value} {n : Nat} {lo hi r i h : Int} {w w' : World} (h1 : lo ≤ r) (h2 : r ≤ hi) (h3 : 0 ≤ i) (h4 : i ≤ n) (hB : B < w.heap.size) (ho : OneB B w w')
    (hc : w'.heap[B]? = some (.cells #[v, .int .i64 i, .int .i64 h] T (0, 0))) : DrawnN T B v n lo hi w (.returned (.int .i64 r)) w' := by
  obtain ⟨g, rfl⟩ := ho.form hB hc
  exact ⟨r, i, h, g, h1, h2, h3, h4, rfl, rfl⟩
def NewCur (T : TypeId) (v : Value) (w : World) (e : Ending) (w' : World) : Prop := ∃ B h, e = .returned (.pointer (some ⟨B, 0, none⟩)) ∧ w.heap.size ≤ B ∧ Ex w w' ∧ w'.heap[B]? = some (.cells #[v, .int .i64 0, .int .i64 h] T (0, 0))
end Go
namespace Go.Proofs.YtfcmcedeapgdcaaGreat
open Go.RowKit
set_option linter.unusedVariables false
set_option maxHeartbeats 1000000 in
theorem l01New_any (v : Value) (code : List UInt8) (w : World) (k1 : Holds w code [v]) :
    Calls Tryz.prog 19 #[v] w (NewCur 112 v w) := by
  obtain ⟨a, cap, hv, h1, h2, h3⟩ := k1.bytes
  simp only [List.cons.injEq, and_true] at hv
  subst hv
  unfold maxLen at h2
  clear k1
  go_enter Tryz.func19, Tryz.ntmps19
  go_wp2
  go_loop [3, 4] (fun h i => ∃ (k : Nat) (x : Int), k ≤ code.length ∧ i = .int .i64 k ∧ h = .int .i64 x) (fun _ i => code.length - (intOf i).toNat)
  case atStart => exact ⟨0, _, Nat.zero_le _, rfl, rfl⟩
  case round =>
    obtain ⟨k, x, hk, rfl, rfl⟩ := hrel
    by_cases hlt : k < code.length
    · by_cases h4 : (k : Int) < 4000
      · obtain ⟨b, off, rfl, hc⟩ := h3 k hlt
        generalize code[k] = y at *
        clear h3
        go_wp2
        go_round
        case rel => exact ⟨k + 1, _, by omega, by go_num, rfl⟩
        case measure => simp [intOf]; omega
      · clear h3
        go_wp2
        go_ret
        exact ⟨_, _, rfl, Nat.le_refl _, (Ex.refl _).alloc _, row_alloc _ _⟩
    · clear h3
      go_wp2
      go_ret
      exact ⟨_, _, rfl, Nat.le_refl _, (Ex.refl _).alloc _, row_alloc _ _⟩
set_option maxHeartbeats 2000000 in
theorem l01Byte_any (B : Nat) (v : Value) (code : List UInt8) (w0 w : World) (hcu : Cu 112 w0 B v code w) :
    Calls Tryz.prog 57 #[.pointer (some ⟨B, 0, none⟩)] w (DrawnN 112 B v code.length 0 255 w) := by
  obtain ⟨hx, k1, hlo, hc⟩ := hcu
  obtain ⟨a, cap, hv, h1, h2, h3⟩ := k1.bytes
  simp only [List.cons.injEq, and_true] at hv
  subst hv
  unfold maxLen at h2
  obtain ⟨i, h, hB, i0, i1⟩ := hc
  have lB := row_lt hB
  have c0 : w.cell? ⟨B, 0, none⟩ = some (.slice a code.length cap) := by rw [cell_row hB]; rfl
  have c1 : w.cell? ⟨B, 1, none⟩ = some (.int .i64 i) := by rw [cell_row hB]; rfl
  have c2 : w.cell? ⟨B, 2, none⟩ = some (.int .i64 h) := by rw [cell_row hB]; rfl
  have f1 : w.frozen? ⟨B, 1, none⟩ = false := frozen_row hB _
  have f2 : w.frozen? ⟨B, 2, none⟩ = false := frozen_row hB _
  have HB := hid hB
  have HX := hid hx
  clear k1 hB hx
  by_cases hlt : i < code.length
  · obtain ⟨k, rfl⟩ := Int.eq_ofNat_of_zero_le i0
    obtain ⟨b, off, rfl, hc⟩ := h3 k (by omega)
    have lb0 : b < w0.heap.size := World.block_lt_of_cell? _ _ hc
    have hne : b ≠ B := by omega
    replace hc := (HX.out.cell lb0).trans hc
    have lb := World.block_lt_of_cell? _ _ hc
    clear lb0 hlo
    have hlt' : k < code.length := by omega
    generalize code[k] = y at *
    clear h3
    go_enter Tryz.func57, Tryz.ntmps57
    go_wp2
    refine wp_region_ext (by kernel_rfl) (by kernel_rfl) ?_
    repeat (go_big_quiet_step (fail))
    refine wpQuiet_nil ?_
    intro g
    go_wp2
    refine wp_region_ext (by kernel_rfl) (by kernel_rfl) ?_
    repeat (go_big_quiet_step (fail))
    refine wpQuiet_nil ?_
    intro g
    go_wp2
    refine wp_region_ext (by kernel_rfl) (by kernel_rfl) ?_
    repeat (go_big_quiet_step (fail))
    refine wpQuiet_nil ?_
    intro g
    go_wp2
    go_ret
    exact DrawnN.of (h := wrap64 (wrap64 (h * 6364136223846793005) + 1442695040888963407)) (and255_bd _).1 (and255_bd _).2 (i := (k : Int) + 1) (by omega) (by omega) lB (by repeat (first | exact OneB.refl _ _ | apply OneB.plus | apply OneB.drew | apply OneB.setCell)) (by repeat (first | exact row_setCell (row_setCell HB.out _ _) _ _ | refine Ex.row ((Ex.refl _).plus _) ?_))
  · clear h3
    go_enter Tryz.func57, Tryz.ntmps57
    go_wp2
    refine wp_region_ext (by kernel_rfl) (by kernel_rfl) ?_
    repeat (go_big_quiet_step (fail))
    refine wpQuiet_nil ?_
    intro g
    go_wp2
    refine wp_region_ext (by kernel_rfl) (by kernel_rfl) ?_
    repeat (go_big_quiet_step (fail))
    refine wpQuiet_nil ?_
    intro g
    go_wp2
    go_ret
    exact DrawnN.of (h := wrap64 (wrap64 (h * 6364136223846793005) + 1442695040888963407)) (and255_bd _).1 (and255_bd _).2 (i := i) (by omega) (by omega) lB (by repeat (first | exact OneB.refl _ _ | apply OneB.plus | apply OneB.drew | apply OneB.setCell)) (by repeat (first | exact row_setCell HB.out _ _ | refine Ex.row ((Ex.refl _).plus _) ?_))
set_option maxHeartbeats 1000000 in
theorem l01Below_byte (B : Nat) (v : Value) (code : List UInt8) (n : Int) (w0 w : World) (hcu : Cu 112 w0 B v code w) (h0 : 1 ≤ n) (h1 : n ≤ 256) :
    Calls Tryz.prog 21 #[.pointer (some ⟨B, 0, none⟩), .int .i64 n] w (DrawnN 112 B v code.length 0 (n - 1) w) := by
  have lB := hcu.lt
  go_enter Tryz.func21, Tryz.ntmps21
  go_wp2_with (go_at_call 57; (with_reducible refine (l01Byte_any B v code w0 _ (by repeat (first | exact hcu | apply Cu.plus | apply Cu.alloc | apply Cu.drew | refine Cu.upd ?_ (by assumption) (by assumption)))).mono ?_); rintro e w' ⟨r, i, h, g, r0, r1, i0, i1, rfl, rfl⟩)
  go_ret
  exact ⟨_, i, h, g, Int.emod_nonneg _ (by omega), emod_le _ (by omega), i0, i1, rfl, rfl⟩
set_option maxHeartbeats 1000000 in
theorem l01Below_wide (B : Nat) (v : Value) (code : List UInt8) (n : Int) (w0 w : World) (hcu : Cu 112 w0 B v code w) (h0 : 257 ≤ n) (h1 : n ≤ 1000000000) :
    Calls Tryz.prog 21 #[.pointer (some ⟨B, 0, none⟩), .int .i64 n] w (DrawnN 112 B v code.length 0 (n - 1) w) := by
  have lB := hcu.lt
  go_enter Tryz.func21, Tryz.ntmps21
  go_wp2_with (go_at_call 57; (with_reducible refine (l01Byte_any B v code w0 _ (by repeat (first | exact hcu | apply Cu.plus | apply Cu.alloc | apply Cu.drew | refine Cu.upd ?_ (by assumption) (by assumption)))).mono ?_); rintro e w' ⟨r, i, h, g, r0, r1, i0, i1, rfl, rfl⟩)
  go_ret
  exact ⟨_, _, _, _, Int.emod_nonneg _ (by omega), emod_le _ (by omega), by assumption, by assumption, rfl, rfl⟩
theorem l01Below_any (B : Nat) (v : Value) (code : List UInt8) (n : Int) (w0 w : World) (hcu : Cu 112 w0 B v code w) (h0 : 1 ≤ n) (h1 : n ≤ 1000000000) :
    Calls Tryz.prog 21 #[.pointer (some ⟨B, 0, none⟩), .int .i64 n] w (DrawnN 112 B v code.length 0 (n - 1) w) := by
  by_cases h : n ≤ 256
  · exact l01Below_byte B v code n w0 w hcu h0 h
  · exact l01Below_wide B v code n w0 w hcu (by omega) h1
end Go.Proofs.YtfcmcedeapgdcaaGreat
end
section
namespace Go.Proofs.YtfcmcedeapgdcaaGreat
open Go.RowKit
set_option linter.unusedVariables false
end Go.Proofs.YtfcmcedeapgdcaaGreat
end
section
namespace Go
open Go.RowKit
set_option linter.unusedVariables false
def curA (T : TypeId) (B : Nat) (v : Value) (n : Nat) : Asn where
  P w F := CurAt T w B v n ∧ ∀ c, F c ↔ c = B
  stable := by
    rintro w w' F ⟨⟨i, h, h1, h2⟩, h3⟩ hs
    exact ⟨⟨i, h, (hs B ((h3 B).2 rfl)).trans h1, h2⟩, h3⟩
  lt h b hb := by rw [(h.2 b).1 hb]; exact h.1.lt
section
variable {T : TypeId} {w0 w w' : World} {Is Js : List Asn} {B : Nat} {v : Value} {code : List UInt8}
theorem St.cu (HS : St w0 w Is) (t : Take Is (curA T B v code.length) Js) (hc : Holds w0 code [v]) : Cu T w0 B v code w := by
  have h := HS.take t
  obtain ⟨hx, F, ⟨F1, F2, ⟨h1, h2⟩, h3, h4, h5⟩, h6⟩ := h
  exact ⟨hx, hc, h6 B ((h5 B).2 (.inl ((h2 B).2 rfl))), h1⟩
theorem St.drawn {n : Nat} {lo hi : Int} {e : Ending} (HS : St w0 w Is) (t : Take Is (curA T B v n) Js) (hd : DrawnN T B v n lo hi w e w') :
    ∃ r : Int, lo ≤ r ∧ r ≤ hi ∧ e = .returned (.int .i64 r) ∧ St w0 w' (curA T B v n :: Js) := by
  obtain ⟨r, i, h, g, h1, h2, h3, h4, rfl, rfl⟩ := hd
  refine ⟨r, h1, h2, rfl, ?_⟩
  refine (HS.take t).turn rfl rfl rfl (by simp) fun F hF => ⟨fun b hb hn => ?_, F, ⟨?_, hF.2⟩, fun c hc => .inl hc⟩
  · rw [show ∀ (w : World) (g : Gr), (w.plus g).heap = w.heap ++ g.o from fun _ _ => rfl, Array.getElem?_append_left (by simpa using hb), World.block_upd _ _ _ (fun h => hn ((hF.2 b).2 (by simpa using h)))]
  · exact (CurAt.upd hF.1.lt h3 h4).plus g
theorem St.newCur {e : Ending} (HS : St w0 w Is) (hd : NewCur T v w e w') (n : Nat) : ∃ B, e = .returned (.pointer (some ⟨B, 0, none⟩)) ∧ St w0 w' (curA T B v n :: Is) := by
  obtain ⟨B, h, rfl, h1, h2, h3⟩ := hd
  exact ⟨B, rfl, HS.add h2 (A := curA T B v n) (F := fun c => c = B) ⟨⟨0, h, h3, Int.le_refl _, by omega⟩, fun _ => Iff.rfl⟩ fun b hb => by rw [hb]; exact h1⟩
end
end Go
namespace Go.Proofs.YtfcmcedeapgdcaaGreat
open Go.RowKit
set_option linter.unusedVariables false
end Go.Proofs.YtfcmcedeapgdcaaGreat
end

/- Part 4 of what the proof of FnExactReceivePacket rests on: an idealised machine, contracts of functions, and the walk of the law. No condition. -/
import Derived.Test.YtncmlleohgeofaaGreatMFnExactReceivePacketc
section
namespace Go.Proofs.YtncmlleohgeofaaGreat
open Go Go.RowKit Go.Vc
set_option linter.unusedVariables false
set_option linter.unusedSimpArgs false
set_option linter.unnecessarySimpa false
theorem rt_y {l : List Mp} {ps : Pg} {d b s h t : Int} (h1 : ringOkB b s h t = true) (h2 : ¬ usedF s h t = 0) (h3 : (dmaRF l ps d (rslot b s h) 16).2 = true) : rtakeF l ps d b s h t = ((dmaRF l ps d (rslot b s h) 16).1, rnext s h, true) := by
  unfold rtakeF
  rw [if_pos h1, if_neg h2]
  generalize dmaRF l ps d (rslot b s h) 16 = x at h3 ⊢
  obtain ⟨x1, x2⟩ := x
  simp only at h3
  subst h3; rfl
theorem rt_n {l : List Mp} {ps : Pg} {d b s h t : Int} (hh : ringOkB b s h t = false ∨ usedF s h t = 0 ∨ (dmaRF l ps d (rslot b s h) 16).2 = false) : rtakeF l ps d b s h t = (⟨#[]⟩, h, false) := by
  unfold rtakeF
  split
  · split
    · rfl
    · rename_i g1 g2
      have h3 : (dmaRF l ps d (rslot b s h) 16).2 = false := by
        rcases hh with hh | hh | hh
        · rw [g1] at hh; cases hh
        · exact (g2 hh).elim
        · exact hh
      generalize dmaRF l ps d (rslot b s h) 16 = x at h3 ⊢
      obtain ⟨x1, x2⟩ := x
      simp only at h3
      subst h3; rfl
  · rfl
theorem enc_ok {x1 x2 x3 x4 x5 s c : Int} (h : completionOkB x1 x2 x3 x4 x5 = true) : encCF x1 x2 x3 x4 x5 (phaseC s c) = encC x1 x2 x3 x4 x5 (phaseC s c) := by
  unfold encCF
  rw [h, inB_iff.2 (phaseC_bd s c)]; rfl
theorem pc_y {l : List Mp} {ps : Pg} {d b s c x1 x2 x3 x4 x5 : Int} (h1 : queueOkB b s c = true) (h2 : completionOkB x1 x2 x3 x4 x5 = true) (h3 : (dmaWF l ps d (slotC b s c) (encC x1 x2 x3 x4 x5 (phaseC s c)) true).2 = true) : putC l ps d b s c x1 x2 x3 x4 x5 = ((dmaWF l ps d (slotC b s c) (encC x1 x2 x3 x4 x5 (phaseC s c)) true).1, nextC s c, true) := by
  unfold putC
  rw [if_pos h1, if_pos h2]
  generalize dmaWF l ps d (slotC b s c) (encC x1 x2 x3 x4 x5 (phaseC s c)) true = x at h3 ⊢
  obtain ⟨x1, x2⟩ := x
  simp only at h3
  subst h3; rfl
theorem pc_n {l : List Mp} {ps : Pg} {d b s c x1 x2 x3 x4 x5 : Int} (hh : queueOkB b s c = false ∨ completionOkB x1 x2 x3 x4 x5 = false ∨ (dmaWF l ps d (slotC b s c) (encC x1 x2 x3 x4 x5 (phaseC s c)) true).2 = false) : putC l ps d b s c x1 x2 x3 x4 x5 = (ps, c, false) := by
  unfold putC
  split
  · split
    · rename_i g1 g2
      have h3 : (dmaWF l ps d (slotC b s c) (encC x1 x2 x3 x4 x5 (phaseC s c)) true).2 = false := by
        rcases hh with hh | hh | hh
        · rw [g1] at hh; cases hh
        · rw [g2] at hh; cases hh
        · exact hh
      generalize dmaWF l ps d (slotC b s c) (encC x1 x2 x3 x4 x5 (phaseC s c)) true = x at h3 ⊢
      obtain ⟨x1, x2⟩ := x
      simp only at h3
      subst h3; rfl
    · rfl
  · rfl
theorem dw_no {l : List Mp} {ps : Pg} {d a : Int} {s : ByteArray} {wt : Bool} (h : (dmaWF l ps d a s wt).2 = false) : (dmaWF l ps d a s wt).1 = ps := by
  generalize hx : dmaWF l ps d a s wt = x at h ⊢
  obtain ⟨x1, x2⟩ := x
  simp only at h
  subst h
  exact dmaWF_same hx.symm
set_option maxHeartbeats 4000000 in
theorem c_impl_RingTake {l : List Mp} {ps : Pg} {d b s h t : Int} (hl : l.length ≤ 1099511627776 := by first | assumption | omega) (hp : ps.length ≤ 1099511627776 := by first | assumption | omega) : Con0 Tryz.prog 36 [.one (.sl 4 (l.map mpE)), .agg [.sl 1 (ps.map strE)], I d, .agg [V b, V s, V h, V t]] (.tup [Z (rtakeF l ps d b s h t).1, .agg [V b, V s, V (rtakeF l ps d b s h t).2.1, V t], B (rtakeF l ps d b s h t).2.2]) [] := by
  refine con_i Tryz.func36 Tryz.ntmps36 (t := [(0, .one (.sl 4 (l.map mpE))), (1, .agg [.sl 1 (ps.map strE)]), (2, I d), (3, .agg [V b, V s, V h, V t])]) rfl ?_
  refine vc_sr ?_
  iterate 5 refine vo ?_
  refine vnt ?_
  refine vc_seq' ?_
  refine vc_sr ?_
  refine vo ?_
  refine voc c_impl_RingOk rfl rfl ?_
  iterate 2 refine vo ?_
  refine vsp (fun g1 => ?_) (fun g1 => ?_)
  · iterate 3 refine vof ?_
    refine vo ?_
    refine vnt ?_
    refine vc_then ?_
    refine vc_sr ?_
    iterate 4 refine vo ?_
    refine vnt ?_
    refine vc_ret ?_
    refine thn_r ?_
    refine fin_i [] rfl (fz ?_) trivial
    rw [rt_n (.inl g1)]
    simp
  · have hr := ringOk_facts g1
    have hq := hr.1
    have hsl := rslot_bd g1 h
    refine von ?_
    refine vocn c_impl_RingUsed rfl rfl ?_
    refine von ?_
    refine vo ?_
    refine vnt ?_
    refine vc_if (fun g2 => ?_) (fun g2 => ?_)
    · refine vc_sr ?_
      iterate 4 refine vo ?_
      refine vnt ?_
      refine vc_ret ?_
      refine thn_r ?_
      refine fin_i [] rfl (fz ?_) trivial
      rw [rt_n (.inr (.inl g2))]
      simp
    · refine vc_skip ?_
      refine thn ?_
      refine vc_sr ?_
      iterate 6 refine vo ?_
      refine voc c_impl_SlotAddress rfl rfl ?_
      refine voc c_impl_DmaRead rfl rfl ?_
      iterate 5 refine vo ?_
      refine vnt ?_
      refine vc_seq' ?_
      refine vc_sr ?_
      iterate 2 refine vo ?_
      refine vnt ?_
      refine vc_if (fun g3 => ?_) (fun g3 => ?_)
      · refine vc_sr ?_
        iterate 4 refine vo ?_
        refine vnt ?_
        refine vc_ret ?_
        refine thn_r ?_
        refine fin_i [] rfl (fz ?_) trivial
        rw [rt_n (.inr (.inr g3))]
        simp
      · refine vc_skip ?_
        refine thn ?_
        refine vc_sr ?_
        iterate 3 refine vo ?_
        try refine vwr ?_
        iterate 3 refine vo ?_
        try refine vwr ?_
        refine vo ?_
        try refine veq (Int.tmod_eq_emod_of_nonneg (by omega)) ?_
        iterate 2 refine vo ?_
        refine vnt ?_
        refine vc_sr ?_
        iterate 5 refine vo ?_
        refine vnt ?_
        refine vc_ret ?_
        refine fin_i [] rfl (fz ?_) trivial
        rw [rt_y g1 g2 g3]
        simp [rnext]
set_option maxHeartbeats 4000000 in
theorem c_spec_RingTake {l : List Mp} {ps : Pg} {d b s h t : Int} (hl : l.length ≤ 1099511627776 := by first | assumption | omega) (hp : ps.length ≤ 1099511627776 := by first | assumption | omega) : Con0 Tryz.prog 27 [.one (.sl 4 (l.map mpE)), .agg [.sl 1 (ps.map strE)], I d, .agg [V b, V s, V h, V t]] (.tup [Z (rtakeF l ps d b s h t).1, .agg [V b, V s, V (rtakeF l ps d b s h t).2.1, V t], B (rtakeF l ps d b s h t).2.2]) [] := by
  refine con_i Tryz.func27 Tryz.ntmps27 (t := [(0, .one (.sl 4 (l.map mpE))), (1, .agg [.sl 1 (ps.map strE)]), (2, I d), (3, .agg [V b, V s, V h, V t])]) rfl ?_
  refine vc_sr ?_
  iterate 5 refine vo ?_
  refine vnt ?_
  refine vc_seq' ?_
  refine vc_sr ?_
  refine vo ?_
  refine voc c_spec_RingOk rfl rfl ?_
  iterate 2 refine vo ?_
  refine vsp (fun g1 => ?_) (fun g1 => ?_)
  · iterate 3 refine vof ?_
    refine vo ?_
    refine vnt ?_
    refine vc_then ?_
    refine vc_sr ?_
    iterate 4 refine vo ?_
    refine vnt ?_
    refine vc_ret ?_
    refine thn_r ?_
    refine fin_i [] rfl (fz ?_) trivial
    rw [rt_n (.inl g1)]
    simp
  · have hr := ringOk_facts g1
    have hq := hr.1
    have hsl := rslot_bd g1 h
    refine von ?_
    refine vocn c_spec_RingUsed rfl rfl ?_
    refine von ?_
    refine vo ?_
    refine vnt ?_
    refine vc_if (fun g2 => ?_) (fun g2 => ?_)
    · refine vc_sr ?_
      iterate 4 refine vo ?_
      refine vnt ?_
      refine vc_ret ?_
      refine thn_r ?_
      refine fin_i [] rfl (fz ?_) trivial
      rw [rt_n (.inr (.inl g2))]
      simp
    · refine vc_skip ?_
      refine thn ?_
      refine vc_sr ?_
      iterate 6 refine vo ?_
      refine voc c_spec_SlotAddress rfl rfl ?_
      refine voc c_spec_DmaRead rfl rfl ?_
      iterate 5 refine vo ?_
      refine vnt ?_
      refine vc_seq' ?_
      refine vc_sr ?_
      iterate 2 refine vo ?_
      refine vnt ?_
      refine vc_if (fun g3 => ?_) (fun g3 => ?_)
      · refine vc_sr ?_
        iterate 4 refine vo ?_
        refine vnt ?_
        refine vc_ret ?_
        refine thn_r ?_
        refine fin_i [] rfl (fz ?_) trivial
        rw [rt_n (.inr (.inr g3))]
        simp
      · refine vc_skip ?_
        refine thn ?_
        refine vc_sr ?_
        iterate 3 refine vo ?_
        try refine vwr ?_
        iterate 3 refine vo ?_
        try refine vwr ?_
        refine vo ?_
        try refine veq (Int.tmod_eq_emod_of_nonneg (by omega)) ?_
        iterate 2 refine vo ?_
        refine vnt ?_
        refine vc_sr ?_
        iterate 5 refine vo ?_
        refine vnt ?_
        refine vc_ret ?_
        refine fin_i [] rfl (fz ?_) trivial
        rw [rt_y g1 g2 g3]
        simp [rnext]
set_option maxHeartbeats 4000000 in
theorem c_impl_PutCompletion {l : List Mp} {ps : Pg} {d b s c x1 x2 x3 x4 x5 : Int} (hl : l.length ≤ 1099511627776 := by first | assumption | omega) (hp : ps.length ≤ 1099511627776 := by first | assumption | omega) : Con0 Tryz.prog 81 [.one (.sl 4 (l.map mpE)), .agg [.sl 1 (ps.map strE)], I d, .agg [V b, V s, V c], .agg [V x1, V x2, V x3, V x4, V x5]] (.tup [.agg [.hs 0], .agg [V b, V s, V (putC l ps d b s c x1 x2 x3 x4 x5).2.1], B (putC l ps d b s c x1 x2 x3 x4 x5).2.2]) [(0, .arr 9 1 ((putC l ps d b s c x1 x2 x3 x4 x5).1.map strE))] := by
  refine con_i Tryz.func81 Tryz.ntmps81 (t := [(0, .one (.sl 4 (l.map mpE))), (1, .agg [.sl 1 (ps.map strE)]), (2, I d), (3, .agg [V b, V s, V c]), (4, .agg [V x1, V x2, V x3, V x4, V x5])]) rfl ?_
  refine vc_sr ?_
  iterate 6 refine vo ?_
  refine vnt ?_
  refine vc_seq' ?_
  refine vc_sr ?_
  refine vo ?_
  refine voc c_impl_QueueOk rfl rfl ?_
  iterate 2 refine vo ?_
  refine vsp (fun g1 => ?_) (fun g1 => ?_)
  · iterate 3 refine vof ?_
    refine vo ?_
    refine vnt ?_
    refine vc_then ?_
    refine vc_sr ?_
    refine vo ?_
    refine voc c_impl_copyMemory rfl rfl ?_
    iterate 4 refine vo ?_
    refine vnt ?_
    refine vc_ret ?_
    refine thn_r ?_
    have hn : putC l ps d b s c x1 x2 x3 x4 x5 = (ps, c, false) := pc_n (.inl g1)
    refine fin_i [(0, some 192)] rfl (fz ?_) (fz ?_)
    · rw [hn]; simp
    · first | (rw [hn]; done) | (rw [hn, dw_no g3]; done)
  · have hq := slot_q g1
    have hqf := queueOk_facts g1
    have hsl := slotC_bd g1
    refine von ?_
    refine vocn c_impl_CompletionOk rfl rfl ?_
    refine von ?_
    refine vo ?_
    refine vnt ?_
    refine vc_if (fun g2 => ?_) (fun g2 => ?_)
    · refine vc_sr ?_
      refine vo ?_
      refine voc c_impl_copyMemory rfl rfl ?_
      iterate 4 refine vo ?_
      refine vnt ?_
      refine vc_ret ?_
      refine thn_r ?_
      have hn : putC l ps d b s c x1 x2 x3 x4 x5 = (ps, c, false) := pc_n (.inr (.inl g2))
      refine fin_i [(0, some 192)] rfl (fz ?_) (fz ?_)
      · rw [hn]; simp
      · first | (rw [hn]; done) | (rw [hn, dw_no g3]; done)
    · have hz := encC_size x1 x2 x3 x4 x5 (phaseC s c)
      refine vc_skip ?_
      refine thn ?_
      refine vc_sr ?_
      iterate 4 refine vo ?_
      refine voc c_impl_slotOfCount rfl rfl ?_
      iterate 2 refine vo ?_
      refine voc c_impl_phaseOf rfl rfl ?_
      refine voc c_impl_EncodeCompletion rfl rfl ?_
      refine vstr (enc_ok g2) ?_
      refine voc c_impl_DmaWrite rfl rfl ?_
      iterate 6 refine vo ?_
      refine vnt ?_
      refine vc_seq' ?_
      refine vc_sr ?_
      iterate 2 refine vo ?_
      refine vnt ?_
      refine vc_if (fun g3 => ?_) (fun g3 => ?_)
      · refine vc_sr ?_
        iterate 5 refine vo ?_
        refine vnt ?_
        refine vc_ret ?_
        refine thn_r ?_
        have hn : putC l ps d b s c x1 x2 x3 x4 x5 = (ps, c, false) := pc_n (.inr (.inr g3))
        refine fin_i [(0, some 288)] rfl (fz ?_) (fz ?_)
        · rw [hn]; simp
        · first | (rw [hn]; done) | (rw [hn, dw_no g3]; done)
      · refine vc_skip ?_
        refine thn ?_
        refine vc_sr ?_
        iterate 3 refine vo ?_
        try refine vwr ?_
        iterate 3 refine vo ?_
        try refine vwr ?_
        refine vo ?_
        try refine veq (Int.tmod_eq_emod_of_nonneg (by omega)) ?_
        iterate 2 refine vo ?_
        refine vnt ?_
        refine vc_sr ?_
        iterate 5 refine vo ?_
        refine vnt ?_
        refine vc_ret ?_
        have hn := pc_y g1 g2 g3
        refine fin_i [(0, some 288)] rfl (fz ?_) (fz ?_)
        · rw [hn]; simp [nextC]
        · rw [hn]
set_option maxHeartbeats 4000000 in
theorem c_spec_PutCompletion {l : List Mp} {ps : Pg} {d b s c x1 x2 x3 x4 x5 : Int} (hl : l.length ≤ 1099511627776 := by first | assumption | omega) (hp : ps.length ≤ 1099511627776 := by first | assumption | omega) : Con0 Tryz.prog 65 [.one (.sl 4 (l.map mpE)), .agg [.sl 1 (ps.map strE)], I d, .agg [V b, V s, V c], .agg [V x1, V x2, V x3, V x4, V x5]] (.tup [.agg [.hs 0], .agg [V b, V s, V (putC l ps d b s c x1 x2 x3 x4 x5).2.1], B (putC l ps d b s c x1 x2 x3 x4 x5).2.2]) [(0, .arr 9 1 ((putC l ps d b s c x1 x2 x3 x4 x5).1.map strE))] := by
  refine con_i Tryz.func65 Tryz.ntmps65 (t := [(0, .one (.sl 4 (l.map mpE))), (1, .agg [.sl 1 (ps.map strE)]), (2, I d), (3, .agg [V b, V s, V c]), (4, .agg [V x1, V x2, V x3, V x4, V x5])]) rfl ?_
  refine vc_sr ?_
  iterate 6 refine vo ?_
  refine vnt ?_
  refine vc_seq' ?_
  refine vc_sr ?_
  refine vo ?_
  refine voc c_spec_QueueOk rfl rfl ?_
  iterate 2 refine vo ?_
  refine vsp (fun g1 => ?_) (fun g1 => ?_)
  · iterate 3 refine vof ?_
    refine vo ?_
    refine vnt ?_
    refine vc_then ?_
    refine vc_sr ?_
    refine vo ?_
    refine voc c_spec_l16Copy rfl rfl ?_
    iterate 4 refine vo ?_
    refine vnt ?_
    refine vc_ret ?_
    refine thn_r ?_
    have hn : putC l ps d b s c x1 x2 x3 x4 x5 = (ps, c, false) := pc_n (.inl g1)
    refine fin_i [(0, some 192)] rfl (fz ?_) (fz ?_)
    · rw [hn]; simp
    · first | (rw [hn]; done) | (rw [hn, dw_no g3]; done)
  · have hq := slot_q g1
    have hqf := queueOk_facts g1
    have hsl := slotC_bd g1
    refine von ?_
    refine vocn c_spec_CompletionOk rfl rfl ?_
    refine von ?_
    refine vo ?_
    refine vnt ?_
    refine vc_if (fun g2 => ?_) (fun g2 => ?_)
    · refine vc_sr ?_
      refine vo ?_
      refine voc c_spec_l16Copy rfl rfl ?_
      iterate 4 refine vo ?_
      refine vnt ?_
      refine vc_ret ?_
      refine thn_r ?_
      have hn : putC l ps d b s c x1 x2 x3 x4 x5 = (ps, c, false) := pc_n (.inr (.inl g2))
      refine fin_i [(0, some 192)] rfl (fz ?_) (fz ?_)
      · rw [hn]; simp
      · first | (rw [hn]; done) | (rw [hn, dw_no g3]; done)
    · have hz := encC_size x1 x2 x3 x4 x5 (phaseC s c)
      refine vc_skip ?_
      refine thn ?_
      refine vc_sr ?_
      iterate 10 refine vo ?_
      try refine veq (Int.tmod_eq_emod_of_nonneg (by omega)) ?_
      refine vo ?_
      try refine vwr ?_
      refine vo ?_
      try refine vwr ?_
      refine veq (show b + 16 * (c % s) = slotC b s c by unfold slotC; omega) ?_
      iterate 2 refine vo ?_
      refine voc c_spec_l25Phase rfl rfl ?_
      refine voc c_spec_EncodeCompletion rfl rfl ?_
      refine vstr (enc_ok g2) ?_
      refine voc c_spec_DmaWrite rfl rfl ?_
      iterate 6 refine vo ?_
      refine vnt ?_
      refine vc_seq' ?_
      refine vc_sr ?_
      iterate 2 refine vo ?_
      refine vnt ?_
      refine vc_if (fun g3 => ?_) (fun g3 => ?_)
      · refine vc_sr ?_
        refine vo ?_
        refine voc c_spec_l16Copy rfl rfl ?_
        iterate 4 refine vo ?_
        refine vnt ?_
        refine vc_ret ?_
        refine thn_r ?_
        have hn : putC l ps d b s c x1 x2 x3 x4 x5 = (ps, c, false) := pc_n (.inr (.inr g3))
        refine fin_i [(0, some 392)] rfl (fz ?_) (fz ?_)
        · rw [hn]; simp
        · first | (rw [hn]; done) | (rw [hn, dw_no g3]; done)
      · refine vc_skip ?_
        refine thn ?_
        refine vc_sr ?_
        iterate 3 refine vo ?_
        try refine vwr ?_
        iterate 3 refine vo ?_
        try refine vwr ?_
        refine vo ?_
        try refine veq (Int.tmod_eq_emod_of_nonneg (by omega)) ?_
        iterate 2 refine vo ?_
        refine vnt ?_
        refine vc_sr ?_
        iterate 5 refine vo ?_
        refine vnt ?_
        refine vc_ret ?_
        have hn := pc_y g1 g2 g3
        refine fin_i [(0, some 344)] rfl (fz ?_) (fz ?_)
        · rw [hn]; simp [nextC]
        · rw [hn]
end Go.Proofs.YtncmlleohgeofaaGreat
end
section
namespace Go.Proofs.YtncmlleohgeofaaGreat
open Go Go.RowKit Go.Vc
set_option linter.unusedVariables false
set_option linter.unusedSimpArgs false
set_option linter.unnecessarySimpa false
def bitF (s : ByteArray) (i : Nat) : Nat := bAt s (i / 8) / 2 ^ (7 - i % 8) % 2
def kwF (key : ByteArray) (b : Nat) : Nat → Nat
  | 0 => 0
  | n + 1 => 2 * kwF key b n + bitF key (b + n)
def hashF (key x : ByteArray) : Nat → Int
  | 0 => 0
  | n + 1 => if bitF x n = 1 then xorI (hashF key x n) (kwF key n 32) else hashF key x n
theorem bitF_le (s : ByteArray) (i : Nat) : bitF s i ≤ 1 := by unfold bitF; omega
theorem kwF_lt (key : ByteArray) (b : Nat) : ∀ n, kwF key b n < 2 ^ n
  | 0 => by simp [kwF]
  | n + 1 => by
    have := kwF_lt key b n
    have := bitF_le key (b + n)
    simp only [kwF, Nat.pow_succ]
    omega
theorem and_one (n : Int) : andI n 1 = n % 2 := by
  rw [andI_eq]; exact and_mask_i64 n 1 (by decide)
theorem bit_eq (s : ByteArray) (i : Nat) (h : i / 8 < s.size) {e : Int} (he : e = 7 - (i : Int) % 8) : andI (IntKind.i64.wrap (bytI s ((i : Int) / 8) / 2 ^ e.toNat)) 1 = (bitF s i : Int) := by
  have hb := bAt_lt s (i / 8)
  have e1 : ((i : Int) / 8).toNat = i / 8 := by omega
  have e2 : e.toNat = 7 - i % 8 := by omega
  rw [and_one, bytI_nat, e1, e2]
  have hd : ((bAt s (i / 8) : Nat) : Int) / 2 ^ (7 - i % 8) = ((bAt s (i / 8) / 2 ^ (7 - i % 8) : Nat) : Int) := by
    rw [Int.natCast_ediv]; simp
  have hq : bAt s (i / 8) / 2 ^ (7 - i % 8) ≤ bAt s (i / 8) := Nat.div_le_self _ _
  rw [hd]
  unfold bitF
  generalize bAt s (i / 8) / 2 ^ (7 - i % 8) = q at *
  rw [IntWalk.i64_in _ (by omega)]; omega
theorem bit_eq2 (s : ByteArray) (i : Nat) (h : i / 8 < s.size) {e : Int} (he : e = 7 - (i : Int) % 8) : andI (IntKind.i64.wrap (bytI s ((i : Int) / 8)) / 2 ^ e.toNat) 1 = (bitF s i : Int) := by
  have hb := bAt_lt s (i / 8)
  have e1 : ((i : Int) / 8).toNat = i / 8 := by omega
  have e2 : e.toNat = 7 - i % 8 := by omega
  rw [i64_byt, and_one, e1, e2]
  have hd : ((bAt s (i / 8) : Nat) : Int) / 2 ^ (7 - i % 8) = ((bAt s (i / 8) / 2 ^ (7 - i % 8) : Nat) : Int) := by
    rw [Int.natCast_ediv]; simp
  rw [hd]
  unfold bitF
  generalize bAt s (i / 8) / 2 ^ (7 - i % 8) = q
  omega
theorem kwF_bd (key : ByteArray) (b : Nat) {n : Nat} (hn : n ≤ 32) : kwF key b n ≤ 4294967295 := by
  have h1 := kwF_lt key b n
  have h3 : 2 ^ n ≤ 2 ^ 32 := Nat.pow_le_pow_right (by decide) hn
  omega
theorem kw_or (key : ByteArray) (b n : Nat) (hn : n < 32) : orI (IntKind.i64.wrap ((kwF key b n : Nat) * 2 ^ Int.toNat 1)) (bitF key (b + n) : Nat) = (kwF key b (n + 1) : Nat) := by
  have h1 := kwF_lt key b n
  have h2 := bitF_le key (b + n)
  have h3 : 2 ^ n ≤ 2 ^ 31 := Nat.pow_le_pow_right (by decide) (by omega)
  have e1 : (2 : Int) ^ Int.toNat 1 = 2 := by decide
  rw [e1, IntWalk.i64_in _ (by omega), orI_eq, show ((kwF key b n : Nat) : Int) * 2 = ((kwF key b n * 2 ^ 1 : Nat) : Int) by omega, i64_or_add _ _ 1 (by omega) (by omega) (by omega)]
  simp only [kwF]; omega
set_option maxHeartbeats 4000000 in
theorem c_impl_keyBit {s : ByteArray} {i : Nat} (hi : i / 8 < s.size := by omega) (hi2 : i ≤ 1000000 := by omega) : Con0 Tryz.prog 158 [Z s, I (i : Nat)] (I (bitF s i : Nat)) [] := by
  have hb8 : IntKind.u8.bits = 8 := rfl
  have hb64 : IntKind.i64.bits = 64 := rfl
  refine con_i Tryz.func158 Tryz.ntmps158 (t := [(0, Z s), (1, I (i : Nat))]) rfl ?_
  refine vc_sr ?_
  refine vo ?_
  refine vnt ?_
  refine vc_sr ?_
  iterate 3 refine vo ?_
  try refine veq (IntWalk.i64_quo _ _ (by omega)) ?_
  iterate 3 refine vo ?_
  try refine veq (Int.tmod_eq_emod_of_nonneg (by omega)) ?_
  refine vo ?_
  try refine vwr ?_
  iterate 4 refine vo ?_
  refine vnt ?_
  refine vc_ret ?_
  refine fin_i [] rfl (fz ?_) trivial
  exact (bit_eq s i hi rfl).symm
set_option maxHeartbeats 4000000 in
theorem c_spec_l11Bit {s : ByteArray} {i : Nat} (hi : i / 8 < s.size := by omega) (hi2 : i ≤ 1000000 := by omega) : Con0 Tryz.prog 139 [Z s, I (i : Nat)] (I (bitF s i : Nat)) [] := by
  have hb8 : IntKind.u8.bits = 8 := rfl
  have hb64 : IntKind.i64.bits = 64 := rfl
  refine con_i Tryz.func139 Tryz.ntmps139 (t := [(0, Z s), (1, I (i : Nat))]) rfl ?_
  refine vc_sr ?_
  refine vo ?_
  refine vnt ?_
  refine vc_sr ?_
  iterate 3 refine vo ?_
  try refine veq (IntWalk.i64_quo _ _ (by omega)) ?_
  iterate 4 refine vo ?_
  try refine veq (Int.tmod_eq_emod_of_nonneg (by omega)) ?_
  refine vo ?_
  try refine vwr ?_
  iterate 3 refine vo ?_
  refine vnt ?_
  refine vc_ret ?_
  refine fin_i [] rfl (fz ?_) trivial
  exact (bit_eq2 s i hi rfl).symm
set_option maxHeartbeats 4000000 in
theorem c_impl_KeyWindow {key : ByteArray} {b : Nat} (hk : key.size = 16 := by assumption) (hb : b ≤ 96 := by omega) : Con0 Tryz.prog 159 [Z key, I (b : Nat)] (I (kwF key b 32 : Nat)) [] := by
  have hin : inB (b : Int) 0 96 = true := inB_iff.2 (by omega)
  refine con_i Tryz.func159 Tryz.ntmps159 (t := [(0, Z key), (1, I (b : Nat))]) rfl ?_
  refine vc_sr ?_
  refine vo ?_
  refine vnt ?_
  refine vc_seq' ?_
  refine vc_sr ?_
  iterate 4 refine vo ?_
  refine vsp (fun g1 => ?_) (fun g1 => ?_)
  · exact (g1 (by omega)).elim
  · refine von ?_
    refine vocn c_impl_between rfl rfl ?_
    refine von ?_
    refine vo ?_
    refine vnt ?_
    refine vc_if (fun g2 => ?_) (fun g2 => ?_)
    · rw [hin] at g2; cases g2
    · refine vc_skip ?_
      refine thn ?_
      refine vc_sr ?_
      refine vo ?_
      refine vnt ?_
      refine vc_seq' ?_
      refine vc_sr ?_
      iterate 2 refine vo ?_
      refine vnt ?_
      refine vc_block ?_
      refine vc_lp (σ := Nat) [0, 1] [] (fun j => [(5, I (kwF key b j : Nat)), (6, I (b + j : Nat))]) (fun j => []) (fun j => j ≤ 32) (fun j => 32 - j) 0 rfl rfl (sub_i [] (fz ?_) (fz ?_)) ?_ fun j hI => ?_
      · first | trivial | rfl | exact ⟨rfl, rfl⟩
      · first | trivial | rfl
      · exact Nat.zero_le _
      refine vc_nf rfl rfl ?_
      have h1 := kwF_bd key b hI
      have h2 := bitF_le key (b + j)
      refine vc_seq' ?_
      refine vc_sr ?_
      iterate 3 refine vo ?_
      try refine vwr ?_
      refine vo ?_
      refine vnt ?_
      refine vc_if (fun g3 => ?_) (fun g3 => ?_)
      · refine vc_skip ?_
        refine thn ?_
        refine vc_seq' ?_
        refine vc_block ?_
        refine vc_region ?_
        iterate 4 refine vo ?_
        refine voc c_impl_keyBit rfl rfl ?_
        refine vo ?_
        refine veq (kw_or key b j (by omega)) ?_
        refine vo ?_
        refine vnil ?_
        refine inB_n ?_
        refine thn ?_
        refine vc_region ?_
        iterate 2 refine vo ?_
        try refine vwr ?_
        refine vo ?_
        refine vnt ?_
        refine ⟨j + 1, ?_, ?_, sub_i [] (fz ?_) (fz ?_)⟩
        · omega
        · omega
        · first | trivial | rfl | exact ⟨rfl, rfl⟩ | (refine ⟨?_, ?_⟩ <;> first | rfl | omega)
        · first | trivial | rfl
      · refine vc_exit ?_
        refine thn_x ?_
        refine thn_x ?_
        refine inB_x ?_
        refine thn ?_
        refine vc_sr ?_
        iterate 2 refine vo ?_
        refine vnt ?_
        refine vc_ret ?_
        refine fin_i [] rfl (fz ?_) trivial
        rw [show j = 32 by omega]
set_option maxHeartbeats 4000000 in
theorem c_spec_KeyWindow {key : ByteArray} {b : Nat} (hk : key.size = 16 := by assumption) (hb : b ≤ 96 := by omega) : Con0 Tryz.prog 140 [Z key, I (b : Nat)] (I (kwF key b 32 : Nat)) [] := by
  have hin : inB (b : Int) 0 96 = true := inB_iff.2 (by omega)
  refine con_i Tryz.func140 Tryz.ntmps140 (t := [(0, Z key), (1, I (b : Nat))]) rfl ?_
  refine vc_sr ?_
  refine vo ?_
  refine vnt ?_
  refine vc_seq' ?_
  refine vc_sr ?_
  iterate 4 refine vo ?_
  refine vsp (fun g1 => ?_) (fun g1 => ?_)
  · exact (g1 (by omega)).elim
  · refine von ?_
    refine vocn c_spec_l01In rfl rfl ?_
    refine von ?_
    refine vo ?_
    refine vnt ?_
    refine vc_if (fun g2 => ?_) (fun g2 => ?_)
    · rw [hin] at g2; cases g2
    · refine vc_skip ?_
      refine thn ?_
      refine vc_sr ?_
      refine vo ?_
      refine vnt ?_
      refine vc_seq' ?_
      refine vc_sr ?_
      refine vo ?_
      refine vnt ?_
      refine vc_block ?_
      refine vc_lp (σ := Nat) [0, 1] [] (fun j => [(5, I (kwF key b j : Nat)), (6, I (j : Nat))]) (fun j => []) (fun j => j ≤ 32) (fun j => 32 - j) 0 rfl rfl (sub_i [] (fz ?_) (fz ?_)) ?_ fun j hI => ?_
      · first | trivial | rfl | exact ⟨rfl, rfl⟩
      · first | trivial | rfl
      · exact Nat.zero_le _
      refine vc_nf rfl rfl ?_
      have h1 := kwF_bd key b hI
      have h2 := bitF_le key (b + j)
      refine vc_seq' ?_
      refine vc_sr ?_
      iterate 2 refine vo ?_
      refine vnt ?_
      refine vc_if (fun g3 => ?_) (fun g3 => ?_)
      · refine vc_skip ?_
        refine thn ?_
        refine vc_seq' ?_
        refine vc_block ?_
        refine vc_region ?_
        iterate 2 refine vo ?_
        try refine vwr ?_
        iterate 4 refine vo ?_
        try refine vwr ?_
        refine veq (show (b : Int) + (j : Nat) = ((b + j : Nat) : Int) from rfl) ?_
        refine voc c_spec_l11Bit rfl rfl ?_
        refine vo ?_
        try refine vwr ?_
        refine veq (show 2 * ((kwF key b j : Nat) : Int) + (bitF key (b + j) : Nat) = (kwF key b (j + 1) : Nat) by simp only [kwF]; omega) ?_
        refine vo ?_
        refine vnil ?_
        refine inB_n ?_
        refine thn ?_
        refine vc_region ?_
        iterate 2 refine vo ?_
        try refine vwr ?_
        refine vo ?_
        refine vnt ?_
        refine ⟨j + 1, ?_, ?_, sub_i [] (fz ?_) (fz ?_)⟩
        · omega
        · omega
        · first | trivial | rfl | exact ⟨rfl, rfl⟩ | (refine ⟨?_, ?_⟩ <;> first | rfl | omega)
        · first | trivial | rfl
      · refine vc_exit ?_
        refine thn_x ?_
        refine thn_x ?_
        refine inB_x ?_
        refine thn ?_
        refine vc_sr ?_
        iterate 2 refine vo ?_
        refine vnt ?_
        refine vc_ret ?_
        refine fin_i [] rfl (fz ?_) trivial
        rw [show j = 32 by omega]
set_option maxHeartbeats 4000000 in
theorem c_impl_HashBytes {key x : ByteArray} (hk : key.size = 16 := by assumption) (hx : x.size ≤ 12 := by omega) : Con0 Tryz.prog 117 [Z key, Z x] (I (hashF key x (8 * x.size))) [] := by
  refine con_i Tryz.func117 Tryz.ntmps117 (t := [(0, Z key), (1, Z x)]) rfl ?_
  refine vc_sr ?_
  refine vo ?_
  refine vnt ?_
  refine vc_seq' ?_
  refine vc_sr ?_
  iterate 4 refine vo ?_
  refine vsp (fun g1 => ?_) (fun g1 => ?_)
  · exact (g1 (by omega)).elim
  · iterate 3 refine von ?_
    refine vo ?_
    refine vnt ?_
    refine vc_if (fun g2 => ?_) (fun g2 => ?_)
    · exfalso; omega
    · refine vc_skip ?_
      refine thn ?_
      refine vc_sr ?_
      refine vo ?_
      refine vnt ?_
      refine vc_seq' ?_
      refine vc_sr ?_
      refine vo ?_
      refine vnt ?_
      refine vc_block ?_
      refine vc_lp (σ := Nat) [0, 1] [] (fun j => [(5, I (hashF key x j)), (6, I (j : Nat))]) (fun j => []) (fun j => j ≤ 8 * x.size) (fun j => 8 * x.size - j) 0 rfl rfl (sub_i [] (fz ?_) (fz ?_)) ?_ fun j hI => ?_
      · first | trivial | rfl | exact ⟨rfl, rfl⟩
      · first | trivial | rfl
      · exact Nat.zero_le _
      refine vc_nf rfl rfl ?_
      refine vc_seq' ?_
      refine vc_sr ?_
      iterate 4 refine vo ?_
      try refine vwr ?_
      refine vo ?_
      refine vnt ?_
      refine vc_if (fun g3 => ?_) (fun g3 => ?_)
      · refine vc_skip ?_
        refine thn ?_
        refine vc_seq' ?_
        refine vc_block ?_
        refine vc_sr ?_
        iterate 2 refine vo ?_
        refine voc c_impl_keyBit rfl rfl ?_
        refine vo ?_
        refine vnt ?_
        refine vc_if (fun g4 => ?_) (fun g4 => ?_)
        · refine vc_region ?_
          iterate 3 refine vo ?_
          refine voc c_impl_KeyWindow rfl rfl ?_
          iterate 2 refine vo ?_
          refine vnil ?_
          refine inB_n ?_
          refine thn ?_
          refine vc_region ?_
          iterate 2 refine vo ?_
          try refine vwr ?_
          refine vo ?_
          refine vnt ?_
          refine ⟨j + 1, ?_, ?_, sub_i [] (fz ?_) (fz ?_)⟩
          · omega
          · omega
          · first | (refine ⟨?_, rfl⟩; rw [hashF, if_pos (by omega)]; done) | (refine ⟨?_, rfl⟩; rw [hashF, if_neg (by omega)]; done) | trace_state
          · first | trivial | rfl
        · refine vc_skip ?_
          refine inB_n ?_
          refine thn ?_
          refine vc_region ?_
          iterate 2 refine vo ?_
          try refine vwr ?_
          refine vo ?_
          refine vnt ?_
          refine ⟨j + 1, ?_, ?_, sub_i [] (fz ?_) (fz ?_)⟩
          · omega
          · omega
          · first | (refine ⟨?_, rfl⟩; rw [hashF, if_pos (by omega)]; done) | (refine ⟨?_, rfl⟩; rw [hashF, if_neg (by omega)]; done) | trace_state
          · first | trivial | rfl
      · refine vc_exit ?_
        refine thn_x ?_
        refine thn_x ?_
        refine inB_x ?_
        refine thn ?_
        refine vc_sr ?_
        iterate 2 refine vo ?_
        refine vnt ?_
        refine vc_ret ?_
        refine fin_i [] rfl (fz ?_) trivial
        rw [show j = 8 * x.size by omega]
set_option maxHeartbeats 4000000 in
theorem c_spec_HashBytes {key x : ByteArray} (hk : key.size = 16 := by assumption) (hx : x.size ≤ 12 := by omega) : Con0 Tryz.prog 102 [Z key, Z x] (I (hashF key x (8 * x.size))) [] := by
  refine con_i Tryz.func102 Tryz.ntmps102 (t := [(0, Z key), (1, Z x)]) rfl ?_
  refine vc_sr ?_
  refine vo ?_
  refine vnt ?_
  refine vc_seq' ?_
  refine vc_sr ?_
  iterate 4 refine vo ?_
  refine vsp (fun g1 => ?_) (fun g1 => ?_)
  · exact (g1 (by omega)).elim
  · iterate 3 refine von ?_
    refine vo ?_
    refine vnt ?_
    refine vc_if (fun g2 => ?_) (fun g2 => ?_)
    · exfalso; omega
    · refine vc_skip ?_
      refine thn ?_
      refine vc_sr ?_
      refine vo ?_
      refine vnt ?_
      refine vc_seq' ?_
      refine vc_sr ?_
      refine vo ?_
      refine vnt ?_
      refine vc_block ?_
      refine vc_lp (σ := Nat) [0, 1] [] (fun j => [(5, I (hashF key x j)), (6, I (j : Nat))]) (fun j => []) (fun j => j ≤ 8 * x.size) (fun j => 8 * x.size - j) 0 rfl rfl (sub_i [] (fz ?_) (fz ?_)) ?_ fun j hI => ?_
      · first | trivial | rfl | exact ⟨rfl, rfl⟩
      · first | trivial | rfl
      · exact Nat.zero_le _
      refine vc_nf rfl rfl ?_
      refine vc_seq' ?_
      refine vc_sr ?_
      iterate 4 refine vo ?_
      try refine vwr ?_
      refine vo ?_
      refine vnt ?_
      refine vc_if (fun g3 => ?_) (fun g3 => ?_)
      · refine vc_skip ?_
        refine thn ?_
        refine vc_seq' ?_
        refine vc_block ?_
        refine vc_sr ?_
        iterate 2 refine vo ?_
        refine voc c_spec_l11Bit rfl rfl ?_
        refine vo ?_
        refine vnt ?_
        refine vc_if (fun g4 => ?_) (fun g4 => ?_)
        · refine vc_region ?_
          iterate 3 refine vo ?_
          refine voc c_spec_KeyWindow rfl rfl ?_
          iterate 2 refine vo ?_
          refine vnil ?_
          refine inB_n ?_
          refine thn ?_
          refine vc_region ?_
          iterate 2 refine vo ?_
          try refine vwr ?_
          refine vo ?_
          refine vnt ?_
          refine ⟨j + 1, ?_, ?_, sub_i [] (fz ?_) (fz ?_)⟩
          · omega
          · omega
          · first | (refine ⟨?_, rfl⟩; rw [hashF, if_pos (by omega)]; done) | (refine ⟨?_, rfl⟩; rw [hashF, if_neg (by omega)]; done) | trace_state
          · first | trivial | rfl
        · refine vc_skip ?_
          refine inB_n ?_
          refine thn ?_
          refine vc_region ?_
          iterate 2 refine vo ?_
          try refine vwr ?_
          refine vo ?_
          refine vnt ?_
          refine ⟨j + 1, ?_, ?_, sub_i [] (fz ?_) (fz ?_)⟩
          · omega
          · omega
          · first | (refine ⟨?_, rfl⟩; rw [hashF, if_pos (by omega)]; done) | (refine ⟨?_, rfl⟩; rw [hashF, if_neg (by omega)]; done) | trace_state
          · first | trivial | rfl
      · refine vc_exit ?_
        refine thn_x ?_
        refine thn_x ?_
        refine inB_x ?_
        refine thn ?_
        refine vc_sr ?_
        iterate 2 refine vo ?_
        refine vnt ?_
        refine vc_ret ?_
        refine fin_i [] rfl (fz ?_) trivial
        rw [show j = 8 * x.size by omega]
def hinF (si di sp dp : Int) : ByteArray := word32 si ++ word32 di ++ word16 sp ++ word16 dp
theorem hin_le (si di sp dp : Int) : (hinF si di sp dp).size ≤ 12 := by
  have := word32_le si; have := word32_le di; have := word16_le sp; have := word16_le dp
  unfold hinF
  simp only [ByteArray.size_append]; omega
def hflF (key : ByteArray) (si di sp dp : Int) : Int := hashF key (hinF si di sp dp) (8 * (hinF si di sp dp).size)
set_option maxHeartbeats 4000000 in
theorem c_impl_HashInput {kind si di sp dp : Int} : Con0 Tryz.prog 118 [.agg [V kind, V si, V di, V sp, V dp]] (Z (hinF si di sp dp)) [] := by
  refine con_i Tryz.func118 Tryz.ntmps118 (t := [(0, .agg [V kind, V si, V di, V sp, V dp])]) rfl ?_
  refine vc_sr ?_
  iterate 2 refine vo ?_
  refine vnt ?_
  refine vc_sr ?_
  iterate 2 refine vo ?_
  refine voc c_impl_Word32 rfl rfl ?_
  refine vzs (word32_le _) fun z1 => ?_
  iterate 2 refine vo ?_
  refine voc c_impl_Word32 rfl rfl ?_
  refine vzs (word32_le _) fun z2 => ?_
  iterate 3 refine vo ?_
  refine voc c_impl_Word16 rfl rfl ?_
  refine vzs (word16_le _) fun z3 => ?_
  iterate 3 refine vo ?_
  refine voc c_impl_Word16 rfl rfl ?_
  refine vzs (word16_le _) fun z4 => ?_
  iterate 2 refine vo ?_
  refine vnt ?_
  refine vc_ret ?_
  refine fin_i [] rfl (fz ?_) trivial
  rfl
set_option maxHeartbeats 4000000 in
theorem c_impl_HashFlow {key : ByteArray} {kind si di sp dp : Int} (hk : key.size = 16 := by assumption) : Con0 Tryz.prog 79 [Z key, .agg [V kind, V si, V di, V sp, V dp]] (I (hflF key si di sp dp)) [] := by
  have hz := hin_le si di sp dp
  refine con_i Tryz.func79 Tryz.ntmps79 (t := [(0, Z key), (1, .agg [V kind, V si, V di, V sp, V dp])]) rfl ?_
  refine vc_sr ?_
  iterate 2 refine vo ?_
  refine vnt ?_
  refine vc_sr ?_
  iterate 2 refine vo ?_
  refine voc c_impl_HashInput rfl rfl ?_
  refine voc c_impl_HashBytes rfl rfl ?_
  refine vo ?_
  refine vnt ?_
  refine vc_ret ?_
  refine fin_i [] rfl (fz ?_) trivial
  rfl
set_option maxHeartbeats 4000000 in
theorem c_spec_HashInput {kind si di sp dp : Int} : Con0 Tryz.prog 103 [.agg [V kind, V si, V di, V sp, V dp]] (Z (hinF si di sp dp)) [] := by
  refine con_i Tryz.func103 Tryz.ntmps103 (t := [(0, .agg [V kind, V si, V di, V sp, V dp])]) rfl ?_
  refine vc_sr ?_
  iterate 2 refine vo ?_
  refine vnt ?_
  refine vc_sr ?_
  iterate 2 refine vo ?_
  refine voc c_spec_Word32 rfl rfl ?_
  refine vzs (word32_le _) fun z1 => ?_
  iterate 2 refine vo ?_
  refine voc c_spec_Word32 rfl rfl ?_
  refine vzs (word32_le _) fun z2 => ?_
  iterate 3 refine vo ?_
  refine voc c_spec_Word16 rfl rfl ?_
  refine vzs (word16_le _) fun z3 => ?_
  iterate 3 refine vo ?_
  refine voc c_spec_Word16 rfl rfl ?_
  refine vzs (word16_le _) fun z4 => ?_
  iterate 2 refine vo ?_
  refine vnt ?_
  refine vc_ret ?_
  refine fin_i [] rfl (fz ?_) trivial
  rfl
set_option maxHeartbeats 4000000 in
theorem c_spec_HashFlow {key : ByteArray} {kind si di sp dp : Int} (hk : key.size = 16 := by assumption) : Con0 Tryz.prog 66 [Z key, .agg [V kind, V si, V di, V sp, V dp]] (I (hflF key si di sp dp)) [] := by
  have hz := hin_le si di sp dp
  refine con_i Tryz.func66 Tryz.ntmps66 (t := [(0, Z key), (1, .agg [V kind, V si, V di, V sp, V dp])]) rfl ?_
  refine vc_sr ?_
  iterate 2 refine vo ?_
  refine vnt ?_
  refine vc_sr ?_
  iterate 2 refine vo ?_
  refine voc c_spec_HashInput rfl rfl ?_
  refine voc c_spec_HashBytes rfl rfl ?_
  refine vo ?_
  refine vnt ?_
  refine vc_ret ?_
  refine fin_i [] rfl (fz ?_) trivial
  rfl
end Go.Proofs.YtncmlleohgeofaaGreat
end
section
namespace Go.Vc
open Go Go.RowKit
set_option linter.unusedVariables false
set_option linter.unusedSectionVars false
set_option linter.unusedSimpArgs false
set_option linter.unnecessarySimpa false
def fldK (g : TypeId → Option (List Nat)) (sz : TypeId → Option Nat) : Nat → List Field → Option (List Nat)
  | _, [] => some []
  | off, f :: fs => if f.name = "_" then none else if f.offset = off then match g f.type with
    | some k1 => if sz f.type = some k1.length then match fldK g sz (off + k1.length) fs with
      | some k2 => some (k1 ++ k2)
      | none => none else none
    | none => none else none
def szT (P : Program) [TyEnv P] (T : TypeId) : Option Nat := (TyEnv.ti P T).map (·.size)
def ksOf (P : Program) [TyEnv P] : Nat → TypeId → Option (List Nat)
  | 0, _ => none
  | d + 1, T => match TyEnv.ti P T with
    | some i => match i.k with
      | .int .i64 => some [0]
      | .bool => some [1]
      | .str => some [2]
      | .struct _ => if P.stoodInHeld T then none else fldK (ksOf P d) (szT P) 0 (P.fieldsOf T).toList
      | _ => none
    | none => none
def rowT (P : Program) [TyEnv P] (T : TypeId) : Bool := match TyEnv.ti P T with
  | some i => i.k.row
  | none => false
def VL (row : Bool) (xs : List Value) (v : Value) : Prop := if row then v = .agg xs.toArray else xs = [v]
theorem kd_0 {a : Value} (h : kd a = 0) : ∃ x, a = .int .i64 x := by
  cases a <;> simp [kd] at h
  rename_i k n
  cases k <;> simp [kd] at h
  exact ⟨n, rfl⟩
theorem kd_1 {a : Value} (h : kd a = 1) : ∃ x, a = .bool x := by
  cases a <;> simp [kd] at h
  · exact ⟨_, rfl⟩
  · rename_i k n; cases k <;> simp [kd] at h
theorem kd_2 {a : Value} (h : kd a = 2) : ∃ x, a = .string x := by
  cases a <;> simp [kd] at h
  · rename_i k n; cases k <;> simp [kd] at h
  · exact ⟨_, rfl⟩
theorem ceqV_app : ∀ (k1 : List Nat) {a1 b1 a2 b2 : List Value}, (∀ k ∈ k1, k < 3) → a1.map kd = k1 → b1.map kd = k1 → ceqV (a1 ++ a2) (b1 ++ b2) = (ceqV a1 b1 && ceqV a2 b2)
  | [], [], [], _, _, _, _, _ => by simp [ceqV]
  | k :: k1, a :: a1, b :: b1, a2, b2, h, ha, hb => by
    simp only [List.map_cons, List.cons.injEq] at ha hb
    have ih := ceqV_app k1 (a2 := a2) (b2 := b2) (fun k hk => h k (List.mem_cons_of_mem _ hk)) ha.2 hb.2
    have hk := h k (List.mem_cons_self ..)
    have : k = 0 ∨ k = 1 ∨ k = 2 := by omega
    rcases this with rfl | rfl | rfl
    · obtain ⟨x, rfl⟩ := kd_0 ha.1
      obtain ⟨y, rfl⟩ := kd_0 hb.1
      simp only [List.cons_append, ceqV, ih, Bool.and_assoc]
    · obtain ⟨x, rfl⟩ := kd_1 ha.1
      obtain ⟨y, rfl⟩ := kd_1 hb.1
      simp only [List.cons_append, ceqV, ih, Bool.and_assoc]
    · obtain ⟨x, rfl⟩ := kd_2 ha.1
      obtain ⟨y, rfl⟩ := kd_2 hb.1
      simp only [List.cons_append, ceqV, ih, Bool.and_assoc]
section
variable {P : Program} [TyEnv P]
theorem fldK_lt {g : TypeId → Option (List Nat)} {sz : TypeId → Option Nat} (hg : ∀ T ks, g T = some ks → ∀ k ∈ ks, k < 3) : ∀ {fs : List Field} {off : Nat} {ks : List Nat}, fldK g sz off fs = some ks → ∀ k ∈ ks, k < 3
  | [], _, _, h => by simp only [fldK, Option.some.injEq] at h; subst h; simp
  | f :: fs, off, ks, h => by
    simp only [fldK] at h
    split at h
    · cases h
    · split at h
      · split at h
        · rename_i k1 h1
          split at h
          · split at h
            · rename_i k2 h2
              simp only [Option.some.injEq] at h
              subst h
              intro k hk
              rcases List.mem_append.1 hk with hk | hk
              · exact hg _ _ h1 k hk
              · exact fldK_lt hg h2 k hk
            · cases h
          · cases h
        · cases h
      · cases h
theorem ksOf_lt : ∀ {d : Nat} {T : TypeId} {ks : List Nat}, ksOf P d T = some ks → ∀ k ∈ ks, k < 3
  | d + 1, T, ks, h => by
    simp only [ksOf] at h
    split at h
    · split at h
      · simp only [Option.some.injEq] at h; subst h; simp
      · simp only [Option.some.injEq] at h; subst h; simp
      · simp only [Option.some.injEq] at h; subst h; simp
      · split at h
        · cases h
        · exact fldK_lt (fun T ks h => ksOf_lt (d := d) h) h
      · cases h
    · cases h
theorem part_ok {T : TypeId} {i : TyI} (hi : TyEnv.ti P T = some i) {xs : List Value} {off : Nat} (h : off + i.size ≤ xs.length) (w : World) : ∃ v, (part T xs.toArray off).run P w = .ok v w ∧ VL i.k.row ((xs.drop off).take i.size) v := by
  obtain ⟨d, hu, hr⟩ := ty_und hi
  cases hrow : i.k.row with
  | true =>
    have hagg : (isAgg T).run P w = .ok true w := by
      unfold isAgg
      rw [Sem.run_bind, run_underlying hu w]
      rw [hrow] at hr
      cases d <;> first | rfl | (cases hr)
    have hz : (Go.sizeOf T).run P w = .ok i.size w := by
      obtain ⟨inf, h1, h2⟩ := Option.map_eq_some_iff.1 (ty_size hi)
      simp [sizeOf, typeInfo, h1, h2]
    refine ⟨.agg (xs.toArray.extract off (off + i.size)), ?_, ?_⟩
    · simp [part, Sem.run_bind, hagg, hz]
    · simp only [VL, if_true]
      congr 1
      rw [List.extract_toArray]
      simp [List.extract, Nat.add_sub_cancel_left]
  | false =>
    have hagg : (isAgg T).run P w = .ok false w := by
      unfold isAgg
      rw [Sem.run_bind, run_underlying hu w]
      rw [hrow] at hr
      cases d <;> first | rfl | (cases hr)
    have h1 := ty_one hi hrow
    have hx : xs[off]? = some (xs[off]'(by omega)) := List.getElem?_eq_getElem (by omega)
    refine ⟨xs[off]'(by omega), ?_, ?_⟩
    · simp [part, Sem.run_bind, hagg, hx]
    · simp only [VL, Bool.false_eq_true, if_false]
      rw [h1, List.drop_eq_getElem_cons (by omega)]; rfl
def EqD (P : Program) [TyEnv P] (N : Nat) (T : TypeId) (ks : List Nat) : Prop := ∀ (w : World) (xs ys : List Value) (u v : Value), xs.map kd = ks → ys.map kd = ks → VL (rowT P T) xs u → VL (rowT P T) ys v → (Op.equalIn N T u v).run P w = .ok (ceqV xs ys) w
theorem flds_ok {N : Nat} {g : TypeId → Option (List Nat)} (hg : ∀ T ks, g T = some ks → EqD P N T ks ∧ ∀ k ∈ ks, k < 3) : ∀ {fs : List Field} {off : Nat} {ks : List Nat}, fldK g (szT P) off fs = some ks → ∀ (w : World) (xs ys : List Value), (xs.drop off).map kd = ks → (ys.drop off).map kd = ks → (Op.eqFields N xs.toArray ys.toArray fs).run P w = .ok (ceqV (xs.drop off) (ys.drop off)) w
  | [], off, ks, h, w, xs, ys, hx, hy => by
    simp only [fldK, Option.some.injEq] at h
    subst h
    have e1 : xs.drop off = [] := by simpa using hx
    have e2 : ys.drop off = [] := by simpa using hy
    simp [Op.eqFields, e1, e2, ceqV]
  | f :: fs, off, ks, h, w, xs, ys, hx, hy => by
    simp only [fldK] at h
    split at h
    · cases h
    · rename_i hn
      split at h
      · rename_i ho
        split at h
        · rename_i k1 h1
          split at h
          · rename_i hs
            split at h
            · rename_i k2 h2
              simp only [Option.some.injEq] at h
              subst h
              obtain ⟨i, hi, hsz⟩ := Option.map_eq_some_iff.1 hs
              have lx := congrArg List.length hx
              have ly := congrArg List.length hy
              simp only [List.length_map, List.length_drop, List.length_append] at lx ly
              have hpos := ty_pos hi
              obtain ⟨u, u1, u2⟩ := part_ok hi (xs := xs) (off := off) (by omega) w
              obtain ⟨v, v1, v2⟩ := part_ok hi (xs := ys) (off := off) (by omega) w
              have hrow : rowT P f.type = i.k.row := by unfold rowT; rw [hi]
              have sx : xs.drop off = (xs.drop off).take i.size ++ xs.drop (off + i.size) := by rw [← List.drop_drop]; exact (List.take_append_drop _ _).symm
              have sy : ys.drop off = (ys.drop off).take i.size ++ ys.drop (off + i.size) := by rw [← List.drop_drop]; exact (List.take_append_drop _ _).symm
              rw [sx, List.map_append] at hx
              rw [sy, List.map_append] at hy
              have hx' := List.append_inj hx (by rw [List.length_map, List.length_take, List.length_drop]; omega)
              have hy' := List.append_inj hy (by rw [List.length_map, List.length_take, List.length_drop]; omega)
              obtain ⟨gE, gl⟩ := hg _ _ h1
              have hr := gE w _ _ u v hx'.1 hy'.1 (by rw [hrow]; exact u2) (by rw [hrow]; exact v2)
              have ih := flds_ok hg h2 w xs ys (by rw [← hsz]; exact hx'.2) (by rw [← hsz]; exact hy'.2)
              simp only [Op.eqFields]
              rw [if_pos hn, ho]
              simp only [Sem.run_bind, u1, v1, hr, Result.andThen_ok]
              have hc : ceqV (xs.drop off) (ys.drop off) = (ceqV ((xs.drop off).take i.size) ((ys.drop off).take i.size) && ceqV (xs.drop (off + i.size)) (ys.drop (off + i.size))) := by
                rw [sx, sy]
                have := ceqV_app k1 (a2 := xs.drop (off + i.size)) (b2 := ys.drop (off + i.size)) gl hx'.1 hy'.1
                rw [← sx, ← sy] at this ⊢
                exact this
              rw [hc]
              cases hb : ceqV ((xs.drop off).take i.size) ((ys.drop off).take i.size) with
              | false => simp
              | true =>
                simp only [Bool.not_true, Bool.false_eq_true, if_false, Bool.true_and]
                rw [hsz]; exact ih
            · cases h
          · cases h
        · cases h
      · cases h
theorem ksOf_ok : ∀ {d N : Nat} {T : TypeId} {ks : List Nat}, ksOf P d T = some ks → d ≤ N → EqD P N T ks
  | d + 1, 0, T, ks, h, hN => by omega
  | d + 1, N + 1, T, ks, h, hN => by
    intro w xs ys u v hx hy hu hv
    simp only [ksOf] at h
    split at h
    · rename_i i hi
      have hrow : rowT P T = i.k.row := by unfold rowT; rw [hi]
      rw [hrow] at hu hv
      have hkind := ty_kind hi
      split at h
      · rename_i hk
        simp only [Option.some.injEq] at h; subst h
        rw [hk] at hu hv hkind
        simp only [VL, TK.row, Bool.false_eq_true, if_false] at hu hv
        subst hu hv
        simp only [List.map_cons, List.map_nil, List.cons.injEq, and_true] at hx hy
        obtain ⟨a, rfl⟩ := kd_0 hx
        obtain ⟨b, rfl⟩ := kd_0 hy
        rw [run_equalIn_int w N T _ _ a b hkind]
        simp only [ceqV, Bool.and_true]
        congr 1
      · rename_i hk
        simp only [Option.some.injEq] at h; subst h
        rw [hk] at hu hv hkind
        simp only [VL, TK.row, Bool.false_eq_true, if_false] at hu hv
        subst hu hv
        simp only [List.map_cons, List.map_nil, List.cons.injEq, and_true] at hx hy
        obtain ⟨a, rfl⟩ := kd_1 hx
        obtain ⟨b, rfl⟩ := kd_1 hy
        rw [run_equalIn_bool' w N T a b hkind]
        simp only [ceqV, Bool.and_true]
      · rename_i hk
        simp only [Option.some.injEq] at h; subst h
        rw [hk] at hu hv hkind
        simp only [VL, TK.row, Bool.false_eq_true, if_false] at hu hv
        subst hu hv
        simp only [List.map_cons, List.map_nil, List.cons.injEq, and_true] at hx hy
        obtain ⟨a, rfl⟩ := kd_2 hx
        obtain ⟨b, rfl⟩ := kd_2 hy
        rw [run_equalIn_string w N T a b hkind, str_beq]
        simp only [ceqV, Bool.and_true]
      · rename_i fs hk
        split at h
        · cases h
        · rename_i hst
          rw [hk] at hu hv hkind
          simp only [VL, TK.row, if_true] at hu hv
          subst hu hv
          rw [run_equalIn_struct w N T _ _ hkind.1 (by simpa using hst)]
          have := flds_ok (N := N) (g := ksOf P d) (fun T ks h => ⟨ksOf_ok h (by omega), ksOf_lt h⟩) h w xs ys (by rw [List.drop_zero]; exact hx) (by rw [List.drop_zero]; exact hy)
          rw [List.drop_zero, List.drop_zero] at this
          exact this
      · cases h
    · cases h
theorem eqOk_of {T : TypeId} {ks : List Nat} (d : Nat) (h : ksOf P d T = some ks) (hd : d ≤ 10000) (hr : rowT P T = true) (hg : P.eqGuardType P.depth T = false) : EqOk P T ks := by
  refine ⟨hg, fun w xs ys hx hy => ?_⟩
  have := ksOf_ok h hd w xs ys _ _ hx hy (by rw [hr]; exact rfl) (by rw [hr]; exact rfl)
  simpa [Op.equal, Op.maxDepth] using this
end
end Go.Vc
end
section
namespace Go.Proofs.YtncmlleohgeofaaGreat
open Go Go.RowKit Go.Vc
set_option linter.unusedVariables false
set_option linter.unusedSimpArgs false
set_option linter.unnecessarySimpa false
theorem eqk_Packet : EqOk Tryz.prog 46 [0, 0, 0, 0, 0, 0, 0, 0, 0, 0, 0, 0, 0, 0, 0, 2] := eqOk_of 4 (by kernel_rfl) (by decide) (by kernel_rfl) (by kernel_rfl)
theorem eqk_Super : EqOk Tryz.prog 48 [0, 0, 0, 0, 0, 0, 0, 0, 0, 0, 0, 0, 0, 0, 0, 2, 0, 0] := eqOk_of 4 (by kernel_rfl) (by decide) (by kernel_rfl) (by kernel_rfl)
def samB (dm sm vl tos id ttl si di kind sp dp seq ack fl win dm2 sm2 vl2 tos2 id2 ttl2 si2 di2 kind2 sp2 dp2 seq2 ack2 fl2 win2 : Int) : Bool := decide (dm = dm2) && decide (sm = sm2) && decide (vl = vl2) && decide (tos = tos2) && decide (ttl = ttl2) && decide (si = si2) && decide (di = di2) && decide (kind = kind2) && decide (sp = sp2) && decide (dp = dp2) && decide (ack = ack2) && decide (win = win2)
def noHeld (dm sm vl tos id ttl si di kind sp dp seq ack fl win : Int) (body : ByteArray) (size count : Int) : Bool := decide (dm = 0) && decide (sm = 0) && decide (vl = 0) && decide (tos = 0) && decide (id = 0) && decide (ttl = 0) && decide (si = 0) && decide (di = 0) && decide (kind = 0) && decide (sp = 0) && decide (dp = 0) && decide (seq = 0) && decide (ack = 0) && decide (fl = 0) && decide (win = 0) && decide (body = ⟨#[]⟩) && decide (size = 0) && decide (count = 0)
def rxOkB (rb rs rh rt db ds dc vb vs vc dm sm vl tos id ttl si di kind sp dp seq ack fl win : Int) (body : ByteArray) (size count : Int) (hold : Bool) (dropped : Int) : Bool := ringOkB rb rs rh rt && (queueOkB db ds dc && (queueOkB vb vs vc && (decide (db = vb) && (decide (ds = vs) && (inB dropped 0 1000000000000 && (if hold then superOkB dm sm vl tos id ttl si di kind sp dp seq ack fl win body.size && (inB size 0 320 && inB count 1 320) else noHeld dm sm vl tos id ttl si di kind sp dp seq ack fl win body size count))))))
set_option maxHeartbeats 4000000 in
theorem c_impl_FlowOf {dm sm vl tos id ttl si di kind sp dp seq ack fl win : Int} {body : ByteArray} : Con0 Tryz.prog 80 [.agg [V dm, V sm, V vl, V tos, V id, V ttl, V si, V di, V kind, V sp, V dp, V seq, V ack, V fl, V win, VS body]] (.agg [V kind, V si, V di, V sp, V dp]) [] := by
  refine con_i Tryz.func80 Tryz.ntmps80 (t := [(0, .agg [V dm, V sm, V vl, V tos, V id, V ttl, V si, V di, V kind, V sp, V dp, V seq, V ack, V fl, V win, VS body])]) rfl ?_
  refine vc_sr ?_
  iterate 2 refine vo ?_
  refine vnt ?_
  refine vc_sr ?_
  iterate 15 refine vo ?_
  refine vnt ?_
  refine vc_ret ?_
  refine fin_i [] rfl (fz ?_) trivial
  simp
set_option maxHeartbeats 4000000 in
theorem c_impl_Single {dm sm vl tos id ttl si di kind sp dp seq ack fl win : Int} {body : ByteArray} : Con0 Tryz.prog 54 [.agg [V dm, V sm, V vl, V tos, V id, V ttl, V si, V di, V kind, V sp, V dp, V seq, V ack, V fl, V win, VS body]] (.agg [V dm, V sm, V vl, V tos, V id, V ttl, V si, V di, V kind, V sp, V dp, V seq, V ack, V fl, V win, VS body, V body.size, V 1]) [] := by
  refine con_i Tryz.func54 Tryz.ntmps54 (t := [(0, .agg [V dm, V sm, V vl, V tos, V id, V ttl, V si, V di, V kind, V sp, V dp, V seq, V ack, V fl, V win, VS body])]) rfl ?_
  refine vc_sr ?_
  iterate 2 refine vo ?_
  refine vnt ?_
  refine vc_sr ?_
  iterate 7 refine vo ?_
  refine vnt ?_
  refine vc_ret ?_
  refine fin_i [] rfl (fz ?_) trivial
  simp
set_option maxHeartbeats 4000000 in
theorem c_impl_SamePath {dm sm vl tos id ttl si di kind sp dp seq ack fl win dm2 sm2 vl2 tos2 id2 ttl2 si2 di2 kind2 sp2 dp2 seq2 ack2 fl2 win2 : Int} {body body2 : ByteArray} : Con0 Tryz.prog 85 [.agg [V dm, V sm, V vl, V tos, V id, V ttl, V si, V di, V kind, V sp, V dp, V seq, V ack, V fl, V win, VS body], .agg [V dm2, V sm2, V vl2, V tos2, V id2, V ttl2, V si2, V di2, V kind2, V sp2, V dp2, V seq2, V ack2, V fl2, V win2, VS body2]] (B (samB dm sm vl tos id ttl si di kind sp dp seq ack fl win dm2 sm2 vl2 tos2 id2 ttl2 si2 di2 kind2 sp2 dp2 seq2 ack2 fl2 win2)) [] := by
  have hE := eqk_Packet
  refine con_i Tryz.func85 Tryz.ntmps85 (t := [(0, .agg [V dm, V sm, V vl, V tos, V id, V ttl, V si, V di, V kind, V sp, V dp, V seq, V ack, V fl, V win, VS body]), (1, .agg [V dm2, V sm2, V vl2, V tos2, V id2, V ttl2, V si2, V di2, V kind2, V sp2, V dp2, V seq2, V ack2, V fl2, V win2, VS body2])]) rfl ?_
  refine vc_sr ?_
  iterate 3 refine vo ?_
  refine vnt ?_
  refine vc_sr ?_
  iterate 4 refine vo ?_
  refine vnt ?_
  refine vc_sr ?_
  iterate 6 refine vo ?_
  refine vnt ?_
  refine vc_sr ?_
  iterate 6 refine vo ?_
  refine vnt ?_
  refine vc_sr ?_
  iterate 6 refine vo ?_
  refine vnt ?_
  refine vc_sr ?_
  iterate 4 refine vo ?_
  refine vnt ?_
  refine vc_ret ?_
  refine fin_i [] rfl (fz ?_) trivial
  simp [ceqV, samB, Bool.and_assoc]
set_option maxHeartbeats 4000000 in
theorem c_impl_RxOk {rb rs rh rt db ds dc vb vs vc dm sm vl tos id ttl si di kind sp dp seq ack fl win size count dropped : Int} {body : ByteArray} {hold : Bool} : Con0 Tryz.prog 34 [.agg [V rb, V rs, V rh, V rt, V db, V ds, V dc, V vb, V vs, V vc, V dm, V sm, V vl, V tos, V id, V ttl, V si, V di, V kind, V sp, V dp, V seq, V ack, V fl, V win, VS body, V size, V count, VB hold, V dropped]] (B (rxOkB rb rs rh rt db ds dc vb vs vc dm sm vl tos id ttl si di kind sp dp seq ack fl win body size count hold dropped)) [] := by
  have hE := eqk_Super
  refine con_i Tryz.func34 Tryz.ntmps34 (t := [(0, .agg [V rb, V rs, V rh, V rt, V db, V ds, V dc, V vb, V vs, V vc, V dm, V sm, V vl, V tos, V id, V ttl, V si, V di, V kind, V sp, V dp, V seq, V ack, V fl, V win, VS body, V size, V count, VB hold, V dropped])]) rfl ?_
  refine vc_sr ?_
  iterate 2 refine vo ?_
  refine vnt ?_
  refine vc_seq' ?_
  refine vc_sr ?_
  iterate 2 refine vo ?_
  refine voc c_impl_RingOk rfl rfl ?_
  iterate 2 refine vo ?_
  refine vsp (fun g1 => ?_) (fun g1 => ?_)
  · iterate 4 refine vof ?_
    iterate 2 refine vo ?_
    iterate 4 refine vof ?_
    iterate 2 refine vo ?_
    iterate 7 refine vof ?_
    iterate 2 refine vo ?_
    iterate 7 refine vof ?_
    iterate 2 refine vo ?_
    iterate 4 refine vof ?_
    refine vo ?_
    refine vnt ?_
    refine vc_then ?_
    refine vc_sr ?_
    refine vo ?_
    refine vnt ?_
    refine vc_ret ?_
    refine thn_r ?_
    refine fin_i [] rfl (fz ?_) trivial
    rw [rxOkB, g1]
    simp
  · iterate 2 refine von ?_
    refine vocn c_impl_QueueOk rfl rfl ?_
    refine von ?_
    iterate 2 refine vo ?_
    refine vsp (fun g2 => ?_) (fun g2 => ?_)
    · iterate 4 refine vof ?_
      iterate 2 refine vo ?_
      iterate 7 refine vof ?_
      iterate 2 refine vo ?_
      iterate 7 refine vof ?_
      iterate 2 refine vo ?_
      iterate 4 refine vof ?_
      refine vo ?_
      refine vnt ?_
      refine vc_then ?_
      refine vc_sr ?_
      refine vo ?_
      refine vnt ?_
      refine vc_ret ?_
      refine thn_r ?_
      refine fin_i [] rfl (fz ?_) trivial
      rw [rxOkB, g1, g2]
      simp
    · iterate 2 refine von ?_
      refine vocn c_impl_QueueOk rfl rfl ?_
      refine von ?_
      iterate 2 refine vo ?_
      refine vsp (fun g3 => ?_) (fun g3 => ?_)
      · iterate 7 refine vof ?_
        iterate 2 refine vo ?_
        iterate 7 refine vof ?_
        iterate 2 refine vo ?_
        iterate 4 refine vof ?_
        refine vo ?_
        refine vnt ?_
        refine vc_then ?_
        refine vc_sr ?_
        refine vo ?_
        refine vnt ?_
        refine vc_ret ?_
        refine thn_r ?_
        refine fin_i [] rfl (fz ?_) trivial
        rw [rxOkB, g1, g2, g3]
        simp
      · iterate 7 refine von ?_
        iterate 2 refine vo ?_
        refine vsp (fun g4 => ?_) (fun g4 => ?_)
        · iterate 7 refine vof ?_
          iterate 2 refine vo ?_
          iterate 4 refine vof ?_
          refine vo ?_
          refine vnt ?_
          refine vc_then ?_
          refine vc_sr ?_
          refine vo ?_
          refine vnt ?_
          refine vc_ret ?_
          refine thn_r ?_
          refine fin_i [] rfl (fz ?_) trivial
          rw [rxOkB, g1, g2, g3, decide_eq_false g4]
          simp
        · iterate 7 refine von ?_
          iterate 2 refine vo ?_
          refine vsp (fun g5 => ?_) (fun g5 => ?_)
          · iterate 4 refine vof ?_
            refine vo ?_
            refine vnt ?_
            refine vc_then ?_
            refine vc_sr ?_
            refine vo ?_
            refine vnt ?_
            refine vc_ret ?_
            refine thn_r ?_
            refine fin_i [] rfl (fz ?_) trivial
            rw [rxOkB, g1, g2, g3, decide_eq_true g4, decide_eq_false g5]
            simp
          · iterate 2 refine von ?_
            refine vocn c_impl_between rfl rfl ?_
            refine von ?_
            refine vo ?_
            refine vnt ?_
            refine vc_if (fun g6 => ?_) (fun g6 => ?_)
            · refine vc_sr ?_
              refine vo ?_
              refine vnt ?_
              refine vc_ret ?_
              refine thn_r ?_
              refine fin_i [] rfl (fz ?_) trivial
              rw [rxOkB, g1, g2, g3, decide_eq_true g4, decide_eq_true g5, g6]
              simp
            · refine vc_skip ?_
              refine thn ?_
              refine vc_seq' ?_
              refine vc_sr ?_
              iterate 3 refine vo ?_
              refine vnt ?_
              refine vc_if (fun g7 => ?_) (fun g7 => ?_)
              · refine vc_sr ?_
                iterate 5 refine vo ?_
                refine vnt ?_
                refine vc_ret ?_
                refine thn_r ?_
                refine fin_i [] rfl (fz ?_) trivial
                rw [rxOkB, g1, g2, g3, decide_eq_true g4, decide_eq_true g5, g6]
                rw [g7]
                simp [ceqV, noHeld, Bool.and_assoc]
              · refine vc_skip ?_
                refine thn ?_
                refine vc_sr ?_
                iterate 3 refine vo ?_
                refine voc c_impl_SuperOk rfl rfl ?_
                refine vo ?_
                refine vsp (fun g8 => ?_) (fun g8 => ?_)
                · iterate 3 refine von ?_
                  refine vocn c_impl_between rfl rfl ?_
                  iterate 2 refine vo ?_
                  refine vsp (fun g9 => ?_) (fun g9 => ?_)
                  · iterate 3 refine von ?_
                    refine vocn c_impl_between rfl rfl ?_
                    iterate 2 refine vo ?_
                    refine vnt ?_
                    refine vc_ret ?_
                    refine fin_i [] rfl (fz ?_) trivial
                    rw [rxOkB, g1, g2, g3, decide_eq_true g4, decide_eq_true g5, g6]
                    rw [g7]
                    simp [g8, g9]
                  · iterate 4 refine vof ?_
                    iterate 2 refine vo ?_
                    refine vnt ?_
                    refine vc_ret ?_
                    refine fin_i [] rfl (fz ?_) trivial
                    rw [rxOkB, g1, g2, g3, decide_eq_true g4, decide_eq_true g5, g6]
                    rw [g7]
                    simp [g8, g9]
                · iterate 4 refine vof ?_
                  iterate 2 refine vo ?_
                  iterate 4 refine vof ?_
                  iterate 2 refine vo ?_
                  refine vnt ?_
                  refine vc_ret ?_
                  refine fin_i [] rfl (fz ?_) trivial
                  rw [rxOkB, g1, g2, g3, decide_eq_true g4, decide_eq_true g5, g6]
                  rw [g7]
                  simp [g8]
set_option maxHeartbeats 4000000 in
theorem c_spec_FlowOf {dm sm vl tos id ttl si di kind sp dp seq ack fl win : Int} {body : ByteArray} : Con0 Tryz.prog 67 [.agg [V dm, V sm, V vl, V tos, V id, V ttl, V si, V di, V kind, V sp, V dp, V seq, V ack, V fl, V win, VS body]] (.agg [V kind, V si, V di, V sp, V dp]) [] := by
  refine con_i Tryz.func67 Tryz.ntmps67 (t := [(0, .agg [V dm, V sm, V vl, V tos, V id, V ttl, V si, V di, V kind, V sp, V dp, V seq, V ack, V fl, V win, VS body])]) rfl ?_
  refine vc_sr ?_
  iterate 2 refine vo ?_
  refine vnt ?_
  refine vc_sr ?_
  iterate 15 refine vo ?_
  refine vnt ?_
  refine vc_ret ?_
  refine fin_i [] rfl (fz ?_) trivial
  simp
set_option maxHeartbeats 4000000 in
theorem c_spec_Single {dm sm vl tos id ttl si di kind sp dp seq ack fl win : Int} {body : ByteArray} : Con0 Tryz.prog 49 [.agg [V dm, V sm, V vl, V tos, V id, V ttl, V si, V di, V kind, V sp, V dp, V seq, V ack, V fl, V win, VS body]] (.agg [V dm, V sm, V vl, V tos, V id, V ttl, V si, V di, V kind, V sp, V dp, V seq, V ack, V fl, V win, VS body, V body.size, V 1]) [] := by
  refine con_i Tryz.func49 Tryz.ntmps49 (t := [(0, .agg [V dm, V sm, V vl, V tos, V id, V ttl, V si, V di, V kind, V sp, V dp, V seq, V ack, V fl, V win, VS body])]) rfl ?_
  refine vc_sr ?_
  iterate 2 refine vo ?_
  refine vnt ?_
  refine vc_sr ?_
  iterate 7 refine vo ?_
  refine vnt ?_
  refine vc_ret ?_
  refine fin_i [] rfl (fz ?_) trivial
  simp
set_option maxHeartbeats 4000000 in
theorem c_spec_SamePath {dm sm vl tos id ttl si di kind sp dp seq ack fl win dm2 sm2 vl2 tos2 id2 ttl2 si2 di2 kind2 sp2 dp2 seq2 ack2 fl2 win2 : Int} {body body2 : ByteArray} : Con0 Tryz.prog 84 [.agg [V dm, V sm, V vl, V tos, V id, V ttl, V si, V di, V kind, V sp, V dp, V seq, V ack, V fl, V win, VS body], .agg [V dm2, V sm2, V vl2, V tos2, V id2, V ttl2, V si2, V di2, V kind2, V sp2, V dp2, V seq2, V ack2, V fl2, V win2, VS body2]] (B (samB dm sm vl tos id ttl si di kind sp dp seq ack fl win dm2 sm2 vl2 tos2 id2 ttl2 si2 di2 kind2 sp2 dp2 seq2 ack2 fl2 win2)) [] := by
  have hE := eqk_Packet
  refine con_i Tryz.func84 Tryz.ntmps84 (t := [(0, .agg [V dm, V sm, V vl, V tos, V id, V ttl, V si, V di, V kind, V sp, V dp, V seq, V ack, V fl, V win, VS body]), (1, .agg [V dm2, V sm2, V vl2, V tos2, V id2, V ttl2, V si2, V di2, V kind2, V sp2, V dp2, V seq2, V ack2, V fl2, V win2, VS body2])]) rfl ?_
  refine vc_sr ?_
  iterate 3 refine vo ?_
  refine vnt ?_
  refine vc_sr ?_
  iterate 2 refine vo ?_
  refine vnt ?_
  refine vc_sr ?_
  iterate 2 refine vo ?_
  refine vnt ?_
  refine vc_sr ?_
  iterate 3 refine vo ?_
  refine vnt ?_
  refine vc_sr ?_
  iterate 3 refine vo ?_
  refine vnt ?_
  refine vc_sr ?_
  iterate 3 refine vo ?_
  refine vnt ?_
  refine vc_sr ?_
  iterate 3 refine vo ?_
  refine vnt ?_
  refine vc_sr ?_
  iterate 3 refine vo ?_
  refine vnt ?_
  refine vc_sr ?_
  iterate 3 refine vo ?_
  refine vnt ?_
  refine vc_sr ?_
  iterate 4 refine vo ?_
  refine vnt ?_
  refine vc_ret ?_
  refine fin_i [] rfl (fz ?_) trivial
  simp [ceqV, samB, Bool.and_assoc]
set_option maxHeartbeats 4000000 in
theorem c_spec_RxOk {rb rs rh rt db ds dc vb vs vc dm sm vl tos id ttl si di kind sp dp seq ack fl win size count dropped : Int} {body : ByteArray} {hold : Bool} : Con0 Tryz.prog 25 [.agg [V rb, V rs, V rh, V rt, V db, V ds, V dc, V vb, V vs, V vc, V dm, V sm, V vl, V tos, V id, V ttl, V si, V di, V kind, V sp, V dp, V seq, V ack, V fl, V win, VS body, V size, V count, VB hold, V dropped]] (B (rxOkB rb rs rh rt db ds dc vb vs vc dm sm vl tos id ttl si di kind sp dp seq ack fl win body size count hold dropped)) [] := by
  have hE := eqk_Super
  refine con_i Tryz.func25 Tryz.ntmps25 (t := [(0, .agg [V rb, V rs, V rh, V rt, V db, V ds, V dc, V vb, V vs, V vc, V dm, V sm, V vl, V tos, V id, V ttl, V si, V di, V kind, V sp, V dp, V seq, V ack, V fl, V win, VS body, V size, V count, VB hold, V dropped])]) rfl ?_
  refine vc_sr ?_
  iterate 2 refine vo ?_
  refine vnt ?_
  refine vc_seq' ?_
  refine vc_sr ?_
  iterate 2 refine vo ?_
  refine voc c_spec_RingOk rfl rfl ?_
  iterate 2 refine vo ?_
  refine vsp (fun g1 => ?_) (fun g1 => ?_)
  · iterate 4 refine vof ?_
    iterate 2 refine vo ?_
    iterate 4 refine vof ?_
    iterate 2 refine vo ?_
    iterate 7 refine vof ?_
    iterate 2 refine vo ?_
    iterate 7 refine vof ?_
    iterate 2 refine vo ?_
    iterate 4 refine vof ?_
    refine vo ?_
    refine vnt ?_
    refine vc_then ?_
    refine vc_sr ?_
    refine vo ?_
    refine vnt ?_
    refine vc_ret ?_
    refine thn_r ?_
    refine fin_i [] rfl (fz ?_) trivial
    rw [rxOkB, g1]
    simp
  · iterate 2 refine von ?_
    refine vocn c_spec_QueueOk rfl rfl ?_
    refine von ?_
    iterate 2 refine vo ?_
    refine vsp (fun g2 => ?_) (fun g2 => ?_)
    · iterate 4 refine vof ?_
      iterate 2 refine vo ?_
      iterate 7 refine vof ?_
      iterate 2 refine vo ?_
      iterate 7 refine vof ?_
      iterate 2 refine vo ?_
      iterate 4 refine vof ?_
      refine vo ?_
      refine vnt ?_
      refine vc_then ?_
      refine vc_sr ?_
      refine vo ?_
      refine vnt ?_
      refine vc_ret ?_
      refine thn_r ?_
      refine fin_i [] rfl (fz ?_) trivial
      rw [rxOkB, g1, g2]
      simp
    · iterate 2 refine von ?_
      refine vocn c_spec_QueueOk rfl rfl ?_
      refine von ?_
      iterate 2 refine vo ?_
      refine vsp (fun g3 => ?_) (fun g3 => ?_)
      · iterate 7 refine vof ?_
        iterate 2 refine vo ?_
        iterate 7 refine vof ?_
        iterate 2 refine vo ?_
        iterate 4 refine vof ?_
        refine vo ?_
        refine vnt ?_
        refine vc_then ?_
        refine vc_sr ?_
        refine vo ?_
        refine vnt ?_
        refine vc_ret ?_
        refine thn_r ?_
        refine fin_i [] rfl (fz ?_) trivial
        rw [rxOkB, g1, g2, g3]
        simp
      · iterate 7 refine von ?_
        iterate 2 refine vo ?_
        refine vsp (fun g4 => ?_) (fun g4 => ?_)
        · iterate 7 refine vof ?_
          iterate 2 refine vo ?_
          iterate 4 refine vof ?_
          refine vo ?_
          refine vnt ?_
          refine vc_then ?_
          refine vc_sr ?_
          refine vo ?_
          refine vnt ?_
          refine vc_ret ?_
          refine thn_r ?_
          refine fin_i [] rfl (fz ?_) trivial
          rw [rxOkB, g1, g2, g3, decide_eq_false g4]
          simp
        · iterate 7 refine von ?_
          iterate 2 refine vo ?_
          refine vsp (fun g5 => ?_) (fun g5 => ?_)
          · iterate 4 refine vof ?_
            refine vo ?_
            refine vnt ?_
            refine vc_then ?_
            refine vc_sr ?_
            refine vo ?_
            refine vnt ?_
            refine vc_ret ?_
            refine thn_r ?_
            refine fin_i [] rfl (fz ?_) trivial
            rw [rxOkB, g1, g2, g3, decide_eq_true g4, decide_eq_false g5]
            simp
          · iterate 2 refine von ?_
            refine vocn c_spec_l01In rfl rfl ?_
            refine von ?_
            refine vo ?_
            refine vnt ?_
            refine vc_if (fun g6 => ?_) (fun g6 => ?_)
            · refine vc_sr ?_
              refine vo ?_
              refine vnt ?_
              refine vc_ret ?_
              refine thn_r ?_
              refine fin_i [] rfl (fz ?_) trivial
              rw [rxOkB, g1, g2, g3, decide_eq_true g4, decide_eq_true g5, g6]
              simp
            · refine vc_skip ?_
              refine thn ?_
              refine vc_seq' ?_
              refine vc_sr ?_
              iterate 3 refine vo ?_
              refine vnt ?_
              refine vc_if (fun g7 => ?_) (fun g7 => ?_)
              · refine vc_sr ?_
                iterate 5 refine vo ?_
                refine vnt ?_
                refine vc_ret ?_
                refine thn_r ?_
                refine fin_i [] rfl (fz ?_) trivial
                rw [rxOkB, g1, g2, g3, decide_eq_true g4, decide_eq_true g5, g6]
                rw [g7]
                simp [ceqV, noHeld, Bool.and_assoc]
              · refine vc_skip ?_
                refine thn ?_
                refine vc_sr ?_
                iterate 3 refine vo ?_
                refine voc c_spec_SuperOk rfl rfl ?_
                refine vo ?_
                refine vsp (fun g8 => ?_) (fun g8 => ?_)
                · iterate 3 refine von ?_
                  refine vocn c_spec_l01In rfl rfl ?_
                  iterate 2 refine vo ?_
                  refine vsp (fun g9 => ?_) (fun g9 => ?_)
                  · iterate 3 refine von ?_
                    refine vocn c_spec_l01In rfl rfl ?_
                    iterate 2 refine vo ?_
                    refine vnt ?_
                    refine vc_ret ?_
                    refine fin_i [] rfl (fz ?_) trivial
                    rw [rxOkB, g1, g2, g3, decide_eq_true g4, decide_eq_true g5, g6]
                    rw [g7]
                    simp [g8, g9]
                  · iterate 4 refine vof ?_
                    iterate 2 refine vo ?_
                    refine vnt ?_
                    refine vc_ret ?_
                    refine fin_i [] rfl (fz ?_) trivial
                    rw [rxOkB, g1, g2, g3, decide_eq_true g4, decide_eq_true g5, g6]
                    rw [g7]
                    simp [g8, g9]
                · iterate 4 refine vof ?_
                  iterate 2 refine vo ?_
                  iterate 4 refine vof ?_
                  iterate 2 refine vo ?_
                  refine vnt ?_
                  refine vc_ret ?_
                  refine fin_i [] rfl (fz ?_) trivial
                  rw [rxOkB, g1, g2, g3, decide_eq_true g4, decide_eq_true g5, g6]
                  rw [g7]
                  simp [g8]
end Go.Proofs.YtncmlleohgeofaaGreat
end
section
namespace Go.Proofs.YtncmlleohgeofaaGreat
open Go Go.RowKit Go.Vc
set_option linter.unusedVariables false
set_option linter.unusedSimpArgs false
set_option linter.unnecessarySimpa false
theorem dec_n {s : ByteArray} (h : ¬ s.size = 16 ∨ ¬ encDF (bAt s 0) (bAt s 1) (get16 s 2) (get32 s 4) (get16 s 8) (get16 s 10) = s) : decDF s = ((0, 0, 0, 0, 0, 0), false) := by
  unfold decDF
  split
  · split
    · rename_i h1 h2
      rcases h with h | h
      · exact (h h1).elim
      · exact (h h2).elim
    · rfl
  · rfl
theorem dec_y {s : ByteArray} (h1 : s.size = 16) (h2 : encDF (bAt s 0) (bAt s 1) (get16 s 2) (get32 s 4) (get16 s 8) (get16 s 10) = s) : decDF s = (decX s, true) := by
  unfold decDF
  rw [if_pos h1, if_pos h2]
theorem dec_at (s : ByteArray) : (decDF s).1.2.2.2.1 ≤ 4294967295 := by
  have := get32_bd s 4
  unfold decDF
  split
  · split
    · exact this.2
    · simp
  · simp
theorem dw_len (l : List Mp) (ps : Pg) (d a : Int) (s : ByteArray) (wt : Bool) : (dmaWF l ps d a s wt).1.length = ps.length := dmaWF_len (qs := (dmaWF l ps d a s wt).1) (ok := (dmaWF l ps d a s wt).2) rfl
set_option maxHeartbeats 4000000 in
theorem c_impl_DecodeDesc {s : ByteArray} (hs_s : s.size ≤ 1099511627776 := by first | assumption | omega | (simp only [ByteArray.size_append, ByteArray.size_extract, strOfNums_size, List.length_cons, List.length_nil]; omega)) : Con0 Tryz.prog 76 [Z s] (.tup [.agg [V (decDF s).1.1, V (decDF s).1.2.1, V (decDF s).1.2.2.1, V (decDF s).1.2.2.2.1, V (decDF s).1.2.2.2.2.1, V (decDF s).1.2.2.2.2.2], B (decDF s).2]) [] := by
  refine con_i Tryz.func76 Tryz.ntmps76 (t := [(0, Z s)]) rfl ?_
  refine vc_sr ?_
  iterate 2 refine vo ?_
  refine vnt ?_
  refine vc_seq' ?_
  refine vc_sr ?_
  iterate 3 refine vo ?_
  refine vnt ?_
  refine vc_if (fun g1 => ?_) (fun g1 => ?_)
  · refine vc_sr ?_
    iterate 3 refine vo ?_
    refine vnt ?_
    refine vc_ret ?_
    refine thn_r ?_
    refine fin_i [] rfl (fz ?_) trivial
    rw [dec_n (.inl (by omega))]
    simp
  · refine vc_skip ?_
    refine thn ?_
    refine vc_sr ?_
    iterate 3 refine vo ?_
    refine veq (i64_byt s 0) ?_
    iterate 3 refine vo ?_
    refine veq (i64_byt s 1) ?_
    refine vo ?_
    refine voc c_impl_Get16 rfl rfl ?_
    refine vo ?_
    refine voc c_impl_Get32 rfl rfl ?_
    refine vo ?_
    refine voc c_impl_Get16 rfl rfl ?_
    refine vo ?_
    refine voc c_impl_Get16 rfl rfl ?_
    iterate 3 refine vo ?_
    refine vnt ?_
    refine vc_seq' ?_
    refine vc_sr ?_
    refine vo ?_
    refine voc c_impl_EncodeDesc rfl rfl ?_
    iterate 2 refine vo ?_
    refine vnt ?_
    refine vc_if (fun g2 => ?_) (fun g2 => ?_)
    · refine vc_sr ?_
      iterate 3 refine vo ?_
      refine vnt ?_
      refine vc_ret ?_
      refine thn_r ?_
      refine fin_i [] rfl (fz ?_) trivial
      rw [dec_n (.inr g2)]
      simp
    · refine vc_skip ?_
      refine thn ?_
      refine vc_sr ?_
      iterate 3 refine vo ?_
      refine vnt ?_
      refine vc_ret ?_
      refine fin_i [] rfl (fz ?_) trivial
      rw [dec_y (by omega) g2]
      simp [decX]
set_option maxHeartbeats 4000000 in
theorem c_spec_DecodeDesc {s : ByteArray} (hs_s : s.size ≤ 1099511627776 := by first | assumption | omega | (simp only [ByteArray.size_append, ByteArray.size_extract, strOfNums_size, List.length_cons, List.length_nil]; omega)) : Con0 Tryz.prog 62 [Z s] (.tup [.agg [V (decDF s).1.1, V (decDF s).1.2.1, V (decDF s).1.2.2.1, V (decDF s).1.2.2.2.1, V (decDF s).1.2.2.2.2.1, V (decDF s).1.2.2.2.2.2], B (decDF s).2]) [] := by
  refine con_i Tryz.func62 Tryz.ntmps62 (t := [(0, Z s)]) rfl ?_
  refine vc_sr ?_
  iterate 2 refine vo ?_
  refine vnt ?_
  refine vc_seq' ?_
  refine vc_sr ?_
  iterate 3 refine vo ?_
  refine vnt ?_
  refine vc_if (fun g1 => ?_) (fun g1 => ?_)
  · refine vc_sr ?_
    iterate 3 refine vo ?_
    refine vnt ?_
    refine vc_ret ?_
    refine thn_r ?_
    refine fin_i [] rfl (fz ?_) trivial
    rw [dec_n (.inl (by omega))]
    simp
  · refine vc_skip ?_
    refine thn ?_
    refine vc_sr ?_
    iterate 3 refine vo ?_
    refine veq (i64_byt s 0) ?_
    iterate 3 refine vo ?_
    refine veq (i64_byt s 1) ?_
    refine vo ?_
    refine voc c_spec_Get16 rfl rfl ?_
    refine vo ?_
    refine voc c_spec_Get32 rfl rfl ?_
    refine vo ?_
    refine voc c_spec_Get16 rfl rfl ?_
    refine vo ?_
    refine voc c_spec_Get16 rfl rfl ?_
    iterate 3 refine vo ?_
    refine vnt ?_
    refine vc_seq' ?_
    refine vc_sr ?_
    refine vo ?_
    refine voc c_spec_EncodeDesc rfl rfl ?_
    iterate 2 refine vo ?_
    refine vnt ?_
    refine vc_if (fun g2 => ?_) (fun g2 => ?_)
    · refine vc_sr ?_
      iterate 3 refine vo ?_
      refine vnt ?_
      refine vc_ret ?_
      refine thn_r ?_
      refine fin_i [] rfl (fz ?_) trivial
      rw [dec_n (.inr g2)]
      simp
    · refine vc_skip ?_
      refine thn ?_
      refine vc_sr ?_
      iterate 3 refine vo ?_
      refine vnt ?_
      refine vc_ret ?_
      refine fin_i [] rfl (fz ?_) trivial
      rw [dec_y (by omega) g2]
      simp [decX]
def stF (l : List Mp) (ps : Pg) (d db ds dc dm sm vl tos id ttl si di kind sp dp seq ack fl win : Int) (body : ByteArray) (size count : Int) (key entry : ByteArray) : Pg × Int × Bool :=
  if (decDF entry).2 = true ∧ (decDF entry).1.1 = 3 ∧ ¬ (decDF entry).1.2.2.1 < ((imgR dm sm vl tos id ttl si di kind sp dp seq ack fl win body).size : Int) then
    if (dmaWF l ps d (decDF entry).1.2.2.2.1 (imgR dm sm vl tos id ttl si di kind sp dp seq ack fl win body) true).2 = true then putC l (dmaWF l ps d (decDF entry).1.2.2.2.1 (imgR dm sm vl tos id ttl si di kind sp dp seq ack fl win body) true).1 d db ds dc (decDF entry).1.2.2.2.2.2 (imgR dm sm vl tos id ttl si di kind sp dp seq ack fl win body).size size count (hflF key si di sp dp) else (ps, dc, false)
  else (ps, dc, false)
theorem st_n {l : List Mp} {ps : Pg} {d db ds dc dm sm vl tos id ttl si di kind sp dp seq ack fl win size count : Int} {body key entry : ByteArray} (h : (decDF entry).2 = false ∨ ¬ (decDF entry).1.1 = 3 ∨ (decDF entry).1.2.2.1 < ((imgR dm sm vl tos id ttl si di kind sp dp seq ack fl win body).size : Int) ∨ (dmaWF l ps d (decDF entry).1.2.2.2.1 (imgR dm sm vl tos id ttl si di kind sp dp seq ack fl win body) true).2 = false) : stF l ps d db ds dc dm sm vl tos id ttl si di kind sp dp seq ack fl win body size count key entry = (ps, dc, false) := by
  unfold stF
  split
  · rename_i h1
    split
    · rename_i h2
      rcases h with h | h | h | h
      · rw [h1.1] at h; cases h
      · exact (h h1.2.1).elim
      · exact (h1.2.2 h).elim
      · rw [h2] at h; cases h
    · rfl
  · rfl
theorem st_y {l : List Mp} {ps : Pg} {d db ds dc dm sm vl tos id ttl si di kind sp dp seq ack fl win size count : Int} {body key entry : ByteArray} (h1 : (decDF entry).2 = true) (h2 : (decDF entry).1.1 = 3) (h3 : ((imgR dm sm vl tos id ttl si di kind sp dp seq ack fl win body).size : Int) ≤ (decDF entry).1.2.2.1) (h4 : (dmaWF l ps d (decDF entry).1.2.2.2.1 (imgR dm sm vl tos id ttl si di kind sp dp seq ack fl win body) true).2 = true) : stF l ps d db ds dc dm sm vl tos id ttl si di kind sp dp seq ack fl win body size count key entry = putC l (dmaWF l ps d (decDF entry).1.2.2.2.1 (imgR dm sm vl tos id ttl si di kind sp dp seq ack fl win body) true).1 d db ds dc (decDF entry).1.2.2.2.2.2 (imgR dm sm vl tos id ttl si di kind sp dp seq ack fl win body).size size count (hflF key si di sp dp) := by
  unfold stF
  rw [if_pos ⟨h1, h2, by omega⟩, if_pos h4]
set_option maxHeartbeats 4000000 in
theorem c_impl_storeHeld_n {l : List Mp} {ps : Pg} {d rb rs rh rt db ds dc vb vs vc dm sm vl tos id ttl si di kind sp dp seq ack fl win size count dropped : Int} {body key entry : ByteArray} {hold : Bool} (hl : l.length ≤ 1099511627776 := by first | assumption | omega) (hp : ps.length ≤ 1099511627776 := by first | assumption | omega) (hk : key.size = 16 := by assumption) (hsp : superOkB dm sm vl tos id ttl si di kind sp dp seq ack fl win body.size = true := by assumption) (hse : entry.size ≤ 1099511627776 := by first | assumption | omega) (hn : (stF l ps d db ds dc dm sm vl tos id ttl si di kind sp dp seq ack fl win body size count key entry).2.2 = false := by assumption) : Con0 Tryz.prog 37 [.one (.sl 4 (l.map mpE)), .agg [.sl 1 (ps.map strE)], I d, .agg [V rb, V rs, V rh, V rt, V db, V ds, V dc, V vb, V vs, V vc, V dm, V sm, V vl, V tos, V id, V ttl, V si, V di, V kind, V sp, V dp, V seq, V ack, V fl, V win, VS body, V size, V count, VB hold, V dropped], Z key, Z entry] (.tup [.agg [.junk], .agg [V db, V ds, V (stF l ps d db ds dc dm sm vl tos id ttl si di kind sp dp seq ack fl win body size count key entry).2.1], B false]) [] := by
  have hi := sup_img hsp
  have ha := dec_at entry
  have hln := dw_len l ps d (decDF entry).1.2.2.2.1 (imgR dm sm vl tos id ttl si di kind sp dp seq ack fl win body) true
  refine con_i Tryz.func37 Tryz.ntmps37 (t := [(0, .one (.sl 4 (l.map mpE))), (1, .agg [.sl 1 (ps.map strE)]), (2, I d), (3, .agg [V rb, V rs, V rh, V rt, V db, V ds, V dc, V vb, V vs, V vc, V dm, V sm, V vl, V tos, V id, V ttl, V si, V di, V kind, V sp, V dp, V seq, V ack, V fl, V win, VS body, V size, V count, VB hold, V dropped]), (4, Z key), (5, Z entry)]) rfl ?_
  refine vc_sr ?_
  iterate 5 refine vo ?_
  refine vnt ?_
  refine vc_sr ?_
  refine vo ?_
  refine voc c_impl_DecodeDesc rfl rfl ?_
  iterate 6 refine vo ?_
  refine vnt ?_
  refine vc_sr ?_
  iterate 3 refine vo ?_
  refine voc c_impl_BuildImage rfl rfl ?_
  iterate 5 refine vo ?_
  refine vnt ?_
  refine vc_seq' ?_
  refine vc_sr ?_
  iterate 3 refine vo ?_
  refine vsp (fun g1 => ?_) (fun g1 => ?_)
  · iterate 2 refine vof ?_
    iterate 2 refine vo ?_
    iterate 3 refine vof ?_
    iterate 2 refine vo ?_
    iterate 5 refine vof ?_
    refine vo ?_
    refine vnt ?_
    refine vc_then ?_
    refine vc_sr ?_
    iterate 6 refine vo ?_
    refine vnt ?_
    refine vc_ret ?_
    refine thn_r ?_
    have hst : stF l ps d db ds dc dm sm vl tos id ttl si di kind sp dp seq ack fl win body size count key entry = (ps, dc, false) := st_n (.inl g1)
    refine fin_i [] rfl (fz ?_) trivial
    simp [hst]
  · iterate 2 refine von ?_
    iterate 2 refine vo ?_
    refine vsp (fun g2 => ?_) (fun g2 => ?_)
    · rw [hi.1] at g2; cases g2
    · iterate 3 refine von ?_
      iterate 2 refine vo ?_
      refine vsp (fun g3 => ?_) (fun g3 => ?_)
      · iterate 5 refine vof ?_
        refine vo ?_
        refine vnt ?_
        refine vc_then ?_
        refine vc_sr ?_
        iterate 6 refine vo ?_
        refine vnt ?_
        refine vc_ret ?_
        refine thn_r ?_
        have hst : stF l ps d db ds dc dm sm vl tos id ttl si di kind sp dp seq ack fl win body size count key entry = (ps, dc, false) := st_n (.inr (.inl g3))
        refine fin_i [] rfl (fz ?_) trivial
        simp [hst]
      · iterate 5 refine von ?_
        refine vo ?_
        refine vnt ?_
        refine vc_if (fun g4 => ?_) (fun g4 => ?_)
        · refine vc_sr ?_
          iterate 6 refine vo ?_
          refine vnt ?_
          refine vc_ret ?_
          refine thn_r ?_
          have hst : stF l ps d db ds dc dm sm vl tos id ttl si di kind sp dp seq ack fl win body size count key entry = (ps, dc, false) := st_n (.inr (.inr (.inl g4)))
          refine fin_i [] rfl (fz ?_) trivial
          simp [hst]
        · refine vc_skip ?_
          refine thn ?_
          refine vc_sr ?_
          iterate 6 refine vo ?_
          refine voc c_impl_DmaWrite rfl rfl ?_
          iterate 6 refine vo ?_
          refine vnt ?_
          refine vc_seq' ?_
          refine vc_sr ?_
          iterate 2 refine vo ?_
          refine vnt ?_
          refine vc_if (fun g5 => ?_) (fun g5 => ?_)
          · refine vc_sr ?_
            iterate 6 refine vo ?_
            refine vnt ?_
            refine vc_ret ?_
            refine thn_r ?_
            have hst : stF l ps d db ds dc dm sm vl tos id ttl si di kind sp dp seq ack fl win body size count key entry = (ps, dc, false) := st_n (.inr (.inr (.inr g5)))
            refine fin_i [] rfl (fz ?_) trivial
            simp [hst]
          · refine vc_skip ?_
            refine thn ?_
            refine vc_sr ?_
            iterate 14 refine vo ?_
            refine voc c_impl_FlowOf rfl rfl ?_
            refine voc c_impl_HashFlow rfl rfl ?_
            iterate 3 refine vo ?_
            refine vnt ?_
            refine vc_sr ?_
            iterate 6 refine vo ?_
            refine voc c_impl_PutCompletion rfl rfl ?_
            iterate 6 refine vo ?_
            refine vnt ?_
            refine vc_ret ?_
            have hst := st_y (l := l) (ps := ps) (d := d) (db := db) (ds := ds) (dc := dc) (size := size) (count := count) (key := key) g1 g3 g4 g5
            refine fin_i [] rfl (fz ?_) trivial
            rw [hst] at hn ⊢
            simp [hn]
set_option maxHeartbeats 4000000 in
theorem c_impl_storeHeld_y {l : List Mp} {ps : Pg} {d rb rs rh rt db ds dc vb vs vc dm sm vl tos id ttl si di kind sp dp seq ack fl win size count dropped : Int} {body key entry : ByteArray} {hold : Bool} (hl : l.length ≤ 1099511627776 := by first | assumption | omega) (hp : ps.length ≤ 1099511627776 := by first | assumption | omega) (hk : key.size = 16 := by assumption) (hsp : superOkB dm sm vl tos id ttl si di kind sp dp seq ack fl win body.size = true := by assumption) (hse : entry.size ≤ 1099511627776 := by first | assumption | omega) (hy : (stF l ps d db ds dc dm sm vl tos id ttl si di kind sp dp seq ack fl win body size count key entry).2.2 = true := by assumption) : Con0 Tryz.prog 37 [.one (.sl 4 (l.map mpE)), .agg [.sl 1 (ps.map strE)], I d, .agg [V rb, V rs, V rh, V rt, V db, V ds, V dc, V vb, V vs, V vc, V dm, V sm, V vl, V tos, V id, V ttl, V si, V di, V kind, V sp, V dp, V seq, V ack, V fl, V win, VS body, V size, V count, VB hold, V dropped], Z key, Z entry] (.tup [.agg [.hs 0], .agg [V db, V ds, V (stF l ps d db ds dc dm sm vl tos id ttl si di kind sp dp seq ack fl win body size count key entry).2.1], B true]) [(0, .arr 9 1 ((stF l ps d db ds dc dm sm vl tos id ttl si di kind sp dp seq ack fl win body size count key entry).1.map strE))] := by
  have hi := sup_img hsp
  have ha := dec_at entry
  have hln := dw_len l ps d (decDF entry).1.2.2.2.1 (imgR dm sm vl tos id ttl si di kind sp dp seq ack fl win body) true
  refine con_i Tryz.func37 Tryz.ntmps37 (t := [(0, .one (.sl 4 (l.map mpE))), (1, .agg [.sl 1 (ps.map strE)]), (2, I d), (3, .agg [V rb, V rs, V rh, V rt, V db, V ds, V dc, V vb, V vs, V vc, V dm, V sm, V vl, V tos, V id, V ttl, V si, V di, V kind, V sp, V dp, V seq, V ack, V fl, V win, VS body, V size, V count, VB hold, V dropped]), (4, Z key), (5, Z entry)]) rfl ?_
  refine vc_sr ?_
  iterate 5 refine vo ?_
  refine vnt ?_
  refine vc_sr ?_
  refine vo ?_
  refine voc c_impl_DecodeDesc rfl rfl ?_
  iterate 6 refine vo ?_
  refine vnt ?_
  refine vc_sr ?_
  iterate 3 refine vo ?_
  refine voc c_impl_BuildImage rfl rfl ?_
  iterate 5 refine vo ?_
  refine vnt ?_
  refine vc_seq' ?_
  refine vc_sr ?_
  iterate 3 refine vo ?_
  refine vsp (fun g1 => ?_) (fun g1 => ?_)
  · iterate 2 refine vof ?_
    iterate 2 refine vo ?_
    iterate 3 refine vof ?_
    iterate 2 refine vo ?_
    iterate 5 refine vof ?_
    refine vo ?_
    refine vnt ?_
    refine vc_then ?_
    refine vc_sr ?_
    iterate 6 refine vo ?_
    refine vnt ?_
    refine vc_ret ?_
    refine thn_r ?_
    rw [st_n (.inl g1)] at hy
    cases hy
  · iterate 2 refine von ?_
    iterate 2 refine vo ?_
    refine vsp (fun g2 => ?_) (fun g2 => ?_)
    · rw [hi.1] at g2; cases g2
    · iterate 3 refine von ?_
      iterate 2 refine vo ?_
      refine vsp (fun g3 => ?_) (fun g3 => ?_)
      · iterate 5 refine vof ?_
        refine vo ?_
        refine vnt ?_
        refine vc_then ?_
        refine vc_sr ?_
        iterate 6 refine vo ?_
        refine vnt ?_
        refine vc_ret ?_
        refine thn_r ?_
        rw [st_n (.inr (.inl g3))] at hy
        cases hy
      · iterate 5 refine von ?_
        refine vo ?_
        refine vnt ?_
        refine vc_if (fun g4 => ?_) (fun g4 => ?_)
        · refine vc_sr ?_
          iterate 6 refine vo ?_
          refine vnt ?_
          refine vc_ret ?_
          refine thn_r ?_
          rw [st_n (.inr (.inr (.inl g4)))] at hy
          cases hy
        · refine vc_skip ?_
          refine thn ?_
          refine vc_sr ?_
          iterate 6 refine vo ?_
          refine voc c_impl_DmaWrite rfl rfl ?_
          iterate 6 refine vo ?_
          refine vnt ?_
          refine vc_seq' ?_
          refine vc_sr ?_
          iterate 2 refine vo ?_
          refine vnt ?_
          refine vc_if (fun g5 => ?_) (fun g5 => ?_)
          · refine vc_sr ?_
            iterate 6 refine vo ?_
            refine vnt ?_
            refine vc_ret ?_
            refine thn_r ?_
            rw [st_n (.inr (.inr (.inr g5)))] at hy
            cases hy
          · refine vc_skip ?_
            refine thn ?_
            refine vc_sr ?_
            iterate 14 refine vo ?_
            refine voc c_impl_FlowOf rfl rfl ?_
            refine voc c_impl_HashFlow rfl rfl ?_
            iterate 3 refine vo ?_
            refine vnt ?_
            refine vc_sr ?_
            iterate 6 refine vo ?_
            refine voc c_impl_PutCompletion rfl rfl ?_
            iterate 6 refine vo ?_
            refine vnt ?_
            refine vc_ret ?_
            have hst := st_y (l := l) (ps := ps) (d := d) (db := db) (ds := ds) (dc := dc) (size := size) (count := count) (key := key) g1 g3 g4 g5
            refine fin_i [(0, some 736)] rfl (fz ?_) (fz ?_)
            · rw [hst] at hy ⊢; simp [hy]
            · rw [hst]
set_option maxHeartbeats 4000000 in
theorem c_spec_l26Write {l : List Mp} {ps : Pg} {d rb rs rh rt db ds dc vb vs vc dm sm vl tos id ttl si di kind sp dp seq ack fl win size count dropped : Int} {body key entry : ByteArray} {hold : Bool} (hl : l.length ≤ 1099511627776 := by first | assumption | omega) (hp : ps.length ≤ 1099511627776 := by first | assumption | omega) (hk : key.size = 16 := by assumption) (hsp : superOkB dm sm vl tos id ttl si di kind sp dp seq ack fl win body.size = true := by assumption) (hse : entry.size ≤ 1099511627776 := by first | assumption | omega) : Con0 Tryz.prog 28 [.one (.sl 4 (l.map mpE)), .agg [.sl 1 (ps.map strE)], I d, .agg [V rb, V rs, V rh, V rt, V db, V ds, V dc, V vb, V vs, V vc, V dm, V sm, V vl, V tos, V id, V ttl, V si, V di, V kind, V sp, V dp, V seq, V ack, V fl, V win, VS body, V size, V count, VB hold, V dropped], Z entry, Z key] (.tup [.agg [.hs 0], .agg [V db, V ds, V (stF l ps d db ds dc dm sm vl tos id ttl si di kind sp dp seq ack fl win body size count key entry).2.1], B (stF l ps d db ds dc dm sm vl tos id ttl si di kind sp dp seq ack fl win body size count key entry).2.2]) [(0, .arr 9 1 ((stF l ps d db ds dc dm sm vl tos id ttl si di kind sp dp seq ack fl win body size count key entry).1.map strE))] := by
  have hi := sup_img hsp
  have ha := dec_at entry
  have hln := dw_len l ps d (decDF entry).1.2.2.2.1 (imgR dm sm vl tos id ttl si di kind sp dp seq ack fl win body) true
  refine con_i Tryz.func28 Tryz.ntmps28 (t := [(0, .one (.sl 4 (l.map mpE))), (1, .agg [.sl 1 (ps.map strE)]), (2, I d), (3, .agg [V rb, V rs, V rh, V rt, V db, V ds, V dc, V vb, V vs, V vc, V dm, V sm, V vl, V tos, V id, V ttl, V si, V di, V kind, V sp, V dp, V seq, V ack, V fl, V win, VS body, V size, V count, VB hold, V dropped]), (4, Z entry), (5, Z key)]) rfl ?_
  refine vc_sr ?_
  iterate 5 refine vo ?_
  refine vnt ?_
  refine vc_sr ?_
  refine vo ?_
  refine voc c_spec_DecodeDesc rfl rfl ?_
  iterate 6 refine vo ?_
  refine vnt ?_
  refine vc_sr ?_
  iterate 3 refine vo ?_
  refine voc c_spec_BuildImage rfl rfl ?_
  iterate 5 refine vo ?_
  refine vnt ?_
  refine vc_seq' ?_
  refine vc_sr ?_
  iterate 3 refine vo ?_
  refine vsp (fun g1 => ?_) (fun g1 => ?_)
  · iterate 3 refine vof ?_
    iterate 2 refine vo ?_
    iterate 5 refine vof ?_
    refine vo ?_
    refine vnt ?_
    refine vc_then ?_
    refine vc_sr ?_
    refine vo ?_
    refine voc c_spec_l16Copy rfl rfl ?_
    iterate 5 refine vo ?_
    refine vnt ?_
    refine vc_ret ?_
    refine thn_r ?_
    have hst : stF l ps d db ds dc dm sm vl tos id ttl si di kind sp dp seq ack fl win body size count key entry = (ps, dc, false) := st_n (.inl g1)
    refine fin_i [(0, some 384)] rfl (fz ?_) (fz ?_)
    · rw [hst]; simp
    · rw [hst]
  · iterate 3 refine von ?_
    iterate 2 refine vo ?_
    refine vsp (fun g2 => ?_) (fun g2 => ?_)
    · iterate 5 refine vof ?_
      refine vo ?_
      refine vnt ?_
      refine vc_then ?_
      refine vc_sr ?_
      refine vo ?_
      refine voc c_spec_l16Copy rfl rfl ?_
      iterate 5 refine vo ?_
      refine vnt ?_
      refine vc_ret ?_
      refine thn_r ?_
      have hst : stF l ps d db ds dc dm sm vl tos id ttl si di kind sp dp seq ack fl win body size count key entry = (ps, dc, false) := st_n (.inr (.inl g2))
      refine fin_i [(0, some 384)] rfl (fz ?_) (fz ?_)
      · rw [hst]; simp
      · rw [hst]
    · iterate 5 refine von ?_
      refine vo ?_
      refine vnt ?_
      refine vc_if (fun g3 => ?_) (fun g3 => ?_)
      · refine vc_sr ?_
        refine vo ?_
        refine voc c_spec_l16Copy rfl rfl ?_
        iterate 5 refine vo ?_
        refine vnt ?_
        refine vc_ret ?_
        refine thn_r ?_
        have hst : stF l ps d db ds dc dm sm vl tos id ttl si di kind sp dp seq ack fl win body size count key entry = (ps, dc, false) := st_n (.inr (.inr (.inl g3)))
        refine fin_i [(0, some 384)] rfl (fz ?_) (fz ?_)
        · rw [hst]; simp
        · rw [hst]
      · refine vc_skip ?_
        refine thn ?_
        refine vc_sr ?_
        iterate 6 refine vo ?_
        refine voc c_spec_DmaWrite rfl rfl ?_
        iterate 6 refine vo ?_
        refine vnt ?_
        refine vc_seq' ?_
        refine vc_sr ?_
        iterate 2 refine vo ?_
        refine vnt ?_
        refine vc_if (fun g4 => ?_) (fun g4 => ?_)
        · refine vc_sr ?_
          refine vo ?_
          refine voc c_spec_l16Copy rfl rfl ?_
          iterate 5 refine vo ?_
          refine vnt ?_
          refine vc_ret ?_
          refine thn_r ?_
          have hst : stF l ps d db ds dc dm sm vl tos id ttl si di kind sp dp seq ack fl win body size count key entry = (ps, dc, false) := st_n (.inr (.inr (.inr g4)))
          refine fin_i [(0, some 512)] rfl (fz ?_) (fz ?_)
          · rw [hst]; simp
          · rw [hst]
        · refine vc_skip ?_
          refine thn ?_
          refine vc_sr ?_
          iterate 19 refine vo ?_
          refine voc c_spec_FlowOf rfl rfl ?_
          refine voc c_spec_HashFlow rfl rfl ?_
          refine vo ?_
          refine voc c_spec_PutCompletion rfl rfl ?_
          iterate 6 refine vo ?_
          refine vnt ?_
          refine vc_ret ?_
          have hst := st_y (l := l) (ps := ps) (d := d) (db := db) (ds := ds) (dc := dc) (size := size) (count := count) (key := key) g1 g2 g3 g4
          refine fin_i [(0, some 712)] rfl (fz ?_) (fz ?_)
          · rw [hst]; simp
          · rw [hst]
end Go.Proofs.YtncmlleohgeofaaGreat
end
section
namespace Go.Proofs.YtncmlleohgeofaaGreat
open Go Go.RowKit Go.Vc
set_option linter.unusedVariables false
set_option linter.unusedSimpArgs false
set_option linter.unnecessarySimpa false
def fhOk (rb rs rh rt db ds dc vb vs vc dm sm vl tos id ttl si di kind sp dp seq ack fl win : Int) (body : ByteArray) (size count : Int) (hold : Bool) (dropped : Int) (key : ByteArray) : Bool := rxOkB rb rs rh rt db ds dc vb vs vc dm sm vl tos id ttl si di kind sp dp seq ack fl win body size count hold dropped && (hold && decide (key.size = 16))
def fhG (l : List Mp) (ps : Pg) (d rb rs rh rt db ds dc vb vs vc dm sm vl tos id ttl si di kind sp dp seq ack fl win : Int) (body : ByteArray) (size count : Int) (hold : Bool) (dropped : Int) (key : ByteArray) : Bool := fhOk rb rs rh rt db ds dc vb vs vc dm sm vl tos id ttl si di kind sp dp seq ack fl win body size count hold dropped key && ((rtakeF l ps d rb rs rh rt).2.2 && (stF l ps d db ds dc dm sm vl tos id ttl si di kind sp dp seq ack fl win body size count key (rtakeF l ps d rb rs rh rt).1).2.2)
def fhI (b : Bool) (x : Int) : Int := bif b then 0 else x
def fhS (b : Bool) (x : ByteArray) : ByteArray := bif b then ⟨#[]⟩ else x
def fhD (b g : Bool) (x y : Int) : Int := bif b then (bif g then x else x + y) else x
theorem rt_le (l : List Mp) (ps : Pg) (d b s h t : Int) : (rtakeF l ps d b s h t).1.size ≤ 16 := by
  rcases Bool.eq_false_or_eq_true (rtakeF l ps d b s h t).2.2 with h1 | h1
  · by_cases g1 : ringOkB b s h t = true
    · by_cases g2 : usedF s h t = 0
      · rw [rt_n (.inr (.inl g2))]; exact Nat.zero_le _
      · rcases Bool.eq_false_or_eq_true (dmaRF l ps d (rslot b s h) 16).2 with g3 | g3
        · rw [rt_y g1 g2 g3]
          have := dmaRF_size (l := l) (ps := ps) (d := d) (a := rslot b s h) (n := 16) (t := (dmaRF l ps d (rslot b s h) 16).1) (by rw [← g3])
          simp only
          omega
        · rw [rt_n (.inr (.inr g3))]; exact Nat.zero_le _
    · rw [rt_n (.inl (by simpa using g1))]; exact Nat.zero_le _
  · by_cases g1 : ringOkB b s h t = true
    · by_cases g2 : usedF s h t = 0
      · rw [rt_n (.inr (.inl g2))]; exact Nat.zero_le _
      · rcases Bool.eq_false_or_eq_true (dmaRF l ps d (rslot b s h) 16).2 with g3 | g3
        · rw [rt_y g1 g2 g3] at h1; cases h1
        · rw [rt_n (.inr (.inr g3))]; exact Nat.zero_le _
    · rw [rt_n (.inl (by simpa using g1))]; exact Nat.zero_le _
theorem rt_same {l : List Mp} {ps : Pg} {d b s h t : Int} (hh : (rtakeF l ps d b s h t).2.2 = false) : (rtakeF l ps d b s h t).2.1 = h := by
  by_cases g1 : ringOkB b s h t = true
  · by_cases g2 : usedF s h t = 0
    · rw [rt_n (.inr (.inl g2))]
    · rcases Bool.eq_false_or_eq_true (dmaRF l ps d (rslot b s h) 16).2 with g3 | g3
      · rw [rt_y g1 g2 g3] at hh; cases hh
      · rw [rt_n (.inr (.inr g3))]
  · rw [rt_n (.inl (by simpa using g1))]
theorem rx_held {rb rs rh rt db ds dc vb vs vc dm sm vl tos id ttl si di kind sp dp seq ack fl win size count dropped : Int} {body : ByteArray} {hold : Bool} (h2 : hold = true) (h : rxOkB rb rs rh rt db ds dc vb vs vc dm sm vl tos id ttl si di kind sp dp seq ack fl win body size count hold dropped = true) : superOkB dm sm vl tos id ttl si di kind sp dp seq ack fl win body.size = true ∧ (0 ≤ size ∧ size ≤ 320) ∧ (1 ≤ count ∧ count ≤ 320) ∧ 0 ≤ dropped ∧ dropped ≤ 1000000000000 := by
  subst h2
  simp only [rxOkB, if_true, Bool.and_eq_true] at h
  exact ⟨h.2.2.2.2.2.2.1, inB_iff.1 h.2.2.2.2.2.2.2.1, inB_iff.1 h.2.2.2.2.2.2.2.2, inB_iff.1 h.2.2.2.2.2.1⟩
theorem fh_no {l : List Mp} {ps : Pg} {d rb rs rh rt db ds dc vb vs vc dm sm vl tos id ttl si di kind sp dp seq ack fl win size count dropped : Int} {body key : ByteArray} {hold : Bool} (h : rxOkB rb rs rh rt db ds dc vb vs vc dm sm vl tos id ttl si di kind sp dp seq ack fl win body size count hold dropped = false ∨ hold = false ∨ ¬ key.size = 16) : fhOk rb rs rh rt db ds dc vb vs vc dm sm vl tos id ttl si di kind sp dp seq ack fl win body size count hold dropped key = false ∧ fhG l ps d rb rs rh rt db ds dc vb vs vc dm sm vl tos id ttl si di kind sp dp seq ack fl win body size count hold dropped key = false := by
  have h1 : fhOk rb rs rh rt db ds dc vb vs vc dm sm vl tos id ttl si di kind sp dp seq ack fl win body size count hold dropped key = false := by
    unfold fhOk
    rcases h with h | h | h
    · rw [h]; rfl
    · rw [h]; simp
    · rw [decide_eq_false h]; simp
  exact ⟨h1, by unfold fhG; rw [h1]; rfl⟩
theorem fh_yes {l : List Mp} {ps : Pg} {d rb rs rh rt db ds dc vb vs vc dm sm vl tos id ttl si di kind sp dp seq ack fl win size count dropped : Int} {body key : ByteArray} {hold : Bool} (h1 : rxOkB rb rs rh rt db ds dc vb vs vc dm sm vl tos id ttl si di kind sp dp seq ack fl win body size count hold dropped = true) (h2 : hold = true) (h3 : key.size = 16) : fhOk rb rs rh rt db ds dc vb vs vc dm sm vl tos id ttl si di kind sp dp seq ack fl win body size count hold dropped key = true ∧ fhG l ps d rb rs rh rt db ds dc vb vs vc dm sm vl tos id ttl si di kind sp dp seq ack fl win body size count hold dropped key = ((rtakeF l ps d rb rs rh rt).2.2 && (stF l ps d db ds dc dm sm vl tos id ttl si di kind sp dp seq ack fl win body size count key (rtakeF l ps d rb rs rh rt).1).2.2) := by
  have h : fhOk rb rs rh rt db ds dc vb vs vc dm sm vl tos id ttl si di kind sp dp seq ack fl win body size count hold dropped key = true := by unfold fhOk; rw [h1, h2, decide_eq_true h3]; rfl
  exact ⟨h, by unfold fhG; rw [h]; rfl⟩
set_option maxHeartbeats 4000000 in
theorem c_impl_FlushHeld {l : List Mp} {ps : Pg} {d rb rs rh rt db ds dc vb vs vc dm sm vl tos id ttl si di kind sp dp seq ack fl win size count dropped : Int} {body key : ByteArray} {hold : Bool} (hl : l.length ≤ 1099511627776 := by first | assumption | omega) (hp : ps.length ≤ 1099511627776 := by first | assumption | omega) (hsk : key.size ≤ 1099511627776 := by first | assumption | omega) : Con0 Tryz.prog 12 [.one (.sl 4 (l.map mpE)), .agg [.sl 1 (ps.map strE)], I d, .agg [V rb, V rs, V rh, V rt, V db, V ds, V dc, V vb, V vs, V vc, V dm, V sm, V vl, V tos, V id, V ttl, V si, V di, V kind, V sp, V dp, V seq, V ack, V fl, V win, VS body, V size, V count, VB hold, V dropped], Z key] (.tup [.agg [.hs 0], .agg [V rb, V rs, V (bif fhOk rb rs rh rt db ds dc vb vs vc dm sm vl tos id ttl si di kind sp dp seq ack fl win body size count hold dropped key then (rtakeF l ps d rb rs rh rt).2.1 else rh), V rt, V db, V ds, V (bif fhG l ps d rb rs rh rt db ds dc vb vs vc dm sm vl tos id ttl si di kind sp dp seq ack fl win body size count hold dropped key then (stF l ps d db ds dc dm sm vl tos id ttl si di kind sp dp seq ack fl win body size count key (rtakeF l ps d rb rs rh rt).1).2.1 else dc), V vb, V vs, V vc, V (fhI (fhOk rb rs rh rt db ds dc vb vs vc dm sm vl tos id ttl si di kind sp dp seq ack fl win body size count hold dropped key) dm), V (fhI (fhOk rb rs rh rt db ds dc vb vs vc dm sm vl tos id ttl si di kind sp dp seq ack fl win body size count hold dropped key) sm), V (fhI (fhOk rb rs rh rt db ds dc vb vs vc dm sm vl tos id ttl si di kind sp dp seq ack fl win body size count hold dropped key) vl), V (fhI (fhOk rb rs rh rt db ds dc vb vs vc dm sm vl tos id ttl si di kind sp dp seq ack fl win body size count hold dropped key) tos), V (fhI (fhOk rb rs rh rt db ds dc vb vs vc dm sm vl tos id ttl si di kind sp dp seq ack fl win body size count hold dropped key) id), V (fhI (fhOk rb rs rh rt db ds dc vb vs vc dm sm vl tos id ttl si di kind sp dp seq ack fl win body size count hold dropped key) ttl), V (fhI (fhOk rb rs rh rt db ds dc vb vs vc dm sm vl tos id ttl si di kind sp dp seq ack fl win body size count hold dropped key) si), V (fhI (fhOk rb rs rh rt db ds dc vb vs vc dm sm vl tos id ttl si di kind sp dp seq ack fl win body size count hold dropped key) di), V (fhI (fhOk rb rs rh rt db ds dc vb vs vc dm sm vl tos id ttl si di kind sp dp seq ack fl win body size count hold dropped key) kind), V (fhI (fhOk rb rs rh rt db ds dc vb vs vc dm sm vl tos id ttl si di kind sp dp seq ack fl win body size count hold dropped key) sp), V (fhI (fhOk rb rs rh rt db ds dc vb vs vc dm sm vl tos id ttl si di kind sp dp seq ack fl win body size count hold dropped key) dp), V (fhI (fhOk rb rs rh rt db ds dc vb vs vc dm sm vl tos id ttl si di kind sp dp seq ack fl win body size count hold dropped key) seq), V (fhI (fhOk rb rs rh rt db ds dc vb vs vc dm sm vl tos id ttl si di kind sp dp seq ack fl win body size count hold dropped key) ack), V (fhI (fhOk rb rs rh rt db ds dc vb vs vc dm sm vl tos id ttl si di kind sp dp seq ack fl win body size count hold dropped key) fl), V (fhI (fhOk rb rs rh rt db ds dc vb vs vc dm sm vl tos id ttl si di kind sp dp seq ack fl win body size count hold dropped key) win), VS (fhS (fhOk rb rs rh rt db ds dc vb vs vc dm sm vl tos id ttl si di kind sp dp seq ack fl win body size count hold dropped key) body), V (fhI (fhOk rb rs rh rt db ds dc vb vs vc dm sm vl tos id ttl si di kind sp dp seq ack fl win body size count hold dropped key) size), V (fhI (fhOk rb rs rh rt db ds dc vb vs vc dm sm vl tos id ttl si di kind sp dp seq ack fl win body size count hold dropped key) count), VB (bif fhOk rb rs rh rt db ds dc vb vs vc dm sm vl tos id ttl si di kind sp dp seq ack fl win body size count hold dropped key then false else hold), V (fhD (fhOk rb rs rh rt db ds dc vb vs vc dm sm vl tos id ttl si di kind sp dp seq ack fl win body size count hold dropped key) (fhG l ps d rb rs rh rt db ds dc vb vs vc dm sm vl tos id ttl si di kind sp dp seq ack fl win body size count hold dropped key) dropped count)]]) [(0, .arr 9 1 ((bif fhG l ps d rb rs rh rt db ds dc vb vs vc dm sm vl tos id ttl si di kind sp dp seq ack fl win body size count hold dropped key then (stF l ps d db ds dc dm sm vl tos id ttl si di kind sp dp seq ack fl win body size count key (rtakeF l ps d rb rs rh rt).1).1 else ps).map strE))] := by
  refine con_i Tryz.func12 Tryz.ntmps12 (t := [(0, .one (.sl 4 (l.map mpE))), (1, .agg [.sl 1 (ps.map strE)]), (2, I d), (3, .agg [V rb, V rs, V rh, V rt, V db, V ds, V dc, V vb, V vs, V vc, V dm, V sm, V vl, V tos, V id, V ttl, V si, V di, V kind, V sp, V dp, V seq, V ack, V fl, V win, VS body, V size, V count, VB hold, V dropped]), (4, Z key)]) rfl ?_
  refine vc_sr ?_
  iterate 4 refine vo ?_
  refine vnt ?_
  refine vc_seq' ?_
  refine vc_sr ?_
  refine vo ?_
  refine voc c_impl_RxOk rfl rfl ?_
  iterate 2 refine vo ?_
  refine vsp (fun g1 => ?_) (fun g1 => ?_)
  · iterate 3 refine vof ?_
    iterate 2 refine vo ?_
    iterate 3 refine vof ?_
    refine vo ?_
    refine vnt ?_
    refine vc_then ?_
    refine vc_sr ?_
    refine vo ?_
    refine voc c_impl_copyMemory rfl rfl ?_
    iterate 3 refine vo ?_
    refine vnt ?_
    refine vc_ret ?_
    refine thn_r ?_
    have hno : fhOk rb rs rh rt db ds dc vb vs vc dm sm vl tos id ttl si di kind sp dp seq ack fl win body size count hold dropped key = false ∧ fhG l ps d rb rs rh rt db ds dc vb vs vc dm sm vl tos id ttl si di kind sp dp seq ack fl win body size count hold dropped key = false := fh_no (.inl g1)
    obtain ⟨hok, hg⟩ := hno
    refine fin_i [(0, some 264)] rfl (fz ?_) (fz ?_)
    · simp only [hok, hg, fhI, fhS, fhD, cond_true, cond_false]; first | trivial | simp | trace_state
    · simp only [hok, hg, fhI, fhS, fhD, cond_true, cond_false]
  · iterate 3 refine von ?_
    iterate 2 refine vo ?_
    refine vsp (fun g2 => ?_) (fun g2 => ?_)
    · iterate 3 refine vof ?_
      refine vo ?_
      refine vnt ?_
      refine vc_then ?_
      refine vc_sr ?_
      refine vo ?_
      refine voc c_impl_copyMemory rfl rfl ?_
      iterate 3 refine vo ?_
      refine vnt ?_
      refine vc_ret ?_
      refine thn_r ?_
      have hno : fhOk rb rs rh rt db ds dc vb vs vc dm sm vl tos id ttl si di kind sp dp seq ack fl win body size count hold dropped key = false ∧ fhG l ps d rb rs rh rt db ds dc vb vs vc dm sm vl tos id ttl si di kind sp dp seq ack fl win body size count hold dropped key = false := fh_no (.inr (.inl g2))
      obtain ⟨hok, hg⟩ := hno
      refine fin_i [(0, some 264)] rfl (fz ?_) (fz ?_)
      · simp only [hok, hg, fhI, fhS, fhD, cond_true, cond_false]; first | trivial | simp | trace_state
      · simp only [hok, hg, fhI, fhS, fhD, cond_true, cond_false]
    · obtain ⟨hsp, hsz, hct, hdr⟩ := rx_held g2 g1
      have hen := rt_le l ps d rb rs rh rt
      iterate 3 refine von ?_
      refine vo ?_
      refine vnt ?_
      refine vc_if (fun g3 => ?_) (fun g3 => ?_)
      · refine vc_sr ?_
        refine vo ?_
        refine voc c_impl_copyMemory rfl rfl ?_
        iterate 3 refine vo ?_
        refine vnt ?_
        refine vc_ret ?_
        refine thn_r ?_
        have hno : fhOk rb rs rh rt db ds dc vb vs vc dm sm vl tos id ttl si di kind sp dp seq ack fl win body size count hold dropped key = false ∧ fhG l ps d rb rs rh rt db ds dc vb vs vc dm sm vl tos id ttl si di kind sp dp seq ack fl win body size count hold dropped key = false := fh_no (.inr (.inr (by omega)))
        obtain ⟨hok, hg⟩ := hno
        refine fin_i [(0, some 264)] rfl (fz ?_) (fz ?_)
        · simp only [hok, hg, fhI, fhS, fhD, cond_true, cond_false]; first | trivial | simp | trace_state
        · simp only [hok, hg, fhI, fhS, fhD, cond_true, cond_false]
      · have hk : key.size = 16 := by omega
        have hyy : fhOk rb rs rh rt db ds dc vb vs vc dm sm vl tos id ttl si di kind sp dp seq ack fl win body size count hold dropped key = true ∧ fhG l ps d rb rs rh rt db ds dc vb vs vc dm sm vl tos id ttl si di kind sp dp seq ack fl win body size count hold dropped key = ((rtakeF l ps d rb rs rh rt).2.2 && (stF l ps d db ds dc dm sm vl tos id ttl si di kind sp dp seq ack fl win body size count key (rtakeF l ps d rb rs rh rt).1).2.2) := fh_yes g1 g2 hk
        obtain ⟨hok, hgg⟩ := hyy
        refine vc_skip ?_
        refine thn ?_
        refine vc_sr ?_
        iterate 3 refine vo ?_
        refine vnt ?_
        refine vc_sr ?_
        iterate 3 refine vo ?_
        refine vnt ?_
        refine vc_sr ?_
        iterate 2 refine vo ?_
        refine vnt ?_
        refine vc_sr ?_
        iterate 5 refine vo ?_
        refine voc c_impl_RingTake rfl rfl ?_
        iterate 8 refine vo ?_
        refine vnt ?_
        refine vc_seq' ?_
        refine vc_sr ?_
        refine vo ?_
        refine vnt ?_
        refine vc_if (fun g4 => ?_) (fun g4 => ?_)
        · refine vc_sr ?_
          iterate 3 refine vo ?_
          refine vnt ?_
          refine vc_sr ?_
          iterate 6 refine vo ?_
          rcases Bool.eq_false_or_eq_true ((stF l ps d db ds dc dm sm vl tos id ttl si di kind sp dp seq ack fl win body size count key (rtakeF l ps d rb rs rh rt).1).2.2) with hst | hst
          · refine voc c_impl_storeHeld_y rfl rfl ?_
            iterate 9 refine vo ?_
            refine vnt ?_
            refine vc_sr ?_
            refine vo ?_
            refine vnt ?_
            refine vc_then ?_
            refine vc_sr ?_
            iterate 3 refine vo ?_
            refine vnt ?_
            refine vc_sr ?_
            iterate 4 refine vo ?_
            refine vnt ?_
            refine vc_ret ?_
            refine thn_r ?_
            have hg : fhG l ps d rb rs rh rt db ds dc vb vs vc dm sm vl tos id ttl si di kind sp dp seq ack fl win body size count hold dropped key = true := by rw [hgg, g4, hst]; rfl
            refine fin_i [(0, some 472)] rfl (fz ?_) (fz ?_)
            · simp only [hok, hg, fhI, fhS, fhD, cond_true, cond_false]; first | trivial | simp | trace_state
            · simp only [hok, hg, fhI, fhS, fhD, cond_true, cond_false]
          · refine voc c_impl_storeHeld_n rfl rfl ?_
            iterate 9 refine vo ?_
            refine vnt ?_
            refine vc_sr ?_
            refine vo ?_
            refine vnt ?_
            refine vc_else ?_
            refine vc_skip ?_
            refine thn ?_
            refine vc_sr ?_
            iterate 6 refine vo ?_
            try refine vwr ?_
            iterate 2 refine vo ?_
            refine vnt ?_
            refine vc_sr ?_
            refine vo ?_
            refine voc c_impl_copyMemory rfl rfl ?_
            iterate 3 refine vo ?_
            refine vnt ?_
            refine vc_ret ?_
            have hg : fhG l ps d rb rs rh rt db ds dc vb vs vc dm sm vl tos id ttl si di kind sp dp seq ack fl win body size count hold dropped key = false := by rw [hgg, g4, hst]; rfl
            refine fin_i [(0, some 608)] rfl (fz ?_) (fz ?_)
            · simp only [hok, hg, fhI, fhS, fhD, cond_true, cond_false]; first | trivial | simp | trace_state
            · simp only [hok, hg, fhI, fhS, fhD, cond_true, cond_false]
        · refine vc_skip ?_
          refine thn ?_
          refine vc_sr ?_
          iterate 6 refine vo ?_
          try refine vwr ?_
          iterate 2 refine vo ?_
          refine vnt ?_
          refine vc_sr ?_
          refine vo ?_
          refine voc c_impl_copyMemory rfl rfl ?_
          iterate 3 refine vo ?_
          refine vnt ?_
          refine vc_ret ?_
          have hg : fhG l ps d rb rs rh rt db ds dc vb vs vc dm sm vl tos id ttl si di kind sp dp seq ack fl win body size count hold dropped key = false := by rw [hgg, g4]; rfl
          have hrs := rt_same g4
          rw [hrs]
          refine fin_i [(0, some 608)] rfl (fz ?_) (fz ?_)
          · simp only [hok, hg, fhI, fhS, fhD, cond_true, cond_false]; first | trivial | simp | trace_state
          · simp only [hok, hg, fhI, fhS, fhD, cond_true, cond_false]
set_option maxHeartbeats 4000000 in
theorem c_spec_FlushHeld {l : List Mp} {ps : Pg} {d rb rs rh rt db ds dc vb vs vc dm sm vl tos id ttl si di kind sp dp seq ack fl win size count dropped : Int} {body key : ByteArray} {hold : Bool} (hl : l.length ≤ 1099511627776 := by first | assumption | omega) (hp : ps.length ≤ 1099511627776 := by first | assumption | omega) (hsk : key.size ≤ 1099511627776 := by first | assumption | omega) : Con0 Tryz.prog 8 [.one (.sl 4 (l.map mpE)), .agg [.sl 1 (ps.map strE)], I d, .agg [V rb, V rs, V rh, V rt, V db, V ds, V dc, V vb, V vs, V vc, V dm, V sm, V vl, V tos, V id, V ttl, V si, V di, V kind, V sp, V dp, V seq, V ack, V fl, V win, VS body, V size, V count, VB hold, V dropped], Z key] (.tup [.agg [.hs 0], .agg [V rb, V rs, V (bif fhOk rb rs rh rt db ds dc vb vs vc dm sm vl tos id ttl si di kind sp dp seq ack fl win body size count hold dropped key then (rtakeF l ps d rb rs rh rt).2.1 else rh), V rt, V db, V ds, V (bif fhG l ps d rb rs rh rt db ds dc vb vs vc dm sm vl tos id ttl si di kind sp dp seq ack fl win body size count hold dropped key then (stF l ps d db ds dc dm sm vl tos id ttl si di kind sp dp seq ack fl win body size count key (rtakeF l ps d rb rs rh rt).1).2.1 else dc), V vb, V vs, V vc, V (fhI (fhOk rb rs rh rt db ds dc vb vs vc dm sm vl tos id ttl si di kind sp dp seq ack fl win body size count hold dropped key) dm), V (fhI (fhOk rb rs rh rt db ds dc vb vs vc dm sm vl tos id ttl si di kind sp dp seq ack fl win body size count hold dropped key) sm), V (fhI (fhOk rb rs rh rt db ds dc vb vs vc dm sm vl tos id ttl si di kind sp dp seq ack fl win body size count hold dropped key) vl), V (fhI (fhOk rb rs rh rt db ds dc vb vs vc dm sm vl tos id ttl si di kind sp dp seq ack fl win body size count hold dropped key) tos), V (fhI (fhOk rb rs rh rt db ds dc vb vs vc dm sm vl tos id ttl si di kind sp dp seq ack fl win body size count hold dropped key) id), V (fhI (fhOk rb rs rh rt db ds dc vb vs vc dm sm vl tos id ttl si di kind sp dp seq ack fl win body size count hold dropped key) ttl), V (fhI (fhOk rb rs rh rt db ds dc vb vs vc dm sm vl tos id ttl si di kind sp dp seq ack fl win body size count hold dropped key) si), V (fhI (fhOk rb rs rh rt db ds dc vb vs vc dm sm vl tos id ttl si di kind sp dp seq ack fl win body size count hold dropped key) di), V (fhI (fhOk rb rs rh rt db ds dc vb vs vc dm sm vl tos id ttl si di kind sp dp seq ack fl win body size count hold dropped key) kind), V (fhI (fhOk rb rs rh rt db ds dc vb vs vc dm sm vl tos id ttl si di kind sp dp seq ack fl win body size count hold dropped key) sp), V (fhI (fhOk rb rs rh rt db ds dc vb vs vc dm sm vl tos id ttl si di kind sp dp seq ack fl win body size count hold dropped key) dp), V (fhI (fhOk rb rs rh rt db ds dc vb vs vc dm sm vl tos id ttl si di kind sp dp seq ack fl win body size count hold dropped key) seq), V (fhI (fhOk rb rs rh rt db ds dc vb vs vc dm sm vl tos id ttl si di kind sp dp seq ack fl win body size count hold dropped key) ack), V (fhI (fhOk rb rs rh rt db ds dc vb vs vc dm sm vl tos id ttl si di kind sp dp seq ack fl win body size count hold dropped key) fl), V (fhI (fhOk rb rs rh rt db ds dc vb vs vc dm sm vl tos id ttl si di kind sp dp seq ack fl win body size count hold dropped key) win), VS (fhS (fhOk rb rs rh rt db ds dc vb vs vc dm sm vl tos id ttl si di kind sp dp seq ack fl win body size count hold dropped key) body), V (fhI (fhOk rb rs rh rt db ds dc vb vs vc dm sm vl tos id ttl si di kind sp dp seq ack fl win body size count hold dropped key) size), V (fhI (fhOk rb rs rh rt db ds dc vb vs vc dm sm vl tos id ttl si di kind sp dp seq ack fl win body size count hold dropped key) count), VB (bif fhOk rb rs rh rt db ds dc vb vs vc dm sm vl tos id ttl si di kind sp dp seq ack fl win body size count hold dropped key then false else hold), V (fhD (fhOk rb rs rh rt db ds dc vb vs vc dm sm vl tos id ttl si di kind sp dp seq ack fl win body size count hold dropped key) (fhG l ps d rb rs rh rt db ds dc vb vs vc dm sm vl tos id ttl si di kind sp dp seq ack fl win body size count hold dropped key) dropped count)]]) [(0, .arr 9 1 ((bif fhG l ps d rb rs rh rt db ds dc vb vs vc dm sm vl tos id ttl si di kind sp dp seq ack fl win body size count hold dropped key then (stF l ps d db ds dc dm sm vl tos id ttl si di kind sp dp seq ack fl win body size count key (rtakeF l ps d rb rs rh rt).1).1 else ps).map strE))] := by
  refine con_i Tryz.func8 Tryz.ntmps8 (t := [(0, .one (.sl 4 (l.map mpE))), (1, .agg [.sl 1 (ps.map strE)]), (2, I d), (3, .agg [V rb, V rs, V rh, V rt, V db, V ds, V dc, V vb, V vs, V vc, V dm, V sm, V vl, V tos, V id, V ttl, V si, V di, V kind, V sp, V dp, V seq, V ack, V fl, V win, VS body, V size, V count, VB hold, V dropped]), (4, Z key)]) rfl ?_
  refine vc_sr ?_
  iterate 4 refine vo ?_
  refine vnt ?_
  refine vc_seq' ?_
  refine vc_sr ?_
  refine vo ?_
  refine voc c_spec_RxOk rfl rfl ?_
  iterate 2 refine vo ?_
  refine vsp (fun g1 => ?_) (fun g1 => ?_)
  · iterate 3 refine vof ?_
    iterate 2 refine vo ?_
    iterate 3 refine vof ?_
    refine vo ?_
    refine vnt ?_
    refine vc_then ?_
    refine vc_sr ?_
    refine vo ?_
    refine voc c_spec_l16Copy rfl rfl ?_
    iterate 3 refine vo ?_
    refine vnt ?_
    refine vc_ret ?_
    refine thn_r ?_
    have hno : fhOk rb rs rh rt db ds dc vb vs vc dm sm vl tos id ttl si di kind sp dp seq ack fl win body size count hold dropped key = false ∧ fhG l ps d rb rs rh rt db ds dc vb vs vc dm sm vl tos id ttl si di kind sp dp seq ack fl win body size count hold dropped key = false := fh_no (.inl g1)
    obtain ⟨hok, hg⟩ := hno
    refine fin_i [(0, some 256)] rfl (fz ?_) (fz ?_)
    · simp only [hok, hg, fhI, fhS, fhD, cond_true, cond_false]; first | trivial | simp | trace_state
    · simp only [hok, hg, fhI, fhS, fhD, cond_true, cond_false]
  · iterate 3 refine von ?_
    iterate 2 refine vo ?_
    refine vsp (fun g2 => ?_) (fun g2 => ?_)
    · iterate 3 refine vof ?_
      refine vo ?_
      refine vnt ?_
      refine vc_then ?_
      refine vc_sr ?_
      refine vo ?_
      refine voc c_spec_l16Copy rfl rfl ?_
      iterate 3 refine vo ?_
      refine vnt ?_
      refine vc_ret ?_
      refine thn_r ?_
      have hno : fhOk rb rs rh rt db ds dc vb vs vc dm sm vl tos id ttl si di kind sp dp seq ack fl win body size count hold dropped key = false ∧ fhG l ps d rb rs rh rt db ds dc vb vs vc dm sm vl tos id ttl si di kind sp dp seq ack fl win body size count hold dropped key = false := fh_no (.inr (.inl g2))
      obtain ⟨hok, hg⟩ := hno
      refine fin_i [(0, some 256)] rfl (fz ?_) (fz ?_)
      · simp only [hok, hg, fhI, fhS, fhD, cond_true, cond_false]; first | trivial | simp | trace_state
      · simp only [hok, hg, fhI, fhS, fhD, cond_true, cond_false]
    · obtain ⟨hsp, hsz, hct, hdr⟩ := rx_held g2 g1
      have hen := rt_le l ps d rb rs rh rt
      iterate 3 refine von ?_
      refine vo ?_
      refine vnt ?_
      refine vc_if (fun g3 => ?_) (fun g3 => ?_)
      · refine vc_sr ?_
        refine vo ?_
        refine voc c_spec_l16Copy rfl rfl ?_
        iterate 3 refine vo ?_
        refine vnt ?_
        refine vc_ret ?_
        refine thn_r ?_
        have hno : fhOk rb rs rh rt db ds dc vb vs vc dm sm vl tos id ttl si di kind sp dp seq ack fl win body size count hold dropped key = false ∧ fhG l ps d rb rs rh rt db ds dc vb vs vc dm sm vl tos id ttl si di kind sp dp seq ack fl win body size count hold dropped key = false := fh_no (.inr (.inr (by omega)))
        obtain ⟨hok, hg⟩ := hno
        refine fin_i [(0, some 256)] rfl (fz ?_) (fz ?_)
        · simp only [hok, hg, fhI, fhS, fhD, cond_true, cond_false]; first | trivial | simp | trace_state
        · simp only [hok, hg, fhI, fhS, fhD, cond_true, cond_false]
      · have hk : key.size = 16 := by omega
        have hyy : fhOk rb rs rh rt db ds dc vb vs vc dm sm vl tos id ttl si di kind sp dp seq ack fl win body size count hold dropped key = true ∧ fhG l ps d rb rs rh rt db ds dc vb vs vc dm sm vl tos id ttl si di kind sp dp seq ack fl win body size count hold dropped key = ((rtakeF l ps d rb rs rh rt).2.2 && (stF l ps d db ds dc dm sm vl tos id ttl si di kind sp dp seq ack fl win body size count key (rtakeF l ps d rb rs rh rt).1).2.2) := fh_yes g1 g2 hk
        obtain ⟨hok, hgg⟩ := hyy
        refine vc_skip ?_
        refine thn ?_
        refine vc_sr ?_
        iterate 5 refine vo ?_
        refine voc c_spec_RingTake rfl rfl ?_
        iterate 8 refine vo ?_
        refine vnt ?_
        refine vc_sr ?_
        iterate 6 refine vo ?_
        refine voc c_spec_l26Write rfl rfl ?_
        iterate 9 refine vo ?_
        refine vnt ?_
        refine vc_seq' ?_
        refine vc_sr ?_
        iterate 2 refine vo ?_
        refine vsp (fun g4 => ?_) (fun g4 => ?_)
        · refine von ?_
          refine vo ?_
          refine vnt ?_
          refine vc_if (fun g5 => ?_) (fun g5 => ?_)
          · refine vc_region ?_
            iterate 3 refine vo ?_
            refine vnt ?_
            refine vc_sr ?_
            iterate 3 refine vo ?_
            refine vnt ?_
            refine vc_sr ?_
            iterate 2 refine vo ?_
            refine vnt ?_
            refine vc_sr ?_
            iterate 3 refine vo ?_
            refine vnt ?_
            refine vc_sr ?_
            iterate 4 refine vo ?_
            refine vnt ?_
            refine vc_ret ?_
            have hg : fhG l ps d rb rs rh rt db ds dc vb vs vc dm sm vl tos id ttl si di kind sp dp seq ack fl win body size count hold dropped key = true := by rw [hgg, g4, g5]; rfl
            refine fin_i [(0, some 408)] rfl (fz ?_) (fz ?_)
            · simp only [hok, hg, fhI, fhS, fhD, cond_true, cond_false]; first | trivial | simp | trace_state
            · simp only [hok, hg, fhI, fhS, fhD, cond_true, cond_false]
          · refine vc_sr ?_
            refine vo ?_
            refine voc c_spec_l16Copy rfl rfl ?_
            refine vo ?_
            refine vnt ?_
            refine vc_region ?_
            iterate 6 refine vo ?_
            try refine vwr ?_
            iterate 2 refine vo ?_
            refine vnt ?_
            refine vc_sr ?_
            iterate 3 refine vo ?_
            refine vnt ?_
            refine vc_sr ?_
            iterate 2 refine vo ?_
            refine vnt ?_
            refine vc_sr ?_
            iterate 3 refine vo ?_
            refine vnt ?_
            refine vc_sr ?_
            iterate 4 refine vo ?_
            refine vnt ?_
            refine vc_ret ?_
            have hg : fhG l ps d rb rs rh rt db ds dc vb vs vc dm sm vl tos id ttl si di kind sp dp seq ack fl win body size count hold dropped key = false := by rw [hgg, g4, g5]; rfl
            refine fin_i [(0, some 496)] rfl (fz ?_) (fz ?_)
            · simp only [hok, hg, fhI, fhS, fhD, cond_true, cond_false]; first | trivial | simp | trace_state
            · simp only [hok, hg, fhI, fhS, fhD, cond_true, cond_false]
        · refine vof ?_
          refine vo ?_
          refine vnt ?_
          refine vc_else ?_
          refine vc_sr ?_
          refine vo ?_
          refine voc c_spec_l16Copy rfl rfl ?_
          refine vo ?_
          refine vnt ?_
          refine vc_region ?_
          iterate 6 refine vo ?_
          try refine vwr ?_
          iterate 2 refine vo ?_
          refine vnt ?_
          refine vc_sr ?_
          iterate 3 refine vo ?_
          refine vnt ?_
          refine vc_sr ?_
          iterate 2 refine vo ?_
          refine vnt ?_
          refine vc_sr ?_
          iterate 3 refine vo ?_
          refine vnt ?_
          refine vc_sr ?_
          iterate 4 refine vo ?_
          refine vnt ?_
          refine vc_ret ?_
          have hg : fhG l ps d rb rs rh rt db ds dc vb vs vc dm sm vl tos id ttl si di kind sp dp seq ack fl win body size count hold dropped key = false := by rw [hgg, g4]; rfl
          have hrs := rt_same g4
          rw [hrs]
          refine fin_i [(0, some 496)] rfl (fz ?_) (fz ?_)
          · simp only [hok, hg, fhI, fhS, fhD, cond_true, cond_false]; first | trivial | simp | trace_state
          · simp only [hok, hg, fhI, fhS, fhD, cond_true, cond_false]
end Go.Proofs.YtncmlleohgeofaaGreat
end
section
namespace Go
open Go.RowKit
set_option linter.unusedVariables false
set_option linter.unusedSimpArgs false
theorem tk {Is Js : List Asn} {A : Asn} (h : Take Is A Js := by first | ((repeat (first | (with_reducible exact Take.head) | apply Take.tail)); done) | ((repeat (first | exact Take.head | apply Take.tail)); done)) : Take Is A Js := h
theorem lit {p : Prop} (h : p := by simp only [List.drop_succ_cons, List.drop_zero, List.take_succ_cons, List.take_zero, List.take_nil]; rfl) : p := h
theorem vcs {p : Prop} (h : p := by simp only [Value.cells]; rfl) : p := h
theorem rfx {p : Prop} (h : p := by rfl) : p := h
theorem flt {p : Prop} (h : p := by simp only [Flat.cells, List.cons_append, List.nil_append]; rfl) : p := h
theorem mxl {p : Prop} (h : p := by unfold maxLen; omega) : p := h
theorem ary {Is Js : List Asn} (h : Arr Is Js := by repeat (first | exact Arr.nil | (refine Arr.cons tk ?_))) : Arr Is Js := h
theorem stw {w0 w : World} {Is Js : List Asn} (hs : St w0 w Is) (h : Arr Is Js := by repeat (first | exact Arr.nil | (with_reducible exact take_all _) | (refine Arr.cons tk ?_))) : ∃ s : StW w0 Js, w = s.1 := StW.mk' (hs.arr h)
end Go
end
section
namespace Go
open Go.RowKit
set_option linter.unusedVariables false
set_option linter.unusedSimpArgs false
end Go
end
section
namespace Go.Proofs.YtncmlleohgeofaaGreat
open Go Go.RowKit
set_option linter.unusedVariables false
set_option linter.unusedSimpArgs false
set_option linter.unusedSectionVars false
theorem ret_str {a b : ByteArray} (h : a = b) : Ending.returned (.string a) = .returned (.string b) := by rw [h]
theorem sc_int : scalarT Tryz.prog 3 := ⟨_, Tryz.underlying3, rfl⟩
theorem sz_int : (Tryz.prog.info? 3).map (·.size) = some 1 := by kernel_rfl
theorem sc_bool : scalarT Tryz.prog 4 := ⟨_, Tryz.underlying4, rfl⟩
theorem sz_bool : (Tryz.prog.info? 4).map (·.size) = some 1 := by kernel_rfl
theorem sc_string : scalarT Tryz.prog 9 := ⟨_, Tryz.underlying9, rfl⟩
theorem sz_string : (Tryz.prog.info? 9).map (·.size) = some 1 := by kernel_rfl
theorem sc_Sstring : scalarT Tryz.prog 23 := ⟨_, Tryz.underlying23, rfl⟩
theorem sz_Sstring : (Tryz.prog.info? 23).map (·.size) = some 1 := by kernel_rfl
theorem ag_impl_Mapping : aggT Tryz.prog 76 4 := ⟨⟨_, Tryz.underlying76, rfl⟩, by kernel_rfl⟩
theorem zc_impl_Mapping : zeroCells' Tryz.prog 76 = some [.int .i64 0, .int .i64 0, .int .i64 0, .bool false] := by kernel_rfl
theorem sz_impl_Mapping : (Tryz.prog.info? 76).map (·.size) = some 4 := by kernel_rfl
theorem ag_impl_Memory : aggT Tryz.prog 41 1 := ⟨⟨_, Tryz.underlying41, rfl⟩, by kernel_rfl⟩
theorem zc_impl_Memory : zeroCells' Tryz.prog 41 = some [.slice none 0 0] := by kernel_rfl
theorem sz_impl_Memory : (Tryz.prog.info? 41).map (·.size) = some 1 := by kernel_rfl
theorem ag_laws_Mapping : aggT Tryz.prog 78 4 := ⟨⟨_, Tryz.underlying78, rfl⟩, by kernel_rfl⟩
theorem in_string : infoT Tryz.prog 9 (.string ⟨#[]⟩) 1 16 := ⟨by kernel_rfl, rfl⟩
theorem in_uint8 : infoT Tryz.prog 5 (.int .u8 0) 1 1 := ⟨by kernel_rfl, rfl⟩
theorem in_impl_Mapping : infoT Tryz.prog 76 (.agg #[.int .i64 0, .int .i64 0, .int .i64 0, .bool false]) 4 32 := ⟨by kernel_rfl, rfl⟩
def RetMem (w : World) (ps : Pg) (e : Ending) (w' : World) : Prop := ∃ a c, e = .returned (.agg #[.slice a ps.length c]) ∧ Owns w.heap.size w' ps [.slice a ps.length c] ∧ Ex w w'
theorem retMem {w0 w : World} {Is Js : List Asn} {ps : Pg} {v : Value} (h : St w0 w Is) (t : Take Is (ownA ps [v]) Js) : RetMem w0 ps (.returned (.agg #[v])) w := by
  obtain ⟨a, c, rfl⟩ := ownA.form h t
  exact ⟨a, c, rfl, h.owns t, h.ex⟩
theorem _root_.Go.Holds.sizes {w : World} {ps : Pg} {vs : List Value} (h : Holds w ps vs) : ∀ p ∈ ps, p.size ≤ maxLen := fun p hp => h.flok hp
theorem _root_.Go.St.rowByt {w0 w : World} {Is Js : List Asn} {b : Nat} {cs : List Value} {T : TypeId} (h : St w0 w Is) (t : Take Is (rowA b cs T) Js) (s : ByteArray) (hc : cs = byteCells s) : St w0 w (bytA b s :: Js) := by
  subst hc
  exact (h.take t).same fun F hF => ⟨F, ⟨⟨_, _, _, hF.1, by simp [byteCells_length], fun j hj => by simp, fun j hj => frozen_row hF.1 j⟩, hF.2⟩, fun _ h => h⟩
set_option maxRecDepth 100000 in
set_option maxHeartbeats 4000000 in
theorem markText_any (K : Nat) (w : World) (h0 : 0 < K) (h1 : K ≤ 4611686018427387904) :
    Calls Tryz.prog 83 #[.int .i64 K] w fun e w' => e = .returned (.string (mtext K)) ∧ Ex w w' := by
  have hsz := dig_size K
  have hd0 : decide ((K : Int) ≤ 0) = false := decide_eq_false (by omega)
  have hd1 : decide (K = 0) = false := decide_eq_false (by omega)
  have HSZ := hid hsz
  have HS := St.start w
  go_enter Tryz.func83, Tryz.ntmps83
  go_wp2_with (first
        | ((with_reducible (show wpList _ _ _ (Oper.mk (some 12) (Op.buildSlice _ _ _) _ _ _ _ :: _) _ _)); refine wpList_bslice1_st (o := ⟨some 12, .buildSlice _ _ _, _, _, _, _⟩) rfl _ _ rfl _ Tryz.underlying147 in_uint8 (by decide) (by decide) (x := .int .u8 _) rfl vcs rfx HS ?_; clear HS; intro w12 b12 hb12 HS; replace HS := HS.rowByt tk ⟨#[B]⟩ (by simp [byteCells, hu8]))
        | ((with_reducible (show wpList _ _ _ (Oper.mk (some 12) (Op.buildSlice _ _ _) _ _ _ _ :: _) _ _)); refine wpList_bslice1_st (o := ⟨some 12, .buildSlice _ _ _, _, _, _, _⟩) rfl _ _ rfl _ Tryz.underlying147 in_uint8 (by decide) (by decide) (x := _) rfl vcs rfx HS ?_; clear HS; intro w12 b12 hb12 HS; replace HS := HS.rowByt tk ⟨#[B]⟩ (by simp [byteCells, hu8]))
        | ((with_reducible (show wpList _ _ _ (Oper.mk (some 13) (Op.convert _ _ _) _ _ _ _ :: _) _ _)); refine wpList_back_st (o := ⟨some 13, .convert _ _ _, _, _, _, _⟩) rfl _ _ _ rfl _ Tryz.underlying147 Tryz.underlying5 Tryz.underlying9 rfl HS tk rfx ?_))
  go_loopw [0, 3] (fun kv ov wr => ∃ (n : Nat) (t : ByteArray), n ≤ K ∧ dig n ++ t = dig K ∧ kv = .int .i64 n ∧ ov = .string t ∧ St w wr []) (fun kv _ _ => (intOf kv).toNat)
  case atStart => exact ⟨K, ⟨#[]⟩, Nat.le_refl _, ba_append_nil _, rfl, rfl, (HS.arr (by repeat (first | exact Arr.nil | (with_reducible exact take_all _) | (refine Arr.cons tk ?_) | (refine arr_skip ?_))))⟩
  case round =>
    clear HS
    obtain ⟨n, t, hn, ht, rfl, rfl, HS⟩ := hrel
    by_cases h0 : n = 0
    case pos =>
      subst h0
      have hts : t.size ≤ K := by have := congrArg ByteArray.size ht; rw [ByteArray.size_append] at this; omega
      rw [dig_zero, show (⟨#[]⟩ : ByteArray) ++ t = t from ByteArray.empty_append] at ht
      have HT := hid ht
      clear ht hsz
      have hl : ¬ (9223372036854775807 < 1 + t.size) := by omega
      go_wp2_with (first
            | ((with_reducible (show wpList _ _ _ (Oper.mk (some 12) (Op.buildSlice _ _ _) _ _ _ _ :: _) _ _)); refine wpList_bslice1_st (o := ⟨some 12, .buildSlice _ _ _, _, _, _, _⟩) rfl _ _ rfl _ Tryz.underlying147 in_uint8 (by decide) (by decide) (x := .int .u8 _) rfl vcs rfx HS ?_; clear HS; intro w12 b12 hb12 HS; replace HS := HS.rowByt tk ⟨#[B]⟩ (by simp [byteCells, hu8]))
            | ((with_reducible (show wpList _ _ _ (Oper.mk (some 12) (Op.buildSlice _ _ _) _ _ _ _ :: _) _ _)); refine wpList_bslice1_st (o := ⟨some 12, .buildSlice _ _ _, _, _, _, _⟩) rfl _ _ rfl _ Tryz.underlying147 in_uint8 (by decide) (by decide) (x := _) rfl vcs rfx HS ?_; clear HS; intro w12 b12 hb12 HS; replace HS := HS.rowByt tk ⟨#[B]⟩ (by simp [byteCells, hu8]))
            | ((with_reducible (show wpList _ _ _ (Oper.mk (some 13) (Op.convert _ _ _) _ _ _ _ :: _) _ _)); refine wpList_back_st (o := ⟨some 13, .convert _ _ _, _, _, _, _⟩) rfl _ _ _ rfl _ Tryz.underlying147 Tryz.underlying5 Tryz.underlying9 rfl HS tk rfx ?_))
      go_ret
      exact ⟨ret_str (by rw [HT.out]; rfl), HS.ex⟩
    case neg =>
      have hn0 : 0 < n := by omega
      have hts : t.size + 1 ≤ K := by
        have h1 := congrArg ByteArray.size ht
        rw [ByteArray.size_append, dig_pos hn0, ByteArray.size_append] at h1
        have h2 : (⟨#[UInt8.ofNat (48 + n % 10)]⟩ : ByteArray).size = 1 := rfl
        omega
      rw [dig_pos hn0, ByteArray.append_assoc] at ht
      have hu8 : (UInt8.ofNat (48 + n % 10)).toNat = 48 + n % 10 := by rw [UInt8.toNat_ofNat']; omega
      generalize UInt8.ofNat (48 + n % 10) = B at *
      have q1 : (n : Int).tmod 10 = ((n % 10 : Nat) : Int) := by rw [Int.tmod_eq_emod_of_nonneg (by omega)]; omega
      have q2 : (n : Int).tdiv 10 = ((n / 10 : Nat) : Int) := by rw [Int.tdiv_eq_ediv_of_nonneg (by omega)]; omega
      have hm9 : n % 10 ≤ 9 := by omega
      have HT := hid ht
      clear ht hsz h0
      go_wp2_with (first
            | ((with_reducible (show wpList _ _ _ (Oper.mk (some 12) (Op.buildSlice _ _ _) _ _ _ _ :: _) _ _)); refine wpList_bslice1_st (o := ⟨some 12, .buildSlice _ _ _, _, _, _, _⟩) rfl _ _ rfl _ Tryz.underlying147 in_uint8 (by decide) (by decide) (x := .int .u8 _) rfl vcs rfx HS ?_; clear HS; intro w12 b12 hb12 HS; replace HS := HS.rowByt tk ⟨#[B]⟩ (by simp [byteCells, hu8]))
            | ((with_reducible (show wpList _ _ _ (Oper.mk (some 12) (Op.buildSlice _ _ _) _ _ _ _ :: _) _ _)); refine wpList_bslice1_st (o := ⟨some 12, .buildSlice _ _ _, _, _, _, _⟩) rfl _ _ rfl _ Tryz.underlying147 in_uint8 (by decide) (by decide) (x := _) rfl vcs rfx HS ?_; clear HS; intro w12 b12 hb12 HS; replace HS := HS.rowByt tk ⟨#[B]⟩ (by simp [byteCells, hu8]))
            | ((with_reducible (show wpList _ _ _ (Oper.mk (some 13) (Op.convert _ _ _) _ _ _ _ :: _) _ _)); refine wpList_back_st (o := ⟨some 13, .convert _ _ _, _, _, _, _⟩) rfl _ _ _ rfl _ Tryz.underlying147 Tryz.underlying5 Tryz.underlying9 rfl HS tk rfx ?_))
      go_roundw
      case rel => exact ⟨n / 10, _, by omega, HT.out, rfl, rfl, (HS.arr (by repeat (first | exact Arr.nil | (with_reducible exact take_all _) | (refine Arr.cons tk ?_) | (refine arr_skip ?_))))⟩
      case measure => simp [intOf]; omega
theorem mtexts_step {ps : Pg} {K i : Nat} (h : i < ps.length) : (mtexts i K ++ ps.drop i).set i (mtext (K + i)) = mtexts (i + 1) K ++ ps.drop (i + 1) := by
  rw [List.set_append_right _ _ (by rw [mtexts_length]; exact Nat.le_refl _), mtexts_length, Nat.sub_self, List.drop_eq_getElem_cons h, List.set_cons_zero]
  unfold mtexts
  rw [List.range_succ, List.map_append, List.append_assoc]
  rfl
def totS (ps : Pg) : Nat := (ps.map (·.size)).sum
theorem totS_take (ps : Pg) (k : Nat) (h : k < ps.length) : totS (ps.take (k + 1)) = totS (ps.take k) + ps[k].size := by
  unfold totS; rw [List.take_succ_eq_append_getElem h, List.map_append, List.sum_append, List.map_singleton, List.sum_singleton]
theorem totS_take_le (ps : Pg) (k : Nat) : totS (ps.take k) ≤ totS ps := by
  have := congrArg totS (List.take_append_drop k ps)
  unfold totS at this ⊢
  rw [List.map_append, List.sum_append] at this; omega
theorem totS_all (ps : Pg) : totS (ps.take ps.length) = totS ps := by rw [List.take_length]
theorem nil_ok : Flat.ok (⟨#[]⟩ : ByteArray) := Nat.zero_le _
set_option maxRecDepth 100000 in
set_option maxHeartbeats 4000000 in
theorem toStringS_any (v : Value) (ps : Pg) (w : World) (k1 : Holds w ps [v]) (hl : ps.length ≤ 1099511627776) :
    Calls Tryz.prog 30 #[v] w (RetSl w ps) := by
  obtain ⟨AA, cap, rfl, z1, z2⟩ := k1.fl
  unfold maxLen at z2
  have HS := St.start w
  go_enter Tryz.func30, Tryz.ntmps30
  go_wp2_with (first
        | ((with_reducible (show wpList _ _ _ (Oper.mk (some 7) (Op.makeSlice _ _ _) _ _ _ _ :: _) _ _)); refine wpList_makeF_st (y0 := (⟨#[]⟩ : ByteArray)) (o := ⟨some 7, .makeSlice _ _ _, _, _, _, _⟩) rfl _ _ _ rfl _ Tryz.underlying23 in_string (n := ps.length) rfl rfl rfl rfx nil_ok (by omega) mxl HS ?_; clear HS; intro w7 b7 hb7 HS)
        | ((with_reducible (show wpList _ _ _ (Oper.mk (some 19) (Op.load _ _) _ _ _ _ :: _) _ _)); refine wpList_loadHF (o := ⟨some 19, .load _ _, _, _, _, _⟩) rfl _ _ rfl rfl HS (fun _ hs => k1.ex hs.ex) HK.out 1 0 (by first | rfl | (simp; done) | omega) rfl (by decide) sc_string flt ?_)
        | ((with_reducible (show wpList _ _ _ (Oper.mk none (Op.store _ (.tmp 20) _) _ _ _ _ :: _) _ _)); refine wpList_storeE_st (o := ⟨none, .store _ (.tmp 20) _, _, _, _, _⟩) rfl _ _ _ rfl rfl (v := .string _) rfl HS tk sz_string 1 0 rfl (by first | rfl | (simp; done) | omega) hfl vcs rfx rfx HKF.out (el := x) HOK.out rfx (by simp) ?_ rfl; clear HS; intro w5_7 hz5_7 HS))
  rw [← fillL_zero ps ⟨#[]⟩] at HS
  go_loopw [4] (fun i wr => ∃ k : Nat, k ≤ ps.length ∧ i = .int .i64 k ∧ St w wr [ownA (fillL ps ⟨#[]⟩ k) [.slice (some ⟨b7, 0, none⟩) ps.length ps.length]]) (fun i _ => ps.length - (intOf i).toNat)
  case atStart => exact ⟨0, Nat.zero_le _, rfl, HS⟩
  case round =>
    clear HS
    obtain ⟨k, hkl, rfl, HS⟩ := hrel
    by_cases hlt : k < ps.length
    case pos =>
      obtain ⟨b, off, rfl⟩ := k1.flA (by omega)
      have hfl : k < (fillL ps (⟨#[]⟩ : ByteArray) k).length := by rw [fillL_length _ _ hkl]; exact hlt
      have HST := hid (fillL_set ps (⟨#[]⟩ : ByteArray) hlt)
      have HKF := hid (fillL_get ps (⟨#[]⟩ : ByteArray) hlt)
      have HOK : Hid (Flat.ok ps[k]) := hid (k1.sizes _ (List.getElem_mem hlt))
      have HK := hid (List.getElem?_eq_getElem hlt)
      generalize ps[k] = x at *
      go_wp2_with (first
            | ((with_reducible (show wpList _ _ _ (Oper.mk (some 7) (Op.makeSlice _ _ _) _ _ _ _ :: _) _ _)); refine wpList_makeF_st (y0 := (⟨#[]⟩ : ByteArray)) (o := ⟨some 7, .makeSlice _ _ _, _, _, _, _⟩) rfl _ _ _ rfl _ Tryz.underlying23 in_string (n := ps.length) rfl rfl rfl rfx nil_ok (by omega) mxl HS ?_; clear HS; intro w7 b7 hb7 HS)
            | ((with_reducible (show wpList _ _ _ (Oper.mk (some 19) (Op.load _ _) _ _ _ _ :: _) _ _)); refine wpList_loadHF (o := ⟨some 19, .load _ _, _, _, _, _⟩) rfl _ _ rfl rfl HS (fun _ hs => k1.ex hs.ex) HK.out 1 0 (by first | rfl | (simp; done) | omega) rfl (by decide) sc_string flt ?_)
            | ((with_reducible (show wpList _ _ _ (Oper.mk none (Op.store _ (.tmp 20) _) _ _ _ _ :: _) _ _)); refine wpList_storeE_st (o := ⟨none, .store _ (.tmp 20) _, _, _, _, _⟩) rfl _ _ _ rfl rfl (v := .string _) rfl HS tk sz_string 1 0 rfl (by first | rfl | (simp; done) | omega) hfl vcs rfx rfx HKF.out (el := x) HOK.out rfx (by simp) ?_ rfl; clear HS; intro w5_7 hz5_7 HS))
      rw [HST.out] at HS
      go_roundw
      case rel => exact ⟨k + 1, hlt, by go_num, HS⟩
      case measure => simp [intOf]; omega
    case neg =>
      obtain rfl : k = ps.length := by omega
      rw [fillL_all] at HS
      go_wp2_with (first
            | ((with_reducible (show wpList _ _ _ (Oper.mk (some 7) (Op.makeSlice _ _ _) _ _ _ _ :: _) _ _)); refine wpList_makeF_st (y0 := (⟨#[]⟩ : ByteArray)) (o := ⟨some 7, .makeSlice _ _ _, _, _, _, _⟩) rfl _ _ _ rfl _ Tryz.underlying23 in_string (n := ps.length) rfl rfl rfl rfx nil_ok (by omega) mxl HS ?_; clear HS; intro w7 b7 hb7 HS)
            | ((with_reducible (show wpList _ _ _ (Oper.mk (some 19) (Op.load _ _) _ _ _ _ :: _) _ _)); refine wpList_loadHF (o := ⟨some 19, .load _ _, _, _, _, _⟩) rfl _ _ rfl rfl HS (fun _ hs => k1.ex hs.ex) HK.out 1 0 (by first | rfl | (simp; done) | omega) rfl (by decide) sc_string flt ?_)
            | ((with_reducible (show wpList _ _ _ (Oper.mk none (Op.store _ (.tmp 20) _) _ _ _ _ :: _) _ _)); refine wpList_storeE_st (o := ⟨none, .store _ (.tmp 20) _, _, _, _, _⟩) rfl _ _ _ rfl rfl (v := .string _) rfl HS tk sz_string 1 0 rfl (by first | rfl | (simp; done) | omega) hfl vcs rfx rfx HKF.out (el := x) HOK.out rfx (by simp) ?_ rfl; clear HS; intro w5_7 hz5_7 HS))
      go_ret
      exact HS.ret tk
set_option maxRecDepth 100000 in
set_option maxHeartbeats 4000000 in
theorem toMemory_any (v : Value) (ps : Pg) (w : World) (k1 : Holds w ps [v]) (hl : ps.length ≤ 1099511627776) :
    Calls Tryz.prog 10 #[.agg #[v]] w (RetMem w ps) := by
  obtain ⟨AA, cap, rfl, z1, z2⟩ := k1.fl
  unfold maxLen at z2
  have HS := St.start w
  go_enter Tryz.func10, Tryz.ntmps10
  go_wp2_with (first
        | (go_at_call 30; (with_reducible refine (toStringS_any _ ps _ (k1.ex HS.ex) hl).mono ?_); rintro e w' ⟨a1, c1, rfl, ho, hx⟩; replace HS := HS.own ho hx; clear ho hx)
        | ((with_reducible (show wpList _ _ _ (Oper.mk (some 1) (Op.box _ _) _ _ _ _ :: _) _ _)); refine wpList_box_st (o := ⟨some 1, .box _ _, _, _, _, _⟩) rfl _ _ rfl (v := .agg (List.toArray _)) rfl HS ?_; clear HS; intro w1 b1 hb1 HS; simp only [Value.cells] at HS)
        | ((with_reducible (show wpList _ _ _ (Oper.mk (some 1) (Op.box _ _) _ _ _ _ :: _) _ _)); refine wpList_box_st (o := ⟨some 1, .box _ _, _, _, _, _⟩) rfl _ _ rfl (v := .agg _) rfl HS ?_; clear HS; intro w1 b1 hb1 HS; simp only [Value.cells] at HS)
        | ((with_reducible (show wpList _ _ _ (Oper.mk (some 2) (Op.alloc _) _ _ _ _ :: _) _ _)); refine wpList_alloc_st (o := ⟨some 2, .alloc _, _, _, _, _⟩) rfl _ rfl zc_impl_Memory HS ?_; clear HS; intro w2 b2 hb2 HS)
        | ((with_reducible (show wpList _ _ _ (Oper.mk (some 3) (Op.alloc _) _ _ _ _ :: _) _ _)); refine wpList_alloc_st (o := ⟨some 3, .alloc _, _, _, _, _⟩) rfl _ rfl zc_impl_Memory HS ?_; clear HS; intro w3 b3 hb3 HS)
        | ((with_reducible (show wpList _ _ _ (Oper.mk (some 5) (Op.load _ _) _ _ _ _ :: _) _ _)); refine wpList_loadS_st (o := ⟨some 5, .load _ _, _, _, _, _⟩) rfl _ _ rfl rfl HS tk sc_Sstring rfx ?_)
        | ((with_reducible (show wpList _ _ _ (Oper.mk none (Op.store _ (.tmp 7) _) _ _ _ _ :: _) _ _)); refine wpList_store_st (o := ⟨none, .store _ (.tmp 7) _, _, _, _, _⟩) rfl _ _ _ rfl rfl (v := .slice _ _ _) rfl HS tk sz_Sstring vcs rfx rfx (by simp) ?_ rfl; clear HS; intro w2_4 hz2_4 HS; simp only [nicL, Value.cells, List.append_nil] at HS)
        | ((with_reducible (show wpList _ _ _ (Oper.mk (some 8) (Op.load _ _) _ _ _ _ :: _) _ _)); refine wpList_loadA_st (o := ⟨some 8, .load _ _, _, _, _, _⟩) rfl _ _ rfl rfl HS tk ag_impl_Memory lit rfl ?_)
        | ((with_reducible (show wpList _ _ _ (Oper.mk none (Op.store _ (.tmp 2) _) _ _ _ _ :: _) _ _)); refine wpList_store_st (o := ⟨none, .store _ (.tmp 2) _, _, _, _, _⟩) rfl _ _ _ rfl rfl (v := .agg (List.toArray _)) rfl HS tk sz_impl_Memory vcs rfx rfx (by simp) ?_ rfl; clear HS; intro w3_1 hz3_1 HS; simp only [nicL, Value.cells, List.append_nil] at HS)
        | ((with_reducible (show wpList _ _ _ (Oper.mk none (Op.store _ (.tmp 2) _) _ _ _ _ :: _) _ _)); refine wpList_store_st (o := ⟨none, .store _ (.tmp 2) _, _, _, _, _⟩) rfl _ _ _ rfl rfl (v := .agg _) rfl HS tk sz_impl_Memory vcs rfx rfx (by simp) ?_ rfl; clear HS; intro w3_1 hz3_1 HS; simp only [nicL, Value.cells, List.append_nil] at HS))
  refine bodyPost_retc rfx rfx HS tk ag_impl_Memory rfx rfx ?_
  exact retMem HS tk
set_option maxRecDepth 100000 in
set_option maxHeartbeats 4000000 in
theorem szStringS_le (v : Value) (ps : Pg) (l : Int) (w : World) (k1 : Holds w ps [v]) (hl : l ≤ 1048576) (hs : ((ps.length + totS ps : Nat) : Int) ≤ l) :
    Calls Tryz.prog 23 #[v, .int .i64 l] w fun e w' => e = .returned (.int .i64 (l - ((ps.length + totS ps : Nat) : Int))) ∧ Ex w w' := by
  obtain ⟨AA, cap, rfl, z1, z2⟩ := k1.fl
  unfold maxLen at z2
  have HS := St.start w
  go_enter Tryz.func23, Tryz.ntmps23
  go_wp2_with (first
        | ((with_reducible (show wpList _ _ _ (Oper.mk (some 22) (Op.load _ _) _ _ _ _ :: _) _ _)); refine wpList_loadHF (o := ⟨some 22, .load _ _, _, _, _, _⟩) rfl _ _ rfl rfl HS (fun _ hs => k1.ex hs.ex) HK.out 1 0 (by first | rfl | (simp; done) | omega) rfl (by decide) sc_string flt ?_))
  go_loopw [1, 5] (fun lv i wr => ∃ k : Nat, k ≤ ps.length ∧ lv = .int .i64 (l - ((ps.length + totS (ps.take k) : Nat) : Int)) ∧ i = .int .i64 k ∧ St w wr []) (fun _ i _ => ps.length - (intOf i).toNat)
  case atStart => exact ⟨0, Nat.zero_le _, by simp [totS], rfl, (HS.arr (by repeat (first | exact Arr.nil | (with_reducible exact take_all _) | (refine Arr.cons tk ?_) | (refine arr_skip ?_))))⟩
  case round =>
    clear HS
    obtain ⟨k, hkl, rfl, rfl, HS⟩ := hrel
    by_cases hlt : k < ps.length
    case pos =>
      obtain ⟨b, off, rfl⟩ := k1.flA (by omega)
      have ht := totS_take ps k hlt
      have ht2 := totS_take_le ps (k + 1)
      have hxm := k1.sizes _ (List.getElem_mem hlt)
      unfold maxLen at hxm
      have HK := hid (List.getElem?_eq_getElem hlt)
      generalize ps[k] = x at *
      rw [ht] at ht2
      have HT := hid ht
      generalize totS (ps.take k) = T at *
      generalize totS ps = TT at *
      clear ht
      go_wp2_with (first
            | ((with_reducible (show wpList _ _ _ (Oper.mk (some 22) (Op.load _ _) _ _ _ _ :: _) _ _)); refine wpList_loadHF (o := ⟨some 22, .load _ _, _, _, _, _⟩) rfl _ _ rfl rfl HS (fun _ hs => k1.ex hs.ex) HK.out 1 0 (by first | rfl | (simp; done) | omega) rfl (by decide) sc_string flt ?_))
      go_roundw
      case rel => exact ⟨k + 1, hlt, by rw [HT.out]; congr 1; omega, by go_num, (HS.arr (by repeat (first | exact Arr.nil | (with_reducible exact take_all _) | (refine Arr.cons tk ?_) | (refine arr_skip ?_))))⟩
      case measure => simp [intOf]; omega
    case neg =>
      obtain rfl : k = ps.length := by omega
      rw [totS_all] at *
      go_wp2_with (first
            | ((with_reducible (show wpList _ _ _ (Oper.mk (some 22) (Op.load _ _) _ _ _ _ :: _) _ _)); refine wpList_loadHF (o := ⟨some 22, .load _ _, _, _, _, _⟩) rfl _ _ rfl rfl HS (fun _ hs => k1.ex hs.ex) HK.out 1 0 (by first | rfl | (simp; done) | omega) rfl (by decide) sc_string flt ?_))
      go_ret
      exact ⟨rfl, HS.ex⟩
set_option maxRecDepth 100000 in
set_option maxHeartbeats 4000000 in
theorem szStringS_gt (v : Value) (ps : Pg) (l : Int) (w : World) (k1 : Holds w ps [v]) (hl : l ≤ 1048576) (h0 : 0 ≤ l) (hs : l < ((ps.length + totS ps : Nat) : Int)) :
    Calls Tryz.prog 23 #[v, .int .i64 l] w fun e w' => e = .returned (.int .i64 (-1)) ∧ Ex w w' := by
  obtain ⟨AA, cap, rfl, z1, z2⟩ := k1.fl
  unfold maxLen at z2
  by_cases hfirst : l < ps.length
  case pos =>
    have HS := St.start w
    go_enter Tryz.func23, Tryz.ntmps23
    go_wp2_with (first
          | ((with_reducible (show wpList _ _ _ (Oper.mk (some 22) (Op.load _ _) _ _ _ _ :: _) _ _)); refine wpList_loadHF (o := ⟨some 22, .load _ _, _, _, _, _⟩) rfl _ _ rfl rfl HS (fun _ hs => k1.ex hs.ex) HK.out 1 0 (by first | rfl | (simp; done) | omega) rfl (by decide) sc_string flt ?_))
    go_ret
    exact ⟨rfl, HS.ex⟩
  case neg =>
  have HS := St.start w
  go_enter Tryz.func23, Tryz.ntmps23
  go_wp2_with (first
        | ((with_reducible (show wpList _ _ _ (Oper.mk (some 22) (Op.load _ _) _ _ _ _ :: _) _ _)); refine wpList_loadHF (o := ⟨some 22, .load _ _, _, _, _, _⟩) rfl _ _ rfl rfl HS (fun _ hs => k1.ex hs.ex) HK.out 1 0 (by first | rfl | (simp; done) | omega) rfl (by decide) sc_string flt ?_))
  go_loopw [1, 5] (fun lv i wr => ∃ k : Nat, k ≤ ps.length ∧ ((ps.length + totS (ps.take k) : Nat) : Int) ≤ l ∧ lv = .int .i64 (l - ((ps.length + totS (ps.take k) : Nat) : Int)) ∧ i = .int .i64 k ∧ St w wr []) (fun _ i _ => ps.length - (intOf i).toNat)
  case atStart => exact ⟨0, Nat.zero_le _, by simp [totS]; omega, by simp [totS], rfl, (HS.arr (by repeat (first | exact Arr.nil | (with_reducible exact take_all _) | (refine Arr.cons tk ?_) | (refine arr_skip ?_))))⟩
  case round =>
    clear HS
    obtain ⟨k, hkl, hle, rfl, rfl, HS⟩ := hrel
    by_cases hlt : k < ps.length
    case pos =>
      obtain ⟨b, off, rfl⟩ := k1.flA (by omega)
      have ht := totS_take ps k hlt
      have ht2 := totS_take_le ps (k + 1)
      have hxm := k1.sizes _ (List.getElem_mem hlt)
      unfold maxLen at hxm
      have HK := hid (List.getElem?_eq_getElem hlt)
      generalize ps[k] = x at *
      rw [ht] at ht2
      have HT := hid ht
      generalize totS (ps.take k) = T at *
      generalize totS ps = TT at *
      clear ht
      by_cases hov : l < ((ps.length + (T + x.size) : Nat) : Int)
      case pos =>
        go_wp2_with (first
              | ((with_reducible (show wpList _ _ _ (Oper.mk (some 22) (Op.load _ _) _ _ _ _ :: _) _ _)); refine wpList_loadHF (o := ⟨some 22, .load _ _, _, _, _, _⟩) rfl _ _ rfl rfl HS (fun _ hs => k1.ex hs.ex) HK.out 1 0 (by first | rfl | (simp; done) | omega) rfl (by decide) sc_string flt ?_))
        go_ret
        exact ⟨rfl, HS.ex⟩
      case neg =>
        go_wp2_with (first
              | ((with_reducible (show wpList _ _ _ (Oper.mk (some 22) (Op.load _ _) _ _ _ _ :: _) _ _)); refine wpList_loadHF (o := ⟨some 22, .load _ _, _, _, _, _⟩) rfl _ _ rfl rfl HS (fun _ hs => k1.ex hs.ex) HK.out 1 0 (by first | rfl | (simp; done) | omega) rfl (by decide) sc_string flt ?_))
        go_roundw
        case rel => exact ⟨k + 1, hlt, by rw [HT.out]; omega, by rw [HT.out]; congr 1; omega, by go_num, (HS.arr (by repeat (first | exact Arr.nil | (with_reducible exact take_all _) | (refine Arr.cons tk ?_) | (refine arr_skip ?_))))⟩
        case measure => simp [intOf]; omega
    case neg =>
      obtain rfl : k = ps.length := by omega
      rw [totS_all] at hle; omega
set_option maxRecDepth 100000 in
set_option maxHeartbeats 4000000 in
theorem szMemory_le (v : Value) (ps : Pg) (l : Int) (w : World) (k1 : Holds w ps [v]) (hl : l ≤ 1048576) (hs : ((ps.length + totS ps : Nat) : Int) ≤ l) :
    Calls Tryz.prog 6 #[.agg #[v], .int .i64 l] w fun e w' => e = .returned (.int .i64 (l - ((ps.length + totS ps : Nat) : Int))) ∧ Ex w w' := by
  obtain ⟨AA, cap, rfl, z1, z2⟩ := k1.fl
  unfold maxLen at z2
  have HS := St.start w
  go_enter Tryz.func6, Tryz.ntmps6
  go_wp2_with (first
        | (go_at_call 23; (with_reducible refine (szStringS_le _ ps l _ (k1.ex HS.ex) hl hs).mono ?_); rintro e w' ⟨rfl, hx⟩; replace HS := HS.grow hx; clear hx)
        | ((with_reducible (show wpList _ _ _ (Oper.mk (some 2) (Op.box _ _) _ _ _ _ :: _) _ _)); refine wpList_box_st (o := ⟨some 2, .box _ _, _, _, _, _⟩) rfl _ _ rfl (v := .agg (List.toArray _)) rfl HS ?_; clear HS; intro w2 b2 hb2 HS; simp only [Value.cells] at HS)
        | ((with_reducible (show wpList _ _ _ (Oper.mk (some 2) (Op.box _ _) _ _ _ _ :: _) _ _)); refine wpList_box_st (o := ⟨some 2, .box _ _, _, _, _, _⟩) rfl _ _ rfl (v := .agg _) rfl HS ?_; clear HS; intro w2 b2 hb2 HS; simp only [Value.cells] at HS)
        | ((with_reducible (show wpList _ _ _ (Oper.mk (some 6) (Op.load _ _) _ _ _ _ :: _) _ _)); refine wpList_loadS_st (o := ⟨some 6, .load _ _, _, _, _, _⟩) rfl _ _ rfl rfl HS tk sc_Sstring rfx ?_))
  go_ret
  exact ⟨rfl, HS.ex⟩
set_option maxRecDepth 100000 in
set_option maxHeartbeats 4000000 in
theorem szMemory_gt (v : Value) (ps : Pg) (l : Int) (w : World) (k1 : Holds w ps [v]) (hl : l ≤ 1048576) (h0 : 0 ≤ l) (hs : l < ((ps.length + totS ps : Nat) : Int)) :
    Calls Tryz.prog 6 #[.agg #[v], .int .i64 l] w fun e w' => e = .returned (.int .i64 (-1)) ∧ Ex w w' := by
  obtain ⟨AA, cap, rfl, z1, z2⟩ := k1.fl
  unfold maxLen at z2
  have HS := St.start w
  go_enter Tryz.func6, Tryz.ntmps6
  go_wp2_with (first
        | (go_at_call 23; (with_reducible refine (szStringS_gt _ ps l _ (k1.ex HS.ex) hl h0 hs).mono ?_); rintro e w' ⟨rfl, hx⟩; replace HS := HS.grow hx; clear hx)
        | ((with_reducible (show wpList _ _ _ (Oper.mk (some 2) (Op.box _ _) _ _ _ _ :: _) _ _)); refine wpList_box_st (o := ⟨some 2, .box _ _, _, _, _, _⟩) rfl _ _ rfl (v := .agg (List.toArray _)) rfl HS ?_; clear HS; intro w2 b2 hb2 HS; simp only [Value.cells] at HS)
        | ((with_reducible (show wpList _ _ _ (Oper.mk (some 2) (Op.box _ _) _ _ _ _ :: _) _ _)); refine wpList_box_st (o := ⟨some 2, .box _ _, _, _, _, _⟩) rfl _ _ rfl (v := .agg _) rfl HS ?_; clear HS; intro w2 b2 hb2 HS; simp only [Value.cells] at HS)
        | ((with_reducible (show wpList _ _ _ (Oper.mk (some 6) (Op.load _ _) _ _ _ _ :: _) _ _)); refine wpList_loadS_st (o := ⟨some 6, .load _ _, _, _, _, _⟩) rfl _ _ rfl rfl HS tk sc_Sstring rfx ?_))
  go_ret
  exact ⟨rfl, HS.ex⟩
set_option maxRecDepth 100000 in
set_option maxHeartbeats 4000000 in
theorem eqStringS_same (v1 v2 : Value) (ps : Pg) (w : World) (k1 : Holds w ps [v1]) (k2 : Holds w ps [v2]) :
    Calls Tryz.prog 38 #[v1, v2] w fun e w' => e = .returned (.bool true) ∧ Ex w w' := by
  obtain ⟨AA, cap, rfl, z1, z2⟩ := k1.fl
  unfold maxLen at z2
  obtain ⟨BB, cap2, rfl, y1, y2⟩ := k2.fl
  unfold maxLen at y2
  have HS := St.start w
  go_enter Tryz.func38, Tryz.ntmps38
  go_wp2
  go_loopw [5] (fun i wr => ∃ k : Nat, k ≤ ps.length ∧ i = .int .i64 k ∧ St w wr []) (fun i _ => ps.length - (intOf i).toNat)
  case atStart => exact ⟨0, Nat.zero_le _, rfl, (HS.arr (by repeat (first | exact Arr.nil | (with_reducible exact take_all _) | (refine Arr.cons tk ?_) | (refine arr_skip ?_))))⟩
  case round =>
    clear HS
    obtain ⟨k, hkl, rfl, HS⟩ := hrel
    by_cases hlt : k < ps.length
    case pos =>
      obtain ⟨b, off, rfl⟩ := k1.flA (by omega)
      obtain ⟨b', off', rfl⟩ := k2.flA (by omega)
      have HK := hid (List.getElem?_eq_getElem hlt)
      generalize ps[k] = x at *
      go_wp2
      refine wp_region_plan_st HS (.early 0 (.early 1 (.early 2 (.early 3 (.early 4 (.forced 5 1 (.forced 6 1 (.forced 7 1 (.forced 8 2 .done))))))))) (by kernel_rfl) (by as_aux_lemma => kernel_rfl) ?_
      intro hne
      replace HS := HS.drew
      try go_simp
      repeat' (first
        | (with_reducible refine wpPlan_forced ?_)
        | ((with_reducible (first | (show wpPlan _ _ _ _ (.early 0 _) _ _) | (show wpPlan _ _ _ _ (.early 1 _) _ _) | (show wpPlan _ _ _ _ (.early 2 _) _ _) | (show wpPlan _ _ _ _ (.early 4 _) _ _))); (first | (refine wpPlan_skipE rfl rfl ?_; (try go_simp)) | (refine wpPlan_early rfl rfl ?_; intro K hK; (first | go_big_quiet_op); (first | go_big_quiet_on | (refine ⟨_, fun _ => rfl, ?_⟩; go_big_quiet_on)))))
        | ((with_reducible ((show wpPlan _ _ _ _ (.early 3 _) _ _))); (first | (refine wpPlan_skipE rfl rfl ?_; (try go_simp)) | (refine wpPlan_early rfl rfl ?_; intro K hK; (first | ((refine quiet_loadHF  _ _ rfl rfl (fun _ hs => k1.ex hs.ex) HK.out 1 0 (by first | rfl | (simp; done) | omega) rfl (by decide) sc_string flt ?_); (try go_simp)) | go_big_quiet_op); (first | go_big_quiet_on | (refine ⟨_, fun _ => rfl, ?_⟩; go_big_quiet_on)))))
        | ((with_reducible (first | (show wpOne _ _ _ _ 5 1 _ _ _) | (show wpOne _ _ _ _ 6 1 _ _ _))); (first | (refine wpOne_skip rfl rfl ?_; (try go_simp)) | (refine wpOne_1 rfl rfl ?_; intro K hK; go_simp; refine hK _ _ ?_ ?_; (focus (exact stw HS)); clear hK K)))
        | ((with_reducible ((show wpOne _ _ _ _ 7 1 _ _ _))); (first | (refine wpOne_skip rfl rfl ?_; (try go_simp)) | (refine wpOne_1 rfl rfl ?_; intro K hK; (first | (refine wp_loadHF  _ _ rfl rfl HS (fun _ hs => k2.ex hs.ex) HK.out 1 0 (by first | rfl | (simp; done) | omega) rfl (by decide) sc_string flt ?_)); (try go_simp); refine hK _ _ ?_ ?_; (focus (exact stw HS)); clear hK K)))
        | ((with_reducible ((show wpOne _ _ _ _ 8 2 _ _ _))); (first | (refine wpOne_skip rfl rfl ?_; (try go_simp)) | (refine wpOne_2 rfl rfl ?_; intro K hK; go_simp; refine hK _ _ ?_; clear hK K)))
        | (with_reducible refine wpPlan_done ?_))
      go_wp2
      go_roundw
      case rel => exact ⟨k + 1, hlt, by go_num, (HS.arr (by repeat (first | exact Arr.nil | (with_reducible exact take_all _) | (refine Arr.cons tk ?_) | (refine arr_skip ?_))))⟩
      case measure => simp [intOf]; omega
    case neg =>
      obtain rfl : k = ps.length := by omega
      go_wp2
      go_ret
      exact ⟨rfl, HS.ex⟩
set_option maxRecDepth 100000 in
set_option maxHeartbeats 4000000 in
theorem eqMemory_same (v1 v2 : Value) (ps : Pg) (w : World) (k1 : Holds w ps [v1]) (k2 : Holds w ps [v2]) :
    Calls Tryz.prog 13 #[.agg #[v1], .agg #[v2]] w fun e w' => e = .returned (.bool true) ∧ Ex w w' := by
  have HS := St.start w
  go_enter Tryz.func13, Tryz.ntmps13
  go_wp2_with (first
        | (go_at_call 38; (with_reducible refine (eqStringS_same _ _ ps _ (k1.ex HS.ex) (k2.ex HS.ex)).mono ?_); rintro e w' ⟨rfl, hx⟩; replace HS := HS.grow hx; clear hx)
        | ((with_reducible (show wpList _ _ _ (Oper.mk (some 2) (Op.box _ _) _ _ _ _ :: _) _ _)); refine wpList_box_st (o := ⟨some 2, .box _ _, _, _, _, _⟩) rfl _ _ rfl (v := .agg (List.toArray _)) rfl HS ?_; clear HS; intro w2 b2 hb2 HS; simp only [Value.cells] at HS)
        | ((with_reducible (show wpList _ _ _ (Oper.mk (some 2) (Op.box _ _) _ _ _ _ :: _) _ _)); refine wpList_box_st (o := ⟨some 2, .box _ _, _, _, _, _⟩) rfl _ _ rfl (v := .agg _) rfl HS ?_; clear HS; intro w2 b2 hb2 HS; simp only [Value.cells] at HS)
        | ((with_reducible (show wpList _ _ _ (Oper.mk (some 3) (Op.box _ _) _ _ _ _ :: _) _ _)); refine wpList_box_st (o := ⟨some 3, .box _ _, _, _, _, _⟩) rfl _ _ rfl (v := .agg (List.toArray _)) rfl HS ?_; clear HS; intro w3 b3 hb3 HS; simp only [Value.cells] at HS)
        | ((with_reducible (show wpList _ _ _ (Oper.mk (some 3) (Op.box _ _) _ _ _ _ :: _) _ _)); refine wpList_box_st (o := ⟨some 3, .box _ _, _, _, _, _⟩) rfl _ _ rfl (v := .agg _) rfl HS ?_; clear HS; intro w3 b3 hb3 HS; simp only [Value.cells] at HS)
        | ((with_reducible (show wpList _ _ _ (Oper.mk (some 6) (Op.load _ _) _ _ _ _ :: _) _ _)); refine wpList_loadS_st (o := ⟨some 6, .load _ _, _, _, _, _⟩) rfl _ _ rfl rfl HS tk sc_Sstring rfx ?_)
        | ((with_reducible (show wpList _ _ _ (Oper.mk (some 8) (Op.load _ _) _ _ _ _ :: _) _ _)); refine wpList_loadS_st (o := ⟨some 8, .load _ _, _, _, _, _⟩) rfl _ _ rfl rfl HS tk sc_Sstring rfx ?_))
  go_ret
  exact ⟨rfl, HS.ex⟩
set_option maxRecDepth 100000 in
set_option maxHeartbeats 4000000 in
theorem markStringS_st {w0 : World} {Js : List Asn} (v : Value) (ps : Pg) (q0 : Nat) (w : World) (HS : St w0 w (ownA ps [v] :: Js)) (h0 : 0 < q0) (h1 : q0 + ps.length ≤ 4611686018427387903) :
    Calls Tryz.prog 43 #[v, .int .i64 q0] w (fun e w' => e = .returned (.int .i64 ((q0 + ps.length : Nat) : Int)) ∧ St w0 w' (ownA (mtexts ps.length q0) [v] :: Js)) := by
  obtain ⟨A1, c1, rfl⟩ := ownA.form HS .head
  go_enter Tryz.func43, Tryz.ntmps43
  go_wp2_with (first
        | ((with_reducible (show wpList _ _ _ (Oper.mk none (Op.store _ (.tmp 16) _) _ _ _ _ :: _) _ _)); refine wpList_storeF_st (o := ⟨none, .store _ (.tmp 16) _, _, _, _, _⟩) rfl _ _ _ rfl rfl rfl HS tk sz_string rfl hfl (v := mtext q) HOK.out rfl rfl ?_ rfl; clear HS; intro w4_5 hz4_5 HS))
  go_loopw [1, 5] (fun kv i wr => ∃ k q : Nat, k ≤ ps.length ∧ q = q0 + k ∧ kv = .int .i64 (q : Int) ∧ i = .int .i64 k ∧ St w0 wr (ownA (mtexts k q0 ++ ps.drop k) [.slice A1 ps.length c1] :: Js)) (fun _ i _ => ps.length - (intOf i).toNat)
  case atStart => exact ⟨0, q0, Nat.zero_le _, rfl, rfl, rfl, by simpa [mtexts] using HS⟩
  case round =>
    clear HS
    obtain ⟨k, q, hkl, hq, rfl, rfl, HS⟩ := hrel
    have HQ := hid hq
    by_cases hlt : k < ps.length
    case pos =>
      have hfl : k < (mtexts k q0 ++ ps.drop k).length := by rw [List.length_append, mtexts_length, List.length_drop]; omega
      have HST := mtexts_step (ps := ps) (K := q0) hlt
      rw [← hq] at HST
      replace HST := hid HST
      have HOK : Hid (Flat.ok (mtext q)) := hid (by have := mtext_size q; show (mtext q).size ≤ maxLen; unfold maxLen; omega)
      have hqb : q ≤ 4611686018427387903 := by omega
      have hq1 : 0 < q := by omega
      clear hq
      obtain ⟨b, off, cc, hv, -, -⟩ := ownA.addr HS (show Take _ (ownA (mtexts k q0 ++ ps.drop k) [.slice A1 _ _]) _ from tk) (by omega)
      simp only [Value.slice.injEq] at hv
      obtain ⟨rfl, -, rfl⟩ := hv
      go_wp2_with (first
            | (go_at_call 83; (with_reducible refine (markText_any q _ (by omega) (by omega)).mono ?_); rintro e w' ⟨rfl, hx⟩; replace HS := HS.grow hx; clear hx)
            | ((with_reducible (show wpList _ _ _ (Oper.mk none (Op.store _ (.tmp 16) _) _ _ _ _ :: _) _ _)); refine wpList_storeF_st (o := ⟨none, .store _ (.tmp 16) _, _, _, _, _⟩) rfl _ _ _ rfl rfl rfl HS tk sz_string rfl hfl (v := mtext q) HOK.out rfl rfl ?_ rfl; clear HS; intro w4_5 hz4_5 HS))
      rw [HST.out] at HS
      go_roundw
      case rel => exact ⟨k + 1, q + 1, hlt, by rw [HQ.out]; rfl, rfl, by go_num, HS⟩
      case measure => simp [intOf]; omega
    case neg =>
      obtain rfl : k = ps.length := by omega
      subst hq
      rw [List.drop_length, List.append_nil] at HS
      go_wp2_with (first
            | ((with_reducible (show wpList _ _ _ (Oper.mk none (Op.store _ (.tmp 16) _) _ _ _ _ :: _) _ _)); refine wpList_storeF_st (o := ⟨none, .store _ (.tmp 16) _, _, _, _, _⟩) rfl _ _ _ rfl rfl rfl HS tk sz_string rfl hfl (v := mtext q) HOK.out rfl rfl ?_ rfl; clear HS; intro w4_5 hz4_5 HS))
      go_ret
      exact ⟨rfl, HS⟩
set_option maxRecDepth 100000 in
set_option maxHeartbeats 4000000 in
theorem markMemory_st {w0 : World} {Js : List Asn} (v : Value) (ps : Pg) (q0 : Nat) (w : World) (HS : St w0 w (ownA ps [v] :: Js)) (h0 : 0 < q0) (h1 : q0 + ps.length ≤ 4611686018427387903) :
    Calls Tryz.prog 17 #[.agg #[v], .int .i64 q0] w (fun e w' => e = .returned (.int .i64 ((q0 + ps.length : Nat) : Int)) ∧ St w0 w' (ownA (mtexts ps.length q0) [v] :: Js)) := by
  go_enter Tryz.func17, Tryz.ntmps17
  go_wp2_with (first
        | (go_at_call 43; (with_reducible refine (markStringS_st _ ps q0 _ (HS.take tk) h0 h1).mono ?_); rintro e w' ⟨rfl, HS9⟩; clear HS; have HS := HS9; clear HS9)
        | ((with_reducible (show wpList _ _ _ (Oper.mk (some 2) (Op.box _ _) _ _ _ _ :: _) _ _)); refine wpList_box_st (o := ⟨some 2, .box _ _, _, _, _, _⟩) rfl _ _ rfl (v := .agg (List.toArray _)) rfl HS ?_; clear HS; intro w2 b2 hb2 HS; simp only [Value.cells] at HS)
        | ((with_reducible (show wpList _ _ _ (Oper.mk (some 2) (Op.box _ _) _ _ _ _ :: _) _ _)); refine wpList_box_st (o := ⟨some 2, .box _ _, _, _, _, _⟩) rfl _ _ rfl (v := .agg _) rfl HS ?_; clear HS; intro w2 b2 hb2 HS; simp only [Value.cells] at HS)
        | ((with_reducible (show wpList _ _ _ (Oper.mk (some 6) (Op.load _ _) _ _ _ _ :: _) _ _)); refine wpList_loadS_st (o := ⟨some 6, .load _ _, _, _, _, _⟩) rfl _ _ rfl rfl HS tk sc_Sstring rfx ?_))
  go_ret
  exact ⟨rfl, HS.arr (.cons .head (arr_drop _ _))⟩
set_option maxRecDepth 100000 in
set_option maxHeartbeats 4000000 in
theorem heldStringS_any (v : Value) (n q0 : Nat) (w : World) (k1 : Holds w (mtexts n q0) [v]) (h0 : 0 < q0) (h1 : q0 + n ≤ 4611686018427387903) :
    Calls Tryz.prog 44 #[v, .int .i64 q0] w fun e w' => e = .returned (.int .i64 ((q0 + n : Nat) : Int)) ∧ Ex w w' := by
  obtain ⟨AA, cap, rfl, z1, z2⟩ := k1.fl
  unfold maxLen at z2
  rw [mtexts_length] at *
  have HS := St.start w
  go_enter Tryz.func44, Tryz.ntmps44
  go_wp2
  go_loopw [1, 5] (fun kv i wr => ∃ k q : Nat, k ≤ n ∧ q = q0 + k ∧ kv = .int .i64 (q : Int) ∧ i = .int .i64 k ∧ St w wr []) (fun _ i _ => n - (intOf i).toNat)
  case atStart => exact ⟨0, q0, Nat.zero_le _, rfl, rfl, rfl, (HS.arr (by repeat (first | exact Arr.nil | (with_reducible exact take_all _) | (refine Arr.cons tk ?_) | (refine arr_skip ?_))))⟩
  case round =>
    clear HS
    obtain ⟨k, q, hkl, hq, rfl, rfl, HS⟩ := hrel
    have HQ := hid hq
    by_cases hlt : k < n
    case pos =>
      obtain ⟨b, off, rfl⟩ := k1.flA (by rw [mtexts_length]; omega)
      have hk9 := mtexts_get (n := n) (k := q0) hlt
      rw [← hq] at hk9
      have HK := hid hk9
      clear hk9
      have hqb : q ≤ 4611686018427387903 := by omega
      have hq1 : 0 < q := by omega
      clear hq
      go_wp2
      refine wp_region_plan_st HS (.early 0 (.early 1 (.early 2 (.early 3 (.forced 4 1 (.forced 5 1 (.forced 6 2 .done))))))) (by kernel_rfl) (by as_aux_lemma => kernel_rfl) ?_
      intro hne
      replace HS := HS.drew
      try go_simp
      repeat' (first
        | (with_reducible refine wpPlan_forced ?_)
        | ((with_reducible (first | (show wpPlan _ _ _ _ (.early 0 _) _ _) | (show wpPlan _ _ _ _ (.early 1 _) _ _) | (show wpPlan _ _ _ _ (.early 2 _) _ _))); (first | (refine wpPlan_skipE rfl rfl ?_; (try go_simp)) | (refine wpPlan_early rfl rfl ?_; intro K hK; (first | go_big_quiet_op); (first | go_big_quiet_on | (refine ⟨_, fun _ => rfl, ?_⟩; go_big_quiet_on)))))
        | ((with_reducible ((show wpPlan _ _ _ _ (.early 3 _) _ _))); (first | (refine wpPlan_skipE rfl rfl ?_; (try go_simp)) | (refine wpPlan_early rfl rfl ?_; intro K hK; (first | ((refine quiet_loadHF  _ _ rfl rfl (fun _ hs => k1.ex hs.ex) HK.out 1 0 (by first | rfl | (simp; done) | omega) rfl (by decide) sc_string flt ?_); (try go_simp)) | go_big_quiet_op); (first | go_big_quiet_on | (refine ⟨_, fun _ => rfl, ?_⟩; go_big_quiet_on)))))
        | ((with_reducible ((show wpOne _ _ _ _ 4 1 _ _ _))); (first | (refine wpOne_skip rfl rfl ?_; (try go_simp)) | (refine wpOne_1 rfl rfl ?_; intro K hK; go_simp; refine hK _ _ ?_ ?_; (focus (exact stw HS)); clear hK K)))
        | ((with_reducible ((show wpOne _ _ _ _ 5 1 _ _ _))); (first | (refine wpOne_skip rfl rfl ?_; (try go_simp)) | (refine wpOne_1 rfl rfl ?_; intro K hK; go_simp; (first | (go_at_call 83; (with_reducible refine (markText_any q _ (by omega) (by omega)).mono ?_); rintro e w' ⟨rfl, hx⟩; replace HS := HS.grow hx; clear hx)); (try go_simp); refine hK _ _ ?_ ?_; (focus (exact stw HS)); clear hK K)))
        | ((with_reducible ((show wpOne _ _ _ _ 6 2 _ _ _))); (first | (refine wpOne_skip rfl rfl ?_; (try go_simp)) | (refine wpOne_2 rfl rfl ?_; intro K hK; go_simp; refine hK _ _ ?_; clear hK K)))
        | (with_reducible refine wpPlan_done ?_))
      go_wp2
      go_roundw
      case rel => exact ⟨k + 1, q + 1, hlt, by rw [HQ.out]; rfl, rfl, by go_num, (HS.arr (by repeat (first | exact Arr.nil | (with_reducible exact take_all _) | (refine Arr.cons tk ?_) | (refine arr_skip ?_))))⟩
      case measure => simp [intOf]; omega
    case neg =>
      obtain rfl : k = n := by omega
      subst hq
      go_wp2
      go_ret
      exact ⟨rfl, HS.ex⟩
set_option maxRecDepth 100000 in
set_option maxHeartbeats 4000000 in
theorem heldMemory_any (v : Value) (n q0 : Nat) (w : World) (k1 : Holds w (mtexts n q0) [v]) (h0 : 0 < q0) (h1 : q0 + n ≤ 4611686018427387903) :
    Calls Tryz.prog 18 #[.agg #[v], .int .i64 q0] w fun e w' => e = .returned (.int .i64 ((q0 + n : Nat) : Int)) ∧ Ex w w' := by
  have HS := St.start w
  go_enter Tryz.func18, Tryz.ntmps18
  go_wp2_with (first
        | (go_at_call 44; (with_reducible refine (heldStringS_any _ n q0 _ (k1.ex HS.ex) h0 h1).mono ?_); rintro e w' ⟨rfl, hx⟩; replace HS := HS.grow hx; clear hx)
        | ((with_reducible (show wpList _ _ _ (Oper.mk (some 2) (Op.box _ _) _ _ _ _ :: _) _ _)); refine wpList_box_st (o := ⟨some 2, .box _ _, _, _, _, _⟩) rfl _ _ rfl (v := .agg (List.toArray _)) rfl HS ?_; clear HS; intro w2 b2 hb2 HS; simp only [Value.cells] at HS)
        | ((with_reducible (show wpList _ _ _ (Oper.mk (some 2) (Op.box _ _) _ _ _ _ :: _) _ _)); refine wpList_box_st (o := ⟨some 2, .box _ _, _, _, _, _⟩) rfl _ _ rfl (v := .agg _) rfl HS ?_; clear HS; intro w2 b2 hb2 HS; simp only [Value.cells] at HS)
        | ((with_reducible (show wpList _ _ _ (Oper.mk (some 6) (Op.load _ _) _ _ _ _ :: _) _ _)); refine wpList_loadS_st (o := ⟨some 6, .load _ _, _, _, _, _⟩) rfl _ _ rfl rfl HS tk sc_Sstring rfx ?_))
  go_ret
  exact ⟨rfl, HS.ex⟩
set_option maxRecDepth 100000 in
set_option maxHeartbeats 4000000 in
theorem toMapping_any (x1 : Int) (x2 : Int) (x3 : Int) (x4 : Bool) (w : World) :
    Calls Tryz.prog 29 #[.agg #[.int .i64 x1, .int .i64 x2, .int .i64 x3, .bool x4]] w fun e w' => e = .returned (.agg #[.int .i64 x1, .int .i64 x2, .int .i64 x3, .bool x4]) ∧ Ex w w' := by
  have HS := St.start w
  go_enter Tryz.func29, Tryz.ntmps29
  go_wp2_with (first
        | ((with_reducible (show wpList _ _ _ (Oper.mk (some 1) (Op.box _ _) _ _ _ _ :: _) _ _)); refine wpList_box_st (o := ⟨some 1, .box _ _, _, _, _, _⟩) rfl _ _ rfl (v := .agg (List.toArray _)) rfl HS ?_; clear HS; intro w1 b1 hb1 HS; simp only [Value.cells] at HS)
        | ((with_reducible (show wpList _ _ _ (Oper.mk (some 1) (Op.box _ _) _ _ _ _ :: _) _ _)); refine wpList_box_st (o := ⟨some 1, .box _ _, _, _, _, _⟩) rfl _ _ rfl (v := .agg _) rfl HS ?_; clear HS; intro w1 b1 hb1 HS; simp only [Value.cells] at HS)
        | ((with_reducible (show wpList _ _ _ (Oper.mk (some 2) (Op.alloc _) _ _ _ _ :: _) _ _)); refine wpList_alloc_st (o := ⟨some 2, .alloc _, _, _, _, _⟩) rfl _ rfl zc_impl_Mapping HS ?_; clear HS; intro w2 b2 hb2 HS)
        | ((with_reducible (show wpList _ _ _ (Oper.mk (some 3) (Op.alloc _) _ _ _ _ :: _) _ _)); refine wpList_alloc_st (o := ⟨some 3, .alloc _, _, _, _, _⟩) rfl _ rfl zc_impl_Mapping HS ?_; clear HS; intro w3 b3 hb3 HS)
        | ((with_reducible (show wpList _ _ _ (Oper.mk (some 5) (Op.load _ _) _ _ _ _ :: _) _ _)); refine wpList_loadS_st (o := ⟨some 5, .load _ _, _, _, _, _⟩) rfl _ _ rfl rfl HS tk sc_int rfx ?_)
        | ((with_reducible (show wpList _ _ _ (Oper.mk none (Op.store _ (.tmp 6) _) _ _ _ _ :: _) _ _)); refine wpList_store_st (o := ⟨none, .store _ (.tmp 6) _, _, _, _, _⟩) rfl _ _ _ rfl rfl (v := .int .i64 _) rfl HS tk sz_int vcs rfx rfx (by simp) ?_ rfl; clear HS; intro w2_3 hz2_3 HS; simp only [nicL, Value.cells, List.append_nil] at HS)
        | ((with_reducible (show wpList _ _ _ (Oper.mk (some 8) (Op.load _ _) _ _ _ _ :: _) _ _)); refine wpList_loadS_st (o := ⟨some 8, .load _ _, _, _, _, _⟩) rfl _ _ rfl rfl HS tk sc_int rfx ?_)
        | ((with_reducible (show wpList _ _ _ (Oper.mk none (Op.store _ (.tmp 9) _) _ _ _ _ :: _) _ _)); refine wpList_store_st (o := ⟨none, .store _ (.tmp 9) _, _, _, _, _⟩) rfl _ _ _ rfl rfl (v := .int .i64 _) rfl HS tk sz_int vcs rfx rfx (by simp) ?_ rfl; clear HS; intro w3_3 hz3_3 HS; simp only [nicL, Value.cells, List.append_nil] at HS)
        | ((with_reducible (show wpList _ _ _ (Oper.mk (some 11) (Op.load _ _) _ _ _ _ :: _) _ _)); refine wpList_loadS_st (o := ⟨some 11, .load _ _, _, _, _, _⟩) rfl _ _ rfl rfl HS tk sc_int rfx ?_)
        | ((with_reducible (show wpList _ _ _ (Oper.mk none (Op.store _ (.tmp 12) _) _ _ _ _ :: _) _ _)); refine wpList_store_st (o := ⟨none, .store _ (.tmp 12) _, _, _, _, _⟩) rfl _ _ _ rfl rfl (v := .int .i64 _) rfl HS tk sz_int vcs rfx rfx (by simp) ?_ rfl; clear HS; intro w4_3 hz4_3 HS; simp only [nicL, Value.cells, List.append_nil] at HS)
        | ((with_reducible (show wpList _ _ _ (Oper.mk (some 14) (Op.load _ _) _ _ _ _ :: _) _ _)); refine wpList_loadS_st (o := ⟨some 14, .load _ _, _, _, _, _⟩) rfl _ _ rfl rfl HS tk sc_bool rfx ?_)
        | ((with_reducible (show wpList _ _ _ (Oper.mk none (Op.store _ (.tmp 15) _) _ _ _ _ :: _) _ _)); refine wpList_store_st (o := ⟨none, .store _ (.tmp 15) _, _, _, _, _⟩) rfl _ _ _ rfl rfl (v := .bool _) rfl HS tk sz_bool vcs rfx rfx (by simp) ?_ rfl; clear HS; intro w5_3 hz5_3 HS; simp only [nicL, Value.cells, List.append_nil] at HS)
        | ((with_reducible (show wpList _ _ _ (Oper.mk (some 16) (Op.load _ _) _ _ _ _ :: _) _ _)); refine wpList_loadA_st (o := ⟨some 16, .load _ _, _, _, _, _⟩) rfl _ _ rfl rfl HS tk ag_impl_Mapping lit rfl ?_)
        | ((with_reducible (show wpList _ _ _ (Oper.mk none (Op.store _ (.tmp 2) _) _ _ _ _ :: _) _ _)); refine wpList_store_st (o := ⟨none, .store _ (.tmp 2) _, _, _, _, _⟩) rfl _ _ _ rfl rfl (v := .agg (List.toArray _)) rfl HS tk sz_impl_Mapping vcs rfx rfx (by simp) ?_ rfl; clear HS; intro w6_1 hz6_1 HS; simp only [nicL, Value.cells, List.append_nil] at HS)
        | ((with_reducible (show wpList _ _ _ (Oper.mk none (Op.store _ (.tmp 2) _) _ _ _ _ :: _) _ _)); refine wpList_store_st (o := ⟨none, .store _ (.tmp 2) _, _, _, _, _⟩) rfl _ _ _ rfl rfl (v := .agg _) rfl HS tk sz_impl_Mapping vcs rfx rfx (by simp) ?_ rfl; clear HS; intro w6_1 hz6_1 HS; simp only [nicL, Value.cells, List.append_nil] at HS))
  refine bodyPost_retc rfx rfx HS tk ag_impl_Mapping rfx rfx ?_
  exact ⟨rfl, HS.ex⟩
set_option maxRecDepth 100000 in
set_option maxHeartbeats 4000000 in
theorem eqMapping_same (x1 : Int) (x2 : Int) (x3 : Int) (x4 : Bool) (w : World) :
    Calls Tryz.prog 42 #[.agg #[.int .i64 x1, .int .i64 x2, .int .i64 x3, .bool x4], .agg #[.int .i64 x1, .int .i64 x2, .int .i64 x3, .bool x4]] w fun e w' => e = .returned (.bool true) ∧ Ex w w' := by
  have e0 : (x1 != x1) = false := by simp
  have e1 : (x2 != x2) = false := by simp
  have e2 : (x3 != x3) = false := by simp
  have e3 : (x4 != x4) = false := by simp
  have HS := St.start w
  go_enter Tryz.func42, Tryz.ntmps42
  go_wp2_with (first
        | ((with_reducible (show wpList _ _ _ (Oper.mk (some 2) (Op.box _ _) _ _ _ _ :: _) _ _)); refine wpList_box_st (o := ⟨some 2, .box _ _, _, _, _, _⟩) rfl _ _ rfl (v := .agg (List.toArray _)) rfl HS ?_; clear HS; intro w2 b2 hb2 HS; simp only [Value.cells] at HS)
        | ((with_reducible (show wpList _ _ _ (Oper.mk (some 2) (Op.box _ _) _ _ _ _ :: _) _ _)); refine wpList_box_st (o := ⟨some 2, .box _ _, _, _, _, _⟩) rfl _ _ rfl (v := .agg _) rfl HS ?_; clear HS; intro w2 b2 hb2 HS; simp only [Value.cells] at HS)
        | ((with_reducible (show wpList _ _ _ (Oper.mk (some 3) (Op.box _ _) _ _ _ _ :: _) _ _)); refine wpList_box_st (o := ⟨some 3, .box _ _, _, _, _, _⟩) rfl _ _ rfl (v := .agg (List.toArray _)) rfl HS ?_; clear HS; intro w3 b3 hb3 HS; simp only [Value.cells] at HS)
        | ((with_reducible (show wpList _ _ _ (Oper.mk (some 3) (Op.box _ _) _ _ _ _ :: _) _ _)); refine wpList_box_st (o := ⟨some 3, .box _ _, _, _, _, _⟩) rfl _ _ rfl (v := .agg _) rfl HS ?_; clear HS; intro w3 b3 hb3 HS; simp only [Value.cells] at HS)
        | ((with_reducible (show wpList _ _ _ (Oper.mk (some 6) (Op.load _ _) _ _ _ _ :: _) _ _)); refine wpList_loadS_st (o := ⟨some 6, .load _ _, _, _, _, _⟩) rfl _ _ rfl rfl HS tk sc_int rfx ?_)
        | ((with_reducible (show wpList _ _ _ (Oper.mk (some 8) (Op.load _ _) _ _ _ _ :: _) _ _)); refine wpList_loadS_st (o := ⟨some 8, .load _ _, _, _, _, _⟩) rfl _ _ rfl rfl HS tk sc_int rfx ?_)
        | ((with_reducible (show wpList _ _ _ (Oper.mk (some 11) (Op.load _ _) _ _ _ _ :: _) _ _)); refine wpList_loadS_st (o := ⟨some 11, .load _ _, _, _, _, _⟩) rfl _ _ rfl rfl HS tk sc_int rfx ?_)
        | ((with_reducible (show wpList _ _ _ (Oper.mk (some 13) (Op.load _ _) _ _ _ _ :: _) _ _)); refine wpList_loadS_st (o := ⟨some 13, .load _ _, _, _, _, _⟩) rfl _ _ rfl rfl HS tk sc_int rfx ?_)
        | ((with_reducible (show wpList _ _ _ (Oper.mk (some 16) (Op.load _ _) _ _ _ _ :: _) _ _)); refine wpList_loadS_st (o := ⟨some 16, .load _ _, _, _, _, _⟩) rfl _ _ rfl rfl HS tk sc_int rfx ?_)
        | ((with_reducible (show wpList _ _ _ (Oper.mk (some 18) (Op.load _ _) _ _ _ _ :: _) _ _)); refine wpList_loadS_st (o := ⟨some 18, .load _ _, _, _, _, _⟩) rfl _ _ rfl rfl HS tk sc_int rfx ?_)
        | ((with_reducible (show wpList _ _ _ (Oper.mk (some 21) (Op.load _ _) _ _ _ _ :: _) _ _)); refine wpList_loadS_st (o := ⟨some 21, .load _ _, _, _, _, _⟩) rfl _ _ rfl rfl HS tk sc_bool rfx ?_)
        | ((with_reducible (show wpList _ _ _ (Oper.mk (some 23) (Op.load _ _) _ _ _ _ :: _) _ _)); refine wpList_loadS_st (o := ⟨some 23, .load _ _, _, _, _, _⟩) rfl _ _ rfl rfl HS tk sc_bool rfx ?_))
  go_ret
  exact ⟨rfl, HS.ex⟩
set_option maxRecDepth 100000 in
set_option maxHeartbeats 4000000 in
theorem szMappingS_le (v : Value) (l : List Mp) (left : Int) (w : World) (k1 : Holds w l [v]) (hl : left ≤ 1048576) (hs : (l.length : Int) ≤ left) :
    Calls Tryz.prog 5 #[v, .int .i64 left] w fun e w' => e = .returned (.int .i64 (left - (l.length : Int))) ∧ Ex w w' := by
  obtain ⟨AA, cap, rfl, z1, z2⟩ := k1.fl
  unfold maxLen at z2
  have HS := St.start w
  go_enter Tryz.func5, Tryz.ntmps5
  go_wp2
  go_ret
  exact ⟨rfl, HS.ex⟩
set_option maxRecDepth 100000 in
set_option maxHeartbeats 4000000 in
theorem szMappingS_gt (v : Value) (l : List Mp) (left : Int) (w : World) (k1 : Holds w l [v]) (hl : left ≤ 1048576) (h0 : 0 ≤ left) (hs : left < (l.length : Int)) :
    Calls Tryz.prog 5 #[v, .int .i64 left] w fun e w' => e = .returned (.int .i64 (-1)) ∧ Ex w w' := by
  obtain ⟨AA, cap, rfl, z1, z2⟩ := k1.fl
  unfold maxLen at z2
  have HS := St.start w
  go_enter Tryz.func5, Tryz.ntmps5
  go_wp2
  go_ret
  exact ⟨rfl, HS.ex⟩
set_option maxRecDepth 100000 in
set_option maxHeartbeats 4000000 in
theorem toMappingS_any (v : Value) (l : List Mp) (w : World) (k1 : Holds w l [v]) (hl : l.length ≤ 1099511627776) :
    Calls Tryz.prog 9 #[v] w (RetSl w l) := by
  obtain ⟨AA, cap, rfl, z1, z2⟩ := k1.fl
  unfold maxLen at z2
  have zok : Flat.ok ((0, 0, 0, false) : Mp) := ⟨(show i64ok 0 from by unfold i64ok; omega), (show i64ok 0 from by unfold i64ok; omega), (show i64ok 0 from by unfold i64ok; omega), trivial⟩
  have HS := St.start w
  go_enter Tryz.func9, Tryz.ntmps9
  go_wp2_with (first
        | ((with_reducible (show wpList _ _ _ (Oper.mk (some 7) (Op.makeSlice _ _ _) _ _ _ _ :: _) _ _)); refine wpList_makeF_st (y0 := ((0, 0, 0, false) : Mp)) (o := ⟨some 7, .makeSlice _ _ _, _, _, _, _⟩) rfl _ _ _ rfl _ Tryz.underlying53 in_impl_Mapping (n := l.length) rfl rfl rfl rfx zok (by omega) mxl HS ?_; clear HS; intro w7 b7 hb7 HS)
        | ((with_reducible (show wpList _ _ _ (Oper.mk (some 19) (Op.load _ _) _ _ _ _ :: _) _ _)); refine wpList_loadH (o := ⟨some 19, .load _ _, _, _, _, _⟩) rfl _ _ rfl rfl HS (fun _ hs => k1.ex hs.ex) HK.out (by first | rfl | (simp; done) | omega) ag_laws_Mapping rfl flt ?_)
        | ((with_reducible (show wpList _ _ _ (Oper.mk none (Op.store _ (.tmp 21) _) _ _ _ _ :: _) _ _)); refine wpList_storeE_st (o := ⟨none, .store _ (.tmp 21) _, _, _, _, _⟩) rfl _ _ _ rfl rfl (v := .agg (List.toArray _)) rfl HS tk sz_impl_Mapping 4 0 rfl (by first | rfl | (simp; done) | omega) hfl vcs rfx rfx HKF.out (el := (xd, xv, xp, xw)) HOK.out rfx (by simp) ?_ rfl; clear HS; intro w5_8 hz5_8 HS))
  rw [← fillL_zero l ((0, 0, 0, false) : Mp)] at HS
  go_loopw [4] (fun i wr => ∃ k : Nat, k ≤ l.length ∧ i = .int .i64 k ∧ St w wr [ownA (fillL l ((0, 0, 0, false) : Mp) k) [.slice (some ⟨b7, 0, none⟩) l.length l.length]]) (fun i _ => l.length - (intOf i).toNat)
  case atStart => exact ⟨0, Nat.zero_le _, rfl, HS⟩
  case round =>
    clear HS
    obtain ⟨k, hkl, rfl, HS⟩ := hrel
    by_cases hlt : k < l.length
    case pos =>
      obtain ⟨b, off, rfl⟩ := k1.flA (by omega)
      have hfl : k < (fillL l ((0, 0, 0, false) : Mp) k).length := by rw [fillL_length _ _ hkl]; exact hlt
      have HST := hid (fillL_set l ((0, 0, 0, false) : Mp) hlt)
      have HKF := hid (fillL_get l ((0, 0, 0, false) : Mp) hlt)
      have HOK : Hid (Flat.ok l[k]) := hid (k1.flok (List.getElem_mem hlt))
      have HK := hid (List.getElem?_eq_getElem hlt)
      generalize l[k] = x at *
      obtain ⟨xd, xv, xp, xw⟩ := x
      go_wp2_with (first
            | (go_at_call 29; (with_reducible refine (toMapping_any xd xv xp xw _).mono ?_); rintro e w' ⟨rfl, hx⟩; replace HS := HS.grow hx; clear hx)
            | ((with_reducible (show wpList _ _ _ (Oper.mk (some 7) (Op.makeSlice _ _ _) _ _ _ _ :: _) _ _)); refine wpList_makeF_st (y0 := ((0, 0, 0, false) : Mp)) (o := ⟨some 7, .makeSlice _ _ _, _, _, _, _⟩) rfl _ _ _ rfl _ Tryz.underlying53 in_impl_Mapping (n := l.length) rfl rfl rfl rfx zok (by omega) mxl HS ?_; clear HS; intro w7 b7 hb7 HS)
            | ((with_reducible (show wpList _ _ _ (Oper.mk (some 19) (Op.load _ _) _ _ _ _ :: _) _ _)); refine wpList_loadH (o := ⟨some 19, .load _ _, _, _, _, _⟩) rfl _ _ rfl rfl HS (fun _ hs => k1.ex hs.ex) HK.out (by first | rfl | (simp; done) | omega) ag_laws_Mapping rfl flt ?_)
            | ((with_reducible (show wpList _ _ _ (Oper.mk none (Op.store _ (.tmp 21) _) _ _ _ _ :: _) _ _)); refine wpList_storeE_st (o := ⟨none, .store _ (.tmp 21) _, _, _, _, _⟩) rfl _ _ _ rfl rfl (v := .agg (List.toArray _)) rfl HS tk sz_impl_Mapping 4 0 rfl (by first | rfl | (simp; done) | omega) hfl vcs rfx rfx HKF.out (el := (xd, xv, xp, xw)) HOK.out rfx (by simp) ?_ rfl; clear HS; intro w5_8 hz5_8 HS))
      rw [HST.out] at HS
      go_roundw
      case rel => exact ⟨k + 1, hlt, by go_num, (HS.arr (by repeat (first | exact Arr.nil | (with_reducible exact take_all _) | (refine Arr.cons tk ?_) | (refine arr_skip ?_))))⟩
      case measure => simp [intOf]; omega
    case neg =>
      obtain rfl : k = l.length := by omega
      rw [fillL_all] at HS
      go_wp2_with (first
            | ((with_reducible (show wpList _ _ _ (Oper.mk (some 7) (Op.makeSlice _ _ _) _ _ _ _ :: _) _ _)); refine wpList_makeF_st (y0 := ((0, 0, 0, false) : Mp)) (o := ⟨some 7, .makeSlice _ _ _, _, _, _, _⟩) rfl _ _ _ rfl _ Tryz.underlying53 in_impl_Mapping (n := l.length) rfl rfl rfl rfx zok (by omega) mxl HS ?_; clear HS; intro w7 b7 hb7 HS)
            | ((with_reducible (show wpList _ _ _ (Oper.mk (some 19) (Op.load _ _) _ _ _ _ :: _) _ _)); refine wpList_loadH (o := ⟨some 19, .load _ _, _, _, _, _⟩) rfl _ _ rfl rfl HS (fun _ hs => k1.ex hs.ex) HK.out (by first | rfl | (simp; done) | omega) ag_laws_Mapping rfl flt ?_)
            | ((with_reducible (show wpList _ _ _ (Oper.mk none (Op.store _ (.tmp 21) _) _ _ _ _ :: _) _ _)); refine wpList_storeE_st (o := ⟨none, .store _ (.tmp 21) _, _, _, _, _⟩) rfl _ _ _ rfl rfl (v := .agg (List.toArray _)) rfl HS tk sz_impl_Mapping 4 0 rfl (by first | rfl | (simp; done) | omega) hfl vcs rfx rfx HKF.out (el := (xd, xv, xp, xw)) HOK.out rfx (by simp) ?_ rfl; clear HS; intro w5_8 hz5_8 HS))
      go_ret
      exact HS.ret tk
set_option maxRecDepth 100000 in
set_option maxHeartbeats 4000000 in
theorem eqMappingS_same (v1 v2 : Value) (l : List Mp) (w : World) (k1 : Holds w l [v1]) (k2 : Holds w l [v2]) :
    Calls Tryz.prog 15 #[v1, v2] w fun e w' => e = .returned (.bool true) ∧ Ex w w' := by
  obtain ⟨AA, cap, rfl, z1, z2⟩ := k1.fl
  unfold maxLen at z2
  obtain ⟨BB, cap2, rfl, y1, y2⟩ := k2.fl
  unfold maxLen at y2
  have HS := St.start w
  go_enter Tryz.func15, Tryz.ntmps15
  go_wp2
  go_loopw [5] (fun i wr => ∃ k : Nat, k ≤ l.length ∧ i = .int .i64 k ∧ St w wr []) (fun i _ => l.length - (intOf i).toNat)
  case atStart => exact ⟨0, Nat.zero_le _, rfl, (HS.arr (by repeat (first | exact Arr.nil | (with_reducible exact take_all _) | (refine Arr.cons tk ?_) | (refine arr_skip ?_))))⟩
  case round =>
    clear HS
    obtain ⟨k, hkl, rfl, HS⟩ := hrel
    by_cases hlt : k < l.length
    case pos =>
      obtain ⟨b, off, rfl⟩ := k1.flA (by omega)
      obtain ⟨b', off', rfl⟩ := k2.flA (by omega)
      have HK := hid (List.getElem?_eq_getElem hlt)
      generalize l[k] = x at *
      obtain ⟨xd, xv, xp, xw⟩ := x
      go_wp2
      refine wp_region_plan_st HS (.early 0 (.early 1 (.early 2 (.early 3 (.early 4 (.forced 5 1 (.forced 6 1 (.forced 7 1 (.forced 8 2 (.forced 9 2 .done)))))))))) (by kernel_rfl) (by as_aux_lemma => kernel_rfl) ?_
      intro hne
      replace HS := HS.drew
      try go_simp
      repeat' (first
        | (with_reducible refine wpPlan_forced ?_)
        | ((with_reducible (first | (show wpPlan _ _ _ _ (.early 0 _) _ _) | (show wpPlan _ _ _ _ (.early 1 _) _ _) | (show wpPlan _ _ _ _ (.early 2 _) _ _) | (show wpPlan _ _ _ _ (.early 4 _) _ _))); (first | (refine wpPlan_skipE rfl rfl ?_; (try go_simp)) | (refine wpPlan_early rfl rfl ?_; intro K hK; (first | go_big_quiet_op); (first | go_big_quiet_on | (refine ⟨_, fun _ => rfl, ?_⟩; go_big_quiet_on)))))
        | ((with_reducible ((show wpPlan _ _ _ _ (.early 3 _) _ _))); (first | (refine wpPlan_skipE rfl rfl ?_; (try go_simp)) | (refine wpPlan_early rfl rfl ?_; intro K hK; (first | ((refine quiet_loadH  _ _ rfl rfl (fun _ hs => k1.ex hs.ex) HK.out (by first | rfl | (simp; done) | omega) ag_impl_Mapping rfl flt ?_); (try go_simp)) | go_big_quiet_op); (first | go_big_quiet_on | (refine ⟨_, fun _ => rfl, ?_⟩; go_big_quiet_on)))))
        | ((with_reducible (first | (show wpOne _ _ _ _ 5 1 _ _ _) | (show wpOne _ _ _ _ 6 1 _ _ _))); (first | (refine wpOne_skip rfl rfl ?_; (try go_simp)) | (refine wpOne_1 rfl rfl ?_; intro K hK; go_simp; refine hK _ _ ?_ ?_; (focus (exact stw HS)); clear hK K)))
        | ((with_reducible ((show wpOne _ _ _ _ 7 1 _ _ _))); (first | (refine wpOne_skip rfl rfl ?_; (try go_simp)) | (refine wpOne_1 rfl rfl ?_; intro K hK; (first | (refine wp_loadH  _ _ rfl rfl HS (fun _ hs => k2.ex hs.ex) HK.out (by first | rfl | (simp; done) | omega) ag_impl_Mapping rfl flt ?_)); (try go_simp); refine hK _ _ ?_ ?_; (focus (exact stw HS)); clear hK K)))
        | ((with_reducible ((show wpOne _ _ _ _ 8 2 _ _ _))); (first | (refine wpOne_skip rfl rfl ?_; (try go_simp)) | (refine wpOne_2 rfl rfl ?_; intro K hK; go_simp; (first | (go_at_call 42; (with_reducible refine (eqMapping_same xd xv xp xw _).mono ?_); rintro e w' ⟨rfl, hx⟩; replace HS := HS.grow hx; clear hx)); (try go_simp); refine hK _ _ ?_; clear hK K)))
        | ((with_reducible ((show wpOne _ _ _ _ 9 2 _ _ _))); (first | (refine wpOne_skip rfl rfl ?_; (try go_simp)) | (refine wpOne_2 rfl rfl ?_; intro K hK; go_simp; refine hK _ _ ?_; clear hK K)))
        | (with_reducible refine wpPlan_done ?_))
      go_wp2
      go_roundw
      case rel => exact ⟨k + 1, hlt, by go_num, (HS.arr (by repeat (first | exact Arr.nil | (with_reducible exact take_all _) | (refine Arr.cons tk ?_) | (refine arr_skip ?_))))⟩
      case measure => simp [intOf]; omega
    case neg =>
      obtain rfl : k = l.length := by omega
      go_wp2
      go_ret
      exact ⟨rfl, HS.ex⟩
def markEl (q : Nat) : Mp := ((q : Int), (q : Int) + 1, (q : Int) + 2, ((q : Int) + 3) % 3 == 0)
def markMp (n q : Nat) : List Mp := (List.range n).map fun i => markEl (q + 4 * i)
theorem markMp_length (n q : Nat) : (markMp n q).length = n := by simp [markMp]
theorem markMp_step {l : List Mp} {q i : Nat} (h : i < l.length) : (markMp i q ++ l.drop i).set i (markEl (q + 4 * i)) = markMp (i + 1) q ++ l.drop (i + 1) := by
  rw [List.set_append_right _ _ (by rw [markMp_length]; exact Nat.le_refl _), markMp_length, Nat.sub_self, List.drop_eq_getElem_cons h, List.set_cons_zero]
  unfold markMp
  rw [List.range_succ, List.map_append, List.append_assoc]
  rfl
theorem markMp_at {l : List Mp} {q i : Nat} (h : i < l.length) : (markMp i q ++ l.drop i)[i]? = some l[i] := by
  rw [List.getElem?_append_right (by rw [markMp_length]; exact Nat.le_refl _), markMp_length, Nat.sub_self, List.drop_eq_getElem_cons h]; rfl
set_option maxRecDepth 100000 in
set_option maxHeartbeats 4000000 in
theorem markMappingS_st {w0 : World} {Js : List Asn} (v : Value) (l : List Mp) (q0 : Nat) (w : World) (HS : St w0 w (ownA l [v] :: Js)) (h1 : q0 + 4 * l.length ≤ 4611686018427386000) :
    Calls Tryz.prog 16 #[v, .int .i64 q0] w (fun e w' => e = .returned (.int .i64 ((q0 + 4 * l.length : Nat) : Int)) ∧ St w0 w' (ownA (markMp l.length q0) [v] :: Js)) := by
  obtain ⟨A1, c1, rfl⟩ := ownA.form HS .head
  have hokl : ∀ x ∈ l, Flat.ok x := fun x hx => (HS.holds .head).flok hx
  replace hokl := hid hokl
  go_enter Tryz.func16, Tryz.ntmps16
  go_wp2_with (first
        | ((with_reducible (show wpList _ _ _ (Oper.mk none (Op.store _ (.tmp 16) _) _ _ _ _ :: _) _ _)); refine wpList_storeE_st (o := ⟨none, .store _ (.tmp 16) _, _, _, _, _⟩) rfl _ _ _ rfl rfl (v := .int .i64 _) rfl HS tk sz_int 4 0 rfl (by first | rfl | (simp; done) | omega) hfl vcs rfx rfx HK.out (el := ((q : Int), xv, xp, xw)) (show i64ok ((q : Int)) ∧ i64ok (xv) ∧ i64ok (xp) ∧ True from by have := HO1.out; have := HO2.out; have := HO3.out; unfold i64ok at *; refine ⟨?_, ?_, ?_, trivial⟩ <;> omega) rfx (by simp) ?_ rfl; clear HS; intro w4_5 hz4_5 HS)
        | ((with_reducible (show wpList _ _ _ (Oper.mk none (Op.store _ (.tmp 23) _) _ _ _ _ :: _) _ _)); refine wpList_storeE_st (o := ⟨none, .store _ (.tmp 23) _, _, _, _, _⟩) rfl _ _ _ rfl rfl (v := .int .i64 _) rfl HS tk sz_int 4 1 rfl (by first | rfl | (simp; done) | omega) (by (try simp only [List.length_set]); exact hfl) vcs rfx rfx (List.getElem?_set_self (by (try simp only [List.length_set]); exact hfl)) (el := ((q : Int), (q : Int) + 1, xp, xw)) (show i64ok ((q : Int)) ∧ i64ok ((q : Int) + 1) ∧ i64ok (xp) ∧ True from by have := HO1.out; have := HO2.out; have := HO3.out; unfold i64ok at *; refine ⟨?_, ?_, ?_, trivial⟩ <;> omega) rfx (by simp) ?_ rfl; clear HS; intro w6_5 hz6_5 HS)
        | ((with_reducible (show wpList _ _ _ (Oper.mk none (Op.store _ (.tmp 30) _) _ _ _ _ :: _) _ _)); refine wpList_storeE_st (o := ⟨none, .store _ (.tmp 30) _, _, _, _, _⟩) rfl _ _ _ rfl rfl (v := .int .i64 _) rfl HS tk sz_int 4 2 rfl (by first | rfl | (simp; done) | omega) (by (try simp only [List.length_set]); exact hfl) vcs rfx rfx (List.getElem?_set_self (by (try simp only [List.length_set]); exact hfl)) (el := ((q : Int), (q : Int) + 1, (q : Int) + 2, xw)) (show i64ok ((q : Int)) ∧ i64ok ((q : Int) + 1) ∧ i64ok ((q : Int) + 2) ∧ True from by have := HO1.out; have := HO2.out; have := HO3.out; unfold i64ok at *; refine ⟨?_, ?_, ?_, trivial⟩ <;> omega) rfx (by simp) ?_ rfl; clear HS; intro w8_5 hz8_5 HS)
        | ((with_reducible (show wpList _ _ _ (Oper.mk none (Op.store _ (.tmp 39) _) _ _ _ _ :: _) _ _)); refine wpList_storeE_st (o := ⟨none, .store _ (.tmp 39) _, _, _, _, _⟩) rfl _ _ _ rfl rfl (v := .bool _) rfl HS tk sz_bool 4 3 rfl (by first | rfl | (simp; done) | omega) (by (try simp only [List.length_set]); exact hfl) vcs rfx rfx (List.getElem?_set_self (by (try simp only [List.length_set]); exact hfl)) (el := ((q : Int), (q : Int) + 1, (q : Int) + 2, ((q : Int) + 3) % 3 == 0)) (show i64ok ((q : Int)) ∧ i64ok ((q : Int) + 1) ∧ i64ok ((q : Int) + 2) ∧ True from by have := HO1.out; have := HO2.out; have := HO3.out; unfold i64ok at *; refine ⟨?_, ?_, ?_, trivial⟩ <;> omega) rfx (by simp) ?_ rfl; clear HS; intro w10_7 hz10_7 HS))
  go_loopw [1, 5] (fun kv i wr => ∃ k q : Nat, k ≤ l.length ∧ q = q0 + 4 * k ∧ kv = .int .i64 (q : Int) ∧ i = .int .i64 k ∧ St w0 wr (ownA (markMp k q0 ++ l.drop k) [.slice A1 l.length c1] :: Js)) (fun _ i _ => l.length - (intOf i).toNat)
  case atStart => exact ⟨0, q0, Nat.zero_le _, rfl, rfl, rfl, by simpa [markMp] using HS⟩
  case round =>
    clear HS
    obtain ⟨k, q, hkl, hq, rfl, rfl, HS⟩ := hrel
    have HQ := hid hq
    by_cases hlt : k < l.length
    case pos =>
      have hfl : k < (markMp k q0 ++ l.drop k).length := by rw [List.length_append, markMp_length, List.length_drop]; omega
      have HST := markMp_step (l := l) (q := q0) hlt
      have hk9 := markMp_at (l := l) (q := q0) hlt
      have hok := hokl.out _ (List.getElem_mem hlt)
      rw [← hq] at HST
      replace HST := hid HST
      have hqb : q ≤ 4611686018427387000 := by omega
      clear hq
      generalize l[k] = x at *
      obtain ⟨xd, xv, xp, xw⟩ := x
      have HK := hid hk9
      obtain ⟨o1, o2, o3, -⟩ : i64ok xd ∧ i64ok xv ∧ i64ok xp ∧ True := hok
      have HO1 := hid o1
      have HO2 := hid o2
      have HO3 := hid o3
      clear o1 o2 o3
      clear hk9
      obtain ⟨b, off, cc, hv, -, -⟩ := ownA.addr HS (show Take _ (ownA (markMp k q0 ++ l.drop k) [.slice A1 _ _]) _ from .head) (by omega)
      simp only [Value.slice.injEq] at hv
      obtain ⟨rfl, -, rfl⟩ := hv
      go_wp2_with (first
            | ((with_reducible (show wpList _ _ _ (Oper.mk none (Op.store _ (.tmp 16) _) _ _ _ _ :: _) _ _)); refine wpList_storeE_st (o := ⟨none, .store _ (.tmp 16) _, _, _, _, _⟩) rfl _ _ _ rfl rfl (v := .int .i64 _) rfl HS tk sz_int 4 0 rfl (by first | rfl | (simp; done) | omega) hfl vcs rfx rfx HK.out (el := ((q : Int), xv, xp, xw)) (show i64ok ((q : Int)) ∧ i64ok (xv) ∧ i64ok (xp) ∧ True from by have := HO1.out; have := HO2.out; have := HO3.out; unfold i64ok at *; refine ⟨?_, ?_, ?_, trivial⟩ <;> omega) rfx (by simp) ?_ rfl; clear HS; intro w4_5 hz4_5 HS)
            | ((with_reducible (show wpList _ _ _ (Oper.mk none (Op.store _ (.tmp 23) _) _ _ _ _ :: _) _ _)); refine wpList_storeE_st (o := ⟨none, .store _ (.tmp 23) _, _, _, _, _⟩) rfl _ _ _ rfl rfl (v := .int .i64 _) rfl HS tk sz_int 4 1 rfl (by first | rfl | (simp; done) | omega) (by (try simp only [List.length_set]); exact hfl) vcs rfx rfx (List.getElem?_set_self (by (try simp only [List.length_set]); exact hfl)) (el := ((q : Int), (q : Int) + 1, xp, xw)) (show i64ok ((q : Int)) ∧ i64ok ((q : Int) + 1) ∧ i64ok (xp) ∧ True from by have := HO1.out; have := HO2.out; have := HO3.out; unfold i64ok at *; refine ⟨?_, ?_, ?_, trivial⟩ <;> omega) rfx (by simp) ?_ rfl; clear HS; intro w6_5 hz6_5 HS)
            | ((with_reducible (show wpList _ _ _ (Oper.mk none (Op.store _ (.tmp 30) _) _ _ _ _ :: _) _ _)); refine wpList_storeE_st (o := ⟨none, .store _ (.tmp 30) _, _, _, _, _⟩) rfl _ _ _ rfl rfl (v := .int .i64 _) rfl HS tk sz_int 4 2 rfl (by first | rfl | (simp; done) | omega) (by (try simp only [List.length_set]); exact hfl) vcs rfx rfx (List.getElem?_set_self (by (try simp only [List.length_set]); exact hfl)) (el := ((q : Int), (q : Int) + 1, (q : Int) + 2, xw)) (show i64ok ((q : Int)) ∧ i64ok ((q : Int) + 1) ∧ i64ok ((q : Int) + 2) ∧ True from by have := HO1.out; have := HO2.out; have := HO3.out; unfold i64ok at *; refine ⟨?_, ?_, ?_, trivial⟩ <;> omega) rfx (by simp) ?_ rfl; clear HS; intro w8_5 hz8_5 HS)
            | ((with_reducible (show wpList _ _ _ (Oper.mk none (Op.store _ (.tmp 39) _) _ _ _ _ :: _) _ _)); refine wpList_storeE_st (o := ⟨none, .store _ (.tmp 39) _, _, _, _, _⟩) rfl _ _ _ rfl rfl (v := .bool _) rfl HS tk sz_bool 4 3 rfl (by first | rfl | (simp; done) | omega) (by (try simp only [List.length_set]); exact hfl) vcs rfx rfx (List.getElem?_set_self (by (try simp only [List.length_set]); exact hfl)) (el := ((q : Int), (q : Int) + 1, (q : Int) + 2, ((q : Int) + 3) % 3 == 0)) (show i64ok ((q : Int)) ∧ i64ok ((q : Int) + 1) ∧ i64ok ((q : Int) + 2) ∧ True from by have := HO1.out; have := HO2.out; have := HO3.out; unfold i64ok at *; refine ⟨?_, ?_, ?_, trivial⟩ <;> omega) rfx (by simp) ?_ rfl; clear HS; intro w10_7 hz10_7 HS))
      simp only [List.set_set] at HS
      go_roundw
      case rel => exact ⟨k + 1, q + 4, hlt, by rw [HQ.out]; omega, by first | rfl | (congr 1; omega), by go_num, by rw [← HST.out]; exact HS⟩
      case measure => simp [intOf]; omega
    case neg =>
      obtain rfl : k = l.length := by omega
      subst hq
      rw [List.drop_length, List.append_nil] at HS
      go_wp2_with (first
            | ((with_reducible (show wpList _ _ _ (Oper.mk none (Op.store _ (.tmp 16) _) _ _ _ _ :: _) _ _)); refine wpList_storeE_st (o := ⟨none, .store _ (.tmp 16) _, _, _, _, _⟩) rfl _ _ _ rfl rfl (v := .int .i64 _) rfl HS tk sz_int 4 0 rfl (by first | rfl | (simp; done) | omega) hfl vcs rfx rfx HK.out (el := ((q : Int), xv, xp, xw)) (show i64ok ((q : Int)) ∧ i64ok (xv) ∧ i64ok (xp) ∧ True from by have := HO1.out; have := HO2.out; have := HO3.out; unfold i64ok at *; refine ⟨?_, ?_, ?_, trivial⟩ <;> omega) rfx (by simp) ?_ rfl; clear HS; intro w4_5 hz4_5 HS)
            | ((with_reducible (show wpList _ _ _ (Oper.mk none (Op.store _ (.tmp 23) _) _ _ _ _ :: _) _ _)); refine wpList_storeE_st (o := ⟨none, .store _ (.tmp 23) _, _, _, _, _⟩) rfl _ _ _ rfl rfl (v := .int .i64 _) rfl HS tk sz_int 4 1 rfl (by first | rfl | (simp; done) | omega) (by (try simp only [List.length_set]); exact hfl) vcs rfx rfx (List.getElem?_set_self (by (try simp only [List.length_set]); exact hfl)) (el := ((q : Int), (q : Int) + 1, xp, xw)) (show i64ok ((q : Int)) ∧ i64ok ((q : Int) + 1) ∧ i64ok (xp) ∧ True from by have := HO1.out; have := HO2.out; have := HO3.out; unfold i64ok at *; refine ⟨?_, ?_, ?_, trivial⟩ <;> omega) rfx (by simp) ?_ rfl; clear HS; intro w6_5 hz6_5 HS)
            | ((with_reducible (show wpList _ _ _ (Oper.mk none (Op.store _ (.tmp 30) _) _ _ _ _ :: _) _ _)); refine wpList_storeE_st (o := ⟨none, .store _ (.tmp 30) _, _, _, _, _⟩) rfl _ _ _ rfl rfl (v := .int .i64 _) rfl HS tk sz_int 4 2 rfl (by first | rfl | (simp; done) | omega) (by (try simp only [List.length_set]); exact hfl) vcs rfx rfx (List.getElem?_set_self (by (try simp only [List.length_set]); exact hfl)) (el := ((q : Int), (q : Int) + 1, (q : Int) + 2, xw)) (show i64ok ((q : Int)) ∧ i64ok ((q : Int) + 1) ∧ i64ok ((q : Int) + 2) ∧ True from by have := HO1.out; have := HO2.out; have := HO3.out; unfold i64ok at *; refine ⟨?_, ?_, ?_, trivial⟩ <;> omega) rfx (by simp) ?_ rfl; clear HS; intro w8_5 hz8_5 HS)
            | ((with_reducible (show wpList _ _ _ (Oper.mk none (Op.store _ (.tmp 39) _) _ _ _ _ :: _) _ _)); refine wpList_storeE_st (o := ⟨none, .store _ (.tmp 39) _, _, _, _, _⟩) rfl _ _ _ rfl rfl (v := .bool _) rfl HS tk sz_bool 4 3 rfl (by first | rfl | (simp; done) | omega) (by (try simp only [List.length_set]); exact hfl) vcs rfx rfx (List.getElem?_set_self (by (try simp only [List.length_set]); exact hfl)) (el := ((q : Int), (q : Int) + 1, (q : Int) + 2, ((q : Int) + 3) % 3 == 0)) (show i64ok ((q : Int)) ∧ i64ok ((q : Int) + 1) ∧ i64ok ((q : Int) + 2) ∧ True from by have := HO1.out; have := HO2.out; have := HO3.out; unfold i64ok at *; refine ⟨?_, ?_, ?_, trivial⟩ <;> omega) rfx (by simp) ?_ rfl; clear HS; intro w10_7 hz10_7 HS))
      go_ret
      exact ⟨rfl, HS⟩
end Go.Proofs.YtncmlleohgeofaaGreat
end
section
namespace Go.Proofs.YtncmlleohgeofaaGreat
open Go Go.RowKit Go.Vc
set_option linter.unusedVariables false
set_option linter.unusedSimpArgs false
set_option maxHeartbeats 4000000 in
theorem c_laws_toRing {x_Base x_Size x_Head x_Tail : Int} : Con0 Tryz.prog 31 [.agg [V x_Base, V x_Size, V x_Head, V x_Tail]] (.agg [V x_Base, V x_Size, V x_Head, V x_Tail]) [] := by
  refine con_i Tryz.func31 Tryz.ntmps31 (t := [(0, .agg [V x_Base, V x_Size, V x_Head, V x_Tail])]) rfl ?_
  refine vc_sr ?_
  iterate 2 refine vo ?_
  refine vnt ?_
  refine vc_sr ?_
  refine vo ?_
  refine vnt ?_
  refine vc_sr ?_
  iterate 4 refine vo ?_
  refine vnt ?_
  refine vc_sr ?_
  iterate 4 refine vo ?_
  refine vnt ?_
  refine vc_sr ?_
  iterate 4 refine vo ?_
  refine vnt ?_
  refine vc_sr ?_
  iterate 4 refine vo ?_
  refine vnt ?_
  refine vc_sr ?_
  iterate 2 refine vo ?_
  refine vnt ?_
  refine vc_ret ?_
  refine fin_i [] rfl (fz ?_) (fz ?_) <;> first | trivial | rfl
set_option maxHeartbeats 4000000 in
theorem c_laws_eqRing {x_Base x_Size x_Head x_Tail : Int} : Con0 Tryz.prog 39 [.agg [V x_Base, V x_Size, V x_Head, V x_Tail], .agg [V x_Base, V x_Size, V x_Head, V x_Tail]] (B true) [] := by
  refine con_i Tryz.func39 Tryz.ntmps39 (t := [(0, .agg [V x_Base, V x_Size, V x_Head, V x_Tail]), (1, .agg [V x_Base, V x_Size, V x_Head, V x_Tail])]) rfl ?_
  refine vc_sr ?_
  iterate 3 refine vo ?_
  refine vnt ?_
  refine vc_seq' ?_
  refine vc_sr ?_
  iterate 5 refine vo ?_
  refine vnt ?_
  refine vc_if (fun g1 => ?_) (fun g1 => ?_)
  · first | contradiction | omega | (simp at g1; done)
  · refine vc_skip ?_
    refine thn ?_
    refine vc_seq' ?_
    refine vc_sr ?_
    iterate 5 refine vo ?_
    refine vnt ?_
    refine vc_if (fun g2 => ?_) (fun g2 => ?_)
    · first | contradiction | omega | (simp at g2; done)
    · refine vc_skip ?_
      refine thn ?_
      refine vc_seq' ?_
      refine vc_sr ?_
      iterate 5 refine vo ?_
      refine vnt ?_
      refine vc_if (fun g3 => ?_) (fun g3 => ?_)
      · first | contradiction | omega | (simp at g3; done)
      · refine vc_skip ?_
        refine thn ?_
        refine vc_seq' ?_
        refine vc_sr ?_
        iterate 5 refine vo ?_
        refine vnt ?_
        refine vc_if (fun g4 => ?_) (fun g4 => ?_)
        · first | contradiction | omega | (simp at g4; done)
        · refine vc_skip ?_
          refine thn ?_
          refine vc_sr ?_
          refine vo ?_
          refine vnt ?_
          refine vc_ret ?_
          refine fin_i [] rfl (fz ?_) (fz ?_) <;> first | trivial | rfl
set_option maxHeartbeats 4000000 in
theorem c_laws_toCompletionQueue {x_Base x_Size x_Count : Int} : Con0 Tryz.prog 32 [.agg [V x_Base, V x_Size, V x_Count]] (.agg [V x_Base, V x_Size, V x_Count]) [] := by
  refine con_i Tryz.func32 Tryz.ntmps32 (t := [(0, .agg [V x_Base, V x_Size, V x_Count])]) rfl ?_
  refine vc_sr ?_
  iterate 2 refine vo ?_
  refine vnt ?_
  refine vc_sr ?_
  refine vo ?_
  refine vnt ?_
  refine vc_sr ?_
  iterate 4 refine vo ?_
  refine vnt ?_
  refine vc_sr ?_
  iterate 4 refine vo ?_
  refine vnt ?_
  refine vc_sr ?_
  iterate 4 refine vo ?_
  refine vnt ?_
  refine vc_sr ?_
  iterate 2 refine vo ?_
  refine vnt ?_
  refine vc_ret ?_
  refine fin_i [] rfl (fz ?_) (fz ?_) <;> first | trivial | rfl
set_option maxHeartbeats 4000000 in
theorem c_laws_eqCompletionQueue {x_Base x_Size x_Count : Int} : Con0 Tryz.prog 40 [.agg [V x_Base, V x_Size, V x_Count], .agg [V x_Base, V x_Size, V x_Count]] (B true) [] := by
  refine con_i Tryz.func40 Tryz.ntmps40 (t := [(0, .agg [V x_Base, V x_Size, V x_Count]), (1, .agg [V x_Base, V x_Size, V x_Count])]) rfl ?_
  refine vc_sr ?_
  iterate 3 refine vo ?_
  refine vnt ?_
  refine vc_seq' ?_
  refine vc_sr ?_
  iterate 5 refine vo ?_
  refine vnt ?_
  refine vc_if (fun g1 => ?_) (fun g1 => ?_)
  · first | contradiction | omega | (simp at g1; done)
  · refine vc_skip ?_
    refine thn ?_
    refine vc_seq' ?_
    refine vc_sr ?_
    iterate 5 refine vo ?_
    refine vnt ?_
    refine vc_if (fun g2 => ?_) (fun g2 => ?_)
    · first | contradiction | omega | (simp at g2; done)
    · refine vc_skip ?_
      refine thn ?_
      refine vc_seq' ?_
      refine vc_sr ?_
      iterate 5 refine vo ?_
      refine vnt ?_
      refine vc_if (fun g3 => ?_) (fun g3 => ?_)
      · first | contradiction | omega | (simp at g3; done)
      · refine vc_skip ?_
        refine thn ?_
        refine vc_sr ?_
        refine vo ?_
        refine vnt ?_
        refine vc_ret ?_
        refine fin_i [] rfl (fz ?_) (fz ?_) <;> first | trivial | rfl
set_option maxHeartbeats 4000000 in
theorem c_laws_toSegment {x_Kind x_SrcPort x_DstPort x_Seq x_Ack x_Flags x_Window : Int} {x_Body : ByteArray} : Con0 Tryz.prog 50 [.agg [V x_Kind, V x_SrcPort, V x_DstPort, V x_Seq, V x_Ack, V x_Flags, V x_Window, VS x_Body]] (.agg [V x_Kind, V x_SrcPort, V x_DstPort, V x_Seq, V x_Ack, V x_Flags, V x_Window, VS x_Body]) [] := by
  refine con_i Tryz.func50 Tryz.ntmps50 (t := [(0, .agg [V x_Kind, V x_SrcPort, V x_DstPort, V x_Seq, V x_Ack, V x_Flags, V x_Window, VS x_Body])]) rfl ?_
  refine vc_sr ?_
  iterate 2 refine vo ?_
  refine vnt ?_
  refine vc_sr ?_
  refine vo ?_
  refine vnt ?_
  refine vc_sr ?_
  iterate 4 refine vo ?_
  refine vnt ?_
  refine vc_sr ?_
  iterate 4 refine vo ?_
  refine vnt ?_
  refine vc_sr ?_
  iterate 4 refine vo ?_
  refine vnt ?_
  refine vc_sr ?_
  iterate 4 refine vo ?_
  refine vnt ?_
  refine vc_sr ?_
  iterate 4 refine vo ?_
  refine vnt ?_
  refine vc_sr ?_
  iterate 4 refine vo ?_
  refine vnt ?_
  refine vc_sr ?_
  iterate 4 refine vo ?_
  refine vnt ?_
  refine vc_sr ?_
  iterate 4 refine vo ?_
  refine vnt ?_
  refine vc_sr ?_
  iterate 2 refine vo ?_
  refine vnt ?_
  refine vc_ret ?_
  refine fin_i [] rfl (fz ?_) (fz ?_) <;> first | trivial | rfl
set_option maxHeartbeats 4000000 in
theorem c_laws_eqSegment {x_Kind x_SrcPort x_DstPort x_Seq x_Ack x_Flags x_Window : Int} {x_Body : ByteArray} : Con0 Tryz.prog 123 [.agg [V x_Kind, V x_SrcPort, V x_DstPort, V x_Seq, V x_Ack, V x_Flags, V x_Window, VS x_Body], .agg [V x_Kind, V x_SrcPort, V x_DstPort, V x_Seq, V x_Ack, V x_Flags, V x_Window, VS x_Body]] (B true) [] := by
  refine con_i Tryz.func123 Tryz.ntmps123 (t := [(0, .agg [V x_Kind, V x_SrcPort, V x_DstPort, V x_Seq, V x_Ack, V x_Flags, V x_Window, VS x_Body]), (1, .agg [V x_Kind, V x_SrcPort, V x_DstPort, V x_Seq, V x_Ack, V x_Flags, V x_Window, VS x_Body])]) rfl ?_
  refine vc_sr ?_
  iterate 3 refine vo ?_
  refine vnt ?_
  refine vc_seq' ?_
  refine vc_sr ?_
  iterate 5 refine vo ?_
  refine vnt ?_
  refine vc_if (fun g1 => ?_) (fun g1 => ?_)
  · first | contradiction | omega | (simp at g1; done)
  · refine vc_skip ?_
    refine thn ?_
    refine vc_seq' ?_
    refine vc_sr ?_
    iterate 5 refine vo ?_
    refine vnt ?_
    refine vc_if (fun g2 => ?_) (fun g2 => ?_)
    · first | contradiction | omega | (simp at g2; done)
    · refine vc_skip ?_
      refine thn ?_
      refine vc_seq' ?_
      refine vc_sr ?_
      iterate 5 refine vo ?_
      refine vnt ?_
      refine vc_if (fun g3 => ?_) (fun g3 => ?_)
      · first | contradiction | omega | (simp at g3; done)
      · refine vc_skip ?_
        refine thn ?_
        refine vc_seq' ?_
        refine vc_sr ?_
        iterate 5 refine vo ?_
        refine vnt ?_
        refine vc_if (fun g4 => ?_) (fun g4 => ?_)
        · first | contradiction | omega | (simp at g4; done)
        · refine vc_skip ?_
          refine thn ?_
          refine vc_seq' ?_
          refine vc_sr ?_
          iterate 5 refine vo ?_
          refine vnt ?_
          refine vc_if (fun g5 => ?_) (fun g5 => ?_)
          · first | contradiction | omega | (simp at g5; done)
          · refine vc_skip ?_
            refine thn ?_
            refine vc_seq' ?_
            refine vc_sr ?_
            iterate 5 refine vo ?_
            refine vnt ?_
            refine vc_if (fun g6 => ?_) (fun g6 => ?_)
            · first | contradiction | omega | (simp at g6; done)
            · refine vc_skip ?_
              refine thn ?_
              refine vc_seq' ?_
              refine vc_sr ?_
              iterate 5 refine vo ?_
              refine vnt ?_
              refine vc_if (fun g7 => ?_) (fun g7 => ?_)
              · first | contradiction | omega | (simp at g7; done)
              · refine vc_skip ?_
                refine thn ?_
                refine vc_seq' ?_
                refine vc_sr ?_
                iterate 5 refine vo ?_
                refine vnt ?_
                refine vc_if (fun g8 => ?_) (fun g8 => ?_)
                · first | contradiction | omega | (simp at g8; done)
                · refine vc_skip ?_
                  refine thn ?_
                  refine vc_sr ?_
                  refine vo ?_
                  refine vnt ?_
                  refine vc_ret ?_
                  refine fin_i [] rfl (fz ?_) (fz ?_) <;> first | trivial | rfl
set_option maxHeartbeats 4000000 in
theorem c_laws_szSegment_le {x_Kind x_SrcPort x_DstPort x_Seq x_Ack x_Flags x_Window : Int} {x_Body : ByteArray} {left : Int} (hL : left ≤ 1048576 := by omega) (h : (x_Body.size : Int) ≤ left := by omega) (hs_x_Body : x_Body.size ≤ 9223372036854775807 := by first | assumption | omega) : Con0 Tryz.prog 45 [.agg [V x_Kind, V x_SrcPort, V x_DstPort, V x_Seq, V x_Ack, V x_Flags, V x_Window, VS x_Body], I left] (I (left - x_Body.size)) [] := by
  refine con_i Tryz.func45 Tryz.ntmps45 (t := [(0, .agg [V x_Kind, V x_SrcPort, V x_DstPort, V x_Seq, V x_Ack, V x_Flags, V x_Window, VS x_Body]), (1, I left)]) rfl ?_
  refine vc_sr ?_
  iterate 2 refine vo ?_
  refine vnt ?_
  refine vc_sr ?_
  iterate 5 refine vo ?_
  try refine vwr ?_
  refine vo ?_
  refine vnt ?_
  refine vc_seq' ?_
  refine vc_sr ?_
  iterate 2 refine vo ?_
  refine vnt ?_
  refine vc_if (fun g1 => ?_) (fun g1 => ?_)
  · first | contradiction | omega | (simp at g1; done)
  · refine vc_skip ?_
    refine thn ?_
    refine vc_sr ?_
    iterate 2 refine vo ?_
    refine vnt ?_
    refine vc_ret ?_
    refine fin_i [] rfl (fz ?_) (fz ?_) <;> first | trivial | rfl | omega | (simp; omega)
set_option maxHeartbeats 4000000 in
theorem c_laws_szSegment_gt {x_Kind x_SrcPort x_DstPort x_Seq x_Ack x_Flags x_Window : Int} {x_Body : ByteArray} {left : Int} (hL : left ≤ 1048576 := by omega) (h0 : 0 ≤ left := by omega) (h : left < (x_Body.size : Int) := by omega) (hs_x_Body : x_Body.size ≤ 9223372036854775807 := by first | assumption | omega) : Con0 Tryz.prog 45 [.agg [V x_Kind, V x_SrcPort, V x_DstPort, V x_Seq, V x_Ack, V x_Flags, V x_Window, VS x_Body], I left] (I (-1)) [] := by
  refine con_i Tryz.func45 Tryz.ntmps45 (t := [(0, .agg [V x_Kind, V x_SrcPort, V x_DstPort, V x_Seq, V x_Ack, V x_Flags, V x_Window, VS x_Body]), (1, I left)]) rfl ?_
  refine vc_sr ?_
  iterate 2 refine vo ?_
  refine vnt ?_
  refine vc_sr ?_
  iterate 5 refine vo ?_
  try refine vwr ?_
  refine vo ?_
  refine vnt ?_
  refine vc_seq' ?_
  refine vc_sr ?_
  iterate 2 refine vo ?_
  refine vnt ?_
  refine vc_if (fun g1 => ?_) (fun g1 => ?_)
  · refine vc_sr ?_
    refine vo ?_
    refine vnt ?_
    refine vc_ret ?_
    refine thn_r ?_
    refine fin_i [] rfl (fz ?_) (fz ?_) <;> first | trivial | rfl | omega | (simp; omega)
  · first | contradiction | omega | (simp at g1; done; done)
set_option maxHeartbeats 4000000 in
theorem c_laws_toPacket {x_DstMac x_SrcMac x_Vlan x_Tos x_Id x_Ttl x_SrcIp x_DstIp x_Seg_Kind x_Seg_SrcPort x_Seg_DstPort x_Seg_Seq x_Seg_Ack x_Seg_Flags x_Seg_Window : Int} {x_Seg_Body : ByteArray} : Con0 Tryz.prog 21 [.agg [V x_DstMac, V x_SrcMac, V x_Vlan, V x_Tos, V x_Id, V x_Ttl, V x_SrcIp, V x_DstIp, V x_Seg_Kind, V x_Seg_SrcPort, V x_Seg_DstPort, V x_Seg_Seq, V x_Seg_Ack, V x_Seg_Flags, V x_Seg_Window, VS x_Seg_Body]] (.agg [V x_DstMac, V x_SrcMac, V x_Vlan, V x_Tos, V x_Id, V x_Ttl, V x_SrcIp, V x_DstIp, V x_Seg_Kind, V x_Seg_SrcPort, V x_Seg_DstPort, V x_Seg_Seq, V x_Seg_Ack, V x_Seg_Flags, V x_Seg_Window, VS x_Seg_Body]) [] := by
  refine con_i Tryz.func21 Tryz.ntmps21 (t := [(0, .agg [V x_DstMac, V x_SrcMac, V x_Vlan, V x_Tos, V x_Id, V x_Ttl, V x_SrcIp, V x_DstIp, V x_Seg_Kind, V x_Seg_SrcPort, V x_Seg_DstPort, V x_Seg_Seq, V x_Seg_Ack, V x_Seg_Flags, V x_Seg_Window, VS x_Seg_Body])]) rfl ?_
  refine vc_sr ?_
  iterate 2 refine vo ?_
  refine vnt ?_
  refine vc_sr ?_
  refine vo ?_
  refine vnt ?_
  refine vc_sr ?_
  iterate 4 refine vo ?_
  refine vnt ?_
  refine vc_sr ?_
  iterate 4 refine vo ?_
  refine vnt ?_
  refine vc_sr ?_
  iterate 4 refine vo ?_
  refine vnt ?_
  refine vc_sr ?_
  iterate 4 refine vo ?_
  refine vnt ?_
  refine vc_sr ?_
  iterate 4 refine vo ?_
  refine vnt ?_
  refine vc_sr ?_
  iterate 4 refine vo ?_
  refine vnt ?_
  refine vc_sr ?_
  iterate 4 refine vo ?_
  refine vnt ?_
  refine vc_sr ?_
  iterate 4 refine vo ?_
  refine vnt ?_
  refine vc_sr ?_
  iterate 2 refine vo ?_
  refine voc c_laws_toSegment rfl rfl ?_
  iterate 2 refine vo ?_
  refine vnt ?_
  refine vc_sr ?_
  iterate 2 refine vo ?_
  refine vnt ?_
  refine vc_ret ?_
  refine fin_i [] rfl (fz ?_) (fz ?_) <;> first | trivial | rfl
set_option maxHeartbeats 4000000 in
theorem c_laws_eqPacket {x_DstMac x_SrcMac x_Vlan x_Tos x_Id x_Ttl x_SrcIp x_DstIp x_Seg_Kind x_Seg_SrcPort x_Seg_DstPort x_Seg_Seq x_Seg_Ack x_Seg_Flags x_Seg_Window : Int} {x_Seg_Body : ByteArray} : Con0 Tryz.prog 82 [.agg [V x_DstMac, V x_SrcMac, V x_Vlan, V x_Tos, V x_Id, V x_Ttl, V x_SrcIp, V x_DstIp, V x_Seg_Kind, V x_Seg_SrcPort, V x_Seg_DstPort, V x_Seg_Seq, V x_Seg_Ack, V x_Seg_Flags, V x_Seg_Window, VS x_Seg_Body], .agg [V x_DstMac, V x_SrcMac, V x_Vlan, V x_Tos, V x_Id, V x_Ttl, V x_SrcIp, V x_DstIp, V x_Seg_Kind, V x_Seg_SrcPort, V x_Seg_DstPort, V x_Seg_Seq, V x_Seg_Ack, V x_Seg_Flags, V x_Seg_Window, VS x_Seg_Body]] (B true) [] := by
  refine con_i Tryz.func82 Tryz.ntmps82 (t := [(0, .agg [V x_DstMac, V x_SrcMac, V x_Vlan, V x_Tos, V x_Id, V x_Ttl, V x_SrcIp, V x_DstIp, V x_Seg_Kind, V x_Seg_SrcPort, V x_Seg_DstPort, V x_Seg_Seq, V x_Seg_Ack, V x_Seg_Flags, V x_Seg_Window, VS x_Seg_Body]), (1, .agg [V x_DstMac, V x_SrcMac, V x_Vlan, V x_Tos, V x_Id, V x_Ttl, V x_SrcIp, V x_DstIp, V x_Seg_Kind, V x_Seg_SrcPort, V x_Seg_DstPort, V x_Seg_Seq, V x_Seg_Ack, V x_Seg_Flags, V x_Seg_Window, VS x_Seg_Body])]) rfl ?_
  refine vc_sr ?_
  iterate 3 refine vo ?_
  refine vnt ?_
  refine vc_seq' ?_
  refine vc_sr ?_
  iterate 5 refine vo ?_
  refine vnt ?_
  refine vc_if (fun g1 => ?_) (fun g1 => ?_)
  · first | contradiction | omega | (simp at g1; done)
  · refine vc_skip ?_
    refine thn ?_
    refine vc_seq' ?_
    refine vc_sr ?_
    iterate 5 refine vo ?_
    refine vnt ?_
    refine vc_if (fun g2 => ?_) (fun g2 => ?_)
    · first | contradiction | omega | (simp at g2; done)
    · refine vc_skip ?_
      refine thn ?_
      refine vc_seq' ?_
      refine vc_sr ?_
      iterate 5 refine vo ?_
      refine vnt ?_
      refine vc_if (fun g3 => ?_) (fun g3 => ?_)
      · first | contradiction | omega | (simp at g3; done)
      · refine vc_skip ?_
        refine thn ?_
        refine vc_seq' ?_
        refine vc_sr ?_
        iterate 5 refine vo ?_
        refine vnt ?_
        refine vc_if (fun g4 => ?_) (fun g4 => ?_)
        · first | contradiction | omega | (simp at g4; done)
        · refine vc_skip ?_
          refine thn ?_
          refine vc_seq' ?_
          refine vc_sr ?_
          iterate 5 refine vo ?_
          refine vnt ?_
          refine vc_if (fun g5 => ?_) (fun g5 => ?_)
          · first | contradiction | omega | (simp at g5; done)
          · refine vc_skip ?_
            refine thn ?_
            refine vc_seq' ?_
            refine vc_sr ?_
            iterate 5 refine vo ?_
            refine vnt ?_
            refine vc_if (fun g6 => ?_) (fun g6 => ?_)
            · first | contradiction | omega | (simp at g6; done)
            · refine vc_skip ?_
              refine thn ?_
              refine vc_seq' ?_
              refine vc_sr ?_
              iterate 5 refine vo ?_
              refine vnt ?_
              refine vc_if (fun g7 => ?_) (fun g7 => ?_)
              · first | contradiction | omega | (simp at g7; done)
              · refine vc_skip ?_
                refine thn ?_
                refine vc_seq' ?_
                refine vc_sr ?_
                iterate 5 refine vo ?_
                refine vnt ?_
                refine vc_if (fun g8 => ?_) (fun g8 => ?_)
                · first | contradiction | omega | (simp at g8; done)
                · refine vc_skip ?_
                  refine thn ?_
                  refine vc_seq' ?_
                  refine vc_sr ?_
                  iterate 4 refine vo ?_
                  refine voc c_laws_eqSegment rfl rfl ?_
                  refine vo ?_
                  refine vnt ?_
                  refine vc_if (fun g9 => ?_) (fun g9 => ?_)
                  · first | contradiction | omega | (simp at g9; done)
                  · refine vc_skip ?_
                    refine thn ?_
                    refine vc_sr ?_
                    refine vo ?_
                    refine vnt ?_
                    refine vc_ret ?_
                    refine fin_i [] rfl (fz ?_) (fz ?_) <;> first | trivial | rfl
set_option maxHeartbeats 4000000 in
theorem c_laws_szPacket_le {x_DstMac x_SrcMac x_Vlan x_Tos x_Id x_Ttl x_SrcIp x_DstIp x_Seg_Kind x_Seg_SrcPort x_Seg_DstPort x_Seg_Seq x_Seg_Ack x_Seg_Flags x_Seg_Window : Int} {x_Seg_Body : ByteArray} {left : Int} (hL : left ≤ 1048576 := by omega) (h : (x_Seg_Body.size : Int) ≤ left := by omega) (hs_x_Seg_Body : x_Seg_Body.size ≤ 9223372036854775807 := by first | assumption | omega) : Con0 Tryz.prog 19 [.agg [V x_DstMac, V x_SrcMac, V x_Vlan, V x_Tos, V x_Id, V x_Ttl, V x_SrcIp, V x_DstIp, V x_Seg_Kind, V x_Seg_SrcPort, V x_Seg_DstPort, V x_Seg_Seq, V x_Seg_Ack, V x_Seg_Flags, V x_Seg_Window, VS x_Seg_Body], I left] (I (left - x_Seg_Body.size)) [] := by
  refine con_i Tryz.func19 Tryz.ntmps19 (t := [(0, .agg [V x_DstMac, V x_SrcMac, V x_Vlan, V x_Tos, V x_Id, V x_Ttl, V x_SrcIp, V x_DstIp, V x_Seg_Kind, V x_Seg_SrcPort, V x_Seg_DstPort, V x_Seg_Seq, V x_Seg_Ack, V x_Seg_Flags, V x_Seg_Window, VS x_Seg_Body]), (1, I left)]) rfl ?_
  refine vc_sr ?_
  iterate 2 refine vo ?_
  refine vnt ?_
  refine vc_sr ?_
  iterate 3 refine vo ?_
  refine voc c_laws_szSegment_le rfl rfl ?_
  refine vo ?_
  refine vnt ?_
  refine vc_seq' ?_
  refine vc_sr ?_
  iterate 2 refine vo ?_
  refine vnt ?_
  refine vc_if (fun g1 => ?_) (fun g1 => ?_)
  · first | contradiction | omega | (simp at g1; done)
  · refine vc_skip ?_
    refine thn ?_
    refine vc_sr ?_
    iterate 2 refine vo ?_
    refine vnt ?_
    refine vc_ret ?_
    refine fin_i [] rfl (fz ?_) (fz ?_) <;> first | trivial | rfl | omega | (simp; omega)
set_option maxHeartbeats 4000000 in
theorem c_laws_szPacket_gt {x_DstMac x_SrcMac x_Vlan x_Tos x_Id x_Ttl x_SrcIp x_DstIp x_Seg_Kind x_Seg_SrcPort x_Seg_DstPort x_Seg_Seq x_Seg_Ack x_Seg_Flags x_Seg_Window : Int} {x_Seg_Body : ByteArray} {left : Int} (hL : left ≤ 1048576 := by omega) (h0 : 0 ≤ left := by omega) (h : left < (x_Seg_Body.size : Int) := by omega) (hs_x_Seg_Body : x_Seg_Body.size ≤ 9223372036854775807 := by first | assumption | omega) : Con0 Tryz.prog 19 [.agg [V x_DstMac, V x_SrcMac, V x_Vlan, V x_Tos, V x_Id, V x_Ttl, V x_SrcIp, V x_DstIp, V x_Seg_Kind, V x_Seg_SrcPort, V x_Seg_DstPort, V x_Seg_Seq, V x_Seg_Ack, V x_Seg_Flags, V x_Seg_Window, VS x_Seg_Body], I left] (I (-1)) [] := by
  refine con_i Tryz.func19 Tryz.ntmps19 (t := [(0, .agg [V x_DstMac, V x_SrcMac, V x_Vlan, V x_Tos, V x_Id, V x_Ttl, V x_SrcIp, V x_DstIp, V x_Seg_Kind, V x_Seg_SrcPort, V x_Seg_DstPort, V x_Seg_Seq, V x_Seg_Ack, V x_Seg_Flags, V x_Seg_Window, VS x_Seg_Body]), (1, I left)]) rfl ?_
  refine vc_sr ?_
  iterate 2 refine vo ?_
  refine vnt ?_
  refine vc_sr ?_
  iterate 3 refine vo ?_
  refine voc c_laws_szSegment_gt rfl rfl ?_
  refine vo ?_
  refine vnt ?_
  refine vc_seq' ?_
  refine vc_sr ?_
  iterate 2 refine vo ?_
  refine vnt ?_
  refine vc_if (fun g1 => ?_) (fun g1 => ?_)
  · refine vc_sr ?_
    refine vo ?_
    refine vnt ?_
    refine vc_ret ?_
    refine thn_r ?_
    refine fin_i [] rfl (fz ?_) (fz ?_) <;> first | trivial | rfl | omega | (simp; omega)
  · first | contradiction | omega | (simp at g1; done; done)
set_option maxHeartbeats 4000000 in
theorem c_laws_toSuper {x_Packet_DstMac x_Packet_SrcMac x_Packet_Vlan x_Packet_Tos x_Packet_Id x_Packet_Ttl x_Packet_SrcIp x_Packet_DstIp x_Packet_Seg_Kind x_Packet_Seg_SrcPort x_Packet_Seg_DstPort x_Packet_Seg_Seq x_Packet_Seg_Ack x_Packet_Seg_Flags x_Packet_Seg_Window x_Size x_Count : Int} {x_Packet_Seg_Body : ByteArray} : Con0 Tryz.prog 33 [.agg [V x_Packet_DstMac, V x_Packet_SrcMac, V x_Packet_Vlan, V x_Packet_Tos, V x_Packet_Id, V x_Packet_Ttl, V x_Packet_SrcIp, V x_Packet_DstIp, V x_Packet_Seg_Kind, V x_Packet_Seg_SrcPort, V x_Packet_Seg_DstPort, V x_Packet_Seg_Seq, V x_Packet_Seg_Ack, V x_Packet_Seg_Flags, V x_Packet_Seg_Window, VS x_Packet_Seg_Body, V x_Size, V x_Count]] (.agg [V x_Packet_DstMac, V x_Packet_SrcMac, V x_Packet_Vlan, V x_Packet_Tos, V x_Packet_Id, V x_Packet_Ttl, V x_Packet_SrcIp, V x_Packet_DstIp, V x_Packet_Seg_Kind, V x_Packet_Seg_SrcPort, V x_Packet_Seg_DstPort, V x_Packet_Seg_Seq, V x_Packet_Seg_Ack, V x_Packet_Seg_Flags, V x_Packet_Seg_Window, VS x_Packet_Seg_Body, V x_Size, V x_Count]) [] := by
  refine con_i Tryz.func33 Tryz.ntmps33 (t := [(0, .agg [V x_Packet_DstMac, V x_Packet_SrcMac, V x_Packet_Vlan, V x_Packet_Tos, V x_Packet_Id, V x_Packet_Ttl, V x_Packet_SrcIp, V x_Packet_DstIp, V x_Packet_Seg_Kind, V x_Packet_Seg_SrcPort, V x_Packet_Seg_DstPort, V x_Packet_Seg_Seq, V x_Packet_Seg_Ack, V x_Packet_Seg_Flags, V x_Packet_Seg_Window, VS x_Packet_Seg_Body, V x_Size, V x_Count])]) rfl ?_
  refine vc_sr ?_
  iterate 2 refine vo ?_
  refine vnt ?_
  refine vc_sr ?_
  refine vo ?_
  refine vnt ?_
  refine vc_sr ?_
  iterate 2 refine vo ?_
  refine voc c_laws_toPacket rfl rfl ?_
  iterate 2 refine vo ?_
  refine vnt ?_
  refine vc_sr ?_
  iterate 4 refine vo ?_
  refine vnt ?_
  refine vc_sr ?_
  iterate 4 refine vo ?_
  refine vnt ?_
  refine vc_sr ?_
  iterate 2 refine vo ?_
  refine vnt ?_
  refine vc_ret ?_
  refine fin_i [] rfl (fz ?_) (fz ?_) <;> first | trivial | rfl
set_option maxHeartbeats 4000000 in
theorem c_laws_eqSuper {x_Packet_DstMac x_Packet_SrcMac x_Packet_Vlan x_Packet_Tos x_Packet_Id x_Packet_Ttl x_Packet_SrcIp x_Packet_DstIp x_Packet_Seg_Kind x_Packet_Seg_SrcPort x_Packet_Seg_DstPort x_Packet_Seg_Seq x_Packet_Seg_Ack x_Packet_Seg_Flags x_Packet_Seg_Window x_Size x_Count : Int} {x_Packet_Seg_Body : ByteArray} : Con0 Tryz.prog 41 [.agg [V x_Packet_DstMac, V x_Packet_SrcMac, V x_Packet_Vlan, V x_Packet_Tos, V x_Packet_Id, V x_Packet_Ttl, V x_Packet_SrcIp, V x_Packet_DstIp, V x_Packet_Seg_Kind, V x_Packet_Seg_SrcPort, V x_Packet_Seg_DstPort, V x_Packet_Seg_Seq, V x_Packet_Seg_Ack, V x_Packet_Seg_Flags, V x_Packet_Seg_Window, VS x_Packet_Seg_Body, V x_Size, V x_Count], .agg [V x_Packet_DstMac, V x_Packet_SrcMac, V x_Packet_Vlan, V x_Packet_Tos, V x_Packet_Id, V x_Packet_Ttl, V x_Packet_SrcIp, V x_Packet_DstIp, V x_Packet_Seg_Kind, V x_Packet_Seg_SrcPort, V x_Packet_Seg_DstPort, V x_Packet_Seg_Seq, V x_Packet_Seg_Ack, V x_Packet_Seg_Flags, V x_Packet_Seg_Window, VS x_Packet_Seg_Body, V x_Size, V x_Count]] (B true) [] := by
  refine con_i Tryz.func41 Tryz.ntmps41 (t := [(0, .agg [V x_Packet_DstMac, V x_Packet_SrcMac, V x_Packet_Vlan, V x_Packet_Tos, V x_Packet_Id, V x_Packet_Ttl, V x_Packet_SrcIp, V x_Packet_DstIp, V x_Packet_Seg_Kind, V x_Packet_Seg_SrcPort, V x_Packet_Seg_DstPort, V x_Packet_Seg_Seq, V x_Packet_Seg_Ack, V x_Packet_Seg_Flags, V x_Packet_Seg_Window, VS x_Packet_Seg_Body, V x_Size, V x_Count]), (1, .agg [V x_Packet_DstMac, V x_Packet_SrcMac, V x_Packet_Vlan, V x_Packet_Tos, V x_Packet_Id, V x_Packet_Ttl, V x_Packet_SrcIp, V x_Packet_DstIp, V x_Packet_Seg_Kind, V x_Packet_Seg_SrcPort, V x_Packet_Seg_DstPort, V x_Packet_Seg_Seq, V x_Packet_Seg_Ack, V x_Packet_Seg_Flags, V x_Packet_Seg_Window, VS x_Packet_Seg_Body, V x_Size, V x_Count])]) rfl ?_
  refine vc_sr ?_
  iterate 3 refine vo ?_
  refine vnt ?_
  refine vc_seq' ?_
  refine vc_sr ?_
  iterate 4 refine vo ?_
  refine voc c_laws_eqPacket rfl rfl ?_
  refine vo ?_
  refine vnt ?_
  refine vc_if (fun g1 => ?_) (fun g1 => ?_)
  · first | contradiction | omega | (simp at g1; done)
  · refine vc_skip ?_
    refine thn ?_
    refine vc_seq' ?_
    refine vc_sr ?_
    iterate 5 refine vo ?_
    refine vnt ?_
    refine vc_if (fun g2 => ?_) (fun g2 => ?_)
    · first | contradiction | omega | (simp at g2; done)
    · refine vc_skip ?_
      refine thn ?_
      refine vc_seq' ?_
      refine vc_sr ?_
      iterate 5 refine vo ?_
      refine vnt ?_
      refine vc_if (fun g3 => ?_) (fun g3 => ?_)
      · first | contradiction | omega | (simp at g3; done)
      · refine vc_skip ?_
        refine thn ?_
        refine vc_sr ?_
        refine vo ?_
        refine vnt ?_
        refine vc_ret ?_
        refine fin_i [] rfl (fz ?_) (fz ?_) <;> first | trivial | rfl
set_option maxHeartbeats 4000000 in
theorem c_laws_szSuper_le {x_Packet_DstMac x_Packet_SrcMac x_Packet_Vlan x_Packet_Tos x_Packet_Id x_Packet_Ttl x_Packet_SrcIp x_Packet_DstIp x_Packet_Seg_Kind x_Packet_Seg_SrcPort x_Packet_Seg_DstPort x_Packet_Seg_Seq x_Packet_Seg_Ack x_Packet_Seg_Flags x_Packet_Seg_Window x_Size x_Count : Int} {x_Packet_Seg_Body : ByteArray} {left : Int} (hL : left ≤ 1048576 := by omega) (h : (x_Packet_Seg_Body.size : Int) ≤ left := by omega) (hs_x_Packet_Seg_Body : x_Packet_Seg_Body.size ≤ 9223372036854775807 := by first | assumption | omega) : Con0 Tryz.prog 24 [.agg [V x_Packet_DstMac, V x_Packet_SrcMac, V x_Packet_Vlan, V x_Packet_Tos, V x_Packet_Id, V x_Packet_Ttl, V x_Packet_SrcIp, V x_Packet_DstIp, V x_Packet_Seg_Kind, V x_Packet_Seg_SrcPort, V x_Packet_Seg_DstPort, V x_Packet_Seg_Seq, V x_Packet_Seg_Ack, V x_Packet_Seg_Flags, V x_Packet_Seg_Window, VS x_Packet_Seg_Body, V x_Size, V x_Count], I left] (I (left - x_Packet_Seg_Body.size)) [] := by
  refine con_i Tryz.func24 Tryz.ntmps24 (t := [(0, .agg [V x_Packet_DstMac, V x_Packet_SrcMac, V x_Packet_Vlan, V x_Packet_Tos, V x_Packet_Id, V x_Packet_Ttl, V x_Packet_SrcIp, V x_Packet_DstIp, V x_Packet_Seg_Kind, V x_Packet_Seg_SrcPort, V x_Packet_Seg_DstPort, V x_Packet_Seg_Seq, V x_Packet_Seg_Ack, V x_Packet_Seg_Flags, V x_Packet_Seg_Window, VS x_Packet_Seg_Body, V x_Size, V x_Count]), (1, I left)]) rfl ?_
  refine vc_sr ?_
  iterate 2 refine vo ?_
  refine vnt ?_
  refine vc_sr ?_
  iterate 3 refine vo ?_
  refine voc c_laws_szPacket_le rfl rfl ?_
  refine vo ?_
  refine vnt ?_
  refine vc_seq' ?_
  refine vc_sr ?_
  iterate 2 refine vo ?_
  refine vnt ?_
  refine vc_if (fun g1 => ?_) (fun g1 => ?_)
  · first | contradiction | omega | (simp at g1; done)
  · refine vc_skip ?_
    refine thn ?_
    refine vc_sr ?_
    iterate 2 refine vo ?_
    refine vnt ?_
    refine vc_ret ?_
    refine fin_i [] rfl (fz ?_) (fz ?_) <;> first | trivial | rfl | omega | (simp; omega)
set_option maxHeartbeats 4000000 in
theorem c_laws_szSuper_gt {x_Packet_DstMac x_Packet_SrcMac x_Packet_Vlan x_Packet_Tos x_Packet_Id x_Packet_Ttl x_Packet_SrcIp x_Packet_DstIp x_Packet_Seg_Kind x_Packet_Seg_SrcPort x_Packet_Seg_DstPort x_Packet_Seg_Seq x_Packet_Seg_Ack x_Packet_Seg_Flags x_Packet_Seg_Window x_Size x_Count : Int} {x_Packet_Seg_Body : ByteArray} {left : Int} (hL : left ≤ 1048576 := by omega) (h0 : 0 ≤ left := by omega) (h : left < (x_Packet_Seg_Body.size : Int) := by omega) (hs_x_Packet_Seg_Body : x_Packet_Seg_Body.size ≤ 9223372036854775807 := by first | assumption | omega) : Con0 Tryz.prog 24 [.agg [V x_Packet_DstMac, V x_Packet_SrcMac, V x_Packet_Vlan, V x_Packet_Tos, V x_Packet_Id, V x_Packet_Ttl, V x_Packet_SrcIp, V x_Packet_DstIp, V x_Packet_Seg_Kind, V x_Packet_Seg_SrcPort, V x_Packet_Seg_DstPort, V x_Packet_Seg_Seq, V x_Packet_Seg_Ack, V x_Packet_Seg_Flags, V x_Packet_Seg_Window, VS x_Packet_Seg_Body, V x_Size, V x_Count], I left] (I (-1)) [] := by
  refine con_i Tryz.func24 Tryz.ntmps24 (t := [(0, .agg [V x_Packet_DstMac, V x_Packet_SrcMac, V x_Packet_Vlan, V x_Packet_Tos, V x_Packet_Id, V x_Packet_Ttl, V x_Packet_SrcIp, V x_Packet_DstIp, V x_Packet_Seg_Kind, V x_Packet_Seg_SrcPort, V x_Packet_Seg_DstPort, V x_Packet_Seg_Seq, V x_Packet_Seg_Ack, V x_Packet_Seg_Flags, V x_Packet_Seg_Window, VS x_Packet_Seg_Body, V x_Size, V x_Count]), (1, I left)]) rfl ?_
  refine vc_sr ?_
  iterate 2 refine vo ?_
  refine vnt ?_
  refine vc_sr ?_
  iterate 3 refine vo ?_
  refine voc c_laws_szPacket_gt rfl rfl ?_
  refine vo ?_
  refine vnt ?_
  refine vc_seq' ?_
  refine vc_sr ?_
  iterate 2 refine vo ?_
  refine vnt ?_
  refine vc_if (fun g1 => ?_) (fun g1 => ?_)
  · refine vc_sr ?_
    refine vo ?_
    refine vnt ?_
    refine vc_ret ?_
    refine thn_r ?_
    refine fin_i [] rfl (fz ?_) (fz ?_) <;> first | trivial | rfl | omega | (simp; omega)
  · first | contradiction | omega | (simp at g1; done; done)
set_option maxHeartbeats 4000000 in
theorem c_laws_toRxQueue {x_Ring_Base x_Ring_Size x_Ring_Head x_Ring_Tail x_Device_Base x_Device_Size x_Device_Count x_Driver_Base x_Driver_Size x_Driver_Count x_Held_Packet_DstMac x_Held_Packet_SrcMac x_Held_Packet_Vlan x_Held_Packet_Tos x_Held_Packet_Id x_Held_Packet_Ttl x_Held_Packet_SrcIp x_Held_Packet_DstIp x_Held_Packet_Seg_Kind x_Held_Packet_Seg_SrcPort x_Held_Packet_Seg_DstPort x_Held_Packet_Seg_Seq x_Held_Packet_Seg_Ack x_Held_Packet_Seg_Flags x_Held_Packet_Seg_Window x_Held_Size x_Held_Count x_Dropped : Int} {x_Holding : Bool} {x_Held_Packet_Seg_Body : ByteArray} : Con0 Tryz.prog 11 [.agg [V x_Ring_Base, V x_Ring_Size, V x_Ring_Head, V x_Ring_Tail, V x_Device_Base, V x_Device_Size, V x_Device_Count, V x_Driver_Base, V x_Driver_Size, V x_Driver_Count, V x_Held_Packet_DstMac, V x_Held_Packet_SrcMac, V x_Held_Packet_Vlan, V x_Held_Packet_Tos, V x_Held_Packet_Id, V x_Held_Packet_Ttl, V x_Held_Packet_SrcIp, V x_Held_Packet_DstIp, V x_Held_Packet_Seg_Kind, V x_Held_Packet_Seg_SrcPort, V x_Held_Packet_Seg_DstPort, V x_Held_Packet_Seg_Seq, V x_Held_Packet_Seg_Ack, V x_Held_Packet_Seg_Flags, V x_Held_Packet_Seg_Window, VS x_Held_Packet_Seg_Body, V x_Held_Size, V x_Held_Count, VB x_Holding, V x_Dropped]] (.agg [V x_Ring_Base, V x_Ring_Size, V x_Ring_Head, V x_Ring_Tail, V x_Device_Base, V x_Device_Size, V x_Device_Count, V x_Driver_Base, V x_Driver_Size, V x_Driver_Count, V x_Held_Packet_DstMac, V x_Held_Packet_SrcMac, V x_Held_Packet_Vlan, V x_Held_Packet_Tos, V x_Held_Packet_Id, V x_Held_Packet_Ttl, V x_Held_Packet_SrcIp, V x_Held_Packet_DstIp, V x_Held_Packet_Seg_Kind, V x_Held_Packet_Seg_SrcPort, V x_Held_Packet_Seg_DstPort, V x_Held_Packet_Seg_Seq, V x_Held_Packet_Seg_Ack, V x_Held_Packet_Seg_Flags, V x_Held_Packet_Seg_Window, VS x_Held_Packet_Seg_Body, V x_Held_Size, V x_Held_Count, VB x_Holding, V x_Dropped]) [] := by
  refine con_i Tryz.func11 Tryz.ntmps11 (t := [(0, .agg [V x_Ring_Base, V x_Ring_Size, V x_Ring_Head, V x_Ring_Tail, V x_Device_Base, V x_Device_Size, V x_Device_Count, V x_Driver_Base, V x_Driver_Size, V x_Driver_Count, V x_Held_Packet_DstMac, V x_Held_Packet_SrcMac, V x_Held_Packet_Vlan, V x_Held_Packet_Tos, V x_Held_Packet_Id, V x_Held_Packet_Ttl, V x_Held_Packet_SrcIp, V x_Held_Packet_DstIp, V x_Held_Packet_Seg_Kind, V x_Held_Packet_Seg_SrcPort, V x_Held_Packet_Seg_DstPort, V x_Held_Packet_Seg_Seq, V x_Held_Packet_Seg_Ack, V x_Held_Packet_Seg_Flags, V x_Held_Packet_Seg_Window, VS x_Held_Packet_Seg_Body, V x_Held_Size, V x_Held_Count, VB x_Holding, V x_Dropped])]) rfl ?_
  refine vc_sr ?_
  iterate 2 refine vo ?_
  refine vnt ?_
  refine vc_sr ?_
  refine vo ?_
  refine vnt ?_
  refine vc_sr ?_
  iterate 2 refine vo ?_
  refine voc c_laws_toRing rfl rfl ?_
  iterate 2 refine vo ?_
  refine vnt ?_
  refine vc_sr ?_
  iterate 2 refine vo ?_
  refine voc c_laws_toCompletionQueue rfl rfl ?_
  iterate 2 refine vo ?_
  refine vnt ?_
  refine vc_sr ?_
  iterate 2 refine vo ?_
  refine voc c_laws_toCompletionQueue rfl rfl ?_
  iterate 2 refine vo ?_
  refine vnt ?_
  refine vc_sr ?_
  iterate 2 refine vo ?_
  refine voc c_laws_toSuper rfl rfl ?_
  iterate 2 refine vo ?_
  refine vnt ?_
  refine vc_sr ?_
  iterate 4 refine vo ?_
  refine vnt ?_
  refine vc_sr ?_
  iterate 4 refine vo ?_
  refine vnt ?_
  refine vc_sr ?_
  iterate 2 refine vo ?_
  refine vnt ?_
  refine vc_ret ?_
  refine fin_i [] rfl (fz ?_) (fz ?_) <;> first | trivial | rfl
set_option maxHeartbeats 4000000 in
theorem c_laws_eqRxQueue {x_Ring_Base x_Ring_Size x_Ring_Head x_Ring_Tail x_Device_Base x_Device_Size x_Device_Count x_Driver_Base x_Driver_Size x_Driver_Count x_Held_Packet_DstMac x_Held_Packet_SrcMac x_Held_Packet_Vlan x_Held_Packet_Tos x_Held_Packet_Id x_Held_Packet_Ttl x_Held_Packet_SrcIp x_Held_Packet_DstIp x_Held_Packet_Seg_Kind x_Held_Packet_Seg_SrcPort x_Held_Packet_Seg_DstPort x_Held_Packet_Seg_Seq x_Held_Packet_Seg_Ack x_Held_Packet_Seg_Flags x_Held_Packet_Seg_Window x_Held_Size x_Held_Count x_Dropped : Int} {x_Holding : Bool} {x_Held_Packet_Seg_Body : ByteArray} : Con0 Tryz.prog 14 [.agg [V x_Ring_Base, V x_Ring_Size, V x_Ring_Head, V x_Ring_Tail, V x_Device_Base, V x_Device_Size, V x_Device_Count, V x_Driver_Base, V x_Driver_Size, V x_Driver_Count, V x_Held_Packet_DstMac, V x_Held_Packet_SrcMac, V x_Held_Packet_Vlan, V x_Held_Packet_Tos, V x_Held_Packet_Id, V x_Held_Packet_Ttl, V x_Held_Packet_SrcIp, V x_Held_Packet_DstIp, V x_Held_Packet_Seg_Kind, V x_Held_Packet_Seg_SrcPort, V x_Held_Packet_Seg_DstPort, V x_Held_Packet_Seg_Seq, V x_Held_Packet_Seg_Ack, V x_Held_Packet_Seg_Flags, V x_Held_Packet_Seg_Window, VS x_Held_Packet_Seg_Body, V x_Held_Size, V x_Held_Count, VB x_Holding, V x_Dropped], .agg [V x_Ring_Base, V x_Ring_Size, V x_Ring_Head, V x_Ring_Tail, V x_Device_Base, V x_Device_Size, V x_Device_Count, V x_Driver_Base, V x_Driver_Size, V x_Driver_Count, V x_Held_Packet_DstMac, V x_Held_Packet_SrcMac, V x_Held_Packet_Vlan, V x_Held_Packet_Tos, V x_Held_Packet_Id, V x_Held_Packet_Ttl, V x_Held_Packet_SrcIp, V x_Held_Packet_DstIp, V x_Held_Packet_Seg_Kind, V x_Held_Packet_Seg_SrcPort, V x_Held_Packet_Seg_DstPort, V x_Held_Packet_Seg_Seq, V x_Held_Packet_Seg_Ack, V x_Held_Packet_Seg_Flags, V x_Held_Packet_Seg_Window, VS x_Held_Packet_Seg_Body, V x_Held_Size, V x_Held_Count, VB x_Holding, V x_Dropped]] (B true) [] := by
  refine con_i Tryz.func14 Tryz.ntmps14 (t := [(0, .agg [V x_Ring_Base, V x_Ring_Size, V x_Ring_Head, V x_Ring_Tail, V x_Device_Base, V x_Device_Size, V x_Device_Count, V x_Driver_Base, V x_Driver_Size, V x_Driver_Count, V x_Held_Packet_DstMac, V x_Held_Packet_SrcMac, V x_Held_Packet_Vlan, V x_Held_Packet_Tos, V x_Held_Packet_Id, V x_Held_Packet_Ttl, V x_Held_Packet_SrcIp, V x_Held_Packet_DstIp, V x_Held_Packet_Seg_Kind, V x_Held_Packet_Seg_SrcPort, V x_Held_Packet_Seg_DstPort, V x_Held_Packet_Seg_Seq, V x_Held_Packet_Seg_Ack, V x_Held_Packet_Seg_Flags, V x_Held_Packet_Seg_Window, VS x_Held_Packet_Seg_Body, V x_Held_Size, V x_Held_Count, VB x_Holding, V x_Dropped]), (1, .agg [V x_Ring_Base, V x_Ring_Size, V x_Ring_Head, V x_Ring_Tail, V x_Device_Base, V x_Device_Size, V x_Device_Count, V x_Driver_Base, V x_Driver_Size, V x_Driver_Count, V x_Held_Packet_DstMac, V x_Held_Packet_SrcMac, V x_Held_Packet_Vlan, V x_Held_Packet_Tos, V x_Held_Packet_Id, V x_Held_Packet_Ttl, V x_Held_Packet_SrcIp, V x_Held_Packet_DstIp, V x_Held_Packet_Seg_Kind, V x_Held_Packet_Seg_SrcPort, V x_Held_Packet_Seg_DstPort, V x_Held_Packet_Seg_Seq, V x_Held_Packet_Seg_Ack, V x_Held_Packet_Seg_Flags, V x_Held_Packet_Seg_Window, VS x_Held_Packet_Seg_Body, V x_Held_Size, V x_Held_Count, VB x_Holding, V x_Dropped])]) rfl ?_
  refine vc_sr ?_
  iterate 3 refine vo ?_
  refine vnt ?_
  refine vc_seq' ?_
  refine vc_sr ?_
  iterate 4 refine vo ?_
  refine voc c_laws_eqRing rfl rfl ?_
  refine vo ?_
  refine vnt ?_
  refine vc_if (fun g1 => ?_) (fun g1 => ?_)
  · first | contradiction | omega | (simp at g1; done)
  · refine vc_skip ?_
    refine thn ?_
    refine vc_seq' ?_
    refine vc_sr ?_
    iterate 4 refine vo ?_
    refine voc c_laws_eqCompletionQueue rfl rfl ?_
    refine vo ?_
    refine vnt ?_
    refine vc_if (fun g2 => ?_) (fun g2 => ?_)
    · first | contradiction | omega | (simp at g2; done)
    · refine vc_skip ?_
      refine thn ?_
      refine vc_seq' ?_
      refine vc_sr ?_
      iterate 4 refine vo ?_
      refine voc c_laws_eqCompletionQueue rfl rfl ?_
      refine vo ?_
      refine vnt ?_
      refine vc_if (fun g3 => ?_) (fun g3 => ?_)
      · first | contradiction | omega | (simp at g3; done)
      · refine vc_skip ?_
        refine thn ?_
        refine vc_seq' ?_
        refine vc_sr ?_
        iterate 4 refine vo ?_
        refine voc c_laws_eqSuper rfl rfl ?_
        refine vo ?_
        refine vnt ?_
        refine vc_if (fun g4 => ?_) (fun g4 => ?_)
        · first | contradiction | omega | (simp at g4; done)
        · refine vc_skip ?_
          refine thn ?_
          refine vc_seq' ?_
          refine vc_sr ?_
          iterate 5 refine vo ?_
          refine vnt ?_
          refine vc_if (fun g5 => ?_) (fun g5 => ?_)
          · first | contradiction | omega | (simp at g5; done)
          · refine vc_skip ?_
            refine thn ?_
            refine vc_seq' ?_
            refine vc_sr ?_
            iterate 5 refine vo ?_
            refine vnt ?_
            refine vc_if (fun g6 => ?_) (fun g6 => ?_)
            · first | contradiction | omega | (simp at g6; done)
            · refine vc_skip ?_
              refine thn ?_
              refine vc_sr ?_
              refine vo ?_
              refine vnt ?_
              refine vc_ret ?_
              refine fin_i [] rfl (fz ?_) (fz ?_) <;> first | trivial | rfl
set_option maxHeartbeats 4000000 in
theorem c_laws_szRxQueue_le {x_Ring_Base x_Ring_Size x_Ring_Head x_Ring_Tail x_Device_Base x_Device_Size x_Device_Count x_Driver_Base x_Driver_Size x_Driver_Count x_Held_Packet_DstMac x_Held_Packet_SrcMac x_Held_Packet_Vlan x_Held_Packet_Tos x_Held_Packet_Id x_Held_Packet_Ttl x_Held_Packet_SrcIp x_Held_Packet_DstIp x_Held_Packet_Seg_Kind x_Held_Packet_Seg_SrcPort x_Held_Packet_Seg_DstPort x_Held_Packet_Seg_Seq x_Held_Packet_Seg_Ack x_Held_Packet_Seg_Flags x_Held_Packet_Seg_Window x_Held_Size x_Held_Count x_Dropped : Int} {x_Holding : Bool} {x_Held_Packet_Seg_Body : ByteArray} {left : Int} (hL : left ≤ 1048576 := by omega) (h : (x_Held_Packet_Seg_Body.size : Int) ≤ left := by omega) (hs_x_Held_Packet_Seg_Body : x_Held_Packet_Seg_Body.size ≤ 9223372036854775807 := by first | assumption | omega) : Con0 Tryz.prog 7 [.agg [V x_Ring_Base, V x_Ring_Size, V x_Ring_Head, V x_Ring_Tail, V x_Device_Base, V x_Device_Size, V x_Device_Count, V x_Driver_Base, V x_Driver_Size, V x_Driver_Count, V x_Held_Packet_DstMac, V x_Held_Packet_SrcMac, V x_Held_Packet_Vlan, V x_Held_Packet_Tos, V x_Held_Packet_Id, V x_Held_Packet_Ttl, V x_Held_Packet_SrcIp, V x_Held_Packet_DstIp, V x_Held_Packet_Seg_Kind, V x_Held_Packet_Seg_SrcPort, V x_Held_Packet_Seg_DstPort, V x_Held_Packet_Seg_Seq, V x_Held_Packet_Seg_Ack, V x_Held_Packet_Seg_Flags, V x_Held_Packet_Seg_Window, VS x_Held_Packet_Seg_Body, V x_Held_Size, V x_Held_Count, VB x_Holding, V x_Dropped], I left] (I (left - x_Held_Packet_Seg_Body.size)) [] := by
  refine con_i Tryz.func7 Tryz.ntmps7 (t := [(0, .agg [V x_Ring_Base, V x_Ring_Size, V x_Ring_Head, V x_Ring_Tail, V x_Device_Base, V x_Device_Size, V x_Device_Count, V x_Driver_Base, V x_Driver_Size, V x_Driver_Count, V x_Held_Packet_DstMac, V x_Held_Packet_SrcMac, V x_Held_Packet_Vlan, V x_Held_Packet_Tos, V x_Held_Packet_Id, V x_Held_Packet_Ttl, V x_Held_Packet_SrcIp, V x_Held_Packet_DstIp, V x_Held_Packet_Seg_Kind, V x_Held_Packet_Seg_SrcPort, V x_Held_Packet_Seg_DstPort, V x_Held_Packet_Seg_Seq, V x_Held_Packet_Seg_Ack, V x_Held_Packet_Seg_Flags, V x_Held_Packet_Seg_Window, VS x_Held_Packet_Seg_Body, V x_Held_Size, V x_Held_Count, VB x_Holding, V x_Dropped]), (1, I left)]) rfl ?_
  refine vc_sr ?_
  iterate 2 refine vo ?_
  refine vnt ?_
  refine vc_sr ?_
  iterate 3 refine vo ?_
  refine voc c_laws_szSuper_le rfl rfl ?_
  refine vo ?_
  refine vnt ?_
  refine vc_seq' ?_
  refine vc_sr ?_
  iterate 2 refine vo ?_
  refine vnt ?_
  refine vc_if (fun g1 => ?_) (fun g1 => ?_)
  · first | contradiction | omega | (simp at g1; done)
  · refine vc_skip ?_
    refine thn ?_
    refine vc_sr ?_
    iterate 2 refine vo ?_
    refine vnt ?_
    refine vc_ret ?_
    refine fin_i [] rfl (fz ?_) (fz ?_) <;> first | trivial | rfl | omega | (simp; omega)
set_option maxHeartbeats 4000000 in
theorem c_laws_szRxQueue_gt {x_Ring_Base x_Ring_Size x_Ring_Head x_Ring_Tail x_Device_Base x_Device_Size x_Device_Count x_Driver_Base x_Driver_Size x_Driver_Count x_Held_Packet_DstMac x_Held_Packet_SrcMac x_Held_Packet_Vlan x_Held_Packet_Tos x_Held_Packet_Id x_Held_Packet_Ttl x_Held_Packet_SrcIp x_Held_Packet_DstIp x_Held_Packet_Seg_Kind x_Held_Packet_Seg_SrcPort x_Held_Packet_Seg_DstPort x_Held_Packet_Seg_Seq x_Held_Packet_Seg_Ack x_Held_Packet_Seg_Flags x_Held_Packet_Seg_Window x_Held_Size x_Held_Count x_Dropped : Int} {x_Holding : Bool} {x_Held_Packet_Seg_Body : ByteArray} {left : Int} (hL : left ≤ 1048576 := by omega) (h0 : 0 ≤ left := by omega) (h : left < (x_Held_Packet_Seg_Body.size : Int) := by omega) (hs_x_Held_Packet_Seg_Body : x_Held_Packet_Seg_Body.size ≤ 9223372036854775807 := by first | assumption | omega) : Con0 Tryz.prog 7 [.agg [V x_Ring_Base, V x_Ring_Size, V x_Ring_Head, V x_Ring_Tail, V x_Device_Base, V x_Device_Size, V x_Device_Count, V x_Driver_Base, V x_Driver_Size, V x_Driver_Count, V x_Held_Packet_DstMac, V x_Held_Packet_SrcMac, V x_Held_Packet_Vlan, V x_Held_Packet_Tos, V x_Held_Packet_Id, V x_Held_Packet_Ttl, V x_Held_Packet_SrcIp, V x_Held_Packet_DstIp, V x_Held_Packet_Seg_Kind, V x_Held_Packet_Seg_SrcPort, V x_Held_Packet_Seg_DstPort, V x_Held_Packet_Seg_Seq, V x_Held_Packet_Seg_Ack, V x_Held_Packet_Seg_Flags, V x_Held_Packet_Seg_Window, VS x_Held_Packet_Seg_Body, V x_Held_Size, V x_Held_Count, VB x_Holding, V x_Dropped], I left] (I (-1)) [] := by
  refine con_i Tryz.func7 Tryz.ntmps7 (t := [(0, .agg [V x_Ring_Base, V x_Ring_Size, V x_Ring_Head, V x_Ring_Tail, V x_Device_Base, V x_Device_Size, V x_Device_Count, V x_Driver_Base, V x_Driver_Size, V x_Driver_Count, V x_Held_Packet_DstMac, V x_Held_Packet_SrcMac, V x_Held_Packet_Vlan, V x_Held_Packet_Tos, V x_Held_Packet_Id, V x_Held_Packet_Ttl, V x_Held_Packet_SrcIp, V x_Held_Packet_DstIp, V x_Held_Packet_Seg_Kind, V x_Held_Packet_Seg_SrcPort, V x_Held_Packet_Seg_DstPort, V x_Held_Packet_Seg_Seq, V x_Held_Packet_Seg_Ack, V x_Held_Packet_Seg_Flags, V x_Held_Packet_Seg_Window, VS x_Held_Packet_Seg_Body, V x_Held_Size, V x_Held_Count, VB x_Holding, V x_Dropped]), (1, I left)]) rfl ?_
  refine vc_sr ?_
  iterate 2 refine vo ?_
  refine vnt ?_
  refine vc_sr ?_
  iterate 3 refine vo ?_
  refine voc c_laws_szSuper_gt rfl rfl ?_
  refine vo ?_
  refine vnt ?_
  refine vc_seq' ?_
  refine vc_sr ?_
  iterate 2 refine vo ?_
  refine vnt ?_
  refine vc_if (fun g1 => ?_) (fun g1 => ?_)
  · refine vc_sr ?_
    refine vo ?_
    refine vnt ?_
    refine vc_ret ?_
    refine thn_r ?_
    refine fin_i [] rfl (fz ?_) (fz ?_) <;> first | trivial | rfl | omega | (simp; omega)
  · first | contradiction | omega | (simp at g1; done; done)
section
variable {P : Program} {f : FuncId} {args : List AV} {vs : List Value} {w : World}
theorem ab_agg (cs : List Value) (h : cs.all (·.oneCell') = true) {w : World} : AB w (.agg (cs.map .v)) (.agg cs.toArray) := ⟨cs, rfl, F2.plain h⟩
theorem rb_sl {α : Type} [Rep α] [Flat α] {w : World} {xs : List α} {v : Value} {E : α → List Value} (hE : ∀ x, E x = Flat.cells x) (h : Holds w xs [v]) : RB w (.sl (Rep.size α) (xs.map E)) v := by
  obtain ⟨a, cap, e, h1, h2, h3, h4⟩ := h.flat
  obtain rfl : v = .slice a xs.length cap := by simpa using e
  refine ⟨a, cap, by rw [List.length_map], by rwa [List.length_map], h2, fun e he => ?_, fun hne => ?_⟩
  · obtain ⟨x, _, rfl⟩ := List.mem_map.1 he
    rw [hE]; exact ⟨Flat.len x, List.all_eq_true.2 (Flat.one x)⟩
  · have hl : 0 < xs.length := by
      rcases xs with _ | ⟨x, xs⟩
      · exact (hne rfl).elim
      · exact Nat.succ_pos _
    obtain ⟨b, off, ha, _⟩ := h3 0 hl
    refine ⟨b, off, ha, fun i e he j hj => ?_⟩
    rw [List.getElem?_map] at he
    obtain ⟨x, hx, rfl⟩ := Option.map_eq_some_iff.1 he
    obtain ⟨hi, rfl⟩ := List.getElem?_eq_some_iff.1 hx
    obtain ⟨b', off', ha', hc⟩ := h3 i hi
    rw [ha] at ha'
    simp only [Option.some.injEq, Addr.mk.injEq, and_true] at ha'
    obtain ⟨rfl, rfl⟩ := ha'
    rw [hE]; exact hc j hj
theorem ab_mem {ps : Pg} {v : Value} (h : Holds w ps [v]) : AB w (.agg [.sl 1 (ps.map strE)]) (.agg #[v]) := ⟨[v], rfl, .cons (R.of_rb (rb_sl (fun _ => rfl) h)) .nil⟩
theorem ab_mps {l : List Mp} {v : Value} (h : Holds w l [v]) : AB w (.one (.sl 4 (l.map mpE))) v := R.of_rb (w0 := w) (D := fun _ => False) (ρ := fun _ => undef) (rb_sl (fun _ => rfl) h)
theorem shP_v (b : Nat) : ∀ cs : List Value, ((cs.map PV.v).map (shP b)) = cs.map PV.v
  | [] => rfl
  | _ :: cs => by simp only [List.map_cons, shP_v b cs]; rfl
theorem old_one {x : Value} (hc : Con0 P f args (.one (.v x)) []) (ha : F2 (AB w) args vs) : Calls P f vs.toArray w fun e w' => e = .returned x ∧ Ex w w' := by
  refine (hc.2 w vs ha 0).mono fun e w' h => ?_
  obtain ⟨u, ρ, rfl, h1, _, _, _, As, h2, h3⟩ := h
  obtain ⟨rfl, _⟩ : u = x ∧ _ := h1
  exact ⟨rfl, h3.ex⟩
theorem old_agg {cs : List Value} (hc : Con0 P f args (.agg (cs.map .v)) []) (ha : F2 (AB w) args vs) : Calls P f vs.toArray w fun e w' => e = .returned (.agg cs.toArray) ∧ Ex w w' := by
  refine (hc.2 w vs ha 0).mono fun e w' h => ?_
  obtain ⟨u, ρ, rfl, h1, _, _, _, As, h2, h3⟩ := h
  obtain ⟨us, rfl, h1⟩ : ∃ us : List Value, u = .agg us.toArray ∧ F2 _ ((cs.map PV.v).map (shP 0)) us := h1
  rw [shP_v] at h1
  obtain ⟨rfl, _⟩ := F2.map_v h1
  exact ⟨rfl, h3.ex⟩
theorem pg_flat (ps : Pg) : (ps.map strE).flatten = ps.flatMap Flat.cells := by rw [List.flatMap_def]; rfl
theorem old_mem {ps : Pg} {cs : List Value} {E : TypeId} (hc : Con0 P f args (.tup [.agg [.hs 0], .agg (cs.map .v)]) [(0, .arr E 1 (ps.map strE))]) (ha : F2 (AB w) args vs) (hok : ∀ p ∈ ps, p.size ≤ maxLen) :
    Calls P f vs.toArray w fun e w' => ∃ a c, e = .returned (.tuple #[.agg #[.slice a ps.length c], .agg cs.toArray]) ∧ Owns w.heap.size w' ps [.slice a ps.length c] ∧ Ex w w' := by
  refine (hc.2 w vs ha 0).mono fun e w' h => ?_
  obtain ⟨u, ρ, rfl, h1, _, _, _, As, h2, h3⟩ := h
  obtain ⟨us, rfl, h1⟩ : ∃ us : List Value, u = .tuple us.toArray ∧ F2 (AR1 w _ ρ) [.agg [.hs (0 + 0)], .agg ((cs.map PV.v).map (shP 0))] us := h1
  cases h1 with
  | cons g1 g2 =>
  cases g2 with
  | cons g2 g3 =>
  cases g3
  obtain ⟨us1, rfl, k1⟩ := g1
  obtain ⟨us2, rfl, k2⟩ := g2
  rw [shP_v] at k2
  obtain ⟨rfl, _⟩ := F2.map_v k2
  cases k1 with
  | cons k1 k3 =>
  cases k3
  obtain ⟨_, rfl, _⟩ := k1
  cases h2 with
  | cons q1 q2 =>
  cases q2
  obtain ⟨_, rfl⟩ := q1
  rw [pg_flat] at h3
  have h4 := h3.shut (α := ByteArray) .head rfl hok
  have ho := h4.owns .head
  obtain ⟨a, c, hv, _⟩ := ho.holds.flat
  simp only [List.cons.injEq, and_true] at hv
  rw [hv] at ho ⊢
  exact ⟨a, c, rfl, ho, h3.ex⟩
end
theorem toPacket_w (x_DstMac : Int) (x_SrcMac : Int) (x_Vlan : Int) (x_Tos : Int) (x_Id : Int) (x_Ttl : Int) (x_SrcIp : Int) (x_DstIp : Int) (x_Seg_Kind : Int) (x_Seg_SrcPort : Int) (x_Seg_DstPort : Int) (x_Seg_Seq : Int) (x_Seg_Ack : Int) (x_Seg_Flags : Int) (x_Seg_Window : Int) (x_Seg_Body : ByteArray) (w : World) : Calls Tryz.prog 21 #[.agg #[.int .i64 x_DstMac, .int .i64 x_SrcMac, .int .i64 x_Vlan, .int .i64 x_Tos, .int .i64 x_Id, .int .i64 x_Ttl, .int .i64 x_SrcIp, .int .i64 x_DstIp, .int .i64 x_Seg_Kind, .int .i64 x_Seg_SrcPort, .int .i64 x_Seg_DstPort, .int .i64 x_Seg_Seq, .int .i64 x_Seg_Ack, .int .i64 x_Seg_Flags, .int .i64 x_Seg_Window, .string x_Seg_Body]] w fun e w' => e = .returned (.agg #[.int .i64 x_DstMac, .int .i64 x_SrcMac, .int .i64 x_Vlan, .int .i64 x_Tos, .int .i64 x_Id, .int .i64 x_Ttl, .int .i64 x_SrcIp, .int .i64 x_DstIp, .int .i64 x_Seg_Kind, .int .i64 x_Seg_SrcPort, .int .i64 x_Seg_DstPort, .int .i64 x_Seg_Seq, .int .i64 x_Seg_Ack, .int .i64 x_Seg_Flags, .int .i64 x_Seg_Window, .string x_Seg_Body]) ∧ Ex w w' :=
  old_agg (cs := [.int .i64 x_DstMac, .int .i64 x_SrcMac, .int .i64 x_Vlan, .int .i64 x_Tos, .int .i64 x_Id, .int .i64 x_Ttl, .int .i64 x_SrcIp, .int .i64 x_DstIp, .int .i64 x_Seg_Kind, .int .i64 x_Seg_SrcPort, .int .i64 x_Seg_DstPort, .int .i64 x_Seg_Seq, .int .i64 x_Seg_Ack, .int .i64 x_Seg_Flags, .int .i64 x_Seg_Window, .string x_Seg_Body]) c_laws_toPacket (.cons (ab_agg [.int .i64 x_DstMac, .int .i64 x_SrcMac, .int .i64 x_Vlan, .int .i64 x_Tos, .int .i64 x_Id, .int .i64 x_Ttl, .int .i64 x_SrcIp, .int .i64 x_DstIp, .int .i64 x_Seg_Kind, .int .i64 x_Seg_SrcPort, .int .i64 x_Seg_DstPort, .int .i64 x_Seg_Seq, .int .i64 x_Seg_Ack, .int .i64 x_Seg_Flags, .int .i64 x_Seg_Window, .string x_Seg_Body] rfl) .nil)
theorem szPacket_le_w (x_DstMac : Int) (x_SrcMac : Int) (x_Vlan : Int) (x_Tos : Int) (x_Id : Int) (x_Ttl : Int) (x_SrcIp : Int) (x_DstIp : Int) (x_Seg_Kind : Int) (x_Seg_SrcPort : Int) (x_Seg_DstPort : Int) (x_Seg_Seq : Int) (x_Seg_Ack : Int) (x_Seg_Flags : Int) (x_Seg_Window : Int) (x_Seg_Body : ByteArray) (left : Int) (w : World) (hL : left ≤ 1048576) (h : (x_Seg_Body.size : Int) ≤ left) (hb : x_Seg_Body.size ≤ maxLen) : Calls Tryz.prog 19 #[.agg #[.int .i64 x_DstMac, .int .i64 x_SrcMac, .int .i64 x_Vlan, .int .i64 x_Tos, .int .i64 x_Id, .int .i64 x_Ttl, .int .i64 x_SrcIp, .int .i64 x_DstIp, .int .i64 x_Seg_Kind, .int .i64 x_Seg_SrcPort, .int .i64 x_Seg_DstPort, .int .i64 x_Seg_Seq, .int .i64 x_Seg_Ack, .int .i64 x_Seg_Flags, .int .i64 x_Seg_Window, .string x_Seg_Body], .int .i64 left] w fun e w' => e = .returned (.int .i64 (left - x_Seg_Body.size)) ∧ Ex w w' :=
  old_one (c_laws_szPacket_le hL h (by unfold maxLen at hb; omega)) (.cons (ab_agg [.int .i64 x_DstMac, .int .i64 x_SrcMac, .int .i64 x_Vlan, .int .i64 x_Tos, .int .i64 x_Id, .int .i64 x_Ttl, .int .i64 x_SrcIp, .int .i64 x_DstIp, .int .i64 x_Seg_Kind, .int .i64 x_Seg_SrcPort, .int .i64 x_Seg_DstPort, .int .i64 x_Seg_Seq, .int .i64 x_Seg_Ack, .int .i64 x_Seg_Flags, .int .i64 x_Seg_Window, .string x_Seg_Body] rfl) (.cons ⟨rfl, rfl⟩ .nil))
theorem szPacket_gt_w (x_DstMac : Int) (x_SrcMac : Int) (x_Vlan : Int) (x_Tos : Int) (x_Id : Int) (x_Ttl : Int) (x_SrcIp : Int) (x_DstIp : Int) (x_Seg_Kind : Int) (x_Seg_SrcPort : Int) (x_Seg_DstPort : Int) (x_Seg_Seq : Int) (x_Seg_Ack : Int) (x_Seg_Flags : Int) (x_Seg_Window : Int) (x_Seg_Body : ByteArray) (left : Int) (w : World) (hL : left ≤ 1048576) (h0 : 0 ≤ left) (h : left < (x_Seg_Body.size : Int)) (hb : x_Seg_Body.size ≤ maxLen) : Calls Tryz.prog 19 #[.agg #[.int .i64 x_DstMac, .int .i64 x_SrcMac, .int .i64 x_Vlan, .int .i64 x_Tos, .int .i64 x_Id, .int .i64 x_Ttl, .int .i64 x_SrcIp, .int .i64 x_DstIp, .int .i64 x_Seg_Kind, .int .i64 x_Seg_SrcPort, .int .i64 x_Seg_DstPort, .int .i64 x_Seg_Seq, .int .i64 x_Seg_Ack, .int .i64 x_Seg_Flags, .int .i64 x_Seg_Window, .string x_Seg_Body], .int .i64 left] w fun e w' => e = .returned (.int .i64 (-1)) ∧ Ex w w' :=
  old_one (c_laws_szPacket_gt hL h0 h (by unfold maxLen at hb; omega)) (.cons (ab_agg [.int .i64 x_DstMac, .int .i64 x_SrcMac, .int .i64 x_Vlan, .int .i64 x_Tos, .int .i64 x_Id, .int .i64 x_Ttl, .int .i64 x_SrcIp, .int .i64 x_DstIp, .int .i64 x_Seg_Kind, .int .i64 x_Seg_SrcPort, .int .i64 x_Seg_DstPort, .int .i64 x_Seg_Seq, .int .i64 x_Seg_Ack, .int .i64 x_Seg_Flags, .int .i64 x_Seg_Window, .string x_Seg_Body] rfl) (.cons ⟨rfl, rfl⟩ .nil))
theorem toRxQueue_w (x_Ring_Base : Int) (x_Ring_Size : Int) (x_Ring_Head : Int) (x_Ring_Tail : Int) (x_Device_Base : Int) (x_Device_Size : Int) (x_Device_Count : Int) (x_Driver_Base : Int) (x_Driver_Size : Int) (x_Driver_Count : Int) (x_Held_Packet_DstMac : Int) (x_Held_Packet_SrcMac : Int) (x_Held_Packet_Vlan : Int) (x_Held_Packet_Tos : Int) (x_Held_Packet_Id : Int) (x_Held_Packet_Ttl : Int) (x_Held_Packet_SrcIp : Int) (x_Held_Packet_DstIp : Int) (x_Held_Packet_Seg_Kind : Int) (x_Held_Packet_Seg_SrcPort : Int) (x_Held_Packet_Seg_DstPort : Int) (x_Held_Packet_Seg_Seq : Int) (x_Held_Packet_Seg_Ack : Int) (x_Held_Packet_Seg_Flags : Int) (x_Held_Packet_Seg_Window : Int) (x_Held_Packet_Seg_Body : ByteArray) (x_Held_Size : Int) (x_Held_Count : Int) (x_Holding : Bool) (x_Dropped : Int) (w : World) : Calls Tryz.prog 11 #[.agg #[.int .i64 x_Ring_Base, .int .i64 x_Ring_Size, .int .i64 x_Ring_Head, .int .i64 x_Ring_Tail, .int .i64 x_Device_Base, .int .i64 x_Device_Size, .int .i64 x_Device_Count, .int .i64 x_Driver_Base, .int .i64 x_Driver_Size, .int .i64 x_Driver_Count, .int .i64 x_Held_Packet_DstMac, .int .i64 x_Held_Packet_SrcMac, .int .i64 x_Held_Packet_Vlan, .int .i64 x_Held_Packet_Tos, .int .i64 x_Held_Packet_Id, .int .i64 x_Held_Packet_Ttl, .int .i64 x_Held_Packet_SrcIp, .int .i64 x_Held_Packet_DstIp, .int .i64 x_Held_Packet_Seg_Kind, .int .i64 x_Held_Packet_Seg_SrcPort, .int .i64 x_Held_Packet_Seg_DstPort, .int .i64 x_Held_Packet_Seg_Seq, .int .i64 x_Held_Packet_Seg_Ack, .int .i64 x_Held_Packet_Seg_Flags, .int .i64 x_Held_Packet_Seg_Window, .string x_Held_Packet_Seg_Body, .int .i64 x_Held_Size, .int .i64 x_Held_Count, .bool x_Holding, .int .i64 x_Dropped]] w fun e w' => e = .returned (.agg #[.int .i64 x_Ring_Base, .int .i64 x_Ring_Size, .int .i64 x_Ring_Head, .int .i64 x_Ring_Tail, .int .i64 x_Device_Base, .int .i64 x_Device_Size, .int .i64 x_Device_Count, .int .i64 x_Driver_Base, .int .i64 x_Driver_Size, .int .i64 x_Driver_Count, .int .i64 x_Held_Packet_DstMac, .int .i64 x_Held_Packet_SrcMac, .int .i64 x_Held_Packet_Vlan, .int .i64 x_Held_Packet_Tos, .int .i64 x_Held_Packet_Id, .int .i64 x_Held_Packet_Ttl, .int .i64 x_Held_Packet_SrcIp, .int .i64 x_Held_Packet_DstIp, .int .i64 x_Held_Packet_Seg_Kind, .int .i64 x_Held_Packet_Seg_SrcPort, .int .i64 x_Held_Packet_Seg_DstPort, .int .i64 x_Held_Packet_Seg_Seq, .int .i64 x_Held_Packet_Seg_Ack, .int .i64 x_Held_Packet_Seg_Flags, .int .i64 x_Held_Packet_Seg_Window, .string x_Held_Packet_Seg_Body, .int .i64 x_Held_Size, .int .i64 x_Held_Count, .bool x_Holding, .int .i64 x_Dropped]) ∧ Ex w w' :=
  old_agg (cs := [.int .i64 x_Ring_Base, .int .i64 x_Ring_Size, .int .i64 x_Ring_Head, .int .i64 x_Ring_Tail, .int .i64 x_Device_Base, .int .i64 x_Device_Size, .int .i64 x_Device_Count, .int .i64 x_Driver_Base, .int .i64 x_Driver_Size, .int .i64 x_Driver_Count, .int .i64 x_Held_Packet_DstMac, .int .i64 x_Held_Packet_SrcMac, .int .i64 x_Held_Packet_Vlan, .int .i64 x_Held_Packet_Tos, .int .i64 x_Held_Packet_Id, .int .i64 x_Held_Packet_Ttl, .int .i64 x_Held_Packet_SrcIp, .int .i64 x_Held_Packet_DstIp, .int .i64 x_Held_Packet_Seg_Kind, .int .i64 x_Held_Packet_Seg_SrcPort, .int .i64 x_Held_Packet_Seg_DstPort, .int .i64 x_Held_Packet_Seg_Seq, .int .i64 x_Held_Packet_Seg_Ack, .int .i64 x_Held_Packet_Seg_Flags, .int .i64 x_Held_Packet_Seg_Window, .string x_Held_Packet_Seg_Body, .int .i64 x_Held_Size, .int .i64 x_Held_Count, .bool x_Holding, .int .i64 x_Dropped]) c_laws_toRxQueue (.cons (ab_agg [.int .i64 x_Ring_Base, .int .i64 x_Ring_Size, .int .i64 x_Ring_Head, .int .i64 x_Ring_Tail, .int .i64 x_Device_Base, .int .i64 x_Device_Size, .int .i64 x_Device_Count, .int .i64 x_Driver_Base, .int .i64 x_Driver_Size, .int .i64 x_Driver_Count, .int .i64 x_Held_Packet_DstMac, .int .i64 x_Held_Packet_SrcMac, .int .i64 x_Held_Packet_Vlan, .int .i64 x_Held_Packet_Tos, .int .i64 x_Held_Packet_Id, .int .i64 x_Held_Packet_Ttl, .int .i64 x_Held_Packet_SrcIp, .int .i64 x_Held_Packet_DstIp, .int .i64 x_Held_Packet_Seg_Kind, .int .i64 x_Held_Packet_Seg_SrcPort, .int .i64 x_Held_Packet_Seg_DstPort, .int .i64 x_Held_Packet_Seg_Seq, .int .i64 x_Held_Packet_Seg_Ack, .int .i64 x_Held_Packet_Seg_Flags, .int .i64 x_Held_Packet_Seg_Window, .string x_Held_Packet_Seg_Body, .int .i64 x_Held_Size, .int .i64 x_Held_Count, .bool x_Holding, .int .i64 x_Dropped] rfl) .nil)
theorem eqRxQueue_w (x_Ring_Base : Int) (x_Ring_Size : Int) (x_Ring_Head : Int) (x_Ring_Tail : Int) (x_Device_Base : Int) (x_Device_Size : Int) (x_Device_Count : Int) (x_Driver_Base : Int) (x_Driver_Size : Int) (x_Driver_Count : Int) (x_Held_Packet_DstMac : Int) (x_Held_Packet_SrcMac : Int) (x_Held_Packet_Vlan : Int) (x_Held_Packet_Tos : Int) (x_Held_Packet_Id : Int) (x_Held_Packet_Ttl : Int) (x_Held_Packet_SrcIp : Int) (x_Held_Packet_DstIp : Int) (x_Held_Packet_Seg_Kind : Int) (x_Held_Packet_Seg_SrcPort : Int) (x_Held_Packet_Seg_DstPort : Int) (x_Held_Packet_Seg_Seq : Int) (x_Held_Packet_Seg_Ack : Int) (x_Held_Packet_Seg_Flags : Int) (x_Held_Packet_Seg_Window : Int) (x_Held_Packet_Seg_Body : ByteArray) (x_Held_Size : Int) (x_Held_Count : Int) (x_Holding : Bool) (x_Dropped : Int) (w : World) : Calls Tryz.prog 14 #[.agg #[.int .i64 x_Ring_Base, .int .i64 x_Ring_Size, .int .i64 x_Ring_Head, .int .i64 x_Ring_Tail, .int .i64 x_Device_Base, .int .i64 x_Device_Size, .int .i64 x_Device_Count, .int .i64 x_Driver_Base, .int .i64 x_Driver_Size, .int .i64 x_Driver_Count, .int .i64 x_Held_Packet_DstMac, .int .i64 x_Held_Packet_SrcMac, .int .i64 x_Held_Packet_Vlan, .int .i64 x_Held_Packet_Tos, .int .i64 x_Held_Packet_Id, .int .i64 x_Held_Packet_Ttl, .int .i64 x_Held_Packet_SrcIp, .int .i64 x_Held_Packet_DstIp, .int .i64 x_Held_Packet_Seg_Kind, .int .i64 x_Held_Packet_Seg_SrcPort, .int .i64 x_Held_Packet_Seg_DstPort, .int .i64 x_Held_Packet_Seg_Seq, .int .i64 x_Held_Packet_Seg_Ack, .int .i64 x_Held_Packet_Seg_Flags, .int .i64 x_Held_Packet_Seg_Window, .string x_Held_Packet_Seg_Body, .int .i64 x_Held_Size, .int .i64 x_Held_Count, .bool x_Holding, .int .i64 x_Dropped], .agg #[.int .i64 x_Ring_Base, .int .i64 x_Ring_Size, .int .i64 x_Ring_Head, .int .i64 x_Ring_Tail, .int .i64 x_Device_Base, .int .i64 x_Device_Size, .int .i64 x_Device_Count, .int .i64 x_Driver_Base, .int .i64 x_Driver_Size, .int .i64 x_Driver_Count, .int .i64 x_Held_Packet_DstMac, .int .i64 x_Held_Packet_SrcMac, .int .i64 x_Held_Packet_Vlan, .int .i64 x_Held_Packet_Tos, .int .i64 x_Held_Packet_Id, .int .i64 x_Held_Packet_Ttl, .int .i64 x_Held_Packet_SrcIp, .int .i64 x_Held_Packet_DstIp, .int .i64 x_Held_Packet_Seg_Kind, .int .i64 x_Held_Packet_Seg_SrcPort, .int .i64 x_Held_Packet_Seg_DstPort, .int .i64 x_Held_Packet_Seg_Seq, .int .i64 x_Held_Packet_Seg_Ack, .int .i64 x_Held_Packet_Seg_Flags, .int .i64 x_Held_Packet_Seg_Window, .string x_Held_Packet_Seg_Body, .int .i64 x_Held_Size, .int .i64 x_Held_Count, .bool x_Holding, .int .i64 x_Dropped]] w fun e w' => e = .returned (.bool true) ∧ Ex w w' :=
  old_one c_laws_eqRxQueue (.cons (ab_agg [.int .i64 x_Ring_Base, .int .i64 x_Ring_Size, .int .i64 x_Ring_Head, .int .i64 x_Ring_Tail, .int .i64 x_Device_Base, .int .i64 x_Device_Size, .int .i64 x_Device_Count, .int .i64 x_Driver_Base, .int .i64 x_Driver_Size, .int .i64 x_Driver_Count, .int .i64 x_Held_Packet_DstMac, .int .i64 x_Held_Packet_SrcMac, .int .i64 x_Held_Packet_Vlan, .int .i64 x_Held_Packet_Tos, .int .i64 x_Held_Packet_Id, .int .i64 x_Held_Packet_Ttl, .int .i64 x_Held_Packet_SrcIp, .int .i64 x_Held_Packet_DstIp, .int .i64 x_Held_Packet_Seg_Kind, .int .i64 x_Held_Packet_Seg_SrcPort, .int .i64 x_Held_Packet_Seg_DstPort, .int .i64 x_Held_Packet_Seg_Seq, .int .i64 x_Held_Packet_Seg_Ack, .int .i64 x_Held_Packet_Seg_Flags, .int .i64 x_Held_Packet_Seg_Window, .string x_Held_Packet_Seg_Body, .int .i64 x_Held_Size, .int .i64 x_Held_Count, .bool x_Holding, .int .i64 x_Dropped] rfl) (.cons (ab_agg [.int .i64 x_Ring_Base, .int .i64 x_Ring_Size, .int .i64 x_Ring_Head, .int .i64 x_Ring_Tail, .int .i64 x_Device_Base, .int .i64 x_Device_Size, .int .i64 x_Device_Count, .int .i64 x_Driver_Base, .int .i64 x_Driver_Size, .int .i64 x_Driver_Count, .int .i64 x_Held_Packet_DstMac, .int .i64 x_Held_Packet_SrcMac, .int .i64 x_Held_Packet_Vlan, .int .i64 x_Held_Packet_Tos, .int .i64 x_Held_Packet_Id, .int .i64 x_Held_Packet_Ttl, .int .i64 x_Held_Packet_SrcIp, .int .i64 x_Held_Packet_DstIp, .int .i64 x_Held_Packet_Seg_Kind, .int .i64 x_Held_Packet_Seg_SrcPort, .int .i64 x_Held_Packet_Seg_DstPort, .int .i64 x_Held_Packet_Seg_Seq, .int .i64 x_Held_Packet_Seg_Ack, .int .i64 x_Held_Packet_Seg_Flags, .int .i64 x_Held_Packet_Seg_Window, .string x_Held_Packet_Seg_Body, .int .i64 x_Held_Size, .int .i64 x_Held_Count, .bool x_Holding, .int .i64 x_Dropped] rfl) .nil))
theorem szRxQueue_le_w (x_Ring_Base : Int) (x_Ring_Size : Int) (x_Ring_Head : Int) (x_Ring_Tail : Int) (x_Device_Base : Int) (x_Device_Size : Int) (x_Device_Count : Int) (x_Driver_Base : Int) (x_Driver_Size : Int) (x_Driver_Count : Int) (x_Held_Packet_DstMac : Int) (x_Held_Packet_SrcMac : Int) (x_Held_Packet_Vlan : Int) (x_Held_Packet_Tos : Int) (x_Held_Packet_Id : Int) (x_Held_Packet_Ttl : Int) (x_Held_Packet_SrcIp : Int) (x_Held_Packet_DstIp : Int) (x_Held_Packet_Seg_Kind : Int) (x_Held_Packet_Seg_SrcPort : Int) (x_Held_Packet_Seg_DstPort : Int) (x_Held_Packet_Seg_Seq : Int) (x_Held_Packet_Seg_Ack : Int) (x_Held_Packet_Seg_Flags : Int) (x_Held_Packet_Seg_Window : Int) (x_Held_Packet_Seg_Body : ByteArray) (x_Held_Size : Int) (x_Held_Count : Int) (x_Holding : Bool) (x_Dropped : Int) (left : Int) (w : World) (hL : left ≤ 1048576) (h : (x_Held_Packet_Seg_Body.size : Int) ≤ left) (hb : x_Held_Packet_Seg_Body.size ≤ maxLen) : Calls Tryz.prog 7 #[.agg #[.int .i64 x_Ring_Base, .int .i64 x_Ring_Size, .int .i64 x_Ring_Head, .int .i64 x_Ring_Tail, .int .i64 x_Device_Base, .int .i64 x_Device_Size, .int .i64 x_Device_Count, .int .i64 x_Driver_Base, .int .i64 x_Driver_Size, .int .i64 x_Driver_Count, .int .i64 x_Held_Packet_DstMac, .int .i64 x_Held_Packet_SrcMac, .int .i64 x_Held_Packet_Vlan, .int .i64 x_Held_Packet_Tos, .int .i64 x_Held_Packet_Id, .int .i64 x_Held_Packet_Ttl, .int .i64 x_Held_Packet_SrcIp, .int .i64 x_Held_Packet_DstIp, .int .i64 x_Held_Packet_Seg_Kind, .int .i64 x_Held_Packet_Seg_SrcPort, .int .i64 x_Held_Packet_Seg_DstPort, .int .i64 x_Held_Packet_Seg_Seq, .int .i64 x_Held_Packet_Seg_Ack, .int .i64 x_Held_Packet_Seg_Flags, .int .i64 x_Held_Packet_Seg_Window, .string x_Held_Packet_Seg_Body, .int .i64 x_Held_Size, .int .i64 x_Held_Count, .bool x_Holding, .int .i64 x_Dropped], .int .i64 left] w fun e w' => e = .returned (.int .i64 (left - x_Held_Packet_Seg_Body.size)) ∧ Ex w w' :=
  old_one (c_laws_szRxQueue_le hL h (by unfold maxLen at hb; omega)) (.cons (ab_agg [.int .i64 x_Ring_Base, .int .i64 x_Ring_Size, .int .i64 x_Ring_Head, .int .i64 x_Ring_Tail, .int .i64 x_Device_Base, .int .i64 x_Device_Size, .int .i64 x_Device_Count, .int .i64 x_Driver_Base, .int .i64 x_Driver_Size, .int .i64 x_Driver_Count, .int .i64 x_Held_Packet_DstMac, .int .i64 x_Held_Packet_SrcMac, .int .i64 x_Held_Packet_Vlan, .int .i64 x_Held_Packet_Tos, .int .i64 x_Held_Packet_Id, .int .i64 x_Held_Packet_Ttl, .int .i64 x_Held_Packet_SrcIp, .int .i64 x_Held_Packet_DstIp, .int .i64 x_Held_Packet_Seg_Kind, .int .i64 x_Held_Packet_Seg_SrcPort, .int .i64 x_Held_Packet_Seg_DstPort, .int .i64 x_Held_Packet_Seg_Seq, .int .i64 x_Held_Packet_Seg_Ack, .int .i64 x_Held_Packet_Seg_Flags, .int .i64 x_Held_Packet_Seg_Window, .string x_Held_Packet_Seg_Body, .int .i64 x_Held_Size, .int .i64 x_Held_Count, .bool x_Holding, .int .i64 x_Dropped] rfl) (.cons ⟨rfl, rfl⟩ .nil))
theorem szRxQueue_gt_w (x_Ring_Base : Int) (x_Ring_Size : Int) (x_Ring_Head : Int) (x_Ring_Tail : Int) (x_Device_Base : Int) (x_Device_Size : Int) (x_Device_Count : Int) (x_Driver_Base : Int) (x_Driver_Size : Int) (x_Driver_Count : Int) (x_Held_Packet_DstMac : Int) (x_Held_Packet_SrcMac : Int) (x_Held_Packet_Vlan : Int) (x_Held_Packet_Tos : Int) (x_Held_Packet_Id : Int) (x_Held_Packet_Ttl : Int) (x_Held_Packet_SrcIp : Int) (x_Held_Packet_DstIp : Int) (x_Held_Packet_Seg_Kind : Int) (x_Held_Packet_Seg_SrcPort : Int) (x_Held_Packet_Seg_DstPort : Int) (x_Held_Packet_Seg_Seq : Int) (x_Held_Packet_Seg_Ack : Int) (x_Held_Packet_Seg_Flags : Int) (x_Held_Packet_Seg_Window : Int) (x_Held_Packet_Seg_Body : ByteArray) (x_Held_Size : Int) (x_Held_Count : Int) (x_Holding : Bool) (x_Dropped : Int) (left : Int) (w : World) (hL : left ≤ 1048576) (h0 : 0 ≤ left) (h : left < (x_Held_Packet_Seg_Body.size : Int)) (hb : x_Held_Packet_Seg_Body.size ≤ maxLen) : Calls Tryz.prog 7 #[.agg #[.int .i64 x_Ring_Base, .int .i64 x_Ring_Size, .int .i64 x_Ring_Head, .int .i64 x_Ring_Tail, .int .i64 x_Device_Base, .int .i64 x_Device_Size, .int .i64 x_Device_Count, .int .i64 x_Driver_Base, .int .i64 x_Driver_Size, .int .i64 x_Driver_Count, .int .i64 x_Held_Packet_DstMac, .int .i64 x_Held_Packet_SrcMac, .int .i64 x_Held_Packet_Vlan, .int .i64 x_Held_Packet_Tos, .int .i64 x_Held_Packet_Id, .int .i64 x_Held_Packet_Ttl, .int .i64 x_Held_Packet_SrcIp, .int .i64 x_Held_Packet_DstIp, .int .i64 x_Held_Packet_Seg_Kind, .int .i64 x_Held_Packet_Seg_SrcPort, .int .i64 x_Held_Packet_Seg_DstPort, .int .i64 x_Held_Packet_Seg_Seq, .int .i64 x_Held_Packet_Seg_Ack, .int .i64 x_Held_Packet_Seg_Flags, .int .i64 x_Held_Packet_Seg_Window, .string x_Held_Packet_Seg_Body, .int .i64 x_Held_Size, .int .i64 x_Held_Count, .bool x_Holding, .int .i64 x_Dropped], .int .i64 left] w fun e w' => e = .returned (.int .i64 (-1)) ∧ Ex w w' :=
  old_one (c_laws_szRxQueue_gt hL h0 h (by unfold maxLen at hb; omega)) (.cons (ab_agg [.int .i64 x_Ring_Base, .int .i64 x_Ring_Size, .int .i64 x_Ring_Head, .int .i64 x_Ring_Tail, .int .i64 x_Device_Base, .int .i64 x_Device_Size, .int .i64 x_Device_Count, .int .i64 x_Driver_Base, .int .i64 x_Driver_Size, .int .i64 x_Driver_Count, .int .i64 x_Held_Packet_DstMac, .int .i64 x_Held_Packet_SrcMac, .int .i64 x_Held_Packet_Vlan, .int .i64 x_Held_Packet_Tos, .int .i64 x_Held_Packet_Id, .int .i64 x_Held_Packet_Ttl, .int .i64 x_Held_Packet_SrcIp, .int .i64 x_Held_Packet_DstIp, .int .i64 x_Held_Packet_Seg_Kind, .int .i64 x_Held_Packet_Seg_SrcPort, .int .i64 x_Held_Packet_Seg_DstPort, .int .i64 x_Held_Packet_Seg_Seq, .int .i64 x_Held_Packet_Seg_Ack, .int .i64 x_Held_Packet_Seg_Flags, .int .i64 x_Held_Packet_Seg_Window, .string x_Held_Packet_Seg_Body, .int .i64 x_Held_Size, .int .i64 x_Held_Count, .bool x_Holding, .int .i64 x_Dropped] rfl) (.cons ⟨rfl, rfl⟩ .nil))
end Go.Proofs.YtncmlleohgeofaaGreat
end

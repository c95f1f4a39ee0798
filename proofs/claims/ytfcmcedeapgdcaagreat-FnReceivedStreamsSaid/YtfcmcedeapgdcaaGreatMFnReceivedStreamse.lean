/- Part 5 of what the proof of FnReceivedStreams rests on: an idealised machine, contracts of functions, and the walk of the law. No condition. -/
import Derived.Test.YtfcmcedeapgdcaaGreatMFnReceivedStreamsd
section
namespace Go.Proofs.YtfcmcedeapgdcaaGreat
open Go Go.RowKit Go.Vc
set_option linter.unusedVariables false
set_option linter.unusedSimpArgs false
set_option linter.unnecessarySimpa false
theorem app_sm (l : List Sm) (a b c d e f : Int) (s : ByteArray) (z : Bool) : l.map smE ++ [[.int .i64 a, .int .i64 b, .int .i64 c, .int .i64 d, .int .i64 e, .int .i64 f, .string s, .bool z]] = (l ++ [(⟨a, b, c, d, e, f, s, z⟩ : Sm)]).map smE := by simp [smE]
theorem set_sm (l : List Sm) (i : Nat) (a b c d e f : Int) (s : ByteArray) (z : Bool) : (l.map smE).set i [.int .i64 a, .int .i64 b, .int .i64 c, .int .i64 d, .int .i64 e, .int .i64 f, .string s, .bool z] = (l.set i ⟨a, b, c, d, e, f, s, z⟩).map smE := by rw [List.map_set]; rfl
theorem at_set2 {l l2 : List Sm} {i : Nat} {y : Sm} (h : l.set i y = l2) (hi : i < l.length) : at' l2 i = y ∧ l2.length = l.length := by
  subst h
  have hl : (l.set i y).length = l.length := List.length_set
  exact ⟨by rw [atp_eq (by omega)]; exact List.getElem_set_self .., hl⟩
theorem at_app2 {l l2 : List Sm} {y : Sm} (h : l ++ [y] = l2) : at' l2 l.length = y ∧ l2.length = l.length + 1 := by
  subst h
  have hl : (l ++ [y]).length = l.length + 1 := by rw [List.length_append]; rfl
  exact ⟨by rw [atp_eq (by omega), List.getElem_append_right (Nat.le_refl _)]; simp, hl⟩
theorem lit_app (x : ByteArray) : (⟨#[]⟩ : ByteArray) ++ x = x := ByteArray.empty_append
theorem sp_mod (a s o : Int) : (a % 4294967296 + s - o) % 4294967296 = (a + s - o) % 4294967296 := by omega
theorem set_app {l : List Sm} {x y : Sm} : (l ++ [x]).set l.length y = l ++ [y] := by simp
theorem wr_mod (x : Int) : wr x % 4294967296 = x % 4294967296 := by rw [wr_eq]; unfold wrap64; omega
theorem wr_mod2 (x o : Int) : wr (wr x - o) % 4294967296 = (x - o) % 4294967296 := by rw [wr_eq, wr_eq]; unfold wrap64; omega
theorem and32 (x : Int) : andI x 4294967295 = x % 4294967296 := by
  rw [andI_eq]; exact and_mask_i64 x 32 (by decide)
theorem dlO_bd (s : Sm) (p : Pk) : 0 ≤ dlO s p ∧ dlO s p < 4294967296 := by unfold dlO; omega
theorem dl_n {l : List Sm} {p : Pk} (h : p.sup = false) : dlF l p = l := if_neg (by rw [h]; decide)
theorem dl_un {l : List Sm} {p : Pk} (h : p.sup = true) (h1 : p.kind = 17) (h2 : p.ix l < 0) : dlF l p = l ++ [⟨p.kind, p.si, p.di, p.sp, p.dp, 0, p.dg, false⟩] := by
  unfold dlF; rw [if_pos h, if_pos h1, if_pos h2]
theorem dl_uo {l : List Sm} {p : Pk} {i : Nat} (h : p.sup = true) (h1 : p.kind = 17) (h2 : p.ix l = i) : dlF l p = l.set i { at' l i with data := (at' l i).data ++ p.dg } := by
  unfold dlF; rw [if_pos h, if_pos h1, if_neg (by omega), h2]; rfl
theorem dl_sn {l : List Sm} {p : Pk} (h : p.sup = true) (h1 : ¬ p.kind = 17) (h2 : ¬ andI p.fl 2 = 0) (h3 : p.ix l < 0) : dlF l p = l ++ [⟨p.kind, p.si, p.di, p.sp, p.dp, (p.seq + 1) % 4294967296, ⟨#[]⟩, false⟩] := by
  unfold dlF; rw [if_pos h, if_neg h1, if_pos h2, if_pos h3]
theorem dl_so {l : List Sm} {p : Pk} (h : p.sup = true) (h1 : ¬ p.kind = 17) (h2 : ¬ andI p.fl 2 = 0) (h3 : ¬ p.ix l < 0) : dlF l p = l := by
  unfold dlF; rw [if_pos h, if_neg h1, if_pos h2, if_neg h3]
theorem dl_x {l : List Sm} {p : Pk} (h : p.sup = true) (h1 : ¬ p.kind = 17) (h2 : andI p.fl 2 = 0) (h3 : p.ix l < 0 ∨ (at' l (p.ix l).toNat).done = true ∨ ¬ andI p.fl 4 = 0) : dlF l p = l := by
  unfold dlF; rw [if_pos h, if_neg h1, if_neg (fun hh => hh h2), if_pos h3]
theorem dl_y {l : List Sm} {p : Pk} {i : Nat} (h : p.sup = true) (h1 : ¬ p.kind = 17) (h2 : andI p.fl 2 = 0) (h3 : p.ix l = i) (h4 : (at' l i).done = false) (h5 : andI p.fl 4 = 0) : dlF l p = if dlO (at' l i) p ≤ p.body.size then l.set i (dlS (at' l i) p) else l := by
  unfold dlF
  rw [if_pos h, if_neg h1, if_neg (fun hh => hh h2), if_neg, h3]
  · rfl
  · rw [h3]
    rintro (hh | hh | hh)
    · omega
    · have : (at' l i).done = true := hh
      rw [h4] at this; cases this
    · exact hh h5
theorem sup_seq {p : Pk} (h : p.sup = true) : 0 ≤ p.seq ∧ p.seq ≤ 4294967295 := by
  unfold Pk.sup at h
  simp only [superOkB, segOkB, Bool.and_eq_true, Bool.or_eq_true, inB_iff, Bool.not_eq_true', decide_eq_false_iff_not, beq_iff_eq] at h
  obtain ⟨_, _, _, _, _, h1, _, _, ⟨h2, h3⟩, _⟩ := h
  rcases h3 with ⟨_, a, _, b, _⟩ | ⟨_, _, a, _, b, _⟩
  · exact a
  · omega
set_option maxHeartbeats 4000000 in
theorem c_impl_Deliver {l : List Sm} {p : Pk} (hl_l : l.length ≤ 1000000000 := by first | with_reducible assumption | omega) (hz : ∀ s ∈ l, s.data.size ≤ 1000000000000 := by with_reducible assumption) : Con0 Tryz.prog 47 [.one (.sl 8 (l.map smE)), .agg [V (p).dm, V (p).sm, V (p).vl, V (p).tos, V (p).id, V (p).ttl, V (p).si, V (p).di, V (p).kind, V (p).sp, V (p).dp, V (p).seq, V (p).ack, V (p).fl, V (p).win, VS (p).body]] (.one (.hs 0)) [(0, .arr 109 8 ((dlF l p).map smE))] := by
  refine con_i Tryz.func47 Tryz.ntmps47 (t := [(0, .one (.sl 8 (l.map smE))), (1, .agg [V (p).dm, V (p).sm, V (p).vl, V (p).tos, V (p).id, V (p).ttl, V (p).si, V (p).di, V (p).kind, V (p).sp, V (p).dp, V (p).seq, V (p).ack, V (p).fl, V (p).win, VS (p).body])]) rfl ?_
  refine vc_sr ?_
  iterate 2 refine vo ?_
  refine vnt ?_
  refine vc_sr ?_
  refine vo ?_
  refine voc c_impl_copyStreams rfl rfl ?_
  refine vo ?_
  refine vnt ?_
  refine vc_seq' ?_
  refine vc_sr ?_
  refine vo ?_
  refine voc c_impl_SuperOk rfl rfl ?_
  refine vo ?_
  refine vnt ?_
  refine vc_if (fun g1 => ?_) (fun g1 => ?_)
  · refine vc_sr ?_
    iterate 2 refine vo ?_
    refine vnt ?_
    refine vc_ret ?_
    refine thn_r ?_
    have hd : dlF l p = _ := dl_n g1
    refine fin_i [(0, some 96)] rfl (fz ?_) (fz ?_)
    · trivial
    · rw [hd]
  · have hs : p.sup = true := g1
    have hbl := pk_len hs
    have hsq := sup_seq hs
    have hib := smIdx_bd l p.kind p.si p.di p.sp p.dp
    have hww := word16_le (p.body.size : Int)
    refine vc_skip ?_
    refine thn ?_
    refine vc_sr ?_
    refine vo ?_
    refine voc c_impl_FlowOf rfl rfl ?_
    iterate 2 refine vo ?_
    refine vnt ?_
    refine vc_sr ?_
    iterate 4 refine vo ?_
    refine vnt ?_
    refine vc_sr ?_
    iterate 2 refine vo ?_
    refine voc c_impl_StreamIndex rfl rfl ?_
    refine vo ?_
    refine vnt ?_
    refine vc_seq' ?_
    refine vc_sr ?_
    iterate 3 refine vo ?_
    refine vnt ?_
    refine vc_if (fun g2 => ?_) (fun g2 => ?_)
    · refine vc_seq' ?_
      refine vc_sr ?_
      iterate 2 refine vo ?_
      refine vnt ?_
      refine vc_if (fun g3 => ?_) (fun g3 => ?_)
      · refine vc_sr ?_
        iterate 2 refine vo ?_
        try first | refine vlb ?_ | refine vln ?_
        refine vo ?_
        refine vnt ?_
        refine vc_region ?_
        iterate 5 refine vo ?_
        rw [app_sm]
        generalize h2 : l ++ [(_ : Sm)] = l2
        obtain ⟨al2, nl2⟩ := at_app2 h2
        refine vo ?_
        refine vnt ?_
        refine vc_sr ?_
        iterate 3 refine vo ?_
        try with_reducible (first | refine vep ?_ | refine vpt ?_)
        iterate 2 refine vo ?_
        have hzz : (⟨#[]⟩ : ByteArray).size = 0 := rfl
        rw [al2]
        iterate 3 refine vo ?_
        refine voc c_impl_Word16 rfl rfl ?_
        refine vzs (word16_le _) fun z1 => ?_
        iterate 5 refine vo ?_
        try with_reducible (first | refine vep ?_ | refine vpt ?_)
        iterate 2 refine vo ?_
        rw [set_sm]
        generalize h3 : List.set l2 l.length _ = l3
        obtain ⟨al3, nl3⟩ := at_set2 h3 (by omega)
        try rw [al3]
        refine vnt ?_
        refine vc_sr ?_
        iterate 2 refine vo ?_
        refine vnt ?_
        refine vc_ret ?_
        refine thn_r ?_
        rw [al2] at h3
        have hd : dlF l p = _ := dl_un hs g2 g3
        refine fin_i [(0, some 280)] rfl (fz ?_) (fz ?_)
        · trivial
        · rw [hd, ← h3, ← h2, set_app]; simp [Pk.dg, ByteArray.append_assoc, lit_app]
      · obtain ⟨i, hi, hie⟩ := smIdx_ge (l := l) (kind := p.kind) (si := p.si) (di := p.di) (sp := p.sp) (dp := p.dp) (by omega)
        have hix : p.ix l = i := hie
        rw [hie]
        have hzi := hz _ (atp_mem hi)
        refine vc_skip ?_
        refine thn ?_
        refine vc_sr ?_
        iterate 3 refine vo ?_
        try with_reducible (first | refine vep ?_ | refine vpt ?_)
        iterate 5 refine vo ?_
        refine voc c_impl_Word16 rfl rfl ?_
        refine vzs (word16_le _) fun z2 => ?_
        iterate 5 refine vo ?_
        try with_reducible (first | refine vep ?_ | refine vpt ?_)
        iterate 2 refine vo ?_
        rw [set_sm]
        generalize h2 : List.set l i _ = l2
        obtain ⟨al2, nl2⟩ := at_set2 h2 (by omega)
        try rw [al2]
        refine vnt ?_
        refine vc_sr ?_
        iterate 2 refine vo ?_
        refine vnt ?_
        refine vc_ret ?_
        refine thn_r ?_
        have hd : dlF l p = _ := dl_uo hs g2 hix
        refine fin_i [(0, some 96)] rfl (fz ?_) (fz ?_)
        · trivial
        · rw [hd, ← h2]; simp [Pk.dg, ByteArray.append_assoc]
    · refine vc_skip ?_
      refine thn ?_
      refine vc_seq' ?_
      refine vc_sr ?_
      iterate 4 refine vo ?_
      refine vnt ?_
      refine vc_if (fun g4 => ?_) (fun g4 => ?_)
      · refine vc_seq' ?_
        refine vc_sr ?_
        iterate 2 refine vo ?_
        refine vnt ?_
        refine vc_if (fun g5 => ?_) (fun g5 => ?_)
        · refine vc_region ?_
          iterate 5 refine vo ?_
          try refine vwr ?_
          refine vo ?_
          try refine veq (Int.tmod_eq_emod_of_nonneg (by omega)) ?_
          iterate 4 refine vo ?_
          refine vnt ?_
          refine vc_sr ?_
          iterate 2 refine vo ?_
          refine vnt ?_
          refine vc_ret ?_
          refine thn_r ?_
          have hd : dlF l p = _ := dl_sn hs g2 g4 g5
          refine fin_i [(0, some 528)] rfl (fz ?_) (fz ?_)
          · trivial
          · rw [hd]; simp [smE]
        · refine vc_skip ?_
          refine thn ?_
          refine vc_sr ?_
          iterate 2 refine vo ?_
          refine vnt ?_
          refine vc_ret ?_
          refine thn_r ?_
          have hd : dlF l p = _ := dl_so hs g2 g4 (show ¬ p.ix l < 0 by unfold Pk.ix; omega)
          refine fin_i [(0, some 96)] rfl (fz ?_) (fz ?_)
          · trivial
          · rw [hd]
      · refine vc_skip ?_
        refine thn ?_
        refine vc_seq' ?_
        refine vc_sr ?_
        iterate 3 refine vo ?_
        refine vsp (fun g6 => ?_) (fun g6 => ?_)
        · iterate 5 refine vof ?_
          iterate 2 refine vo ?_
          iterate 4 refine vof ?_
          refine vo ?_
          refine vnt ?_
          refine vc_then ?_
          refine vc_sr ?_
          iterate 2 refine vo ?_
          refine vnt ?_
          refine vc_ret ?_
          refine thn_r ?_
          have hd : dlF l p = _ := dl_x hs g2 g4 (.inl g6)
          refine fin_i [(0, some 96)] rfl (fz ?_) (fz ?_)
          · trivial
          · rw [hd]
        · obtain ⟨i, hi, hie⟩ := smIdx_ge (l := l) (kind := p.kind) (si := p.si) (di := p.di) (sp := p.sp) (dp := p.dp) (by omega)
          have hix : p.ix l = i := hie
          rw [hie]
          have hzi := hz _ (atp_mem hi)
          iterate 3 refine von ?_
          try with_reducible (first | refine vep ?_ | refine vpt ?_)
          iterate 2 refine von ?_
          iterate 2 refine vo ?_
          refine vsp (fun g7 => ?_) (fun g7 => ?_)
          · iterate 4 refine vof ?_
            refine vo ?_
            refine vnt ?_
            refine vc_then ?_
            refine vc_sr ?_
            iterate 2 refine vo ?_
            refine vnt ?_
            refine vc_ret ?_
            refine thn_r ?_
            have hd : dlF l p = _ := dl_x hs g2 g4 (.inr (.inl (by rw [hix]; exact g7)))
            refine fin_i [(0, some 96)] rfl (fz ?_) (fz ?_)
            · trivial
            · rw [hd]
          · iterate 4 refine von ?_
            refine vo ?_
            refine vnt ?_
            refine vc_if (fun g8 => ?_) (fun g8 => ?_)
            · refine vc_sr ?_
              iterate 2 refine vo ?_
              refine vnt ?_
              refine vc_ret ?_
              refine thn_r ?_
              have hd : dlF l p = _ := dl_x hs g2 g4 (.inr (.inr g8))
              refine fin_i [(0, some 96)] rfl (fz ?_) (fz ?_)
              · trivial
              · rw [hd]
            · have hob := dlO_bd (at' l i) p
              refine vc_skip ?_
              refine thn ?_
              refine vc_sr ?_
              iterate 3 refine vo ?_
              try with_reducible (first | refine vep ?_ | refine vpt ?_)
              refine vo ?_
              refine vnt ?_
              refine vc_sr ?_
              iterate 7 refine vo ?_
              try refine vwr ?_
              refine voc c_impl_modulo rfl rfl ?_
              refine veq (show _ = dlO (at' l i) p from wr_mod _) ?_
              refine vo ?_
              refine vnt ?_
              refine vc_seq' ?_
              refine vc_sr ?_
              iterate 5 refine vo ?_
              refine vnt ?_
              refine vc_if (fun g9 => ?_) (fun g9 => ?_)
              · refine vc_sr ?_
                iterate 8 refine vo ?_
                try first | refine vdr ?_ | refine vtk ?_
                iterate 4 refine vo ?_
                rw [set_sm]
                generalize h2 : List.set l i _ = l2
                obtain ⟨al2, nl2⟩ := at_set2 h2 (by omega)
                try rw [al2]
                refine vnt ?_
                refine vc_sr ?_
                iterate 5 refine vo ?_
                rw [al2]
                iterate 4 refine vo ?_
                try refine vwr ?_
                iterate 2 refine vo ?_
                try refine vwr ?_
                refine voc c_impl_modulo rfl rfl ?_
                refine veq (wr_mod2 _ _) ?_
                iterate 3 refine vo ?_
                rw [set_sm]
                generalize h3 : List.set l2 i _ = l3
                obtain ⟨al3, nl3⟩ := at_set2 h3 (by omega)
                try rw [al3]
                refine vnt ?_
                refine vc_region ?_
                iterate 8 refine vo ?_
                rw [set_sm]
                generalize h4 : List.set l3 i _ = l4
                obtain ⟨al4, nl4⟩ := at_set2 h4 (by omega)
                try rw [al4]
                refine vnt ?_
                refine vc_sr ?_
                iterate 2 refine vo ?_
                refine vnt ?_
                refine vc_ret ?_
                rw [al2] at al3 h3
                rw [al3] at h4
                have hd : dlF l p = _ := (dl_y hs g2 g4 hix g7 g8).trans (if_pos g9)
                refine fin_i [(0, some 96)] rfl (fz ?_) (fz ?_)
                · trivial
                · rw [hd, ← h4, ← h3, ← h2, List.set_set, List.set_set]; rfl
              · refine vc_skip ?_
                refine thn ?_
                refine vc_sr ?_
                iterate 2 refine vo ?_
                refine vnt ?_
                refine vc_ret ?_
                have hd : dlF l p = _ := (dl_y hs g2 g4 hix g7 g8).trans (if_neg (by omega))
                refine fin_i [(0, some 96)] rfl (fz ?_) (fz ?_)
                · trivial
                · rw [hd]
set_option maxHeartbeats 4000000 in
theorem c_spec_Deliver {l : List Sm} {p : Pk} (hl_l : l.length ≤ 1000000000 := by first | with_reducible assumption | omega) (hz : ∀ s ∈ l, s.data.size ≤ 1000000000000 := by with_reducible assumption) : Con0 Tryz.prog 16 [.one (.sl 8 (l.map smE)), .agg [V (p).dm, V (p).sm, V (p).vl, V (p).tos, V (p).id, V (p).ttl, V (p).si, V (p).di, V (p).kind, V (p).sp, V (p).dp, V (p).seq, V (p).ack, V (p).fl, V (p).win, VS (p).body]] (.one (.hs 0)) [(0, .arr 109 8 ((dlF l p).map smE))] := by
  refine con_i Tryz.func16 Tryz.ntmps16 (t := [(0, .one (.sl 8 (l.map smE))), (1, .agg [V (p).dm, V (p).sm, V (p).vl, V (p).tos, V (p).id, V (p).ttl, V (p).si, V (p).di, V (p).kind, V (p).sp, V (p).dp, V (p).seq, V (p).ack, V (p).fl, V (p).win, VS (p).body])]) rfl ?_
  refine vc_sr ?_
  iterate 2 refine vo ?_
  refine vnt ?_
  refine vc_sr ?_
  iterate 3 refine vo ?_
  rw [List.nil_append]
  refine vo ?_
  refine vnt ?_
  refine vc_seq' ?_
  refine vc_sr ?_
  refine vo ?_
  refine voc c_spec_SuperOk rfl rfl ?_
  refine vo ?_
  refine vnt ?_
  refine vc_if (fun g1 => ?_) (fun g1 => ?_)
  · refine vc_sr ?_
    iterate 2 refine vo ?_
    refine vnt ?_
    refine vc_ret ?_
    refine thn_r ?_
    have hd : dlF l p = _ := dl_n g1
    refine fin_i [(0, some 96)] rfl (fz ?_) (fz ?_)
    · trivial
    · rw [hd]
  · have hs : p.sup = true := g1
    have hbl := pk_len hs
    have hsq := sup_seq hs
    have hib := smIdx_bd l p.kind p.si p.di p.sp p.dp
    have hww := word16_le (p.body.size : Int)
    refine vc_skip ?_
    refine thn ?_
    refine vc_sr ?_
    refine vo ?_
    refine voc c_spec_FlowOf rfl rfl ?_
    iterate 2 refine vo ?_
    refine vnt ?_
    refine vc_sr ?_
    iterate 2 refine vo ?_
    refine voc c_spec_StreamIndex rfl rfl ?_
    refine vo ?_
    refine vnt ?_
    refine vc_sr ?_
    iterate 4 refine vo ?_
    refine vnt ?_
    refine vc_seq' ?_
    refine vc_sr ?_
    iterate 3 refine vo ?_
    refine vnt ?_
    refine vc_if (fun g2 => ?_) (fun g2 => ?_)
    · refine vc_seq' ?_
      refine vc_sr ?_
      iterate 2 refine vo ?_
      refine vnt ?_
      refine vc_if (fun g3 => ?_) (fun g3 => ?_)
      · refine vc_sr ?_
        iterate 2 refine vo ?_
        try first | refine vlb ?_ | refine vln ?_
        refine vo ?_
        refine vnt ?_
        refine vc_region ?_
        iterate 5 refine vo ?_
        rw [app_sm]
        generalize h2 : l ++ [(_ : Sm)] = l2
        obtain ⟨al2, nl2⟩ := at_app2 h2
        refine vo ?_
        refine vnt ?_
        refine vc_sr ?_
        iterate 5 refine vo ?_
        try with_reducible (first | refine vep ?_ | refine vpt ?_)
        iterate 2 refine vo ?_
        have hzz : (⟨#[]⟩ : ByteArray).size = 0 := rfl
        rw [al2]
        iterate 3 refine vo ?_
        refine voc c_spec_Word16 rfl rfl ?_
        refine vzs (word16_le _) fun z1 => ?_
        iterate 5 refine vo ?_
        try with_reducible (first | refine vep ?_ | refine vpt ?_)
        iterate 2 refine vo ?_
        rw [set_sm]
        generalize h3 : List.set l2 l.length _ = l3
        obtain ⟨al3, nl3⟩ := at_set2 h3 (by omega)
        try rw [al3]
        refine vnt ?_
        refine vc_sr ?_
        iterate 2 refine vo ?_
        refine vnt ?_
        refine vc_ret ?_
        refine thn_r ?_
        rw [al2] at h3
        have hd : dlF l p = _ := dl_un hs g2 g3
        refine fin_i [(0, some 280)] rfl (fz ?_) (fz ?_)
        · trivial
        · rw [hd, ← h3, ← h2, set_app]; simp [Pk.dg, ByteArray.append_assoc, lit_app]
      · obtain ⟨i, hi, hie⟩ := smIdx_ge (l := l) (kind := p.kind) (si := p.si) (di := p.di) (sp := p.sp) (dp := p.dp) (by omega)
        have hix : p.ix l = i := hie
        rw [hie]
        have hzi := hz _ (atp_mem hi)
        refine vc_skip ?_
        refine thn ?_
        refine vc_sr ?_
        iterate 5 refine vo ?_
        try with_reducible (first | refine vep ?_ | refine vpt ?_)
        iterate 5 refine vo ?_
        refine voc c_spec_Word16 rfl rfl ?_
        refine vzs (word16_le _) fun z2 => ?_
        iterate 5 refine vo ?_
        try with_reducible (first | refine vep ?_ | refine vpt ?_)
        iterate 2 refine vo ?_
        rw [set_sm]
        generalize h2 : List.set l i _ = l2
        obtain ⟨al2, nl2⟩ := at_set2 h2 (by omega)
        try rw [al2]
        refine vnt ?_
        refine vc_sr ?_
        iterate 2 refine vo ?_
        refine vnt ?_
        refine vc_ret ?_
        refine thn_r ?_
        have hd : dlF l p = _ := dl_uo hs g2 hix
        refine fin_i [(0, some 96)] rfl (fz ?_) (fz ?_)
        · trivial
        · rw [hd, ← h2]; simp [Pk.dg, ByteArray.append_assoc]
    · refine vc_skip ?_
      refine thn ?_
      refine vc_seq' ?_
      refine vc_sr ?_
      iterate 4 refine vo ?_
      refine vnt ?_
      refine vc_if (fun g4 => ?_) (fun g4 => ?_)
      · refine vc_seq' ?_
        refine vc_sr ?_
        iterate 2 refine vo ?_
        refine vnt ?_
        refine vc_if (fun g5 => ?_) (fun g5 => ?_)
        · refine vc_region ?_
          iterate 5 refine vo ?_
          try refine vwr ?_
          refine vo ?_
          try refine veq (Int.tmod_eq_emod_of_nonneg (by omega)) ?_
          iterate 4 refine vo ?_
          refine vnt ?_
          refine vc_sr ?_
          iterate 2 refine vo ?_
          refine vnt ?_
          refine vc_ret ?_
          refine thn_r ?_
          have hd : dlF l p = _ := dl_sn hs g2 g4 g5
          refine fin_i [(0, some 544)] rfl (fz ?_) (fz ?_)
          · trivial
          · rw [hd]; simp [smE]
        · refine vc_skip ?_
          refine thn ?_
          refine vc_sr ?_
          iterate 2 refine vo ?_
          refine vnt ?_
          refine vc_ret ?_
          refine thn_r ?_
          have hd : dlF l p = _ := dl_so hs g2 g4 (show ¬ p.ix l < 0 by unfold Pk.ix; omega)
          refine fin_i [(0, some 96)] rfl (fz ?_) (fz ?_)
          · trivial
          · rw [hd]
      · refine vc_skip ?_
        refine thn ?_
        refine vc_seq' ?_
        refine vc_sr ?_
        iterate 3 refine vo ?_
        refine vsp (fun g6 => ?_) (fun g6 => ?_)
        · iterate 5 refine vof ?_
          iterate 2 refine vo ?_
          iterate 4 refine vof ?_
          refine vo ?_
          refine vnt ?_
          refine vc_then ?_
          refine vc_sr ?_
          iterate 2 refine vo ?_
          refine vnt ?_
          refine vc_ret ?_
          refine thn_r ?_
          have hd : dlF l p = _ := dl_x hs g2 g4 (.inl g6)
          refine fin_i [(0, some 96)] rfl (fz ?_) (fz ?_)
          · trivial
          · rw [hd]
        · obtain ⟨i, hi, hie⟩ := smIdx_ge (l := l) (kind := p.kind) (si := p.si) (di := p.di) (sp := p.sp) (dp := p.dp) (by omega)
          have hix : p.ix l = i := hie
          rw [hie]
          have hzi := hz _ (atp_mem hi)
          iterate 3 refine von ?_
          try with_reducible (first | refine vep ?_ | refine vpt ?_)
          iterate 2 refine von ?_
          iterate 2 refine vo ?_
          refine vsp (fun g7 => ?_) (fun g7 => ?_)
          · iterate 4 refine vof ?_
            refine vo ?_
            refine vnt ?_
            refine vc_then ?_
            refine vc_sr ?_
            iterate 2 refine vo ?_
            refine vnt ?_
            refine vc_ret ?_
            refine thn_r ?_
            have hd : dlF l p = _ := dl_x hs g2 g4 (.inr (.inl (by rw [hix]; exact g7)))
            refine fin_i [(0, some 96)] rfl (fz ?_) (fz ?_)
            · trivial
            · rw [hd]
          · iterate 4 refine von ?_
            refine vo ?_
            refine vnt ?_
            refine vc_if (fun g8 => ?_) (fun g8 => ?_)
            · refine vc_sr ?_
              iterate 2 refine vo ?_
              refine vnt ?_
              refine vc_ret ?_
              refine thn_r ?_
              have hd : dlF l p = _ := dl_x hs g2 g4 (.inr (.inr g8))
              refine fin_i [(0, some 96)] rfl (fz ?_) (fz ?_)
              · trivial
              · rw [hd]
            · have hob := dlO_bd (at' l i) p
              refine vc_skip ?_
              refine thn ?_
              refine vc_sr ?_
              iterate 3 refine vo ?_
              try with_reducible (first | refine vep ?_ | refine vpt ?_)
              iterate 5 refine vo ?_
              try refine vwr ?_
              refine vo ?_
              refine veq (show _ = dlO (at' l i) p from (and32 _).trans (wr_mod _)) ?_
              refine vo ?_
              refine vnt ?_
              refine vc_seq' ?_
              refine vc_sr ?_
              iterate 5 refine vo ?_
              refine vnt ?_
              refine vc_if (fun g9 => ?_) (fun g9 => ?_)
              · refine vc_sr ?_
                iterate 5 refine vo ?_
                try with_reducible (first | refine vep ?_ | refine vpt ?_)
                iterate 6 refine vo ?_
                try first | refine vdr ?_ | refine vtk ?_
                iterate 2 refine vo ?_
                try with_reducible (first | refine vep ?_ | refine vpt ?_)
                iterate 2 refine vo ?_
                rw [set_sm]
                generalize h2 : List.set l i _ = l2
                obtain ⟨al2, nl2⟩ := at_set2 h2 (by omega)
                try rw [al2]
                refine vnt ?_
                refine vc_sr ?_
                iterate 5 refine vo ?_
                try with_reducible (first | refine vep ?_ | refine vpt ?_)
                iterate 2 refine vo ?_
                rw [al2]
                refine vo ?_
                refine veq (and32 _) ?_
                iterate 4 refine vo ?_
                try refine vwr ?_
                iterate 2 refine vo ?_
                try refine vwr ?_
                refine vo ?_
                try refine veq (Int.tmod_eq_emod_of_nonneg (by omega)) ?_
                refine veq (show _ = ((at' l i).next + (p.body.size : Int) - dlO (at' l i) p) % 4294967296 from sp_mod _ _ _) ?_
                refine vo ?_
                try with_reducible (first | refine vep ?_ | refine vpt ?_)
                iterate 2 refine vo ?_
                rw [set_sm]
                generalize h3 : List.set l2 i _ = l3
                obtain ⟨al3, nl3⟩ := at_set2 h3 (by omega)
                try rw [al3]
                refine vnt ?_
                refine vc_region ?_
                iterate 7 refine vo ?_
                try with_reducible (first | refine vep ?_ | refine vpt ?_)
                iterate 2 refine vo ?_
                rw [set_sm]
                generalize h4 : List.set l3 i _ = l4
                obtain ⟨al4, nl4⟩ := at_set2 h4 (by omega)
                try rw [al4]
                refine vnt ?_
                refine vc_sr ?_
                iterate 2 refine vo ?_
                refine vnt ?_
                refine vc_ret ?_
                rw [al2] at al3 h3
                rw [al3] at h4
                have hd : dlF l p = _ := (dl_y hs g2 g4 hix g7 g8).trans (if_pos g9)
                refine fin_i [(0, some 96)] rfl (fz ?_) (fz ?_)
                · trivial
                · rw [hd, ← h4, ← h3, ← h2, List.set_set, List.set_set]; rfl
              · refine vc_skip ?_
                refine thn ?_
                refine vc_sr ?_
                iterate 2 refine vo ?_
                refine vnt ?_
                refine vc_ret ?_
                have hd : dlF l p = _ := (dl_y hs g2 g4 hix g7 g8).trans (if_neg (by omega))
                refine fin_i [(0, some 96)] rfl (fz ?_) (fz ?_)
                · trivial
                · rw [hd]
end Go.Proofs.YtfcmcedeapgdcaaGreat
end
section
namespace Go.Proofs.YtfcmcedeapgdcaaGreat
open Go Go.RowKit Go.Vc
set_option linter.unusedVariables false
set_option linter.unusedSimpArgs false
set_option linter.unnecessarySimpa false
theorem dma_sz (l : List Mp) (ps : Pg) (d a n : Int) (hn : n ≤ 65535) : (dmaRF l ps d a n).1.size ≤ 65535 := by
  cases hq : (dmaRF l ps d a n).2 with
  | true =>
    have := dmaRF_size (l := l) (ps := ps) (d := d) (a := a) (n := n) (t := (dmaRF l ps d a n).1) (by rw [← hq])
    omega
  | false =>
    have : (dmaRF l ps d a n).1 = ⟨#[]⟩ := by
      unfold dmaRF at hq ⊢
      split <;> rename_i e
      · rw [e] at hq; cases hq
      · rfl
    rw [this]; exact Nat.zero_le _
theorem give_len (pb pz pc : Int) (fr : List Int) (k : Int) : (giveF pb pz pc fr [k]).length ≤ fr.length + 1 := by
  unfold giveF
  split <;> simp
theorem pks_n {l : List Mp} {ps : Pg} {d pb pz pc : Int} {fr : List Int} {x : Comp} {sm : List Sm} (h : pkB l ps d pb pz pc fr x = false) : pkS l ps d pb pz pc fr x sm = sm := if_neg (by rw [h]; decide)
theorem pks_y {l : List Mp} {ps : Pg} {d pb pz pc : Int} {fr : List Int} {x : Comp} {sm : List Sm} {D : ByteArray × Bool} (hD : dmaRF l ps d (bufA pb pz pc fr x.1) x.2.1 = D) (h1 : D.2 = true) (h2 : rdC D.1 = 0) : pkS l ps d pb pz pc fr x sm = dlF sm (rdF D.1) := by
  subst hD
  exact if_pos (by unfold pkB; rw [h1, decide_eq_true h2]; rfl)
theorem pkb_n {l : List Mp} {ps : Pg} {d pb pz pc : Int} {fr : List Int} {x : Comp} {D : ByteArray × Bool} (hD : dmaRF l ps d (bufA pb pz pc fr x.1) x.2.1 = D) (h : D.2 = false ∨ ¬ rdC D.1 = 0) : pkB l ps d pb pz pc fr x = false := by
  subst hD
  unfold pkB
  rcases h with h | h
  · rw [h]; rfl
  · rw [decide_eq_false h]; simp
theorem poll_st {l : List Mp} {ps : Pg} {d pb pz pc vb vs c : Int} {m n : Nat} {f : List Int} {g g2 : List Sm} {X : Comp × Int × Bool} (hX : nextF l ps d vb vs c = X) (hf : n < m) (h : X.2.2 = true) (hg : pkS l ps d pb pz pc f X.1 g = g2) : pollL l ps d pb pz pc vb vs (m - n) f g c n = pollL l ps d pb pz pc vb vs (m - (n + 1)) (giveF pb pz pc f [X.1.1]) g2 X.2.1 ((n + 1 : Nat) : Int) := by
  subst hX
  rw [poll_go (by omega) h, hg, Nat.sub_sub]; rfl
def pqF (ok : Bool) (l : List Mp) (ps : Pg) (d rb rs rh rt vb vs vc pb pz pc : Int) (fr : List Int) (sm : List Sm) (bud : Int) : Pg × Int × Int × List Int × List Sm × Int :=
  bif ok then ((fillRF l ps d rb rs rh rt pb pz pc (pollL l ps d pb pz pc vb vs bud.toNat fr sm vc 0).1).1, (fillRF l ps d rb rs rh rt pb pz pc (pollL l ps d pb pz pc vb vs bud.toNat fr sm vc 0).1).2.1, (pollL l ps d pb pz pc vb vs bud.toNat fr sm vc 0).2.2.1, (fillRF l ps d rb rs rh rt pb pz pc (pollL l ps d pb pz pc vb vs bud.toNat fr sm vc 0).1).2.2.1, (pollL l ps d pb pz pc vb vs bud.toNat fr sm vc 0).2.1, (pollL l ps d pb pz pc vb vs bud.toNat fr sm vc 0).2.2.2) else (ps, rt, vc, fr, sm, 0)
theorem pq_y {l : List Mp} {ps : Pg} {d rb rs rh rt vb vs vc pb pz pc bud c n : Int} {fr f : List Int} {sm g : List Sm} (h : pollL l ps d pb pz pc vb vs bud.toNat fr sm vc 0 = (f, g, c, n)) : pqF true l ps d rb rs rh rt vb vs vc pb pz pc fr sm bud = ((fillRF l ps d rb rs rh rt pb pz pc f).1, (fillRF l ps d rb rs rh rt pb pz pc f).2.1, c, (fillRF l ps d rb rs rh rt pb pz pc f).2.2.1, g, n) := by
  unfold pqF
  rw [h]; rfl
theorem poll_e2 {l : List Mp} {ps : Pg} {d pb pz pc vb vs c : Int} {m n : Nat} {f : List Int} {g : List Sm} (hn : ¬ n < m) : pollL l ps d pb pz pc vb vs (m - n) f g c n = (f, g, c, (n : Int)) := by
  rw [Nat.sub_eq_zero_of_le (by omega)]; rfl
set_option maxHeartbeats 4000000 in
theorem c_impl_PollQueue {l : List Mp} {ps : Pg} {d pb pz pc bud : Int} {rb rs rh rt db ds dc vb vs vc dm sm vl tos id ttl si di kind sp dp seq ack fl win size count dropped : Int} {body : ByteArray} {hold : Bool} {fr : List Int} {gs : List Sm} {r : Pg × Int × Int × List Int × List Sm × Int} (hr : pqF (rxOkB rb rs rh rt db ds dc vb vs vc dm sm vl tos id ttl si di kind sp dp seq ack fl win body size count hold dropped && (poolB pb pz pc fr && inB bud 0 1000)) l ps d rb rs rh rt vb vs vc pb pz pc fr gs bud = r) (hl : l.length ≤ 1099511627776 := by first | with_reducible assumption | omega) (hp : ps.length ≤ 1099511627776 := by first | with_reducible assumption | omega) (hl_fr : fr.length ≤ 100000000 := by first | with_reducible assumption | omega) (hl_gs : gs.length ≤ 100000000 := by first | with_reducible assumption | omega) (hz_gs : ∀ s ∈ gs, s.data.size ≤ 100000000000 := by with_reducible assumption) : Con0 Tryz.prog 13 [.one (.sl 4 (l.map mpE)), .agg [.sl 1 (ps.map strE)], I d, .agg [V rb, V rs, V rh, V rt, V db, V ds, V dc, V vb, V vs, V vc, V dm, V sm, V vl, V tos, V id, V ttl, V si, V di, V kind, V sp, V dp, V seq, V ack, V fl, V win, VS body, V size, V count, VB hold, V dropped], .agg [V pb, V pz, V pc, .sl 1 (fr.map intE)], .one (.sl 8 (gs.map smE)), I bud] (.tup [.agg [.hs 0], .agg [V rb, V rs, V rh, V r.2.1, V db, V ds, V dc, V vb, V vs, V r.2.2.1, V dm, V sm, V vl, V tos, V id, V ttl, V si, V di, V kind, V sp, V dp, V seq, V ack, V fl, V win, VS body, V size, V count, VB hold, V dropped], .agg [V pb, V pz, V pc, .hs 1], .one (.hs 2), I r.2.2.2.2.2]) [(0, .arr 9 1 (r.1.map strE)), (1, .arr 3 1 (r.2.2.2.1.map intE)), (2, .arr 109 8 (r.2.2.2.2.1.map smE))] := by
  refine con_i Tryz.func13 Tryz.ntmps13 (t := [(0, .one (.sl 4 (l.map mpE))), (1, .agg [.sl 1 (ps.map strE)]), (2, I d), (3, .agg [V rb, V rs, V rh, V rt, V db, V ds, V dc, V vb, V vs, V vc, V dm, V sm, V vl, V tos, V id, V ttl, V si, V di, V kind, V sp, V dp, V seq, V ack, V fl, V win, VS body, V size, V count, VB hold, V dropped]), (4, .agg [V pb, V pz, V pc, .sl 1 (fr.map intE)]), (5, .one (.sl 8 (gs.map smE))), (6, I bud)]) rfl ?_
  refine vc_sr ?_
  iterate 8 refine vo ?_
  refine vnt ?_
  refine vc_sr ?_
  refine vo ?_
  refine voc c_impl_copyMemory rfl rfl ?_
  refine vo ?_
  refine voc c_impl_copyPool rfl rfl ?_
  refine vo ?_
  refine voc c_impl_copyStreams rfl rfl ?_
  iterate 5 refine vo ?_
  refine vnt ?_
  refine vc_seq' ?_
  refine vc_sr ?_
  refine vo ?_
  refine voc c_impl_RxOk rfl rfl ?_
  iterate 2 refine vo ?_
  refine vsp (fun g1 => ?_) (fun g1 => ?_)
  · iterate 3 refine vof ?_
    iterate 2 refine vo ?_
    iterate 3 refine vof ?_
    refine vo ?_
    refine vnt ?_
    refine vc_then ?_
    refine vc_sr ?_
    iterate 9 refine vo ?_
    refine vnt ?_
    refine vc_ret ?_
    refine thn_r ?_
    have hk : (rxOkB rb rs rh rt db ds dc vb vs vc dm sm vl tos id ttl si di kind sp dp seq ack fl win body size count hold dropped && (poolB pb pz pc fr && inB bud 0 1000)) = false := by rw [g1]; simp
    rw [hk] at hr
    subst hr
    refine fin_i [(0, some 248), (1, some 264), (2, some 280)] rfl (fz ?_) (fz ?_) <;> first | trivial | rfl | exact ⟨rfl, rfl, rfl⟩
  · refine von ?_
    refine vocn c_impl_PoolOk rfl rfl ?_
    refine von ?_
    iterate 2 refine vo ?_
    refine vsp (fun g2 => ?_) (fun g2 => ?_)
    · iterate 3 refine vof ?_
      refine vo ?_
      refine vnt ?_
      refine vc_then ?_
      refine vc_sr ?_
      iterate 9 refine vo ?_
      refine vnt ?_
      refine vc_ret ?_
      refine thn_r ?_
      have hk : (rxOkB rb rs rh rt db ds dc vb vs vc dm sm vl tos id ttl si di kind sp dp seq ack fl win body size count hold dropped && (poolB pb pz pc fr && inB bud 0 1000)) = false := by rw [g2]; simp
      rw [hk] at hr
      subst hr
      refine fin_i [(0, some 248), (1, some 264), (2, some 280)] rfl (fz ?_) (fz ?_) <;> first | trivial | rfl | exact ⟨rfl, rfl, rfl⟩
    · refine von ?_
      refine vocn c_impl_between rfl rfl ?_
      refine von ?_
      refine vo ?_
      refine vnt ?_
      refine vc_if (fun g3 => ?_) (fun g3 => ?_)
      · refine vc_sr ?_
        iterate 9 refine vo ?_
        refine vnt ?_
        refine vc_ret ?_
        refine thn_r ?_
        have hk : (rxOkB rb rs rh rt db ds dc vb vs vc dm sm vl tos id ttl si di kind sp dp seq ack fl win body size count hold dropped && (poolB pb pz pc fr && inB bud 0 1000)) = false := by rw [g3]; simp
        rw [hk] at hr
        subst hr
        refine fin_i [(0, some 248), (1, some 264), (2, some 280)] rfl (fz ?_) (fz ?_) <;> first | trivial | rfl | exact ⟨rfl, rfl, rfl⟩
      · refine vc_skip ?_
        refine thn ?_
        refine vc_sr ?_
        refine vo ?_
        refine vnt ?_
        refine vc_seq' ?_
        refine vc_block ?_
        refine vc_lp4 [0, 2, 6, 10, 14, 15, 16, 19, 20] [112, 120, 128, 152, 248] (fun (f : List Int) (g : List Sm) (c : Int) (n : Nat) => [(21, .one (.hs 10)), (22, I (n : Nat))]) (fun (f : List Int) (g : List Sm) (c : Int) (n : Nat) => [(9, .arr 3 1 (f.map intE)), (10, .arr 109 8 (g.map smE)), (80, .row 39 [V rb, V rs, V rh, V rt, V db, V ds, V dc, V vb, V vs, V c, V dm, V sm, V vl, V tos, V id, V ttl, V si, V di, V kind, V sp, V dp, V seq, V ack, V fl, V win, VS body, V size, V count, VB hold, V dropped]), (160, .row 42 [V pb, V pz, V pc, .hs 9])]) (fun (f : List Int) (g : List Sm) (c : Int) (n : Nat) => pollL l ps d pb pz pc vb vs bud.toNat fr gs vc 0 = pollL l ps d pb pz pc vb vs (bud.toNat - n) f g c n ∧ n ≤ bud.toNat ∧ f.length ≤ fr.length + n ∧ g.length ≤ gs.length + n ∧ ∀ s ∈ g, s.data.size ≤ 100000000000 + 400 * n) (fun (f : List Int) (g : List Sm) (c : Int) (n : Nat) => bud.toNat - n) fr gs vc 0 rfl rfl (sub_i [(80, some 80), (160, some 160), (9, some 264), (10, some 280)] (fz ?_) (fz ?_)) ?_ fun f g c n hI => ?_
        · first | trivial | rfl
        · first | trivial | rfl | exact ⟨rfl, rfl⟩ | exact ⟨rfl, rfl, rfl⟩ | exact ⟨rfl, rfl, rfl, rfl⟩ | trace_state
        · exact ⟨rfl, Nat.zero_le _, Nat.le_refl _, Nat.le_refl _, hz_gs⟩
        refine vc_nf rfl rfl ?_
        have hg3 := inB_iff.1 g3
        have hfl : f.length ≤ 1000000000 := by have := hI.2.2.1; omega
        have hgl : g.length ≤ 1000000000 := by have := hI.2.2.2.1; omega
        have hgz : ∀ s ∈ g, s.data.size ≤ 1000000000000 := fun s hs => Nat.le_trans (hI.2.2.2.2 s hs) (by omega)
        refine vc_seq' ?_
        refine vc_sr ?_
        iterate 3 refine vo ?_
        refine vnt ?_
        refine vc_if (fun g4 => ?_) (fun g4 => ?_)
        · refine vc_skip ?_
          refine thn ?_
          refine vc_block ?_
          refine vc_sr ?_
          iterate 5 refine vo ?_
          refine voc c_impl_NextCompletion rfl rfl ?_
          generalize hX : nextF l ps d vb vs c = X
          have hXb : X.1.2.1 ≤ 65535 := hX ▸ nx_bd l ps d vb vs c
          have hbb := bufA_bd pb pz pc f X.1.1
          iterate 9 refine vo ?_
          refine vnt ?_
          refine vc_seq' ?_
          refine vc_sr ?_
          iterate 2 refine vo ?_
          refine vnt ?_
          refine vc_if (fun g5 => ?_) (fun g5 => ?_)
          · refine vc_exit ?_
            refine thn_x ?_
            refine inB_y ?_
            refine thn_x ?_
            refine inB_x ?_
            refine thn ?_
            refine vc_sr ?_
            iterate 6 refine vo ?_
            refine voc c_impl_FillRing rfl rfl ?_
            iterate 9 refine vo ?_
            refine vnt ?_
            refine vc_sr ?_
            iterate 10 refine vo ?_
            refine vnt ?_
            refine vc_ret ?_
            have hk : (rxOkB rb rs rh rt db ds dc vb vs vc dm sm vl tos id ttl si di kind sp dp seq ack fl win body size count hold dropped && (poolB pb pz pc fr && inB bud 0 1000)) = true := by rw [g1, g2, g3]; rfl
            rw [hk, pq_y (hI.1.trans (poll_no (by rw [hX]; exact g5)))] at hr
            subst hr
            refine fin_i [(0, some 888), (1, some 889), (2, some 10)] rfl (fz ?_) (fz ?_) <;> first | trivial | rfl | exact ⟨rfl, rfl, rfl⟩ | trace_state
          · refine vc_skip ?_
            refine thn ?_
            refine vc_sr ?_
            iterate 3 refine vo ?_
            refine vnt ?_
            refine vc_sr ?_
            iterate 2 refine vo ?_
            try refine vwr ?_
            refine vo ?_
            refine vnt ?_
            refine vc_seq' ?_
            refine vc_sr ?_
            iterate 6 refine vo ?_
            refine voc c_impl_BufferAddress rfl rfl ?_
            iterate 2 refine vo ?_
            refine voc c_impl_DmaRead rfl rfl ?_
            generalize hD : dmaRF l ps d (bufA pb pz pc f X.1.1) X.1.2.1 = D
            have hDz : D.1.size ≤ 1099511627776 := hD ▸ Nat.le_trans (dma_sz l ps d (bufA pb pz pc f X.1.1) X.1.2.1 hXb) (by decide)
            iterate 5 refine vo ?_
            refine vnt ?_
            refine vc_sr ?_
            refine vo ?_
            refine vnt ?_
            refine vc_if (fun g6 => ?_) (fun g6 => ?_)
            · refine vc_sr ?_
              refine vo ?_
              refine voc c_impl_ReadImage rfl rfl ?_
              iterate 6 refine vo ?_
              refine vnt ?_
              refine vc_sr ?_
              iterate 2 refine vo ?_
              refine vnt ?_
              refine vc_if (fun g7 => ?_) (fun g7 => ?_)
              · refine vc_region ?_
                iterate 2 refine vo ?_
                refine voc c_impl_Deliver rfl rfl ?_
                refine vo ?_
                refine vnt ?_
                refine vc_region ?_
                iterate 4 refine vo ?_
                refine voc (c_impl_GiveBuffers (ks := [X.1.1]) (hl_ks := by show 1 ≤ 1000000000; omega)) rfl rfl ?_
                iterate 4 refine vo ?_
                refine vnil ?_
                refine inB_n ?_
                refine thn ?_
                have hps : pkS l ps d pb pz pc f X.1 g = dlF g (rdF D.1) := pks_y hD g6 g7
                have hgv := give_len pb pz pc f X.1.1
                have hdl := dlF_len g (rdF D.1)
                have hdz := dlF_sz (p := rdF D.1) hI.2.2.2.2
                refine ⟨giveF pb pz pc f [X.1.1], dlF g (rdF D.1), X.2.1, n + 1, ?_, ?_, sub_i [(80, some 80), (160, some 160), (9, some 808), (10, some 760)] (fz ?_) (fz ?_)⟩
                · exact ⟨hI.1.trans (poll_st hX (by omega) g5 hps), by omega, by omega, by omega, fun s hs => Nat.le_trans (hdz s hs) (by omega)⟩
                · omega
                · first | trivial | rfl | exact ⟨rfl, rfl⟩ | trace_state
                · first | trivial | rfl | exact ⟨rfl, rfl⟩ | exact ⟨rfl, rfl, rfl⟩ | exact ⟨rfl, rfl, rfl, rfl⟩ | trace_state
              · refine vc_skip ?_
                refine thn ?_
                refine vc_region ?_
                iterate 4 refine vo ?_
                refine voc (c_impl_GiveBuffers (ks := [X.1.1]) (hl_ks := by show 1 ≤ 1000000000; omega)) rfl rfl ?_
                iterate 4 refine vo ?_
                refine vnil ?_
                refine inB_n ?_
                refine thn ?_
                have hps : pkS l ps d pb pz pc f X.1 g = g := pks_n (pkb_n hD (.inr g7))
                have hgv := give_len pb pz pc f X.1.1
                refine ⟨giveF pb pz pc f [X.1.1], g, X.2.1, n + 1, ?_, ?_, sub_i [(80, some 80), (160, some 160), (9, some 808), (10, some 10)] (fz ?_) (fz ?_)⟩
                · exact ⟨hI.1.trans (poll_st hX (by omega) g5 hps), by omega, by omega, by omega, fun s hs => Nat.le_trans (hI.2.2.2.2 s hs) (by omega)⟩
                · omega
                · first | trivial | rfl | exact ⟨rfl, rfl⟩ | trace_state
                · first | trivial | rfl | exact ⟨rfl, rfl⟩ | exact ⟨rfl, rfl, rfl⟩ | exact ⟨rfl, rfl, rfl, rfl⟩ | trace_state
            · refine vc_skip ?_
              refine thn ?_
              refine vc_region ?_
              iterate 4 refine vo ?_
              refine voc (c_impl_GiveBuffers (ks := [X.1.1]) (hl_ks := by show 1 ≤ 1000000000; omega)) rfl rfl ?_
              iterate 4 refine vo ?_
              refine vnil ?_
              refine inB_n ?_
              refine thn ?_
              have hps : pkS l ps d pb pz pc f X.1 g = g := pks_n (pkb_n hD (.inl g6))
              have hgv := give_len pb pz pc f X.1.1
              refine ⟨giveF pb pz pc f [X.1.1], g, X.2.1, n + 1, ?_, ?_, sub_i [(80, some 80), (160, some 160), (9, some 808), (10, some 10)] (fz ?_) (fz ?_)⟩
              · exact ⟨hI.1.trans (poll_st hX (by omega) g5 hps), by omega, by omega, by omega, fun s hs => Nat.le_trans (hI.2.2.2.2 s hs) (by omega)⟩
              · omega
              · first | trivial | rfl | exact ⟨rfl, rfl⟩ | trace_state
              · first | trivial | rfl | exact ⟨rfl, rfl⟩ | exact ⟨rfl, rfl, rfl⟩ | exact ⟨rfl, rfl, rfl, rfl⟩ | trace_state
        · refine vc_exit ?_
          refine thn_x ?_
          refine thn_x ?_
          refine inB_x ?_
          refine thn ?_
          refine vc_sr ?_
          iterate 6 refine vo ?_
          refine voc c_impl_FillRing rfl rfl ?_
          iterate 9 refine vo ?_
          refine vnt ?_
          refine vc_sr ?_
          iterate 10 refine vo ?_
          refine vnt ?_
          refine vc_ret ?_
          have hk : (rxOkB rb rs rh rt db ds dc vb vs vc dm sm vl tos id ttl si di kind sp dp seq ack fl win body size count hold dropped && (poolB pb pz pc fr && inB bud 0 1000)) = true := by rw [g1, g2, g3]; rfl
          rw [hk, pq_y (hI.1.trans (poll_e2 (by omega)))] at hr
          subst hr
          refine fin_i [(0, some 888), (1, some 889), (2, some 10)] rfl (fz ?_) (fz ?_) <;> first | trivial | rfl | exact ⟨rfl, rfl, rfl⟩ | trace_state
end Go.Proofs.YtfcmcedeapgdcaaGreat
end
section
namespace Go.Proofs.YtfcmcedeapgdcaaGreat
open Go Go.RowKit Go.Vc
set_option linter.unusedVariables false
set_option linter.unusedSimpArgs false
set_option linter.unnecessarySimpa false
end Go.Proofs.YtfcmcedeapgdcaaGreat
end
section
namespace Go.Proofs.YtfcmcedeapgdcaaGreat
open Go Go.RowKit Go.Vc
set_option linter.unusedVariables false
set_option linter.unusedSimpArgs false
set_option linter.unnecessarySimpa false
theorem c_laws_big {v : Value} {code : List UInt8} : Con0 Tryz.prog 6 [.one (.rd (pinQ v code))] (B (decide ((code.length : Int) > 1048576))) [] := by
  refine con_i Tryz.func6 Tryz.ntmps6 (t := [(0, .one (.rd (pinQ v code)))]) rfl ?_
  refine vc_sr ?_
  refine vo ?_
  refine vnt ?_
  refine vc_sr ?_
  refine vo ?_
  refine vlp ?_
  refine vo ?_
  refine vo ?_
  refine vnt ?_
  refine vc_ret ?_
  refine fin_i [] rfl (fz ?_) (fz ?_) <;> first | trivial | rfl | trace_state
end Go.Proofs.YtfcmcedeapgdcaaGreat
end
section
namespace Go.Proofs.YtfcmcedeapgdcaaGreat
open Go Go.RowKit Go.Vc
set_option linter.unusedVariables false
set_option linter.unusedSimpArgs false
set_option linter.unnecessarySimpa false
theorem rep0_at (n k : Nat) : bAt (strOfNums (List.replicate n 0)) k = 0 := by
  unfold bAt
  split
  · rename_i h
    rw [ByteArray.getElem_eq_getElem_data]
    simp [strOfNums]
  · rfl
theorem page0_at (k : Nat) : bAt page0 k = 0 := rep0_at _ _
end Go.Proofs.YtfcmcedeapgdcaaGreat
end
section
namespace Go.Proofs.YtfcmcedeapgdcaaGreat
open Go Go.RowKit Go.Vc
set_option linter.unusedVariables false
set_option linter.unusedSimpArgs false
set_option linter.unnecessarySimpa false
theorem get32_at {s : ByteArray} {i : Nat} (h : i + 4 ≤ s.size) : get32 s (i : Int) = ((bAt s i * 16777216 + bAt s (i + 1) * 65536 + bAt s (i + 2) * 256 + bAt s (i + 3) : Nat) : Int) := by
  unfold get32; rw [if_pos (by omega)]; rfl
theorem w32_at {v : Int} (h : inB v 0 4294967295 = true) : ((bAt (word32 v) 0 * 16777216 + bAt (word32 v) 1 * 65536 + bAt (word32 v) 2 * 256 + bAt (word32 v) 3 : Nat) : Int) = v := by
  obtain ⟨h1, h2⟩ := inB_iff.1 h
  have e : word32 v = strOfNums [v / 16777216, v / 65536 % 256, v / 256 % 256, v % 256] := by simp [word32, h]
  rw [e, bAt_lit (by simp), bAt_lit (by simp), bAt_lit (by simp), bAt_lit (by simp)]
  simp only [List.getElem_cons_zero, List.getElem_cons_succ]
  omega
theorem mid_at (a b r : ByteArray) {k : Nat} (h : k < b.size) : bAt (a ++ b ++ r) (a.size + k) = bAt b k := by
  rw [bAt_append, ByteArray.size_append, if_pos (by omega), bAt_append, if_neg (by omega)]
  congr 1; omega
theorem g16m {s a r : ByteArray} {v : Int} {i : Nat} (e : s = a ++ word16 v ++ r) (h : inB v 0 65535 = true) (hi : i = a.size) : get16 s (i : Int) = v := by rw [e]; exact get16_mid h hi
theorem g32m {s a r : ByteArray} {v : Int} {i : Nat} (e : s = a ++ word32 v ++ r) (h : inB v 0 4294967295 = true) (hi : i = a.size) : get32 s (i : Int) = v := by
  have hw := word32_size h
  subst e hi
  rw [get32_at (by rw [ByteArray.size_append, ByteArray.size_append]; omega)]
  have e0 := mid_at a (word32 v) r (k := 0) (by omega)
  rw [Nat.add_zero] at e0
  rw [e0, mid_at a (word32 v) r (k := 1) (by omega), mid_at a (word32 v) r (k := 2) (by omega), mid_at a (word32 v) r (k := 3) (by omega)]
  exact w32_at h
theorem bym {s a r : ByteArray} {xs : List Int} {i k : Nat} (e : s = a ++ strOfNums xs ++ r) (hk : k < xs.length) (hi : i = a.size + k) : bAt s i = xs[k].toNat % 256 := by
  subst e hi
  rw [mid_at _ _ _ (by rw [strOfNums_size]; exact hk), bAt_lit hk]
theorem g16_l {a b : ByteArray} {i : Nat} (h : i + 2 ≤ a.size) : get16 (a ++ b) (i : Int) = get16 a (i : Int) := by
  rw [get16_at (by rw [ByteArray.size_append]; omega), get16_at h, bAt_append, if_pos (by omega), bAt_append, if_pos (by omega)]
theorem g32_l {a b : ByteArray} {i : Nat} (h : i + 4 ≤ a.size) : get32 (a ++ b) (i : Int) = get32 a (i : Int) := by
  rw [get32_at (by rw [ByteArray.size_append]; omega), get32_at h, bAt_append, if_pos (by omega), bAt_append, if_pos (by omega), bAt_append, if_pos (by omega), bAt_append, if_pos (by omega)]
theorem by_l {a b : ByteArray} {i : Nat} (h : i < a.size) : bAt (a ++ b) i = bAt a i := by rw [bAt_append, if_pos h]
theorem get32_put {s p : ByteArray} {i j : Nat} (h : i + p.size ≤ s.size) (hj : j + 4 ≤ i ∨ i + p.size ≤ j) : get32 (putBF s (i : Int) p) (j : Int) = get32 s (j : Int) := by
  have hz := putBF_size s (i : Int) p
  by_cases hs : j + 4 ≤ s.size
  · rw [get32_at (by omega), get32_at hs, putBF_at h, if_neg (by omega), putBF_at h, if_neg (by omega), putBF_at h, if_neg (by omega), putBF_at h, if_neg (by omega)]
  · rw [get32, if_neg (by omega), get32, if_neg (by omega)]
theorem ex_mid (a b r : ByteArray) : (a ++ b ++ r).extract a.size (a.size + b.size) = b := by
  refine ba_ext (by rw [ByteArray.size_extract]; simp only [ByteArray.size_append]; omega) fun i hi => ?_
  rw [ByteArray.size_extract] at hi
  simp only [ByteArray.size_append] at hi
  rw [bAt_extract, if_pos (by omega), mid_at a b r (by omega)]
theorem ex_r (a b : ByteArray) {n m : Nat} (hn : n = a.size) (hm : m = (a ++ b).size) : (a ++ b).extract n m = b := by
  subst hn hm
  have := ex_mid a b ⟨#[]⟩
  rw [ba_append_nil] at this
  rw [ByteArray.size_append]; exact this
theorem ex_put {s p : ByteArray} {i a n : Nat} (h : i + p.size ≤ s.size) (ha : i + p.size ≤ a) : (putBF s (i : Int) p).extract a n = s.extract a n := by
  have hz := putBF_size s (i : Int) p
  refine ba_ext (by rw [ByteArray.size_extract, ByteArray.size_extract, hz]) fun k hk => ?_
  rw [bAt_extract, bAt_extract]
  split
  · rw [putBF_at h, if_neg (by omega)]
  · rfl
theorem mac_split (a : Int) (h : inB a 0 281474976710655 = true) : inB (a / 4294967296) 0 65535 = true ∧ inB (a % 4294967296) 0 4294967295 = true ∧ a / 4294967296 * 4294967296 + a % 4294967296 = a := by
  obtain ⟨h1, h2⟩ := inB_iff.1 h
  exact ⟨inB_iff.2 (by omega), inB_iff.2 (by omega), by omega⟩
theorem eth_fields {dm sm vl : Int} {b : ByteArray} (h1 : inB dm 0 281474976710655 = true) (h2 : inB sm 0 281474976710655 = true) (h3 : inB vl (-1) 4095 = true) (hb : 46 ≤ b.size) :
    ethX (ethF dm sm vl 2048 b) = ⟨dm, sm, vl, 2048, b⟩ ∧ 18 ≤ (ethF dm sm vl 2048 b).size ∧ ∃ E : ByteArray, ethF dm sm vl 2048 b = E ++ b ∧ sumsA (ethF dm sm vl 2048 b) = E.size := by
  obtain ⟨d1, d2, d3⟩ := mac_split dm h1
  obtain ⟨s1, s2, s3⟩ := mac_split sm h2
  have z1 := mac_sz h1
  have z2 := mac_sz h2
  have za := word16_size d1
  have zb := word32_size d2
  have zc := word16_size s1
  have zd := word32_size s2
  have w1 : (word16 33024).size = 2 := rfl
  have w2 : (word16 2048).size = 2 := rfl
  have hv := inB_iff.1 h3
  by_cases hv0 : 0 ≤ vl
  · have e : ethF dm sm vl 2048 b = macF dm ++ macF sm ++ (word16 33024 ++ word16 vl) ++ word16 2048 ++ b := if_pos hv0
    have i4 : inB vl 0 65535 = true := inB_iff.2 (by omega)
    have w3 := word16_size i4
    have hz : (ethF dm sm vl 2048 b).size = 18 + b.size := by rw [e]; simp only [ByteArray.size_append, z1, z2, w1, w2, w3]
    have q0 : get16 (ethF dm sm vl 2048 b) ((0 : Nat) : Int) = dm / 4294967296 := g16m (a := ⟨#[]⟩) (r := word32 (dm % 4294967296) ++ (macF sm ++ (word16 33024 ++ (word16 vl ++ (word16 2048 ++ b))))) (by rw [e, ba_empty]; simp only [macF, ByteArray.append_assoc]) d1 rfl
    have q2 : get32 (ethF dm sm vl 2048 b) ((2 : Nat) : Int) = dm % 4294967296 := g32m (a := word16 (dm / 4294967296)) (r := macF sm ++ (word16 33024 ++ (word16 vl ++ (word16 2048 ++ b)))) (by rw [e]; simp only [macF, ByteArray.append_assoc]) d2 za.symm
    have q6 : get16 (ethF dm sm vl 2048 b) ((6 : Nat) : Int) = sm / 4294967296 := g16m (a := macF dm) (r := word32 (sm % 4294967296) ++ (word16 33024 ++ (word16 vl ++ (word16 2048 ++ b)))) (by rw [e]; simp only [macF, ByteArray.append_assoc]) s1 z1.symm
    have q8 : get32 (ethF dm sm vl 2048 b) ((8 : Nat) : Int) = sm % 4294967296 := g32m (a := macF dm ++ word16 (sm / 4294967296)) (r := word16 33024 ++ (word16 vl ++ (word16 2048 ++ b))) (by rw [e]; simp only [macF, ByteArray.append_assoc]) s2 (by rw [ByteArray.size_append, z1, zc])
    have q12 : get16 (ethF dm sm vl 2048 b) ((12 : Nat) : Int) = 33024 := g16m (a := macF dm ++ macF sm) (r := word16 vl ++ (word16 2048 ++ b)) (by rw [e]; simp only [ByteArray.append_assoc]) (by decide) (by rw [ByteArray.size_append, z1, z2])
    have q14 : get16 (ethF dm sm vl 2048 b) ((14 : Nat) : Int) = vl := g16m (a := macF dm ++ macF sm ++ word16 33024) (r := word16 2048 ++ b) (by rw [e]; simp only [ByteArray.append_assoc]) i4 (by simp only [ByteArray.size_append, z1, z2, w1])
    have q16 : get16 (ethF dm sm vl 2048 b) ((16 : Nat) : Int) = 2048 := g16m (a := macF dm ++ macF sm ++ (word16 33024 ++ word16 vl)) (r := b) (by rw [e]) (by decide) (by simp only [ByteArray.size_append, z1, z2, w1, w3])
    have qb : (ethF dm sm vl 2048 b).extract (Int.toNat 18) (ethF dm sm vl 2048 b).size = b := by
      rw [e]
      exact ex_r _ b (by simp only [ByteArray.size_append, z1, z2, w1, w2, w3]; rfl) rfl
    refine ⟨?_, by omega, _, e, by unfold sumsA; rw [show get16 (ethF dm sm vl 2048 b) 12 = 33024 from q12, if_pos rfl]; simp only [ByteArray.size_append, z1, z2, w1, w2, w3]; rfl⟩
    unfold ethX m6
    rw [if_pos ⟨q12, by omega⟩, qb]
    simp only [Int.zero_add, show (6 : Int) + 2 = 8 from rfl]
    rw [show get16 (ethF dm sm vl 2048 b) 0 = dm / 4294967296 from q0, show get32 (ethF dm sm vl 2048 b) 2 = dm % 4294967296 from q2, show get16 (ethF dm sm vl 2048 b) 6 = sm / 4294967296 from q6, show get32 (ethF dm sm vl 2048 b) 8 = sm % 4294967296 from q8, show get16 (ethF dm sm vl 2048 b) 14 = vl from q14, show get16 (ethF dm sm vl 2048 b) 16 = 2048 from q16, d3, s3]
  · have e : ethF dm sm vl 2048 b = macF dm ++ macF sm ++ word16 2048 ++ b := if_neg hv0
    have hz : (ethF dm sm vl 2048 b).size = 14 + b.size := by rw [e]; simp only [ByteArray.size_append, z1, z2, w2]
    have q0 : get16 (ethF dm sm vl 2048 b) ((0 : Nat) : Int) = dm / 4294967296 := g16m (a := ⟨#[]⟩) (r := word32 (dm % 4294967296) ++ (macF sm ++ (word16 2048 ++ b))) (by rw [e, ba_empty]; simp only [macF, ByteArray.append_assoc]) d1 rfl
    have q2 : get32 (ethF dm sm vl 2048 b) ((2 : Nat) : Int) = dm % 4294967296 := g32m (a := word16 (dm / 4294967296)) (r := macF sm ++ (word16 2048 ++ b)) (by rw [e]; simp only [macF, ByteArray.append_assoc]) d2 za.symm
    have q6 : get16 (ethF dm sm vl 2048 b) ((6 : Nat) : Int) = sm / 4294967296 := g16m (a := macF dm) (r := word32 (sm % 4294967296) ++ (word16 2048 ++ b)) (by rw [e]; simp only [macF, ByteArray.append_assoc]) s1 z1.symm
    have q8 : get32 (ethF dm sm vl 2048 b) ((8 : Nat) : Int) = sm % 4294967296 := g32m (a := macF dm ++ word16 (sm / 4294967296)) (r := word16 2048 ++ b) (by rw [e]; simp only [macF, ByteArray.append_assoc]) s2 (by rw [ByteArray.size_append, z1, zc])
    have q12 : get16 (ethF dm sm vl 2048 b) ((12 : Nat) : Int) = 2048 := g16m (a := macF dm ++ macF sm) (r := b) (by rw [e]) (by decide) (by rw [ByteArray.size_append, z1, z2])
    have qb : (ethF dm sm vl 2048 b).extract (Int.toNat 14) (ethF dm sm vl 2048 b).size = b := by
      rw [e]
      exact ex_r _ b (by simp only [ByteArray.size_append, z1, z2, w2]; rfl) rfl
    have q12' : get16 (ethF dm sm vl 2048 b) 12 = 2048 := q12
    refine ⟨?_, by omega, _, e, by unfold sumsA; rw [q12', if_neg (by decide)]; simp only [ByteArray.size_append, z1, z2, w2]; rfl⟩
    unfold ethX m6
    rw [if_neg (by rw [q12']; omega), qb, q12']
    simp only [Int.zero_add, show (6 : Int) + 2 = 8 from rfl]
    rw [show get16 (ethF dm sm vl 2048 b) 0 = dm / 4294967296 from q0, show get32 (ethF dm sm vl 2048 b) 2 = dm % 4294967296 from q2, show get16 (ethF dm sm vl 2048 b) 6 = sm / 4294967296 from q6, show get32 (ethF dm sm vl 2048 b) 8 = sm % 4294967296 from q8, d3, s3, show (-1 : Int) = vl by omega]
theorem ip_hdr0 {tos id ttl pr src dst : Int} {n : Nat} (h : ipOkB tos id ttl pr src dst n = true) : (ipH0 tos id ttl pr src dst n).size = 20 ∧ bAt (ipH0 tos id ttl pr src dst n) 1 = tos.toNat ∧ get16 (ipH0 tos id ttl pr src dst n) ((2 : Nat) : Int) = 20 + n ∧ get16 (ipH0 tos id ttl pr src dst n) ((4 : Nat) : Int) = id ∧ bAt (ipH0 tos id ttl pr src dst n) 8 = ttl.toNat ∧ bAt (ipH0 tos id ttl pr src dst n) 9 = pr.toNat ∧ get16 (ipH0 tos id ttl pr src dst n) ((10 : Nat) : Int) = 0 ∧ get32 (ipH0 tos id ttl pr src dst n) ((12 : Nat) : Int) = src ∧ get32 (ipH0 tos id ttl pr src dst n) ((16 : Nat) : Int) = dst := by
  unfold ipOkB at h
  simp only [Bool.and_eq_true, decide_eq_true_eq] at h
  obtain ⟨⟨⟨⟨⟨⟨i1, i2⟩, i3⟩, i4⟩, i5⟩, i6⟩, i7⟩ := h
  have b1 := inB_iff.1 i1; have b2 := inB_iff.1 i2; have b3 := inB_iff.1 i3
  have i8 : inB (20 + (n : Int)) 0 65535 = true := inB_iff.2 (by omega)
  have z1 := word16_size i8; have z2 := word16_size i4; have z5 := word32_size i5; have z6 := word32_size i6
  have z3 : (word16 16384).size = 2 := rfl
  have z4 : (word16 0).size = 2 := rfl
  have zz : ∀ a b : Int, (strOfNums [a, b]).size = 2 := fun a b => by rw [strOfNums_size]; rfl
  unfold ipH0
  refine ⟨by simp only [ByteArray.size_append, z1, z2, z3, z4, z5, z6, zz], ?_, ?_, ?_, ?_, ?_, ?_, ?_, ?_⟩
  · rw [bym (a := ⟨#[]⟩) (xs := [69, tos]) (k := 1) (r := word16 (20 + n) ++ (word16 id ++ (word16 16384 ++ (strOfNums [ttl, pr] ++ (word16 0 ++ (word32 src ++ word32 dst)))))) (by rw [ba_empty]; simp only [ByteArray.append_assoc]) (by simp) (i := 1) rfl]
    simp only [List.getElem_cons_succ, List.getElem_cons_zero]; omega
  · exact g16m (a := strOfNums [69, tos]) (r := word16 id ++ (word16 16384 ++ (strOfNums [ttl, pr] ++ (word16 0 ++ (word32 src ++ word32 dst))))) (by simp only [ByteArray.append_assoc]) i8 (zz _ _).symm
  · exact g16m (a := strOfNums [69, tos] ++ word16 (20 + n)) (r := word16 16384 ++ (strOfNums [ttl, pr] ++ (word16 0 ++ (word32 src ++ word32 dst)))) (by simp only [ByteArray.append_assoc]) i4 (by simp only [ByteArray.size_append, zz, z1])
  · rw [bym (a := strOfNums [69, tos] ++ word16 (20 + n) ++ word16 id ++ word16 16384) (xs := [ttl, pr]) (k := 0) (r := word16 0 ++ (word32 src ++ word32 dst)) (by simp only [ByteArray.append_assoc]) (by simp) (by simp only [ByteArray.size_append, zz, z1, z2, z3])]
    simp only [List.getElem_cons_zero]; omega
  · rw [bym (a := strOfNums [69, tos] ++ word16 (20 + n) ++ word16 id ++ word16 16384) (xs := [ttl, pr]) (k := 1) (r := word16 0 ++ (word32 src ++ word32 dst)) (by simp only [ByteArray.append_assoc]) (by simp) (by simp only [ByteArray.size_append, zz, z1, z2, z3])]
    simp only [List.getElem_cons_succ, List.getElem_cons_zero]; omega
  · exact g16m (a := strOfNums [69, tos] ++ word16 (20 + n) ++ word16 id ++ word16 16384 ++ strOfNums [ttl, pr]) (r := word32 src ++ word32 dst) (by simp only [ByteArray.append_assoc]) (by decide) (by simp only [ByteArray.size_append, zz, z1, z2, z3])
  · exact g32m (a := strOfNums [69, tos] ++ word16 (20 + n) ++ word16 id ++ word16 16384 ++ strOfNums [ttl, pr] ++ word16 0) (r := word32 dst) (by simp only [ByteArray.append_assoc]) i5 (by simp only [ByteArray.size_append, zz, z1, z2, z3, z4])
  · exact g32m (a := strOfNums [69, tos] ++ word16 (20 + n) ++ word16 id ++ word16 16384 ++ strOfNums [ttl, pr] ++ word16 0 ++ word32 src) (r := ⟨#[]⟩) (by rw [ba_append_nil]) i6 (by simp only [ByteArray.size_append, zz, z1, z2, z3, z4, z5])
theorem checkF_in (s : ByteArray) : inB (checkF s) 0 65535 = true := by
  have := sumF_bd s
  exact inB_iff.2 (by unfold checkF; omega)
theorem ip_hdr {tos id ttl pr src dst : Int} {n : Nat} (h : ipOkB tos id ttl pr src dst n = true) : (ipHF tos id ttl pr src dst n).size = 20 ∧ bAt (ipHF tos id ttl pr src dst n) 1 = tos.toNat ∧ get16 (ipHF tos id ttl pr src dst n) ((2 : Nat) : Int) = 20 + n ∧ get16 (ipHF tos id ttl pr src dst n) ((4 : Nat) : Int) = id ∧ bAt (ipHF tos id ttl pr src dst n) 8 = ttl.toNat ∧ bAt (ipHF tos id ttl pr src dst n) 9 = pr.toNat ∧ get32 (ipHF tos id ttl pr src dst n) ((12 : Nat) : Int) = src ∧ get32 (ipHF tos id ttl pr src dst n) ((16 : Nat) : Int) = dst := by
  obtain ⟨z, f1, f2, f3, f4, f5, f6, f7, f8⟩ := ip_hdr0 h
  have hw := word16_size (checkF_in (ipH0 tos id ttl pr src dst n))
  have hl : 10 + (word16 (checkF (ipH0 tos id ttl pr src dst n))).size ≤ (ipH0 tos id ttl pr src dst n).size := by omega
  unfold ipHF
  generalize word16 (checkF (ipH0 tos id ttl pr src dst n)) = c at *
  have e : (10 : Int) = ((10 : Nat) : Int) := rfl
  rw [e]
  refine ⟨by rw [putBF_size, z], ?_, ?_, ?_, ?_, ?_, ?_, ?_⟩
  · rw [putBF_at hl, if_neg (by omega), f1]
  · rw [get16_put hl (by omega), f2]
  · rw [get16_put hl (by omega), f3]
  · rw [putBF_at hl, if_neg (by omega), f4]
  · rw [putBF_at hl, if_neg (by omega), f5]
  · rw [get32_put hl (by omega), f7]
  · rw [get32_put hl (by omega), f8]
theorem pad_app (d : ByteArray) : ∃ r, padF d = d ++ r := by
  unfold padF
  split
  · exact ⟨_, rfl⟩
  · exact ⟨⟨#[]⟩, (ba_append_nil d).symm⟩
theorem ip_fields {tos id ttl pr src dst : Int} {g : ByteArray} (h : ipOkB tos id ttl pr src dst g.size = true) : ipX (padF (ipR tos id ttl pr src dst g)) = ⟨tos, id, ttl, pr, src, dst, g⟩ ∧ ipPB (padF (ipR tos id ttl pr src dst g)) = true ∧ get16 (padF (ipR tos id ttl pr src dst g)) 2 = 20 + g.size := by
  obtain ⟨z, f1, f2, f3, f4, f5, f6, f7⟩ := ip_hdr h
  have hR : ipR tos id ttl pr src dst g = ipHF tos id ttl pr src dst g.size ++ g := if_pos h
  have hb : ipOkB tos id ttl pr src dst g.size = true := h
  unfold ipOkB at h
  simp only [Bool.and_eq_true, decide_eq_true_eq] at h
  obtain ⟨⟨⟨⟨⟨⟨i1, i2⟩, i3⟩, i4⟩, i5⟩, i6⟩, i7⟩ := h
  have b1 := inB_iff.1 i1; have b2 := inB_iff.1 i2; have b3 := inB_iff.1 i3
  obtain ⟨r, hr⟩ := pad_app (ipR tos id ttl pr src dst g)
  have hpz := padF_le (ipR tos id ttl pr src dst g)
  have hdz : (ipR tos id ttl pr src dst g).size = 20 + g.size := by rw [hR, ByteArray.size_append, z]
  have k2 : get16 (padF (ipR tos id ttl pr src dst g)) ((2 : Nat) : Int) = 20 + g.size := by rw [hr, hR, ByteArray.append_assoc, g16_l (by omega), f2]
  have k4 : get16 (padF (ipR tos id ttl pr src dst g)) ((4 : Nat) : Int) = id := by rw [hr, hR, ByteArray.append_assoc, g16_l (by omega), f3]
  have k12 : get32 (padF (ipR tos id ttl pr src dst g)) ((12 : Nat) : Int) = src := by rw [hr, hR, ByteArray.append_assoc, g32_l (by omega), f6]
  have k16 : get32 (padF (ipR tos id ttl pr src dst g)) ((16 : Nat) : Int) = dst := by rw [hr, hR, ByteArray.append_assoc, g32_l (by omega), f7]
  have k1 : bAt (padF (ipR tos id ttl pr src dst g)) 1 = tos.toNat := by rw [hr, hR, ByteArray.append_assoc, by_l (by omega), f1]
  have k8 : bAt (padF (ipR tos id ttl pr src dst g)) 8 = ttl.toNat := by rw [hr, hR, ByteArray.append_assoc, by_l (by omega), f4]
  have k9 : bAt (padF (ipR tos id ttl pr src dst g)) 9 = pr.toNat := by rw [hr, hR, ByteArray.append_assoc, by_l (by omega), f5]
  have kb : (padF (ipR tos id ttl pr src dst g)).extract (Int.toNat 20) (20 + (g.size : Int)).toNat = g := by
    have := ex_mid (ipHF tos id ttl pr src dst g.size) g r
    rw [z] at this
    rw [hr, hR, show Int.toNat 20 = 20 from rfl, show (20 + (g.size : Int)).toNat = 20 + g.size by omega, this]
  have kd : (padF (ipR tos id ttl pr src dst g)).extract (Int.toNat 0) (20 + (g.size : Int)).toNat = ipR tos id ttl pr src dst g := by
    have := ex_mid ⟨#[]⟩ (ipR tos id ttl pr src dst g) r
    rw [ba_empty, hdz] at this
    rw [hr, show Int.toNat 0 = 0 from rfl, show (20 + (g.size : Int)).toNat = 20 + g.size by omega]
    have z0 : (⟨#[]⟩ : ByteArray).size = 0 := rfl
    rw [z0, Nat.zero_add] at this
    exact this
  have k2' : get16 (padF (ipR tos id ttl pr src dst g)) 2 = 20 + g.size := k2
  have eX : ipX (padF (ipR tos id ttl pr src dst g)) = ⟨tos, id, ttl, pr, src, dst, g⟩ := by
    unfold ipX
    rw [k1, show get16 (padF (ipR tos id ttl pr src dst g)) 4 = id from k4, k8, k9, show get32 (padF (ipR tos id ttl pr src dst g)) 12 = src from k12, show get32 (padF (ipR tos id ttl pr src dst g)) 16 = dst from k16, k2', kb, show ((tos.toNat : Nat) : Int) = tos by omega, show ((ttl.toNat : Nat) : Int) = ttl by omega, show ((pr.toNat : Nat) : Int) = pr by omega]
  refine ⟨eX, ?_, k2'⟩
  unfold ipPB
  rw [eX, k2', kd, decide_eq_true (show 20 ≤ (padF (ipR tos id ttl pr src dst g)).size by omega), decide_eq_true (show (20 : Int) ≤ 20 + g.size by omega), decide_eq_true (show 20 + (g.size : Int) ≤ ((padF (ipR tos id ttl pr src dst g)).size : Int) by omega), show (IpX.mk tos id ttl pr src dst g).ok = true from hb, show (IpX.mk tos id ttl pr src dst g).im = ipR tos id ttl pr src dst g from rfl, decide_eq_true rfl]
  rfl
def csF (src dst kind sp dp seq ack fl win : Int) (body : ByteArray) : Int := checkF (psF src dst kind (bareF kind sp dp seq ack fl win body).size ++ bareF kind sp dp seq ack fl win body)
def cyF (src dst kind sp dp seq ack fl win : Int) (body : ByteArray) : Int := if kind = 17 ∧ csF src dst kind sp dp seq ack fl win body = 0 then 65535 else csF src dst kind sp dp seq ack fl win body
theorem cyF_in (src dst kind sp dp seq ack fl win : Int) (body : ByteArray) : inB (cyF src dst kind sp dp seq ack fl win body) 0 65535 = true := by
  unfold cyF
  split
  · decide
  · exact checkF_in _
theorem segF_eq (src dst kind sp dp seq ack fl win : Int) (body : ByteArray) : segF src dst kind sp dp seq ack fl win body = putBF (bareF kind sp dp seq ack fl win body) (sumPl kind) (word16 (cyF src dst kind sp dp seq ack fl win body)) := rfl
theorem bare_tcp {sp dp seq ack fl win : Int} {body : ByteArray} (h : segOkB 6 sp dp seq ack fl win body.size = true) : (bareF 6 sp dp seq ack fl win body).size = 20 + body.size ∧ get16 (bareF 6 sp dp seq ack fl win body) ((0 : Nat) : Int) = sp ∧ get16 (bareF 6 sp dp seq ack fl win body) ((2 : Nat) : Int) = dp ∧ get32 (bareF 6 sp dp seq ack fl win body) ((4 : Nat) : Int) = seq ∧ get32 (bareF 6 sp dp seq ack fl win body) ((8 : Nat) : Int) = ack ∧ bAt (bareF 6 sp dp seq ack fl win body) 13 = fl.toNat ∧ get16 (bareF 6 sp dp seq ack fl win body) ((14 : Nat) : Int) = win ∧ get16 (bareF 6 sp dp seq ack fl win body) ((16 : Nat) : Int) = 0 ∧ (bareF 6 sp dp seq ack fl win body).extract 20 (bareF 6 sp dp seq ack fl win body).size = body := by
  unfold segOkB at h
  simp at h
  obtain ⟨⟨⟨i1, i2⟩, _⟩, i3, i4, i5, i6⟩ := h
  have b5 := inB_iff.1 i5
  have z1 := word16_size i1; have z2 := word16_size i2; have z3 := word32_size i3; have z4 := word32_size i4; have z6 := word16_size i6
  have z0 : (word16 0).size = 2 := rfl
  have zz : ∀ a b : Int, (strOfNums [a, b]).size = 2 := fun a b => by rw [strOfNums_size]; rfl
  have e : bareF 6 sp dp seq ack fl win body = word16 sp ++ word16 dp ++ word32 seq ++ word32 ack ++ strOfNums [80, fl] ++ word16 win ++ word16 0 ++ word16 0 ++ body := if_pos rfl
  rw [e]
  refine ⟨by simp only [ByteArray.size_append, z1, z2, z3, z4, z6, z0, zz], ?_, ?_, ?_, ?_, ?_, ?_, ?_, ?_⟩
  · exact g16m (a := ⟨#[]⟩) (r := word16 dp ++ (word32 seq ++ (word32 ack ++ (strOfNums [80, fl] ++ (word16 win ++ (word16 0 ++ (word16 0 ++ body))))))) (by rw [ba_empty]; simp only [ByteArray.append_assoc]) i1 rfl
  · exact g16m (a := word16 sp) (r := word32 seq ++ (word32 ack ++ (strOfNums [80, fl] ++ (word16 win ++ (word16 0 ++ (word16 0 ++ body)))))) (by simp only [ByteArray.append_assoc]) i2 z1.symm
  · exact g32m (a := word16 sp ++ word16 dp) (r := word32 ack ++ (strOfNums [80, fl] ++ (word16 win ++ (word16 0 ++ (word16 0 ++ body))))) (by simp only [ByteArray.append_assoc]) i3 (by simp only [ByteArray.size_append, z1, z2])
  · exact g32m (a := word16 sp ++ word16 dp ++ word32 seq) (r := strOfNums [80, fl] ++ (word16 win ++ (word16 0 ++ (word16 0 ++ body)))) (by simp only [ByteArray.append_assoc]) i4 (by simp only [ByteArray.size_append, z1, z2, z3])
  · rw [bym (a := word16 sp ++ word16 dp ++ word32 seq ++ word32 ack) (xs := [80, fl]) (k := 1) (r := word16 win ++ (word16 0 ++ (word16 0 ++ body))) (by simp only [ByteArray.append_assoc]) (by simp) (by simp only [ByteArray.size_append, z1, z2, z3, z4])]
    simp only [List.getElem_cons_succ, List.getElem_cons_zero]; omega
  · exact g16m (a := word16 sp ++ word16 dp ++ word32 seq ++ word32 ack ++ strOfNums [80, fl]) (r := word16 0 ++ (word16 0 ++ body)) (by simp only [ByteArray.append_assoc]) i6 (by simp only [ByteArray.size_append, z1, z2, z3, z4, zz])
  · exact g16m (a := word16 sp ++ word16 dp ++ word32 seq ++ word32 ack ++ strOfNums [80, fl] ++ word16 win) (r := word16 0 ++ body) (by simp only [ByteArray.append_assoc]) (by decide) (by simp only [ByteArray.size_append, z1, z2, z3, z4, zz, z6])
  · exact ex_r _ body (by simp only [ByteArray.size_append, z1, z2, z3, z4, zz, z6, z0]) rfl
theorem bare_udp {sp dp : Int} {body : ByteArray} (h : segOkB 17 sp dp 0 0 0 0 body.size = true) : (bareF 17 sp dp 0 0 0 0 body).size = 8 + body.size ∧ get16 (bareF 17 sp dp 0 0 0 0 body) ((0 : Nat) : Int) = sp ∧ get16 (bareF 17 sp dp 0 0 0 0 body) ((2 : Nat) : Int) = dp ∧ get16 (bareF 17 sp dp 0 0 0 0 body) ((6 : Nat) : Int) = 0 ∧ (bareF 17 sp dp 0 0 0 0 body).extract 8 (bareF 17 sp dp 0 0 0 0 body).size = body := by
  unfold segOkB at h
  simp at h
  obtain ⟨⟨i1, i2⟩, i3⟩ := h
  have i8 : inB (8 + (body.size : Int)) 0 65535 = true := inB_iff.2 (by omega)
  have z1 := word16_size i1; have z2 := word16_size i2; have z3 := word16_size i8
  have z0 : (word16 0).size = 2 := rfl
  have e : bareF 17 sp dp 0 0 0 0 body = word16 sp ++ word16 dp ++ word16 (8 + body.size) ++ word16 0 ++ body := if_neg (by decide)
  rw [e]
  refine ⟨by simp only [ByteArray.size_append, z1, z2, z3, z0], ?_, ?_, ?_, ?_⟩
  · exact g16m (a := ⟨#[]⟩) (r := word16 dp ++ (word16 (8 + body.size) ++ (word16 0 ++ body))) (by rw [ba_empty]; simp only [ByteArray.append_assoc]) i1 rfl
  · exact g16m (a := word16 sp) (r := word16 (8 + body.size) ++ (word16 0 ++ body)) (by simp only [ByteArray.append_assoc]) i2 z1.symm
  · exact g16m (a := word16 sp ++ word16 dp ++ word16 (8 + body.size)) (r := body) (by simp only [ByteArray.append_assoc]) (by decide) (by simp only [ByteArray.size_append, z1, z2, z3])
  · exact ex_r _ body (by simp only [ByteArray.size_append, z1, z2, z3, z0]) rfl
theorem seg_fields {src dst kind sp dp seq ack fl win : Int} {body : ByteArray} (h : segC src dst kind sp dp seq ack fl win body = true) : segX kind (segR src dst kind sp dp seq ack fl win body) = ⟨kind, sp, dp, seq, ack, fl, win, body⟩ ∧ segPB src dst kind (segR src dst kind sp dp seq ack fl win body) = true ∧ (segR src dst kind sp dp seq ack fl win body).size = (bareF kind sp dp seq ack fl win body).size ∧ sumPl kind + 2 ≤ (segR src dst kind sp dp seq ack fl win body).size ∧ (kind = 6 ∨ kind = 17) := by
  have hR : segR src dst kind sp dp seq ack fl win body = putBF (bareF kind sp dp seq ack fl win body) (sumPl kind) (word16 (cyF src dst kind sp dp seq ack fl win body)) := (if_pos h).trans (segF_eq ..)
  have hS : segOkB kind sp dp seq ack fl win body.size = true := by unfold segC at h; rw [Bool.and_eq_true] at h; exact h.1
  have hz : (segR src dst kind sp dp seq ack fl win body).size = (bareF kind sp dp seq ack fl win body).size := by rw [hR, putBF_size]
  have hw := word16_size (cyF_in src dst kind sp dp seq ack fl win body)
  rcases (segOk_kind hS).1 with rfl | rfl
  · obtain ⟨z, f0, f2, f4, f8, f13, f14, f16, fb⟩ := bare_tcp hS
    have hfl := segOk_fl hS
    have hp : sumPl 6 = ((16 : Nat) : Int) := rfl
    have hl : 16 + (word16 (cyF src dst 6 sp dp seq ack fl win body)).size ≤ (bareF 6 sp dp seq ack fl win body).size := by omega
    have eX : segX 6 (segR src dst 6 sp dp seq ack fl win body) = ⟨6, sp, dp, seq, ack, fl, win, body⟩ := by
      unfold segX
      rw [if_pos rfl, hz]
      rw [hR, hp]
      rw [show (0 : Int) = ((0 : Nat) : Int) from rfl, show (2 : Int) = ((2 : Nat) : Int) from rfl, show (4 : Int) = ((4 : Nat) : Int) from rfl, show (8 : Int) = ((8 : Nat) : Int) from rfl, show (14 : Int) = ((14 : Nat) : Int) from rfl]
      rw [get16_put hl (by omega), get16_put hl (by omega), get32_put hl (by omega), get32_put hl (by omega), get16_put hl (by omega), putBF_at hl, if_neg (by omega), f0, f2, f4, f8, f13, f14, show Int.toNat 20 = 20 from rfl, ex_put hl (by omega), fb]
      rw [show ((fl.toNat : Nat) : Int) = fl by omega]
    refine ⟨eX, ?_, hz, by rw [hz, z]; unfold sumPl; rw [if_pos rfl]; omega, .inl rfl⟩
    unfold segPB
    rw [eX, show (SegX.mk 6 sp dp seq ack fl win body).ok src dst = true from h, show (SegX.mk 6 sp dp seq ack fl win body).im src dst = segR src dst 6 sp dp seq ack fl win body from rfl, decide_eq_true rfl, decide_eq_true (show 20 ≤ (segR src dst 6 sp dp seq ack fl win body).size by omega), decide_eq_true rfl]
    rfl
  · have hzero : seq = 0 ∧ ack = 0 ∧ fl = 0 ∧ win = 0 := by
      unfold segOkB at hS
      simp at hS
      exact hS.2
    obtain ⟨rfl, rfl, rfl, rfl⟩ := hzero
    obtain ⟨z, f0, f2, f6, fb⟩ := bare_udp hS
    have hp : sumPl 17 = ((6 : Nat) : Int) := rfl
    have hl : 6 + (word16 (cyF src dst 17 sp dp 0 0 0 0 body)).size ≤ (bareF 17 sp dp 0 0 0 0 body).size := by omega
    have eX : segX 17 (segR src dst 17 sp dp 0 0 0 0 body) = ⟨17, sp, dp, 0, 0, 0, 0, body⟩ := by
      unfold segX
      rw [if_neg (by decide), hz]
      rw [show get16 (segR src dst 17 sp dp 0 0 0 0 body) 0 = sp from by rw [hR, hp]; exact (get16_put (j := 0) hl (by omega)).trans f0, show get16 (segR src dst 17 sp dp 0 0 0 0 body) 2 = dp from by rw [hR, hp]; exact (get16_put (j := 2) hl (by omega)).trans f2]
      rw [hR, hp, show Int.toNat 8 = 8 from rfl, ex_put hl (by omega), fb]
    refine ⟨eX, ?_, hz, by rw [hz, z]; unfold sumPl; rw [if_neg (by decide)]; omega, .inr rfl⟩
    unfold segPB
    rw [eX, show (SegX.mk 17 sp dp 0 0 0 0 body).ok src dst = true from h, show (SegX.mk 17 sp dp 0 0 0 0 body).im src dst = segR src dst 17 sp dp 0 0 0 0 body from rfl, decide_eq_true rfl, decide_eq_true (show 8 ≤ (segR src dst 17 sp dp 0 0 0 0 body).size by omega), decide_eq_true rfl]
    rfl
def Pk.sg (p : Pk) : ByteArray := segR p.si p.di p.kind p.sp p.dp p.seq p.ack p.fl p.win p.body
def Pk.pd (p : Pk) : ByteArray := padF (ipR p.tos p.id p.ttl p.kind p.si p.di p.sg)
theorem sup_parts {p : Pk} (h : p.sup = true) : p.im = ethF p.dm p.sm p.vl 2048 p.pd ∧ 46 ≤ p.pd.size ∧ p.pd.size ≤ 400 ∧ ethOkB p.dm p.sm p.vl 2048 p.pd.size = true ∧ ipOkB p.tos p.id p.ttl p.kind p.si p.di p.sg.size = true ∧ segC p.si p.di p.kind p.sp p.dp p.seq p.ack p.fl p.win p.body = true := by
  obtain ⟨h1, h2, h3, h4, h5, h6, h7, h8, h9, h10⟩ := superOk_facts h
  have e := (sup_img h).1
  unfold supC at e
  rw [Bool.and_eq_true] at e
  have e2 : ethOkB p.dm p.sm p.vl 2048 p.pd.size = true := e.2
  have hi : p.im = ethF p.dm p.sm p.vl 2048 p.pd := by
    unfold Pk.im imgR
    rw [if_pos (show superOkB _ _ _ _ _ _ _ _ _ _ _ _ _ _ _ _ = true from h), ethR, if_pos e.2]; rfl
  have hb : inB (p.pd.size : Int) 46 400 = true := by
    unfold ethOkB at e2
    simp only [Bool.and_eq_true] at e2
    exact e2.2
  have hb2 := inB_iff.1 hb
  have hk := segOk_kind h9
  have hbz := bare_le p.kind p.sp p.dp p.seq p.ack p.fl p.win p.body
  have hkb : inB p.kind 0 255 = true := inB_iff.2 (by omega)
  have hC : segC p.si p.di p.kind p.sp p.dp p.seq p.ack p.fl p.win p.body = true := by
    unfold segC psOkB
    rw [h9, h7, h8, hkb, inB_iff.2 (show (0 : Int) ≤ ((bareF p.kind p.sp p.dp p.seq p.ack p.fl p.win p.body).size : Int) ∧ ((bareF p.kind p.sp p.dp p.seq p.ack p.fl p.win p.body).size : Int) ≤ 65535 by omega)]
    rfl
  have hsz : p.sg.size ≤ 340 := by
    have : p.sg.size = (bareF p.kind p.sp p.dp p.seq p.ack p.fl p.win p.body).size := (seg_fields hC).2.2.1
    omega
  refine ⟨hi, by omega, by omega, e2, ?_, hC⟩
  unfold ipOkB
  rw [h4, h5, hkb, h6, h7, h8, decide_eq_true (by omega)]
  rfl
theorem rd_im {p : Pk} (h : p.sup = true) : rdC p.im = 0 ∧ rdF p.im = p := by
  obtain ⟨hi, b1, b2, e1, e2, e3⟩ := sup_parts h
  obtain ⟨h1, h2, h3, h4, h5, h6, h7, h8, h9, h10⟩ := superOk_facts h
  obtain ⟨eE, z, _⟩ := eth_fields h1 h2 h3 b1
  obtain ⟨eI, pI, _⟩ := ip_fields e2
  obtain ⟨eS, pS, _⟩ := seg_fields e3
  rw [← hi] at eE z
  have pE : ethPB p.im = true := by
    unfold ethPB
    rw [eE, decide_eq_true z]
    exact e1
  have eI' : ipX (ethX p.im).body = ⟨p.tos, p.id, p.ttl, p.kind, p.si, p.di, p.sg⟩ := by rw [eE]; exact eI
  have hX : rdX p.im = p := by
    unfold rdX
    rw [eI']
    show mkPk (ethX p.im) ⟨p.tos, p.id, p.ttl, p.kind, p.si, p.di, p.sg⟩ (segX p.kind p.sg) = p
    rw [show segX p.kind p.sg = ⟨p.kind, p.sp, p.dp, p.seq, p.ack, p.fl, p.win, p.body⟩ from eS, eE]
    rfl
  have := rd_0 (s := p.im) pE (by rw [eE]) (by rw [eE]; exact pI) (by rw [eI']; exact pS) (by rw [hX]; exact h)
  exact ⟨this.2, this.1.trans hX⟩
end Go.Proofs.YtfcmcedeapgdcaaGreat
end
section
namespace Go.Proofs.YtfcmcedeapgdcaaGreat
open Go Go.RowKit Go.Vc
set_option linter.unusedVariables false
set_option linter.unusedSimpArgs false
set_option linter.unnecessarySimpa false
end Go.Proofs.YtfcmcedeapgdcaaGreat
end
section
namespace Go.Proofs.YtfcmcedeapgdcaaGreat
open Go Go.RowKit Go.Vc
set_option linter.unusedVariables false
set_option linter.unusedSimpArgs false
set_option linter.unnecessarySimpa false
def encT (d : Dsc) : ByteArray := encD d.1 d.2.1 d.2.2.1 d.2.2.2.1 d.2.2.2.2.1 d.2.2.2.2.2
theorem dec_enc {d : Dsc} (h : dOk d = true) : decDF (encT d) = (d, true) := by
  obtain ⟨op, fl, ln, at_, sz, ck⟩ := d
  have h' : descB op fl ln at_ sz ck = true := h
  have hb := descB_iff.1 h'
  obtain ⟨i1, i2, i3, i4, i5, i6⟩ := hb
  have z1 := word16_size (inB_iff.2 i3); have z2 := word32_size (inB_iff.2 i6); have z3 := word16_size (inB_iff.2 i4); have z4 := word16_size (inB_iff.2 i5)
  have zz : ∀ a b : Int, (strOfNums [a, b]).size = 2 := fun a b => by rw [strOfNums_size]; rfl
  have hz := encD_size h'
  have e : encD op fl ln at_ sz ck = strOfNums [op, fl] ++ word16 ln ++ word32 at_ ++ word16 sz ++ word16 ck ++ word32 0 := rfl
  have b0n : bAt (encD op fl ln at_ sz ck) 0 = op.toNat % 256 := bym (a := ⟨#[]⟩) (xs := [op, fl]) (k := 0) (r := word16 ln ++ (word32 at_ ++ (word16 sz ++ (word16 ck ++ word32 0)))) (by rw [ba_empty, e]; simp only [ByteArray.append_assoc]) (by simp) rfl
  have b1n : bAt (encD op fl ln at_ sz ck) 1 = fl.toNat % 256 := bym (a := ⟨#[]⟩) (xs := [op, fl]) (k := 1) (r := word16 ln ++ (word32 at_ ++ (word16 sz ++ (word16 ck ++ word32 0)))) (by rw [ba_empty, e]; simp only [ByteArray.append_assoc]) (by simp) rfl
  have b0 : (bAt (encD op fl ln at_ sz ck) 0 : Int) = op := by rw [b0n]; omega
  have b1 : (bAt (encD op fl ln at_ sz ck) 1 : Int) = fl := by rw [b1n]; omega
  have b2 : get16 (encD op fl ln at_ sz ck) ((2 : Nat) : Int) = ln := g16m (a := strOfNums [op, fl]) (r := word32 at_ ++ (word16 sz ++ (word16 ck ++ word32 0))) (by rw [e]; simp only [ByteArray.append_assoc]) (inB_iff.2 i3) (zz _ _).symm
  have b4 : get32 (encD op fl ln at_ sz ck) ((4 : Nat) : Int) = at_ := g32m (a := strOfNums [op, fl] ++ word16 ln) (r := word16 sz ++ (word16 ck ++ word32 0)) (by rw [e]; simp only [ByteArray.append_assoc]) (inB_iff.2 i6) (by simp only [ByteArray.size_append, zz, z1])
  have b8 : get16 (encD op fl ln at_ sz ck) ((8 : Nat) : Int) = sz := g16m (a := strOfNums [op, fl] ++ word16 ln ++ word32 at_) (r := word16 ck ++ word32 0) (by rw [e]; simp only [ByteArray.append_assoc]) (inB_iff.2 i4) (by simp only [ByteArray.size_append, zz, z1, z2])
  have b10 : get16 (encD op fl ln at_ sz ck) ((10 : Nat) : Int) = ck := g16m (a := strOfNums [op, fl] ++ word16 ln ++ word32 at_ ++ word16 sz) (r := word32 0) (by rw [e]) (inB_iff.2 i5) (by simp only [ByteArray.size_append, zz, z1, z2, z3])
  have b2' : get16 (encD op fl ln at_ sz ck) 2 = ln := b2
  have b4' : get32 (encD op fl ln at_ sz ck) 4 = at_ := b4
  have b8' : get16 (encD op fl ln at_ sz ck) 8 = sz := b8
  have b10' : get16 (encD op fl ln at_ sz ck) 10 = ck := b10
  show decDF (encD op fl ln at_ sz ck) = _
  unfold decDF decX
  have hen : encDF op fl ln at_ sz ck = encD op fl ln at_ sz ck := if_pos h'
  rw [if_pos hz, b0, b1, b2', b4', b8', b10', if_pos hen]
def pos (s h : Int) (i : Nat) : Int := (h + i) % (2 * s)
theorem pos_ok {s h t : Int} {i : Nat} (q : ringOkB 0 s h t = true) (hi : (i : Int) ≤ usedF s h t) : ringOkB 0 s (pos s h i) t = true ∧ usedF s (pos s h i) t = usedF s h t - i := by
  obtain ⟨hs, b0, b1, s0, s1, h0, h1, t0, t1, u1, u0⟩ := ringOk_facts q
  unfold usedF at *
  have key : 0 ≤ (h + i) % (2 * s) ∧ (h + i) % (2 * s) ≤ 2 * s - 1 ∧ (t - (h + i) % (2 * s)) % (2 * s) = (t - h) % (2 * s) - i := by
    rcases sizeB_cases hs with rfl | rfl | rfl | rfl <;> omega
  obtain ⟨k1, k2, k3⟩ := key
  refine ⟨?_, k3⟩
  simp only [ringOkB, Bool.and_eq_true, inB_iff, decide_eq_true_eq, pos]
  exact ⟨⟨⟨⟨⟨b0, b1⟩, hs⟩, k1, k2⟩, t0, t1⟩, by first | omega | exact decide_eq_true (by omega)⟩
def catP (ps : Pg) : List Pc → ByteArray
  | [] => ⟨#[]⟩
  | p :: r => fs 12 ps p.1 p.2.toNat ++ catP ps r
structure Lies (s : Int) (ps : Pg) (h : Int) (pcs : List Pc) (size ck : Int) (T : ByteArray) : Prop where
  db : descrB pcs size ck = true
  sl : ∀ j : Nat, j < pcs.length + 1 → fs 12 ps ((h + j) % s * 16) 16 = encT (dAt pcs size ck j)
  pb : ∀ p ∈ pcs, 0 ≤ p.1 ∧ p.1 + p.2 ≤ 1536
  tx : catP ps pcs = T
theorem Lies.ok {s : Int} {ps : Pg} {h : Int} {pcs : List Pc} {size ck : Int} {T : ByteArray} (L : Lies s ps h pcs size ck T) : 0 < pcs.length ∧ pcs.length ≤ 16 ∧ pcsOk pcs = true ∧ inB size 1 128 = true ∧ (∀ j, j < pcs.length + 1 → dOk (dAt pcs size ck j) = true) := by
  have h := L.db
  unfold descrB at h
  simp only [Bool.and_eq_true, Bool.not_eq_true', decide_eq_false_iff_not] at h
  obtain ⟨h1, h2, h3, h4⟩ := h
  refine ⟨List.length_pos_iff.2 h1, (pcsOk_iff.1 h2).2, h2, h3, fun j hj => ?_⟩
  have := List.all_eq_true.1 h4 (at' (dsF pcs size ck (pcs.length + 1)) j) (atp_mem (by rw [dsF_len]; exact hj))
  rwa [dsF_at hj] at this
end Go.Proofs.YtfcmcedeapgdcaaGreat
end
section
namespace Go.Proofs.YtfcmcedeapgdcaaGreat
open Go Go.RowKit Go.Vc
set_option linter.unusedVariables false
set_option linter.unusedSimpArgs false
set_option linter.unnecessarySimpa false
def fhOk (rb rs rh rt db ds dc vb vs vc dm sm vl tos id ttl si di kind sp dp seq ack fl win : Int) (body : ByteArray) (size count : Int) (hold : Bool) (dropped : Int) (key : ByteArray) : Bool := rxOkB rb rs rh rt db ds dc vb vs vc dm sm vl tos id ttl si di kind sp dp seq ack fl win body size count hold dropped && (hold && decide (key.size = 16))
def fhG (l : List Mp) (ps : Pg) (d rb rs rh rt db ds dc vb vs vc dm sm vl tos id ttl si di kind sp dp seq ack fl win : Int) (body : ByteArray) (size count : Int) (hold : Bool) (dropped : Int) (key : ByteArray) : Bool := fhOk rb rs rh rt db ds dc vb vs vc dm sm vl tos id ttl si di kind sp dp seq ack fl win body size count hold dropped key && ((rtakeF l ps d rb rs rh rt).2.2 && (stF l ps d db ds dc dm sm vl tos id ttl si di kind sp dp seq ack fl win body size count key (rtakeF l ps d rb rs rh rt).1).2.2)
def fhI (b : Bool) (x : Int) : Int := bif b then 0 else x
def fhS (b : Bool) (x : ByteArray) : ByteArray := bif b then ⟨#[]⟩ else x
def fhD (b g : Bool) (x y : Int) : Int := bif b then (bif g then x else x + y) else x
theorem rt_le (l : List Mp) (ps : Pg) (d b s h t : Int) : (rtakeF l ps d b s h t).1.size ≤ 16 := by
  rcases Bool.eq_false_or_eq_true (rtakeF l ps d b s h t).2.2 with h1 | h1
  · by_cases g1 : ringOkB b s h t = true
    · by_cases g2 : usedF s h t = 0
      · rw [rt_n (.inr (.inl g2))]; exact Nat.zero_le _
      · rcases Bool.eq_false_or_eq_true (dmaRF l ps d (rslot b s h) 16).2 with g3 | g3
        · rw [rt_y g1 g2 g3]
          have := dmaRF_size (l := l) (ps := ps) (d := d) (a := rslot b s h) (n := 16) (t := (dmaRF l ps d (rslot b s h) 16).1) (by rw [← g3])
          simp only
          omega
        · rw [rt_n (.inr (.inr g3))]; exact Nat.zero_le _
    · rw [rt_n (.inl (by simpa using g1))]; exact Nat.zero_le _
  · by_cases g1 : ringOkB b s h t = true
    · by_cases g2 : usedF s h t = 0
      · rw [rt_n (.inr (.inl g2))]; exact Nat.zero_le _
      · rcases Bool.eq_false_or_eq_true (dmaRF l ps d (rslot b s h) 16).2 with g3 | g3
        · rw [rt_y g1 g2 g3] at h1; cases h1
        · rw [rt_n (.inr (.inr g3))]; exact Nat.zero_le _
    · rw [rt_n (.inl (by simpa using g1))]; exact Nat.zero_le _
theorem rt_same {l : List Mp} {ps : Pg} {d b s h t : Int} (hh : (rtakeF l ps d b s h t).2.2 = false) : (rtakeF l ps d b s h t).2.1 = h := by
  by_cases g1 : ringOkB b s h t = true
  · by_cases g2 : usedF s h t = 0
    · rw [rt_n (.inr (.inl g2))]
    · rcases Bool.eq_false_or_eq_true (dmaRF l ps d (rslot b s h) 16).2 with g3 | g3
      · rw [rt_y g1 g2 g3] at hh; cases hh
      · rw [rt_n (.inr (.inr g3))]
  · rw [rt_n (.inl (by simpa using g1))]
theorem rx_held {rb rs rh rt db ds dc vb vs vc dm sm vl tos id ttl si di kind sp dp seq ack fl win size count dropped : Int} {body : ByteArray} {hold : Bool} (h2 : hold = true) (h : rxOkB rb rs rh rt db ds dc vb vs vc dm sm vl tos id ttl si di kind sp dp seq ack fl win body size count hold dropped = true) : superOkB dm sm vl tos id ttl si di kind sp dp seq ack fl win body.size = true ∧ (0 ≤ size ∧ size ≤ 320) ∧ (1 ≤ count ∧ count ≤ 320) ∧ 0 ≤ dropped ∧ dropped ≤ 1000000000000 := by
  subst h2
  simp only [rxOkB, if_true, Bool.and_eq_true] at h
  exact ⟨h.2.2.2.2.2.2.1, inB_iff.1 h.2.2.2.2.2.2.2.1, inB_iff.1 h.2.2.2.2.2.2.2.2, inB_iff.1 h.2.2.2.2.2.1⟩
theorem fh_no {l : List Mp} {ps : Pg} {d rb rs rh rt db ds dc vb vs vc dm sm vl tos id ttl si di kind sp dp seq ack fl win size count dropped : Int} {body key : ByteArray} {hold : Bool} (h : rxOkB rb rs rh rt db ds dc vb vs vc dm sm vl tos id ttl si di kind sp dp seq ack fl win body size count hold dropped = false ∨ hold = false ∨ ¬ key.size = 16) : fhOk rb rs rh rt db ds dc vb vs vc dm sm vl tos id ttl si di kind sp dp seq ack fl win body size count hold dropped key = false ∧ fhG l ps d rb rs rh rt db ds dc vb vs vc dm sm vl tos id ttl si di kind sp dp seq ack fl win body size count hold dropped key = false := by
  have h1 : fhOk rb rs rh rt db ds dc vb vs vc dm sm vl tos id ttl si di kind sp dp seq ack fl win body size count hold dropped key = false := by
    unfold fhOk
    rcases h with h | h | h
    · rw [h]; rfl
    · rw [h]; simp
    · rw [decide_eq_false h]; simp
  exact ⟨h1, by unfold fhG; rw [h1]; rfl⟩
theorem fh_yes {l : List Mp} {ps : Pg} {d rb rs rh rt db ds dc vb vs vc dm sm vl tos id ttl si di kind sp dp seq ack fl win size count dropped : Int} {body key : ByteArray} {hold : Bool} (h1 : rxOkB rb rs rh rt db ds dc vb vs vc dm sm vl tos id ttl si di kind sp dp seq ack fl win body size count hold dropped = true) (h2 : hold = true) (h3 : key.size = 16) : fhOk rb rs rh rt db ds dc vb vs vc dm sm vl tos id ttl si di kind sp dp seq ack fl win body size count hold dropped key = true ∧ fhG l ps d rb rs rh rt db ds dc vb vs vc dm sm vl tos id ttl si di kind sp dp seq ack fl win body size count hold dropped key = ((rtakeF l ps d rb rs rh rt).2.2 && (stF l ps d db ds dc dm sm vl tos id ttl si di kind sp dp seq ack fl win body size count key (rtakeF l ps d rb rs rh rt).1).2.2) := by
  have h : fhOk rb rs rh rt db ds dc vb vs vc dm sm vl tos id ttl si di kind sp dp seq ack fl win body size count hold dropped key = true := by unfold fhOk; rw [h1, h2, decide_eq_true h3]; rfl
  exact ⟨h, by unfold fhG; rw [h]; rfl⟩
set_option maxHeartbeats 4000000 in
theorem c_impl_FlushHeld {l : List Mp} {ps : Pg} {d rb rs rh rt db ds dc vb vs vc dm sm vl tos id ttl si di kind sp dp seq ack fl win size count dropped : Int} {body key : ByteArray} {hold : Bool} (hl : l.length ≤ 1099511627776 := by first | assumption | omega) (hp : ps.length ≤ 1099511627776 := by first | assumption | omega) (hsk : key.size ≤ 1099511627776 := by first | assumption | omega) : Con0 Tryz.prog 10 [.one (.sl 4 (l.map mpE)), .agg [.sl 1 (ps.map strE)], I d, .agg [V rb, V rs, V rh, V rt, V db, V ds, V dc, V vb, V vs, V vc, V dm, V sm, V vl, V tos, V id, V ttl, V si, V di, V kind, V sp, V dp, V seq, V ack, V fl, V win, VS body, V size, V count, VB hold, V dropped], Z key] (.tup [.agg [.hs 0], .agg [V rb, V rs, V (bif fhOk rb rs rh rt db ds dc vb vs vc dm sm vl tos id ttl si di kind sp dp seq ack fl win body size count hold dropped key then (rtakeF l ps d rb rs rh rt).2.1 else rh), V rt, V db, V ds, V (bif fhG l ps d rb rs rh rt db ds dc vb vs vc dm sm vl tos id ttl si di kind sp dp seq ack fl win body size count hold dropped key then (stF l ps d db ds dc dm sm vl tos id ttl si di kind sp dp seq ack fl win body size count key (rtakeF l ps d rb rs rh rt).1).2.1 else dc), V vb, V vs, V vc, V (fhI (fhOk rb rs rh rt db ds dc vb vs vc dm sm vl tos id ttl si di kind sp dp seq ack fl win body size count hold dropped key) dm), V (fhI (fhOk rb rs rh rt db ds dc vb vs vc dm sm vl tos id ttl si di kind sp dp seq ack fl win body size count hold dropped key) sm), V (fhI (fhOk rb rs rh rt db ds dc vb vs vc dm sm vl tos id ttl si di kind sp dp seq ack fl win body size count hold dropped key) vl), V (fhI (fhOk rb rs rh rt db ds dc vb vs vc dm sm vl tos id ttl si di kind sp dp seq ack fl win body size count hold dropped key) tos), V (fhI (fhOk rb rs rh rt db ds dc vb vs vc dm sm vl tos id ttl si di kind sp dp seq ack fl win body size count hold dropped key) id), V (fhI (fhOk rb rs rh rt db ds dc vb vs vc dm sm vl tos id ttl si di kind sp dp seq ack fl win body size count hold dropped key) ttl), V (fhI (fhOk rb rs rh rt db ds dc vb vs vc dm sm vl tos id ttl si di kind sp dp seq ack fl win body size count hold dropped key) si), V (fhI (fhOk rb rs rh rt db ds dc vb vs vc dm sm vl tos id ttl si di kind sp dp seq ack fl win body size count hold dropped key) di), V (fhI (fhOk rb rs rh rt db ds dc vb vs vc dm sm vl tos id ttl si di kind sp dp seq ack fl win body size count hold dropped key) kind), V (fhI (fhOk rb rs rh rt db ds dc vb vs vc dm sm vl tos id ttl si di kind sp dp seq ack fl win body size count hold dropped key) sp), V (fhI (fhOk rb rs rh rt db ds dc vb vs vc dm sm vl tos id ttl si di kind sp dp seq ack fl win body size count hold dropped key) dp), V (fhI (fhOk rb rs rh rt db ds dc vb vs vc dm sm vl tos id ttl si di kind sp dp seq ack fl win body size count hold dropped key) seq), V (fhI (fhOk rb rs rh rt db ds dc vb vs vc dm sm vl tos id ttl si di kind sp dp seq ack fl win body size count hold dropped key) ack), V (fhI (fhOk rb rs rh rt db ds dc vb vs vc dm sm vl tos id ttl si di kind sp dp seq ack fl win body size count hold dropped key) fl), V (fhI (fhOk rb rs rh rt db ds dc vb vs vc dm sm vl tos id ttl si di kind sp dp seq ack fl win body size count hold dropped key) win), VS (fhS (fhOk rb rs rh rt db ds dc vb vs vc dm sm vl tos id ttl si di kind sp dp seq ack fl win body size count hold dropped key) body), V (fhI (fhOk rb rs rh rt db ds dc vb vs vc dm sm vl tos id ttl si di kind sp dp seq ack fl win body size count hold dropped key) size), V (fhI (fhOk rb rs rh rt db ds dc vb vs vc dm sm vl tos id ttl si di kind sp dp seq ack fl win body size count hold dropped key) count), VB (bif fhOk rb rs rh rt db ds dc vb vs vc dm sm vl tos id ttl si di kind sp dp seq ack fl win body size count hold dropped key then false else hold), V (fhD (fhOk rb rs rh rt db ds dc vb vs vc dm sm vl tos id ttl si di kind sp dp seq ack fl win body size count hold dropped key) (fhG l ps d rb rs rh rt db ds dc vb vs vc dm sm vl tos id ttl si di kind sp dp seq ack fl win body size count hold dropped key) dropped count)]]) [(0, .arr 9 1 ((bif fhG l ps d rb rs rh rt db ds dc vb vs vc dm sm vl tos id ttl si di kind sp dp seq ack fl win body size count hold dropped key then (stF l ps d db ds dc dm sm vl tos id ttl si di kind sp dp seq ack fl win body size count key (rtakeF l ps d rb rs rh rt).1).1 else ps).map strE))] := by
  refine con_i Tryz.func10 Tryz.ntmps10 (t := [(0, .one (.sl 4 (l.map mpE))), (1, .agg [.sl 1 (ps.map strE)]), (2, I d), (3, .agg [V rb, V rs, V rh, V rt, V db, V ds, V dc, V vb, V vs, V vc, V dm, V sm, V vl, V tos, V id, V ttl, V si, V di, V kind, V sp, V dp, V seq, V ack, V fl, V win, VS body, V size, V count, VB hold, V dropped]), (4, Z key)]) rfl ?_
  refine vc_sr ?_
  iterate 4 refine vo ?_
  refine vnt ?_
  refine vc_seq' ?_
  refine vc_sr ?_
  refine vo ?_
  refine voc c_impl_RxOk rfl rfl ?_
  iterate 2 refine vo ?_
  refine vsp (fun g1 => ?_) (fun g1 => ?_)
  · iterate 3 refine vof ?_
    iterate 2 refine vo ?_
    iterate 3 refine vof ?_
    refine vo ?_
    refine vnt ?_
    refine vc_then ?_
    refine vc_sr ?_
    refine vo ?_
    refine voc c_impl_copyMemory rfl rfl ?_
    iterate 3 refine vo ?_
    refine vnt ?_
    refine vc_ret ?_
    refine thn_r ?_
    have hno : fhOk rb rs rh rt db ds dc vb vs vc dm sm vl tos id ttl si di kind sp dp seq ack fl win body size count hold dropped key = false ∧ fhG l ps d rb rs rh rt db ds dc vb vs vc dm sm vl tos id ttl si di kind sp dp seq ack fl win body size count hold dropped key = false := fh_no (.inl g1)
    obtain ⟨hok, hg⟩ := hno
    refine fin_i [(0, some 264)] rfl (fz ?_) (fz ?_)
    · simp only [hok, hg, fhI, fhS, fhD, cond_true, cond_false]; first | trivial | simp | trace_state
    · simp only [hok, hg, fhI, fhS, fhD, cond_true, cond_false]
  · iterate 3 refine von ?_
    iterate 2 refine vo ?_
    refine vsp (fun g2 => ?_) (fun g2 => ?_)
    · iterate 3 refine vof ?_
      refine vo ?_
      refine vnt ?_
      refine vc_then ?_
      refine vc_sr ?_
      refine vo ?_
      refine voc c_impl_copyMemory rfl rfl ?_
      iterate 3 refine vo ?_
      refine vnt ?_
      refine vc_ret ?_
      refine thn_r ?_
      have hno : fhOk rb rs rh rt db ds dc vb vs vc dm sm vl tos id ttl si di kind sp dp seq ack fl win body size count hold dropped key = false ∧ fhG l ps d rb rs rh rt db ds dc vb vs vc dm sm vl tos id ttl si di kind sp dp seq ack fl win body size count hold dropped key = false := fh_no (.inr (.inl g2))
      obtain ⟨hok, hg⟩ := hno
      refine fin_i [(0, some 264)] rfl (fz ?_) (fz ?_)
      · simp only [hok, hg, fhI, fhS, fhD, cond_true, cond_false]; first | trivial | simp | trace_state
      · simp only [hok, hg, fhI, fhS, fhD, cond_true, cond_false]
    · obtain ⟨hsp, hsz, hct, hdr⟩ := rx_held g2 g1
      have hen := rt_le l ps d rb rs rh rt
      iterate 3 refine von ?_
      refine vo ?_
      refine vnt ?_
      refine vc_if (fun g3 => ?_) (fun g3 => ?_)
      · refine vc_sr ?_
        refine vo ?_
        refine voc c_impl_copyMemory rfl rfl ?_
        iterate 3 refine vo ?_
        refine vnt ?_
        refine vc_ret ?_
        refine thn_r ?_
        have hno : fhOk rb rs rh rt db ds dc vb vs vc dm sm vl tos id ttl si di kind sp dp seq ack fl win body size count hold dropped key = false ∧ fhG l ps d rb rs rh rt db ds dc vb vs vc dm sm vl tos id ttl si di kind sp dp seq ack fl win body size count hold dropped key = false := fh_no (.inr (.inr (by omega)))
        obtain ⟨hok, hg⟩ := hno
        refine fin_i [(0, some 264)] rfl (fz ?_) (fz ?_)
        · simp only [hok, hg, fhI, fhS, fhD, cond_true, cond_false]; first | trivial | simp | trace_state
        · simp only [hok, hg, fhI, fhS, fhD, cond_true, cond_false]
      · have hk : key.size = 16 := by omega
        have hyy : fhOk rb rs rh rt db ds dc vb vs vc dm sm vl tos id ttl si di kind sp dp seq ack fl win body size count hold dropped key = true ∧ fhG l ps d rb rs rh rt db ds dc vb vs vc dm sm vl tos id ttl si di kind sp dp seq ack fl win body size count hold dropped key = ((rtakeF l ps d rb rs rh rt).2.2 && (stF l ps d db ds dc dm sm vl tos id ttl si di kind sp dp seq ack fl win body size count key (rtakeF l ps d rb rs rh rt).1).2.2) := fh_yes g1 g2 hk
        obtain ⟨hok, hgg⟩ := hyy
        refine vc_skip ?_
        refine thn ?_
        refine vc_sr ?_
        iterate 3 refine vo ?_
        refine vnt ?_
        refine vc_sr ?_
        iterate 3 refine vo ?_
        refine vnt ?_
        refine vc_sr ?_
        iterate 2 refine vo ?_
        refine vnt ?_
        refine vc_sr ?_
        iterate 5 refine vo ?_
        refine voc c_impl_RingTake rfl rfl ?_
        iterate 8 refine vo ?_
        refine vnt ?_
        refine vc_seq' ?_
        refine vc_sr ?_
        refine vo ?_
        refine vnt ?_
        refine vc_if (fun g4 => ?_) (fun g4 => ?_)
        · refine vc_sr ?_
          iterate 3 refine vo ?_
          refine vnt ?_
          refine vc_sr ?_
          iterate 6 refine vo ?_
          rcases Bool.eq_false_or_eq_true ((stF l ps d db ds dc dm sm vl tos id ttl si di kind sp dp seq ack fl win body size count key (rtakeF l ps d rb rs rh rt).1).2.2) with hst | hst
          · refine voc c_impl_storeHeld_y rfl rfl ?_
            iterate 9 refine vo ?_
            refine vnt ?_
            refine vc_sr ?_
            refine vo ?_
            refine vnt ?_
            refine vc_then ?_
            refine vc_sr ?_
            iterate 3 refine vo ?_
            refine vnt ?_
            refine vc_sr ?_
            iterate 4 refine vo ?_
            refine vnt ?_
            refine vc_ret ?_
            refine thn_r ?_
            have hg : fhG l ps d rb rs rh rt db ds dc vb vs vc dm sm vl tos id ttl si di kind sp dp seq ack fl win body size count hold dropped key = true := by rw [hgg, g4, hst]; rfl
            refine fin_i [(0, some 472)] rfl (fz ?_) (fz ?_)
            · simp only [hok, hg, fhI, fhS, fhD, cond_true, cond_false]; first | trivial | simp | trace_state
            · simp only [hok, hg, fhI, fhS, fhD, cond_true, cond_false]
          · refine voc c_impl_storeHeld_n rfl rfl ?_
            iterate 9 refine vo ?_
            refine vnt ?_
            refine vc_sr ?_
            refine vo ?_
            refine vnt ?_
            refine vc_else ?_
            refine vc_skip ?_
            refine thn ?_
            refine vc_sr ?_
            iterate 6 refine vo ?_
            try refine vwr ?_
            iterate 2 refine vo ?_
            refine vnt ?_
            refine vc_sr ?_
            refine vo ?_
            refine voc c_impl_copyMemory rfl rfl ?_
            iterate 3 refine vo ?_
            refine vnt ?_
            refine vc_ret ?_
            have hg : fhG l ps d rb rs rh rt db ds dc vb vs vc dm sm vl tos id ttl si di kind sp dp seq ack fl win body size count hold dropped key = false := by rw [hgg, g4, hst]; rfl
            refine fin_i [(0, some 608)] rfl (fz ?_) (fz ?_)
            · simp only [hok, hg, fhI, fhS, fhD, cond_true, cond_false]; first | trivial | simp | trace_state
            · simp only [hok, hg, fhI, fhS, fhD, cond_true, cond_false]
        · refine vc_skip ?_
          refine thn ?_
          refine vc_sr ?_
          iterate 6 refine vo ?_
          try refine vwr ?_
          iterate 2 refine vo ?_
          refine vnt ?_
          refine vc_sr ?_
          refine vo ?_
          refine voc c_impl_copyMemory rfl rfl ?_
          iterate 3 refine vo ?_
          refine vnt ?_
          refine vc_ret ?_
          have hg : fhG l ps d rb rs rh rt db ds dc vb vs vc dm sm vl tos id ttl si di kind sp dp seq ack fl win body size count hold dropped key = false := by rw [hgg, g4]; rfl
          have hrs := rt_same g4
          rw [hrs]
          refine fin_i [(0, some 608)] rfl (fz ?_) (fz ?_)
          · simp only [hok, hg, fhI, fhS, fhD, cond_true, cond_false]; first | trivial | simp | trace_state
          · simp only [hok, hg, fhI, fhS, fhD, cond_true, cond_false]
end Go.Proofs.YtfcmcedeapgdcaaGreat
end
section
namespace Go.Proofs.YtfcmcedeapgdcaaGreat
open Go Go.RowKit Go.Vc
set_option linter.unusedVariables false
set_option linter.unusedSimpArgs false
set_option linter.unnecessarySimpa false
def cjB (dm sm vl tos id ttl si di kind sp dp seq ack fl win : Int) (body : ByteArray) (size count dm2 sm2 vl2 tos2 id2 ttl2 si2 di2 kind2 sp2 dp2 seq2 ack2 fl2 win2 : Int) (body2 : ByteArray) : Bool :=
  superOkB dm sm vl tos id ttl si di kind sp dp seq ack fl win body.size && ((superOkB dm2 sm2 vl2 tos2 id2 ttl2 si2 di2 kind2 sp2 dp2 seq2 ack2 fl2 win2 body2.size && decide (body2.size ≤ 128)) && (samB dm sm vl tos id ttl si di kind sp dp seq ack fl win dm2 sm2 vl2 tos2 id2 ttl2 si2 di2 kind2 sp2 dp2 seq2 ack2 fl2 win2 && (decide (kind2 = 6) && (decide (fl = 16) && (streamB fl2 && (inB size 1 320 && (inB count 1 320 && (decide ((body.size : Int) = size * count) && (inB body2.size 1 size && (decide ((body.size : Int) + body2.size ≤ 320) && (decide (seq2 = (seq + body.size) % 4294967296) && decide (id2 = (id + count) % 65536))))))))))))
theorem sup_rng {dm sm vl tos id ttl si di kind sp dp seq ack fl win : Int} {n : Nat} (h : superOkB dm sm vl tos id ttl si di kind sp dp seq ack fl win n = true) : (n ≤ 320 ∧ (0 ≤ id ∧ id ≤ 65535)) ∧ (0 ≤ seq ∧ seq ≤ 4294967295) ∧ 0 ≤ fl ∧ fl ≤ 31 := by
  simp only [superOkB, segOkB, Bool.and_eq_true, Bool.or_eq_true, inB_iff, Bool.not_eq_true', decide_eq_false_iff_not, beq_iff_eq] at h
  obtain ⟨_, _, _, _, _, h1, _, _, ⟨h2, h3⟩, _⟩ := h
  refine ⟨⟨by omega, h1⟩, ?_⟩
  rcases h3 with ⟨_, a, _, b, _⟩ | ⟨_, _, a, _, b, _⟩
  · exact ⟨a, b⟩
  · omega
theorem cj_div {n size count : Int} (h : 0 ≤ n) (hc : 1 ≤ count) (h1 : n % count = 0) (h2 : n / count = size) : n = size * count := by
  have := Int.mul_ediv_add_emod n count
  rw [h1, h2, Int.mul_comm] at this; omega
theorem cj_div2 {n size count : Int} (hc : 1 ≤ count) (h : n = size * count) : n % count = 0 ∧ n / count = size := by
  subst h; exact ⟨Int.mul_emod_left .., Int.mul_ediv_cancel _ (by omega)⟩
theorem cj_le {n size count : Int} (hn : n ≤ 320) (h0 : 1 ≤ size) (hc : 1 ≤ count) (h : n = size * count) : size ≤ 320 := by
  have := Int.mul_le_mul_of_nonneg_left hc (show 0 ≤ size by omega)
  omega
set_option maxHeartbeats 4000000 in
theorem c_impl_CanJoin {dm sm vl tos id ttl si di kind sp dp seq ack fl win dm2 sm2 vl2 tos2 id2 ttl2 si2 di2 kind2 sp2 dp2 seq2 ack2 fl2 win2 size count : Int} {body body2 : ByteArray} : Con0 Tryz.prog 30 [.agg [V dm, V sm, V vl, V tos, V id, V ttl, V si, V di, V kind, V sp, V dp, V seq, V ack, V fl, V win, VS body, V size, V count], .agg [V dm2, V sm2, V vl2, V tos2, V id2, V ttl2, V si2, V di2, V kind2, V sp2, V dp2, V seq2, V ack2, V fl2, V win2, VS body2]] (B (cjB dm sm vl tos id ttl si di kind sp dp seq ack fl win body size count dm2 sm2 vl2 tos2 id2 ttl2 si2 di2 kind2 sp2 dp2 seq2 ack2 fl2 win2 body2)) [] := by
  refine con_i Tryz.func30 Tryz.ntmps30 (t := [(0, .agg [V dm, V sm, V vl, V tos, V id, V ttl, V si, V di, V kind, V sp, V dp, V seq, V ack, V fl, V win, VS body, V size, V count]), (1, .agg [V dm2, V sm2, V vl2, V tos2, V id2, V ttl2, V si2, V di2, V kind2, V sp2, V dp2, V seq2, V ack2, V fl2, V win2, VS body2])]) rfl ?_
  refine vc_sr ?_
  iterate 3 refine vo ?_
  refine vnt ?_
  refine vc_seq' ?_
  refine vc_sr ?_
  iterate 2 refine vo ?_
  refine voc c_impl_SuperOk rfl rfl ?_
  iterate 2 refine vo ?_
  refine vsp (fun g1 => ?_) (fun g1 => ?_)
  · iterate 3 refine vof ?_
    iterate 2 refine vo ?_
    iterate 5 refine vof ?_
    iterate 2 refine vo ?_
    iterate 4 refine vof ?_
    iterate 2 refine vo ?_
    iterate 5 refine vof ?_
    iterate 2 refine vo ?_
    iterate 5 refine vof ?_
    refine vo ?_
    refine vnt ?_
    refine vc_then ?_
    refine vc_sr ?_
    refine vo ?_
    refine vnt ?_
    refine vc_ret ?_
    refine thn_r ?_
    refine fin_i [] rfl (fz ?_) trivial
    refine Bool.eq_false_iff.2 fun hh => ?_
    simp only [cjB, Bool.and_eq_true, decide_eq_true_eq] at hh
    obtain ⟨k1, k2, k3, k4, k5, k6, k7, k8, k9, k10, k11, k12, k13⟩ := hh
    first | exact Bool.false_ne_true (g1.symm.trans k1) | exact g1 k1 | exact absurd k1 (by simpa using g1) | (have := inB_iff.1 k7; omega) | omega
  · obtain ⟨⟨hb1, hi1⟩, hq1, hf1⟩ := sup_rng g1
    refine von ?_
    refine vocn c_impl_PacketOk rfl rfl ?_
    refine von ?_
    iterate 2 refine vo ?_
    refine vsp (fun g2 => ?_) (fun g2 => ?_)
    · iterate 5 refine vof ?_
      iterate 2 refine vo ?_
      iterate 4 refine vof ?_
      iterate 2 refine vo ?_
      iterate 5 refine vof ?_
      iterate 2 refine vo ?_
      iterate 5 refine vof ?_
      refine vo ?_
      refine vnt ?_
      refine vc_then ?_
      refine vc_sr ?_
      refine vo ?_
      refine vnt ?_
      refine vc_ret ?_
      refine thn_r ?_
      refine fin_i [] rfl (fz ?_) trivial
      refine Bool.eq_false_iff.2 fun hh => ?_
      simp only [cjB, Bool.and_eq_true, decide_eq_true_eq] at hh
      obtain ⟨k1, k2, k3, k4, k5, k6, k7, k8, k9, k10, k11, k12, k13⟩ := hh
      first | exact Bool.false_ne_true (g2.symm.trans k2) | exact g2 k2 | exact absurd k2 (by simpa using g2) | (have := inB_iff.1 k7; omega) | omega
    · obtain ⟨⟨hb2, hi2⟩, hq2, hf2⟩ := sup_rng g2.1
      iterate 3 refine von ?_
      refine vocn c_impl_SamePath rfl rfl ?_
      refine von ?_
      iterate 2 refine vo ?_
      refine vsp (fun g3 => ?_) (fun g3 => ?_)
      · iterate 4 refine vof ?_
        iterate 2 refine vo ?_
        iterate 5 refine vof ?_
        iterate 2 refine vo ?_
        iterate 5 refine vof ?_
        refine vo ?_
        refine vnt ?_
        refine vc_then ?_
        refine vc_sr ?_
        refine vo ?_
        refine vnt ?_
        refine vc_ret ?_
        refine thn_r ?_
        refine fin_i [] rfl (fz ?_) trivial
        refine Bool.eq_false_iff.2 fun hh => ?_
        simp only [cjB, Bool.and_eq_true, decide_eq_true_eq] at hh
        obtain ⟨k1, k2, k3, k4, k5, k6, k7, k8, k9, k10, k11, k12, k13⟩ := hh
        first | exact Bool.false_ne_true (g3.symm.trans k3) | exact g3 k3 | exact absurd k3 (by simpa using g3) | (have := inB_iff.1 k7; omega) | omega
      · iterate 4 refine von ?_
        iterate 2 refine vo ?_
        refine vsp (fun g4 => ?_) (fun g4 => ?_)
        · iterate 5 refine vof ?_
          iterate 2 refine vo ?_
          iterate 5 refine vof ?_
          refine vo ?_
          refine vnt ?_
          refine vc_then ?_
          refine vc_sr ?_
          refine vo ?_
          refine vnt ?_
          refine vc_ret ?_
          refine thn_r ?_
          refine fin_i [] rfl (fz ?_) trivial
          refine Bool.eq_false_iff.2 fun hh => ?_
          simp only [cjB, Bool.and_eq_true, decide_eq_true_eq] at hh
          obtain ⟨k1, k2, k3, k4, k5, k6, k7, k8, k9, k10, k11, k12, k13⟩ := hh
          first | exact Bool.false_ne_true (g4.symm.trans k4) | exact g4 k4 | exact absurd k4 (by simpa using g4) | (have := inB_iff.1 k7; omega) | omega
        · iterate 5 refine von ?_
          iterate 2 refine vo ?_
          refine vsp (fun g5 => ?_) (fun g5 => ?_)
          · iterate 5 refine vof ?_
            refine vo ?_
            refine vnt ?_
            refine vc_then ?_
            refine vc_sr ?_
            refine vo ?_
            refine vnt ?_
            refine vc_ret ?_
            refine thn_r ?_
            refine fin_i [] rfl (fz ?_) trivial
            refine Bool.eq_false_iff.2 fun hh => ?_
            simp only [cjB, Bool.and_eq_true, decide_eq_true_eq] at hh
            obtain ⟨k1, k2, k3, k4, k5, k6, k7, k8, k9, k10, k11, k12, k13⟩ := hh
            first | exact Bool.false_ne_true (g5.symm.trans k5) | exact g5 k5 | exact absurd k5 (by simpa using g5) | (have := inB_iff.1 k7; omega) | omega
          · iterate 3 refine von ?_
            refine vocn c_impl_streaming rfl rfl ?_
            refine von ?_
            refine vo ?_
            refine vnt ?_
            refine vc_if (fun g6 => ?_) (fun g6 => ?_)
            · refine vc_sr ?_
              refine vo ?_
              refine vnt ?_
              refine vc_ret ?_
              refine thn_r ?_
              refine fin_i [] rfl (fz ?_) trivial
              refine Bool.eq_false_iff.2 fun hh => ?_
              simp only [cjB, Bool.and_eq_true, decide_eq_true_eq] at hh
              obtain ⟨k1, k2, k3, k4, k5, k6, k7, k8, k9, k10, k11, k12, k13⟩ := hh
              first | exact Bool.false_ne_true (g6.symm.trans k6) | exact g6 k6 | exact absurd k6 (by simpa using g6) | (have := inB_iff.1 k7; omega) | omega
            · refine vc_skip ?_
              refine thn ?_
              refine vc_sr ?_
              iterate 11 refine vo ?_
              refine vnt ?_
              refine vc_seq' ?_
              refine vc_sr ?_
              iterate 4 refine vo ?_
              refine vsp (fun g7 => ?_) (fun g7 => ?_)
              · iterate 4 refine vof ?_
                iterate 2 refine vo ?_
                iterate 5 refine vof ?_
                iterate 2 refine vo ?_
                iterate 7 refine vof ?_
                refine vo ?_
                refine vnt ?_
                refine vc_then ?_
                refine vc_sr ?_
                refine vo ?_
                refine vnt ?_
                refine vc_ret ?_
                refine thn_r ?_
                refine fin_i [] rfl (fz ?_) trivial
                refine Bool.eq_false_iff.2 fun hh => ?_
                simp only [cjB, Bool.and_eq_true, decide_eq_true_eq] at hh
                obtain ⟨k1, k2, k3, k4, k5, k6, k7, k8, k9, k10, k11, k12, k13⟩ := hh
                first | exact Bool.false_ne_true (g7.symm.trans k7) | exact g7 k7 | exact absurd k7 (by simpa using g7) | (have := inB_iff.1 k7; omega) | omega
              · iterate 2 refine von ?_
                refine vocn c_impl_between rfl rfl ?_
                refine von ?_
                iterate 2 refine vo ?_
                refine vsp (fun g8 => ?_) (fun g8 => ?_)
                · iterate 5 refine vof ?_
                  iterate 2 refine vo ?_
                  iterate 7 refine vof ?_
                  refine vo ?_
                  refine vnt ?_
                  refine vc_then ?_
                  refine vc_sr ?_
                  refine vo ?_
                  refine vnt ?_
                  refine vc_ret ?_
                  refine thn_r ?_
                  refine fin_i [] rfl (fz ?_) trivial
                  refine Bool.eq_false_iff.2 fun hh => ?_
                  simp only [cjB, Bool.and_eq_true, decide_eq_true_eq] at hh
                  obtain ⟨k1, k2, k3, k4, k5, k6, k7, k8, k9, k10, k11, k12, k13⟩ := hh
                  first | exact Bool.false_ne_true (g8.symm.trans k8) | exact g8 k8 | exact absurd k8 (by simpa using g8) | (have := inB_iff.1 k7; omega) | omega
                · have hc8 := inB_iff.1 g8
                  iterate 4 refine von ?_
                  try refine veq (Int.tmod_eq_emod_of_nonneg (by omega)) ?_
                  refine von ?_
                  iterate 2 refine vo ?_
                  refine vsp (fun g9 => ?_) (fun g9 => ?_)
                  · iterate 7 refine vof ?_
                    refine vo ?_
                    refine vnt ?_
                    refine vc_then ?_
                    refine vc_sr ?_
                    refine vo ?_
                    refine vnt ?_
                    refine vc_ret ?_
                    refine thn_r ?_
                    refine fin_i [] rfl (fz ?_) trivial
                    refine Bool.eq_false_iff.2 fun hh => ?_
                    simp only [cjB, Bool.and_eq_true, decide_eq_true_eq] at hh
                    obtain ⟨k1, k2, k3, k4, k5, k6, k7, k8, k9, k10, k11, k12, k13⟩ := hh
                    exact g9 (cj_div2 hc8.1 k9).1
                  · iterate 4 refine von ?_
                    try refine veq (IntWalk.i64_quo _ _ (by omega)) ?_
                    iterate 3 refine von ?_
                    refine vo ?_
                    refine vnt ?_
                    refine vc_if (fun g10 => ?_) (fun g10 => ?_)
                    · refine vc_sr ?_
                      refine vo ?_
                      refine vnt ?_
                      refine vc_ret ?_
                      refine thn_r ?_
                      refine fin_i [] rfl (fz ?_) trivial
                      refine Bool.eq_false_iff.2 fun hh => ?_
                      simp only [cjB, Bool.and_eq_true, decide_eq_true_eq] at hh
                      obtain ⟨k1, k2, k3, k4, k5, k6, k7, k8, k9, k10, k11, k12, k13⟩ := hh
                      exact g10 (cj_div2 hc8.1 k9).2
                    · refine vc_skip ?_
                      refine thn ?_
                      refine vc_sr ?_
                      iterate 3 refine vo ?_
                      refine voc c_impl_between rfl rfl ?_
                      refine vo ?_
                      refine vsp (fun g11 => ?_) (fun g11 => ?_)
                      · iterate 3 refine von ?_
                        try refine vwr ?_
                        refine von ?_
                        iterate 2 refine vo ?_
                        refine vsp (fun g12 => ?_) (fun g12 => ?_)
                        · iterate 9 refine von ?_
                          try refine vwr ?_
                          refine von ?_
                          try refine veq (Int.tmod_eq_emod_of_nonneg (by omega)) ?_
                          refine von ?_
                          iterate 2 refine vo ?_
                          refine vsp (fun g13 => ?_) (fun g13 => ?_)
                          · iterate 8 refine von ?_
                            try refine vwr ?_
                            refine von ?_
                            try refine veq (Int.tmod_eq_emod_of_nonneg (by omega)) ?_
                            refine von ?_
                            iterate 2 refine vo ?_
                            refine vnt ?_
                            refine vc_ret ?_
                            refine fin_i [] rfl (fz ?_) trivial
                            rw [Bool.eq_iff_iff]
                            simp only [cjB, Bool.and_eq_true, decide_eq_true_eq]
                            refine ⟨fun hh => ?_, fun k13 => ?_⟩
                            · obtain ⟨k1, k2, k3, k4, k5, k6, k7, k8, k9, k10, k11, k12, k13⟩ := hh; first | exact k13 | exact ⟨k12, k13⟩
                            · have e := cj_div (by omega) (by omega) g9 g10
                              exact ⟨g1, g2, g3, g4, g5, g6, inB_iff.2 ⟨g7, cj_le (by omega) g7 (by omega) e⟩, g8, e, g11, g12, g13, k13⟩
                          · iterate 10 refine vof ?_
                            iterate 2 refine vo ?_
                            refine vnt ?_
                            refine vc_ret ?_
                            refine fin_i [] rfl (fz ?_) trivial
                            refine Bool.eq_false_iff.2 fun hh => ?_
                            simp only [cjB, Bool.and_eq_true, decide_eq_true_eq] at hh
                            obtain ⟨k1, k2, k3, k4, k5, k6, k7, k8, k9, k10, k11, k12, k13⟩ := hh
                            first | exact Bool.false_ne_true (g13.symm.trans k12) | exact g13 k12 | exact absurd k12 (by simpa using g13) | (have := inB_iff.1 k7; omega) | omega
                        · iterate 11 refine vof ?_
                          iterate 2 refine vo ?_
                          iterate 10 refine vof ?_
                          iterate 2 refine vo ?_
                          refine vnt ?_
                          refine vc_ret ?_
                          refine fin_i [] rfl (fz ?_) trivial
                          refine Bool.eq_false_iff.2 fun hh => ?_
                          simp only [cjB, Bool.and_eq_true, decide_eq_true_eq] at hh
                          obtain ⟨k1, k2, k3, k4, k5, k6, k7, k8, k9, k10, k11, k12, k13⟩ := hh
                          first | exact Bool.false_ne_true (g12.symm.trans k11) | exact g12 k11 | exact absurd k11 (by simpa using g12) | (have := inB_iff.1 k7; omega) | omega
                      · iterate 4 refine vof ?_
                        iterate 2 refine vo ?_
                        iterate 11 refine vof ?_
                        iterate 2 refine vo ?_
                        iterate 10 refine vof ?_
                        iterate 2 refine vo ?_
                        refine vnt ?_
                        refine vc_ret ?_
                        refine fin_i [] rfl (fz ?_) trivial
                        refine Bool.eq_false_iff.2 fun hh => ?_
                        simp only [cjB, Bool.and_eq_true, decide_eq_true_eq] at hh
                        obtain ⟨k1, k2, k3, k4, k5, k6, k7, k8, k9, k10, k11, k12, k13⟩ := hh
                        first | exact Bool.false_ne_true (g11.symm.trans k10) | exact g11 k10 | exact absurd k10 (by simpa using g11) | (have := inB_iff.1 k7; omega) | omega
end Go.Proofs.YtfcmcedeapgdcaaGreat
end
section
namespace Go.Proofs.YtfcmcedeapgdcaaGreat
open Go Go.RowKit Go.Vc
set_option linter.unusedVariables false
set_option linter.unusedSimpArgs false
set_option linter.unnecessarySimpa false
structure Rx where
  (rb rs rh rt db ds dc vb vs vc dm sm vl tos id ttl si di kind sp dp seq ack fl win : Int)
  (body : ByteArray)
  (size count : Int)
  (hold : Bool)
  (dropped : Int)
def fhF (l : List Mp) (ps : Pg) (d : Int) (q : Rx) (key : ByteArray) : Pg × Rx := (bif fhG l ps d q.rb q.rs q.rh q.rt q.db q.ds q.dc q.vb q.vs q.vc q.dm q.sm q.vl q.tos q.id q.ttl q.si q.di q.kind q.sp q.dp q.seq q.ack q.fl q.win q.body q.size q.count q.hold q.dropped key then (stF l ps d q.db q.ds q.dc q.dm q.sm q.vl q.tos q.id q.ttl q.si q.di q.kind q.sp q.dp q.seq q.ack q.fl q.win q.body q.size q.count key (rtakeF l ps d q.rb q.rs q.rh q.rt).1).1 else ps, ⟨q.rb, q.rs, (bif fhOk q.rb q.rs q.rh q.rt q.db q.ds q.dc q.vb q.vs q.vc q.dm q.sm q.vl q.tos q.id q.ttl q.si q.di q.kind q.sp q.dp q.seq q.ack q.fl q.win q.body q.size q.count q.hold q.dropped key then (rtakeF l ps d q.rb q.rs q.rh q.rt).2.1 else q.rh), q.rt, q.db, q.ds, (bif fhG l ps d q.rb q.rs q.rh q.rt q.db q.ds q.dc q.vb q.vs q.vc q.dm q.sm q.vl q.tos q.id q.ttl q.si q.di q.kind q.sp q.dp q.seq q.ack q.fl q.win q.body q.size q.count q.hold q.dropped key then (stF l ps d q.db q.ds q.dc q.dm q.sm q.vl q.tos q.id q.ttl q.si q.di q.kind q.sp q.dp q.seq q.ack q.fl q.win q.body q.size q.count key (rtakeF l ps d q.rb q.rs q.rh q.rt).1).2.1 else q.dc), q.vb, q.vs, q.vc, (fhI (fhOk q.rb q.rs q.rh q.rt q.db q.ds q.dc q.vb q.vs q.vc q.dm q.sm q.vl q.tos q.id q.ttl q.si q.di q.kind q.sp q.dp q.seq q.ack q.fl q.win q.body q.size q.count q.hold q.dropped key) q.dm), (fhI (fhOk q.rb q.rs q.rh q.rt q.db q.ds q.dc q.vb q.vs q.vc q.dm q.sm q.vl q.tos q.id q.ttl q.si q.di q.kind q.sp q.dp q.seq q.ack q.fl q.win q.body q.size q.count q.hold q.dropped key) q.sm), (fhI (fhOk q.rb q.rs q.rh q.rt q.db q.ds q.dc q.vb q.vs q.vc q.dm q.sm q.vl q.tos q.id q.ttl q.si q.di q.kind q.sp q.dp q.seq q.ack q.fl q.win q.body q.size q.count q.hold q.dropped key) q.vl), (fhI (fhOk q.rb q.rs q.rh q.rt q.db q.ds q.dc q.vb q.vs q.vc q.dm q.sm q.vl q.tos q.id q.ttl q.si q.di q.kind q.sp q.dp q.seq q.ack q.fl q.win q.body q.size q.count q.hold q.dropped key) q.tos), (fhI (fhOk q.rb q.rs q.rh q.rt q.db q.ds q.dc q.vb q.vs q.vc q.dm q.sm q.vl q.tos q.id q.ttl q.si q.di q.kind q.sp q.dp q.seq q.ack q.fl q.win q.body q.size q.count q.hold q.dropped key) q.id), (fhI (fhOk q.rb q.rs q.rh q.rt q.db q.ds q.dc q.vb q.vs q.vc q.dm q.sm q.vl q.tos q.id q.ttl q.si q.di q.kind q.sp q.dp q.seq q.ack q.fl q.win q.body q.size q.count q.hold q.dropped key) q.ttl), (fhI (fhOk q.rb q.rs q.rh q.rt q.db q.ds q.dc q.vb q.vs q.vc q.dm q.sm q.vl q.tos q.id q.ttl q.si q.di q.kind q.sp q.dp q.seq q.ack q.fl q.win q.body q.size q.count q.hold q.dropped key) q.si), (fhI (fhOk q.rb q.rs q.rh q.rt q.db q.ds q.dc q.vb q.vs q.vc q.dm q.sm q.vl q.tos q.id q.ttl q.si q.di q.kind q.sp q.dp q.seq q.ack q.fl q.win q.body q.size q.count q.hold q.dropped key) q.di), (fhI (fhOk q.rb q.rs q.rh q.rt q.db q.ds q.dc q.vb q.vs q.vc q.dm q.sm q.vl q.tos q.id q.ttl q.si q.di q.kind q.sp q.dp q.seq q.ack q.fl q.win q.body q.size q.count q.hold q.dropped key) q.kind), (fhI (fhOk q.rb q.rs q.rh q.rt q.db q.ds q.dc q.vb q.vs q.vc q.dm q.sm q.vl q.tos q.id q.ttl q.si q.di q.kind q.sp q.dp q.seq q.ack q.fl q.win q.body q.size q.count q.hold q.dropped key) q.sp), (fhI (fhOk q.rb q.rs q.rh q.rt q.db q.ds q.dc q.vb q.vs q.vc q.dm q.sm q.vl q.tos q.id q.ttl q.si q.di q.kind q.sp q.dp q.seq q.ack q.fl q.win q.body q.size q.count q.hold q.dropped key) q.dp), (fhI (fhOk q.rb q.rs q.rh q.rt q.db q.ds q.dc q.vb q.vs q.vc q.dm q.sm q.vl q.tos q.id q.ttl q.si q.di q.kind q.sp q.dp q.seq q.ack q.fl q.win q.body q.size q.count q.hold q.dropped key) q.seq), (fhI (fhOk q.rb q.rs q.rh q.rt q.db q.ds q.dc q.vb q.vs q.vc q.dm q.sm q.vl q.tos q.id q.ttl q.si q.di q.kind q.sp q.dp q.seq q.ack q.fl q.win q.body q.size q.count q.hold q.dropped key) q.ack), (fhI (fhOk q.rb q.rs q.rh q.rt q.db q.ds q.dc q.vb q.vs q.vc q.dm q.sm q.vl q.tos q.id q.ttl q.si q.di q.kind q.sp q.dp q.seq q.ack q.fl q.win q.body q.size q.count q.hold q.dropped key) q.fl), (fhI (fhOk q.rb q.rs q.rh q.rt q.db q.ds q.dc q.vb q.vs q.vc q.dm q.sm q.vl q.tos q.id q.ttl q.si q.di q.kind q.sp q.dp q.seq q.ack q.fl q.win q.body q.size q.count q.hold q.dropped key) q.win), (fhS (fhOk q.rb q.rs q.rh q.rt q.db q.ds q.dc q.vb q.vs q.vc q.dm q.sm q.vl q.tos q.id q.ttl q.si q.di q.kind q.sp q.dp q.seq q.ack q.fl q.win q.body q.size q.count q.hold q.dropped key) q.body), (fhI (fhOk q.rb q.rs q.rh q.rt q.db q.ds q.dc q.vb q.vs q.vc q.dm q.sm q.vl q.tos q.id q.ttl q.si q.di q.kind q.sp q.dp q.seq q.ack q.fl q.win q.body q.size q.count q.hold q.dropped key) q.size), (fhI (fhOk q.rb q.rs q.rh q.rt q.db q.ds q.dc q.vb q.vs q.vc q.dm q.sm q.vl q.tos q.id q.ttl q.si q.di q.kind q.sp q.dp q.seq q.ack q.fl q.win q.body q.size q.count q.hold q.dropped key) q.count), (bif fhOk q.rb q.rs q.rh q.rt q.db q.ds q.dc q.vb q.vs q.vc q.dm q.sm q.vl q.tos q.id q.ttl q.si q.di q.kind q.sp q.dp q.seq q.ack q.fl q.win q.body q.size q.count q.hold q.dropped key then false else q.hold), (fhD (fhOk q.rb q.rs q.rh q.rt q.db q.ds q.dc q.vb q.vs q.vc q.dm q.sm q.vl q.tos q.id q.ttl q.si q.di q.kind q.sp q.dp q.seq q.ack q.fl q.win q.body q.size q.count q.hold q.dropped key) (fhG l ps d q.rb q.rs q.rh q.rt q.db q.ds q.dc q.vb q.vs q.vc q.dm q.sm q.vl q.tos q.id q.ttl q.si q.di q.kind q.sp q.dp q.seq q.ack q.fl q.win q.body q.size q.count q.hold q.dropped key) q.dropped q.count)⟩)
def rpF (l : List Mp) (ps : Pg) (d : Int) (q : Rx) (key : ByteArray) (dm2 sm2 vl2 tos2 id2 ttl2 si2 di2 kind2 sp2 dp2 seq2 ack2 fl2 win2 : Int) (body2 : ByteArray) (coal : Bool) : Pg × Rx :=
  if rxOkB q.rb q.rs q.rh q.rt q.db q.ds q.dc q.vb q.vs q.vc q.dm q.sm q.vl q.tos q.id q.ttl q.si q.di q.kind q.sp q.dp q.seq q.ack q.fl q.win q.body q.size q.count q.hold q.dropped = true ∧ (superOkB dm2 sm2 vl2 tos2 id2 ttl2 si2 di2 kind2 sp2 dp2 seq2 ack2 fl2 win2 body2.size && decide (body2.size ≤ 128)) = true ∧ key.size = 16 then
    if (coal && (q.hold && cjB q.dm q.sm q.vl q.tos q.id q.ttl q.si q.di q.kind q.sp q.dp q.seq q.ack q.fl q.win q.body q.size q.count dm2 sm2 vl2 tos2 id2 ttl2 si2 di2 kind2 sp2 dp2 seq2 ack2 fl2 win2 body2)) = true then (ps, ⟨q.rb, q.rs, q.rh, q.rt, q.db, q.ds, q.dc, q.vb, q.vs, q.vc, q.dm, q.sm, q.vl, q.tos, q.id, q.ttl, q.si, q.di, q.kind, q.sp, q.dp, q.seq, q.ack, fl2, q.win, (q.body ++ body2), q.size, (q.count + 1), q.hold, q.dropped⟩)
    else bif coal then ((fhF l ps d q key).1, ⟨(fhF l ps d q key).2.rb, (fhF l ps d q key).2.rs, (fhF l ps d q key).2.rh, (fhF l ps d q key).2.rt, (fhF l ps d q key).2.db, (fhF l ps d q key).2.ds, (fhF l ps d q key).2.dc, (fhF l ps d q key).2.vb, (fhF l ps d q key).2.vs, (fhF l ps d q key).2.vc, dm2, sm2, vl2, tos2, id2, ttl2, si2, di2, kind2, sp2, dp2, seq2, ack2, fl2, win2, body2, (body2.size : Int), 1, true, (fhF l ps d q key).2.dropped⟩) else fhF l (fhF l ps d q key).1 d ⟨(fhF l ps d q key).2.rb, (fhF l ps d q key).2.rs, (fhF l ps d q key).2.rh, (fhF l ps d q key).2.rt, (fhF l ps d q key).2.db, (fhF l ps d q key).2.ds, (fhF l ps d q key).2.dc, (fhF l ps d q key).2.vb, (fhF l ps d q key).2.vs, (fhF l ps d q key).2.vc, dm2, sm2, vl2, tos2, id2, ttl2, si2, di2, kind2, sp2, dp2, seq2, ack2, fl2, win2, body2, (body2.size : Int), 1, true, (fhF l ps d q key).2.dropped⟩ key
  else (ps, q)
theorem rp_bad {l : List Mp} {ps : Pg} {d rb rs rh rt db ds dc vb vs vc dm sm vl tos id ttl si di kind sp dp seq ack fl win size count dropped dm2 sm2 vl2 tos2 id2 ttl2 si2 di2 kind2 sp2 dp2 seq2 ack2 fl2 win2 : Int} {body key body2 : ByteArray} {hold coal : Bool} (h : rxOkB rb rs rh rt db ds dc vb vs vc dm sm vl tos id ttl si di kind sp dp seq ack fl win body size count hold dropped = false ∨ (superOkB dm2 sm2 vl2 tos2 id2 ttl2 si2 di2 kind2 sp2 dp2 seq2 ack2 fl2 win2 body2.size && decide (body2.size ≤ 128)) = false ∨ ¬ key.size = 16) : rpF l ps d ⟨rb, rs, rh, rt, db, ds, dc, vb, vs, vc, dm, sm, vl, tos, id, ttl, si, di, kind, sp, dp, seq, ack, fl, win, body, size, count, hold, dropped⟩ key dm2 sm2 vl2 tos2 id2 ttl2 si2 di2 kind2 sp2 dp2 seq2 ack2 fl2 win2 body2 coal = (ps, ⟨rb, rs, rh, rt, db, ds, dc, vb, vs, vc, dm, sm, vl, tos, id, ttl, si, di, kind, sp, dp, seq, ack, fl, win, body, size, count, hold, dropped⟩) := by
  unfold rpF
  rw [if_neg]
  rintro ⟨h1, h2, h3⟩
  rcases h with h | h | h
  · rw [h] at h1; cases h1
  · rw [h] at h2; cases h2
  · exact h h3
theorem rp_join {l : List Mp} {ps : Pg} {d rb rs rh rt db ds dc vb vs vc dm sm vl tos id ttl si di kind sp dp seq ack fl win size count dropped dm2 sm2 vl2 tos2 id2 ttl2 si2 di2 kind2 sp2 dp2 seq2 ack2 fl2 win2 : Int} {body key body2 : ByteArray} {hold coal : Bool} (h1 : rxOkB rb rs rh rt db ds dc vb vs vc dm sm vl tos id ttl si di kind sp dp seq ack fl win body size count hold dropped = true) (h2 : (superOkB dm2 sm2 vl2 tos2 id2 ttl2 si2 di2 kind2 sp2 dp2 seq2 ack2 fl2 win2 body2.size && decide (body2.size ≤ 128)) = true) (h3 : key.size = 16) (h4 : coal = true) (h5 : hold = true) (h6 : cjB dm sm vl tos id ttl si di kind sp dp seq ack fl win body size count dm2 sm2 vl2 tos2 id2 ttl2 si2 di2 kind2 sp2 dp2 seq2 ack2 fl2 win2 body2 = true) : rpF l ps d ⟨rb, rs, rh, rt, db, ds, dc, vb, vs, vc, dm, sm, vl, tos, id, ttl, si, di, kind, sp, dp, seq, ack, fl, win, body, size, count, hold, dropped⟩ key dm2 sm2 vl2 tos2 id2 ttl2 si2 di2 kind2 sp2 dp2 seq2 ack2 fl2 win2 body2 coal = (ps, ⟨rb, rs, rh, rt, db, ds, dc, vb, vs, vc, dm, sm, vl, tos, id, ttl, si, di, kind, sp, dp, seq, ack, fl2, win, (body ++ body2), size, (count + 1), hold, dropped⟩) := by
  unfold rpF
  rw [if_pos ⟨h1, h2, h3⟩, if_pos (by rw [h4, h5, h6]; rfl)]
theorem rp_one {l : List Mp} {ps : Pg} {d rb rs rh rt db ds dc vb vs vc dm sm vl tos id ttl si di kind sp dp seq ack fl win size count dropped dm2 sm2 vl2 tos2 id2 ttl2 si2 di2 kind2 sp2 dp2 seq2 ack2 fl2 win2 : Int} {body key body2 : ByteArray} {hold coal : Bool} {r1 : Pg × Rx} (hr : fhF l ps d ⟨rb, rs, rh, rt, db, ds, dc, vb, vs, vc, dm, sm, vl, tos, id, ttl, si, di, kind, sp, dp, seq, ack, fl, win, body, size, count, hold, dropped⟩ key = r1) (h1 : rxOkB rb rs rh rt db ds dc vb vs vc dm sm vl tos id ttl si di kind sp dp seq ack fl win body size count hold dropped = true) (h2 : (superOkB dm2 sm2 vl2 tos2 id2 ttl2 si2 di2 kind2 sp2 dp2 seq2 ack2 fl2 win2 body2.size && decide (body2.size ≤ 128)) = true) (h3 : key.size = 16) (h4 : coal = true) (h5 : (hold && cjB dm sm vl tos id ttl si di kind sp dp seq ack fl win body size count dm2 sm2 vl2 tos2 id2 ttl2 si2 di2 kind2 sp2 dp2 seq2 ack2 fl2 win2 body2) = false) : rpF l ps d ⟨rb, rs, rh, rt, db, ds, dc, vb, vs, vc, dm, sm, vl, tos, id, ttl, si, di, kind, sp, dp, seq, ack, fl, win, body, size, count, hold, dropped⟩ key dm2 sm2 vl2 tos2 id2 ttl2 si2 di2 kind2 sp2 dp2 seq2 ack2 fl2 win2 body2 coal = (r1.1, ⟨r1.2.rb, r1.2.rs, r1.2.rh, r1.2.rt, r1.2.db, r1.2.ds, r1.2.dc, r1.2.vb, r1.2.vs, r1.2.vc, dm2, sm2, vl2, tos2, id2, ttl2, si2, di2, kind2, sp2, dp2, seq2, ack2, fl2, win2, body2, (body2.size : Int), 1, true, r1.2.dropped⟩) := by
  subst hr
  unfold rpF
  rw [if_pos ⟨h1, h2, h3⟩, if_neg (by rw [h4]; show ¬ (true && (hold && _)) = true; rw [h5]; decide), h4]
  rfl
theorem rp_two {l : List Mp} {ps : Pg} {d rb rs rh rt db ds dc vb vs vc dm sm vl tos id ttl si di kind sp dp seq ack fl win size count dropped dm2 sm2 vl2 tos2 id2 ttl2 si2 di2 kind2 sp2 dp2 seq2 ack2 fl2 win2 : Int} {body key body2 : ByteArray} {hold coal : Bool} {r1 : Pg × Rx} (hr : fhF l ps d ⟨rb, rs, rh, rt, db, ds, dc, vb, vs, vc, dm, sm, vl, tos, id, ttl, si, di, kind, sp, dp, seq, ack, fl, win, body, size, count, hold, dropped⟩ key = r1) (h1 : rxOkB rb rs rh rt db ds dc vb vs vc dm sm vl tos id ttl si di kind sp dp seq ack fl win body size count hold dropped = true) (h2 : (superOkB dm2 sm2 vl2 tos2 id2 ttl2 si2 di2 kind2 sp2 dp2 seq2 ack2 fl2 win2 body2.size && decide (body2.size ≤ 128)) = true) (h3 : key.size = 16) (h4 : coal = false) : rpF l ps d ⟨rb, rs, rh, rt, db, ds, dc, vb, vs, vc, dm, sm, vl, tos, id, ttl, si, di, kind, sp, dp, seq, ack, fl, win, body, size, count, hold, dropped⟩ key dm2 sm2 vl2 tos2 id2 ttl2 si2 di2 kind2 sp2 dp2 seq2 ack2 fl2 win2 body2 coal = fhF l r1.1 d ⟨r1.2.rb, r1.2.rs, r1.2.rh, r1.2.rt, r1.2.db, r1.2.ds, r1.2.dc, r1.2.vb, r1.2.vs, r1.2.vc, dm2, sm2, vl2, tos2, id2, ttl2, si2, di2, kind2, sp2, dp2, seq2, ack2, fl2, win2, body2, (body2.size : Int), 1, true, r1.2.dropped⟩ key := by
  subst hr
  unfold rpF
  rw [if_pos ⟨h1, h2, h3⟩, if_neg (by rw [h4]; exact Bool.false_ne_true), h4]
  rfl
theorem c_impl_FlushHeld_r {l : List Mp} {ps : Pg} {d rb rs rh rt db ds dc vb vs vc dm sm vl tos id ttl si di kind sp dp seq ack fl win size count dropped : Int} {body key : ByteArray} {hold : Bool} {r : Pg × Rx} (hr : fhF l ps d ⟨rb, rs, rh, rt, db, ds, dc, vb, vs, vc, dm, sm, vl, tos, id, ttl, si, di, kind, sp, dp, seq, ack, fl, win, body, size, count, hold, dropped⟩ key = r) (hl : l.length ≤ 1099511627776 := by first | assumption | omega) (hp : ps.length ≤ 1099511627776 := by first | assumption | omega) (hsk : key.size ≤ 1099511627776 := by first | assumption | omega) : Con0 Tryz.prog 10 [.one (.sl 4 (l.map mpE)), .agg [.sl 1 (ps.map strE)], I d, .agg [V rb, V rs, V rh, V rt, V db, V ds, V dc, V vb, V vs, V vc, V dm, V sm, V vl, V tos, V id, V ttl, V si, V di, V kind, V sp, V dp, V seq, V ack, V fl, V win, VS body, V size, V count, VB hold, V dropped], Z key] (.tup [.agg [.hs 0], .agg [V r.2.rb, V r.2.rs, V r.2.rh, V r.2.rt, V r.2.db, V r.2.ds, V r.2.dc, V r.2.vb, V r.2.vs, V r.2.vc, V r.2.dm, V r.2.sm, V r.2.vl, V r.2.tos, V r.2.id, V r.2.ttl, V r.2.si, V r.2.di, V r.2.kind, V r.2.sp, V r.2.dp, V r.2.seq, V r.2.ack, V r.2.fl, V r.2.win, VS r.2.body, V r.2.size, V r.2.count, VB r.2.hold, V r.2.dropped]]) [(0, .arr 9 1 (r.1.map strE))] := by subst hr; exact c_impl_FlushHeld
theorem cj_rng {dm sm vl tos id ttl si di kind sp dp seq ack fl win dm2 sm2 vl2 tos2 id2 ttl2 si2 di2 kind2 sp2 dp2 seq2 ack2 fl2 win2 size count : Int} {body body2 : ByteArray} (h : cjB dm sm vl tos id ttl si di kind sp dp seq ack fl win body size count dm2 sm2 vl2 tos2 id2 ttl2 si2 di2 kind2 sp2 dp2 seq2 ack2 fl2 win2 body2 = true) : 1 ≤ count ∧ count ≤ 320 := by
  simp only [cjB, Bool.and_eq_true, inB_iff] at h
  exact h.2.2.2.2.2.2.2.1
set_option maxHeartbeats 4000000 in
theorem c_impl_Join {dm sm vl tos id ttl si di kind sp dp seq ack fl win dm2 sm2 vl2 tos2 id2 ttl2 si2 di2 kind2 sp2 dp2 seq2 ack2 fl2 win2 size count : Int} {body body2 : ByteArray} (hj : cjB dm sm vl tos id ttl si di kind sp dp seq ack fl win body size count dm2 sm2 vl2 tos2 id2 ttl2 si2 di2 kind2 sp2 dp2 seq2 ack2 fl2 win2 body2 = true) (hs_1 : body.size ≤ 1099511627776 := by first | assumption | omega) (hs_2 : body2.size ≤ 1099511627776 := by first | assumption | omega) : Con0 Tryz.prog 31 [.agg [V dm, V sm, V vl, V tos, V id, V ttl, V si, V di, V kind, V sp, V dp, V seq, V ack, V fl, V win, VS body, V size, V count], .agg [V dm2, V sm2, V vl2, V tos2, V id2, V ttl2, V si2, V di2, V kind2, V sp2, V dp2, V seq2, V ack2, V fl2, V win2, VS body2]] (.agg [V dm, V sm, V vl, V tos, V id, V ttl, V si, V di, V kind, V sp, V dp, V seq, V ack, V fl2, V win, VS (body ++ body2), V size, V (count + 1)]) [] := by
  have hcr := cj_rng hj
  refine con_i Tryz.func31 Tryz.ntmps31 (t := [(0, .agg [V dm, V sm, V vl, V tos, V id, V ttl, V si, V di, V kind, V sp, V dp, V seq, V ack, V fl, V win, VS body, V size, V count]), (1, .agg [V dm2, V sm2, V vl2, V tos2, V id2, V ttl2, V si2, V di2, V kind2, V sp2, V dp2, V seq2, V ack2, V fl2, V win2, VS body2])]) rfl ?_
  refine vc_sr ?_
  iterate 3 refine vo ?_
  refine vnt ?_
  refine vc_seq' ?_
  refine vc_sr ?_
  iterate 2 refine vo ?_
  refine voc c_impl_CanJoin rfl rfl ?_
  refine vo ?_
  refine vnt ?_
  refine vc_if (fun g1 => ?_) (fun g1 => ?_)
  · rw [hj] at g1; cases g1
  · refine vc_skip ?_
    refine thn ?_
    refine vc_sr ?_
    iterate 12 refine vo ?_
    refine vnt ?_
    refine vc_sr ?_
    iterate 7 refine vo ?_
    refine vnt ?_
    refine vc_sr ?_
    iterate 3 refine vo ?_
    try refine vwr ?_
    iterate 2 refine vo ?_
    refine vnt ?_
    refine vc_sr ?_
    iterate 2 refine vo ?_
    refine vnt ?_
    refine vc_ret ?_
    refine fin_i [] rfl (fz ?_) trivial
    simp
theorem dma_ln (l : List Mp) (ps : Pg) (d a : Int) (s : ByteArray) (wt : Bool) : (dmaWF l ps d a s wt).1.length = ps.length := dmaWF_len (ok := (dmaWF l ps d a s wt).2) rfl
theorem putC_ln (l : List Mp) (ps : Pg) (d b s c x1 x2 x3 x4 x5 : Int) : (putC l ps d b s c x1 x2 x3 x4 x5).1.length = ps.length := by
  unfold putC
  split
  · split
    · have h := dma_ln l ps d (slotC b s c) (encC x1 x2 x3 x4 x5 (phaseC s c)) true
      split <;> rename_i e
      · rw [e] at h; exact h
      · rfl
    · rfl
  · rfl
theorem stF_ln (l : List Mp) (ps : Pg) (d db ds dc dm sm vl tos id ttl si di kind sp dp seq ack fl win : Int) (body : ByteArray) (size count : Int) (key entry : ByteArray) : (stF l ps d db ds dc dm sm vl tos id ttl si di kind sp dp seq ack fl win body size count key entry).1.length = ps.length := by
  unfold stF
  split
  · split
    · rw [putC_ln, dma_ln]
    · rfl
  · rfl
theorem fhF_len (l : List Mp) (ps : Pg) (d : Int) (q : Rx) (key : ByteArray) : (fhF l ps d q key).1.length = ps.length := by
  unfold fhF
  simp only
  cases fhG l ps d q.rb q.rs q.rh q.rt q.db q.ds q.dc q.vb q.vs q.vc q.dm q.sm q.vl q.tos q.id q.ttl q.si q.di q.kind q.sp q.dp q.seq q.ack q.fl q.win q.body q.size q.count q.hold q.dropped key
  · rfl
  · exact stF_ln ..
theorem rp_sz {dm sm vl tos id ttl si di kind sp dp seq ack fl win : Int} {n : Nat} (h : (superOkB dm sm vl tos id ttl si di kind sp dp seq ack fl win n && decide (n ≤ 128)) = true) : superOkB dm sm vl tos id ttl si di kind sp dp seq ack fl win n = true ∧ n ≤ 128 := by
  rw [Bool.and_eq_true, decide_eq_true_eq] at h; exact h
set_option maxHeartbeats 4000000 in
theorem c_impl_ReceivePacket {l : List Mp} {ps : Pg} {d rb rs rh rt db ds dc vb vs vc dm sm vl tos id ttl si di kind sp dp seq ack fl win size count dropped dm2 sm2 vl2 tos2 id2 ttl2 si2 di2 kind2 sp2 dp2 seq2 ack2 fl2 win2 : Int} {body key body2 : ByteArray} {hold coal : Bool} {r : Pg × Rx} (hr : rpF l ps d ⟨rb, rs, rh, rt, db, ds, dc, vb, vs, vc, dm, sm, vl, tos, id, ttl, si, di, kind, sp, dp, seq, ack, fl, win, body, size, count, hold, dropped⟩ key dm2 sm2 vl2 tos2 id2 ttl2 si2 di2 kind2 sp2 dp2 seq2 ack2 fl2 win2 body2 coal = r) (hl : l.length ≤ 1099511627776 := by first | assumption | omega) (hp : ps.length ≤ 1099511627776 := by first | assumption | omega) (hsk : key.size ≤ 1099511627776 := by first | assumption | omega) : Con0 Tryz.prog 8 [.one (.sl 4 (l.map mpE)), .agg [.sl 1 (ps.map strE)], I d, .agg [V rb, V rs, V rh, V rt, V db, V ds, V dc, V vb, V vs, V vc, V dm, V sm, V vl, V tos, V id, V ttl, V si, V di, V kind, V sp, V dp, V seq, V ack, V fl, V win, VS body, V size, V count, VB hold, V dropped], Z key, .agg [V dm2, V sm2, V vl2, V tos2, V id2, V ttl2, V si2, V di2, V kind2, V sp2, V dp2, V seq2, V ack2, V fl2, V win2, VS body2], B coal] (.tup [.agg [.hs 0], .agg [V r.2.rb, V r.2.rs, V r.2.rh, V r.2.rt, V r.2.db, V r.2.ds, V r.2.dc, V r.2.vb, V r.2.vs, V r.2.vc, V r.2.dm, V r.2.sm, V r.2.vl, V r.2.tos, V r.2.id, V r.2.ttl, V r.2.si, V r.2.di, V r.2.kind, V r.2.sp, V r.2.dp, V r.2.seq, V r.2.ack, V r.2.fl, V r.2.win, VS r.2.body, V r.2.size, V r.2.count, VB r.2.hold, V r.2.dropped]]) [(0, .arr 9 1 (r.1.map strE))] := by
  obtain ⟨r1, hr1⟩ : ∃ r, fhF l ps d ⟨rb, rs, rh, rt, db, ds, dc, vb, vs, vc, dm, sm, vl, tos, id, ttl, si, di, kind, sp, dp, seq, ack, fl, win, body, size, count, hold, dropped⟩ key = r := ⟨_, rfl⟩
  obtain ⟨r2, hr2⟩ : ∃ r, fhF l r1.1 d ⟨r1.2.rb, r1.2.rs, r1.2.rh, r1.2.rt, r1.2.db, r1.2.ds, r1.2.dc, r1.2.vb, r1.2.vs, r1.2.vc, dm2, sm2, vl2, tos2, id2, ttl2, si2, di2, kind2, sp2, dp2, seq2, ack2, fl2, win2, body2, (body2.size : Int), 1, true, r1.2.dropped⟩ key = r := ⟨_, rfl⟩
  have hp1 : r1.1.length ≤ 1099511627776 := by rw [← hr1, fhF_len]; exact hp
  refine con_i Tryz.func8 Tryz.ntmps8 (t := [(0, .one (.sl 4 (l.map mpE))), (1, .agg [.sl 1 (ps.map strE)]), (2, I d), (3, .agg [V rb, V rs, V rh, V rt, V db, V ds, V dc, V vb, V vs, V vc, V dm, V sm, V vl, V tos, V id, V ttl, V si, V di, V kind, V sp, V dp, V seq, V ack, V fl, V win, VS body, V size, V count, VB hold, V dropped]), (4, Z key), (5, .agg [V dm2, V sm2, V vl2, V tos2, V id2, V ttl2, V si2, V di2, V kind2, V sp2, V dp2, V seq2, V ack2, V fl2, V win2, VS body2]), (6, B coal)]) rfl ?_
  refine vc_sr ?_
  iterate 5 refine vo ?_
  refine vnt ?_
  refine vc_seq' ?_
  refine vc_sr ?_
  refine vo ?_
  refine voc c_impl_RxOk rfl rfl ?_
  iterate 2 refine vo ?_
  refine vsp (fun g1 => ?_) (fun g1 => ?_)
  · iterate 3 refine vof ?_
    iterate 2 refine vo ?_
    iterate 3 refine vof ?_
    refine vo ?_
    refine vnt ?_
    refine vc_then ?_
    refine vc_sr ?_
    refine vo ?_
    refine voc c_impl_copyMemory rfl rfl ?_
    iterate 3 refine vo ?_
    refine vnt ?_
    refine vc_ret ?_
    refine thn_r ?_
    obtain rfl : r = (ps, ⟨rb, rs, rh, rt, db, ds, dc, vb, vs, vc, dm, sm, vl, tos, id, ttl, si, di, kind, sp, dp, seq, ack, fl, win, body, size, count, hold, dropped⟩) := hr.symm.trans (rp_bad (.inl g1))
    refine fin_i [(0, some 256)] rfl (fz ?_) (fz ?_) <;> first | trivial | rfl | simp
  · refine von ?_
    refine vocn c_impl_PacketOk rfl rfl ?_
    refine von ?_
    iterate 2 refine vo ?_
    refine vsp (fun g2 => ?_) (fun g2 => ?_)
    · have pq : (superOkB dm2 sm2 vl2 tos2 id2 ttl2 si2 di2 kind2 sp2 dp2 seq2 ack2 fl2 win2 body2.size && decide (body2.size ≤ 128)) = false := by simpa using g2
      iterate 3 refine vof ?_
      refine vo ?_
      refine vnt ?_
      refine vc_then ?_
      refine vc_sr ?_
      refine vo ?_
      refine voc c_impl_copyMemory rfl rfl ?_
      iterate 3 refine vo ?_
      refine vnt ?_
      refine vc_ret ?_
      refine thn_r ?_
      obtain rfl : r = (ps, ⟨rb, rs, rh, rt, db, ds, dc, vb, vs, vc, dm, sm, vl, tos, id, ttl, si, di, kind, sp, dp, seq, ack, fl, win, body, size, count, hold, dropped⟩) := hr.symm.trans (rp_bad (.inr (.inl pq)))
      refine fin_i [(0, some 256)] rfl (fz ?_) (fz ?_) <;> first | trivial | rfl | simp
    · have pq : (superOkB dm2 sm2 vl2 tos2 id2 ttl2 si2 di2 kind2 sp2 dp2 seq2 ack2 fl2 win2 body2.size && decide (body2.size ≤ 128)) = true := by simpa using g2
      iterate 3 refine von ?_
      refine vo ?_
      refine vnt ?_
      refine vc_if (fun g3 => ?_) (fun g3 => ?_)
      · refine vc_sr ?_
        refine vo ?_
        refine voc c_impl_copyMemory rfl rfl ?_
        iterate 3 refine vo ?_
        refine vnt ?_
        refine vc_ret ?_
        refine thn_r ?_
        obtain rfl : r = (ps, ⟨rb, rs, rh, rt, db, ds, dc, vb, vs, vc, dm, sm, vl, tos, id, ttl, si, di, kind, sp, dp, seq, ack, fl, win, body, size, count, hold, dropped⟩) := hr.symm.trans (rp_bad (.inr (.inr (by omega))))
        refine fin_i [(0, some 256)] rfl (fz ?_) (fz ?_) <;> first | trivial | rfl | simp
      · have hk : key.size = 16 := by omega
        obtain ⟨hsp, hbz⟩ := rp_sz pq
        refine vc_skip ?_
        refine thn ?_
        refine vc_seq' ?_
        refine vc_sr ?_
        iterate 2 refine vo ?_
        refine vsp (fun g4 => ?_) (fun g4 => ?_)
        · iterate 2 refine von ?_
          iterate 2 refine vo ?_
          refine vsp (fun g5 => ?_) (fun g5 => ?_)
          · have hbh := (sup_rng (rx_held g5 g1).1).1.1
            iterate 3 refine von ?_
            refine vocn c_impl_CanJoin rfl rfl ?_
            refine vo ?_
            refine vnt ?_
            refine vc_if (fun g6 => ?_) (fun g6 => ?_)
            · refine vc_sr ?_
              iterate 3 refine vo ?_
              refine voc (c_impl_Join g6) rfl rfl ?_
              iterate 2 refine vo ?_
              refine vnt ?_
              refine vc_sr ?_
              refine vo ?_
              refine voc c_impl_copyMemory rfl rfl ?_
              iterate 3 refine vo ?_
              refine vnt ?_
              refine vc_ret ?_
              refine thn_r ?_
              obtain rfl : r = (ps, ⟨rb, rs, rh, rt, db, ds, dc, vb, vs, vc, dm, sm, vl, tos, id, ttl, si, di, kind, sp, dp, seq, ack, fl2, win, (body ++ body2), size, (count + 1), hold, dropped⟩) := hr.symm.trans (rp_join g1 pq hk g4 g5 g6)
              refine fin_i [(0, some 408)] rfl (fz ?_) (fz ?_) <;> first | trivial | rfl | simp
            · refine vc_skip ?_
              refine thn ?_
              refine vc_sr ?_
              iterate 5 refine vo ?_
              refine voc (c_impl_FlushHeld_r hr1) rfl rfl ?_
              iterate 7 refine vo ?_
              refine vnt ?_
              refine vc_sr ?_
              refine vo ?_
              refine voc c_impl_Single rfl rfl ?_
              iterate 2 refine vo ?_
              refine vnt ?_
              refine vc_sr ?_
              iterate 2 refine vo ?_
              refine vnt ?_
              refine vc_seq' ?_
              refine vc_sr ?_
              iterate 2 refine vo ?_
              refine vnt ?_
              refine vc_if (fun g7 => ?_) (fun g7 => ?_)
              · rw [g4] at g7; cases g7
              · refine vc_skip ?_
                refine thn ?_
                refine vc_sr ?_
                iterate 4 refine vo ?_
                refine vnt ?_
                refine vc_ret ?_
                obtain rfl : r = (r1.1, ⟨r1.2.rb, r1.2.rs, r1.2.rh, r1.2.rt, r1.2.db, r1.2.ds, r1.2.dc, r1.2.vb, r1.2.vs, r1.2.vc, dm2, sm2, vl2, tos2, id2, ttl2, si2, di2, kind2, sp2, dp2, seq2, ack2, fl2, win2, body2, (body2.size : Int), 1, true, r1.2.dropped⟩) := hr.symm.trans (rp_one hr1 g1 pq hk g4 (by rw [g5, g6]; rfl))
                refine fin_i [(0, some 472)] rfl (fz ?_) (fz ?_) <;> first | trivial | rfl | simp
          · iterate 4 refine vof ?_
            refine vo ?_
            refine vnt ?_
            refine vc_else ?_
            refine vc_skip ?_
            refine thn ?_
            refine vc_sr ?_
            iterate 5 refine vo ?_
            refine voc (c_impl_FlushHeld_r hr1) rfl rfl ?_
            iterate 7 refine vo ?_
            refine vnt ?_
            refine vc_sr ?_
            refine vo ?_
            refine voc c_impl_Single rfl rfl ?_
            iterate 2 refine vo ?_
            refine vnt ?_
            refine vc_sr ?_
            iterate 2 refine vo ?_
            refine vnt ?_
            refine vc_seq' ?_
            refine vc_sr ?_
            iterate 2 refine vo ?_
            refine vnt ?_
            refine vc_if (fun g8 => ?_) (fun g8 => ?_)
            · rw [g4] at g8; cases g8
            · refine vc_skip ?_
              refine thn ?_
              refine vc_sr ?_
              iterate 4 refine vo ?_
              refine vnt ?_
              refine vc_ret ?_
              obtain rfl : r = (r1.1, ⟨r1.2.rb, r1.2.rs, r1.2.rh, r1.2.rt, r1.2.db, r1.2.ds, r1.2.dc, r1.2.vb, r1.2.vs, r1.2.vc, dm2, sm2, vl2, tos2, id2, ttl2, si2, di2, kind2, sp2, dp2, seq2, ack2, fl2, win2, body2, (body2.size : Int), 1, true, r1.2.dropped⟩) := hr.symm.trans (rp_one hr1 g1 pq hk g4 (by rw [g5]; rfl))
              refine fin_i [(0, some 472)] rfl (fz ?_) (fz ?_) <;> first | trivial | rfl | simp
        · iterate 2 refine vof ?_
          iterate 2 refine vo ?_
          iterate 4 refine vof ?_
          refine vo ?_
          refine vnt ?_
          refine vc_else ?_
          refine vc_skip ?_
          refine thn ?_
          refine vc_sr ?_
          iterate 5 refine vo ?_
          refine voc (c_impl_FlushHeld_r hr1) rfl rfl ?_
          iterate 7 refine vo ?_
          refine vnt ?_
          refine vc_sr ?_
          refine vo ?_
          refine voc c_impl_Single rfl rfl ?_
          iterate 2 refine vo ?_
          refine vnt ?_
          refine vc_sr ?_
          iterate 2 refine vo ?_
          refine vnt ?_
          refine vc_seq' ?_
          refine vc_sr ?_
          iterate 2 refine vo ?_
          refine vnt ?_
          refine vc_if (fun g9 => ?_) (fun g9 => ?_)
          · refine vc_region ?_
            iterate 5 refine vo ?_
            refine voc (c_impl_FlushHeld_r hr2) rfl rfl ?_
            iterate 5 refine vo ?_
            refine vnt ?_
            refine vc_sr ?_
            iterate 4 refine vo ?_
            refine vnt ?_
            refine vc_ret ?_
            obtain rfl : r = r2 := hr.symm.trans ((rp_two hr1 g1 pq hk g4).trans hr2)
            refine fin_i [(0, some 592)] rfl (fz ?_) (fz ?_) <;> first | trivial | rfl | simp
          · rw [g4] at g9; cases g9
end Go.Proofs.YtfcmcedeapgdcaaGreat
end
section
namespace Go.Proofs.YtfcmcedeapgdcaaGreat
open Go Go.RowKit Go.Vc
set_option linter.unusedVariables false
set_option linter.unusedSimpArgs false
set_option linter.unnecessarySimpa false
def L16 : List Mp := (List.range 16).map fun v : Nat => ((0 : Int), (v : Int), 15 - (v : Int), true)
theorem L16_len : L16.length = 16 := by simp [L16]
theorem L16_ok : mapsOk L16 = true := by decide +kernel
theorem L16_at {i : Nat} (h : i < L16.length) : L16[i] = ((0 : Int), (i : Int), 15 - (i : Int), true) := by simp [L16]
theorem L16_page {v : Int} (wr : Bool) (h0 : 0 ≤ v) (h1 : v < 16) : mpPage L16 0 v wr = 15 - v := by
  obtain ⟨i, rfl⟩ := Int.eq_ofNat_of_zero_le h0
  have hi : i < L16.length := by rw [L16_len]; omega
  have e := L16_at hi
  rw [mpPage_at hi (fun j g => hit_no.2 fun q => by rw [L16_at] at q; simp only at q; omega) (hit_iff.2 ⟨by rw [e], by rw [e]⟩), e]
  simp
theorem L16_t (wr : Bool) : Turned 16 16 L16 0 wr := ⟨L16_ok, Nat.le_refl _, fun v h0 h1 => by rw [L16_page wr h0 (by omega)]; rfl⟩
structure Dl where
  (k n size count hash : Int)
  (im : ByteArray)
instance : Inhabited Dl := ⟨⟨0, 0, 0, 0, 0, ⟨#[]⟩⟩⟩
structure RI (ps : Pg) (h t dc vc : Int) (E : List Int) (D : List Dl) (fr : List Int) : Prop where
  mem : MemOk ps
  len : ps.length = 16
  ring : ringOkB 0 4 h t = true
  used : usedF 4 h t = E.length
  sl : ∀ j : Nat, j < E.length → fs 16 ps ((h + j) % 4 * 16) 16 = encD 3 0 384 (256 + at' E j * 384) 0 (at' E j)
  cnt : 0 ≤ vc ∧ vc ≤ 7
  dcq : dc = (vc + D.length) % 8
  cmp : ∀ j : Nat, j < D.length → fs 16 ps (128 + (vc + j) % 4 * 16) 16 = encC (at' D j).k (at' D j).n (at' D j).size (at' D j).count (at' D j).hash (phaseC 4 ((vc + j) % 8))
  emp : ∀ j : Nat, D.length ≤ j → j < 4 → ¬ get32 (fs 16 ps (128 + (vc + j) % 4 * 16) 16) 12 = phaseC 4 ((vc + j) % 8)
  img : ∀ c ∈ D, completionOkB c.k c.n c.size c.count c.hash = true ∧ c.n = c.im.size ∧ c.im.size ≤ 384 ∧ fs 16 ps (256 + c.k * 384) c.im.size = c.im
  perm : poolB 256 384 4 (fr ++ (E ++ D.map (·.k))) = true
  tot : fr.length + (E.length + D.length) = 4
theorem pool4_iff {fr : List Int} : poolB 256 384 4 fr = true ↔ (∀ k ∈ fr, 0 ≤ k ∧ k ≤ 3) ∧ fr.Pairwise (· ≠ ·) := by
  unfold poolB
  simp only [Bool.and_eq_true, decide_eq_true_eq, List.all_eq_true, inB_iff]
  constructor
  · rintro ⟨⟨_, h1⟩, h2⟩
    exact ⟨fun k hk => by have := h1 k hk; omega, h2⟩
  · rintro ⟨h1, h2⟩
    exact ⟨⟨by decide, fun k hk => by have := h1 k hk; omega⟩, h2⟩
theorem pool4_perm {a b : List Int} (h : a.Perm b) (k : poolB 256 384 4 a = true) : poolB 256 384 4 b = true := by
  rw [pool4_iff] at *
  exact ⟨fun x hx => k.1 x (h.symm.subset hx), (h.pairwise_iff (fun {x y} hxy => hxy.symm)).1 k.2⟩
theorem encC_sz {a b c d e p : Int} (h : completionOkB a b c d e = true) (hp : 0 ≤ p ∧ p ≤ 1) : (encC a b c d e p).size = 16 := by
  obtain ⟨h1, h2, h3, h4, h5⟩ := cok_in h
  unfold encC
  simp only [ByteArray.size_append, word16_size h1, word16_size h2, word16_size h3, word16_size h4, word32_size h5, word32_size (inB_iff.2 (show 0 ≤ p ∧ p ≤ 4294967295 by omega))]
theorem desc_ok {k : Int} (h : 0 ≤ k ∧ k ≤ 3) : dOk (3, 0, 384, 256 + k * 384, 0, k) = true := show descB 3 0 384 (256 + k * 384) 0 k = true from descB_iff.2 ⟨by decide, by decide, by decide, by decide, by omega, by omega⟩
theorem RI.bd {ps : Pg} {h t dc vc : Int} {E : List Int} {D : List Dl} {fr : List Int} (R : RI ps h t dc vc E D fr) : (∀ k ∈ E, 0 ≤ k ∧ k ≤ 3) ∧ (∀ c ∈ D, 0 ≤ c.k ∧ c.k ≤ 3) ∧ (∀ k ∈ fr, 0 ≤ k ∧ k ≤ 3) := by
  have h1 := (pool4_iff.1 R.perm).1
  refine ⟨fun k hk => h1 k (List.mem_append_right _ (List.mem_append_left _ hk)), fun c hc => h1 _ (List.mem_append_right _ (List.mem_append_right _ (List.mem_map_of_mem hc))), fun k hk => h1 k (List.mem_append_left _ hk)⟩
theorem ri_take {ps : Pg} {h t dc vc k : Int} {E : List Int} {D : List Dl} {fr : List Int} (R : RI ps h t dc vc (k :: E) D fr) : rtakeF L16 ps 0 0 4 h t = (encD 3 0 384 (256 + k * 384) 0 k, rnext 4 h, true) := by
  obtain ⟨hs, b0, b1, s0, s1, h0, h1, t0, t1, u1, u0⟩ := ringOk_facts R.ring
  have hu := R.used
  simp only [List.length_cons] at hu
  have hsl := R.sl 0 (by simp)
  have e0 : at' (k :: E) 0 = k := rfl
  rw [e0, show ((0 : Nat) : Int) = 0 from rfl, Int.add_zero] at hsl
  have hr : rslot 0 4 h = h % 4 * 16 := by unfold rslot; omega
  have hd := dmaR_fs (a := rslot 0 4 h) (n := 16) (L16_t false) R.mem R.len (by rw [hr]; omega) (by decide) (by decide) (by rw [hr]; omega)
  rw [rt_y R.ring (by omega) (by rw [hd]), hd]
  simp only
  rw [hr, show Int.toNat 16 = 16 from rfl, hsl]
set_option maxHeartbeats 1000000 in
/-- An image is stored and told of. -/
theorem ri_store {ps : Pg} {h t dc vc k : Int} {E : List Int} {D : List Dl} {fr : List Int} (R : RI ps h t dc vc (k :: E) D fr) {im : ByteArray} {size count hash : Int} (him : im.size ≤ 384) (hc : completionOkB k im.size size count hash = true) :
    ∃ q1 qs, dmaWF L16 ps 0 (256 + k * 384) im true = (q1, true) ∧ putC L16 q1 0 128 4 dc k im.size size count hash = (qs, nextC 4 dc, true) ∧ RI qs (rnext 4 h) t (nextC 4 dc) vc E (D ++ [⟨k, im.size, size, count, hash, im⟩]) fr := by
  obtain ⟨hs, b0, b1, s0, s1, h0, h1, t0, t1, u1, u0⟩ := ringOk_facts R.ring
  obtain ⟨bE, bD, bF⟩ := R.bd
  have hk := bE k (List.mem_cons_self ..)
  have hv := R.cnt
  have htot := R.tot
  have hdc := R.dcq
  have hu := R.used
  simp only [List.length_cons] at hu htot
  obtain ⟨q1, w1, w2, w3, w4⟩ := dmaW_fb (a := 256 + k * 384) (s := im) (L16_t true) R.mem R.len (by omega) (by omega) (by omega)
  have hph := phaseC_bd 4 dc
  have hez := encC_sz (p := phaseC 4 dc) hc hph
  have hqok : queueOkB 128 4 dc = true := by
    unfold queueOkB
    simp only [Bool.and_eq_true, inB_iff]
    first | exact ⟨⟨by decide, by decide⟩, by omega, by omega⟩ | exact ⟨by decide, by decide, by omega, by omega⟩ | (refine ⟨⟨by omega, ?_⟩, by omega⟩; rfl)
  have hsc : slotC 128 4 dc = 128 + dc % 4 * 16 := rfl
  obtain ⟨qs, v1, v2, v3, v4⟩ := dmaW_fb (a := slotC 128 4 dc) (s := encC k im.size size count hash (phaseC 4 dc)) (L16_t true) w2 w3 (by rw [hsc]; omega) (by omega) (by rw [hsc]; omega)
  refine ⟨q1, qs, w1, by unfold putC; rw [if_pos hqok, if_pos hc, v1], ?_⟩
  rw [hsc] at v4
  have dcm : dc % 4 = (vc + D.length) % 4 := by omega
  -- what lies apart from both
  have off : ∀ (a : Int) (n : Nat), 0 ≤ a → a + n ≤ 2048 → (a + n ≤ 256 + k * 384 ∨ 256 + k * 384 + im.size ≤ a) → (a + n ≤ 128 + dc % 4 * 16 ∨ 128 + dc % 4 * 16 + 16 ≤ a) → fs 16 qs a n = fs 16 ps a n := fun a n a0 a1 o1 o2 => by
    rw [fs_off v4 a0 (by omega) (by rw [hez]; exact o2), fs_off w4 a0 (by omega) o1]
  obtain ⟨n1, n2⟩ : ringOkB 0 4 (rnext 4 h) t = true ∧ usedF 4 (rnext 4 h) t = usedF 4 h t - 1 := by
    have := pos_ok (s := 4) (i := 1) R.ring (by omega)
    have e : pos 4 h 1 = rnext 4 h := rfl
    rw [e] at this
    exact this
  have hn : (D ++ [(⟨k, im.size, size, count, hash, im⟩ : Dl)]).length = D.length + 1 := by simp
  have atO : ∀ j, j < D.length → at' (D ++ [(⟨k, im.size, size, count, hash, im⟩ : Dl)]) j = at' D j := fun j hj => by rw [atp_eq (by rw [hn]; omega), List.getElem_append_left hj, atp_eq hj]
  have atN : at' (D ++ [(⟨k, im.size, size, count, hash, im⟩ : Dl)]) D.length = ⟨k, im.size, size, count, hash, im⟩ := by rw [atp_eq (by rw [hn]; omega), List.getElem_append_right (Nat.le_refl _)]; simp
  have hpw := (pool4_iff.1 R.perm).2
  have hkD : ∀ c ∈ D, c.k ≠ k := fun c hc' e => by
    have h2 := (List.pairwise_append.1 (List.pairwise_append.1 hpw).2.1).2.2 k (List.mem_cons_self ..) c.k (List.mem_map_of_mem hc')
    exact h2 e.symm
  exact {
    mem := v2
    len := v3
    ring := n1
    used := by rw [n2]; omega
    sl := fun j hj => by
      have e : (rnext 4 h + (j : Int)) % 4 = (h + ((j + 1 : Nat) : Int)) % 4 := by unfold rnext; omega
      have e2 : at' (k :: E) (j + 1) = at' E j := rfl
      have := R.sl (j + 1) (by simp; exact hj)
      rw [e2] at this
      rw [e, ← this]
      exact off _ 16 (by omega) (by omega) (by omega) (by omega)
    cnt := hv
    dcq := by rw [hn]; unfold nextC; omega
    cmp := fun j hj => by
      rw [hn] at hj
      rcases (show j < D.length ∨ j = D.length by omega) with hj | hj
      · rw [atO j hj, ← R.cmp j hj]
        exact off _ 16 (by omega) (by omega) (by omega) (by omega)
      · subst hj
        rw [atN, ← dcm, ← hdc]
        have := fs_here v4 (by omega) (by rw [hez]; omega)
        rw [hez] at this
        exact this
    emp := fun j h4 hj4 => by
      rw [hn] at h4
      have := R.emp j (by omega) hj4
      rw [off (128 + (vc + j) % 4 * 16) 16 (by omega) (by omega) (by omega) (by omega)]
      exact this
    img := fun c hc' => by
      rcases List.mem_append.1 hc' with h | h
      · obtain ⟨i1, i2, i3, i4⟩ := R.img c h
        have hck := bD c h
        have hne := hkD c h
        refine ⟨i1, i2, i3, ?_⟩
        rw [off (256 + c.k * 384) c.im.size (by omega) (by omega) (by omega) (by omega)]
        exact i4
      · rw [List.mem_singleton.1 h]
        refine ⟨hc, rfl, him, ?_⟩
        show fs 16 qs (256 + k * 384) im.size = im
        rw [fs_off v4 (by omega) (by omega) (by rw [hez]; omega)]
        exact fs_here w4 (by omega) (by omega)
    perm := by
      refine pool4_perm ?_ R.perm
      refine List.Perm.append_left _ ?_
      rw [List.map_append]
      show (k :: E ++ D.map (·.k)).Perm (E ++ (D.map (·.k) ++ [k]))
      rw [← List.append_assoc]
      exact (List.perm_append_singleton k _).symm
    tot := by rw [hn]; omega }
end Go.Proofs.YtfcmcedeapgdcaaGreat
end
section
namespace Go.Proofs.YtfcmcedeapgdcaaGreat
open Go Go.RowKit Go.Vc
set_option linter.unusedVariables false
set_option linter.unusedSimpArgs false
set_option linter.unnecessarySimpa false
theorem xor_u32 {a b : Int} (ha : 0 ≤ a ∧ a ≤ 4294967295) (hb : 0 ≤ b ∧ b ≤ 4294967295) : 0 ≤ xorI a b ∧ xorI a b ≤ 4294967295 := by
  obtain ⟨m, rfl⟩ := Int.eq_ofNat_of_zero_le ha.1
  obtain ⟨n, rfl⟩ := Int.eq_ofNat_of_zero_le hb.1
  have hx : m ^^^ n < 2 ^ 32 := Nat.xor_lt_two_pow (by omega) (by omega)
  have e : xorI (m : Int) (n : Int) = ((m ^^^ n : Nat) : Int) := by
    show IntKind.i64.wrap (((BitVec.ofInt 64 (m : Int)) ^^^ (BitVec.ofInt 64 (n : Int))).toNat : Int) = _
    rw [BitVec.ofInt_natCast, BitVec.ofInt_natCast, BitVec.toNat_xor, BitVec.toNat_ofNat, BitVec.toNat_ofNat, Nat.mod_eq_of_lt (show m < 2 ^ 64 by omega), Nat.mod_eq_of_lt (show n < 2 ^ 64 by omega)]
    exact IntWalk.i64_in _ (by omega)
  rw [e]; omega
theorem hash_u32 (key x : ByteArray) : ∀ n, 0 ≤ hashF key x n ∧ hashF key x n ≤ 4294967295
  | 0 => by simp [hashF]
  | n + 1 => by
    have ih := hash_u32 key x n
    unfold hashF
    split
    · have := kwF_lt key n 32
      exact xor_u32 ih (by omega)
    · exact ih
theorem im_384 {p : Pk} (h : p.sup = true) : p.im.size ≤ 384 := by
  have h' : superOkB p.dm p.sm p.vl p.tos p.id p.ttl p.si p.di p.kind p.sp p.dp p.seq p.ack p.fl p.win p.body.size = true := h
  obtain ⟨h1, h2, h3, h4, h5, h6, h7, h8, h9, h10⟩ := superOk_facts h'
  have a1 := segR_le p.si p.di p.kind p.sp p.dp p.seq p.ack p.fl p.win p.body
  have a2 := ipR_le p.tos p.id p.ttl p.kind p.si p.di (segR p.si p.di p.kind p.sp p.dp p.seq p.ack p.fl p.win p.body)
  have a3 := padF_le (ipR p.tos p.id p.ttl p.kind p.si p.di (segR p.si p.di p.kind p.sp p.dp p.seq p.ack p.fl p.win p.body))
  have e2 := (sup_img h').1
  unfold supC at e2
  rw [Bool.and_eq_true] at e2
  unfold Pk.im imgR
  rw [if_pos h', ethR, if_pos e2.2, ethF]
  have b1 := mac_le p.dm; have b2 := mac_le p.sm; have b3 := word16_le 33024; have b4 := word16_le p.vl; have b5 := word16_le 2048
  split <;> simp only [ByteArray.size_append] <;> omega
def Rx.hp (q : Rx) : Pk := ⟨q.dm, q.sm, q.vl, q.tos, q.id, q.ttl, q.si, q.di, q.kind, q.sp, q.dp, q.seq, q.ack, q.fl, q.win, q.body⟩
def Rx.ok (q : Rx) : Bool := rxOkB q.rb q.rs q.rh q.rt q.db q.ds q.dc q.vb q.vs q.vc q.dm q.sm q.vl q.tos q.id q.ttl q.si q.di q.kind q.sp q.dp q.seq q.ack q.fl q.win q.body q.size q.count q.hold q.dropped
def Rx.fo (q : Rx) (key : ByteArray) : Bool := fhOk q.rb q.rs q.rh q.rt q.db q.ds q.dc q.vb q.vs q.vc q.dm q.sm q.vl q.tos q.id q.ttl q.si q.di q.kind q.sp q.dp q.seq q.ack q.fl q.win q.body q.size q.count q.hold q.dropped key
def Rx.fg (q : Rx) (l : List Mp) (ps : Pg) (d : Int) (key : ByteArray) : Bool := fhG l ps d q.rb q.rs q.rh q.rt q.db q.ds q.dc q.vb q.vs q.vc q.dm q.sm q.vl q.tos q.id q.ttl q.si q.di q.kind q.sp q.dp q.seq q.ack q.fl q.win q.body q.size q.count q.hold q.dropped key
def Rx.stq (q : Rx) (l : List Mp) (ps : Pg) (d : Int) (key : ByteArray) : Pg × Int × Bool := stF l ps d q.db q.ds q.dc q.dm q.sm q.vl q.tos q.id q.ttl q.si q.di q.kind q.sp q.dp q.seq q.ack q.fl q.win q.body q.size q.count key (rtakeF l ps d q.rb q.rs q.rh q.rt).1
def Rx.emp (q : Rx) (h dc dr : Int) : Rx := ⟨q.rb, q.rs, h, q.rt, q.db, q.ds, dc, q.vb, q.vs, q.vc, 0, 0, 0, 0, 0, 0, 0, 0, 0, 0, 0, 0, 0, 0, 0, ⟨#[]⟩, 0, 0, false, dr⟩
theorem fhq_no {l : List Mp} {ps : Pg} {d : Int} {q : Rx} {key : ByteArray} (h : q.fo key = false) : fhF l ps d q key = (ps, q) := by
  have hg : q.fg l ps d key = false := by
    show (q.fo key && _) = false
    rw [h]; rfl
  unfold Rx.fo at h
  unfold Rx.fg at hg
  unfold fhF
  rw [hg, h]
  rfl
theorem fh_y {l : List Mp} {ps : Pg} {d : Int} {q : Rx} {key : ByteArray} (h : q.fo key = true) (h2 : (rtakeF l ps d q.rb q.rs q.rh q.rt).2.2 = true) (h3 : (q.stq l ps d key).2.2 = true) : fhF l ps d q key = ((q.stq l ps d key).1, q.emp (rtakeF l ps d q.rb q.rs q.rh q.rt).2.1 (q.stq l ps d key).2.1 q.dropped) := by
  have hg : q.fg l ps d key = true := by
    show (q.fo key && ((rtakeF l ps d q.rb q.rs q.rh q.rt).2.2 && (q.stq l ps d key).2.2)) = true
    rw [h, h2, h3]; rfl
  unfold Rx.fo at h
  unfold Rx.fg at hg
  unfold fhF
  rw [hg, h]
  rfl
theorem fh_n {l : List Mp} {ps : Pg} {d : Int} {q : Rx} {key : ByteArray} (h : q.fo key = true) (h2 : (rtakeF l ps d q.rb q.rs q.rh q.rt).2.2 = false) : fhF l ps d q key = (ps, q.emp (rtakeF l ps d q.rb q.rs q.rh q.rt).2.1 q.dc (q.dropped + q.count)) := by
  have hg : q.fg l ps d key = false := by
    show (q.fo key && ((rtakeF l ps d q.rb q.rs q.rh q.rt).2.2 && (q.stq l ps d key).2.2)) = false
    rw [h2]; simp
  unfold Rx.fo at h
  unfold Rx.fg at hg
  unfold fhF
  rw [hg, h]
  rfl
structure Rx.at (q : Rx) (h t dc vc : Int) : Prop where
  rb : q.rb = 0
  rs : q.rs = 4
  rh : q.rh = h
  rt : q.rt = t
  db : q.db = 128
  ds : q.ds = 4
  dc' : q.dc = dc
  vb : q.vb = 128
  vs : q.vs = 4
  vc' : q.vc = vc
structure Rx.held (q : Rx) : Prop where
  sup : q.hp.sup = true
  size : 0 ≤ q.size ∧ q.size ≤ 320
  count : 1 ≤ q.count ∧ q.count ≤ 320
def Rx.bare (q : Rx) : Prop := noHeld q.dm q.sm q.vl q.tos q.id q.ttl q.si q.di q.kind q.sp q.dp q.seq q.ack q.fl q.win q.body q.size q.count = true
theorem q4_ok {c : Int} (h : 0 ≤ c ∧ c ≤ 7) : queueOkB 128 4 c = true := by
  unfold queueOkB
  simp only [Bool.and_eq_true, inB_iff]
  first | exact ⟨⟨by decide, by decide⟩, by omega, by omega⟩ | exact ⟨by decide, by decide, by omega, by omega⟩ | (refine ⟨⟨by omega, ?_⟩, by omega⟩; rfl)
theorem rx_ok {ps : Pg} {h t dc vc : Int} {E : List Int} {D : List Dl} {fr : List Int} {q : Rx} (R : RI ps h t dc vc E D fr) (A : q.at h t dc vc) (hd : 0 ≤ q.dropped ∧ q.dropped ≤ 1000000000000) (hh : if q.hold then q.held else q.bare) : q.ok = true := by
  have hv := R.cnt
  have hdc := R.dcq
  have h1 : ringOkB q.rb q.rs q.rh q.rt = true := by rw [A.rb, A.rs, A.rh, A.rt]; exact R.ring
  have h2 : queueOkB q.db q.ds q.dc = true := by rw [A.db, A.ds, A.dc']; exact q4_ok (by omega)
  have h3 : queueOkB q.vb q.vs q.vc = true := by rw [A.vb, A.vs, A.vc']; exact q4_ok (by omega)
  have h4 : q.db = q.vb := by rw [A.db, A.vb]
  have h5 : q.ds = q.vs := by rw [A.ds, A.vs]
  unfold Rx.ok rxOkB
  rw [h1, h2, h3, decide_eq_true h4, decide_eq_true h5, inB_iff.2 hd]
  simp only [Bool.true_and]
  cases hq : q.hold with
  | true =>
    rw [hq] at hh
    have hh : q.held := hh
    rw [if_pos rfl, inB_iff.2 hh.size, inB_iff.2 hh.count]
    have := hh.sup
    unfold Pk.sup at this
    show (superOkB _ _ _ _ _ _ _ _ _ _ _ _ _ _ _ _ && (true && true)) = true
    rw [show superOkB q.dm q.sm q.vl q.tos q.id q.ttl q.si q.di q.kind q.sp q.dp q.seq q.ack q.fl q.win q.body.size = true from this]; rfl
  | false =>
    rw [hq] at hh
    have hh : q.bare := hh
    rw [if_neg (by decide)]
    exact hh
set_option maxHeartbeats 1000000 in
/-- What is held goes to the next buffer, if there is one. -/
theorem fh_step {ps : Pg} {h t dc vc : Int} {E : List Int} {D : List Dl} {fr : List Int} {q : Rx} {key : ByteArray} (R : RI ps h t dc vc E D fr) (A : q.at h t dc vc) (hk : key.size = 16) (hd : 0 ≤ q.dropped ∧ q.dropped ≤ 1000000000000) (hh : q.hold = true) (hl : q.held) :
    ∃ qs h' dc' E' D' x, fhF L16 ps 0 q key = (qs, q.emp h' dc' (q.dropped + x)) ∧ RI qs h' t dc' vc E' D' fr ∧ (q.emp h' dc' (q.dropped + x)).at h' t dc' vc ∧
      ((E = [] ∧ E' = [] ∧ D' = D ∧ x = q.count) ∨ (∃ k z, E = k :: E' ∧ x = 0 ∧ D' = D ++ [⟨k, q.hp.im.size, q.size, q.count, z, q.hp.im⟩])) := by
  have hok := rx_ok R A hd (by rw [hh]; exact hl)
  have hfo : q.fo key = true := by
    show (q.ok && (q.hold && decide (key.size = 16))) = true
    rw [hok, hh, decide_eq_true hk]; rfl
  cases E with
  | nil =>
    have hu : usedF 4 h t = 0 := R.used
    have ht : rtakeF L16 ps 0 q.rb q.rs q.rh q.rt = (⟨#[]⟩, h, false) := by
      rw [A.rb, A.rs, A.rh, A.rt]
      exact rt_n (.inr (.inl hu))
    refine ⟨ps, h, dc, [], D, q.count, ?_, R, ⟨A.rb, A.rs, rfl, A.rt, A.db, A.ds, rfl, A.vb, A.vs, A.vc'⟩, .inl ⟨rfl, rfl, rfl, rfl⟩⟩
    rw [fh_n hfo (by rw [ht]), ht, A.dc']
  | cons k E =>
    have hkb := R.bd.1 k (List.mem_cons_self ..)
    have ht : rtakeF L16 ps 0 q.rb q.rs q.rh q.rt = (encD 3 0 384 (256 + k * 384) 0 k, rnext 4 h, true) := by
      rw [A.rb, A.rs, A.rh, A.rt]
      exact ri_take R
    have him := im_384 hl.sup
    have hc : completionOkB k q.hp.im.size q.size q.count (hflF key q.si q.di q.sp q.dp) = true := by
      have := hash_u32 key (hinF q.si q.di q.sp q.dp) (8 * (hinF q.si q.di q.sp q.dp).size)
      unfold completionOkB
      have a1 := hl.size; have a2 := hl.count
      simp only [Bool.and_eq_true, inB_iff]
      refine ⟨⟨⟨⟨?_, ?_⟩, ?_⟩, ?_⟩, this⟩ <;> omega
    obtain ⟨q1, qs, s1, s2, s3⟩ := ri_store R him hc
    have hen : encT (3, 0, 384, 256 + k * 384, 0, k) = encD 3 0 384 (256 + k * 384) 0 k := rfl
    have hdec : decDF (encD 3 0 384 (256 + k * 384) 0 k) = ((3, 0, 384, 256 + k * 384, 0, k), true) := by rw [← hen]; exact dec_enc (desc_ok hkb)
    have hst : q.stq L16 ps 0 key = (qs, nextC 4 dc, true) := by
      unfold Rx.stq
      rw [ht]
      simp only
      have e := st_y (l := L16) (ps := ps) (d := 0) (db := q.db) (ds := q.ds) (dc := q.dc) (dm := q.dm) (sm := q.sm) (vl := q.vl) (tos := q.tos) (id := q.id) (ttl := q.ttl) (si := q.si) (di := q.di) (kind := q.kind) (sp := q.sp) (dp := q.dp) (seq := q.seq) (ack := q.ack) (fl := q.fl) (win := q.win) (size := q.size) (count := q.count) (body := q.body) (key := key) (entry := encD 3 0 384 (256 + k * 384) 0 k) (by rw [hdec]) (by rw [hdec]) (by rw [hdec]; show ((q.hp.im.size : Nat) : Int) ≤ 384; omega) (by rw [hdec]; show (dmaWF L16 ps 0 (256 + k * 384) q.hp.im true).2 = true; rw [s1])
      rw [e, hdec]
      show putC L16 (dmaWF L16 ps 0 (256 + k * 384) q.hp.im true).1 0 q.db q.ds q.dc k q.hp.im.size q.size q.count _ = _
      rw [s1, A.db, A.ds, A.dc']
      exact s2
    refine ⟨qs, rnext 4 h, nextC 4 dc, E, _, 0, ?_, s3, ⟨A.rb, A.rs, rfl, A.rt, A.db, A.ds, rfl, A.vb, A.vs, A.vc'⟩, .inr ⟨k, _, rfl, rfl, rfl⟩⟩
    rw [fh_y hfo (by rw [ht]) (by rw [hst]), ht, hst, Int.add_zero]
end Go.Proofs.YtfcmcedeapgdcaaGreat
end
section
namespace Go.Proofs.YtfcmcedeapgdcaaGreat
open Go Go.RowKit Go.Vc
set_option linter.unusedVariables false
set_option linter.unusedSimpArgs false
set_option linter.unnecessarySimpa false
def Rx.join (q : Rx) (p : Pk) : Rx := ⟨q.rb, q.rs, q.rh, q.rt, q.db, q.ds, q.dc, q.vb, q.vs, q.vc, q.dm, q.sm, q.vl, q.tos, q.id, q.ttl, q.si, q.di, q.kind, q.sp, q.dp, q.seq, q.ack, p.fl, q.win, (q.body ++ p.body), q.size, (q.count + 1), q.hold, q.dropped⟩
def Rx.take (q : Rx) (p : Pk) : Rx := ⟨q.rb, q.rs, q.rh, q.rt, q.db, q.ds, q.dc, q.vb, q.vs, q.vc, p.dm, p.sm, p.vl, p.tos, p.id, p.ttl, p.si, p.di, p.kind, p.sp, p.dp, p.seq, p.ack, p.fl, p.win, p.body, (p.body.size : Int), 1, true, q.dropped⟩
def Rx.cj (q : Rx) (p : Pk) : Bool := cjB q.dm q.sm q.vl q.tos q.id q.ttl q.si q.di q.kind q.sp q.dp q.seq q.ack q.fl q.win q.body q.size q.count p.dm p.sm p.vl p.tos p.id p.ttl p.si p.di p.kind p.sp p.dp p.seq p.ack p.fl p.win p.body
def rp (ps : Pg) (q : Rx) (key : ByteArray) (p : Pk) (coal : Bool) : Pg × Rx := rpF L16 ps 0 q key p.dm p.sm p.vl p.tos p.id p.ttl p.si p.di p.kind p.sp p.dp p.seq p.ack p.fl p.win p.body coal
theorem pk_ok2 {p : Pk} (h : p.ok = true) : (superOkB p.dm p.sm p.vl p.tos p.id p.ttl p.si p.di p.kind p.sp p.dp p.seq p.ack p.fl p.win p.body.size && decide (p.body.size ≤ 128)) = true := h
theorem rp_j {ps : Pg} {q : Rx} {key : ByteArray} {p : Pk} {coal : Bool} (h1 : q.ok = true) (h2 : p.ok = true) (h3 : key.size = 16) (h4 : coal = true) (h5 : q.hold = true) (h6 : q.cj p = true) : rp ps q key p coal = (ps, q.join p) := by
  unfold rp rpF
  unfold Rx.ok at h1
  unfold Rx.cj at h6
  rw [if_pos ⟨h1, pk_ok2 h2, h3⟩, if_pos (by rw [h4, h5, h6]; rfl)]
  rfl
theorem rp_1 {ps : Pg} {q : Rx} {key : ByteArray} {p : Pk} {coal : Bool} {r1 : Pg × Rx} (hr : fhF L16 ps 0 q key = r1) (h1 : q.ok = true) (h2 : p.ok = true) (h3 : key.size = 16) (h4 : coal = true) (h5 : (q.hold && q.cj p) = false) : rp ps q key p coal = (r1.1, r1.2.take p) := by
  subst hr
  unfold rp rpF
  unfold Rx.ok at h1
  unfold Rx.cj at h5
  rw [if_pos ⟨h1, pk_ok2 h2, h3⟩, if_neg (by rw [h4]; show ¬ (true && (q.hold && _)) = true; rw [h5]; decide), h4]
  rfl
theorem rp_2 {ps : Pg} {q : Rx} {key : ByteArray} {p : Pk} {coal : Bool} {r1 : Pg × Rx} (hr : fhF L16 ps 0 q key = r1) (h1 : q.ok = true) (h2 : p.ok = true) (h3 : key.size = 16) (h4 : coal = false) : rp ps q key p coal = fhF L16 r1.1 0 (r1.2.take p) key := by
  subst hr
  unfold rp rpF
  unfold Rx.ok at h1
  rw [if_pos ⟨h1, pk_ok2 h2, h3⟩, if_neg (by rw [h4]; exact Bool.false_ne_true), h4]
  rfl
def sumC (D : List Dl) : Int := (D.map (·.count)).sum
theorem sumC_app (D : List Dl) (c : Dl) : sumC (D ++ [c]) = sumC D + c.count := by unfold sumC; rw [List.map_append, List.sum_append]; simp
def Rx.hc (q : Rx) : Int := if q.hold then q.count else 0
def Rx.hb (q : Rx) : Prop := if q.hold then q.held else q.bare
theorem emp_hb (q : Rx) (h dc dr : Int) : (q.emp h dc dr).hb := by
  show noHeld 0 0 0 0 0 0 0 0 0 0 0 0 0 0 0 ⟨#[]⟩ 0 0 = true
  decide
theorem take_held (q : Rx) {p : Pk} (h : p.ok = true) : (q.take p).held := by
  have h' : (p.sup && decide (p.body.size ≤ 128)) = true := h
  rw [Bool.and_eq_true, decide_eq_true_eq] at h'
  exact ⟨h'.1, ⟨by show (0 : Int) ≤ p.body.size; omega, by show (p.body.size : Int) ≤ 320; omega⟩, ⟨Int.le_refl _, by show (1 : Int) ≤ 320; decide⟩⟩
theorem join_held {q : Rx} {p : Pk} (h : q.held) (hj : q.cj p = true) : (q.join p).held := by
  unfold Rx.cj cjB at hj
  simp only [Bool.and_eq_true, decide_eq_true_eq, inB_iff] at hj
  obtain ⟨j1, ⟨j2, j2b⟩, j3, j4, j5, j6, j7, j8, j9, j10, j11, j12, j13⟩ := hj
  have hq := h.size
  have hcn := h.count
  have hmul : q.count ≤ q.size * q.count := by
    have := Int.mul_le_mul_of_nonneg_right (show 1 ≤ q.size by omega) (show 0 ≤ q.count by omega)
    rwa [Int.one_mul] at this
  refine ⟨?_, hq, ⟨by show 1 ≤ q.count + 1; omega, by show q.count + 1 ≤ 320; omega⟩⟩
  show superOkB q.dm q.sm q.vl q.tos q.id q.ttl q.si q.di q.kind q.sp q.dp q.seq q.ack p.fl q.win (q.body ++ p.body).size = true
  have hk : q.kind = 6 := by
    unfold samB at j3
    simp only [Bool.and_eq_true, decide_eq_true_eq] at j3
    omega
  have hfl := (sup_rng j2).2.2
  unfold superOkB segOkB at j1 ⊢
  simp only [Bool.and_eq_true, Bool.or_eq_true, inB_iff, Bool.not_eq_true', decide_eq_false_iff_not, beq_iff_eq] at j1 ⊢
  obtain ⟨a1, a2, a3, a4, a5, a6, a7, a8, ⟨⟨⟨b1, b2⟩, b3⟩, b4⟩, a9⟩ := j1
  rw [ByteArray.size_append]
  refine ⟨a1, a2, a3, a4, a5, a6, a7, a8, ⟨⟨⟨b1, b2⟩, by omega⟩, ?_⟩, .inr ⟨hk, j6⟩⟩
  rcases b4 with ⟨c1, c2, c3, c4, c5⟩ | ⟨c1, _⟩
  · exact .inl ⟨c1, c2, c3, hfl, c5⟩
  · rw [hk] at c1; exact absurd c1 (by decide)
theorem hold_true {q : Rx} (h : q.hold = true) : q.hc = q.count := by unfold Rx.hc; rw [h, if_pos rfl]
theorem hold_false {q : Rx} (h : q.hold = false) : q.hc = 0 := by unfold Rx.hc; rw [h, if_neg (by decide)]
end Go.Proofs.YtfcmcedeapgdcaaGreat
end
section
namespace Go.Proofs.YtfcmcedeapgdcaaGreat
open Go Go.RowKit Go.Vc
set_option linter.unusedVariables false
set_option linter.unusedSimpArgs false
set_option linter.unnecessarySimpa false
theorem encC_get {a b c d e p : Int} (h : completionOkB a b c d e = true) (hp : 0 ≤ p ∧ p ≤ 1) : get16 (encC a b c d e p) 0 = a ∧ get16 (encC a b c d e p) 2 = b ∧ get16 (encC a b c d e p) 4 = c ∧ get16 (encC a b c d e p) 6 = d ∧ get32 (encC a b c d e p) 8 = e ∧ get32 (encC a b c d e p) 12 = p := by
  obtain ⟨h1, h2, h3, h4, h5⟩ := cok_in h
  have h6 : inB p 0 4294967295 = true := inB_iff.2 (by omega)
  have z1 := word16_size h1; have z2 := word16_size h2; have z3 := word16_size h3; have z4 := word16_size h4; have z5 := word32_size h5
  have e0 : encC a b c d e p = word16 a ++ word16 b ++ word16 c ++ word16 d ++ word32 e ++ word32 p := rfl
  refine ⟨g16m (i := 0) (a := ⟨#[]⟩) (r := word16 b ++ (word16 c ++ (word16 d ++ (word32 e ++ word32 p)))) (by rw [e0, ba_empty]; simp only [ByteArray.append_assoc]) h1 rfl,
    g16m (i := 2) (a := word16 a) (r := word16 c ++ (word16 d ++ (word32 e ++ word32 p))) (by rw [e0]; simp only [ByteArray.append_assoc]) h2 z1.symm,
    g16m (i := 4) (a := word16 a ++ word16 b) (r := word16 d ++ (word32 e ++ word32 p)) (by rw [e0]; simp only [ByteArray.append_assoc]) h3 (by simp only [ByteArray.size_append, z1, z2]),
    g16m (i := 6) (a := word16 a ++ word16 b ++ word16 c) (r := word32 e ++ word32 p) (by rw [e0]; simp only [ByteArray.append_assoc]) h4 (by simp only [ByteArray.size_append, z1, z2, z3]),
    g32m (i := 8) (a := word16 a ++ word16 b ++ word16 c ++ word16 d) (r := word32 p) (by rw [e0]) h5 (by simp only [ByteArray.size_append, z1, z2, z3, z4]),
    g32m (i := 12) (a := word16 a ++ word16 b ++ word16 c ++ word16 d ++ word32 e) (r := ⟨#[]⟩) (by rw [e0, ba_append_nil]) h6 (by simp only [ByteArray.size_append, z1, z2, z3, z4, z5])⟩
theorem nx_step {ps : Pg} {h t dc vc : Int} {E : List Int} {c : Dl} {D : List Dl} {fr : List Int} (R : RI ps h t dc vc E (c :: D) fr) : nextF L16 ps 0 128 4 vc = ((c.k, c.n, c.size, c.count, c.hash), nextC 4 vc, true) ∧ RI ps h t dc (nextC 4 vc) E D (fr ++ [c.k]) := by
  have hv := R.cnt
  have htot := R.tot
  have hdc := R.dcq
  simp only [List.length_cons] at htot hdc
  obtain ⟨i1, i2, i3, i4⟩ := R.img c (List.mem_cons_self ..)
  have hsl := R.cmp 0 (by simp)
  have e0 : at' (c :: D) 0 = c := rfl
  rw [e0, show ((0 : Nat) : Int) = 0 from rfl, Int.add_zero, show vc % 8 = vc by omega] at hsl
  have hph := phaseC_bd 4 vc
  obtain ⟨g1, g2, g3, g4, g5, g6⟩ := encC_get i1 hph
  have hsc : slotC 128 4 vc = 128 + vc % 4 * 16 := rfl
  have hd := dmaR_fs (a := slotC 128 4 vc) (n := 16) (L16_t false) R.mem R.len (by rw [hsc]; omega) (by decide) (by decide) (by rw [hsc]; omega)
  rw [hsc, show Int.toNat 16 = 16 from rfl, hsl] at hd
  refine ⟨?_, ?_⟩
  · unfold nextF
    rw [if_pos (q4_ok hv), hsc, hd]
    simp only
    rw [if_pos g6, g1, g2, g3, g4, g5]
  · exact {
      mem := R.mem
      len := R.len
      ring := R.ring
      used := R.used
      sl := R.sl
      cnt := by unfold nextC; omega
      dcq := by unfold nextC; omega
      cmp := fun j hj => by
        have := R.cmp (j + 1) (by simp; exact hj)
        have e1 : at' (c :: D) (j + 1) = at' D j := rfl
        rw [e1] at this
        rw [show (nextC 4 vc + (j : Int)) % 4 = (vc + ((j + 1 : Nat) : Int)) % 4 by unfold nextC; omega, show (nextC 4 vc + (j : Int)) % 8 = (vc + ((j + 1 : Nat) : Int)) % 8 by unfold nextC; omega]
        exact this
      emp := fun j h4 hj4 => by
        rw [show (nextC 4 vc + (j : Int)) % 4 = (vc + ((j + 1 : Nat) : Int)) % 4 by unfold nextC; omega, show (nextC 4 vc + (j : Int)) % 8 = (vc + ((j + 1 : Nat) : Int)) % 8 by unfold nextC; omega]
        by_cases hj3 : j + 1 < 4
        · exact R.emp (j + 1) (by simp; exact h4) hj3
        · have hj : j = 3 := by omega
          subst hj
          rw [show (vc + ((3 + 1 : Nat) : Int)) % 4 = vc % 4 by omega, hsl, g6]
          unfold phaseC
          split <;> split <;> omega
      img := fun x hx => R.img x (List.mem_cons_of_mem _ hx)
      perm := by
        refine pool4_perm ?_ R.perm
        rw [List.append_assoc]
        refine List.Perm.append_left _ ?_
        show (E ++ (c.k :: D.map (·.k))).Perm ([c.k] ++ (E ++ D.map (·.k)))
        exact List.perm_middle
      tot := by rw [List.length_append]; simp only [List.length_cons, List.length_nil]; omega }
theorem nx_end {ps : Pg} {h t dc vc : Int} {E : List Int} {fr : List Int} (R : RI ps h t dc vc E [] fr) : nextF L16 ps 0 128 4 vc = ((0, 0, 0, 0, 0), vc, false) ∧ dc = vc := by
  have hv := R.cnt
  have hdc := R.dcq
  simp only [List.length_nil] at hdc
  have hne := R.emp 0 (Nat.zero_le _) (by decide)
  rw [show ((0 : Nat) : Int) = 0 from rfl, Int.add_zero, show vc % 8 = vc by omega] at hne
  have hsc : slotC 128 4 vc = 128 + vc % 4 * 16 := rfl
  have hd := dmaR_fs (a := slotC 128 4 vc) (n := 16) (L16_t false) R.mem R.len (by rw [hsc]; omega) (by decide) (by decide) (by rw [hsc]; omega)
  rw [hsc, show Int.toNat 16 = 16 from rfl] at hd
  refine ⟨?_, by omega⟩
  unfold nextF
  rw [if_pos (q4_ok hv), hsc, hd]
  simp only
  rw [if_neg hne]
theorem ri_post {ps : Pg} {h t dc vc k : Int} {E : List Int} {D : List Dl} {fr : List Int} (R : RI ps h t dc vc E D (k :: fr)) :
    ∃ qs, rputF L16 ps 0 0 4 h t (encDF 3 0 384 (256 + k * 384) 0 k) = (qs, rnext 4 t, true) ∧ RI qs h (rnext 4 t) dc vc (E ++ [k]) D fr := by
  obtain ⟨hs, b0, b1, s0, s1, h0, h1, t0, t1, u1, u0⟩ := ringOk_facts R.ring
  obtain ⟨bE, bD, bF⟩ := R.bd
  have hk := bF k (List.mem_cons_self ..)
  have hv := R.cnt
  have htot := R.tot
  have hu := R.used
  simp only [List.length_cons] at htot
  have hdo := desc_ok hk
  have hen : encDF 3 0 384 (256 + k * 384) 0 k = encD 3 0 384 (256 + k * 384) 0 k := if_pos hdo
  have hz : (encD 3 0 384 (256 + k * 384) 0 k).size = 16 := encD_size hdo
  have hf : ¬ freeF 0 4 h t = 0 := by
    unfold freeF
    unfold usedF at hu
    rw [R.ring, if_pos rfl]; omega
  have hsl : rslot 0 4 t = t % 4 * 16 := by unfold rslot; omega
  obtain ⟨qs, w1, w2, w3, w4⟩ := dmaW_fb (a := rslot 0 4 t) (s := encD 3 0 384 (256 + k * 384) 0 k) (L16_t true) R.mem R.len (by rw [hsl]; omega) (by omega) (by rw [hsl]; omega)
  rw [hsl] at w4
  have hrp : rputF L16 ps 0 0 4 h t (encDF 3 0 384 (256 + k * 384) 0 k) = (qs, rnext 4 t, true) := by
    unfold rputF
    rw [hen, if_neg hf, if_pos hz, w1]
  have n1 : ringOkB 0 4 h (rnext 4 t) = true := (rputF_t hrp.symm).2
  have htE : t % 4 = (h + E.length) % 4 := by unfold usedF at hu; omega
  have off : ∀ (a : Int) (n : Nat), 0 ≤ a → a + n ≤ 2048 → (a + n ≤ t % 4 * 16 ∨ t % 4 * 16 + 16 ≤ a) → fs 16 qs a n = fs 16 ps a n := fun a n a0 a1 o1 => fs_off w4 a0 (by omega) (by rw [hz]; exact o1)
  have hn : (E ++ [k]).length = E.length + 1 := by simp
  have atO : ∀ j, j < E.length → at' (E ++ [k]) j = at' E j := fun j hj => by rw [atp_eq (by rw [hn]; omega), List.getElem_append_left hj, atp_eq hj]
  have atN : at' (E ++ [k]) E.length = k := by rw [atp_eq (by rw [hn]; omega), List.getElem_append_right (Nat.le_refl _)]; simp
  refine ⟨qs, hrp, ?_⟩
  exact {
    mem := w2
    len := w3
    ring := n1
    used := by rw [hn]; unfold usedF rnext at *; omega
    sl := fun j hj => by
      rw [hn] at hj
      rcases (show j < E.length ∨ j = E.length by omega) with hj | hj
      · rw [atO j hj, ← R.sl j hj]
        exact off _ 16 (by omega) (by omega) (by omega)
      · subst hj
        rw [atN, ← htE]
        have := fs_here w4 (by omega) (by rw [hz]; omega)
        rw [hz] at this
        exact this
    cnt := hv
    dcq := R.dcq
    cmp := fun j hj => by
      rw [← R.cmp j hj]
      exact off _ 16 (by omega) (by omega) (by omega)
    emp := fun j h4 hj4 => by
      have := R.emp j h4 hj4
      rw [off (128 + (vc + j) % 4 * 16) 16 (by omega) (by omega) (by omega)]
      exact this
    img := fun c hc' => by
      obtain ⟨i1, i2, i3, i4⟩ := R.img c hc'
      have hck := bD c hc'
      refine ⟨i1, i2, i3, ?_⟩
      rw [off (256 + c.k * 384) c.im.size (by omega) (by omega) (by omega)]
      exact i4
    perm := by
      refine pool4_perm ?_ R.perm
      show (k :: (fr ++ (E ++ D.map (·.k)))).Perm (fr ++ ((E ++ [k]) ++ D.map (·.k)))
      rw [List.append_assoc E [k]]
      show (k :: (fr ++ (E ++ D.map (·.k)))).Perm (fr ++ (E ++ (k :: D.map (·.k))))
      exact (List.perm_middle (l₁ := fr) (a := k)).symm.trans (List.Perm.append_left fr (List.perm_middle (l₁ := E) (a := k)).symm)
    tot := by rw [hn]; omega }
theorem ri_fill {h dc vc : Int} {D : List Dl} : ∀ (fr : List Int) {ps : Pg} {t : Int} {E : List Int} (n : Nat), RI ps h t dc vc E D fr → ∃ qs t', fillG L16 0 0 4 h 256 384 fr ps t n = (qs, t', n + fr.length) ∧ RI qs h t' dc vc (E ++ fr) D []
  | [], ps, t, E, n, R => ⟨ps, t, rfl, by rw [List.append_nil]; exact R⟩
  | k :: fr, ps, t, E, n, R => by
    obtain ⟨q1, e1, R1⟩ := ri_post R
    obtain ⟨qs, t', e2, R2⟩ := ri_fill fr (n + 1) R1
    refine ⟨qs, t', ?_, by rw [List.append_assoc] at R2; exact R2⟩
    unfold fillG
    rw [e1]
    simp only
    rw [e2, List.length_cons, show n + 1 + fr.length = n + (fr.length + 1) by omega]
theorem ri_fillF {ps : Pg} {h t dc vc : Int} {E : List Int} {D : List Dl} {fr : List Int} (R : RI ps h t dc vc E D fr) : ∃ qs t', fillRF L16 ps 0 0 4 h t 256 384 4 fr = (qs, t', [], fr.length) ∧ RI qs h t' dc vc (E ++ fr) D [] := by
  obtain ⟨qs, t', e, R2⟩ := ri_fill fr 0 R
  have hp : poolB 256 384 4 fr = true := by
    have := pool4_iff.1 R.perm
    exact pool4_iff.2 ⟨fun k hk => this.1 k (List.mem_append_left _ hk), (List.pairwise_append.1 this.2).1⟩
  refine ⟨qs, t', ?_, R2⟩
  unfold fillRF
  rw [R.ring, hp, e]
  simp
end Go.Proofs.YtfcmcedeapgdcaaGreat
end
section
namespace Go.Proofs.YtfcmcedeapgdcaaGreat
open Go Go.RowKit Go.Vc
set_option linter.unusedVariables false
set_option linter.unusedSimpArgs false
set_option linter.unnecessarySimpa false
abbrev ps16 : Pg := List.replicate 16 page0
theorem ps16_ok : MemOk ps16 := ⟨by simp [ps16], fun i h => by show (List.replicate 16 page0)[i].size = 128; rw [List.getElem_replicate]; exact page0_sz⟩
theorem fb_ps16 {x : Int} (h0 : 0 ≤ x) (h1 : x < 2048) : fb 16 ps16 x = 0 := by
  unfold fb pageAt
  rw [List.getD_eq_getElem?_getD, List.getElem?_replicate, if_pos (by omega)]
  exact page0_at _
theorem ring4_0 {k : Int} (h : 0 ≤ k ∧ k ≤ 7) : ringOkB 0 4 k k = true := by
  simp only [ringOkB, Bool.and_eq_true, inB_iff, decide_eq_true_eq]
  refine ⟨⟨⟨⟨⟨by omega, by omega⟩, by rfl⟩, by omega, by omega⟩, by omega, by omega⟩, ?_⟩
  rw [Int.sub_self, Int.zero_emod]; omega
theorem ri_0 {k : Int} (h : 0 ≤ k ∧ k ≤ 7) : RI ps16 k k 0 0 [] [] [0, 1, 2, 3] where
  mem := ps16_ok
  len := by simp [ps16]
  ring := ring4_0 h
  used := (ring_tt (ring4_0 h)).2
  sl := fun j hj => nomatch hj
  cnt := by decide
  dcq := rfl
  cmp := fun j hj => nomatch hj
  emp := fun j _ hj => by
    have e : get32 (fs 16 ps16 (128 + (0 + (j : Int)) % 4 * 16) 16) 12 = 0 := by
      have hz := fs_size 16 ps16 (128 + (0 + (j : Int)) % 4 * 16) 16
      have hb : ∀ i : Nat, i < 16 → bAt (fs 16 ps16 (128 + (0 + (j : Int)) % 4 * 16) 16) i = 0 := fun i hi => by rw [fs_at hi, fb_ps16 (by omega) (by omega)]
      have := get32_at (s := fs 16 ps16 (128 + (0 + (j : Int)) % 4 * 16) 16) (i := 12) (by omega)
      rw [hb 12 (by decide), hb 13 (by decide), hb 14 (by decide), hb 15 (by decide)] at this
      exact this
    rw [e]
    unfold phaseC
    rw [if_pos (by omega)]; decide
  img := fun c hc => nomatch hc
  perm := by decide
  tot := rfl
def rx0 (k t : Int) : Rx := ⟨0, 4, k, t, 128, 4, 0, 128, 4, 0, 0, 0, 0, 0, 0, 0, 0, 0, 0, 0, 0, 0, 0, 0, 0, ⟨#[]⟩, 0, 0, false, 0⟩
theorem rx0_at (k t : Int) : (rx0 k t).at k t 0 0 := ⟨rfl, rfl, rfl, rfl, rfl, rfl, rfl, rfl, rfl, rfl⟩
theorem rx0_hb (k t : Int) : (rx0 k t).hb := by
  show noHeld 0 0 0 0 0 0 0 0 0 0 0 0 0 0 0 ⟨#[]⟩ 0 0 = true
  decide
theorem start_fill {k : Int} (h : 0 ≤ k ∧ k ≤ 7) : ∃ qs t', fillRF L16 ps16 0 0 4 k k 256 384 4 [0, 1, 2, 3] = (qs, t', [], 4) ∧ RI qs k t' 0 0 [0, 1, 2, 3] [] [] := by
  obtain ⟨qs, t', e, R⟩ := ri_fillF (ri_0 h)
  exact ⟨qs, t', e, by rw [List.nil_append] at R; exact R⟩
end Go.Proofs.YtfcmcedeapgdcaaGreat
end
section
namespace Go.Proofs.YtfcmcedeapgdcaaGreat
open Go Go.RowKit Go.Vc
set_option linter.unusedVariables false
set_option linter.unusedSimpArgs false
set_option linter.unnecessarySimpa false
def Rd (D : List Dl) : Prop := ∀ c ∈ D, rdC c.im = 0
def delD (D : List Dl) (sm : List Sm) : List Sm := D.foldl (fun s c => dlF s (rdF c.im)) sm
theorem bufA_4 {fr : List Int} {k : Int} (hp : poolB 256 384 4 fr = true) (h : 0 ≤ k ∧ k ≤ 3) : bufA 256 384 4 fr k = 256 + k * 384 := by
  unfold bufA
  rw [hp, inB_iff.2 (show 0 ≤ k ∧ k ≤ 4 - 1 by omega)]; rfl
theorem ri_fr {ps : Pg} {h t dc vc : Int} {E : List Int} {D : List Dl} {fr : List Int} (R : RI ps h t dc vc E D fr) : poolB 256 384 4 fr = true := by
  have := pool4_iff.1 R.perm
  exact pool4_iff.2 ⟨fun k hk => this.1 k (List.mem_append_left _ hk), (List.pairwise_append.1 this.2).1⟩
theorem poll_ri {ps : Pg} {h t dc : Int} {E : List Int} : ∀ (f : Nat) {vc : Int} {D : List Dl} {fr : List Int} (sm : List Sm) (n : Int), RI ps h t dc vc E D fr → Rd D → ∃ vc', pollL L16 ps 0 256 384 4 128 4 f fr sm vc n = (fr ++ (D.take f).map (·.k), delD (D.take f) sm, vc', n + (D.take f).length) ∧ RI ps h t dc vc' E (D.drop f) (fr ++ (D.take f).map (·.k))
  | 0, vc, D, fr, sm, n, R, _ => ⟨vc, by simp [pollL, delD], by simpa using R⟩
  | f + 1, vc, [], fr, sm, n, R, _ => by
    obtain ⟨e, _⟩ := nx_end R
    refine ⟨vc, ?_, by simpa using R⟩
    rw [poll_no (by rw [e])]
    simp [delD]
  | f + 1, vc, c :: D, fr, sm, n, R, hrd => by
    obtain ⟨e, R1⟩ := nx_step R
    obtain ⟨i1, i2, i3, i4⟩ := R.img c (List.mem_cons_self ..)
    have hck := R.bd.2.1 c (List.mem_cons_self ..)
    have hp0 := ri_fr R
    have hp1 := ri_fr R1
    have hg : giveF 256 384 4 fr [c.k] = fr ++ [c.k] := (give_y hp0 hp1).1
    have hd := dmaR_fs (a := 256 + c.k * 384) (n := c.n) (L16_t false) R.mem R.len (by omega) (by omega) (by omega) (by omega)
    rw [i2, Int.toNat_natCast, i4] at hd
    have hpk : pkS L16 ps 0 256 384 4 fr (c.k, c.n, c.size, c.count, c.hash) sm = dlF sm (rdF c.im) := by
      unfold pkS pkB
      simp only
      rw [bufA_4 hp0 hck, i2, hd, hrd c (List.mem_cons_self ..)]
      rfl
    obtain ⟨vc', e2, R2⟩ := poll_ri f (dlF sm (rdF c.im)) (n + 1) R1 (fun x hx => hrd x (List.mem_cons_of_mem _ hx))
    refine ⟨vc', ?_, ?_⟩
    · rw [poll_go (by omega) (by rw [e]), e]
      simp only
      rw [hg, hpk, Nat.add_sub_cancel, e2]
      simp only [List.take_succ_cons, List.map_cons, List.length_cons, List.append_assoc, List.cons_append, List.nil_append, delD, List.foldl_cons]
      refine Prod.ext rfl (Prod.ext rfl (Prod.ext rfl ?_))
      simp only; omega
    · simpa only [List.take_succ_cons, List.map_cons, List.drop_succ_cons, List.append_assoc, List.cons_append, List.nil_append] using R2
theorem pq_ri {ps : Pg} {h t dc vc bud : Int} {E : List Int} {D : List Dl} {fr : List Int} (sm : List Sm) (R : RI ps h t dc vc E D fr) (hrd : Rd D) : ∃ qs t' vc', pqF true L16 ps 0 0 4 h t 128 4 vc 256 384 4 fr sm bud = (qs, t', vc', [], delD (D.take bud.toNat) sm, ((D.take bud.toNat).length : Int)) ∧ RI qs h t' dc vc' (E ++ (fr ++ (D.take bud.toNat).map (·.k))) (D.drop bud.toNat) [] := by
  obtain ⟨vc', e, R1⟩ := poll_ri bud.toNat sm 0 R hrd
  obtain ⟨qs, t', e2, R2⟩ := ri_fillF R1
  refine ⟨qs, t', vc', ?_, R2⟩
  rw [pq_y e, e2, Int.zero_add]
end Go.Proofs.YtfcmcedeapgdcaaGreat
end
section
namespace Go.Proofs.YtfcmcedeapgdcaaGreat
open Go Go.RowKit Go.Vc
set_option linter.unusedVariables false
set_option linter.unusedSimpArgs false
set_option linter.unnecessarySimpa false
theorem smIdxF_set {kind si di sp dp : Int} {s' : Sm} : ∀ (l : List Sm) (n i : Nat), (∀ h : i < l.length, smHit s' kind si di sp dp = smHit l[i] kind si di sp dp) → smIdxF kind si di sp dp n (l.set i s') = smIdxF kind si di sp dp n l
  | [], n, i, _ => rfl
  | s :: l, n, 0, h => by
    have := h (by simp)
    simp only [List.set_cons_zero, smIdxF]
    simp only [List.getElem_cons_zero] at this
    rw [this]
  | s :: l, n, i + 1, h => by
    simp only [List.set_cons_succ, smIdxF]
    rw [smIdxF_set l (n + 1) i fun hi => by have := h (by simpa using hi); simpa using this]
theorem ix_set {p : Pk} {l : List Sm} {i : Nat} {s' : Sm} (hi : i < l.length) (h1 : s'.kind = (at' l i).kind) (h2 : s'.si = (at' l i).si) (h3 : s'.di = (at' l i).di) (h4 : s'.sp = (at' l i).sp) (h5 : s'.dp = (at' l i).dp) : p.ix (l.set i s') = p.ix l := by
  unfold Pk.ix smIdx
  refine smIdxF_set l 0 i fun hi => ?_
  rw [atp_eq hi] at h1 h2 h3 h4 h5
  unfold smHit
  rw [h1, h2, h3, h4, h5]
theorem ext_app2 (a b : ByteArray) {o : Nat} (h : o ≤ a.size) : (a ++ b).extract o (a ++ b).size = a.extract o a.size ++ b := by
  refine ba_ext (by simp only [ByteArray.size_append, ByteArray.size_extract]; omega) fun i hi => ?_
  simp only [ByteArray.size_extract, ByteArray.size_append] at hi
  rw [bAt_extract, if_pos (by rw [ByteArray.size_append]; omega), bAt_append, bAt_append, ByteArray.size_extract]
  by_cases hc : o + i < a.size
  · rw [if_pos hc, if_pos (by omega), bAt_extract, if_pos (by omega)]
  · rw [if_neg hc, if_neg (by omega)]
    congr 1; omega
theorem ext_app3 (a b : ByteArray) {o : Nat} (h : a.size ≤ o) : (a ++ b).extract o (a ++ b).size = b.extract (o - a.size) b.size := by
  refine ba_ext (by simp only [ByteArray.size_append, ByteArray.size_extract]; omega) fun i hi => ?_
  simp only [ByteArray.size_extract, ByteArray.size_append] at hi
  rw [bAt_extract, if_pos (by rw [ByteArray.size_append]; omega), bAt_append, if_neg (by omega), bAt_extract, if_pos (by omega)]
  congr 1; omega
theorem dl_seg {l : List Sm} {p : Pk} (hs : p.sup = true) (hk : p.kind = 6) (hf : streamB p.fl = true) : dlF l p = if p.ix l < 0 ∨ (at' l (p.ix l).toNat).done = true then l else if dlO (at' l (p.ix l).toNat) p ≤ p.body.size then l.set (p.ix l).toNat (dlS (at' l (p.ix l).toNat) p) else l := by
  have h24 : andI p.fl 2 = 0 ∧ andI p.fl 4 = 0 := by
    unfold streamB at hf
    simp only [Bool.or_eq_true, beq_iff_eq] at hf
    rcases hf with ((h | h) | h) | h <;> rw [h] <;> decide
  unfold dlF
  rw [if_pos hs, if_neg (by rw [hk]; decide), if_neg (by rw [h24.1]; simp)]
  by_cases hc : p.ix l < 0 ∨ (at' l (p.ix l).toNat).done = true
  · rw [if_pos hc, if_pos (by rcases hc with h | h; exact .inl h; exact .inr (.inl h))]
  · rw [if_neg hc, if_neg]
    rintro (h | h | h)
    · exact hc (.inl h)
    · exact hc (.inr h)
    · exact h h24.2
end Go.Proofs.YtfcmcedeapgdcaaGreat
end
section
namespace Go.Proofs.YtfcmcedeapgdcaaGreat
open Go Go.RowKit Go.Vc
set_option linter.unusedVariables false
set_option linter.unusedSimpArgs false
set_option linter.unnecessarySimpa false
def jn (a b : Pk) : Pk := { a with fl := b.fl, body := a.body ++ b.body }
structure Jn (a b : Pk) : Prop where
  sa : a.sup = true
  sb : b.sup = true
  sj : (jn a b).sup = true
  ka : a.kind = 6
  fa : a.fl = 16
  fb : streamB b.fl = true
  kb : b.kind = a.kind
  si : b.si = a.si
  di : b.di = a.di
  sp : b.sp = a.sp
  dp : b.dp = a.dp
  seq : b.seq = (a.seq + a.body.size) % 4294967296
theorem dl_join {a b : Pk} (J : Jn a b) (l : List Sm) : dlF l (jn a b) = dlF (dlF l a) b := by
  have hib : ∀ l : List Sm, b.ix l = a.ix l := fun l => by unfold Pk.ix; rw [J.kb, J.si, J.di, J.sp, J.dp]
  have hij : (jn a b).ix l = a.ix l := rfl
  have f16 : streamB a.fl = true := by rw [J.fa]; decide
  rw [dl_seg J.sj J.ka J.fb, dl_seg J.sa J.ka f16, hij]
  by_cases hc : a.ix l < 0 ∨ (at' l (a.ix l).toNat).done = true
  · rw [if_pos hc, if_pos hc, dl_seg J.sb (J.kb.trans J.ka) J.fb, hib, if_pos hc]
  · rw [if_neg hc, if_neg hc]
    obtain ⟨i, hi, e⟩ := smIdx_ge (l := l) (fun h => hc (.inl h))
    have e : a.ix l = (i : Int) := e
    have e2 : (a.ix l).toNat = i := by omega
    have hnd : ¬ (at' l i).done = true := fun h => hc (.inr (by rw [e2]; exact h))
    rw [e2]
    clear hc
    generalize hs : at' l i = s at *
    have hos : dlO s (jn a b) = dlO s a := rfl
    have hjs : ((jn a b).body.size : Int) = (a.body.size : Int) + b.body.size := by
      show ((a.body ++ b.body).size : Int) = _
      rw [ByteArray.size_append]; omega
    have h0 : 0 ≤ dlO s a ∧ dlO s a < 4294967296 := by unfold dlO; omega
    by_cases ho : dlO s a ≤ a.body.size
    · rw [if_pos ho, if_pos (by rw [hos, hjs]; omega), dl_seg J.sb (J.kb.trans J.ka) J.fb, hib, ix_set (by exact hi) (by rw [hs]; rfl) (by rw [hs]; rfl) (by rw [hs]; rfl) (by rw [hs]; rfl) (by rw [hs]; rfl), e2]
      have hat : at' (l.set i (dlS s a)) i = dlS s a := by rw [atp_eq (by rw [List.length_set]; exact hi), List.getElem_set_self]
      have hdn : (dlS s a).done = false := by
        show (!decide (andI a.fl 1 = 0)) = false
        rw [J.fa]; decide
      have hob : dlO (dlS s a) b = 0 := by
        show ((s.next + a.body.size - dlO s a) % 4294967296 - b.seq) % 4294967296 = 0
        rw [J.seq]
        unfold dlO at *
        omega
      rw [hat, if_neg (by rw [hdn]; rintro (h | h); omega; cases h), if_pos (by rw [hob]; omega), List.set_set]
      congr 1
      have d1 : (s.data ++ a.body.extract (dlO s a).toNat a.body.size) ++ b.body.extract (0 : Int).toNat b.body.size = s.data ++ (a.body ++ b.body).extract (dlO s a).toNat (a.body ++ b.body).size := by
        rw [ext_app2 _ _ (by omega), show (0 : Int).toNat = 0 from rfl, ByteArray.extract_zero_size, ByteArray.append_assoc]
      have d2 : ((s.next + a.body.size - dlO s a) % 4294967296 + b.body.size - 0) % 4294967296 = (s.next + ((a.body ++ b.body).size : Nat) - dlO s a) % 4294967296 := by
        rw [ByteArray.size_append]; omega
      show dlS s (jn a b) = dlS (dlS s a) b
      unfold dlS at hob ⊢
      rw [hob]
      simp only
      rw [d1, d2]
      rfl
    · have hcn : ¬ (a.ix l < 0 ∨ s.done = true) := by
        rintro (h | h)
        · omega
        · exact hnd h
      rw [if_neg ho, dl_seg J.sb (J.kb.trans J.ka) J.fb, hib, e2, hs, if_neg hcn]
      have hob : dlO s b = dlO s a - a.body.size := by
        unfold dlO at *
        rw [J.seq]; omega
      by_cases hb : dlO s b ≤ b.body.size
      · rw [if_pos hb, if_pos (by rw [hos, hjs]; omega)]
        congr 1
        have d1 : (a.body ++ b.body).extract (dlO s a).toNat (a.body ++ b.body).size = b.body.extract (dlO s b).toNat b.body.size := by
          rw [ext_app3 _ _ (by omega), hob]
          congr 1; omega
        have d2 : (s.next + ((a.body ++ b.body).size : Nat) - dlO s a) % 4294967296 = (s.next + b.body.size - dlO s b) % 4294967296 := by
          rw [ByteArray.size_append, hob]; congr 1; omega
        unfold dlS
        rw [hos]
        show ({ s with data := s.data ++ (a.body ++ b.body).extract (dlO s a).toNat (a.body ++ b.body).size, next := (s.next + ((a.body ++ b.body).size : Nat) - dlO s a) % 4294967296, done := !decide (andI b.fl 1 = 0) } : Sm) = _
        rw [d1, d2]
      · rw [if_neg hb, if_neg (by rw [hos, hjs]; omega)]
end Go.Proofs.YtfcmcedeapgdcaaGreat
end
section
namespace Go.Proofs.YtfcmcedeapgdcaaGreat
open Go Go.RowKit Go.Vc
set_option linter.unusedVariables false
set_option linter.unusedSimpArgs false
set_option linter.unnecessarySimpa false
def pend (D : List Dl) (q : Rx) (sm : List Sm) : List Sm := if q.hold then dlF (delD D sm) q.hp else delD D sm
theorem delD_app (D : List Dl) (c : Dl) (sm : List Sm) : delD (D ++ [c]) sm = dlF (delD D sm) (rdF c.im) := by unfold delD; rw [List.foldl_append]; rfl
theorem delD_split (D : List Dl) (f : Nat) (sm : List Sm) : delD (D.drop f) (delD (D.take f) sm) = delD D sm := by
  unfold delD
  rw [← List.foldl_append, List.take_append_drop]
theorem pend_poll (D : List Dl) (f : Nat) (q : Rx) (sm : List Sm) : pend (D.drop f) q (delD (D.take f) sm) = pend D q sm := by
  unfold pend
  rw [delD_split]
theorem Rd.drop {D : List Dl} (h : Rd D) (f : Nat) : Rd (D.drop f) := fun c hc => h c (List.mem_of_mem_drop hc)
theorem cj_jn {q : Rx} {p : Pk} (h : q.held) (hj : q.cj p = true) : Jn q.hp p := by
  have hs := (join_held h hj).sup
  unfold Rx.cj cjB at hj
  simp only [Bool.and_eq_true, decide_eq_true_eq, inB_iff] at hj
  obtain ⟨j1, ⟨j2, j2b⟩, j3, j4, j5, j6, j7, j8, j9, j10, j11, j12, j13⟩ := hj
  unfold samB at j3
  simp only [Bool.and_eq_true, decide_eq_true_eq] at j3
  exact { sa := h.sup, sb := j2, sj := hs, ka := show q.kind = 6 by omega, fa := j5, fb := j6, kb := show p.kind = q.kind by omega, si := show p.si = q.si by omega, di := show p.di = q.di by omega, sp := show p.sp = q.sp by omega, dp := show p.dp = q.dp by omega, seq := j12 }
theorem fl_all {ps : Pg} {h t dc vc : Int} {E : List Int} {D : List Dl} {fr : List Int} {q : Rx} {key : ByteArray} (R : RI ps h t dc vc E D fr) (A : q.at h t dc vc) (hk : key.size = 16) (hd : 0 ≤ q.dropped ∧ q.dropped ≤ 1000000000000) (hb : q.hb) (hrd : Rd D) :
    ∃ h' dc' E' D', RI (fhF L16 ps 0 q key).1 h' t dc' vc E' D' fr ∧ (fhF L16 ps 0 q key).2.at h' t dc' vc ∧ (fhF L16 ps 0 q key).2.hb ∧ (fhF L16 ps 0 q key).2.hold = false ∧ sumC D' + (fhF L16 ps 0 q key).2.dropped = sumC D + q.dropped + q.hc ∧ q.dropped ≤ (fhF L16 ps 0 q key).2.dropped ∧ (fhF L16 ps 0 q key).2.dropped ≤ q.dropped + 320 ∧ Rd D' ∧ ((fhF L16 ps 0 q key).2.dropped = q.dropped → ∀ sm, delD D' sm = pend D q sm) := by
  cases hh : q.hold with
  | false =>
    have hfo : q.fo key = false := by
      show (q.ok && (q.hold && _)) = false
      rw [hh]; simp
    rw [fhq_no hfo]
    refine ⟨h, dc, E, D, R, A, hb, hh, ?_, Int.le_refl _, by simp only; omega, hrd, fun _ sm => ?_⟩
    · unfold Rx.hc
      rw [hh, if_neg (by decide)]; simp only; omega
    · unfold pend; rw [hh]; rfl
  | true =>
    have hl : q.held := by unfold Rx.hb at hb; rw [hh] at hb; exact hb
    obtain ⟨qs, h', dc', E', D', x, e, R', A', hx⟩ := fh_step R A hk hd hh hl
    rw [e]
    have hc := hl.count
    have ehc : q.hc = q.count := by unfold Rx.hc; rw [hh, if_pos rfl]
    have hdr : (q.emp h' dc' (q.dropped + x)).dropped = q.dropped + x := rfl
    obtain ⟨r1, r2⟩ := rd_im hl.sup
    refine ⟨h', dc', E', D', R', A', emp_hb .., rfl, ?_, ?_, ?_, ?_, ?_⟩ <;> (try simp only) <;> (try rw [hdr]) <;> rcases hx with ⟨_, _, rfl, rfl⟩ | ⟨k, z, _, rfl, rfl⟩
    · rw [ehc]; omega
    · rw [sumC_app, ehc]; simp only; omega
    · omega
    · omega
    · omega
    · omega
    · exact hrd
    · intro c hc'
      rcases List.mem_append.1 hc' with h | h
      · exact hrd c h
      · rw [List.mem_singleton.1 h]; exact r1
    · intro hx; omega
    · intro _ sm
      rw [delD_app]
      unfold pend
      rw [hh, if_pos rfl]
      simp only
      rw [r2]
theorem rp_all {ps : Pg} {h t dc vc : Int} {E : List Int} {D : List Dl} {fr : List Int} {q : Rx} {key : ByteArray} (R : RI ps h t dc vc E D fr) (A : q.at h t dc vc) (hk : key.size = 16) (hd : 0 ≤ q.dropped ∧ q.dropped ≤ 999999990000) (hb : q.hb) (hrd : Rd D) {p : Pk} (hp : p.ok = true) (coal : Bool) :
    ∃ h' dc' E' D', RI (rp ps q key p coal).1 h' t dc' vc E' D' fr ∧ (rp ps q key p coal).2.at h' t dc' vc ∧ (rp ps q key p coal).2.hb ∧ sumC D' + (rp ps q key p coal).2.dropped + (rp ps q key p coal).2.hc = sumC D + q.dropped + q.hc + 1 ∧ q.dropped ≤ (rp ps q key p coal).2.dropped ∧ (rp ps q key p coal).2.dropped ≤ q.dropped + 640 ∧ Rd D' ∧ ((rp ps q key p coal).2.dropped = q.dropped → ∀ sm, pend D' (rp ps q key p coal).2 sm = dlF (pend D q sm) p) := by
  have hok := rx_ok R A (by omega) hb
  obtain ⟨h1, dc1, E1, D1, R1, A1, B1, H1, T1, L1, U1, Z1, P1⟩ := fl_all (key := key) R A hk (by omega) hb hrd
  generalize hr1 : fhF L16 ps 0 q key = r1 at *
  have A2 : (r1.2.take p).at h1 t dc1 vc := ⟨A1.rb, A1.rs, A1.rh, A1.rt, A1.db, A1.ds, A1.dc', A1.vb, A1.vs, A1.vc'⟩
  have B2 : (r1.2.take p).hb := take_held _ hp
  have d2 : (r1.2.take p).dropped = r1.2.dropped := rfl
  have c2 : (r1.2.take p).hc = 1 := rfl
  have p2 : ∀ D sm, pend D (r1.2.take p) sm = dlF (delD D sm) p := fun D sm => rfl
  cases hc : coal with
  | true =>
    cases hj : q.hold && q.cj p with
    | true =>
      rw [Bool.and_eq_true] at hj
      rw [rp_j hok hp hk rfl hj.1 hj.2]
      have hl : q.held := by unfold Rx.hb at hb; rw [hj.1] at hb; exact hb
      have e1 : (q.join p).hold = true := hj.1
      have e2 : (q.join p).hc = q.count + 1 := hold_true e1
      have e3 := hold_true hj.1
      have e4 : (q.join p).dropped = q.dropped := rfl
      refine ⟨h, dc, E, D, R, ⟨A.rb, A.rs, A.rh, A.rt, A.db, A.ds, A.dc', A.vb, A.vs, A.vc'⟩, ?_, ?_, ?_, ?_, hrd, fun _ sm => ?_⟩
      · unfold Rx.hb
        rw [e1]
        exact join_held hl hj.2
      · simp only; rw [e2, e3, e4]; omega
      · exact Int.le_of_eq e4.symm
      · simp only; rw [e4]; omega
      · have e5 : (q.join p).hp = jn q.hp p := rfl
        show pend D (q.join p) sm = _
        unfold pend
        rw [e1, hj.1, if_pos rfl, if_pos rfl, e5, dl_join (cj_jn hl hj.2)]
    | false =>
      rw [rp_1 hr1 hok hp hk rfl hj]
      refine ⟨h1, dc1, E1, D1, R1, A2, B2, ?_, ?_, ?_, Z1, fun hx sm => ?_⟩
      · simp only; rw [d2, c2]; omega
      · simp only; rw [d2]; exact L1
      · simp only; rw [d2]; omega
      · show pend D1 (r1.2.take p) sm = _
        rw [p2, P1 hx]
  | false =>
    rw [rp_2 hr1 hok hp hk rfl]
    obtain ⟨h2, dc2, E2, D2, R3, A3, B3, H3, T3, L3, U3, Z3, P3⟩ := fl_all (key := key) R1 A2 hk (by rw [d2]; omega) B2 Z1
    rw [d2] at T3 L3 U3 P3
    rw [c2] at T3
    refine ⟨h2, dc2, E2, D2, R3, A3, B3, ?_, by omega, by omega, Z3, fun hx sm => ?_⟩
    · rw [hold_false H3]; omega
    · have e1 := P3 (by omega) sm
      have e2 := P1 (by omega) sm
      have e3 : pend D2 (fhF L16 r1.1 0 (r1.2.take p) key).2 sm = delD D2 sm := by unfold pend; rw [H3]; rfl
      rw [e3, e1, p2, e2]
end Go.Proofs.YtfcmcedeapgdcaaGreat
end
section
namespace Go.Proofs.YtfcmcedeapgdcaaGreat
open Go Go.RowKit Go.Vc
set_option linter.unusedVariables false
set_option linter.unusedSimpArgs false
set_option linter.unnecessarySimpa false
structure DRx where
  (k t : Int)
  (ps : Pg)
  (key : ByteArray)
  (pk : List Pk)
  (sm : List Sm)
structure DRx.ok (x : DRx) : Prop where
  ri : RI x.ps x.k x.t 0 0 [0, 1, 2, 3] [] []
  key : x.key.size = 16
  len : 1 ≤ x.pk.length ∧ x.pk.length ≤ 8
  pk : ∀ p ∈ x.pk, p.ok = true
  sml : x.sm.length ≤ 8
  sms : ∀ s ∈ x.sm, s.data.size ≤ 0
structure RS where
  (k : Nat)
  (ps : Pg)
  (q : Rx)
  (h t dc vc : Int)
  (E : List Int)
  (D : List Dl)
  (fr : List Int)
structure RS.ok (S : RS) : Prop where
  ri : RI S.ps S.h S.t S.dc S.vc S.E S.D S.fr
  at' : S.q.at S.h S.t S.dc S.vc
  hb : S.q.hb
  rd : Rd S.D
  d0 : 0 ≤ S.q.dropped
  d1 : S.q.dropped ≤ 640 * S.k + 640
def RS.go (S : RS) (r : Pg × Rx) (h dc : Int) (E : List Int) (D : List Dl) : RS := ⟨S.k + 1, r.1, r.2, h, S.t, dc, S.vc, E, D, S.fr⟩
def RS.s0 (x : DRx) : RS := ⟨0, x.ps, rx0 x.k x.t, x.k, x.t, 0, 0, [0, 1, 2, 3], [], []⟩
theorem RS.len {S : RS} (H : S.ok) : S.ps.length = 16 ∧ S.fr.length + (S.E.length + S.D.length) = 4 := ⟨H.ri.len, H.ri.tot⟩
theorem rs_0 {x : DRx} (h : x.ok) : (RS.s0 x).ok := ⟨h.ri, rx0_at _ _, rx0_hb _ _, (fun c hc => nomatch hc), Int.le_refl _, by show (0 : Int) ≤ _; omega⟩
theorem rs_0p (x : DRx) (sm : List Sm) : pend (RS.s0 x).D (RS.s0 x).q sm = sm := rfl
theorem dr_pk {x : DRx} (h : x.ok) {k : Nat} (hk : k < x.pk.length) : (at' x.pk k).ok = true ∧ (at' x.pk k).body.size ≤ 128 := by
  have h1 := h.pk _ (atp_mem hk)
  refine ⟨h1, ?_⟩
  unfold Pk.ok at h1
  rw [Bool.and_eq_true, decide_eq_true_eq] at h1
  exact h1.2
theorem rs_rp {S : RS} (H : S.ok) (hk : S.k ≤ 1000) {key : ByteArray} (hz : key.size = 16) {p : Pk} (hp : p.ok = true) {coal : Bool} {r : Pg × Rx} (hr : rp S.ps S.q key p coal = r) :
    ∃ h' dc' E' D', (S.go r h' dc' E' D').ok ∧ sumC D' + r.2.dropped + r.2.hc = sumC S.D + S.q.dropped + S.q.hc + 1 ∧ S.q.dropped ≤ r.2.dropped ∧ (r.2.dropped = S.q.dropped → ∀ sm, pend D' r.2 sm = dlF (pend S.D S.q sm) p) := by
  have h0 := H.d0
  have h1 := H.d1
  subst hr
  obtain ⟨h', dc', E', D', a1, a2, a3, a4, a5, a6, a7, a8⟩ := rp_all H.ri H.at' hz ⟨h0, by omega⟩ H.hb H.rd hp coal
  exact ⟨h', dc', E', D', ⟨a1, a2, a3, a7, Int.le_trans h0 a5, by show _ ≤ 640 * ((S.k + 1 : Nat) : Int) + 640; exact Int.le_trans a6 (by omega)⟩, a4, a5, a8⟩
theorem rs_fl {S : RS} (H : S.ok) (hk : S.k ≤ 1000) {key : ByteArray} (hz : key.size = 16) {r : Pg × Rx} (hr : fhF L16 S.ps 0 S.q key = r) :
    ∃ h' dc' E' D', (S.go r h' dc' E' D').ok ∧ r.2.hold = false ∧ sumC D' + r.2.dropped = sumC S.D + S.q.dropped + S.q.hc ∧ S.q.dropped ≤ r.2.dropped ∧ (r.2.dropped = S.q.dropped → ∀ sm, delD D' sm = pend S.D S.q sm) := by
  have h0 := H.d0
  have h1 := H.d1
  subst hr
  obtain ⟨h', dc', E', D', a1, a2, a3, a4, a5, a6, a7, a8, a9⟩ := fl_all H.ri H.at' hz ⟨h0, by omega⟩ H.hb H.rd
  exact ⟨h', dc', E', D', ⟨a1, a2, a3, a8, Int.le_trans h0 a6, by show _ ≤ 640 * ((S.k + 1 : Nat) : Int) + 640; exact Int.le_trans a7 (by omega)⟩, a4, a5, a6, a9⟩
theorem rs_ok {S : RS} (H : S.ok) (hk : S.k ≤ 1000) : rxOkB S.q.rb S.q.rs S.q.rh S.q.rt S.q.db S.q.ds S.q.dc S.q.vb S.q.vs S.q.vc S.q.dm S.q.sm S.q.vl S.q.tos S.q.id S.q.ttl S.q.si S.q.di S.q.kind S.q.sp S.q.dp S.q.seq S.q.ack S.q.fl S.q.win S.q.body S.q.size S.q.count S.q.hold S.q.dropped = true := by
  have h0 := H.d0
  have h1 := H.d1
  exact rx_ok H.ri H.at' ⟨h0, by omega⟩ H.hb
def Rx.pl (q : Rx) (t vc : Int) : Rx := ⟨q.rb, q.rs, q.rh, t, q.db, q.ds, q.dc, q.vb, q.vs, vc, q.dm, q.sm, q.vl, q.tos, q.id, q.ttl, q.si, q.di, q.kind, q.sp, q.dp, q.seq, q.ack, q.fl, q.win, q.body, q.size, q.count, q.hold, q.dropped⟩
def RS.poll (S : RS) (ps : Pg) (t vc : Int) (E : List Int) (n : Nat) : RS := ⟨S.k, ps, S.q.pl t vc, S.h, t, S.dc, vc, E, S.D.drop n, []⟩
theorem delD_len : ∀ (D : List Dl) (sm : List Sm), (delD D sm).length ≤ sm.length + D.length
  | [], sm => Nat.le_refl _
  | c :: D, sm => by
    have h1 := delD_len D (dlF sm (rdF c.im))
    have h2 := dlF_len sm (rdF c.im)
    have h3 : delD (c :: D) sm = delD D (dlF sm (rdF c.im)) := rfl
    rw [h3, List.length_cons]
    omega
theorem delD_sz {M : Nat} : ∀ (D : List Dl) (sm : List Sm) (N : Nat), D.length ≤ N → (∀ s ∈ sm, s.data.size ≤ M) → ∀ s ∈ delD D sm, s.data.size ≤ M + 400 * N
  | [], sm, N, _, h, s, hs => Nat.le_trans (h s hs) (by omega)
  | c :: D, sm, N, hN, h, s, hs => by
    obtain ⟨n, rfl⟩ : ∃ n, N = n + 1 := ⟨N - 1, by simp at hN; omega⟩
    have h1 := dlF_sz (p := rdF c.im) h
    have h2 := delD_sz D (dlF sm (rdF c.im)) n (by simpa using hN) h1 s hs
    omega
theorem rs_poll {S : RS} (H : S.ok) (hk : S.k ≤ 1000) {bud : Int} (hb : 0 ≤ bud ∧ bud ≤ 1000) {sm : List Sm} {ok : Bool} {r : Pg × Int × Int × List Int × List Sm × Int}
    (hr : pqF (rxOkB S.q.rb S.q.rs S.q.rh S.q.rt S.q.db S.q.ds S.q.dc S.q.vb S.q.vs S.q.vc S.q.dm S.q.sm S.q.vl S.q.tos S.q.id S.q.ttl S.q.si S.q.di S.q.kind S.q.sp S.q.dp S.q.seq S.q.ack S.q.fl S.q.win S.q.body S.q.size S.q.count S.q.hold S.q.dropped && (poolB 256 384 4 S.fr && inB bud 0 1000)) L16 S.ps 0 S.q.rb S.q.rs S.q.rh S.q.rt S.q.vb S.q.vs S.q.vc 256 384 4 S.fr sm bud = r) :
    ∃ E', (S.poll r.1 r.2.1 r.2.2.1 E' bud.toNat).ok ∧ r.2.2.2.1 = [] ∧ r.2.2.2.2.1 = delD (S.D.take bud.toNat) sm ∧ (∀ s2, pend (S.D.drop bud.toNat) (S.q.pl r.2.1 r.2.2.1) (delD (S.D.take bud.toNat) s2) = pend S.D S.q s2) := by
  obtain ⟨qs, t', vc', e, R⟩ := pq_ri (bud := bud) sm H.ri H.rd
  rw [rs_ok H hk, ri_fr H.ri, inB_iff.2 hb, H.at'.rb, H.at'.rs, H.at'.rh, H.at'.rt, H.at'.vb, H.at'.vs, H.at'.vc'] at hr
  rw [show (true && (true && true)) = true from rfl, e] at hr
  subst hr
  refine ⟨_, ⟨R, ?_, ?_, H.rd.drop _, H.d0, H.d1⟩, rfl, rfl, fun s2 => ?_⟩
  · obtain ⟨a1, a2, a3, a4, a5, a6, a7, a8, a9, a10⟩ := H.at'
    exact ⟨a1, a2, a3, rfl, a5, a6, a7, a8, a9, rfl⟩
  · have := H.hb
    unfold Rx.hb at this ⊢
    show if S.q.hold = true then _ else _
    split
    · rename_i e
      rw [if_pos e] at this
      exact ⟨this.sup, this.size, this.count⟩
    · rename_i e
      rw [if_neg e] at this
      exact this
  · rw [show pend (S.D.drop bud.toNat) (S.q.pl t' vc') (delD (S.D.take bud.toNat) s2) = pend (S.D.drop bud.toNat) S.q (delD (S.D.take bud.toNat) s2) from rfl]
    exact pend_poll _ _ _ _
theorem rs_bd {S : RS} (H : S.ok) : (0 ≤ S.q.dc ∧ S.q.dc ≤ 7) ∧ (0 ≤ S.q.vc ∧ S.q.vc ≤ 7) ∧ S.q.ds = 4 ∧ sizeB S.q.rs = true := by
  have h1 := H.ri.dcq
  have h2 := H.ri.cnt
  have h3 := H.ri.tot
  rw [H.at'.dc', H.at'.vc', H.at'.ds, H.at'.rs]
  exact ⟨by omega, by omega, rfl, rfl⟩
def RS.next (S : RS) (vc : Int) (D : List Dl) (fr : List Int) : RS := ⟨S.k, S.ps, ⟨S.q.rb, S.q.rs, S.q.rh, S.q.rt, S.q.db, S.q.ds, S.q.dc, S.q.vb, S.q.vs, vc, S.q.dm, S.q.sm, S.q.vl, S.q.tos, S.q.id, S.q.ttl, S.q.si, S.q.di, S.q.kind, S.q.sp, S.q.dp, S.q.seq, S.q.ack, S.q.fl, S.q.win, S.q.body, S.q.size, S.q.count, S.q.hold, S.q.dropped⟩, S.h, S.t, S.dc, vc, S.E, D, fr⟩
theorem rs_end {S : RS} (H : S.ok) (hk : S.k ≤ 1000) (hn : S.D = []) {X : Comp × Int × Bool} (hX : nextF L16 S.ps 0 S.q.vb S.q.vs S.q.vc = X) : X.2.2 = false := by
  subst hX
  have R := H.ri
  rw [hn] at R
  rw [H.at'.vb, H.at'.vs, H.at'.vc', (nx_end R).1]
theorem pend_rp {S : RS} (H : S.ok) {r : Pg × Rx} {D' : List Dl} {p : Pk} (h3 : S.q.dropped ≤ r.2.dropped) (h4 : r.2.dropped = S.q.dropped → ∀ sm, pend D' r.2 sm = dlF (pend S.D S.q sm) p) {m w : List Sm} (hw : S.q.dropped = 0 → pend S.D S.q m = w) : r.2.dropped = 0 → pend D' r.2 m = dlF w p := fun h => by
  have h0 := H.d0
  have h5 : S.q.dropped = 0 := by omega
  rw [h4 (by omega), hw h5]
theorem pend_fl {S : RS} (H : S.ok) {r : Pg × Rx} {D' : List Dl} (h3 : S.q.dropped ≤ r.2.dropped) (h4 : r.2.dropped = S.q.dropped → ∀ sm, delD D' sm = pend S.D S.q sm) {m w : List Sm} (hw : S.q.dropped = 0 → pend S.D S.q m = w) : r.2.dropped = 0 → delD D' m = w := fun h => by
  have h0 := H.d0
  have h5 : S.q.dropped = 0 := by omega
  rw [h4 (by omega), hw h5]
end Go.Proofs.YtfcmcedeapgdcaaGreat
end
section
namespace Go.Proofs.YtfcmcedeapgdcaaGreat
open Go Go.RowKit Go.Vc
set_option linter.unusedVariables false
set_option linter.unusedSimpArgs false
set_option linter.unnecessarySimpa false
set_option maxHeartbeats 4000000 in
theorem c_spec_l10Open {b : Nat} {v : Value} {code : List UInt8} {xl : List Pk} (hL : xl.length ≤ 1000 := by omega) : ConD Tryz.prog 27 112 b v code 35 16 (xl.map pkE) (α := List Sm) (fun m => m.length ≤ xl.length ∧ ∀ s ∈ m, s.data.size ≤ 0) (fun _ => .one (.hs 0)) (fun m => [(0, .arr 109 8 (m.map smE))]) := by
  refine cond_i Tryz.func27 Tryz.ntmps27 (fun L u => ?_)
  refine vc_nf rfl rfl ?_
  refine vc_sr ?_
  refine vo ?_
  refine vnt ?_
  refine vc_sr ?_
  iterate 2 refine vo ?_
  refine vnt ?_
  refine vc_seq' ?_
  refine vc_sr ?_
  refine vo ?_
  refine vnt ?_
  refine vc_block ?_
  refine vc_lp2 [0, 1] [1000001, 1000003, 1000005] (fun (i : Nat) (m : List Sm) => [(5, .one (.hs 7)), (6, I (i : Nat))]) (fun (i : Nat) (m : List Sm) => [(7, .arr 109 8 (m.map smE))]) (fun (i : Nat) (m : List Sm) => i ≤ xl.length ∧ m.length ≤ i ∧ ∀ s ∈ m, s.data.size ≤ 0) (fun (i : Nat) (m : List Sm) => xl.length - i) 0 [] rfl rfl (sub_i [(7, some 72)] (fz ?_) (fz ?_)) ?_ fun i m hI => ?_
  · first | trivial | rfl | trace_state
  · first | trivial | rfl | trace_state
  · exact ⟨Nat.zero_le _, Nat.zero_le _, fun s hs => nomatch hs⟩
  refine vc_nf rfl rfl ?_
  have hm1 := hI.2.1
  refine vc_seq' ?_
  refine vc_sr ?_
  iterate 2 refine vo ?_
  first | refine vkl ?_ | refine vo ?_
  try first | refine vlb ?_ | refine vln ?_
  first | refine vaq ?_ | refine vo ?_
  refine vnt ?_
  refine vc_if (fun g1 => ?_) (fun g1 => ?_)
  · refine vc_skip ?_
    refine thn ?_
    refine vc_seq' ?_
    refine vc_block ?_
    refine vc_sr ?_
    iterate 2 refine vo ?_
    first | refine vkx ?_ | refine vo ?_
    try with_reducible (first | refine vep ?_ | refine vpt ?_)
    first | refine vkd ?_ | refine vo ?_
    refine voc c_spec_FlowOf rfl rfl ?_
    iterate 2 refine vo ?_
    refine vnt ?_
    refine vc_seq' ?_
    refine vc_sv ?_
    refine svo ?_
    refine svo ?_
    refine svo ?_
    refine svo ?_
    refine svsp (fun g2 => ?_) (fun g2 => ?_)
    · refine svon ?_
      refine svon ?_
      refine svocn c_spec_StreamIndex rfl rfl ?_
      refine svon ?_
      refine svo ?_
      refine svo ?_
      refine svsp (fun g3 => ?_) (fun g3 => ?_)
      · refine svon ?_
        refine sven (c_spec_l01Once (n := 6)) (fun o6 ho6 => ?_) 1000001
        refine svon ?_
        refine svo ?_
        refine svnil ?_
        refine thn ?_
        refine vc_if (fun g4 => ?_) (fun g4 => ?_)
        · refine vc_sr ?_
          iterate 2 refine vo ?_
          first | refine vkx ?_ | refine vo ?_
          try with_reducible (first | refine vep ?_ | refine vpt ?_)
          iterate 2 refine vo ?_
          first | refine vkd ?_ | refine vo ?_
          iterate 2 refine vo ?_
          refine vdp [0, 0, 0, 1, 5, -3] c_pick ?_ 1000001
          first | refine vaq ?_ | refine vo ?_
          try refine vwr ?_
          refine vo ?_
          refine vnt ?_
          refine vc_et (d := 8) (xs := ([0, 0, 0, 1, 5, -3] : List Int).map fun x => wr ((at' xl i).seq + x)) (fun y hy => ?_)
          refine vc_region ?_
          refine vo ?_
          first | refine vkd ?_ | refine vo ?_
          refine vo ?_
          first | refine vaq ?_ | refine vo ?_
          iterate 4 refine vo ?_
          refine vnil ?_
          refine inB_n ?_
          refine thn ?_
          refine vc_region ?_
          refine vo ?_
          first | refine vaq ?_ | refine vo ?_
          try refine vwr ?_
          refine vo ?_
          refine vnt ?_
          refine ⟨i + 1, m ++ [⟨(at' xl i).kind, (at' xl i).si, (at' xl i).di, (at' xl i).sp, (at' xl i).dp, andI y 4294967295, ⟨#[]⟩, false⟩], ⟨by omega, by simp; omega, fun s hs => ?_⟩, by omega, sub_i [(7, some 408)] (fz ?_) (fz ?_)⟩
          · rcases List.mem_append.1 hs with h | h
            · exact hI.2.2 s h
            · rw [List.mem_singleton.1 h]; exact Nat.le_refl 0
          · first | trivial | rfl | omega | trace_state
          · first | (rw [List.map_append]; rfl) | exact ⟨by rw [List.map_append]; rfl, rfl⟩ | trace_state
        · refine vc_skip ?_
          refine inB_n ?_
          refine thn ?_
          refine vc_region ?_
          refine vo ?_
          first | refine vaq ?_ | refine vo ?_
          try refine vwr ?_
          refine vo ?_
          refine vnt ?_
          refine ⟨i + 1, m, ⟨by omega, by omega, hI.2.2⟩, by omega, sub_i [(7, some 7)] (fz ?_) (fz ?_)⟩
          · first | trivial | rfl | omega | trace_state
          · first | trivial | rfl | exact ⟨rfl, rfl⟩ | trace_state
      · refine svof ?_
        refine svof ?_
        refine svof ?_
        refine svo ?_
        refine svnil ?_
        refine thn ?_
        refine vc_else ?_
        refine vc_skip ?_
        refine inB_n ?_
        refine thn ?_
        refine vc_region ?_
        refine vo ?_
        first | refine vaq ?_ | refine vo ?_
        try refine vwr ?_
        refine vo ?_
        refine vnt ?_
        refine ⟨i + 1, m, ⟨by omega, by omega, hI.2.2⟩, by omega, sub_i [(7, some 7)] (fz ?_) (fz ?_)⟩
        · first | trivial | rfl | omega | trace_state
        · first | trivial | rfl | exact ⟨rfl, rfl⟩ | trace_state
    · refine svof ?_
      refine svof ?_
      refine svof ?_
      refine svof ?_
      refine svo ?_
      refine svo ?_
      refine svof ?_
      refine svof ?_
      refine svof ?_
      refine svo ?_
      refine svnil ?_
      refine thn ?_
      refine vc_else ?_
      refine vc_skip ?_
      refine inB_n ?_
      refine thn ?_
      refine vc_region ?_
      refine vo ?_
      first | refine vaq ?_ | refine vo ?_
      try refine vwr ?_
      refine vo ?_
      refine vnt ?_
      refine ⟨i + 1, m, ⟨by omega, by omega, hI.2.2⟩, by omega, sub_i [(7, some 7)] (fz ?_) (fz ?_)⟩
      · first | trivial | rfl | omega | trace_state
      · first | trivial | rfl | exact ⟨rfl, rfl⟩ | trace_state
  · refine vc_exit ?_
    refine thn_x ?_
    refine thn_x ?_
    refine inB_x ?_
    refine thn ?_
    refine vc_sr ?_
    iterate 2 refine vo ?_
    refine vnt ?_
    refine vc_ret ?_
    refine fin_g (m) (⟨by omega, hI.2.2⟩) [(1000001, some 1000001), (1000005, some 1000005), (1000003, some 1000003), (0, some 7)] rfl (fz ?_) (fz ?_) <;> first | trivial | rfl | trace_state
theorem eqk_Stream : EqOk Tryz.prog 109 [0, 0, 0, 0, 0, 0, 2, 1] := eqOk_of 4 (by kernel_rfl) (by decide) (by kernel_rfl) (by kernel_rfl)
def smS (a b : List Sm) : Bool := decide (a.length = b.length) && (List.range a.length).all fun i => ceqV (smE (at' a i)) (smE (at' b i))
theorem smS_refl (a : List Sm) : smS a a = true := by
  unfold smS
  rw [decide_eq_true rfl, Bool.true_and, List.all_eq_true]
  intro i _
  simp [smE, ceqV]
theorem smS_len {a b : List Sm} (h : ¬ (a.length : Int) = b.length) : smS a b = false := by
  unfold smS
  rw [decide_eq_false (fun e => h (by rw [e]))]; rfl
theorem smS_at {a b : List Sm} {i : Nat} (hi : i < a.length) (h : ceqV (smE (at' a i)) (smE (at' b i)) = false) : smS a b = false := by
  cases e : smS a b with
  | false => rfl
  | true =>
    unfold smS at e
    rw [Bool.and_eq_true, List.all_eq_true] at e
    rw [e.2 i (List.mem_range.2 hi)] at h
    cases h
theorem smS_y {a b : List Sm} {i : Nat} (hl : (a.length : Int) = b.length) (hi : ¬ i < a.length) (h : ∀ j, j < i → ceqV (smE (at' a j)) (smE (at' b j)) = true) : smS a b = true := by
  unfold smS
  rw [decide_eq_true (show a.length = b.length by omega), Bool.true_and, List.all_eq_true]
  intro j hj
  exact h j (by have := List.mem_range.1 hj; omega)
set_option maxHeartbeats 4000000 in
theorem c_laws_sameStreams {a b : List Sm} (ha : a.length ≤ 1099511627776 := by first | with_reducible assumption | omega) (hb : b.length ≤ 1099511627776 := by first | with_reducible assumption | omega) : Con0 Tryz.prog 18 [.one (.sl 8 (a.map smE)), .one (.sl 8 (b.map smE))] (B (smS a b)) [] := by
  have hE := eqk_Stream
  refine con_i Tryz.func18 Tryz.ntmps18 (t := [(0, .one (.sl 8 (a.map smE))), (1, .one (.sl 8 (b.map smE)))]) rfl ?_
  refine vc_sr ?_
  refine vo ?_
  refine vnt ?_
  refine vc_seq' ?_
  refine vc_sr ?_
  iterate 2 refine vo ?_
  try first | refine vlb ?_ | refine vln ?_
  iterate 2 refine vo ?_
  try first | refine vlb ?_ | refine vln ?_
  refine vo ?_
  refine vnt ?_
  refine vc_if (fun g1 => ?_) (fun g1 => ?_)
  · refine vc_sr ?_
    refine vo ?_
    refine vnt ?_
    refine vc_ret ?_
    refine thn_r ?_
    have hh := smS_len g1
    rw [hh]
    refine fin_i [] rfl (fz ?_) (fz ?_) <;> first | trivial | rfl
  · refine vc_skip ?_
    refine thn ?_
    refine vc_seq' ?_
    refine vc_sr ?_
    refine vo ?_
    refine vnt ?_
    refine vc_block ?_
    refine vc_lp (σ := Nat) [0, 1] [] (fun i => [(5, I (i : Nat))]) (fun i => []) (fun i => i ≤ a.length ∧ ∀ j, j < i → ceqV (smE (at' a j)) (smE (at' b j)) = true) (fun i => a.length - i) 0 rfl rfl (sub_i [] (fz ?_) (fz ?_)) ?_ fun i hI => ?_
    · first | trivial | simp
    · first | trivial | simp
    · exact ⟨Nat.zero_le _, fun j h => nomatch h⟩
    refine vc_nf rfl rfl ?_
    refine vc_seq' ?_
    refine vc_sr ?_
    iterate 3 refine vo ?_
    try first | refine vlb ?_ | refine vln ?_
    refine vo ?_
    refine vnt ?_
    refine vc_if (fun g2 => ?_) (fun g2 => ?_)
    · refine vc_skip ?_
      refine thn ?_
      refine vc_seq' ?_
      refine vc_block ?_
      refine vc_sr ?_
      iterate 3 refine vo ?_
      try with_reducible (first | refine vep ?_ | refine vpt ?_)
      iterate 4 refine vo ?_
      try with_reducible (first | refine vep ?_ | refine vpt ?_)
      iterate 2 refine vo ?_
      refine vnt ?_
      refine vc_if (fun g3 => ?_) (fun g3 => ?_)
      · refine vc_sr ?_
        refine vo ?_
        refine vnt ?_
        refine vc_ret ?_
        refine inB_r ?_
        refine thn_r ?_
        refine thn_r ?_
        refine inB_r ?_
        refine thn_r ?_
        have hh : smS a b = false := smS_at (by omega) g3
        rw [hh]
        refine fin_i [] rfl (fz ?_) (fz ?_) <;> first | trivial | rfl
      · refine vc_skip ?_
        refine inB_n ?_
        refine thn ?_
        refine vc_region ?_
        iterate 2 refine vo ?_
        try refine vwr ?_
        refine vo ?_
        refine vnt ?_
        refine ⟨i + 1, ?_, ?_, sub_i [] (fz ?_) (fz ?_)⟩
        · exact ⟨by omega, fun j hj => by rcases (show j < i ∨ j = i by omega) with h | h <;> first | exact hI.2 j h | (subst h; exact g3)⟩
        · omega
        all_goals first | trivial | rfl | omega | simp
    · refine vc_exit ?_
      refine thn_x ?_
      refine thn_x ?_
      refine inB_x ?_
      refine thn ?_
      refine vc_sr ?_
      refine vo ?_
      refine vnt ?_
      refine vc_ret ?_
      have hh := smS_y g1 (by omega) hI.2
      rw [hh]
      refine fin_i [] rfl (fz ?_) (fz ?_) <;> first | trivial | rfl
set_option maxHeartbeats 4000000 in
theorem c_impl_HasCompletion {l : List Mp} {ps : Pg} {d : Int} {rb rs rh rt db ds dc vb vs vc dm sm vl tos id ttl si di kind sp dp seq ack fl win size count dropped : Int} {body : ByteArray} {hold : Bool} (hl : l.length ≤ 1099511627776 := by first | with_reducible assumption | omega) (hp : ps.length ≤ 1099511627776 := by first | with_reducible assumption | omega) : Con0 Tryz.prog 17 [.one (.sl 4 (l.map mpE)), .agg [.sl 1 (ps.map strE)], I d, .agg [V rb, V rs, V rh, V rt, V db, V ds, V dc, V vb, V vs, V vc, V dm, V sm, V vl, V tos, V id, V ttl, V si, V di, V kind, V sp, V dp, V seq, V ack, V fl, V win, VS body, V size, V count, VB hold, V dropped]] (B (rxOkB rb rs rh rt db ds dc vb vs vc dm sm vl tos id ttl si di kind sp dp seq ack fl win body size count hold dropped && (nextF l ps d vb vs vc).2.2)) [] := by
  refine con_i Tryz.func17 Tryz.ntmps17 (t := [(0, .one (.sl 4 (l.map mpE))), (1, .agg [.sl 1 (ps.map strE)]), (2, I d), (3, .agg [V rb, V rs, V rh, V rt, V db, V ds, V dc, V vb, V vs, V vc, V dm, V sm, V vl, V tos, V id, V ttl, V si, V di, V kind, V sp, V dp, V seq, V ack, V fl, V win, VS body, V size, V count, VB hold, V dropped])]) rfl ?_
  refine vc_sr ?_
  iterate 3 refine vo ?_
  refine vnt ?_
  refine vc_seq' ?_
  refine vc_sr ?_
  refine vo ?_
  refine voc c_impl_RxOk rfl rfl ?_
  refine vo ?_
  refine vnt ?_
  refine vc_if (fun g1 => ?_) (fun g1 => ?_)
  · refine vc_sr ?_
    refine vo ?_
    refine vnt ?_
    refine vc_ret ?_
    refine thn_r ?_
    have hh : (rxOkB rb rs rh rt db ds dc vb vs vc dm sm vl tos id ttl si di kind sp dp seq ack fl win body size count hold dropped && (nextF l ps d vb vs vc).2.2) = false := by rw [g1]; rfl
    rw [hh]
    refine fin_i [] rfl (fz ?_) (fz ?_) <;> first | trivial | rfl
  · refine vc_skip ?_
    refine thn ?_
    refine vc_sr ?_
    iterate 5 refine vo ?_
    refine voc c_impl_NextCompletion rfl rfl ?_
    iterate 9 refine vo ?_
    refine vnt ?_
    refine vc_sr ?_
    iterate 2 refine vo ?_
    refine vnt ?_
    refine vc_ret ?_
    have hh : (rxOkB rb rs rh rt db ds dc vb vs vc dm sm vl tos id ttl si di kind sp dp seq ack fl win body size count hold dropped && (nextF l ps d vb vs vc).2.2) = (nextF l ps d vb vs vc).2.2 := by rw [g1]; rfl
    rw [hh]
    refine fin_i [] rfl (fz ?_) (fz ?_) <;> first | trivial | rfl
theorem ten4_ok : poolB 256 384 4 (tenF 4) = true := by decide
theorem l16_ok : ∀ i : Fin 17, mapsOk (L16.take i.val) = true := by decide +kernel
theorem l16_stp {i : Nat} (h : i < 16) : L16.take i ++ [((0 : Int), (i : Int), 15 - (i : Int), true)] = L16.take (i + 1) := by
  rw [List.take_succ_eq_append_getElem (by rw [L16_len]; exact h), L16_at (by rw [L16_len]; exact h)]
theorem l16_end : L16.take 16 = L16 := List.take_of_length_le (by rw [L16_len]; exact Nat.le_refl _)
set_option maxHeartbeats 4000000 in
theorem c_NewPool4  : Con0 Tryz.prog 22 [I 256, I 384, I 4] (.tup [.agg [V 256, V 384, V 4, .hs 0], B true]) [(0, .arr 3 1 ((tenF 4).map intE))] := by
  refine con_i Tryz.func22 Tryz.ntmps22 (t := [(0, I 256), (1, I 384), (2, I 4)]) rfl ?_
  refine vc_sr ?_
  iterate 2 refine vo ?_
  refine vnt ?_
  refine vc_sr ?_
  iterate 6 refine vo ?_
  refine vnt ?_
  refine vc_seq' ?_
  refine vc_sr ?_
  refine vo ?_
  refine vnt ?_
  refine vc_block ?_
  refine vc_lp (σ := Nat) [2, 6, 8] [48] (fun i => [(9, I (i : Nat))]) (fun i => [(7, .arr 3 1 ((tenF i).map intE)), (64, .row 42 [V 256, V 384, V 4, .hs 7])]) (fun i => i ≤ 4) (fun i => 4 - i) 0 rfl rfl (sub_i [(64, some 64), (7, none)] (fz ?_) (fz ?_)) ?_ fun i hI => ?_
  · first | trivial | rfl | exact ⟨rfl, rfl⟩ | exact ⟨rfl, rfl, rfl⟩ | trace_state
  · first | trivial | rfl | exact ⟨rfl, rfl⟩ | exact ⟨rfl, rfl, rfl⟩ | trace_state
  · omega
  refine vc_nf rfl rfl ?_
  have hln := tenF_len i
  refine vc_seq' ?_
  refine vc_sr ?_
  iterate 4 refine vo ?_
  refine vsp (fun g1 => ?_) (fun g1 => ?_)
  · iterate 2 refine von ?_
    refine vo ?_
    refine vnt ?_
    refine vc_if (fun g2 => ?_) (fun g2 => ?_)
    · refine vc_skip ?_
      refine thn ?_
      refine vc_seq' ?_
      refine vc_block ?_
      refine vc_region ?_
      iterate 7 refine vo ?_
      refine vnil ?_
      refine inB_n ?_
      refine thn ?_
      refine vc_region ?_
      iterate 2 refine vo ?_
      try refine vwr ?_
      refine vo ?_
      refine vnt ?_
      refine ⟨i + 1, by omega, by omega, sub_i [(64, some 64), (7, some 216)] (fz ?_) (fz ?_)⟩
      · omega
      · exact (rng_stp i).symm
    · exact absurd g2 (by omega)
  · have hi : i = 4 := by omega
    subst hi
    iterate 2 refine vof ?_
    refine vo ?_
    refine vnt ?_
    refine vc_else ?_
    refine vc_exit ?_
    refine thn_x ?_
    refine thn_x ?_
    refine inB_x ?_
    refine thn ?_
    refine vc_seq' ?_
    refine vc_sr ?_
    refine vo ?_
    refine voc c_spec_PoolOk rfl rfl ?_
    refine vo ?_
    refine vnt ?_
    refine vc_if (fun g3 => ?_) (fun g3 => ?_)
    · rw [ten4_ok] at g3; cases g3
    · refine vc_skip ?_
      refine thn ?_
      refine vc_sr ?_
      iterate 3 refine vo ?_
      refine vnt ?_
      refine vc_ret ?_
      refine fin_i [(0, some 7)] rfl (fz ?_) (fz ?_) <;> first | trivial | rfl | trace_state
set_option maxHeartbeats 4000000 in
theorem c_spec_DrawReceiving {v : Value} {code : List UInt8} (hv : v.oneCell' = true)  : ConV Tryz.prog 7 v code (α := DRx) (fun x => x.ok) (fun x => .tup [.one (.hs 0), .agg [.hs 1], .agg [V 0, V 4, V x.k, V x.t, V 128, V 4, V 0, V 128, V 4, V 0, V 0, V 0, V 0, V 0, V 0, V 0, V 0, V 0, V 0, V 0, V 0, V 0, V 0, V 0, V 0, VS ⟨#[]⟩, V 0, V 0, VB false, V 0], .agg [V 256, V 384, V 4, .hs 2], Z x.key, .one (.hs 3), .one (.hs 4)]) (fun x => [(0, .arr 68 4 (L16.map mpE)), (1, .arr 9 1 (x.ps.map strE)), (2, .arr 3 1 (([] : List Int).map intE)), (3, .arr 35 16 (x.pk.map pkE)), (4, .arr 109 8 (x.sm.map smE))]) := by
  refine conv_i Tryz.func7 Tryz.ntmps7 (fun L => ?_) hv
  refine vc_nf rfl rfl ?_
  refine vc_sr ?_
  iterate 7 refine vo ?_
  refine vnt ?_
  refine vc_seq' ?_
  refine vc_sv ?_
  refine svo ?_
  refine svv c_spec_l01New (fun B hB => ?_)
  refine svo ?_
  refine svnil ?_
  refine thn ?_
  refine vc_sr ?_
  iterate 2 refine vo ?_
  refine vnt ?_
  refine vc_seq' ?_
  refine vc_sr ?_
  refine vo ?_
  refine vnt ?_
  refine vc_block ?_
  refine vc_lp (σ := Nat) [3, 4, 5, 9] [24, 32, 40, 168, 1000003] (fun i => [(10, .one (.hs 7)), (11, I (i : Nat))]) (fun i => [(7, .arr 68 4 ((L16.take i).map mpE))]) (fun i => i ≤ 16) (fun i => 16 - i) 0 rfl rfl (sub_i [(7, some 176)] (fz ?_) (fz ?_)) ?_ fun i hI => ?_
  · first | trivial | rfl | exact ⟨rfl, rfl⟩ | exact ⟨rfl, rfl, rfl⟩ | trace_state
  · first | trivial | rfl | exact ⟨rfl, rfl⟩ | exact ⟨rfl, rfl, rfl⟩ | trace_state
  · omega
  refine vc_nf rfl rfl ?_
  have hln : (L16.take i).length = i := by rw [List.length_take, L16_len]; omega
  refine vc_seq' ?_
  refine vc_sr ?_
  iterate 2 refine vo ?_
  refine vnt ?_
  refine vc_if (fun g1 => ?_) (fun g1 => ?_)
  · refine vc_skip ?_
    refine thn ?_
    refine vc_seq' ?_
    refine vc_block ?_
    refine vc_region ?_
    iterate 4 refine vo ?_
    try refine vwr ?_
    refine vo ?_
    refine voc (c_spec_MapPage (l := L16.take i) (x := ((0 : Int), (i : Int), 15 - (i : Int), true)) (h1 := l16_ok ⟨i, by omega⟩) (h2 := by rw [l16_stp (by omega)]; exact l16_ok ⟨i + 1, by omega⟩)) rfl rfl ?_
    iterate 4 refine vo ?_
    refine vnil ?_
    refine inB_n ?_
    refine thn ?_
    refine vc_region ?_
    iterate 2 refine vo ?_
    try refine vwr ?_
    refine vo ?_
    refine vnt ?_
    refine ⟨i + 1, by omega, by omega, sub_i [(7, some 264)] (fz ?_) (fz ?_)⟩
    · first | trivial | rfl | omega | trace_state
    · rw [l16_stp (show i < 16 by omega)]; first | done | trivial | rfl
  · have hi : i = 16 := by omega
    subst hi
    rw [l16_end]
    refine vc_exit ?_
    refine thn_x ?_
    refine thn_x ?_
    refine inB_x ?_
    refine thn ?_
    refine vc_sr ?_
    iterate 5 refine vo ?_
    refine vnt ?_
    refine vc_seq' ?_
    refine vc_sv ?_
    refine svo ?_
    refine sve (c_spec_l01Below (n := 8)) (fun k hk => ?_) 168
    obtain ⟨qs, t9, hfe, hRI⟩ := start_fill (k := k) (by omega)
    obtain ⟨r, hr⟩ : ∃ r, fillRF L16 ps16 0 0 4 k k 256 384 4 (tenF 4) = r := ⟨_, rfl⟩
    have hr9 : r = (qs, t9, [], 4) := hr.symm.trans hfe
    refine svo ?_
    refine svnil ?_
    refine thn ?_
    refine vc_sr ?_
    iterate 4 refine vo ?_
    refine vnt ?_
    refine vc_sr ?_
    iterate 4 refine vo ?_
    refine vnt ?_
    refine vc_sr ?_
    iterate 4 refine vo ?_
    refine vnt ?_
    refine vc_sr ?_
    refine voc c_NewPool4 rfl rfl ?_
    iterate 6 refine vo ?_
    refine vnt ?_
    refine vc_sr ?_
    refine vo ?_
    refine voc c_spec_NewMemory rfl rfl ?_
    iterate 3 refine vo ?_
    refine voc (c_spec_FillRing (l := L16) (ps := ps16) (d := 0) (b := 0) (s := 4) (h := k) (t := k) (pb := 256) (pz := 384) (pc := 4) (fr := tenF 4) (hl := by rw [L16_len]; decide) (hp := by decide) (hl_fr := by decide)) rfl rfl ?_
    rw [hr]
    iterate 11 refine vo ?_
    refine vnt ?_
    refine vc_sr ?_
    iterate 3 refine vo ?_
    refine vnt ?_
    refine vc_seq' ?_
    refine vc_sv ?_
    refine svo ?_
    refine sve (c_spec_l09List (most := 8)) (fun pk hpk => ?_) 168
    refine svo ?_
    refine svnil ?_
    refine thn ?_
    refine vc_sr ?_
    iterate 5 refine vo ?_
    refine vds c_spec_l11Key ?_ 168
    iterate 3 refine vo ?_
    refine vdd (c_spec_l10Open (xl := pk)) ?_ 168
    iterate 7 refine vo ?_
    refine vnt ?_
    refine vc_es (d := 6) (fun key hkey => ?_)
    refine vc_eo (k := 624) (fun sm hsm => ?_)
    refine vc_ret ?_
    subst hr9
    refine fin_g (⟨k, t9, qs, key, pk, sm⟩) (⟨hRI, hkey, ⟨hpk.1.1, by have := hpk.1.2; show pk.length ≤ 8; omega⟩, hpk.2, by have := hpk.1.2; have := hsm.1; show sm.length ≤ 8; omega, hsm.2⟩) [(1000003, some 1000003), (0, some 7), (1, some 480), (2, some 481), (3, some 544), (4, some 624)] rfl (fz ?_) (fz ?_)
    · first | trivial | rfl | trace_state
    · first | trivial | rfl | trace_state
end Go.Proofs.YtfcmcedeapgdcaaGreat
end
section
namespace Go.Proofs.YtfcmcedeapgdcaaGreat
open Go Go.RowKit Go.Vc
set_option linter.unusedVariables false
set_option linter.unusedSimpArgs false
set_option linter.unnecessarySimpa false
set_option maxHeartbeats 4000000 in
theorem c_laws_FnReceivedStreams {v : Value} {code : List UInt8} (hv : v.oneCell' = true)  : ConV Tryz.prog 5 v code (α := Unit) (fun _ => True) (fun _ => .one (.v (.bool true))) (fun _ => []) := by
  refine conv_i Tryz.func5 Tryz.ntmps5 (fun L => ?_) hv
  refine vc_nf rfl rfl ?_
  refine vc_sr ?_
  refine vo ?_
  refine vnt ?_
  refine vc_seq' ?_
  refine vc_sr ?_
  refine vo ?_
  refine voc c_laws_big rfl rfl ?_
  refine vnt ?_
  refine vc_if (fun g1 => ?_) (fun g1 => ?_)
  · refine vc_sr ?_
    refine vo ?_
    refine vnt ?_
    refine vc_ret ?_
    refine thn_r ?_
    refine fin_g (()) (trivial) [(1000003, some 1000003)] rfl (fz ?_) (fz ?_) <;> first | trivial | rfl | trace_state
  · refine vc_skip ?_
    refine thn ?_
    refine vc_seq' ?_
    refine vc_sv ?_
    refine svo ?_
    refine svv (c_spec_DrawReceiving hv) (fun x hx => ?_)
    have hky : x.key.size = 16 := hx.key
    have hpl := hx.len
    have hL16 : L16.length = 16 := L16_len
    have hsl8 := hx.sml
    have hps16 : x.ps.length = 16 := hx.ri.len
    refine svo ?_
    refine svo ?_
    refine svo ?_
    refine svo ?_
    refine svo ?_
    refine svo ?_
    refine svo ?_
    refine svo ?_
    refine svo ?_
    refine svo ?_
    refine svo ?_
    refine svo ?_
    refine svo ?_
    refine svo ?_
    refine svo ?_
    refine svo ?_
    refine svo ?_
    refine svo ?_
    refine svnil ?_
    refine thn ?_
    refine vc_sr ?_
    iterate 2 refine vo ?_
    refine vnt ?_
    refine vc_seq' ?_
    refine vc_sr ?_
    refine vo ?_
    refine vnt ?_
    refine vc_block ?_
    refine vc_lpp3 [0, 3, 4, 5, 6, 7, 8] [184, 187, 1000003] [(9, .one (.hs 11)), (10, .one (.hs 11)), (11, I ((RS.s0 x).k : Int))] [(7, .arr 9 1 ((RS.s0 x).ps.map strE)), (9, .arr 3 1 ((RS.s0 x).fr.map intE)), (11, .arr 109 8 (x.sm.map smE)), (32, .row 27 [.hs 7]), (40, .row 39 [V (RS.s0 x).q.rb, V (RS.s0 x).q.rs, V (RS.s0 x).q.rh, V (RS.s0 x).q.rt, V (RS.s0 x).q.db, V (RS.s0 x).q.ds, V (RS.s0 x).q.dc, V (RS.s0 x).q.vb, V (RS.s0 x).q.vs, V (RS.s0 x).q.vc, V (RS.s0 x).q.dm, V (RS.s0 x).q.sm, V (RS.s0 x).q.vl, V (RS.s0 x).q.tos, V (RS.s0 x).q.id, V (RS.s0 x).q.ttl, V (RS.s0 x).q.si, V (RS.s0 x).q.di, V (RS.s0 x).q.kind, V (RS.s0 x).q.sp, V (RS.s0 x).q.dp, V (RS.s0 x).q.seq, V (RS.s0 x).q.ack, V (RS.s0 x).q.fl, V (RS.s0 x).q.win, VS (RS.s0 x).q.body, V (RS.s0 x).q.size, V (RS.s0 x).q.count, VB (RS.s0 x).q.hold, V (RS.s0 x).q.dropped]), (48, .row 42 [V 256, V 384, V 4, .hs 9])] (fun (S : RS) (m : List Sm) (w : List Sm) => [(9, .one (.hs 11)), (10, .one (.hs 12)), (11, I (S.k : Int))]) (fun (S : RS) (m : List Sm) (w : List Sm) => [(7, .arr 9 1 (S.ps.map strE)), (9, .arr 3 1 (S.fr.map intE)), (11, .arr 109 8 (m.map smE)), (12, .arr 109 8 (w.map smE)), (32, .row 27 [.hs 7]), (40, .row 39 [V S.q.rb, V S.q.rs, V S.q.rh, V S.q.rt, V S.q.db, V S.q.ds, V S.q.dc, V S.q.vb, V S.q.vs, V S.q.vc, V S.q.dm, V S.q.sm, V S.q.vl, V S.q.tos, V S.q.id, V S.q.ttl, V S.q.si, V S.q.di, V S.q.kind, V S.q.sp, V S.q.dp, V S.q.seq, V S.q.ack, V S.q.fl, V S.q.win, VS S.q.body, V S.q.size, V S.q.count, VB S.q.hold, V S.q.dropped]), (48, .row 42 [V 256, V 384, V 4, .hs 9])]) (fun (S : RS) (m : List Sm) (w : List Sm) => S.k ≤ x.pk.length ∧ S.ok ∧ m.length ≤ 8 + 3 * S.k ∧ (∀ s ∈ m, s.data.size ≤ 1200 * S.k) ∧ w.length ≤ 8 + S.k ∧ (∀ s ∈ w, s.data.size ≤ 400 * S.k) ∧ (S.q.dropped = 0 → pend S.D S.q m = w)) (fun (S : RS) (m : List Sm) (w : List Sm) => x.pk.length - S.k) (x.pk.length) rfl rfl (sub_i [(32, some 32), (40, some 40), (48, some 48), (7, some 185), (9, some 186), (11, some 188)] (fz ?_) (fz ?_)) ?_ fun S m w hI => ?_
    · first | trivial | rfl | exact ⟨rfl, rfl⟩ | exact ⟨rfl, rfl, rfl⟩ | exact ⟨rfl, rfl, rfl, rfl⟩ | exact ⟨rfl, rfl, rfl, rfl, rfl⟩ | exact ⟨rfl, rfl, rfl, rfl, rfl, rfl⟩ | trace_state
    · first | trivial | rfl | exact ⟨rfl, rfl⟩ | exact ⟨rfl, rfl, rfl⟩ | exact ⟨rfl, rfl, rfl, rfl⟩ | exact ⟨rfl, rfl, rfl, rfl, rfl⟩ | exact ⟨rfl, rfl, rfl, rfl, rfl, rfl⟩ | trace_state
    · refine vc_nf rfl rfl ?_
      obtain ⟨S, hS⟩ : ∃ S, RS.s0 x = S := ⟨_, rfl⟩
      rw [hS]
      obtain ⟨m, hm⟩ : ∃ m, x.sm = m := ⟨_, rfl⟩
      rw [hm]
      have HS : S.ok := hS ▸ rs_0 hx
      have hk0 : S.k = 0 := by rw [← hS]; rfl
      have hml : m.length ≤ 8 := hm ▸ hx.sml
      have hm0 : ∀ s ∈ m, s.data.size ≤ 0 := hm ▸ hx.sms
      have hmz0 : ∀ s ∈ m, s.data.size ≤ 1200 * S.k := fun s hs => Nat.le_trans (hm0 s hs) (Nat.zero_le _)
      have hwz0 : ∀ s ∈ m, s.data.size ≤ 400 * S.k := fun s hs => Nat.le_trans (hm0 s hs) (Nat.zero_le _)
      have hpe : S.q.dropped = 0 → pend S.D S.q m = m := fun _ => by rw [← hS]; exact rs_0p x m
      have hsl := S.len HS
      have hln1 := hsl.1
      have hln2 := hsl.2
      have hk8 : S.k ≤ 8 := by omega
      have hmz : ∀ s ∈ m, s.data.size ≤ 100000000000 := fun s hs => Nat.le_trans (hmz0 s hs) (by omega)
      have hmz2 : ∀ s ∈ m, s.data.size ≤ 1000000000000 := fun s hs => Nat.le_trans (hwz0 s hs) (by omega)
      refine vc_seq' ?_
      refine vc_sr ?_
      iterate 3 refine vo ?_
      try first | refine vlb ?_ | refine vln ?_
      refine vo ?_
      refine vnt ?_
      refine vc_if (fun g2 => ?_) (fun g2 => ?_)
      · obtain ⟨r, hr⟩ : ∃ r, rp S.ps S.q x.key (at' x.pk S.k) (decide (0 < atC code (S.k : Int) % 4)) = r := ⟨_, rfl⟩
        obtain ⟨h1, dc1, E1, D1, st1, st2, st3, st4⟩ := rs_rp HS (by omega) hky (dr_pk hx g2).1 hr
        have hln3 := (RS.len st1).1
        have hln3b : r.1.length = 16 := hln3
        have hln4 := (RS.len st1).2
        obtain ⟨hbd1, hbd2, hbd3, hbd4⟩ := rs_bd st1
        have hct : ((S.k : Nat) : Int).toNat = S.k := by omega
        refine vc_skip ?_
        refine thn ?_
        refine vc_seq' ?_
        refine vc_block ?_
        refine vc_sr ?_
        iterate 7 refine vo ?_
        try with_reducible (first | refine vep ?_ | refine vpt ?_)
        iterate 3 refine vo ?_
        refine voc (c_laws_at (k := (S.k : Int))) rfl rfl ?_
        have ha0 := atC_bd code (S.k : Int)
        refine vo ?_
        try refine veq (Int.tmod_eq_emod_of_nonneg (by omega)) ?_
        refine vo ?_
        refine voc (c_impl_ReceivePacket (hr := hr)) rfl rfl ?_
        iterate 7 refine vo ?_
        refine vnt ?_
        refine vc_sr ?_
        iterate 2 refine vo ?_
        refine vnt ?_
        refine vc_sr ?_
        iterate 2 refine vo ?_
        refine vnt ?_
        refine vc_sr ?_
        iterate 4 refine vo ?_
        try with_reducible (first | refine vep ?_ | refine vpt ?_)
        refine vo ?_
        refine voc (c_spec_Deliver (l := m) (p := (at' x.pk S.k))) rfl rfl ?_
        refine vo ?_
        refine vnt ?_
        refine vc_sr ?_
        iterate 3 refine vo ?_
        try refine vwr ?_
        refine voc (c_laws_at (k := (S.k : Int) + 1)) rfl rfl ?_
        have ha1 := atC_bd code ((S.k : Int) + 1)
        refine vo ?_
        try refine veq (Int.tmod_eq_emod_of_nonneg (by omega)) ?_
        refine vo ?_
        refine vnt ?_
        refine vc_if (fun g3 => ?_) (fun g3 => ?_)
        · obtain ⟨r2, hr2⟩ : ∃ r2, pqF (rxOkB r.2.rb r.2.rs r.2.rh r.2.rt r.2.db r.2.ds r.2.dc r.2.vb r.2.vs r.2.vc r.2.dm r.2.sm r.2.vl r.2.tos r.2.id r.2.ttl r.2.si r.2.di r.2.kind r.2.sp r.2.dp r.2.seq r.2.ack r.2.fl r.2.win r.2.body r.2.size r.2.count r.2.hold r.2.dropped && (poolB 256 384 4 S.fr && inB (1 + atC code ((S.k : Int) + 2) % 3) 0 1000)) L16 r.1 0 r.2.rb r.2.rs r.2.rh r.2.rt r.2.vb r.2.vs r.2.vc 256 384 4 S.fr m (1 + atC code ((S.k : Int) + 2) % 3) = r2 := ⟨_, rfl⟩
          have ha2 := atC_bd code ((S.k : Int) + 2)
          obtain ⟨E2, pl1, pl2, pl3, pl4⟩ := rs_poll (S := S.go r h1 dc1 E1 D1) st1 (by show S.k + 1 ≤ 1000; omega) (bud := (1 + atC code ((S.k : Int) + 2) % 3)) (by omega) (sm := m) (ok := true) hr2
          refine vc_sr ?_
          iterate 8 refine vo ?_
          try refine vwr ?_
          refine voc (c_laws_at (k := (S.k : Int) + 2)) rfl rfl ?_
          refine vo ?_
          try refine veq (Int.tmod_eq_emod_of_nonneg (by omega)) ?_
          refine vo ?_
          try refine vwr ?_
          refine voc (c_impl_PollQueue (hr := hr2)) rfl rfl ?_
          iterate 14 refine vo ?_
          refine vnt ?_
          refine vc_sr ?_
          iterate 2 refine vo ?_
          refine vnt ?_
          refine vc_sr ?_
          iterate 2 refine vo ?_
          refine vnt ?_
          refine vc_sr ?_
          iterate 2 refine vo ?_
          refine vnt ?_
          refine vc_region ?_
          iterate 2 refine vo ?_
          refine vnil ?_
          refine inB_n ?_
          refine thn ?_
          refine vc_region ?_
          iterate 2 refine vo ?_
          try refine vwr ?_
          refine vo ?_
          refine vnt ?_
          have hpr := pend_rp HS st3 st4 hpe
          have hwl := dlF_len m (at' x.pk S.k)
          have hwz := dlF_sz (p := (at' x.pk S.k)) hwz0
          have hdl := delD_len (D1.take (1 + atC code ((S.k : Int) + 2) % 3).toNat) m
          have hdk : (D1.take (1 + atC code ((S.k : Int) + 2) % 3).toNat).length ≤ 3 := by rw [List.length_take]; omega
          have hdz := delD_sz (M := 1200 * S.k) (D1.take (1 + atC code ((S.k : Int) + 2) % 3).toNat) m 3 hdk hmz0
          refine ⟨(S.go r h1 dc1 E1 D1).poll r2.1 r2.2.1 r2.2.2.1 E2 (1 + atC code ((S.k : Int) + 2) % 3).toNat, delD (D1.take (1 + atC code ((S.k : Int) + 2) % 3).toNat) m, dlF m (at' x.pk S.k), ⟨by show S.k + 1 ≤ _; omega, pl1, by show (delD (D1.take (1 + atC code ((S.k : Int) + 2) % 3).toNat) m).length ≤ 8 + 3 * (S.k + 1); omega, fun s hs => Nat.le_trans (hdz s hs) (by show 1200 * S.k + 400 * 3 ≤ 1200 * (S.k + 1); omega), by show (dlF m (at' x.pk S.k)).length ≤ 8 + (S.k + 1); omega, fun s hs => Nat.le_trans (hwz s hs) (by show 400 * S.k + 400 ≤ 400 * (S.k + 1); omega), fun h => (pl4 m).trans (hpr h)⟩, by show x.pk.length - (S.k + 1) ≤ x.pk.length; omega, sub_i [(32, some 32), (40, some 40), (48, some 48), (7, some 648), (9, some 649), (11, some 650), (12, some 496)] (fz ?_) (fz ?_)⟩
          · first | trivial | rfl | trace_state
          · refine ⟨rfl, congrArg (List.map intE) pl2.symm, congrArg (List.map smE) pl3.symm, ?_⟩; repeat (first | exact rfl | exact trivial | refine ⟨rfl, ?_⟩)
        · refine vc_skip ?_
          refine inB_n ?_
          refine thn ?_
          refine vc_region ?_
          iterate 2 refine vo ?_
          try refine vwr ?_
          refine vo ?_
          refine vnt ?_
          have hpr := pend_rp HS st3 st4 hpe
          have hwl := dlF_len m (at' x.pk S.k)
          have hwz := dlF_sz (p := (at' x.pk S.k)) hwz0
          refine ⟨S.go r h1 dc1 E1 D1, m, dlF m (at' x.pk S.k), ⟨by show S.k + 1 ≤ _; omega, st1, by show m.length ≤ 8 + 3 * (S.k + 1); omega, fun s hs => Nat.le_trans (hmz0 s hs) (by show 1200 * S.k ≤ 1200 * (S.k + 1); omega), by show (dlF m (at' x.pk S.k)).length ≤ 8 + (S.k + 1); omega, fun s hs => Nat.le_trans (hwz s hs) (by show 400 * S.k + 400 ≤ 400 * (S.k + 1); omega), hpr⟩, by show x.pk.length - (S.k + 1) ≤ x.pk.length; omega, sub_i [(32, some 32), (40, some 40), (48, some 48), (7, some 416), (9, some 9), (11, some 11), (12, some 496)] (fz ?_) (fz ?_)⟩
          · first | trivial | rfl | trace_state
          · first | trivial | rfl | exact ⟨rfl, rfl⟩ | exact ⟨rfl, rfl, rfl⟩ | exact ⟨rfl, rfl, rfl, rfl⟩ | exact ⟨rfl, rfl, rfl, rfl, rfl⟩ | exact ⟨rfl, rfl, rfl, rfl, rfl, rfl⟩ | trace_state
      · exact absurd g2 (by omega)
    refine vc_nf rfl rfl ?_
    have HS := hI.2.1
    have hml := hI.2.2.1
    have hmz0 := hI.2.2.2.1
    have hwl0 := hI.2.2.2.2.1
    have hwz0 := hI.2.2.2.2.2.1
    have hpe := hI.2.2.2.2.2.2
    have hsl := S.len HS
    have hln1 := hsl.1
    have hln2 := hsl.2
    have hk8 : S.k ≤ 8 := by omega
    have hmz : ∀ s ∈ m, s.data.size ≤ 100000000000 := fun s hs => Nat.le_trans (hmz0 s hs) (by omega)
    have hmz2 : ∀ s ∈ w, s.data.size ≤ 1000000000000 := fun s hs => Nat.le_trans (hwz0 s hs) (by omega)
    refine vc_seq' ?_
    refine vc_sr ?_
    iterate 3 refine vo ?_
    try first | refine vlb ?_ | refine vln ?_
    refine vo ?_
    refine vnt ?_
    refine vc_if (fun g4 => ?_) (fun g4 => ?_)
    · obtain ⟨r, hr⟩ : ∃ r, rp S.ps S.q x.key (at' x.pk S.k) (decide (0 < atC code (S.k : Int) % 4)) = r := ⟨_, rfl⟩
      obtain ⟨h1, dc1, E1, D1, st1, st2, st3, st4⟩ := rs_rp HS (by omega) hky (dr_pk hx g4).1 hr
      have hln3 := (RS.len st1).1
      have hln3b : r.1.length = 16 := hln3
      have hln4 := (RS.len st1).2
      obtain ⟨hbd1, hbd2, hbd3, hbd4⟩ := rs_bd st1
      have hct : ((S.k : Nat) : Int).toNat = S.k := by omega
      refine vc_skip ?_
      refine thn ?_
      refine vc_seq' ?_
      refine vc_block ?_
      refine vc_sr ?_
      iterate 7 refine vo ?_
      try with_reducible (first | refine vep ?_ | refine vpt ?_)
      iterate 3 refine vo ?_
      refine voc (c_laws_at (k := (S.k : Int))) rfl rfl ?_
      have ha0 := atC_bd code (S.k : Int)
      refine vo ?_
      try refine veq (Int.tmod_eq_emod_of_nonneg (by omega)) ?_
      refine vo ?_
      refine voc (c_impl_ReceivePacket (hr := hr)) rfl rfl ?_
      iterate 7 refine vo ?_
      refine vnt ?_
      refine vc_sr ?_
      iterate 2 refine vo ?_
      refine vnt ?_
      refine vc_sr ?_
      iterate 2 refine vo ?_
      refine vnt ?_
      refine vc_sr ?_
      iterate 4 refine vo ?_
      try with_reducible (first | refine vep ?_ | refine vpt ?_)
      refine vo ?_
      refine voc (c_spec_Deliver (l := w) (p := (at' x.pk S.k))) rfl rfl ?_
      refine vo ?_
      refine vnt ?_
      refine vc_sr ?_
      iterate 3 refine vo ?_
      try refine vwr ?_
      refine voc (c_laws_at (k := (S.k : Int) + 1)) rfl rfl ?_
      have ha1 := atC_bd code ((S.k : Int) + 1)
      refine vo ?_
      try refine veq (Int.tmod_eq_emod_of_nonneg (by omega)) ?_
      refine vo ?_
      refine vnt ?_
      refine vc_if (fun g5 => ?_) (fun g5 => ?_)
      · obtain ⟨r2, hr2⟩ : ∃ r2, pqF (rxOkB r.2.rb r.2.rs r.2.rh r.2.rt r.2.db r.2.ds r.2.dc r.2.vb r.2.vs r.2.vc r.2.dm r.2.sm r.2.vl r.2.tos r.2.id r.2.ttl r.2.si r.2.di r.2.kind r.2.sp r.2.dp r.2.seq r.2.ack r.2.fl r.2.win r.2.body r.2.size r.2.count r.2.hold r.2.dropped && (poolB 256 384 4 S.fr && inB (1 + atC code ((S.k : Int) + 2) % 3) 0 1000)) L16 r.1 0 r.2.rb r.2.rs r.2.rh r.2.rt r.2.vb r.2.vs r.2.vc 256 384 4 S.fr m (1 + atC code ((S.k : Int) + 2) % 3) = r2 := ⟨_, rfl⟩
        have ha2 := atC_bd code ((S.k : Int) + 2)
        obtain ⟨E2, pl1, pl2, pl3, pl4⟩ := rs_poll (S := S.go r h1 dc1 E1 D1) st1 (by show S.k + 1 ≤ 1000; omega) (bud := (1 + atC code ((S.k : Int) + 2) % 3)) (by omega) (sm := m) (ok := true) hr2
        refine vc_sr ?_
        iterate 8 refine vo ?_
        try refine vwr ?_
        refine voc (c_laws_at (k := (S.k : Int) + 2)) rfl rfl ?_
        refine vo ?_
        try refine veq (Int.tmod_eq_emod_of_nonneg (by omega)) ?_
        refine vo ?_
        try refine vwr ?_
        refine voc (c_impl_PollQueue (hr := hr2)) rfl rfl ?_
        iterate 14 refine vo ?_
        refine vnt ?_
        refine vc_sr ?_
        iterate 2 refine vo ?_
        refine vnt ?_
        refine vc_sr ?_
        iterate 2 refine vo ?_
        refine vnt ?_
        refine vc_sr ?_
        iterate 2 refine vo ?_
        refine vnt ?_
        refine vc_region ?_
        iterate 2 refine vo ?_
        refine vnil ?_
        refine inB_n ?_
        refine thn ?_
        refine vc_region ?_
        iterate 2 refine vo ?_
        try refine vwr ?_
        refine vo ?_
        refine vnt ?_
        have hpr := pend_rp HS st3 st4 hpe
        have hwl := dlF_len w (at' x.pk S.k)
        have hwz := dlF_sz (p := (at' x.pk S.k)) hwz0
        have hdl := delD_len (D1.take (1 + atC code ((S.k : Int) + 2) % 3).toNat) m
        have hdk : (D1.take (1 + atC code ((S.k : Int) + 2) % 3).toNat).length ≤ 3 := by rw [List.length_take]; omega
        have hdz := delD_sz (M := 1200 * S.k) (D1.take (1 + atC code ((S.k : Int) + 2) % 3).toNat) m 3 hdk hmz0
        refine ⟨(S.go r h1 dc1 E1 D1).poll r2.1 r2.2.1 r2.2.2.1 E2 (1 + atC code ((S.k : Int) + 2) % 3).toNat, delD (D1.take (1 + atC code ((S.k : Int) + 2) % 3).toNat) m, dlF w (at' x.pk S.k), ⟨by show S.k + 1 ≤ _; omega, pl1, by show (delD (D1.take (1 + atC code ((S.k : Int) + 2) % 3).toNat) m).length ≤ 8 + 3 * (S.k + 1); omega, fun s hs => Nat.le_trans (hdz s hs) (by show 1200 * S.k + 400 * 3 ≤ 1200 * (S.k + 1); omega), by show (dlF w (at' x.pk S.k)).length ≤ 8 + (S.k + 1); omega, fun s hs => Nat.le_trans (hwz s hs) (by show 400 * S.k + 400 ≤ 400 * (S.k + 1); omega), fun h => (pl4 m).trans (hpr h)⟩, by show x.pk.length - (S.k + 1) < x.pk.length - S.k; omega, sub_i [(32, some 32), (40, some 40), (48, some 48), (7, some 648), (9, some 649), (11, some 650), (12, some 496)] (fz ?_) (fz ?_)⟩
        · first | trivial | rfl | trace_state
        · refine ⟨rfl, congrArg (List.map intE) pl2.symm, congrArg (List.map smE) pl3.symm, ?_⟩; repeat (first | exact rfl | exact trivial | refine ⟨rfl, ?_⟩)
      · refine vc_skip ?_
        refine inB_n ?_
        refine thn ?_
        refine vc_region ?_
        iterate 2 refine vo ?_
        try refine vwr ?_
        refine vo ?_
        refine vnt ?_
        have hpr := pend_rp HS st3 st4 hpe
        have hwl := dlF_len w (at' x.pk S.k)
        have hwz := dlF_sz (p := (at' x.pk S.k)) hwz0
        refine ⟨S.go r h1 dc1 E1 D1, m, dlF w (at' x.pk S.k), ⟨by show S.k + 1 ≤ _; omega, st1, by show m.length ≤ 8 + 3 * (S.k + 1); omega, fun s hs => Nat.le_trans (hmz0 s hs) (by show 1200 * S.k ≤ 1200 * (S.k + 1); omega), by show (dlF w (at' x.pk S.k)).length ≤ 8 + (S.k + 1); omega, fun s hs => Nat.le_trans (hwz s hs) (by show 400 * S.k + 400 ≤ 400 * (S.k + 1); omega), hpr⟩, by show x.pk.length - (S.k + 1) < x.pk.length - S.k; omega, sub_i [(32, some 32), (40, some 40), (48, some 48), (7, some 416), (9, some 9), (11, some 11), (12, some 496)] (fz ?_) (fz ?_)⟩
        · first | trivial | rfl | trace_state
        · first | trivial | rfl | exact ⟨rfl, rfl⟩ | exact ⟨rfl, rfl, rfl⟩ | exact ⟨rfl, rfl, rfl, rfl⟩ | exact ⟨rfl, rfl, rfl, rfl, rfl⟩ | exact ⟨rfl, rfl, rfl, rfl, rfl, rfl⟩ | trace_state
    · have hi : S.k = x.pk.length := by omega
      obtain ⟨r3, hr3⟩ : ∃ r3, fhF L16 S.ps 0 S.q x.key = r3 := ⟨_, rfl⟩
      obtain ⟨h3, dc3, E3, D3, fl1, fl2, fl3, fl4, fl5⟩ := rs_fl HS (by omega) hky hr3
      have hln3 : r3.1.length = 16 := (RS.len fl1).1
      obtain ⟨r4, hr4⟩ : ∃ r4, pqF (rxOkB r3.2.rb r3.2.rs r3.2.rh r3.2.rt r3.2.db r3.2.ds r3.2.dc r3.2.vb r3.2.vs r3.2.vc r3.2.dm r3.2.sm r3.2.vl r3.2.tos r3.2.id r3.2.ttl r3.2.si r3.2.di r3.2.kind r3.2.sp r3.2.dp r3.2.seq r3.2.ack r3.2.fl r3.2.win r3.2.body r3.2.size r3.2.count r3.2.hold r3.2.dropped && (poolB 256 384 4 S.fr && inB 100 0 1000)) L16 r3.1 0 r3.2.rb r3.2.rs r3.2.rh r3.2.rt r3.2.vb r3.2.vs r3.2.vc 256 384 4 S.fr m 100 = r4 := ⟨_, rfl⟩
      obtain ⟨E4, pm1, pm2, pm3, pm4⟩ := rs_poll (S := S.go r3 h3 dc3 E3 D3) fl1 (by show S.k + 1 ≤ 1000; omega) (bud := 100) (by omega) (sm := m) (ok := true) hr4
      have hln5 : r4.1.length = 16 := (RS.len pm1).1
      have hlnd : D3.length ≤ 4 := by have := (RS.len fl1).2; have e : (S.go r3 h3 dc3 E3 D3).D = D3 := rfl; rw [e] at this; omega
      have hd0 : D3.drop (Int.toNat 100) = [] := List.drop_eq_nil_of_le (by show D3.length ≤ 100; omega)
      have hd1 : D3.take (Int.toNat 100) = D3 := List.take_of_length_le (by show D3.length ≤ 100; omega)
      have hro : rxOkB r3.2.rb r3.2.rs r3.2.rh r4.2.1 r3.2.db r3.2.ds r3.2.dc r3.2.vb r3.2.vs r4.2.2.1 r3.2.dm r3.2.sm r3.2.vl r3.2.tos r3.2.id r3.2.ttl r3.2.si r3.2.di r3.2.kind r3.2.sp r3.2.dp r3.2.seq r3.2.ack r3.2.fl r3.2.win r3.2.body r3.2.size r3.2.count r3.2.hold r3.2.dropped = true := rs_ok pm1 (by show S.k + 1 ≤ 1000; omega)
      have hnx : (nextF L16 r4.1 0 r3.2.vb r3.2.vs r4.2.2.1).2.2 = false := rs_end pm1 (by show S.k + 1 ≤ 1000; omega) hd0 rfl
      have hfr4 : poolB 256 384 4 r4.2.2.2.1 = true := by rw [pm2]; exact ri_fr pm1.ri
      have hml4 : r4.2.2.2.2.1 = delD D3 m := by rw [pm3]; show delD (D3.take (Int.toNat 100)) m = _; rw [hd1]
      have hml5 : r4.2.2.2.2.1.length ≤ 1000 := by rw [hml4]; have := delD_len D3 m; omega
      have hfl4 : r4.2.2.2.1.length ≤ 10 := by rw [pm2]; decide
      have hpd := pend_fl HS fl4 fl5 hpe
      have hq0 : 0 ≤ r3.2.dropped := by have := HS.d0; omega
      refine vc_exit ?_
      refine thn_x ?_
      refine thn_x ?_
      refine inB_x ?_
      refine thn ?_
      refine vc_sr ?_
      iterate 4 refine vo ?_
      refine voc (c_impl_FlushHeld_r (hr := hr3)) rfl rfl ?_
      iterate 5 refine vo ?_
      refine vnt ?_
      refine vc_sr ?_
      iterate 5 refine vo ?_
      refine voc (c_impl_PollQueue (hr := hr4)) rfl rfl ?_
      iterate 10 refine vo ?_
      refine vnt ?_
      refine vc_seq' ?_
      refine vc_sr ?_
      iterate 3 refine vo ?_
      refine voc (c_impl_HasCompletion (ps := r4.1)) rfl rfl ?_
      refine vo ?_
      refine vsp (fun g6 => ?_) (fun g6 => ?_)
      · rw [hnx] at g6; exact absurd g6.2 (by decide)
      · refine von ?_
        refine vocn c_impl_RxOk rfl rfl ?_
        refine von ?_
        iterate 2 refine vo ?_
        refine vsp (fun g7 => ?_) (fun g7 => ?_)
        · exact absurd hro (by rw [g7]; decide)
        · refine von ?_
          refine vocn (c_impl_PoolOk (fr := r4.2.2.2.1)) rfl rfl ?_
          refine von ?_
          iterate 2 refine vo ?_
          refine vsp (fun g8 => ?_) (fun g8 => ?_)
          · exact absurd hfr4 (by rw [g8]; decide)
          · iterate 2 refine von ?_
            refine vo ?_
            refine vnt ?_
            refine vc_if (fun g9 => ?_) (fun g9 => ?_)
            · exact absurd fl2 (by rw [g9]; decide)
            · refine vc_skip ?_
              refine thn ?_
              refine vc_sr ?_
              iterate 4 refine vo ?_
              refine vsp (fun g10 => ?_) (fun g10 => ?_)
              · iterate 3 refine vof ?_
                iterate 2 refine vo ?_
                refine vnt ?_
                refine vc_ret ?_
                refine fin_g (()) (trivial) [(1000003, some 1000003)] rfl (fz ?_) (fz ?_) <;> first | trivial | rfl | trace_state
              · iterate 2 refine von ?_
                refine vocn (c_laws_sameStreams (a := r4.2.2.2.2.1) (b := w)) rfl rfl ?_
                iterate 2 refine vo ?_
                refine vnt ?_
                refine vc_ret ?_
                have hsm : smS r4.2.2.2.2.1 w = true := by rw [hml4, hpd (by omega)]; exact smS_refl w
                rw [hsm]
                refine fin_g (()) (trivial) [(1000003, some 1000003)] rfl (fz ?_) (fz ?_) <;> first | trivial | rfl | trace_state
end Go.Proofs.YtfcmcedeapgdcaaGreat
end
section
namespace Go.Vc
open Go Go.RowKit
theorem walk_of {P : Program} {f : FuncId} {w : World} {v : Value} {code : List UInt8} (h : v.oneCell' = true → ConV P f v code (α := Unit) (fun _ => True) (fun _ => .one (.v (.bool true))) (fun _ => [])) (hc : Holds w code [v]) :
    Calls P f #[v] w fun e w' => e = .returned (.bool true) ∧ Ex w w' := by
  have hv : v.oneCell' = true := by
    obtain ⟨a, cap, hv, _⟩ := hc.bytes
    simp only [List.cons.injEq, and_true] at hv
    subst hv; rfl
  refine ((h hv).2 w w [] (St.start w) hc 0).mono fun e w' hq => ?_
  obtain ⟨_, _, u, ρ, rfl, h1, _, As, h2, h3⟩ := hq
  cases h2
  have hu : u = .bool true := h1.1
  subst hu
  exact ⟨rfl, h3.ex⟩
end Go.Vc
end
section
namespace Go.Proofs.YtfcmcedeapgdcaaGreat
open Go Go.RowKit Go.Vc
theorem walk_FnReceivedStreams (w : World) (code : Value) (codeD : List UInt8) (hcode : Holds w codeD [code]) :
    Calls Tryz.prog 5 #[code] w fun e w' => e = .returned (.bool true) ∧ Ex w w' := walk_of c_laws_FnReceivedStreams hcode
end Go.Proofs.YtfcmcedeapgdcaaGreat
end

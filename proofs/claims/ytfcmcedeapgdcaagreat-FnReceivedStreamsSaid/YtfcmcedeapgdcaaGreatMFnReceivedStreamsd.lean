/- Part 4 of what the proof of FnReceivedStreams rests on: an idealised machine, contracts of functions, and the walk of the law. No condition. -/
import Derived.Test.YtfcmcedeapgdcaaGreatMFnReceivedStreamsc
section
namespace Go.Proofs.YtfcmcedeapgdcaaGreat
open Go Go.RowKit Go.Vc
set_option linter.unusedVariables false
set_option linter.unusedSimpArgs false
set_option linter.unnecessarySimpa false
theorem eqk_Flow : EqOk Tryz.prog 105 [0, 0, 0, 0, 0] := eqOk_of 4 (by kernel_rfl) (by decide) (by kernel_rfl) (by kernel_rfl)
theorem seen_at {n : Nat} {xs : List Int} {k : Int} (h0 : 0 ≤ k) (h1 : k < n) : at' (seenF n xs) k.toNat = xs.contains k := by
  obtain ⟨i, rfl⟩ := Int.eq_ofNat_of_zero_le h0
  rw [atp_eq (by rw [seenF_length]; omega)]
  have := seenF_get xs (show i < n by omega)
  rw [List.getElem?_eq_getElem (by rw [seenF_length]; omega)] at this
  simpa using this
theorem seen_set {n : Nat} {xs : List Int} {k : Int} (h0 : 0 ≤ k) (h1 : k < n) : ((seenF n xs).map booE).set k.toNat [.bool true] = (seenF n (xs ++ [k])).map booE := by
  obtain ⟨i, rfl⟩ := Int.eq_ofNat_of_zero_le h0
  rw [← seenF_set xs (show i < n by omega), List.map_set]; rfl
theorem seen_nil (n : Nat) : (seenF n []).map booE = List.replicate (n : Int).toNat [Value.bool false] := by
  rw [seenF_nil, List.map_replicate]; rfl
theorem take_at {α : Type} [Inhabited α] {l : List α} {i : Nat} (h : i < l.length) : l.take (i + 1) = l.take i ++ [at' l i] := by
  rw [List.take_succ_eq_append_getElem h, atp_eq h]
theorem pool_no {b z c : Int} {fr : List Int} (h : inB b 0 130944 = false ∨ inB z 1 512 = false ∨ inB c 0 16 = false) : poolB b z c fr = false := by
  unfold poolB
  rcases h with h | h | h <;> rw [h] <;> simp
theorem pool_rng {b z : Int} {n : Nat} {fr : List Int} {i : Nat} (hi : i < fr.length) (h : inB (at' fr i) 0 ((n : Int) - 1) = false) : poolB b z n fr = false := poolB_range hi (atp_eq hi).symm h
theorem pool_dup {b z : Int} {n : Nat} {fr : List Int} {i : Nat} (hi : i < fr.length) (h : (fr.take i).contains (at' fr i) = true) : poolB b z n fr = false := poolB_dup hi (atp_eq hi).symm h
theorem pool_stp {n : Nat} {fr : List Int} {i : Nat} (hi : i < fr.length) (g : poolG n fr i) (h1 : inB (at' fr i) 0 ((n : Int) - 1) = true) (h2 : (fr.take i).contains (at' fr i) = false) : poolG n fr (i + 1) := poolG_step hi (atp_eq hi).symm g h1 h2
theorem pool_all {b z : Int} {n : Nat} {fr : List Int} {i : Nat} (h0 : inB b 0 130944 = true) (h1 : inB z 1 512 = true) (h2 : inB (n : Int) 0 16 = true) (g : poolG n fr i) (hi : i ≤ fr.length) (hh : ¬ i < fr.length) : poolB b z n fr = true := by
  obtain rfl : i = fr.length := by omega
  exact poolB_all h0 h1 h2 g
def dcX (s : ByteArray) : Comp := if dcB s then dcC s else (0, 0, 0, 0, 0)
def dcP (s : ByteArray) : Int := if dcB s then get32 s 12 else 0
theorem dcX_y {s : ByteArray} (h : dcB s = true) : dcX s = dcC s ∧ dcP s = get32 s 12 := ⟨if_pos h, if_pos h⟩
theorem dcX_n {s : ByteArray} (h : dcB s = false) : dcX s = (0, 0, 0, 0, 0) ∧ dcP s = 0 := ⟨if_neg (by rw [h]; decide), if_neg (by rw [h]; decide)⟩
theorem dma16 {l : List Mp} {ps : Pg} {d a : Int} (h : (dmaRF l ps d a 16).2 = true) : (dmaRF l ps d a 16).1.size = 16 := by
  have := dmaRF_size (l := l) (ps := ps) (d := d) (a := a) (n := 16) (t := (dmaRF l ps d a 16).1) (by rw [← h])
  omega
theorem dma_z (l : List Mp) (ps : Pg) (d a : Int) : (dmaRF l ps d a 16).1.size ≤ 1099511627776 := Nat.le_trans (dmaRF_le l ps d a 16 (by decide)) (by decide)
theorem dc_ph {l : List Mp} {ps : Pg} {d a s c : Int} (h : (dmaRF l ps d a 16).2 = true) (h2 : dcB (dmaRF l ps d a 16).1 = false) : ¬ get32 (dmaRF l ps d a 16).1 12 = phaseC s c := by
  have h1 := dma16 h
  have hp := phaseC_bd s c
  unfold dcB at h2
  rw [decide_eq_true h1, Bool.true_and, Bool.not_eq_false', decide_eq_true_eq] at h2
  omega
theorem rpu_n {l : List Mp} {ps : Pg} {d b s h t : Int} {e : ByteArray} (hh : freeF b s h t = 0 ∨ ¬ e.size = 16 ∨ (dmaWF l ps d (rslot b s t) e true).2 = false) : rputF l ps d b s h t e = (ps, t, false) := by
  unfold rputF
  split
  · rfl
  · split
    · rename_i g1 g2
      have h3 : (dmaWF l ps d (rslot b s t) e true).2 = false := by
        rcases hh with hh | hh | hh
        · exact (g1 hh).elim
        · exact (hh g2).elim
        · exact hh
      generalize dmaWF l ps d (rslot b s t) e true = x at h3 ⊢
      obtain ⟨x1, x2⟩ := x
      simp only at h3
      subst h3; rfl
    · rfl
theorem rpu_y {l : List Mp} {ps : Pg} {d b s h t : Int} {e : ByteArray} (h1 : ¬ freeF b s h t = 0) (h2 : e.size = 16) (h3 : (dmaWF l ps d (rslot b s t) e true).2 = true) : rputF l ps d b s h t e = ((dmaWF l ps d (rslot b s t) e true).1, rnext s t, true) := by
  unfold rputF
  rw [if_neg h1, if_pos h2]
  generalize dmaWF l ps d (rslot b s t) e true = x at h3 ⊢
  obtain ⟨x1, x2⟩ := x
  simp only at h3
  subst h3; rfl
set_option maxHeartbeats 4000000 in
theorem c_impl_copyInts {fr : List Int} (hl_fr : fr.length ≤ 1099511627776 := by first | with_reducible assumption | omega) : Con0 Tryz.prog 86 [.one (.sl 1 (fr.map intE))] (.one (.hs 0)) [(0, .arr 3 1 (fr.map intE))] := by
  refine con_i Tryz.func86 Tryz.ntmps86 (t := [(0, .one (.sl 1 (fr.map intE)))]) rfl ?_
  refine vc_sr ?_
  refine vo ?_
  refine vnt ?_
  refine vc_sr ?_
  iterate 4 refine vo ?_
  refine vnt ?_
  refine vc_ret ?_
  refine fin_i [(0, some 40)] rfl (fz ?_) (fz ?_) <;> first | trivial | rfl | simp
set_option maxHeartbeats 4000000 in
theorem c_impl_copyPool {pb pz pc : Int} {fr : List Int} (hl_fr : fr.length ≤ 1099511627776 := by first | with_reducible assumption | omega) : Con0 Tryz.prog 43 [.agg [V pb, V pz, V pc, .sl 1 (fr.map intE)]] (.agg [V pb, V pz, V pc, .hs 0]) [(0, .arr 3 1 (fr.map intE))] := by
  refine con_i Tryz.func43 Tryz.ntmps43 (t := [(0, .agg [V pb, V pz, V pc, .sl 1 (fr.map intE)])]) rfl ?_
  refine vc_sr ?_
  iterate 2 refine vo ?_
  refine vnt ?_
  refine vc_sr ?_
  iterate 2 refine vo ?_
  refine voc c_impl_copyInts rfl rfl ?_
  iterate 2 refine vo ?_
  refine vnt ?_
  refine vc_sr ?_
  iterate 2 refine vo ?_
  refine vnt ?_
  refine vc_ret ?_
  refine fin_i [(0, some 40)] rfl (fz ?_) (fz ?_) <;> first | trivial | rfl | simp
set_option maxHeartbeats 4000000 in
theorem c_spec_l21Copy {pb pz pc : Int} {fr : List Int} (hl_fr : fr.length ≤ 1099511627776 := by first | with_reducible assumption | omega) : Con0 Tryz.prog 60 [.agg [V pb, V pz, V pc, .sl 1 (fr.map intE)]] (.agg [V pb, V pz, V pc, .hs 0]) [(0, .arr 3 1 (fr.map intE))] := by
  refine con_i Tryz.func60 Tryz.ntmps60 (t := [(0, .agg [V pb, V pz, V pc, .sl 1 (fr.map intE)])]) rfl ?_
  refine vc_sr ?_
  iterate 2 refine vo ?_
  refine vnt ?_
  refine vc_sr ?_
  iterate 12 refine vo ?_
  refine vnt ?_
  refine vc_ret ?_
  refine fin_i [(0, some 96)] rfl (fz ?_) (fz ?_) <;> first | trivial | rfl | simp
set_option maxHeartbeats 4000000 in
theorem c_impl_PoolOk {pb pz pc : Int} {fr : List Int} (hl_fr : fr.length ≤ 1099511627776 := by first | with_reducible assumption | omega) : Con0 Tryz.prog 15 [.agg [V pb, V pz, V pc, .sl 1 (fr.map intE)]] (B (poolB pb pz pc fr)) [] := by
  refine con_i Tryz.func15 Tryz.ntmps15 (t := [(0, .agg [V pb, V pz, V pc, .sl 1 (fr.map intE)])]) rfl ?_
  refine vc_sr ?_
  iterate 2 refine vo ?_
  refine vnt ?_
  refine vc_seq' ?_
  refine vc_sr ?_
  iterate 2 refine vo ?_
  refine voc c_impl_between rfl rfl ?_
  iterate 2 refine vo ?_
  refine vsp (fun g1 => ?_) (fun g1 => ?_)
  · iterate 4 refine vof ?_
    iterate 2 refine vo ?_
    iterate 4 refine vof ?_
    refine vo ?_
    refine vnt ?_
    refine vc_then ?_
    refine vc_sr ?_
    refine vo ?_
    refine vnt ?_
    refine vc_ret ?_
    refine thn_r ?_
    refine fin_i [] rfl (fz ?_) trivial
    exact pool_no (.inl g1)
  · iterate 2 refine von ?_
    refine vocn c_impl_between rfl rfl ?_
    refine von ?_
    iterate 2 refine vo ?_
    refine vsp (fun g2 => ?_) (fun g2 => ?_)
    · iterate 4 refine vof ?_
      refine vo ?_
      refine vnt ?_
      refine vc_then ?_
      refine vc_sr ?_
      refine vo ?_
      refine vnt ?_
      refine vc_ret ?_
      refine thn_r ?_
      refine fin_i [] rfl (fz ?_) trivial
      exact pool_no (.inr (.inl g2))
    · iterate 2 refine von ?_
      refine vocn c_impl_between rfl rfl ?_
      refine von ?_
      refine vo ?_
      refine vnt ?_
      refine vc_if (fun g3 => ?_) (fun g3 => ?_)
      · refine vc_sr ?_
        refine vo ?_
        refine vnt ?_
        refine vc_ret ?_
        refine thn_r ?_
        refine fin_i [] rfl (fz ?_) trivial
        exact pool_no (.inr (.inr g3))
      · have hz3 := inB_iff.1 g3
        obtain ⟨n, rfl⟩ := Int.eq_ofNat_of_zero_le hz3.1
        refine vc_skip ?_
        refine thn ?_
        refine vc_sr ?_
        iterate 4 refine vo ?_
        refine vnt ?_
        refine vc_seq' ?_
        refine vc_sr ?_
        iterate 3 refine vo ?_
        try first | refine vlb ?_ | refine vln ?_
        refine vo ?_
        refine vnt ?_
        refine vc_block ?_
        refine vc_lp (σ := Nat) [1, 3, 26, 27] [8] (fun i => [(28, I (i : Nat))]) (fun i => [(192, .arr 4 1 ((seenF n (fr.take i)).map booE))]) (fun i => i ≤ fr.length ∧ poolG n fr i) (fun i => fr.length - i) 0 rfl rfl (sub_i [(192, some 192)] (fz ?_) (fz ?_)) ?_ fun i hI => ?_
        · first | trivial | rfl
        · first | trivial | exact (seen_nil n).symm | exact seen_nil n | (simp [seen_nil]; done) | trace_state
        · exact ⟨Nat.zero_le _, poolG_zero n fr⟩
        refine vc_nf rfl rfl ?_
        have hsl := seenF_length n (fr.take i)
        refine vc_sr ?_
        refine vo ?_
        refine vnt ?_
        refine vc_seq' ?_
        refine vc_if (fun g4 => ?_) (fun g4 => ?_)
        · refine vc_skip ?_
          refine thn ?_
          refine vc_seq' ?_
          refine vc_block ?_
          refine vc_sr ?_
          refine vo ?_
          try with_reducible (first | refine vep ?_ | refine vpt ?_)
          iterate 2 refine vo ?_
          refine vnt ?_
          refine vc_seq' ?_
          refine vc_sr ?_
          iterate 4 refine vo ?_
          try refine vwr ?_
          refine voc c_impl_between rfl rfl ?_
          iterate 2 refine vo ?_
          refine vsp (fun g5 => ?_) (fun g5 => ?_)
          · iterate 4 refine vof ?_
            refine vo ?_
            refine vnt ?_
            refine vc_then ?_
            refine vc_sr ?_
            refine vo ?_
            refine vnt ?_
            refine vc_ret ?_
            refine thn_r ?_
            refine inB_r ?_
            refine thn_r ?_
            refine thn_r ?_
            refine inB_r ?_
            refine thn_r ?_
            refine fin_i [] rfl (fz ?_) trivial
            exact pool_rng g4 g5
          · have hkb := inB_iff.1 g5
            iterate 3 refine von ?_
            try with_reducible (first | refine vep ?_ | refine vpt ?_)
            refine von ?_
            refine vo ?_
            refine vnt ?_
            refine vc_if (fun g6 => ?_) (fun g6 => ?_)
            · rw [seen_at (by omega) (by omega)] at g6
              have hct : (fr.take i).contains (at' fr i) = true := by first | exact g6 | simpa using g6
              refine vc_sr ?_
              refine vo ?_
              refine vnt ?_
              refine vc_ret ?_
              refine thn_r ?_
              refine inB_r ?_
              refine thn_r ?_
              refine thn_r ?_
              refine inB_r ?_
              refine thn_r ?_
              refine fin_i [] rfl (fz ?_) trivial
              exact pool_dup g4 hct
            · rw [seen_at (by omega) (by omega)] at g6
              have hct : (fr.take i).contains (at' fr i) = false := by first | exact g6 | simpa using g6
              refine vc_skip ?_
              refine thn ?_
              refine vc_region ?_
              iterate 3 refine vo ?_
              try with_reducible (first | refine vep ?_ | refine vpt ?_)
              refine vo ?_
              refine vnil ?_
              refine inB_n ?_
              refine thn ?_
              refine vc_region ?_
              refine vo ?_
              try refine vwr ?_
              refine vo ?_
              refine vnt ?_
              refine ⟨i + 1, ?_, ?_, sub_i [(192, some 192)] (fz ?_) (fz ?_)⟩
              · exact ⟨by omega, pool_stp g4 hI.2 g5 hct⟩
              · omega
              · first | trivial | rfl | exact ⟨rfl, rfl⟩
              · first | (rw [take_at g4]; exact (seen_set (by omega) (by omega)).symm) | (rw [take_at g4, seen_set (by omega) (by omega)]; done) | trace_state
        · refine vc_exit ?_
          refine thn_x ?_
          refine thn_x ?_
          refine inB_x ?_
          refine thn ?_
          refine vc_sr ?_
          refine vo ?_
          refine vnt ?_
          refine vc_ret ?_
          refine fin_i [] rfl (fz ?_) trivial
          exact pool_all g1 g2 g3 hI.2 hI.1 (by omega)
set_option maxHeartbeats 4000000 in
theorem c_spec_PoolOk {pb pz pc : Int} {fr : List Int} (hl_fr : fr.length ≤ 1099511627776 := by first | with_reducible assumption | omega) : Con0 Tryz.prog 58 [.agg [V pb, V pz, V pc, .sl 1 (fr.map intE)]] (B (poolB pb pz pc fr)) [] := by
  refine con_i Tryz.func58 Tryz.ntmps58 (t := [(0, .agg [V pb, V pz, V pc, .sl 1 (fr.map intE)])]) rfl ?_
  refine vc_sr ?_
  iterate 2 refine vo ?_
  refine vnt ?_
  refine vc_seq' ?_
  refine vc_sr ?_
  iterate 2 refine vo ?_
  refine voc c_spec_l01In rfl rfl ?_
  iterate 2 refine vo ?_
  refine vsp (fun g1 => ?_) (fun g1 => ?_)
  · iterate 4 refine vof ?_
    iterate 2 refine vo ?_
    iterate 4 refine vof ?_
    refine vo ?_
    refine vnt ?_
    refine vc_then ?_
    refine vc_sr ?_
    refine vo ?_
    refine vnt ?_
    refine vc_ret ?_
    refine thn_r ?_
    refine fin_i [] rfl (fz ?_) trivial
    exact pool_no (.inl g1)
  · iterate 2 refine von ?_
    refine vocn c_spec_l01In rfl rfl ?_
    refine von ?_
    iterate 2 refine vo ?_
    refine vsp (fun g2 => ?_) (fun g2 => ?_)
    · iterate 4 refine vof ?_
      refine vo ?_
      refine vnt ?_
      refine vc_then ?_
      refine vc_sr ?_
      refine vo ?_
      refine vnt ?_
      refine vc_ret ?_
      refine thn_r ?_
      refine fin_i [] rfl (fz ?_) trivial
      exact pool_no (.inr (.inl g2))
    · iterate 2 refine von ?_
      refine vocn c_spec_l01In rfl rfl ?_
      refine von ?_
      refine vo ?_
      refine vnt ?_
      refine vc_if (fun g3 => ?_) (fun g3 => ?_)
      · refine vc_sr ?_
        refine vo ?_
        refine vnt ?_
        refine vc_ret ?_
        refine thn_r ?_
        refine fin_i [] rfl (fz ?_) trivial
        exact pool_no (.inr (.inr g3))
      · have hz3 := inB_iff.1 g3
        obtain ⟨n, rfl⟩ := Int.eq_ofNat_of_zero_le hz3.1
        refine vc_skip ?_
        refine thn ?_
        refine vc_sr ?_
        iterate 4 refine vo ?_
        refine vnt ?_
        refine vc_seq' ?_
        refine vc_sr ?_
        refine vo ?_
        refine vnt ?_
        refine vc_block ?_
        refine vc_lp (σ := Nat) [1, 3] [8] (fun i => [(4, I (i : Nat))]) (fun i => [(184, .arr 4 1 ((seenF n (fr.take i)).map booE))]) (fun i => i ≤ fr.length ∧ poolG n fr i) (fun i => fr.length - i) 0 rfl rfl (sub_i [(184, some 184)] (fz ?_) (fz ?_)) ?_ fun i hI => ?_
        · first | trivial | rfl
        · first | trivial | exact (seen_nil n).symm | exact seen_nil n | (simp [seen_nil]; done) | trace_state
        · exact ⟨Nat.zero_le _, poolG_zero n fr⟩
        refine vc_nf rfl rfl ?_
        have hsl := seenF_length n (fr.take i)
        refine vc_seq' ?_
        refine vc_sr ?_
        iterate 4 refine vo ?_
        try first | refine vlb ?_ | refine vln ?_
        refine vo ?_
        refine vnt ?_
        refine vc_if (fun g4 => ?_) (fun g4 => ?_)
        · refine vc_skip ?_
          refine thn ?_
          refine vc_seq' ?_
          refine vc_block ?_
          refine vc_seq' ?_
          refine vc_sr ?_
          iterate 4 refine vo ?_
          try with_reducible (first | refine vep ?_ | refine vpt ?_)
          iterate 4 refine vo ?_
          try refine vwr ?_
          refine voc c_spec_l01In rfl rfl ?_
          iterate 2 refine vo ?_
          refine vsp (fun g5 => ?_) (fun g5 => ?_)
          · iterate 8 refine vof ?_
            refine vo ?_
            refine vnt ?_
            refine vc_then ?_
            refine vc_sr ?_
            refine vo ?_
            refine vnt ?_
            refine vc_ret ?_
            refine thn_r ?_
            refine inB_r ?_
            refine thn_r ?_
            refine thn_r ?_
            refine inB_r ?_
            refine thn_r ?_
            refine fin_i [] rfl (fz ?_) trivial
            exact pool_rng g4 g5
          · have hkb := inB_iff.1 g5
            iterate 5 refine von ?_
            try with_reducible (first | refine vep ?_ | refine vpt ?_)
            iterate 2 refine von ?_
            try with_reducible (first | refine vep ?_ | refine vpt ?_)
            refine von ?_
            refine vo ?_
            refine vnt ?_
            refine vc_if (fun g6 => ?_) (fun g6 => ?_)
            · rw [seen_at (by omega) (by omega)] at g6
              have hct : (fr.take i).contains (at' fr i) = true := by first | exact g6 | simpa using g6
              refine vc_sr ?_
              refine vo ?_
              refine vnt ?_
              refine vc_ret ?_
              refine thn_r ?_
              refine inB_r ?_
              refine thn_r ?_
              refine thn_r ?_
              refine inB_r ?_
              refine thn_r ?_
              refine fin_i [] rfl (fz ?_) trivial
              exact pool_dup g4 hct
            · rw [seen_at (by omega) (by omega)] at g6
              have hct : (fr.take i).contains (at' fr i) = false := by first | exact g6 | simpa using g6
              refine vc_skip ?_
              refine thn ?_
              refine vc_region ?_
              iterate 5 refine vo ?_
              try with_reducible (first | refine vep ?_ | refine vpt ?_)
              iterate 2 refine vo ?_
              try with_reducible (first | refine vep ?_ | refine vpt ?_)
              refine vo ?_
              refine vnil ?_
              refine inB_n ?_
              refine thn ?_
              refine vc_region ?_
              iterate 2 refine vo ?_
              try refine vwr ?_
              refine vo ?_
              refine vnt ?_
              refine ⟨i + 1, ?_, ?_, sub_i [(184, some 184)] (fz ?_) (fz ?_)⟩
              · exact ⟨by omega, pool_stp g4 hI.2 g5 hct⟩
              · omega
              · first | trivial | rfl | exact ⟨rfl, rfl⟩
              · first | (rw [take_at g4]; exact (seen_set (by omega) (by omega)).symm) | (rw [take_at g4, seen_set (by omega) (by omega)]; done) | trace_state
        · refine vc_exit ?_
          refine thn_x ?_
          refine thn_x ?_
          refine inB_x ?_
          refine thn ?_
          refine vc_sr ?_
          refine vo ?_
          refine vnt ?_
          refine vc_ret ?_
          refine fin_i [] rfl (fz ?_) trivial
          exact pool_all g1 g2 g3 hI.2 hI.1 (by omega)
set_option maxHeartbeats 4000000 in
theorem c_impl_BufferAddress {pb pz pc k : Int} {fr : List Int} (hl_fr : fr.length ≤ 1099511627776 := by first | with_reducible assumption | omega) : Con0 Tryz.prog 45 [.agg [V pb, V pz, V pc, .sl 1 (fr.map intE)], I k] (I (bufA pb pz pc fr k)) [] := by
  refine con_i Tryz.func45 Tryz.ntmps45 (t := [(0, .agg [V pb, V pz, V pc, .sl 1 (fr.map intE)]), (1, I k)]) rfl ?_
  refine vc_sr ?_
  iterate 2 refine vo ?_
  refine vnt ?_
  refine vc_seq' ?_
  refine vc_sr ?_
  refine vo ?_
  refine voc c_impl_PoolOk rfl rfl ?_
  iterate 2 refine vo ?_
  refine vsp (fun g1 => ?_) (fun g1 => ?_)
  · iterate 6 refine vof ?_
    refine vo ?_
    refine vnt ?_
    refine vc_then ?_
    refine vc_sr ?_
    refine vo ?_
    refine vnt ?_
    refine vc_ret ?_
    refine thn_r ?_
    refine fin_i [] rfl (fz ?_) trivial
    rw [bufA_n (.inl g1)]
  · have hpf := poolB_facts g1
    iterate 4 refine von ?_
    try refine vwr ?_
    refine vocn c_impl_between rfl rfl ?_
    refine von ?_
    refine vo ?_
    refine vnt ?_
    refine vc_if (fun g2 => ?_) (fun g2 => ?_)
    · refine vc_sr ?_
      refine vo ?_
      refine vnt ?_
      refine vc_ret ?_
      refine thn_r ?_
      refine fin_i [] rfl (fz ?_) trivial
      rw [bufA_n (.inr g2)]
    · have hba := bufA_y g1 g2
      refine vc_skip ?_
      refine thn ?_
      refine vc_sr ?_
      iterate 6 refine vo ?_
      try refine vwr ?_
      refine vo ?_
      try refine vwr ?_
      refine vo ?_
      refine vnt ?_
      refine vc_ret ?_
      refine fin_i [] rfl (fz ?_) trivial
      exact hba.1
set_option maxHeartbeats 4000000 in
theorem c_impl_GiveBuffers {pb pz pc : Int} {fr ks : List Int} (hl_fr : fr.length ≤ 1000000000 := by first | with_reducible assumption | omega) (hl_ks : ks.length ≤ 1000000000 := by first | with_reducible assumption | omega) : Con0 Tryz.prog 48 [.agg [V pb, V pz, V pc, .sl 1 (fr.map intE)], .one (.sl 1 (ks.map intE))] (.tup [.agg [V pb, V pz, V pc, .hs 0], B (giveB pb pz pc fr ks)]) [(0, .arr 3 1 ((giveF pb pz pc fr ks).map intE))] := by
  have hla : (fr ++ ks).length = fr.length + ks.length := List.length_append
  refine con_i Tryz.func48 Tryz.ntmps48 (t := [(0, .agg [V pb, V pz, V pc, .sl 1 (fr.map intE)]), (1, .one (.sl 1 (ks.map intE)))]) rfl ?_
  refine vc_sr ?_
  iterate 3 refine vo ?_
  refine vnt ?_
  refine vc_sr ?_
  refine vo ?_
  refine voc c_impl_copyPool rfl rfl ?_
  iterate 2 refine vo ?_
  refine vnt ?_
  refine vc_sr ?_
  iterate 4 refine vo ?_
  rw [← List.map_append]
  iterate 2 refine vo ?_
  refine vnt ?_
  refine vc_seq' ?_
  refine vc_sr ?_
  refine vo ?_
  refine voc c_impl_PoolOk rfl rfl ?_
  iterate 2 refine vo ?_
  refine vsp (fun g1 => ?_) (fun g1 => ?_)
  · iterate 3 refine vof ?_
    refine vo ?_
    refine vnt ?_
    refine vc_then ?_
    refine vc_sr ?_
    refine vo ?_
    refine voc c_impl_copyPool rfl rfl ?_
    iterate 2 refine vo ?_
    refine vnt ?_
    refine vc_ret ?_
    refine thn_r ?_
    have hh := give_n (pb := pb) (pz := pz) (pc := pc) (fr := fr) (ks := ks) (.inl g1)
    refine fin_i [(0, some 184)] rfl (fz ?_) (fz ?_)
    · rw [hh.2]
    · first | (rw [hh.1]; done) | (rw [hh.1]; simp)
  · refine von ?_
    refine vocn c_impl_PoolOk rfl rfl ?_
    refine von ?_
    refine vo ?_
    refine vnt ?_
    refine vc_if (fun g2 => ?_) (fun g2 => ?_)
    · refine vc_sr ?_
      refine vo ?_
      refine voc c_impl_copyPool rfl rfl ?_
      iterate 2 refine vo ?_
      refine vnt ?_
      refine vc_ret ?_
      refine thn_r ?_
      have hh := give_n (pb := pb) (pz := pz) (pc := pc) (fr := fr) (ks := ks) (.inr g2)
      refine fin_i [(0, some 184)] rfl (fz ?_) (fz ?_)
      · rw [hh.2]
      · first | (rw [hh.1]; done) | (rw [hh.1]; simp)
    · refine vc_skip ?_
      refine thn ?_
      refine vc_sr ?_
      iterate 3 refine vo ?_
      refine vnt ?_
      refine vc_ret ?_
      have hh := give_y (pb := pb) (pz := pz) (pc := pc) (fr := fr) (ks := ks) g1 g2
      refine fin_i [(0, some 96)] rfl (fz ?_) (fz ?_)
      · rw [hh.2]
      · first | (rw [hh.1]; done) | (rw [hh.1]; simp)
set_option maxHeartbeats 4000000 in
theorem c_spec_BufferAddress {pb pz pc k : Int} {fr : List Int} (hl_fr : fr.length ≤ 1099511627776 := by first | with_reducible assumption | omega) : Con0 Tryz.prog 65 [.agg [V pb, V pz, V pc, .sl 1 (fr.map intE)], I k] (I (bufA pb pz pc fr k)) [] := by
  refine con_i Tryz.func65 Tryz.ntmps65 (t := [(0, .agg [V pb, V pz, V pc, .sl 1 (fr.map intE)]), (1, I k)]) rfl ?_
  refine vc_sr ?_
  iterate 2 refine vo ?_
  refine vnt ?_
  refine vc_seq' ?_
  refine vc_sr ?_
  refine vo ?_
  refine voc c_spec_PoolOk rfl rfl ?_
  iterate 2 refine vo ?_
  refine vsp (fun g1 => ?_) (fun g1 => ?_)
  · iterate 6 refine vof ?_
    refine vo ?_
    refine vnt ?_
    refine vc_then ?_
    refine vc_sr ?_
    refine vo ?_
    refine vnt ?_
    refine vc_ret ?_
    refine thn_r ?_
    refine fin_i [] rfl (fz ?_) trivial
    rw [bufA_n (.inl g1)]
  · have hpf := poolB_facts g1
    iterate 4 refine von ?_
    try refine vwr ?_
    refine vocn c_spec_l01In rfl rfl ?_
    refine von ?_
    refine vo ?_
    refine vnt ?_
    refine vc_if (fun g2 => ?_) (fun g2 => ?_)
    · refine vc_sr ?_
      refine vo ?_
      refine vnt ?_
      refine vc_ret ?_
      refine thn_r ?_
      refine fin_i [] rfl (fz ?_) trivial
      rw [bufA_n (.inr g2)]
    · have hba := bufA_y g1 g2
      refine vc_skip ?_
      refine thn ?_
      refine vc_sr ?_
      iterate 6 refine vo ?_
      try refine vwr ?_
      refine vo ?_
      try refine vwr ?_
      refine vo ?_
      refine vnt ?_
      refine vc_ret ?_
      refine fin_i [] rfl (fz ?_) trivial
      exact hba.1
set_option maxHeartbeats 4000000 in
theorem c_impl_DecodeCompletion {s : ByteArray} (hs_s : s.size ≤ 1099511627776 := by first | with_reducible assumption | omega | (simp only [ByteArray.size_append, ByteArray.size_extract, strOfNums_size, List.length_cons, List.length_nil]; omega)) : Con0 Tryz.prog 38 [Z s] (.tup [.agg [V (dcX s).1, V (dcX s).2.1, V (dcX s).2.2.1, V (dcX s).2.2.2.1, V (dcX s).2.2.2.2], I (dcP s), B (dcB s)]) [] := by
  refine con_i Tryz.func38 Tryz.ntmps38 (t := [(0, Z s)]) rfl ?_
  refine vc_sr ?_
  iterate 3 refine vo ?_
  refine vnt ?_
  refine vc_seq' ?_
  refine vc_sr ?_
  iterate 3 refine vo ?_
  refine vnt ?_
  refine vc_if (fun g1 => ?_) (fun g1 => ?_)
  · refine vc_sr ?_
    iterate 4 refine vo ?_
    refine vnt ?_
    refine vc_ret ?_
    refine thn_r ?_
    refine fin_i [] rfl (fz ?_) trivial
    have hb := dc_n (s := s) (.inl (by omega))
    rw [(dcX_n hb).1, (dcX_n hb).2, hb]
    first | exact ⟨⟨rfl, rfl, rfl, rfl, rfl⟩, rfl, rfl⟩ | simp
  · refine vc_skip ?_
    refine thn ?_
    refine vc_sr ?_
    refine vo ?_
    refine voc c_impl_Get16 rfl rfl ?_
    refine vo ?_
    refine voc c_impl_Get16 rfl rfl ?_
    refine vo ?_
    refine voc c_impl_Get16 rfl rfl ?_
    refine vo ?_
    refine voc c_impl_Get16 rfl rfl ?_
    refine vo ?_
    refine voc c_impl_Get32 rfl rfl ?_
    iterate 3 refine vo ?_
    refine vnt ?_
    refine vc_sr ?_
    refine vo ?_
    refine voc c_impl_Get32 rfl rfl ?_
    refine vo ?_
    refine vnt ?_
    refine vc_seq' ?_
    refine vc_sr ?_
    iterate 2 refine vo ?_
    refine vnt ?_
    refine vc_if (fun g2 => ?_) (fun g2 => ?_)
    · refine vc_sr ?_
      iterate 4 refine vo ?_
      refine vnt ?_
      refine vc_ret ?_
      refine thn_r ?_
      refine fin_i [] rfl (fz ?_) trivial
      have hb := dc_n (s := s) (.inr (by omega))
      rw [(dcX_n hb).1, (dcX_n hb).2, hb]
      first | exact ⟨⟨rfl, rfl, rfl, rfl, rfl⟩, rfl, rfl⟩ | simp
    · refine vc_skip ?_
      refine thn ?_
      refine vc_sr ?_
      iterate 5 refine vo ?_
      refine vnt ?_
      refine vc_ret ?_
      refine fin_i [] rfl (fz ?_) trivial
      have hb := dc_y (s := s) (by omega) (by omega)
      rw [(dcX_y hb).1, (dcX_y hb).2, hb]
      first | exact ⟨⟨rfl, rfl, rfl, rfl, rfl⟩, rfl, rfl⟩ | simp [dcC]
set_option maxHeartbeats 4000000 in
theorem c_impl_NextCompletion {l : List Mp} {ps : Pg} {d b s c : Int} (hl : l.length ≤ 1099511627776 := by first | with_reducible assumption | omega) (hp : ps.length ≤ 1099511627776 := by first | with_reducible assumption | omega) : Con0 Tryz.prog 11 [.one (.sl 4 (l.map mpE)), .agg [.sl 1 (ps.map strE)], I d, .agg [V b, V s, V c]] (.tup [.agg [V (nextF l ps d b s c).1.1, V (nextF l ps d b s c).1.2.1, V (nextF l ps d b s c).1.2.2.1, V (nextF l ps d b s c).1.2.2.2.1, V (nextF l ps d b s c).1.2.2.2.2], .agg [V b, V s, V (nextF l ps d b s c).2.1], B (nextF l ps d b s c).2.2]) [] := by
  have hdz := dma_z l ps d (slotC b s c)
  refine con_i Tryz.func11 Tryz.ntmps11 (t := [(0, .one (.sl 4 (l.map mpE))), (1, .agg [.sl 1 (ps.map strE)]), (2, I d), (3, .agg [V b, V s, V c])]) rfl ?_
  refine vc_sr ?_
  iterate 5 refine vo ?_
  refine vnt ?_
  refine vc_seq' ?_
  refine vc_sr ?_
  refine vo ?_
  refine voc c_impl_QueueOk rfl rfl ?_
  refine vo ?_
  refine vnt ?_
  refine vc_if (fun g1 => ?_) (fun g1 => ?_)
  · refine vc_sr ?_
    iterate 5 refine vo ?_
    refine vnt ?_
    refine vc_ret ?_
    refine thn_r ?_
    refine fin_i [] rfl (fz ?_) trivial
    have hh : nextF l ps d b s c = _ := nx_n (.inl g1)
    rw [hh]
    first | exact ⟨⟨rfl, rfl, rfl, rfl, rfl⟩, rfl, rfl⟩ | simp [nextC]
  · have hq := slot_q g1
    have hqf := queueOk_facts g1
    have hsl := slotC_bd g1
    refine vc_skip ?_
    refine thn ?_
    refine vc_sr ?_
    iterate 4 refine vo ?_
    refine voc c_impl_slotOfCount rfl rfl ?_
    refine voc c_impl_DmaRead rfl rfl ?_
    iterate 5 refine vo ?_
    refine vnt ?_
    refine vc_seq' ?_
    refine vc_sr ?_
    iterate 2 refine vo ?_
    refine vnt ?_
    refine vc_if (fun g2 => ?_) (fun g2 => ?_)
    · refine vc_sr ?_
      iterate 5 refine vo ?_
      refine vnt ?_
      refine vc_ret ?_
      refine thn_r ?_
      refine fin_i [] rfl (fz ?_) trivial
      have hh : nextF l ps d b s c = _ := nx_n (.inr (.inl g2))
      rw [hh]
      first | exact ⟨⟨rfl, rfl, rfl, rfl, rfl⟩, rfl, rfl⟩ | simp [nextC]
    · refine vc_skip ?_
      refine thn ?_
      refine vc_sr ?_
      refine vo ?_
      refine voc c_impl_DecodeCompletion rfl rfl ?_
      iterate 8 refine vo ?_
      refine vnt ?_
      refine vc_seq' ?_
      refine vc_sr ?_
      iterate 3 refine vo ?_
      refine vsp (fun g3 => ?_) (fun g3 => ?_)
      · iterate 4 refine vof ?_
        refine vo ?_
        refine vnt ?_
        refine vc_then ?_
        refine vc_sr ?_
        iterate 5 refine vo ?_
        refine vnt ?_
        refine vc_ret ?_
        refine thn_r ?_
        refine fin_i [] rfl (fz ?_) trivial
        have hh : nextF l ps d b s c = _ := nx_n (.inr (.inr (dc_ph g2 g3)))
        rw [hh]
        first | exact ⟨⟨rfl, rfl, rfl, rfl, rfl⟩, rfl, rfl⟩ | simp [nextC]
      · rw [(dcX_y g3).1, (dcX_y g3).2]
        iterate 2 refine von ?_
        refine vocn c_impl_phaseOf rfl rfl ?_
        refine von ?_
        refine vo ?_
        refine vnt ?_
        refine vc_if (fun g4 => ?_) (fun g4 => ?_)
        · refine vc_sr ?_
          iterate 5 refine vo ?_
          refine vnt ?_
          refine vc_ret ?_
          refine thn_r ?_
          refine fin_i [] rfl (fz ?_) trivial
          have hh : nextF l ps d b s c = _ := nx_n (.inr (.inr g4))
          rw [hh]
          first | exact ⟨⟨rfl, rfl, rfl, rfl, rfl⟩, rfl, rfl⟩ | simp [nextC]
        · refine vc_skip ?_
          refine thn ?_
          refine vc_sr ?_
          iterate 3 refine vo ?_
          try refine vwr ?_
          iterate 3 refine vo ?_
          try refine vwr ?_
          refine vo ?_
          try refine veq (Int.tmod_eq_emod_of_nonneg (by omega)) ?_
          iterate 2 refine vo ?_
          refine vnt ?_
          refine vc_sr ?_
          iterate 5 refine vo ?_
          refine vnt ?_
          refine vc_ret ?_
          refine fin_i [] rfl (fz ?_) trivial
          have hh : nextF l ps d b s c = _ := nx_y g1 g2 g4
          rw [hh]
          first | exact ⟨⟨rfl, rfl, rfl, rfl, rfl⟩, rfl, rfl⟩ | simp [nextC]
set_option maxHeartbeats 4000000 in
theorem c_impl_RingFree {b s h t : Int} : Con0 Tryz.prog 120 [.agg [V b, V s, V h, V t]] (I (freeF b s h t)) [] := by
  refine con_i Tryz.func120 Tryz.ntmps120 (t := [(0, .agg [V b, V s, V h, V t])]) rfl ?_
  refine vc_sr ?_
  iterate 2 refine vo ?_
  refine vnt ?_
  refine vc_seq' ?_
  refine vc_sr ?_
  refine vo ?_
  refine voc c_impl_RingOk rfl rfl ?_
  refine vo ?_
  refine vnt ?_
  refine vc_if (fun g1 => ?_) (fun g1 => ?_)
  · refine vc_sr ?_
    refine vo ?_
    refine vnt ?_
    refine vc_ret ?_
    refine thn_r ?_
    refine fin_i [] rfl (fz ?_) trivial
    rw [freeF, g1]
    simp
  · have hr := ringOk_facts g1
    have hs0 := hr.1
    have hub : 0 ≤ usedF s h t ∧ usedF s h t ≤ 16 := by unfold usedF; have hsz := sizeB_cases hs0; omega
    refine vc_skip ?_
    refine thn ?_
    refine vc_sr ?_
    iterate 3 refine vo ?_
    refine voc c_impl_RingUsed rfl rfl ?_
    refine vo ?_
    try refine vwr ?_
    refine vo ?_
    refine vnt ?_
    refine vc_ret ?_
    refine fin_i [] rfl (fz ?_) trivial
    rw [freeF, g1]
    simp [usedF]
set_option maxHeartbeats 4000000 in
theorem c_impl_RingPut {l : List Mp} {ps : Pg} {d b s h t : Int} {e : ByteArray} (hl : l.length ≤ 1099511627776 := by first | with_reducible assumption | omega) (hp : ps.length ≤ 1099511627776 := by first | with_reducible assumption | omega) (hs_e : e.size ≤ 1099511627776 := by first | with_reducible assumption | omega | (simp only [ByteArray.size_append, ByteArray.size_extract, strOfNums_size, List.length_cons, List.length_nil]; omega)) : Con0 Tryz.prog 93 [.one (.sl 4 (l.map mpE)), .agg [.sl 1 (ps.map strE)], I d, .agg [V b, V s, V h, V t], Z e] (.tup [.agg [.hs 0], .agg [V b, V s, V h, V (rputF l ps d b s h t e).2.1], B (rputF l ps d b s h t e).2.2]) [(0, .arr 9 1 ((rputF l ps d b s h t e).1.map strE))] := by
  refine con_i Tryz.func93 Tryz.ntmps93 (t := [(0, .one (.sl 4 (l.map mpE))), (1, .agg [.sl 1 (ps.map strE)]), (2, I d), (3, .agg [V b, V s, V h, V t]), (4, Z e)]) rfl ?_
  refine vc_sr ?_
  iterate 5 refine vo ?_
  refine vnt ?_
  refine vc_seq' ?_
  refine vc_sr ?_
  refine vo ?_
  refine voc c_impl_RingFree rfl rfl ?_
  iterate 2 refine vo ?_
  refine vsp (fun g1 => ?_) (fun g1 => ?_)
  · iterate 3 refine vof ?_
    refine vo ?_
    refine vnt ?_
    refine vc_then ?_
    refine vc_sr ?_
    refine vo ?_
    refine voc c_impl_copyMemory rfl rfl ?_
    iterate 4 refine vo ?_
    refine vnt ?_
    refine vc_ret ?_
    refine thn_r ?_
    have hh : rputF l ps d b s h t e = _ := rpu_n (.inl g1)
    refine fin_i [(0, some 192)] rfl (fz ?_) (fz ?_)
    · rw [hh]; first | exact ⟨rfl, rfl⟩ | simp [rnext]
    · first | (rw [hh]; done) | (rw [hh, dw_no g3]; done)
  · have hr0 := freeF_ok g1
    have hr := ringOk_facts hr0
    have hsl := rslot_bd hr0 t
    have hsz := sizeB_cases hr.1
    iterate 3 refine von ?_
    refine vo ?_
    refine vnt ?_
    refine vc_if (fun g2 => ?_) (fun g2 => ?_)
    · refine vc_sr ?_
      refine vo ?_
      refine voc c_impl_copyMemory rfl rfl ?_
      iterate 4 refine vo ?_
      refine vnt ?_
      refine vc_ret ?_
      refine thn_r ?_
      have hh : rputF l ps d b s h t e = _ := rpu_n (.inr (.inl (by omega)))
      refine fin_i [(0, some 192)] rfl (fz ?_) (fz ?_)
      · rw [hh]; first | exact ⟨rfl, rfl⟩ | simp [rnext]
      · first | (rw [hh]; done) | (rw [hh, dw_no g3]; done)
    · refine vc_skip ?_
      refine thn ?_
      refine vc_sr ?_
      iterate 6 refine vo ?_
      refine voc c_impl_SlotAddress rfl rfl ?_
      refine vo ?_
      refine voc c_impl_DmaWrite rfl rfl ?_
      iterate 6 refine vo ?_
      refine vnt ?_
      refine vc_seq' ?_
      refine vc_sr ?_
      iterate 2 refine vo ?_
      refine vnt ?_
      refine vc_if (fun g3 => ?_) (fun g3 => ?_)
      · refine vc_sr ?_
        iterate 5 refine vo ?_
        refine vnt ?_
        refine vc_ret ?_
        refine thn_r ?_
        have hh : rputF l ps d b s h t e = _ := rpu_n (.inr (.inr g3))
        refine fin_i [(0, some 280)] rfl (fz ?_) (fz ?_)
        · rw [hh]; first | exact ⟨rfl, rfl⟩ | simp [rnext]
        · first | (rw [hh]; done) | (rw [hh, dw_no g3]; done)
      · refine vc_skip ?_
        refine thn ?_
        refine vc_sr ?_
        iterate 3 refine vo ?_
        try refine vwr ?_
        iterate 3 refine vo ?_
        try refine vwr ?_
        refine vo ?_
        try refine veq (Int.tmod_eq_emod_of_nonneg (by omega)) ?_
        iterate 2 refine vo ?_
        refine vnt ?_
        refine vc_sr ?_
        iterate 5 refine vo ?_
        refine vnt ?_
        refine vc_ret ?_
        have hh : rputF l ps d b s h t e = _ := rpu_y g1 (by omega) g3
        refine fin_i [(0, some 280)] rfl (fz ?_) (fz ?_)
        · rw [hh]; first | exact ⟨rfl, rfl⟩ | simp [rnext]
        · first | (rw [hh]; done) | (rw [hh, dw_no g3]; done)
set_option maxHeartbeats 4000000 in
theorem c_spec_RingFree {b s h t : Int} : Con0 Tryz.prog 62 [.agg [V b, V s, V h, V t]] (I (freeF b s h t)) [] := by
  refine con_i Tryz.func62 Tryz.ntmps62 (t := [(0, .agg [V b, V s, V h, V t])]) rfl ?_
  refine vc_sr ?_
  iterate 2 refine vo ?_
  refine vnt ?_
  refine vc_seq' ?_
  refine vc_sr ?_
  refine vo ?_
  refine voc c_spec_RingOk rfl rfl ?_
  refine vo ?_
  refine vnt ?_
  refine vc_if (fun g1 => ?_) (fun g1 => ?_)
  · refine vc_sr ?_
    refine vo ?_
    refine vnt ?_
    refine vc_ret ?_
    refine thn_r ?_
    refine fin_i [] rfl (fz ?_) trivial
    rw [freeF, g1]
    simp
  · have hr := ringOk_facts g1
    have hs0 := hr.1
    have hub : 0 ≤ usedF s h t ∧ usedF s h t ≤ 16 := by unfold usedF; have hsz := sizeB_cases hs0; omega
    refine vc_skip ?_
    refine thn ?_
    refine vc_sr ?_
    iterate 3 refine vo ?_
    refine voc c_spec_RingUsed rfl rfl ?_
    refine vo ?_
    try refine vwr ?_
    refine vo ?_
    refine vnt ?_
    refine vc_ret ?_
    refine fin_i [] rfl (fz ?_) trivial
    rw [freeF, g1]
    simp [usedF]
set_option maxHeartbeats 4000000 in
theorem c_spec_RingPut {l : List Mp} {ps : Pg} {d b s h t : Int} {e : ByteArray} (hl : l.length ≤ 1099511627776 := by first | with_reducible assumption | omega) (hp : ps.length ≤ 1099511627776 := by first | with_reducible assumption | omega) (hs_e : e.size ≤ 1099511627776 := by first | with_reducible assumption | omega | (simp only [ByteArray.size_append, ByteArray.size_extract, strOfNums_size, List.length_cons, List.length_nil]; omega)) : Con0 Tryz.prog 63 [.one (.sl 4 (l.map mpE)), .agg [.sl 1 (ps.map strE)], I d, .agg [V b, V s, V h, V t], Z e] (.tup [.agg [.hs 0], .agg [V b, V s, V h, V (rputF l ps d b s h t e).2.1], B (rputF l ps d b s h t e).2.2]) [(0, .arr 9 1 ((rputF l ps d b s h t e).1.map strE))] := by
  refine con_i Tryz.func63 Tryz.ntmps63 (t := [(0, .one (.sl 4 (l.map mpE))), (1, .agg [.sl 1 (ps.map strE)]), (2, I d), (3, .agg [V b, V s, V h, V t]), (4, Z e)]) rfl ?_
  refine vc_sr ?_
  iterate 5 refine vo ?_
  refine vnt ?_
  refine vc_seq' ?_
  refine vc_sr ?_
  refine vo ?_
  refine voc c_spec_RingFree rfl rfl ?_
  iterate 2 refine vo ?_
  refine vsp (fun g1 => ?_) (fun g1 => ?_)
  · iterate 3 refine vof ?_
    refine vo ?_
    refine vnt ?_
    refine vc_then ?_
    refine vc_sr ?_
    refine vo ?_
    refine voc c_spec_l16Copy rfl rfl ?_
    iterate 4 refine vo ?_
    refine vnt ?_
    refine vc_ret ?_
    refine thn_r ?_
    have hh : rputF l ps d b s h t e = _ := rpu_n (.inl g1)
    refine fin_i [(0, some 192)] rfl (fz ?_) (fz ?_)
    · rw [hh]; first | exact ⟨rfl, rfl⟩ | simp [rnext]
    · first | (rw [hh]; done) | (rw [hh, dw_no g3]; done)
  · have hr0 := freeF_ok g1
    have hr := ringOk_facts hr0
    have hsl := rslot_bd hr0 t
    have hsz := sizeB_cases hr.1
    iterate 3 refine von ?_
    refine vo ?_
    refine vnt ?_
    refine vc_if (fun g2 => ?_) (fun g2 => ?_)
    · refine vc_sr ?_
      refine vo ?_
      refine voc c_spec_l16Copy rfl rfl ?_
      iterate 4 refine vo ?_
      refine vnt ?_
      refine vc_ret ?_
      refine thn_r ?_
      have hh : rputF l ps d b s h t e = _ := rpu_n (.inr (.inl (by omega)))
      refine fin_i [(0, some 192)] rfl (fz ?_) (fz ?_)
      · rw [hh]; first | exact ⟨rfl, rfl⟩ | simp [rnext]
      · first | (rw [hh]; done) | (rw [hh, dw_no g3]; done)
    · refine vc_skip ?_
      refine thn ?_
      refine vc_sr ?_
      iterate 6 refine vo ?_
      refine voc c_spec_SlotAddress rfl rfl ?_
      refine vo ?_
      refine voc c_spec_DmaWrite rfl rfl ?_
      iterate 6 refine vo ?_
      refine vnt ?_
      refine vc_seq' ?_
      refine vc_sr ?_
      iterate 2 refine vo ?_
      refine vnt ?_
      refine vc_if (fun g3 => ?_) (fun g3 => ?_)
      · refine vc_sr ?_
        refine vo ?_
        refine voc c_spec_l16Copy rfl rfl ?_
        iterate 4 refine vo ?_
        refine vnt ?_
        refine vc_ret ?_
        refine thn_r ?_
        have hh : rputF l ps d b s h t e = _ := rpu_n (.inr (.inr g3))
        refine fin_i [(0, some 328)] rfl (fz ?_) (fz ?_)
        · rw [hh]; first | exact ⟨rfl, rfl⟩ | simp [rnext]
        · first | (rw [hh]; done) | (rw [hh, dw_no g3]; done)
      · refine vc_skip ?_
        refine thn ?_
        refine vc_sr ?_
        iterate 3 refine vo ?_
        try refine vwr ?_
        iterate 3 refine vo ?_
        try refine vwr ?_
        refine vo ?_
        try refine veq (Int.tmod_eq_emod_of_nonneg (by omega)) ?_
        iterate 2 refine vo ?_
        refine vnt ?_
        refine vc_sr ?_
        iterate 5 refine vo ?_
        refine vnt ?_
        refine vc_ret ?_
        have hh : rputF l ps d b s h t e = _ := rpu_y g1 (by omega) g3
        refine fin_i [(0, some 280)] rfl (fz ?_) (fz ?_)
        · rw [hh]; first | exact ⟨rfl, rfl⟩ | simp [rnext]
        · first | (rw [hh]; done) | (rw [hh, dw_no g3]; done)
theorem ceq_flow (s : Sm) (kind si di sp dp : Int) : ceqV [.int .i64 s.kind, .int .i64 s.si, .int .i64 s.di, .int .i64 s.sp, .int .i64 s.dp] [.int .i64 kind, .int .i64 si, .int .i64 di, .int .i64 sp, .int .i64 dp] = smHit s kind si di sp dp := by
  simp [ceqV, smHit]
set_option maxHeartbeats 4000000 in
theorem c_impl_copyStreams {l : List Sm} (hl_l : l.length ≤ 1099511627776 := by first | with_reducible assumption | omega) : Con0 Tryz.prog 44 [.one (.sl 8 (l.map smE))] (.one (.hs 0)) [(0, .arr 109 8 (l.map smE))] := by
  refine con_i Tryz.func44 Tryz.ntmps44 (t := [(0, .one (.sl 8 (l.map smE)))]) rfl ?_
  refine vc_sr ?_
  refine vo ?_
  refine vnt ?_
  refine vc_sr ?_
  iterate 4 refine vo ?_
  refine vnt ?_
  refine vc_ret ?_
  refine fin_i [(0, some 40)] rfl (fz ?_) (fz ?_) <;> first | trivial | rfl | simp
set_option maxHeartbeats 4000000 in
theorem c_impl_StreamIndex {l : List Sm} {kind si di sp dp : Int} (hl_l : l.length ≤ 1099511627776 := by first | with_reducible assumption | omega) : Con0 Tryz.prog 90 [.one (.sl 8 (l.map smE)), .agg [V kind, V si, V di, V sp, V dp]] (I (smIdx l kind si di sp dp)) [] := by
  have hE := eqk_Flow
  refine con_i Tryz.func90 Tryz.ntmps90 (t := [(0, .one (.sl 8 (l.map smE))), (1, .agg [V kind, V si, V di, V sp, V dp])]) rfl ?_
  refine vc_sr ?_
  iterate 2 refine vo ?_
  refine vnt ?_
  refine vc_seq' ?_
  refine vc_sr ?_
  iterate 2 refine vo ?_
  try first | refine vlb ?_ | refine vln ?_
  refine vo ?_
  refine vnt ?_
  refine vc_block ?_
  refine vc_lp (σ := Nat) [3, 7, 8] [24] (fun i => [(9, I (i : Nat))]) (fun i => []) (fun i => i ≤ l.length ∧ smIdx l kind si di sp dp = smIdxF kind si di sp dp i (l.drop i)) (fun i => l.length - i) 0 rfl rfl (sub_i [] (fz ?_) (fz ?_)) ?_ fun i hI => ?_
  · first | trivial | rfl
  · first | trivial | rfl
  · exact ⟨Nat.zero_le _, rfl⟩
  refine vc_nf rfl rfl ?_
  refine vc_sr ?_
  refine vo ?_
  refine vnt ?_
  refine vc_seq' ?_
  refine vc_if (fun g1 => ?_) (fun g1 => ?_)
  · refine vc_skip ?_
    refine thn ?_
    refine vc_seq' ?_
    refine vc_block ?_
    refine vc_sr ?_
    iterate 2 refine vo ?_
    try with_reducible (first | refine vep ?_ | refine vpt ?_)
    iterate 4 refine vo ?_
    refine vnt ?_
    refine vc_sr ?_
    iterate 4 refine vo ?_
    refine vnt ?_
    refine vc_if (fun g2 => ?_) (fun g2 => ?_)
    · refine vc_sr ?_
      iterate 2 refine vo ?_
      refine vnt ?_
      refine vc_ret ?_
      refine inB_r ?_
      refine thn_r ?_
      refine thn_r ?_
      refine inB_r ?_
      refine thn_r ?_
      refine fin_i [] rfl (fz ?_) trivial
      exact sm_hit hI.2 (by omega) ((ceq_flow ..).symm.trans g2)
    · refine vc_skip ?_
      refine inB_n ?_
      refine thn ?_
      refine vc_region ?_
      refine vo ?_
      try refine vwr ?_
      refine vo ?_
      refine vnt ?_
      refine ⟨i + 1, ?_, ?_, sub_i [] (fz ?_) (fz ?_)⟩
      · exact ⟨by omega, sm_go hI.2 (by omega) ((ceq_flow ..).symm.trans g2)⟩
      · omega
      · first | rfl | trivial | exact ⟨rfl, rfl⟩
      · first | rfl | trivial
  · refine vc_exit ?_
    refine thn_x ?_
    refine thn_x ?_
    refine inB_x ?_
    refine thn ?_
    refine vc_sr ?_
    refine vo ?_
    refine vnt ?_
    refine vc_ret ?_
    refine fin_i [] rfl (fz ?_) trivial
    exact sm_end hI.2 (by omega)
set_option maxHeartbeats 4000000 in
theorem c_spec_StreamIndex {l : List Sm} {kind si di sp dp : Int} (hl_l : l.length ≤ 1099511627776 := by first | with_reducible assumption | omega) : Con0 Tryz.prog 54 [.one (.sl 8 (l.map smE)), .agg [V kind, V si, V di, V sp, V dp]] (I (smIdx l kind si di sp dp)) [] := by
  have hE := eqk_Flow
  refine con_i Tryz.func54 Tryz.ntmps54 (t := [(0, .one (.sl 8 (l.map smE))), (1, .agg [V kind, V si, V di, V sp, V dp])]) rfl ?_
  refine vc_sr ?_
  iterate 2 refine vo ?_
  refine vnt ?_
  refine vc_seq' ?_
  refine vc_sr ?_
  refine vo ?_
  refine vnt ?_
  refine vc_block ?_
  refine vc_lp (σ := Nat) [0, 3] [24] (fun i => [(5, I (i : Nat))]) (fun i => []) (fun i => i ≤ l.length ∧ smIdx l kind si di sp dp = smIdxF kind si di sp dp i (l.drop i)) (fun i => l.length - i) 0 rfl rfl (sub_i [] (fz ?_) (fz ?_)) ?_ fun i hI => ?_
  · first | trivial | rfl
  · first | trivial | rfl
  · exact ⟨Nat.zero_le _, rfl⟩
  refine vc_nf rfl rfl ?_
  refine vc_seq' ?_
  refine vc_sr ?_
  iterate 3 refine vo ?_
  try first | refine vlb ?_ | refine vln ?_
  refine vo ?_
  refine vnt ?_
  refine vc_if (fun g1 => ?_) (fun g1 => ?_)
  · refine vc_skip ?_
    refine thn ?_
    refine vc_seq' ?_
    refine vc_block ?_
    refine vc_sr ?_
    iterate 3 refine vo ?_
    try with_reducible (first | refine vep ?_ | refine vpt ?_)
    iterate 4 refine vo ?_
    refine vnt ?_
    refine vc_if (fun g2 => ?_) (fun g2 => ?_)
    · refine vc_sr ?_
      iterate 2 refine vo ?_
      refine vnt ?_
      refine vc_ret ?_
      refine inB_r ?_
      refine thn_r ?_
      refine thn_r ?_
      refine inB_r ?_
      refine thn_r ?_
      refine fin_i [] rfl (fz ?_) trivial
      exact sm_hit hI.2 (by omega) ((ceq_flow ..).symm.trans g2)
    · refine vc_skip ?_
      refine inB_n ?_
      refine thn ?_
      refine vc_region ?_
      iterate 2 refine vo ?_
      try refine vwr ?_
      refine vo ?_
      refine vnt ?_
      refine ⟨i + 1, ?_, ?_, sub_i [] (fz ?_) (fz ?_)⟩
      · exact ⟨by omega, sm_go hI.2 (by omega) ((ceq_flow ..).symm.trans g2)⟩
      · omega
      · first | rfl | trivial | exact ⟨rfl, rfl⟩
      · first | rfl | trivial
  · refine vc_exit ?_
    refine thn_x ?_
    refine thn_x ?_
    refine inB_x ?_
    refine thn ?_
    refine vc_sr ?_
    refine vo ?_
    refine vnt ?_
    refine vc_ret ?_
    refine fin_i [] rfl (fz ?_) trivial
    exact sm_end hI.2 (by omega)
end Go.Proofs.YtfcmcedeapgdcaaGreat
end
section
namespace Go.Proofs.YtfcmcedeapgdcaaGreat
open Go Go.RowKit Go.Vc
set_option linter.unusedVariables false
set_option linter.unusedSimpArgs false
set_option linter.unnecessarySimpa false
theorem ring_tt {b s h t : Int} (q : ringOkB b s h t = true) : ringOkB b s t t = true ∧ usedF s t t = 0 := by
  obtain ⟨hs, b0, b1, s0, s1, h0, h1, t0, t1, u1, u0⟩ := ringOk_facts q
  have e : usedF s t t = 0 := by unfold usedF; rw [Int.sub_self]; exact Int.zero_emod _
  refine ⟨?_, e⟩
  simp only [ringOkB, Bool.and_eq_true, inB_iff, decide_eq_true_eq]
  unfold usedF at e
  exact ⟨⟨⟨⟨⟨b0, b1⟩, hs⟩, t0, t1⟩, t0, t1⟩, by omega⟩
end Go.Proofs.YtfcmcedeapgdcaaGreat
end
section
namespace Go.Vc
open Go Go.RowKit
set_option linter.unusedVariables false
set_option linter.unusedSectionVars false
set_option linter.unusedSimpArgs false
set_option linter.unnecessarySimpa false
def offK (k : Nat) (H : Hp) : Hp := H.filter fun x => x.1 != k
theorem offK_id {k : Nat} : ∀ {H : Hp}, k ∉ H.map (·.1) → offK k H = H
  | [], _ => rfl
  | (d, v) :: t, h => by
    simp only [List.map_cons, List.mem_cons, not_or] at h
    unfold offK
    rw [List.filter_cons, if_pos (by simp only [bne_iff_ne, ne_eq]; exact fun e => h.1 e.symm)]
    exact congrArg _ (offK_id h.2)
theorem upd1_perm {k : Nat} {b : Blk} (b' : Blk) : ∀ {H : Hp}, (H.map (·.1)).Nodup → lk H k = some b → (upd1 k b' H).Perm ((k, b') :: offK k H)
  | [], _, h => by cases h
  | (d, v) :: t, hn, h => by
    simp only [List.map_cons, List.nodup_cons] at hn
    simp only [lk] at h
    simp only [upd1]
    by_cases e : d = k
    · subst e
      have : offK d ((d, v) :: t) = t := by
        unfold offK
        rw [List.filter_cons, if_neg (by simp)]
        exact offK_id hn.1
      rw [if_pos rfl, this]
    · rw [if_neg e] at h ⊢
      have : offK k ((d, v) :: t) = (d, v) :: offK k t := by
        unfold offK
        rw [List.filter_cons, if_pos (by simpa using e)]
      rw [this]
      exact ((upd1_perm b' hn.2 h).cons _).trans (.swap ..)
theorem upd1_same {k : Nat} {b : Blk} : ∀ {H : Hp}, lk H k = some b → upd1 k b H = H
  | [], h => by cases h
  | (d, v) :: t, h => by
    simp only [lk] at h
    simp only [upd1]
    split at h
    · rename_i e; subst e; simp at h; subst h; simp
    · rename_i e; rw [if_neg e, upd1_same h]
theorem lk_offK {k m : Nat} (h : m ≠ k) : ∀ {H : Hp}, lk (offK k H) m = lk H m
  | [] => rfl
  | (d, v) :: t => by
    unfold offK
    rw [List.filter_cons]
    by_cases e : d = k
    · rw [if_neg (by simp [e])]
      simp only [lk]
      rw [if_neg (fun e2 => h (e2.symm.trans e))]
      exact lk_offK h
    · rw [if_pos (by simpa using e)]
      simp only [lk]
      split
      · rfl
      · exact lk_offK h
theorem nd_offK {k : Nat} {H : Hp} (h : (H.map (·.1)).Nodup) : ((offK k H).map (·.1)).Nodup :=
  h.sublist (List.filter_sublist.map _)
abbrev Snt := Int × Int × List (List Value)
def sntR (w : World) (x : Snt) (e : List Value) : Prop := ∃ v, e = [.int .i64 x.1, .int .i64 x.2.1, v] ∧ RB w (.sl 1 x.2.2) v
theorem sntR.ex {w w' : World} {x : Snt} {e : List Value} (h : sntR w x e) (hx : Ex w w') : sntR w' x e := by
  obtain ⟨v, h1, h2⟩ := h
  exact ⟨v, h1, RB.ex (p := .sl 1 x.2.2) h2 hx⟩
def joinA (L : List Asn) : Asn where
  P w F := SepL w L F
  stable h hs := SepL.stable h hs
  lt h b hb := SepL.lt h b hb
theorem SepL.app {w : World} : ∀ {L M : List Asn} {F G : Nat → Prop}, SepL w L F → SepL w M G → (∀ b, F b → ¬ G b) → SepL w (L ++ M) fun b => F b ∨ G b
  | [], M, F, G, h, k, hd => by
    have : (fun b => F b ∨ G b) = G := by funext b; exact propext ⟨fun x => x.elim (fun x => (h b x).elim) id, .inr⟩
    rw [this]; exact k
  | A :: L, M, F, G, ⟨F1, F2, h1, h2, h3, h4⟩, k, hd => by
    refine ⟨F1, fun b => F2 b ∨ G b, h1, SepL.app h2 k fun b hb => hd b ((h4 b).2 (.inr hb)), fun b hb hg => ?_, fun b => ?_⟩
    · rcases hg with hg | hg
      · exact h3 b hb hg
      · exact hd b ((h4 b).2 (.inl hb)) hg
    · show (F b ∨ G b) ↔ (F1 b ∨ (F2 b ∨ G b))
      rw [h4, or_assoc]
theorem SepL.unapp {w : World} : ∀ {L M : List Asn} {F : Nat → Prop}, SepL w (L ++ M) F → ∃ F1 F2, SepL w L F1 ∧ SepL w M F2 ∧ (∀ b, F1 b → ¬ F2 b) ∧ ∀ b, F b ↔ (F1 b ∨ F2 b)
  | [], M, F, h => ⟨fun _ => False, F, fun _ h => h, h, fun _ h => h.elim, fun b => ⟨.inr, fun x => x.elim False.elim id⟩⟩
  | A :: L, M, F, ⟨F1, F2, h1, h2, h3, h4⟩ => by
    obtain ⟨G1, G2, g1, g2, g3, g4⟩ := SepL.unapp h2
    refine ⟨fun b => F1 b ∨ G1 b, G2, ⟨F1, G1, h1, g1, fun b hb hg => h3 b hb ((g4 b).2 (.inl hg)), fun _ => Iff.rfl⟩, g2, fun b hb hg => ?_, fun b => ?_⟩
    · rcases hb with hb | hb
      · exact h3 b hb ((g4 b).2 (.inr hg))
      · exact g3 b hb hg
    · rw [h4, g4, or_assoc]
section
variable {w0 w : World} {Js : List Asn}
theorem _root_.Go.St.joinL {L : List Asn} (h : St w0 w (L ++ Js)) : St w0 w (joinA L :: Js) := by
  obtain ⟨h1, F, h2, h3⟩ := h
  obtain ⟨F1, F2, g1, g2, g3, g4⟩ := SepL.unapp h2
  exact ⟨h1, F, ⟨F1, F2, g1, g2, g3, g4⟩, h3⟩
theorem _root_.Go.St.unjoin {L : List Asn} (h : St w0 w (joinA L :: Js)) : St w0 w (L ++ Js) := by
  obtain ⟨h1, F, ⟨F1, F2, g1, g2, g3, g4⟩, h3⟩ := h
  have := SepL.app (L := L) (M := Js) g1 g2 g3
  refine ⟨h1, _, this, fun b hb => h3 b ((g4 b).2 hb)⟩
end
def fl1 (es : List (List Value)) : Prop := ∀ e ∈ es, e.length = 1 ∧ e.all (·.oneCell') = true
theorem slot_RB {w : World} {E : TypeId} {sz : Nat} {v : Value} {es : List (List Value)} (h : Slot 0 w E sz v es.length es.flatten) (hes : ∀ e ∈ es, e.length = sz ∧ e.all (·.oneCell') = true) : RB w (.sl sz es) v := by
  obtain ⟨hl, ⟨hv, h0⟩ | ⟨b, off, cap, cur, hv, _, hb, c1, c2, c3, c4⟩⟩ := h
  · have : es = [] := List.eq_nil_of_length_eq_zero h0
    subst this
    exact ⟨none, 0, by rw [hv]; rfl, Nat.le_refl _, Nat.zero_le _, hes, fun h => (h rfl).elim⟩
  · refine ⟨some ⟨b, off, none⟩, cap, hv, c1, c2, hes, fun _ => ⟨b, off, rfl, fun i e he j hj => ?_⟩⟩
    have hi := (List.getElem?_eq_some_iff.1 he).1
    have := Nat.mul_le_mul_right sz (show i + 1 ≤ es.length from hi)
    rw [Nat.succ_mul] at this
    rw [cell_row hb, Nat.add_assoc, c4 (i * sz + j) (by omega), flat_at hes he hj]
end Go.Vc
end
section
namespace Go.Vc
open Go Go.RowKit
set_option linter.unusedVariables false
set_option linter.unusedSectionVars false
set_option linter.unusedSimpArgs false
set_option linter.unnecessarySimpa false
abbrev Sn := Int × Int × List Int
section
variable {P : Program} [TyEnv P] {n : Nat} {ops os : List Oper} {dr : Bool} {K : Tm → Hp → Prop} {t t' : Tm} {H H' : Hp} {fp : List Fp} {o : Oper} {k1 k2 : List Nat} {T e : TypeId} {i ei : TyI} {x y : Operand}
theorem good_of {v : AV} {δ rs : Hp} (h : Tri P o (gt t) rs v δ) (h1 : ∀ k b, (k, b) ∈ rs → lk H k = some b) (h2 : ∀ k b, (k, b) ∈ δ → (∃ b', (k, b') ∈ rs) ∨ lk H k = none) : Good P o (gt t) H v δ rs := ⟨h, h1, h2⟩
theorem vc_lpp {P : Program} [TyEnv P] {n : Nat} {K : Post} {t t0 : Tm} {H H0 : Hp} {c : Code} {σ : Type} (live keep : List Nat) (ov0 : Tm) (gv0 : Hp) (ov : σ → Tm) (gv : σ → Hp) (I : σ → Prop) (μ : σ → Nat) (M : Nat) (ht : keepF t live = some t0) (hH : keepH H keep = some H0) (hs : Sub t H (ov0 ++ t0) (gv0 ++ H0))
    (h1 : VC P n c (thenP (fun t H => ∃ s', I s' ∧ μ s' ≤ M ∧ Sub t H (ov s' ++ t0) (gv s' ++ H0)) K) (ov0 ++ t0) (gv0 ++ H0))
    (h : ∀ s, I s → VC P n c (thenP (fun t H => ∃ s', I s' ∧ μ s' < μ s ∧ Sub t H (ov s' ++ t0) (gv s' ++ H0)) K) (ov s ++ t0) (gv s ++ H0)) : VC P n (.loop c) K t H := by
  refine vc_loop (σ := Option σ) (fun | none => ov0 ++ t0 | some s => ov s ++ t0) (fun | none => gv0 ++ H0 | some s => gv s ++ H0) (fun | none => True | some s => I s) (fun | none => M + 1 | some s => μ s) none hs trivial fun s hi K1 hK => ?_
  cases s with
  | none =>
    refine vc_mono h1 fun e t H hk => ?_
    cases e <;> first | exact hk | skip
    obtain ⟨s', a, b, d⟩ := hk
    exact hK _ _ ⟨some s', a, Nat.lt_succ_of_le b, d⟩
  | some s =>
    refine vc_mono (h s hi) fun e t H hk => ?_
    cases e <;> first | exact hk | skip
    obtain ⟨s', a, b, d⟩ := hk
    exact hK _ _ ⟨some s', a, b, d⟩
theorem vc_lpp3 {P : Program} [TyEnv P] {n : Nat} {K : Post} {t t0 : Tm} {H H0 : Hp} {c : Code} {A B C : Type} (live keep : List Nat) (ov0 : Tm) (gv0 : Hp) (ov : A → B → C → Tm) (gv : A → B → C → Hp) (I : A → B → C → Prop) (μ : A → B → C → Nat) (M : Nat) (ht : keepF t live = some t0) (hH : keepH H keep = some H0) (hs : Sub t H (ov0 ++ t0) (gv0 ++ H0))
    (h1 : VC P n c (thenP (fun t H => ∃ a b d, I a b d ∧ μ a b d ≤ M ∧ Sub t H (ov a b d ++ t0) (gv a b d ++ H0)) K) (ov0 ++ t0) (gv0 ++ H0))
    (h : ∀ a b d, I a b d → VC P n c (thenP (fun t H => ∃ a' b' d', I a' b' d' ∧ μ a' b' d' < μ a b d ∧ Sub t H (ov a' b' d' ++ t0) (gv a' b' d' ++ H0)) K) (ov a b d ++ t0) (gv a b d ++ H0)) : VC P n (.loop c) K t H :=
  vc_lpp (σ := A × B × C) live keep ov0 gv0 (fun s => ov s.1 s.2.1 s.2.2) (fun s => gv s.1 s.2.1 s.2.2) (fun s => I s.1 s.2.1 s.2.2) (fun s => μ s.1 s.2.1 s.2.2) M ht hH hs
    (vc_mono h1 fun e t H hk => by
      cases e <;> first | exact hk | skip
      obtain ⟨a, b, d, h1, h2, h3⟩ := hk
      exact ⟨(a, b, d), h1, h2, h3⟩)
    fun s hi => vc_mono (h s.1 s.2.1 s.2.2 hi) fun e t H hk => by
      cases e <;> first | exact hk | skip
      obtain ⟨a, b, d, h1, h2, h3⟩ := hk
      exact ⟨(a, b, d), h1, h2, h3⟩
end
end Go.Vc
end
section
namespace Go.Proofs.YtfcmcedeapgdcaaGreat
open Go Go.RowKit Go.Vc
set_option linter.unusedVariables false
set_option linter.unusedSimpArgs false
set_option linter.unnecessarySimpa false
def fb (N : Nat) (ps : Pg) (a : Int) : Nat := bAt (pageAt ps (((N : Int) - 1 - a / 128) * 128)) (a % 128).toNat
def Turned (N M : Nat) (l : List Mp) (d : Int) (wr : Bool) : Prop := mapsOk l = true ∧ M ≤ N ∧ ∀ v : Int, 0 ≤ v → v < M → mpPage l d v wr = N - 1 - v
theorem ba_ext {s t : ByteArray} (h : s.size = t.size) (k : ∀ i, i < s.size → bAt s i = bAt t i) : s = t := by
  refine ByteArray.ext_getElem h fun i h1 h2 => ?_
  have := k i h1
  unfold bAt at this
  rw [dif_pos h1, dif_pos h2] at this
  exact UInt8.toNat_inj.1 this
theorem fb_lt (N : Nat) (ps : Pg) (a : Int) : fb N ps a < 256 := bAt_lt _ _
theorem page_at2 (ps : Pg) {x y : Int} (h : x / 128 = y / 128) : pageAt ps x = pageAt ps y := by unfold pageAt; rw [h]
theorem fb_read {N : Nat} {l : List Mp} {ps : Pg} {d : Int} {wr : Bool} (hm : MemOk ps) (hl : ps.length = N) (hp : ∀ v : Int, 0 ≤ v → v < N → mpPage l d v wr = N - 1 - v) :
    ∀ (n : Nat) (a : Int), 0 ≤ a → a + n ≤ 128 * N → ∃ rs, parts l ps.length d wr a n = some rs ∧ ∃ t : ByteArray, (∀ o, readAll ps rs o = o ++ t) ∧ t.size = n ∧ ∀ k : Nat, k < n → bAt t k = fb N ps (a + k) := by
  intro n
  induction n using Nat.strongRecOn with
  | _ n ih =>
    intro a h0 h1
    by_cases hn : n = 0
    · subst hn
      exact ⟨[], parts_zero, ⟨#[]⟩, fun o => (ba_append_nil o).symm, rfl, fun k hk => by omega⟩
    · obtain ⟨k, hk⟩ : ∃ k : Nat, (k : Int) = min (n : Int) (128 - a % 128) := ⟨(min (n : Int) (128 - a % 128)).toNat, by omega⟩
      have hv := hp (a / 128) (by omega) (by omega)
      obtain ⟨rs, e, t, t1, t2, t3⟩ := ih (n - k) (by omega) (a + k) (by omega) (by omega)
      have hseg : Seg ps.length (((N : Int) - 1 - a / 128) * 128 + a % 128, (k : Int)) := ⟨by simp only; omega, by simp only; omega, by simp only; omega, by simp only; omega⟩
      have hz := readSeg_size hm hseg
      simp only [Int.toNat_natCast] at hz
      refine ⟨(((N : Int) - 1 - a / 128) * 128 + a % 128, (k : Int)) :: rs, ?_, readSeg ps (((N : Int) - 1 - a / 128) * 128 + a % 128, (k : Int)) ++ t, fun o => ?_, ?_, fun j hj => ?_⟩
      · rw [parts_some (by omega) h0 (by rw [hv]; omega) (by rw [hv]; omega) hk, e, hv]; rfl
      · simp only [readAll]; rw [t1, ByteArray.append_assoc]
      · rw [ByteArray.size_append, hz, t2]; omega
      · rw [bAt_append, hz]
        by_cases hjk : j < k
        · rw [if_pos hjk]
          unfold readSeg fb
          simp only
          rw [bAt_extract, if_pos (by omega), page_at2 ps (x := ((N : Int) - 1 - a / 128) * 128 + a % 128) (y := ((N : Int) - 1 - (a + j) / 128) * 128) (by omega)]
          congr 1; omega
        · rw [if_neg hjk, t3 (j - k) (by omega)]
          congr 1; omega
theorem page_size {N : Nat} {ps : Pg} (hm : MemOk ps) (hl : ps.length = N) {a : Int} (h0 : 0 ≤ a) (h1 : a < 128 * N) : (pageAt ps (((N : Int) - 1 - a / 128) * 128)).size = 128 :=
  let ⟨_, _, h⟩ := hm.page (a := ((N : Int) - 1 - a / 128) * 128) (by omega) (by omega); h
theorem fb_seg {N : Nat} {ps : Pg} (hm : MemOk ps) (hl : ps.length = N) {a : Int} {b : ByteArray} (h0 : 0 ≤ a) (h1 : a < 128 * N) (h2 : a % 128 + b.size ≤ 128) {x : Int} (x0 : 0 ≤ x) (x1 : x < 128 * N) :
    fb N (writeSeg ps (((N : Int) - 1 - a / 128) * 128 + a % 128) b) x = if a ≤ x ∧ x < a + b.size then bAt b (x - a).toNat else fb N ps x := by
  have hpa := page_size hm hl h0 h1
  have hpx := page_size hm hl x0 x1
  have e1 : pageAt ps (((N : Int) - 1 - a / 128) * 128 + a % 128) = pageAt ps (((N : Int) - 1 - a / 128) * 128) := page_at2 ps (by omega)
  have hset : pageAt (writeSeg ps (((N : Int) - 1 - a / 128) * 128 + a % 128) b) (((N : Int) - 1 - x / 128) * 128) = if a / 128 = x / 128 then putB (pageAt ps (((N : Int) - 1 - a / 128) * 128)) (a % 128).toNat b else pageAt ps (((N : Int) - 1 - x / 128) * 128) := by
    unfold writeSeg
    rw [e1]
    show (List.set ps _ _).getD _ _ = _
    rw [List.getD_eq_getElem?_getD, List.getElem?_set]
    by_cases h : a / 128 = x / 128
    · rw [if_pos (by omega), if_pos h, if_pos (by omega)]
      simp only [Option.getD_some]
      congr 2; omega
    · rw [if_neg (by omega), if_neg h]
      show _ = ps.getD _ _
      rw [List.getD_eq_getElem?_getD]
  unfold fb
  rw [hset]
  by_cases h : a / 128 = x / 128
  · rw [if_pos h, bAt_putB (by rw [hpa]; omega)]
    by_cases h3 : a ≤ x ∧ x < a + b.size
    · rw [if_pos h3, if_pos (by omega)]
      congr 1; omega
    · rw [if_neg h3, if_neg (by omega), h]
  · rw [if_neg h, if_neg (by omega)]
theorem fb_write {N M : Nat} {l : List Mp} {d : Int} {wr : Bool} (hMN : M ≤ N) (hp : ∀ v : Int, 0 ≤ v → v < M → mpPage l d v wr = N - 1 - v) :
    ∀ (n : Nat) (a : Int) (ps : Pg) (s : ByteArray), MemOk ps → ps.length = N → s.size = n → 0 ≤ a → a + n ≤ 128 * M → ∃ rs, parts l ps.length d wr a n = some rs ∧ MemOk (writeAll ps rs s) ∧ (writeAll ps rs s).length = N ∧
      ∀ x : Int, 0 ≤ x → x < 128 * N → fb N (writeAll ps rs s) x = if a ≤ x ∧ x < a + n then bAt s (x - a).toNat else fb N ps x := by
  intro n
  induction n using Nat.strongRecOn with
  | _ n ih =>
    intro a ps s hm hl hs h0 h1
    by_cases hn : n = 0
    · subst hn
      exact ⟨[], parts_zero, hm, hl, fun x _ _ => by rw [if_neg (by omega)]; rfl⟩
    · obtain ⟨k, hk⟩ : ∃ k : Nat, (k : Int) = min (n : Int) (128 - a % 128) := ⟨(min (n : Int) (128 - a % 128)).toNat, by omega⟩
      have hv := hp (a / 128) (by omega) (by omega)
      have ez : (s.extract 0 k).size = k := by rw [ByteArray.size_extract]; omega
      have ez2 : (s.extract k s.size).size = n - k := by rw [ByteArray.size_extract]; omega
      have hw := hm.writeSeg (a := ((N : Int) - 1 - a / 128) * 128 + a % 128) (b := s.extract 0 k) (by omega) (by omega) (by rw [ez]; omega)
      obtain ⟨rs, e, t1, t2, t3⟩ := ih (n - k) (by omega) (a + k) (writeSeg ps (((N : Int) - 1 - a / 128) * 128 + a % 128) (s.extract 0 k)) (s.extract k s.size) hw.1 (hw.2.trans hl) ez2 (by omega) (by omega)
      rw [hw.2] at e
      refine ⟨(((N : Int) - 1 - a / 128) * 128 + a % 128, (k : Int)) :: rs, ?_, ?_, ?_, fun x x0 x1 => ?_⟩
      · rw [parts_some (by omega) h0 (by rw [hv]; omega) (by rw [hv]; omega) hk, e, hv]; rfl
      · simpa only [writeAll, Int.toNat_natCast] using t1
      · simpa only [writeAll, Int.toNat_natCast] using t2
      · simp only [writeAll, Int.toNat_natCast]
        rw [t3 x x0 x1, fb_seg hm hl h0 (by omega) (by rw [ez]; omega) x0 x1, ez]
        by_cases c1 : a + k ≤ x ∧ x < a + k + ((n - k : Nat) : Int)
        · rw [if_pos c1, if_pos (by omega), bAt_extract, if_pos (by omega)]
          congr 1; omega
        · rw [if_neg c1]
          by_cases c2 : a ≤ x ∧ x < a + k
          · rw [if_pos c2, if_pos (by omega), bAt_extract, if_pos (by omega)]
            congr 1; omega
          · rw [if_neg c2, if_neg (by omega)]
theorem runs_of {l : List Mp} {ps : Pg} {d a n : Int} {wr : Bool} (h1 : mapsOk l = true) (h2 : MemOk ps) (h3 : 0 ≤ n) (h4 : n ≤ 4096) : runs l ps d a n wr = parts l ps.length d wr a n.toNat := by
  unfold runs
  rw [if_pos]
  unfold runsOk
  rw [h1, memOk_iff.2 h2, inB_iff.2 ⟨h3, h4⟩]; rfl
theorem dmaR_fb {N : Nat} {l : List Mp} {ps : Pg} {d a n : Int} (ht : Turned N N l d false) (hm : MemOk ps) (hl : ps.length = N) (h0 : 0 ≤ a) (hn : 0 ≤ n) (hn2 : n ≤ 4096) (h1 : a + n ≤ 128 * N) :
    ∃ t, dmaRF l ps d a n = (t, true) ∧ (t.size : Int) = n ∧ ∀ k : Nat, (k : Int) < n → bAt t k = fb N ps (a + k) := by
  obtain ⟨rs, e, t, t1, t2, t3⟩ := fb_read hm hl ht.2.2 n.toNat a h0 (by omega)
  refine ⟨t, ?_, by omega, fun k hk => t3 k (by omega)⟩
  rw [dmaRF_yes ((runs_of ht.1 hm hn hn2).trans e), t1, ba_empty]
theorem dmaW_fb {N M : Nat} {l : List Mp} {ps : Pg} {d a : Int} {s : ByteArray} {wr : Bool} (ht : Turned N M l d wr) (hm : MemOk ps) (hl : ps.length = N) (h0 : 0 ≤ a) (hn2 : s.size ≤ 4096) (h1 : a + s.size ≤ 128 * M) :
    ∃ qs, dmaWF l ps d a s wr = (qs, true) ∧ MemOk qs ∧ qs.length = N ∧ ∀ x : Int, 0 ≤ x → x < 128 * N → fb N qs x = if a ≤ x ∧ x < a + s.size then bAt s (x - a).toNat else fb N ps x := by
  obtain ⟨rs, e, t1, t2, t3⟩ := fb_write ht.2.1 ht.2.2 s.size a ps s hm hl rfl h0 h1
  exact ⟨_, dmaWF_yes ((runs_of ht.1 hm (by omega) (by omega)).trans (by rw [Int.toNat_natCast]; exact e)), t1, t2, t3⟩
def fs (N : Nat) (ps : Pg) (a : Int) (n : Nat) : ByteArray := ⟨((List.range n).map fun k : Nat => UInt8.ofNat (fb N ps (a + k))).toArray⟩
theorem fs_size (N : Nat) (ps : Pg) (a : Int) (n : Nat) : (fs N ps a n).size = n := by
  show ((List.range n).map _).toArray.size = n
  simp
theorem fs_at {N : Nat} {ps : Pg} {a : Int} {n k : Nat} (h : k < n) : bAt (fs N ps a n) k = fb N ps (a + k) := by
  unfold bAt
  rw [dif_pos (by rw [fs_size]; exact h)]
  show (((List.range n).map fun k : Nat => UInt8.ofNat (fb N ps (a + k))).toArray[k]'(by simpa using h)).toNat = _
  simp
  have := fb_lt N ps (a + k)
  omega
theorem dmaR_fs {N : Nat} {l : List Mp} {ps : Pg} {d a n : Int} (ht : Turned N N l d false) (hm : MemOk ps) (hl : ps.length = N) (h0 : 0 ≤ a) (hn : 0 ≤ n) (hn2 : n ≤ 4096) (h1 : a + n ≤ 128 * N) : dmaRF l ps d a n = (fs N ps a n.toNat, true) := by
  obtain ⟨t, e, t1, t2⟩ := dmaR_fb ht hm hl h0 hn hn2 h1
  rw [e, ba_ext (s := t) (t := fs N ps a n.toNat) (by rw [fs_size]; omega) fun i hi => by rw [t2 i (by omega), fs_at (by omega)]]
theorem fs_in {N : Nat} {ps qs : Pg} {a x : Int} {n : Nat} {s : ByteArray} (h : ∀ y : Int, 0 ≤ y → y < 128 * N → fb N qs y = if a ≤ y ∧ y < a + s.size then bAt s (y - a).toNat else fb N ps y) (h0 : 0 ≤ x) (h1 : x + n ≤ 128 * N) (h2 : a ≤ x) (h3 : x + n ≤ a + s.size) : fs N qs x n = s.extract (x - a).toNat ((x - a).toNat + n) := by
  refine ba_ext (by rw [fs_size, ByteArray.size_extract]; omega) fun i hi => ?_
  rw [fs_size] at hi
  rw [fs_at hi, h _ (by omega) (by omega), if_pos (by omega), bAt_extract, if_pos (by omega)]
  congr 1; omega
theorem fs_here {N : Nat} {ps qs : Pg} {a : Int} {s : ByteArray} (h : ∀ y : Int, 0 ≤ y → y < 128 * N → fb N qs y = if a ≤ y ∧ y < a + s.size then bAt s (y - a).toNat else fb N ps y) (h0 : 0 ≤ a) (h1 : a + s.size ≤ 128 * N) : fs N qs a s.size = s := by
  rw [fs_in h h0 h1 (Int.le_refl _) (Int.le_refl _), show (a - a).toNat = 0 by omega, Nat.zero_add, ByteArray.extract_zero_size]
theorem fs_off {N : Nat} {ps qs : Pg} {a x : Int} {n : Nat} {s : ByteArray} (h : ∀ y : Int, 0 ≤ y → y < 128 * N → fb N qs y = if a ≤ y ∧ y < a + s.size then bAt s (y - a).toNat else fb N ps y) (h0 : 0 ≤ x) (h1 : x + n ≤ 128 * N) (h2 : x + n ≤ a ∨ a + s.size ≤ x) : fs N qs x n = fs N ps x n := by
  refine ba_ext (by rw [fs_size, fs_size]) fun i hi => ?_
  rw [fs_size] at hi
  rw [fs_at hi, fs_at hi, h _ (by omega) (by omega), if_neg (by omega)]
end Go.Proofs.YtfcmcedeapgdcaaGreat
end
section
namespace Go.Proofs.YtfcmcedeapgdcaaGreat
open Go Go.RowKit Go.Vc
set_option linter.unusedVariables false
set_option linter.unusedSimpArgs false
set_option linter.unnecessarySimpa false
end Go.Proofs.YtfcmcedeapgdcaaGreat
end
section
namespace Go.Proofs.YtfcmcedeapgdcaaGreat
open Go Go.RowKit Go.Vc
set_option linter.unusedVariables false
set_option linter.unusedSimpArgs false
set_option linter.unnecessarySimpa false
end Go.Proofs.YtfcmcedeapgdcaaGreat
end
section
namespace Go.Proofs.YtfcmcedeapgdcaaGreat
open Go Go.RowKit Go.Vc
set_option linter.unusedVariables false
set_option linter.unusedSimpArgs false
set_option linter.unnecessarySimpa false
end Go.Proofs.YtfcmcedeapgdcaaGreat
end
section
namespace Go.Proofs.YtfcmcedeapgdcaaGreat
open Go Go.RowKit Go.Vc
set_option linter.unusedVariables false
set_option linter.unusedSimpArgs false
set_option linter.unnecessarySimpa false
end Go.Proofs.YtfcmcedeapgdcaaGreat
end
section
namespace Go.Proofs.YtfcmcedeapgdcaaGreat
open Go Go.RowKit Go.Vc
set_option linter.unusedVariables false
set_option linter.unusedSimpArgs false
set_option linter.unnecessarySimpa false
theorem eth_sz {s : ByteArray} (h : (ethX s).ok = true) : 18 ≤ s.size := by
  have h2 : inB ((ethX s).body.size : Int) 46 400 = true := by
    unfold EthX.ok ethOkB at h
    simp only [Bool.and_eq_true] at h
    exact h.2
  have := inB_iff.1 h2
  have := ethX_body s
  omega
theorem eth_n {s : ByteArray} {e : EthX} (hx : ethX s = e) (h : s.size < 18 ∨ e.ok = false) : ethPF s = ⟨0, 0, 0, 0, ⟨#[]⟩⟩ ∧ ethPB s = false := by
  have hb : ethPB s = false := by
    unfold ethPB
    rcases h with h | h
    · rw [decide_eq_false (by omega)]; rfl
    · rw [hx, h, Bool.and_false]
  exact ⟨ethPF_n hb, hb⟩
theorem eth_y {s : ByteArray} {e : EthX} (hx : ethX s = e) (h : e.ok = true) : ethPF s = e ∧ ethPB s = true := by
  have hb : ethPB s = true := by
    have := eth_sz (hx ▸ h)
    unfold ethPB
    rw [decide_eq_true this, hx, h]; rfl
  exact ⟨(ethPF_y hb).trans hx, hb⟩
theorem ip_n {s : ByteArray} (h : s.size < 20 ∨ get16 s 2 < 20 ∨ (s.size : Int) < get16 s 2 ∨ (ipX s).ok = false ∨ ¬ (ipX s).im = s.extract (Int.toNat 0) (get16 s 2).toNat) : ipPF s = ⟨0, 0, 0, 0, 0, 0, ⟨#[]⟩⟩ ∧ ipPB s = false := by
  have hb : ipPB s = false := by
    unfold ipPB
    rcases h with h | h | h | h | h
    · rw [decide_eq_false (by omega)]; rfl
    · rw [decide_eq_false (p := 20 ≤ get16 s 2) (by omega)]; simp
    · rw [decide_eq_false (p := get16 s 2 ≤ s.size) (by omega)]; simp
    · rw [h]; simp
    · rw [decide_eq_false h]; simp
  exact ⟨ipPF_n hb, hb⟩
theorem ip_y {s : ByteArray} (h1 : 20 ≤ s.size) (h2 : 20 ≤ get16 s 2) (h3 : get16 s 2 ≤ s.size) (h4 : (ipX s).ok = true) (h5 : (ipX s).im = s.extract (Int.toNat 0) (get16 s 2).toNat) : ipPF s = ipX s ∧ ipPB s = true := by
  have hb : ipPB s = true := by
    unfold ipPB
    rw [decide_eq_true h1, decide_eq_true h2, decide_eq_true h3, h4, decide_eq_true h5]; rfl
  exact ⟨ipPF_y hb, hb⟩
theorem seg_n0 {src dst kind : Int} {s : ByteArray} (h1 : ¬ (kind = 6 ∧ 20 ≤ s.size)) (h2 : ¬ (kind = 17 ∧ 8 ≤ s.size)) : segPF src dst kind s = ⟨0, 0, 0, 0, 0, 0, 0, ⟨#[]⟩⟩ ∧ segPB src dst kind s = false := by
  have hb : segPB src dst kind s = false := by
    unfold segPB
    have e1 : (decide (kind = 6) && decide (20 ≤ s.size)) = false := by rw [← Bool.decide_and]; exact decide_eq_false h1
    have e2 : (decide (kind = 17) && decide (8 ≤ s.size)) = false := by rw [← Bool.decide_and]; exact decide_eq_false h2
    rw [e1, e2]; rfl
  exact ⟨segPF_n hb, hb⟩
theorem seg_nx {src dst kind : Int} {s : ByteArray} {g : SegX} (hx : segX kind s = g) (h : g.ok src dst = false ∨ ¬ g.im src dst = s) : segPF src dst kind s = ⟨0, 0, 0, 0, 0, 0, 0, ⟨#[]⟩⟩ ∧ segPB src dst kind s = false := by
  have hb : segPB src dst kind s = false := by
    unfold segPB
    rw [hx]
    rcases h with h | h
    · rw [h]; simp
    · rw [decide_eq_false h]; simp
  exact ⟨segPF_n hb, hb⟩
theorem seg_yx {src dst kind : Int} {s : ByteArray} {g : SegX} (hx : segX kind s = g) (hk : (kind = 6 ∧ 20 ≤ s.size) ∨ (kind = 17 ∧ 8 ≤ s.size)) (h1 : g.ok src dst = true) (h2 : g.im src dst = s) : segPF src dst kind s = g ∧ segPB src dst kind s = true := by
  have hb : segPB src dst kind s = true := by
    unfold segPB
    rw [hx, h1, decide_eq_true h2]
    rcases hk with ⟨a, b⟩ | ⟨a, b⟩ <;> rw [decide_eq_true a, decide_eq_true b] <;> simp
  exact ⟨(segPF_y hb).trans hx, hb⟩
set_option maxHeartbeats 4000000 in
theorem c_impl_ParseEth {s : ByteArray} (hs_s : s.size ≤ 1099511627776 := by first | assumption | omega | (simp only [ByteArray.size_append, ByteArray.size_extract, strOfNums_size, List.length_cons, List.length_nil]; omega)) : Con0 Tryz.prog 87 [Z s] (.tup [.agg [V (ethPF s).dst, V (ethPF s).src, V (ethPF s).vl, V (ethPF s).ty, VS (ethPF s).body], B (ethPB s)]) [] := by
  refine con_i Tryz.func87 Tryz.ntmps87 (t := [(0, Z s)]) rfl ?_
  refine vc_sr ?_
  iterate 2 refine vo ?_
  refine vnt ?_
  refine vc_seq' ?_
  refine vc_sr ?_
  iterate 3 refine vo ?_
  refine vnt ?_
  refine vc_if (fun g1 => ?_) (fun g1 => ?_)
  · refine vc_sr ?_
    iterate 3 refine vo ?_
    refine vnt ?_
    refine vc_ret ?_
    refine thn_r ?_
    refine fin_i [] rfl (fz ?_) trivial
    have hh := eth_n (s := s) rfl (.inl (by omega))
    rw [hh.1, hh.2]
    trivial
  · have k0 := get16_in (s := s) (i := 0) (by omega) (by omega)
    have k1 := get32_in (s := s) (i := 2) (by omega) (by omega)
    have k2 := get16_in (s := s) (i := 6) (by omega) (by omega)
    have k3 := get32_in (s := s) (i := 8) (by omega) (by omega)
    refine vc_skip ?_
    refine thn ?_
    refine vc_sr ?_
    refine vo ?_
    refine voc c_impl_Get16 rfl rfl ?_
    iterate 2 refine vo ?_
    refine voc c_impl_Get32 rfl rfl ?_
    refine vo ?_
    refine veq (m6_sh k0 k1) ?_
    refine vo ?_
    refine voc c_impl_Get16 rfl rfl ?_
    iterate 2 refine vo ?_
    refine voc c_impl_Get32 rfl rfl ?_
    refine vo ?_
    refine veq (m6_sh k2 k3) ?_
    refine vo ?_
    refine voc c_impl_Get16 rfl rfl ?_
    iterate 2 refine vo ?_
    try first | refine vdr ?_ | refine vtk ?_
    iterate 3 refine vo ?_
    refine vnt ?_
    refine vc_seq' ?_
    refine vc_sr ?_
    iterate 4 refine vo ?_
    refine vsp (fun g2 => ?_) (fun g2 => ?_)
    · iterate 3 refine von ?_
      refine vo ?_
      refine vnt ?_
      refine vc_if (fun g3 => ?_) (fun g3 => ?_)
      · refine vc_sr ?_
        refine vo ?_
        refine voc c_impl_Get16 rfl rfl ?_
        iterate 2 refine vo ?_
        refine vnt ?_
        refine vc_sr ?_
        refine vo ?_
        refine voc c_impl_Get16 rfl rfl ?_
        iterate 2 refine vo ?_
        refine vnt ?_
        refine vc_region ?_
        iterate 2 refine vo ?_
        try first | refine vdr ?_ | refine vtk ?_
        iterate 2 refine vo ?_
        refine vnt ?_
        refine vc_seq' ?_
        refine vc_sr ?_
        refine vo ?_
        refine voc c_impl_EthOk rfl rfl ?_
        refine vo ?_
        refine vnt ?_
        refine vc_if (fun g4 => ?_) (fun g4 => ?_)
        · refine vc_sr ?_
          iterate 3 refine vo ?_
          refine vnt ?_
          refine vc_ret ?_
          refine thn_r ?_
          refine fin_i [] rfl (fz ?_) trivial
          have hx : ethX s = ⟨m6 s 0, m6 s 6, get16 s 14, get16 s 16, s.extract (Int.toNat 18) s.size⟩ := if_pos ⟨by omega, by omega⟩
          have hh := eth_n hx (.inr g4)
          rw [hh.1, hh.2]
          trivial
        · refine vc_skip ?_
          refine thn ?_
          refine vc_sr ?_
          iterate 3 refine vo ?_
          refine vnt ?_
          refine vc_ret ?_
          refine fin_i [] rfl (fz ?_) trivial
          have hx : ethX s = ⟨m6 s 0, m6 s 6, get16 s 14, get16 s 16, s.extract (Int.toNat 18) s.size⟩ := if_pos ⟨by omega, by omega⟩
          have hh := eth_y hx g4
          rw [hh.1, hh.2]
          first | trivial | (repeat' (refine And.intro ?_ ?_)) <;> first | rfl | trivial | omega | simp [m6]
      · refine vc_skip ?_
        refine thn ?_
        refine vc_seq' ?_
        refine vc_sr ?_
        refine vo ?_
        refine voc c_impl_EthOk rfl rfl ?_
        refine vo ?_
        refine vnt ?_
        refine vc_if (fun g5 => ?_) (fun g5 => ?_)
        · refine vc_sr ?_
          iterate 3 refine vo ?_
          refine vnt ?_
          refine vc_ret ?_
          refine thn_r ?_
          refine fin_i [] rfl (fz ?_) trivial
          have hx : ethX s = ⟨m6 s 0, m6 s 6, -1, get16 s 12, s.extract (Int.toNat 14) s.size⟩ := if_neg (by omega)
          have hh := eth_n hx (.inr g5)
          rw [hh.1, hh.2]
          trivial
        · refine vc_skip ?_
          refine thn ?_
          refine vc_sr ?_
          iterate 3 refine vo ?_
          refine vnt ?_
          refine vc_ret ?_
          refine fin_i [] rfl (fz ?_) trivial
          have hx : ethX s = ⟨m6 s 0, m6 s 6, -1, get16 s 12, s.extract (Int.toNat 14) s.size⟩ := if_neg (by omega)
          have hh := eth_y hx g5
          rw [hh.1, hh.2]
          first | trivial | (repeat' (refine And.intro ?_ ?_)) <;> first | rfl | trivial | omega | simp [m6]
    · iterate 3 refine vof ?_
      refine vo ?_
      refine vnt ?_
      refine vc_else ?_
      refine vc_skip ?_
      refine thn ?_
      refine vc_seq' ?_
      refine vc_sr ?_
      refine vo ?_
      refine voc c_impl_EthOk rfl rfl ?_
      refine vo ?_
      refine vnt ?_
      refine vc_if (fun g6 => ?_) (fun g6 => ?_)
      · refine vc_sr ?_
        iterate 3 refine vo ?_
        refine vnt ?_
        refine vc_ret ?_
        refine thn_r ?_
        refine fin_i [] rfl (fz ?_) trivial
        have hx : ethX s = ⟨m6 s 0, m6 s 6, -1, get16 s 12, s.extract (Int.toNat 14) s.size⟩ := if_neg (by omega)
        have hh := eth_n hx (.inr g6)
        rw [hh.1, hh.2]
        trivial
      · refine vc_skip ?_
        refine thn ?_
        refine vc_sr ?_
        iterate 3 refine vo ?_
        refine vnt ?_
        refine vc_ret ?_
        refine fin_i [] rfl (fz ?_) trivial
        have hx : ethX s = ⟨m6 s 0, m6 s 6, -1, get16 s 12, s.extract (Int.toNat 14) s.size⟩ := if_neg (by omega)
        have hh := eth_y hx g6
        rw [hh.1, hh.2]
        first | trivial | (repeat' (refine And.intro ?_ ?_)) <;> first | rfl | trivial | omega | simp [m6]
set_option maxHeartbeats 4000000 in
theorem c_impl_ParseIp {s : ByteArray} (hs_s : s.size ≤ 1099511627776 := by first | assumption | omega | (simp only [ByteArray.size_append, ByteArray.size_extract, strOfNums_size, List.length_cons, List.length_nil]; omega)) : Con0 Tryz.prog 88 [Z s] (.tup [.agg [V (ipPF s).tos, V (ipPF s).id, V (ipPF s).ttl, V (ipPF s).pr, V (ipPF s).src, V (ipPF s).dst, VS (ipPF s).body], B (ipPB s)]) [] := by
  refine con_i Tryz.func88 Tryz.ntmps88 (t := [(0, Z s)]) rfl ?_
  refine vc_sr ?_
  iterate 2 refine vo ?_
  refine vnt ?_
  refine vc_sr ?_
  refine vo ?_
  refine voc c_impl_Get16 rfl rfl ?_
  refine vo ?_
  refine vnt ?_
  refine vc_seq' ?_
  refine vc_sr ?_
  iterate 4 refine vo ?_
  refine vsp (fun g1 => ?_) (fun g1 => ?_)
  · iterate 2 refine vof ?_
    iterate 2 refine vo ?_
    iterate 4 refine vof ?_
    refine vo ?_
    refine vnt ?_
    refine vc_then ?_
    refine vc_sr ?_
    iterate 3 refine vo ?_
    refine vnt ?_
    refine vc_ret ?_
    refine thn_r ?_
    refine fin_i [] rfl (fz ?_) trivial
    have hh := ip_n (s := s) (.inl (by omega))
    rw [hh.1, hh.2]
    trivial
  · iterate 2 refine von ?_
    iterate 2 refine vo ?_
    refine vsp (fun g2 => ?_) (fun g2 => ?_)
    · iterate 4 refine vof ?_
      refine vo ?_
      refine vnt ?_
      refine vc_then ?_
      refine vc_sr ?_
      iterate 3 refine vo ?_
      refine vnt ?_
      refine vc_ret ?_
      refine thn_r ?_
      refine fin_i [] rfl (fz ?_) trivial
      have hh := ip_n (s := s) (.inr (.inl (by omega)))
      rw [hh.1, hh.2]
      trivial
    · iterate 4 refine von ?_
      refine vo ?_
      refine vnt ?_
      refine vc_if (fun g3 => ?_) (fun g3 => ?_)
      · refine vc_sr ?_
        iterate 3 refine vo ?_
        refine vnt ?_
        refine vc_ret ?_
        refine thn_r ?_
        refine fin_i [] rfl (fz ?_) trivial
        have hh := ip_n (s := s) (.inr (.inr (.inl (by omega))))
        rw [hh.1, hh.2]
        trivial
      · refine vc_skip ?_
        refine thn ?_
        refine vc_sr ?_
        iterate 3 refine vo ?_
        try refine veq (i64_byt _ _) ?_
        refine vo ?_
        refine voc c_impl_Get16 rfl rfl ?_
        iterate 3 refine vo ?_
        try refine veq (i64_byt _ _) ?_
        iterate 3 refine vo ?_
        try refine veq (i64_byt _ _) ?_
        refine vo ?_
        refine voc c_impl_Get32 rfl rfl ?_
        refine vo ?_
        refine voc c_impl_Get32 rfl rfl ?_
        iterate 3 refine vo ?_
        try first | refine vdr ?_ | refine vtk ?_
        iterate 3 refine vo ?_
        refine vnt ?_
        refine vc_sr ?_
        refine vo ?_
        refine voc c_impl_BuildIp rfl rfl ?_
        iterate 5 refine vo ?_
        refine vnt ?_
        refine vc_seq' ?_
        refine vc_sr ?_
        iterate 3 refine vo ?_
        refine vsp (fun g4 => ?_) (fun g4 => ?_)
        · iterate 5 refine vof ?_
          refine vo ?_
          refine vnt ?_
          refine vc_then ?_
          refine vc_sr ?_
          iterate 3 refine vo ?_
          refine vnt ?_
          refine vc_ret ?_
          refine thn_r ?_
          refine fin_i [] rfl (fz ?_) trivial
          have hh := ip_n (s := s) (.inr (.inr (.inr (.inl g4))))
          rw [hh.1, hh.2]
          trivial
        · iterate 4 refine von ?_
          try first | refine vdr ?_ | refine vtk ?_
          refine von ?_
          refine vo ?_
          refine vnt ?_
          refine vc_if (fun g5 => ?_) (fun g5 => ?_)
          · refine vc_sr ?_
            iterate 3 refine vo ?_
            refine vnt ?_
            refine vc_ret ?_
            refine thn_r ?_
            refine fin_i [] rfl (fz ?_) trivial
            have hh := ip_n (s := s) (.inr (.inr (.inr (.inr g5))))
            rw [hh.1, hh.2]
            trivial
          · refine vc_skip ?_
            refine thn ?_
            refine vc_sr ?_
            iterate 3 refine vo ?_
            refine vnt ?_
            refine vc_ret ?_
            refine fin_i [] rfl (fz ?_) trivial
            have hh := ip_y (s := s) (by omega) (by omega) (by omega) g4 g5
            rw [hh.1, hh.2]
            first | trivial | (repeat' (refine And.intro ?_ ?_)) <;> first | rfl | trivial | omega | simp [m6]
set_option maxHeartbeats 4000000 in
theorem c_impl_ParseSegment {src dst kind : Int} {s : ByteArray} (hs_s : s.size ≤ 1099511627776 := by first | assumption | omega | (simp only [ByteArray.size_append, ByteArray.size_extract, strOfNums_size, List.length_cons, List.length_nil]; omega)) : Con0 Tryz.prog 89 [I src, I dst, I kind, Z s] (.tup [.agg [V (segPF src dst kind s).kind, V (segPF src dst kind s).sp, V (segPF src dst kind s).dp, V (segPF src dst kind s).seq, V (segPF src dst kind s).ack, V (segPF src dst kind s).fl, V (segPF src dst kind s).win, VS (segPF src dst kind s).body], B (segPB src dst kind s)]) [] := by
  refine con_i Tryz.func89 Tryz.ntmps89 (t := [(0, I src), (1, I dst), (2, I kind), (3, Z s)]) rfl ?_
  refine vc_sr ?_
  iterate 2 refine vo ?_
  refine vnt ?_
  refine vc_sr ?_
  iterate 2 refine vo ?_
  refine voc c_impl_Get16 rfl rfl ?_
  refine vo ?_
  refine voc c_impl_Get16 rfl rfl ?_
  iterate 3 refine vo ?_
  refine vnt ?_
  refine vc_seq' ?_
  refine vc_block ?_
  refine vc_sr ?_
  iterate 3 refine vo ?_
  refine vsp (fun g1 => ?_) (fun g1 => ?_)
  · iterate 3 refine von ?_
    iterate 2 refine vo ?_
    refine vnt ?_
    refine vc_if (fun g2 => ?_) (fun g2 => ?_)
    · refine vc_sr ?_
      refine vo ?_
      refine voc c_impl_Get32 rfl rfl ?_
      iterate 2 refine vo ?_
      refine vnt ?_
      refine vc_sr ?_
      refine vo ?_
      refine voc c_impl_Get32 rfl rfl ?_
      iterate 2 refine vo ?_
      refine vnt ?_
      refine vc_sr ?_
      iterate 3 refine vo ?_
      try refine veq (i64_byt _ _) ?_
      iterate 2 refine vo ?_
      refine vnt ?_
      refine vc_sr ?_
      refine vo ?_
      refine voc c_impl_Get16 rfl rfl ?_
      iterate 2 refine vo ?_
      refine vnt ?_
      refine vc_region ?_
      iterate 2 refine vo ?_
      try first | refine vdr ?_ | refine vtk ?_
      iterate 2 refine vo ?_
      refine vnil ?_
      refine inB_n ?_
      refine thn ?_
      refine vc_sr ?_
      iterate 3 refine vo ?_
      refine voc c_impl_BuildSegment rfl rfl ?_
      iterate 5 refine vo ?_
      refine vnt ?_
      refine vc_seq' ?_
      refine vc_sr ?_
      iterate 3 refine vo ?_
      refine vsp (fun g3 => ?_) (fun g3 => ?_)
      · iterate 3 refine vof ?_
        refine vo ?_
        refine vnt ?_
        refine vc_then ?_
        refine vc_sr ?_
        iterate 3 refine vo ?_
        refine vnt ?_
        refine vc_ret ?_
        refine thn_r ?_
        refine fin_i [] rfl (fz ?_) trivial
        have hx : segX kind s = ⟨kind, get16 s 0, get16 s 2, get32 s 4, get32 s 8, bAt s 13, get16 s 14, s.extract (Int.toNat 20) s.size⟩ := if_pos (by omega)
        have hh := seg_nx (src := src) (dst := dst) hx (.inl g3)
        rw [hh.1, hh.2]
        trivial
      · iterate 3 refine von ?_
        refine vo ?_
        refine vnt ?_
        refine vc_if (fun g4 => ?_) (fun g4 => ?_)
        · refine vc_sr ?_
          iterate 3 refine vo ?_
          refine vnt ?_
          refine vc_ret ?_
          refine thn_r ?_
          refine fin_i [] rfl (fz ?_) trivial
          have hx : segX kind s = ⟨kind, get16 s 0, get16 s 2, get32 s 4, get32 s 8, bAt s 13, get16 s 14, s.extract (Int.toNat 20) s.size⟩ := if_pos (by omega)
          have hh := seg_nx (src := src) (dst := dst) hx (.inr g4)
          rw [hh.1, hh.2]
          trivial
        · refine vc_skip ?_
          refine thn ?_
          refine vc_sr ?_
          iterate 3 refine vo ?_
          refine vnt ?_
          refine vc_ret ?_
          refine fin_i [] rfl (fz ?_) trivial
          have hx : segX kind s = ⟨kind, get16 s 0, get16 s 2, get32 s 4, get32 s 8, bAt s 13, get16 s 14, s.extract (Int.toNat 20) s.size⟩ := if_pos (by omega)
          have hh := seg_yx (src := src) (dst := dst) hx (.inl ⟨by omega, by omega⟩) g3 g4
          rw [hh.1, hh.2]
          first | trivial | (repeat' (refine And.intro ?_ ?_)) <;> first | rfl | trivial | omega | simp [m6]
    · refine vc_sr ?_
      iterate 3 refine vo ?_
      refine vsp (fun g5 => ?_) (fun g5 => ?_)
      · iterate 3 refine von ?_
        iterate 2 refine vo ?_
        refine vnt ?_
        refine vc_if (fun g6 => ?_) (fun g6 => ?_)
        · refine vc_region ?_
          iterate 2 refine vo ?_
          try first | refine vdr ?_ | refine vtk ?_
          iterate 2 refine vo ?_
          refine vnil ?_
          refine inB_n ?_
          refine thn ?_
          refine vc_sr ?_
          iterate 3 refine vo ?_
          refine voc c_impl_BuildSegment rfl rfl ?_
          iterate 5 refine vo ?_
          refine vnt ?_
          refine vc_seq' ?_
          refine vc_sr ?_
          iterate 3 refine vo ?_
          refine vsp (fun g7 => ?_) (fun g7 => ?_)
          · iterate 3 refine vof ?_
            refine vo ?_
            refine vnt ?_
            refine vc_then ?_
            refine vc_sr ?_
            iterate 3 refine vo ?_
            refine vnt ?_
            refine vc_ret ?_
            refine thn_r ?_
            refine fin_i [] rfl (fz ?_) trivial
            have hx : segX kind s = ⟨kind, get16 s 0, get16 s 2, 0, 0, 0, 0, s.extract (Int.toNat 8) s.size⟩ := if_neg (by omega)
            have hh := seg_nx (src := src) (dst := dst) hx (.inl g7)
            rw [hh.1, hh.2]
            trivial
          · iterate 3 refine von ?_
            refine vo ?_
            refine vnt ?_
            refine vc_if (fun g8 => ?_) (fun g8 => ?_)
            · refine vc_sr ?_
              iterate 3 refine vo ?_
              refine vnt ?_
              refine vc_ret ?_
              refine thn_r ?_
              refine fin_i [] rfl (fz ?_) trivial
              have hx : segX kind s = ⟨kind, get16 s 0, get16 s 2, 0, 0, 0, 0, s.extract (Int.toNat 8) s.size⟩ := if_neg (by omega)
              have hh := seg_nx (src := src) (dst := dst) hx (.inr g8)
              rw [hh.1, hh.2]
              trivial
            · refine vc_skip ?_
              refine thn ?_
              refine vc_sr ?_
              iterate 3 refine vo ?_
              refine vnt ?_
              refine vc_ret ?_
              refine fin_i [] rfl (fz ?_) trivial
              have hx : segX kind s = ⟨kind, get16 s 0, get16 s 2, 0, 0, 0, 0, s.extract (Int.toNat 8) s.size⟩ := if_neg (by omega)
              have hh := seg_yx (src := src) (dst := dst) hx (.inr ⟨by omega, by omega⟩) g7 g8
              rw [hh.1, hh.2]
              first | trivial | (repeat' (refine And.intro ?_ ?_)) <;> first | rfl | trivial | omega | simp [m6]
        · refine vc_sr ?_
          iterate 3 refine vo ?_
          refine vnt ?_
          refine vc_ret ?_
          refine inB_r ?_
          refine thn_r ?_
          refine fin_i [] rfl (fz ?_) trivial
          have hh := seg_n0 (src := src) (dst := dst) (kind := kind) (s := s) (by omega) (by omega)
          rw [hh.1, hh.2]
          trivial
      · iterate 3 refine vof ?_
        iterate 2 refine vo ?_
        refine vnt ?_
        refine vc_else ?_
        refine vc_sr ?_
        iterate 3 refine vo ?_
        refine vnt ?_
        refine vc_ret ?_
        refine inB_r ?_
        refine thn_r ?_
        refine fin_i [] rfl (fz ?_) trivial
        have hh := seg_n0 (src := src) (dst := dst) (kind := kind) (s := s) (by omega) (by omega)
        rw [hh.1, hh.2]
        trivial
  · iterate 3 refine vof ?_
    iterate 2 refine vo ?_
    refine vnt ?_
    refine vc_else ?_
    refine vc_sr ?_
    iterate 3 refine vo ?_
    refine vsp (fun g9 => ?_) (fun g9 => ?_)
    · iterate 3 refine von ?_
      iterate 2 refine vo ?_
      refine vnt ?_
      refine vc_if (fun g10 => ?_) (fun g10 => ?_)
      · refine vc_region ?_
        iterate 2 refine vo ?_
        try first | refine vdr ?_ | refine vtk ?_
        iterate 2 refine vo ?_
        refine vnil ?_
        refine inB_n ?_
        refine thn ?_
        refine vc_sr ?_
        iterate 3 refine vo ?_
        refine voc c_impl_BuildSegment rfl rfl ?_
        iterate 5 refine vo ?_
        refine vnt ?_
        refine vc_seq' ?_
        refine vc_sr ?_
        iterate 3 refine vo ?_
        refine vsp (fun g11 => ?_) (fun g11 => ?_)
        · iterate 3 refine vof ?_
          refine vo ?_
          refine vnt ?_
          refine vc_then ?_
          refine vc_sr ?_
          iterate 3 refine vo ?_
          refine vnt ?_
          refine vc_ret ?_
          refine thn_r ?_
          refine fin_i [] rfl (fz ?_) trivial
          have hx : segX kind s = ⟨kind, get16 s 0, get16 s 2, 0, 0, 0, 0, s.extract (Int.toNat 8) s.size⟩ := if_neg (by omega)
          have hh := seg_nx (src := src) (dst := dst) hx (.inl g11)
          rw [hh.1, hh.2]
          trivial
        · iterate 3 refine von ?_
          refine vo ?_
          refine vnt ?_
          refine vc_if (fun g12 => ?_) (fun g12 => ?_)
          · refine vc_sr ?_
            iterate 3 refine vo ?_
            refine vnt ?_
            refine vc_ret ?_
            refine thn_r ?_
            refine fin_i [] rfl (fz ?_) trivial
            have hx : segX kind s = ⟨kind, get16 s 0, get16 s 2, 0, 0, 0, 0, s.extract (Int.toNat 8) s.size⟩ := if_neg (by omega)
            have hh := seg_nx (src := src) (dst := dst) hx (.inr g12)
            rw [hh.1, hh.2]
            trivial
          · refine vc_skip ?_
            refine thn ?_
            refine vc_sr ?_
            iterate 3 refine vo ?_
            refine vnt ?_
            refine vc_ret ?_
            refine fin_i [] rfl (fz ?_) trivial
            have hx : segX kind s = ⟨kind, get16 s 0, get16 s 2, 0, 0, 0, 0, s.extract (Int.toNat 8) s.size⟩ := if_neg (by omega)
            have hh := seg_yx (src := src) (dst := dst) hx (.inr ⟨by omega, by omega⟩) g11 g12
            rw [hh.1, hh.2]
            first | trivial | (repeat' (refine And.intro ?_ ?_)) <;> first | rfl | trivial | omega | simp [m6]
      · refine vc_sr ?_
        iterate 3 refine vo ?_
        refine vnt ?_
        refine vc_ret ?_
        refine inB_r ?_
        refine thn_r ?_
        refine fin_i [] rfl (fz ?_) trivial
        have hh := seg_n0 (src := src) (dst := dst) (kind := kind) (s := s) (by omega) (by omega)
        rw [hh.1, hh.2]
        trivial
    · iterate 3 refine vof ?_
      iterate 2 refine vo ?_
      refine vnt ?_
      refine vc_else ?_
      refine vc_sr ?_
      iterate 3 refine vo ?_
      refine vnt ?_
      refine vc_ret ?_
      refine inB_r ?_
      refine thn_r ?_
      refine fin_i [] rfl (fz ?_) trivial
      have hh := seg_n0 (src := src) (dst := dst) (kind := kind) (s := s) (by omega) (by omega)
      rw [hh.1, hh.2]
      trivial
set_option maxHeartbeats 4000000 in
theorem c_impl_ReadImage {s : ByteArray} (hs_s : s.size ≤ 1099511627776 := by first | assumption | omega | (simp only [ByteArray.size_append, ByteArray.size_extract, strOfNums_size, List.length_cons, List.length_nil]; omega)) : Con0 Tryz.prog 46 [Z s] (.tup [.agg [V (rdF s).dm, V (rdF s).sm, V (rdF s).vl, V (rdF s).tos, V (rdF s).id, V (rdF s).ttl, V (rdF s).si, V (rdF s).di, V (rdF s).kind, V (rdF s).sp, V (rdF s).dp, V (rdF s).seq, V (rdF s).ack, V (rdF s).fl, V (rdF s).win, VS (rdF s).body], I (rdC s)]) [] := by
  refine con_i Tryz.func46 Tryz.ntmps46 (t := [(0, Z s)]) rfl ?_
  refine vc_sr ?_
  iterate 2 refine vo ?_
  refine vnt ?_
  refine vc_sr ?_
  refine vo ?_
  refine voc c_impl_ParseEth rfl rfl ?_
  iterate 6 refine vo ?_
  refine vnt ?_
  refine vc_seq' ?_
  refine vc_sr ?_
  iterate 3 refine vo ?_
  refine vsp (fun g1 => ?_) (fun g1 => ?_)
  · iterate 3 refine vof ?_
    refine vo ?_
    refine vnt ?_
    refine vc_then ?_
    refine vc_sr ?_
    iterate 3 refine vo ?_
    refine vnt ?_
    refine vc_ret ?_
    refine thn_r ?_
    refine fin_i [] rfl (fz ?_) trivial
    have hh := rd_2 (.inl g1)
    rw [hh.1, hh.2]
    trivial
  · rw [ethPF_y g1]
    have z1 : (ethX s).body.size ≤ 1099511627776 := Nat.le_trans (ethX_body s) hs_s
    iterate 3 refine von ?_
    refine vo ?_
    refine vnt ?_
    refine vc_if (fun g2 => ?_) (fun g2 => ?_)
    · refine vc_sr ?_
      iterate 3 refine vo ?_
      refine vnt ?_
      refine vc_ret ?_
      refine thn_r ?_
      refine fin_i [] rfl (fz ?_) trivial
      have hh := rd_2 (.inr g2)
      rw [hh.1, hh.2]
      trivial
    · refine vc_skip ?_
      refine thn ?_
      refine vc_sr ?_
      iterate 2 refine vo ?_
      refine voc c_impl_ParseIp rfl rfl ?_
      iterate 6 refine vo ?_
      refine vnt ?_
      refine vc_seq' ?_
      refine vc_sr ?_
      iterate 2 refine vo ?_
      refine vnt ?_
      refine vc_if (fun g3 => ?_) (fun g3 => ?_)
      · refine vc_sr ?_
        iterate 3 refine vo ?_
        refine vnt ?_
        refine vc_ret ?_
        refine thn_r ?_
        refine fin_i [] rfl (fz ?_) trivial
        have hh := rd_3 g1 g2 g3
        rw [hh.1, hh.2]
        trivial
      · rw [ipPF_y g3]
        have z2 : (ipX (ethX s).body).body.size ≤ 1099511627776 := Nat.le_trans (ipX_body (ethX s).body) z1
        refine vc_skip ?_
        refine thn ?_
        refine vc_sr ?_
        iterate 8 refine vo ?_
        refine voc c_impl_ParseSegment rfl rfl ?_
        iterate 6 refine vo ?_
        refine vnt ?_
        refine vc_seq' ?_
        refine vc_sr ?_
        iterate 2 refine vo ?_
        refine vnt ?_
        refine vc_if (fun g4 => ?_) (fun g4 => ?_)
        · refine vc_sr ?_
          iterate 3 refine vo ?_
          refine vnt ?_
          refine vc_ret ?_
          refine thn_r ?_
          refine fin_i [] rfl (fz ?_) trivial
          have hh := rd_4 g1 g2 g3 g4
          rw [hh.1, hh.2]
          trivial
        · rw [segPF_y g4]
          have z3 : (segX (ipX (ethX s).body).pr (ipX (ethX s).body).body).body.size ≤ 1099511627776 := Nat.le_trans (segX_body _ _) z2
          refine vc_skip ?_
          refine thn ?_
          refine vc_sr ?_
          iterate 20 refine vo ?_
          refine vnt ?_
          refine vc_seq' ?_
          refine vc_sr ?_
          refine vo ?_
          refine voc c_impl_SuperOk rfl rfl ?_
          refine vo ?_
          refine vnt ?_
          refine vc_if (fun g5 => ?_) (fun g5 => ?_)
          · refine vc_sr ?_
            iterate 3 refine vo ?_
            refine vnt ?_
            refine vc_ret ?_
            refine thn_r ?_
            refine fin_i [] rfl (fz ?_) trivial
            have hh := rd_5 g1 g2 g3 g4 g5
            rw [hh.1, hh.2]
            trivial
          · refine vc_skip ?_
            refine thn ?_
            refine vc_sr ?_
            iterate 3 refine vo ?_
            refine vnt ?_
            refine vc_ret ?_
            refine fin_i [] rfl (fz ?_) trivial
            have hh := rd_0 g1 g2 g3 g4 g5
            rw [hh.1, hh.2]
            simp only [rdX, mkPk, and_self]
end Go.Proofs.YtfcmcedeapgdcaaGreat
end
section
namespace Go.Proofs.YtfcmcedeapgdcaaGreat
open Go Go.RowKit Go.Vc
set_option linter.unusedVariables false
set_option linter.unusedSimpArgs false
set_option linter.unnecessarySimpa false
end Go.Proofs.YtfcmcedeapgdcaaGreat
end
section
namespace Go.Proofs.YtfcmcedeapgdcaaGreat
open Go Go.RowKit Go.Vc
set_option linter.unusedVariables false
set_option linter.unusedSimpArgs false
set_option linter.unnecessarySimpa false
end Go.Proofs.YtfcmcedeapgdcaaGreat
end
section
namespace Go.Proofs.YtfcmcedeapgdcaaGreat
open Go Go.RowKit Go.Vc
set_option linter.unusedVariables false
set_option linter.unusedSimpArgs false
set_option linter.unnecessarySimpa false
end Go.Proofs.YtfcmcedeapgdcaaGreat
end
section
namespace Go
open Go.RowKit
theorem and_mask_i64 (x : Int) (i : Nat) (hi : i ≤ 62) : bits .and .i64 x (2 ^ i - 1) = x % 2 ^ i := by
  have hp : (2 : Nat) ^ i ≤ 2 ^ 62 := Nat.pow_le_pow_right (by decide) hi
  have hpos : 0 < 2 ^ i := Nat.two_pow_pos i
  have hc : ((2 : Int) ^ i - 1) = ((2 ^ i - 1 : Nat) : Int) := by rw [Int.natCast_sub hpos]; simp
  rw [hc]
  show IntKind.i64.wrap (((BitVec.ofInt 64 x &&& BitVec.ofInt 64 ((2 ^ i - 1 : Nat) : Int)).toNat : Nat) : Int) = x % 2 ^ i
  rw [BitVec.ofInt_natCast, BitVec.toNat_and, BitVec.toNat_ofNat, BitVec.toNat_ofInt, Nat.mod_eq_of_lt (a := 2 ^ i - 1) (by omega), Nat.and_two_pow_sub_one_eq_mod]
  have hlt : (x % (2 ^ 64 : Nat)).toNat % 2 ^ i < 2 ^ i := Nat.mod_lt _ hpos
  rw [IntKind.wrap_i64, Int.emod_eq_of_lt (by omega) (by omega)]
  have h0 : 0 ≤ x % (2 ^ 64 : Nat) := Int.emod_nonneg _ (by decide)
  have e : (((x % (2 ^ 64 : Nat)).toNat % 2 ^ i : Nat) : Int) = x % 2 ^ i := by
    rw [Int.natCast_emod, Int.toNat_of_nonneg h0]
    have hd : ((2 ^ i : Nat) : Int) ∣ ((2 ^ 64 : Nat) : Int) := Int.natCast_dvd_natCast.2 (Nat.pow_dvd_pow 2 (by omega))
    rw [Int.emod_emod_of_dvd _ hd]; simp
  omega
theorem emod_le (x : Int) {n : Int} (h : 0 < n) : x % n ≤ n - 1 := by have := Int.emod_lt_of_pos x h; omega
theorem and255_bd (x : Int) : 0 ≤ bits .and .i64 x 255 ∧ bits .and .i64 x 255 ≤ 255 := by
  have h := and_mask_i64 x 8 (by decide)
  have e : ((2 : Int) ^ 8 - 1) = 255 := by decide
  rw [e] at h
  rw [h]
  omega
theorem Holds.bytes {w : World} {xs : List UInt8} {vs : List Value} (h : Holds w xs vs) : ∃ a cap, vs = [.slice a xs.length cap] ∧ xs.length ≤ cap ∧ cap ≤ maxLen ∧
    (∀ i (hi : i < xs.length), ∃ b off, a = some ⟨b, off, none⟩ ∧ w.cell? ⟨b, off + i, none⟩ = some (.int .u8 (xs[i]'hi).toNat)) := by
  obtain ⟨a, cap, rfl, h1, h2, h3⟩ := h.slice
  refine ⟨a, cap, rfl, h1, h2, fun i hi => ?_⟩
  obtain ⟨b, off, ts, ha, ht, hc⟩ := h3 i hi
  obtain rfl := ht.byte
  have := hc 0 (by decide)
  exact ⟨b, off, ha, by simpa [Rep.size] using this⟩
def OneB (B : Nat) (w w' : World) : Prop := w'.os = w.os ∧ w'.tape = w.tape ∧ w'.output = w.output ∧ w.heap.size ≤ w'.heap.size ∧ ∀ k, k < w.heap.size → k ≠ B → w'.heap[k]? = w.heap[k]?
theorem OneB.refl (B : Nat) (w : World) : OneB B w w := ⟨rfl, rfl, rfl, Nat.le_refl _, fun _ _ _ => rfl⟩
theorem OneB.ex {B : Nat} {w a b : World} (h : OneB B w a) (hx : Ex a b) : OneB B w b := by
  obtain ⟨h1, h2, h3, h4, h5⟩ := h
  have hb := hx.below
  exact ⟨hb.os.trans h1, hb.tape.trans h2, hb.output.trans h3, Nat.le_trans h4 hb.size, fun k hk hn => (hx.block (Nat.lt_of_lt_of_le hk h4)).trans (h5 k hk hn)⟩
theorem OneB.drew {B : Nat} {w a : World} (h : OneB B w a) : OneB B w a.drew := h
theorem OneB.plus {B : Nat} {w a : World} (h : OneB B w a) (g : Gr) : OneB B w (a.plus g) := h.ex ((Ex.refl _).plus g)
theorem OneB.setCell {B : Nat} {w a : World} (h : OneB B w a) (i : Nat) (v : Value) : OneB B w (a.setCell ⟨B, i, none⟩ v) := by
  obtain ⟨h1, h2, h3, h4, h5⟩ := h
  exact ⟨h1, h2, h3, by simpa using h4, fun k hk hn => (row_setCell_other (p := ⟨B, i, none⟩) hn v).trans (h5 k hk hn)⟩
theorem OneB.upd {B : Nat} {w a : World} (h : OneB B w a) (f : Nat → Obj) : OneB B w (a.upd [B] f) := by
  obtain ⟨h1, h2, h3, h4, h5⟩ := h
  exact ⟨h1, h2, h3, by simpa using h4, fun k hk hn => (World.block_upd a [B] f (by simpa using hn)).trans (h5 k hk hn)⟩
theorem OneB.trans {B : Nat} {a b c : World} (h : OneB B a b) (k : OneB B b c) : OneB B a c := by
  obtain ⟨h1, h2, h3, h4, h5⟩ := h
  obtain ⟨k1, k2, k3, k4, k5⟩ := k
  exact ⟨k1.trans h1, k2.trans h2, k3.trans h3, Nat.le_trans h4 k4, fun i hi hn => (k5 i (Nat.lt_of_lt_of_le hi h4) hn).trans (h5 i hi hn)⟩
theorem OneB.form {B : Nat} {w w' : World} {o : Obj} (h : OneB B w w') (hB : B < w.heap.size) (ho : w'.heap[B]? = some o) : ∃ g, w' = (w.upd [B] (fun _ => o)).plus g := by
  obtain ⟨h1, h2, h3, h4, h5⟩ := h
  obtain ⟨f, g, e⟩ := World.as_upd (w := w) (w' := w') [B] h1 h2 h3 h4 (fun k hk hn => h5 k hk (by simpa using hn))
  refine ⟨g, ?_⟩
  have hf : f B = o := by
    have : w'.heap[B]? = some (f B) := by
      rw [e]
      simp only [World.plus]
      rw [Array.getElem?_append_left (by simpa using hB), World.block_upd_in w [B] f (by simp) hB]
    rw [this] at ho
    simpa using ho
  rw [e]
  congr 1
  unfold World.upd
  congr 1
  apply Array.ext_getElem?
  intro i
  simp only [Array.getElem?_mapIdx]
  cases w.heap[i]? with
  | none => rfl
  | some x =>
    by_cases hi : i = B
    · subst hi; simp [hf]
    · simp [hi]
section
variable (w : World)
@[go_sem] theorem World.upd_upd1 (n : Nat) (f g : Nat → Obj) : (w.upd [n] f).upd [n] g = w.upd [n] g := by
  unfold World.upd
  simp only
  congr 1
  apply Array.ext_getElem?
  intro k
  simp only [Array.getElem?_mapIdx]
  cases w.heap[k]? with
  | none => rfl
  | some o => by_cases hk : k = n <;> simp [hk]
@[go_sem] theorem World.plus_upd1 (n : Nat) (f : Nat → Obj) (g : Gr) (hn : n < w.heap.size) : (w.plus g).upd [n] f = (w.upd [n] f).plus g := by
  unfold World.upd World.plus
  simp only
  congr 1
  apply Array.ext_getElem?
  intro k
  simp only [Array.getElem?_mapIdx, Array.getElem?_append, Array.size_mapIdx]
  by_cases hk : k < w.heap.size
  · simp [hk]
  · simp only [if_neg hk]
    cases g.o[k - w.heap.size]? with
    | none => rfl
    | some o => simp; omega
@[go_sem] theorem World.alloc_upd1 (n : Nat) (f : Nat → Obj) (o : Obj) (hn : n < w.heap.size) : (w.alloc o).upd [n] f = (w.upd [n] f).alloc o := by
  rw [World.alloc_is_plus, World.plus_upd1 _ _ _ _ hn, World.alloc_is_plus]; rfl
@[go_sem] theorem World.cell?_upd_in (n i : Nat) (cs : Array Value) (E : TypeId) (fr : Nat × Nat) (hn : n < w.heap.size) : (w.upd [n] (fun _ => .cells cs E fr)).cell? ⟨n, i, none⟩ = cs[i]? := by
  simp [World.cell?, World.block_upd_in w [n] _ (List.mem_singleton.2 rfl) hn]
@[go_sem] theorem World.frozen?_upd_in (n i : Nat) (cs : Array Value) (E : TypeId) (hn : n < w.heap.size) : (w.upd [n] (fun _ => .cells cs E (0, 0))).frozen? ⟨n, i, none⟩ = false := by
  simp [World.frozen?, World.block_upd_in w [n] _ (List.mem_singleton.2 rfl) hn]
end
def CurAt (T : TypeId) (w : World) (B : Nat) (v : Value) (n : Nat) : Prop := ∃ i h : Int, w.heap[B]? = some (.cells #[v, .int .i64 i, .int .i64 h] T (0, 0)) ∧ 0 ≤ i ∧ i ≤ n
theorem CurAt.lt {T : TypeId} {w : World} {B : Nat} {v : Value} {n : Nat} (h : CurAt T w B v n) : B < w.heap.size := let ⟨_, _, h, _⟩ := h; row_lt h
theorem CurAt.ex {T : TypeId} {w w' : World} {B : Nat} {v : Value} {n : Nat} (h : CurAt T w B v n) (hx : Ex w w') : CurAt T w' B v n := let ⟨i, k, h, h1⟩ := h; ⟨i, k, hx.row h, h1⟩
theorem CurAt.plus {T : TypeId} {w : World} {B : Nat} {v : Value} {n : Nat} (h : CurAt T w B v n) (g : Gr) : CurAt T (w.plus g) B v n := h.ex ((Ex.refl _).plus g)
theorem CurAt.alloc {T : TypeId} {w : World} {B : Nat} {v : Value} {n : Nat} (h : CurAt T w B v n) (o : Obj) : CurAt T (w.alloc o) B v n := h.ex ((Ex.refl _).alloc o)
theorem CurAt.drew {T : TypeId} {w : World} {B : Nat} {v : Value} {n : Nat} (h : CurAt T w B v n) : CurAt T w.drew B v n := h
theorem CurAt.setCell {T : TypeId} {w : World} {B : Nat} {v : Value} {n : Nat} (h : CurAt T w B v n) {p : Addr} (hp : B ≠ p.block) (x : Value) : CurAt T (w.setCell p x) B v n := let ⟨i, k, h, h1⟩ := h; ⟨i, k, (row_setCell_other hp x).trans h, h1⟩
theorem CurAt.upd {T : TypeId} {w : World} {B : Nat} {v : Value} {n : Nat} {i h : Int} (hB : B < w.heap.size) (h0 : 0 ≤ i) (h1 : i ≤ n) : CurAt T (w.upd [B] (fun _ => .cells #[v, .int .i64 i, .int .i64 h] T (0, 0))) B v n :=
  ⟨i, h, World.block_upd_in w [B] _ (by simp) hB, h0, h1⟩
def Cu (T : TypeId) (w0 : World) (B : Nat) (v : Value) (code : List UInt8) (w : World) : Prop := Ex w0 w ∧ Holds w0 code [v] ∧ w0.heap.size ≤ B ∧ CurAt T w B v code.length
section
variable {T : TypeId} {w0 w : World} {B : Nat} {v : Value} {code : List UInt8}
theorem Cu.lt (h : Cu T w0 B v code w) : B < w.heap.size := h.2.2.2.lt
theorem Cu.ex {w' : World} (h : Cu T w0 B v code w) (hx : Ex w w') : Cu T w0 B v code w' := ⟨h.1.trans hx, h.2.1, h.2.2.1, h.2.2.2.ex hx⟩
theorem Cu.plus (h : Cu T w0 B v code w) (g : Gr) : Cu T w0 B v code (w.plus g) := h.ex ((Ex.refl _).plus g)
theorem Cu.alloc (h : Cu T w0 B v code w) (o : Obj) : Cu T w0 B v code (w.alloc o) := h.ex ((Ex.refl _).alloc o)
theorem Cu.drew (h : Cu T w0 B v code w) : Cu T w0 B v code w.drew := h.ex (Ex.refl _).drew
theorem Cu.setCell (h : Cu T w0 B v code w) {p : Addr} (hp : w0.heap.size ≤ p.block) (hn : B ≠ p.block) (x : Value) : Cu T w0 B v code (w.setCell p x) := ⟨h.1.setCell hp x, h.2.1, h.2.2.1, h.2.2.2.setCell hn x⟩
theorem Cu.upd (h : Cu T w0 B v code w) {i k : Int} (h0 : 0 ≤ i) (h1 : i ≤ code.length) : Cu T w0 B v code (w.upd [B] (fun _ => .cells #[v, .int .i64 i, .int .i64 k] T (0, 0))) :=
  ⟨h.1.upd1 h.2.2.1, h.2.1, h.2.2.1, CurAt.upd h.lt h0 h1⟩
theorem Cu.new {h : Int} (k : Holds w0 code [v]) (hx : Ex w0 w) (hB : w0.heap.size ≤ B) (hc : w.heap[B]? = some (.cells #[v, .int .i64 0, .int .i64 h] T (0, 0))) : Cu T w0 B v code w := ⟨hx, k, hB, 0, h, hc, Int.le_refl _, by omega⟩
theorem Cu.holds (h : Cu T w0 B v code w) : Holds w code [v] := h.2.1.ex h.1
end
def Mv (T : TypeId) (B : Nat) (v : Value) (n : Nat) (w wr : World) : Prop := OneB B w wr ∧ CurAt T wr B v n
theorem OneB.setNew {B : Nat} {w a : World} (h : OneB B w a) {p : Addr} (hp : w.heap.size ≤ p.block) (v : Value) : OneB B w (a.setCell p v) := by
  obtain ⟨h1, h2, h3, h4, h5⟩ := h
  exact ⟨h1, h2, h3, by simpa using h4, fun k hk hn => (row_setCell_other (by omega) v).trans (h5 k hk hn)⟩
section
variable {T : TypeId} {w0 w wr : World} {B : Nat} {v : Value} {n : Nat} {code : List UInt8}
theorem Mv.refl (h : CurAt T w B v n) : Mv T B v n w w := ⟨OneB.refl _ _, h⟩
theorem Mv.plus (h : Mv T B v n w wr) (g : Gr) : Mv T B v n w (wr.plus g) := ⟨h.1.plus g, h.2.plus g⟩
theorem Mv.alloc (h : Mv T B v n w wr) (o : Obj) : Mv T B v n w (wr.alloc o) := ⟨h.1.ex ((Ex.refl _).alloc o), h.2.alloc o⟩
theorem Mv.drew (h : Mv T B v n w wr) : Mv T B v n w wr.drew := ⟨h.1.drew, h.2.drew⟩
theorem Mv.setCell (h : Mv T B v n w wr) {p : Addr} (hp : w.heap.size ≤ p.block) (hn : B ≠ p.block) (x : Value) : Mv T B v n w (wr.setCell p x) := ⟨h.1.setNew hp x, h.2.setCell hn x⟩
theorem Mv.upd (h : Mv T B v n w wr) {i k : Int} (h0 : 0 ≤ i) (h1 : i ≤ n) : Mv T B v n w (wr.upd [B] (fun _ => .cells #[v, .int .i64 i, .int .i64 k] T (0, 0))) := ⟨h.1.upd _, CurAt.upd h.2.lt h0 h1⟩
theorem Mv.size (h : Mv T B v n w wr) : w.heap.size ≤ wr.heap.size := h.1.2.2.2.1
end
def DrawnN (T : TypeId) (B : Nat) (v : Value) (n : Nat) (lo hi : Int) (w : World) (e : Ending) (w' : World) : Prop :=
  ∃ (r i h : Int) (g : Gr), lo ≤ r ∧ r ≤ hi ∧ 0 ≤ i ∧ i ≤ n ∧ e = .returned (.int .i64 r) ∧ w' = (w.upd [B] (fun _ => .cells #[v, .int .i64 i, .int .i64 h] T (0, 0))).plus g
theorem DrawnN.of {T : TypeId} {B : Nat} {v : Value} {n : Nat} {lo hi r i h : Int} {w w' : World} (h1 : lo ≤ r) (h2 : r ≤ hi) (h3 : 0 ≤ i) (h4 : i ≤ n) (hB : B < w.heap.size) (ho : OneB B w w')
    (hc : w'.heap[B]? = some (.cells #[v, .int .i64 i, .int .i64 h] T (0, 0))) : DrawnN T B v n lo hi w (.returned (.int .i64 r)) w' := by
  obtain ⟨g, rfl⟩ := ho.form hB hc
  exact ⟨r, i, h, g, h1, h2, h3, h4, rfl, rfl⟩
def NewCur (T : TypeId) (v : Value) (w : World) (e : Ending) (w' : World) : Prop := ∃ B h, e = .returned (.pointer (some ⟨B, 0, none⟩)) ∧ w.heap.size ≤ B ∧ Ex w w' ∧ w'.heap[B]? = some (.cells #[v, .int .i64 0, .int .i64 h] T (0, 0))
end Go
namespace Go.Proofs.YtfcmcedeapgdcaaGreat
open Go.RowKit
set_option linter.unusedVariables false
set_option maxHeartbeats 1000000 in
theorem l01New_any (v : Value) (code : List UInt8) (w : World) (k1 : Holds w code [v]) :
    Calls Tryz.prog 19 #[v] w (NewCur 112 v w) := by
  obtain ⟨a, cap, hv, h1, h2, h3⟩ := k1.bytes
  simp only [List.cons.injEq, and_true] at hv
  subst hv
  unfold maxLen at h2
  clear k1
  go_enter Tryz.func19, Tryz.ntmps19
  go_wp2
  go_loop [3, 4] (fun h i => ∃ (k : Nat) (x : Int), k ≤ code.length ∧ i = .int .i64 k ∧ h = .int .i64 x) (fun _ i => code.length - (intOf i).toNat)
  case atStart => exact ⟨0, _, Nat.zero_le _, rfl, rfl⟩
  case round =>
    obtain ⟨k, x, hk, rfl, rfl⟩ := hrel
    by_cases hlt : k < code.length
    · by_cases h4 : (k : Int) < 4000
      · obtain ⟨b, off, rfl, hc⟩ := h3 k hlt
        generalize code[k] = y at *
        clear h3
        go_wp2
        go_round
        case rel => exact ⟨k + 1, _, by omega, by go_num, rfl⟩
        case measure => simp [intOf]; omega
      · clear h3
        go_wp2
        go_ret
        exact ⟨_, _, rfl, Nat.le_refl _, (Ex.refl _).alloc _, row_alloc _ _⟩
    · clear h3
      go_wp2
      go_ret
      exact ⟨_, _, rfl, Nat.le_refl _, (Ex.refl _).alloc _, row_alloc _ _⟩
set_option maxHeartbeats 2000000 in
theorem l01Byte_any (B : Nat) (v : Value) (code : List UInt8) (w0 w : World) (hcu : Cu 112 w0 B v code w) :
    Calls Tryz.prog 57 #[.pointer (some ⟨B, 0, none⟩)] w (DrawnN 112 B v code.length 0 255 w) := by
  obtain ⟨hx, k1, hlo, hc⟩ := hcu
  obtain ⟨a, cap, hv, h1, h2, h3⟩ := k1.bytes
  simp only [List.cons.injEq, and_true] at hv
  subst hv
  unfold maxLen at h2
  obtain ⟨i, h, hB, i0, i1⟩ := hc
  have lB := row_lt hB
  have c0 : w.cell? ⟨B, 0, none⟩ = some (.slice a code.length cap) := by rw [cell_row hB]; rfl
  have c1 : w.cell? ⟨B, 1, none⟩ = some (.int .i64 i) := by rw [cell_row hB]; rfl
  have c2 : w.cell? ⟨B, 2, none⟩ = some (.int .i64 h) := by rw [cell_row hB]; rfl
  have f1 : w.frozen? ⟨B, 1, none⟩ = false := frozen_row hB _
  have f2 : w.frozen? ⟨B, 2, none⟩ = false := frozen_row hB _
  have HB := hid hB
  have HX := hid hx
  clear k1 hB hx
  by_cases hlt : i < code.length
  · obtain ⟨k, rfl⟩ := Int.eq_ofNat_of_zero_le i0
    obtain ⟨b, off, rfl, hc⟩ := h3 k (by omega)
    have lb0 : b < w0.heap.size := World.block_lt_of_cell? _ _ hc
    have hne : b ≠ B := by omega
    replace hc := (HX.out.cell lb0).trans hc
    have lb := World.block_lt_of_cell? _ _ hc
    clear lb0 hlo
    have hlt' : k < code.length := by omega
    generalize code[k] = y at *
    clear h3
    go_enter Tryz.func57, Tryz.ntmps57
    go_wp2
    refine wp_region_ext (by kernel_rfl) (by kernel_rfl) ?_
    repeat (go_big_quiet_step (fail))
    refine wpQuiet_nil ?_
    intro g
    go_wp2
    refine wp_region_ext (by kernel_rfl) (by kernel_rfl) ?_
    repeat (go_big_quiet_step (fail))
    refine wpQuiet_nil ?_
    intro g
    go_wp2
    refine wp_region_ext (by kernel_rfl) (by kernel_rfl) ?_
    repeat (go_big_quiet_step (fail))
    refine wpQuiet_nil ?_
    intro g
    go_wp2
    go_ret
    exact DrawnN.of (h := wrap64 (wrap64 (h * 6364136223846793005) + 1442695040888963407)) (and255_bd _).1 (and255_bd _).2 (i := (k : Int) + 1) (by omega) (by omega) lB (by repeat (first | exact OneB.refl _ _ | apply OneB.plus | apply OneB.drew | apply OneB.setCell)) (by repeat (first | exact row_setCell (row_setCell HB.out _ _) _ _ | refine Ex.row ((Ex.refl _).plus _) ?_))
  · clear h3
    go_enter Tryz.func57, Tryz.ntmps57
    go_wp2
    refine wp_region_ext (by kernel_rfl) (by kernel_rfl) ?_
    repeat (go_big_quiet_step (fail))
    refine wpQuiet_nil ?_
    intro g
    go_wp2
    refine wp_region_ext (by kernel_rfl) (by kernel_rfl) ?_
    repeat (go_big_quiet_step (fail))
    refine wpQuiet_nil ?_
    intro g
    go_wp2
    go_ret
    exact DrawnN.of (h := wrap64 (wrap64 (h * 6364136223846793005) + 1442695040888963407)) (and255_bd _).1 (and255_bd _).2 (i := i) (by omega) (by omega) lB (by repeat (first | exact OneB.refl _ _ | apply OneB.plus | apply OneB.drew | apply OneB.setCell)) (by repeat (first | exact row_setCell HB.out _ _ | refine Ex.row ((Ex.refl _).plus _) ?_))
set_option maxHeartbeats 1000000 in
theorem l01Below_byte (B : Nat) (v : Value) (code : List UInt8) (n : Int) (w0 w : World) (hcu : Cu 112 w0 B v code w) (h0 : 1 ≤ n) (h1 : n ≤ 256) :
    Calls Tryz.prog 21 #[.pointer (some ⟨B, 0, none⟩), .int .i64 n] w (DrawnN 112 B v code.length 0 (n - 1) w) := by
  have lB := hcu.lt
  go_enter Tryz.func21, Tryz.ntmps21
  go_wp2_with (go_at_call 57; (with_reducible refine (l01Byte_any B v code w0 _ (by repeat (first | exact hcu | apply Cu.plus | apply Cu.alloc | apply Cu.drew | refine Cu.upd ?_ (by assumption) (by assumption)))).mono ?_); rintro e w' ⟨r, i, h, g, r0, r1, i0, i1, rfl, rfl⟩)
  go_ret
  exact ⟨_, i, h, g, Int.emod_nonneg _ (by omega), emod_le _ (by omega), i0, i1, rfl, rfl⟩
set_option maxHeartbeats 1000000 in
theorem l01Below_wide (B : Nat) (v : Value) (code : List UInt8) (n : Int) (w0 w : World) (hcu : Cu 112 w0 B v code w) (h0 : 257 ≤ n) (h1 : n ≤ 1000000000) :
    Calls Tryz.prog 21 #[.pointer (some ⟨B, 0, none⟩), .int .i64 n] w (DrawnN 112 B v code.length 0 (n - 1) w) := by
  have lB := hcu.lt
  go_enter Tryz.func21, Tryz.ntmps21
  go_wp2_with (go_at_call 57; (with_reducible refine (l01Byte_any B v code w0 _ (by repeat (first | exact hcu | apply Cu.plus | apply Cu.alloc | apply Cu.drew | refine Cu.upd ?_ (by assumption) (by assumption)))).mono ?_); rintro e w' ⟨r, i, h, g, r0, r1, i0, i1, rfl, rfl⟩)
  go_ret
  exact ⟨_, _, _, _, Int.emod_nonneg _ (by omega), emod_le _ (by omega), by assumption, by assumption, rfl, rfl⟩
theorem l01Below_any (B : Nat) (v : Value) (code : List UInt8) (n : Int) (w0 w : World) (hcu : Cu 112 w0 B v code w) (h0 : 1 ≤ n) (h1 : n ≤ 1000000000) :
    Calls Tryz.prog 21 #[.pointer (some ⟨B, 0, none⟩), .int .i64 n] w (DrawnN 112 B v code.length 0 (n - 1) w) := by
  by_cases h : n ≤ 256
  · exact l01Below_byte B v code n w0 w hcu h0 h
  · exact l01Below_wide B v code n w0 w hcu (by omega) h1
end Go.Proofs.YtfcmcedeapgdcaaGreat
end
section
namespace Go.Proofs.YtfcmcedeapgdcaaGreat
open Go.RowKit
set_option linter.unusedVariables false
end Go.Proofs.YtfcmcedeapgdcaaGreat
end
section
namespace Go
open Go.RowKit
set_option linter.unusedVariables false
def curA (T : TypeId) (B : Nat) (v : Value) (n : Nat) : Asn where
  P w F := CurAt T w B v n ∧ ∀ c, F c ↔ c = B
  stable := by
    rintro w w' F ⟨⟨i, h, h1, h2⟩, h3⟩ hs
    exact ⟨⟨i, h, (hs B ((h3 B).2 rfl)).trans h1, h2⟩, h3⟩
  lt h b hb := by rw [(h.2 b).1 hb]; exact h.1.lt
section
variable {T : TypeId} {w0 w w' : World} {Is Js : List Asn} {B : Nat} {v : Value} {code : List UInt8}
theorem St.cu (HS : St w0 w Is) (t : Take Is (curA T B v code.length) Js) (hc : Holds w0 code [v]) : Cu T w0 B v code w := by
  have h := HS.take t
  obtain ⟨hx, F, ⟨F1, F2, ⟨h1, h2⟩, h3, h4, h5⟩, h6⟩ := h
  exact ⟨hx, hc, h6 B ((h5 B).2 (.inl ((h2 B).2 rfl))), h1⟩
theorem St.drawn {n : Nat} {lo hi : Int} {e : Ending} (HS : St w0 w Is) (t : Take Is (curA T B v n) Js) (hd : DrawnN T B v n lo hi w e w') :
    ∃ r : Int, lo ≤ r ∧ r ≤ hi ∧ e = .returned (.int .i64 r) ∧ St w0 w' (curA T B v n :: Js) := by
  obtain ⟨r, i, h, g, h1, h2, h3, h4, rfl, rfl⟩ := hd
  refine ⟨r, h1, h2, rfl, ?_⟩
  refine (HS.take t).turn rfl rfl rfl (by simp) fun F hF => ⟨fun b hb hn => ?_, F, ⟨?_, hF.2⟩, fun c hc => .inl hc⟩
  · rw [show ∀ (w : World) (g : Gr), (w.plus g).heap = w.heap ++ g.o from fun _ _ => rfl, Array.getElem?_append_left (by simpa using hb), World.block_upd _ _ _ (fun h => hn ((hF.2 b).2 (by simpa using h)))]
  · exact (CurAt.upd hF.1.lt h3 h4).plus g
theorem St.newCur {e : Ending} (HS : St w0 w Is) (hd : NewCur T v w e w') (n : Nat) : ∃ B, e = .returned (.pointer (some ⟨B, 0, none⟩)) ∧ St w0 w' (curA T B v n :: Is) := by
  obtain ⟨B, h, rfl, h1, h2, h3⟩ := hd
  exact ⟨B, rfl, HS.add h2 (A := curA T B v n) (F := fun c => c = B) ⟨⟨0, h, h3, Int.le_refl _, by omega⟩, fun _ => Iff.rfl⟩ fun b hb => by rw [hb]; exact h1⟩
end
end Go
namespace Go.Proofs.YtfcmcedeapgdcaaGreat
open Go.RowKit
set_option linter.unusedVariables false
end Go.Proofs.YtfcmcedeapgdcaaGreat
end
section
namespace Go.Vc
open Go Go.RowKit
set_option linter.unusedVariables false
set_option linter.unusedSectionVars false
set_option linter.unusedSimpArgs false
set_option linter.unnecessarySimpa false
def vQ (Ψ : Value → Prop) : RdP where
  P _ u := Ψ u ∧ u.oneCell' = true
  ex h _ := h
  one h := h.2
def pinQ (v : Value) (code : List UInt8) : RdP where
  P w u := u = v ∧ Holds w code [v] ∧ u.oneCell' = true
  ex h hx := ⟨h.1, h.2.1.ex hx, h.2.2⟩
  one h := h.2.2
def cpQ (b : Nat) (v : Value) (code : List UInt8) : RdP where
  P w u := u = .pointer (some ⟨b, 0, none⟩) ∧ Holds w code [v]
  ex h hx := ⟨h.1, h.2.ex hx⟩
  one h := by obtain ⟨rfl, _⟩ := h; rfl
def oneQ : RdP where
  P _ u := u.oneCell' = true
  ex h _ := h
  one h := h
def cuOw (CT : TypeId) (b : Nat) (v : Value) (n : Nat) : OwP where
  A u := { P := fun w F => u = .pointer (some ⟨b, 0, none⟩) ∧ (curA CT b v n).P w F
           stable := fun h hs => ⟨h.1, (curA CT b v n).stable h.2 hs⟩
           lt := fun h => (curA CT b v n).lt h.2 }
  Q := oneQ
  rd := by rintro w F u ⟨rfl, _⟩; rfl
def frOw (L : List Asn) : OwP where
  A u := { P := fun w F => u = .bool true ∧ SepL w L F
           stable := fun h hs => ⟨h.1, SepL.stable h.2 hs⟩
           lt := fun h b hb => SepL.lt h.2 b hb }
  Q := oneQ
  rd := by rintro w F u ⟨rfl, _⟩; rfl
def FnOk (P : Program) (f : FuncId) : Prop := ∃ fn, P.funcs[f]? = some fn ∧ (fn.name == "runtime.NumGoroutine") = false ∧ fn.body.isNone = false
def After (w0 : World) (base : Nat) (res : AV) (Hr : Hp) (Is Js : List Asn) (e : Ending) (w' : World) : Prop :=
  ∃ u ρ, e = .returned u ∧ AR w0 (dom (shH base Hr)) ρ (shA base res) u ∧ ((shH base Hr).map (·.1)).Nodup ∧ ∃ As, F2 (BR w0 (dom (shH base Hr)) ρ) (shH base Hr) As ∧ St w0 w' (Is ++ (As ++ Js))
def ConC (P : Program) (f : FuncId) (CT : TypeId) (b : Nat) (v : Value) (code : List UInt8) (us : List Value) {α : Type} (Φ : α → Prop) (res : α → AV) (Hr : α → Hp) : Prop :=
  FnOk P f ∧ ∀ (w0 w : World) (Js : List Asn), St w0 w (curA CT b v code.length :: Js) → Holds w0 code [v] → ∀ base : Nat, Calls P f (.pointer (some ⟨b, 0, none⟩) :: us).toArray w fun e w' => ∃ x, Φ x ∧ After w0 base (res x) (Hr x) [curA CT b v code.length] Js e w'
def ConV (P : Program) (f : FuncId) (v : Value) (code : List UInt8) {α : Type} (Φ : α → Prop) (res : α → AV) (Hr : α → Hp) : Prop :=
  FnOk P f ∧ ∀ (w0 w : World) (Js : List Asn), St w0 w Js → Holds w0 code [v] → ∀ base : Nat, Calls P f [v].toArray w fun e w' => ∃ x, Φ x ∧ After w0 base (res x) (Hr x) [] Js e w'
theorem upd_new : ∀ (δ H : Hp), (∀ k b, (k, b) ∈ δ → lk H k = none) → (δ.map (·.1)).Nodup → updH H δ = H ++ δ := by
  intro δ
  induction δ with
  | nil => intro H _ _; simp [updH]
  | cons x δ ih =>
    intro H hf hn
    obtain ⟨k, b⟩ := x
    simp only [List.map_cons, List.nodup_cons] at hn
    simp only [updH]
    rw [upd1_new b (hf k b (List.mem_cons_self ..)), ih _ (fun k' b' hb' => ?_) hn.2]
    · simp
    · have h0 := hf k' b' (List.mem_cons_of_mem _ hb')
      rw [← upd1_new b (hf k b (List.mem_cons_self ..)), lk_upd1, if_neg]
      · exact h0
      · rintro rfl; exact hn.1 (List.mem_map_of_mem (f := (·.1)) hb')
theorem BR.arrs {w0 : World} {D D' : Nat → Prop} {ρ ρ' : Nat → Value} {k k' : Nat} {b : Blk} {A : Asn} (ha : arrs [(k, b)] = true) (he : ρ' k' = ρ k) (h : BR w0 D ρ (k, b) A) : BR w0 D' ρ' (k', b) A := by
  cases b with
  | arr E sz es => exact ⟨h.1, by rw [he]; exact h.2⟩
  | own X => show A = X.A (ρ' k'); rw [he]; exact h
  | row T cs => simp [Go.Vc.arrs] at ha
  | byt s => simp [Go.Vc.arrs] at ha
  | dead => simp [Go.Vc.arrs] at ha
section
variable {P : Program} {w0 w w' : World} {ρ ρ' : Nat → Value} {n : Nat} {t : Tm} {H : Hp} {a : Act}
theorem run_enter {o : Oper} {f : FuncId} {args : Array Operand} {ats : Array TypeId} (ho : o.op = .call { callee := .value (.func f), args := args, argTypes := ats }) (hf : FnOk P f) : (execOp a.eval o).run P w = .ok (.enter f (args.map a.eval)) w := by
  obtain ⟨fn, hfn, hname, hbody⟩ := hf
  have hev : a.eval (.func f) = .func (.func f) #[] #[] := rfl
  have hn' : ¬ fn.name = "runtime.NumGoroutine" := by simpa using hname
  have hb' : ¬ fn.body = none := by intro e; simp [e] at hbody
  simp [execOp, ho, resolve, hev, Deferred.ofValue, invoke, callFunc, hfn, hn', hb']
theorem Rel.vals {us : List Value} : ∀ {xs : List Operand}, Rel w0 w ρ n t H a → xs.map (evo (gt t)) = us.map (fun u => .one (.v u)) → xs.map a.eval = us := by
  induction us with
  | nil => intro xs _ h; cases xs with
    | nil => rfl
    | cons x xs => simp at h
  | cons u us ih =>
    intro xs hr h
    cases xs with
    | nil => simp at h
    | cons x xs =>
      simp only [List.map_cons, List.cons.injEq] at h ⊢
      have := hr.ev x
      rw [h.1] at this
      exact ⟨this.1, ih hr h.2⟩
theorem Rel.draw {o : Oper} {f : FuncId} {c : Operand} {xs : List Operand} {ats : Array TypeId} {CT : TypeId} {b kc d : Nat} {v : Value} {code : List UInt8} {us : List Value} {α : Type} {Φ : α → Prop} {res : α → AV} {Hr : α → Hp} {Q : Exit → Act → World → Prop} {K : Act → World → Prop}
    (hr : Rel w0 w ρ n t H a) (ho : o.op = .call { callee := .value (.func f), args := (c :: xs).toArray, argTypes := ats }) (hc : ConC P f CT b v code us Φ res Hr) (hx : evo (gt t) c = .one (.rd (cpQ b v code))) (hy : xs.map (evo (gt t)) = us.map (fun u => .one (.v u))) (hk : lk H kc = some (.own (cuOw CT b v code.length)))
    (hfr : ∀ x k b, (k, b) ∈ shH d (Hr x) → lk H k = none) (hd : ∀ d, o.dst = some d → d < n)
    (h : ∀ x ρ' a' w', Φ x → Rel w0 w' ρ' n (putT t o.dst (shA d (res x))) (updH H (shH d (Hr x))) a' → K a' w') : o.wp P a w K Q := by
  obtain ⟨Bs, b1, b2⟩ := hr.hp
  have p1 : H.Perm ((kc, .own (cuOw CT b v code.length)) :: offK kc H) := by have := upd1_perm (.own (cuOw CT b v code.length)) hr.nd hk; rwa [upd1_same hk] at this
  obtain ⟨Ds, d1, d2⟩ := F2.perm p1 b1
  cases d2 with
  | @cons _ X _ Es x1 x2 =>
    have hX : X = (cuOw CT b v code.length).A (ρ kc) := x1
    subst hX
    have s1 : St w0 w ((cuOw CT b v code.length).A (ρ kc) :: Es) := St.perm b2 d1
    obtain ⟨F, hF⟩ := s1.head
    have hρ := hF.1
    have hcur : St w0 w (curA CT b v code.length :: Es) := s1.same fun F hF => ⟨F, hF.2, fun _ h => h⟩
    have hp := hr.ev c
    rw [hx] at hp
    obtain ⟨hp, hh⟩ := hp
    have hvs := hr.vals hy
    obtain ⟨hfn, hcall⟩ := hc
    unfold Oper.wp
    rw [run_enter ho hfn, Oper.upon_enter]
    have e2 : (c :: xs).toArray.map a.eval = (.pointer (some ⟨b, 0, none⟩) :: us).toArray := by
      rw [List.map_toArray, List.map_cons, hp, hvs]
    rw [e2]
    refine (hcall w0 w Es hcur hh d).mono fun e w' hq => ?_
    obtain ⟨x, hΦ, u, ρ', rfl, g1, g2, As, g3, g4⟩ := hq
    have hback : St w0 w' ((cuOw CT b v code.length).A (ρ kc) :: (As ++ Es)) := g4.same fun F hF => ⟨F, ⟨hρ, hF⟩, fun _ h => h⟩
    let ρ2 : Nat → Value := fun k => if k ∈ (shH d (Hr x)).map (·.1) then ρ' k else ρ k
    have e := upd_new (shH d (Hr x)) H (hfr x) g2
    have hnot : ∀ k, dom H k → k ∉ (shH d (Hr x)).map (·.1) := fun k hk hm => by
      obtain ⟨⟨k', b⟩, hb, rfl⟩ := List.mem_map.1 hm
      exact lk_nd (hfr x _ _ hb) hk
    have hD1 : ∀ k, dom H k → dom (updH H (shH d (Hr x))) k ∧ ρ2 k = ρ k := fun k hk => ⟨by rw [dom_mem, e, List.map_append]; exact List.mem_append_left _ (dom_mem.1 hk), if_neg (hnot k hk)⟩
    have hD2 : ∀ k, dom (shH d (Hr x)) k → dom (updH H (shH d (Hr x))) k ∧ ρ2 k = ρ' k := fun k hk => ⟨by rw [dom_mem, e, List.map_append]; exact List.mem_append_right _ (dom_mem.1 hk), if_pos (dom_mem.1 hk)⟩
    have c1 : F2 (BR w0 (dom (updH H (shH d (Hr x)))) ρ2) ((kc, .own (cuOw CT b v code.length)) :: offK kc H) ((cuOw CT b v code.length).A (ρ kc) :: Es) :=
      (F2.cons (show BR w0 (dom H) ρ (kc, .own (cuOw CT b v code.length)) _ from rfl) x2).mono fun y _ hy r => BR.ext hD1 (dom_mem.2 (by
        have := p1.symm.subset hy
        exact List.mem_map_of_mem (f := fun z : Nat × Blk => z.1) this)) r
    obtain ⟨Cs, c2, c3⟩ := F2.perm p1.symm c1
    have a2 : F2 (BR w0 (dom (updH H (shH d (Hr x)))) ρ2) (shH d (Hr x)) As := g3.mono fun y _ hy r => BR.ext hD2 (dom_mem.2 (List.mem_map_of_mem (f := fun z : Nat × Blk => z.1) hy)) r
    have hR : Rel w0 w' ρ2 n t (updH H (shH d (Hr x))) a := by
      refine ⟨hr.sz, hr.df, fun k => (hr.tm k).ext hD1, ⟨Cs ++ As, ?_, ?_⟩, ?_⟩
      · have a3 := F2.app c3 a2
        rw [e] at a3 ⊢
        exact a3
      · refine St.perm hback ?_
        exact (List.Perm.cons _ (List.perm_append_comm (l₁ := As) (l₂ := Es))).trans (c2.append_right As)
      · rw [e, List.map_append, List.nodup_append]
        exact ⟨hr.nd, g2, fun a ha b hb e => hnot a (dom_mem.2 ha) (e ▸ hb)⟩
    exact h x ρ2 _ w' hΦ (hR.put (g1.ext hD2) hd)
end
def SV (P : Program) (n : Nat) (ops : List Oper) (K : Tm → Hp → Prop) (os : List Oper) (t : Tm) (H : Hp) : Prop :=
  ∀ (w0 w : World) (ρ : Nat → Value) (a : Act) (Q : Exit → Act → World → Prop), Rel w0 w ρ n t H a → (∀ a w ρ t' H', Rel w0 w ρ n t' H' a → K t' H' → Q .normal a w) → wpList P ops.toArray Q os a w
section
variable {P : Program} [TyEnv P] {n : Nat} {ops os : List Oper} {K : Tm → Hp → Prop} {t t' : Tm} {H H' : Hp} {fp : List Fp} {o : Oper}
theorem vc_sv {K : Post} {id : Nat} {l : List Oper} (h : SV P n l (K .normal) l t H) : VC P n (.region id l.toArray false) K t H := fun w0 w ρ a hr =>
  wp_region_lit (h w0 w ρ a _ hr fun a w ρ t' H' h1 h2 => ⟨ρ, t', H', h1, h2⟩)
theorem sv_good {v : AV} {δ rs : Hp} (hd : ∀ d, o.dst = some d → d < n) (hg : o.guard = none) (hs : Good P o (gt t) H v δ rs) (h : SV P n ops K os (putT t o.dst v) (updH H δ)) : SV P n ops K (o :: os) t H := fun w0 w ρ a Q hr hQ => by
  simp only [wpList]
  have hw : Region.wanted o (yielded ops.toArray a.tmps) = true := by unfold Region.wanted; rw [hg]
  rw [if_pos hw]
  exact .inl (Oper.wp_mono (fun a' w' ⟨ρ', h'⟩ => h w0 w' ρ' a' Q h' hQ) (hs.1 w0 w ρ n _ _ a Q hr (fun k hk => rfl) hs.2.1 hs.2.2 hd))
theorem svo {v : AV} {δ rs : Hp} {k1 k2 : List Nat} (h : SV P n ops K os t' H') (hd : dstB o.dst n = true := by rfl) (hg : o.guard = none := by rfl) (hs : vstep P o (gt t) H (EqK v δ rs) := by repeat (first | exact eqK_i | refine onO_i rfl ?_ | refine onO2_i rfl ?_ | refine onO3_i rfl ?_ | refine need_i side ?_ | refine ldxm_i side ?_ | refine ldxb_i side ?_)) (ht : stF o.dst v δ rs t H = some (t', H', k1, k2) := by rfl) : SV P n ops K (o :: os) t H := by
  obtain ⟨e1, e2, _⟩ := stF_some ht
  exact sv_good (dstB_ok hd) hg (good_v hs) (by rw [e1, e2]; exact h)
theorem sve {f : FuncId} {c : Operand} {xs : List Operand} {ats : Array TypeId} {CT : TypeId} {b d : Nat} {v : Value} {code : List UInt8} {us : List Value} {α : Type} {Φ : α → Prop} {res : α → AV} {Hr : α → Hp} {tF : α → Tm} {HF : α → Hp} {k1 k2 : α → List Nat} (hc : ConC P f CT b v code us Φ res Hr) (h : ∀ x, Φ x → SV P n ops K os (tF x) (HF x)) (kc : Nat) (hd : dstB o.dst n = true := by rfl) (hg : o.guard = none := by rfl) (ho : o.op = .call { callee := .value (.func f), args := (c :: xs).toArray, argTypes := ats } := by rfl) (hx : evo (gt t) c = .one (.rd (cpQ b v code)) := by rfl) (hy : xs.map (evo (gt t)) = us.map (fun u => .one (.v u)) := by rfl) (hk : lk H kc = some (.own (cuOw CT b v code.length)) := by rfl) (hdd : o.dst = some d := by rfl)
    (hfr : ∀ x, (shH (8 * d) (Hr x)).all (fun p => (lk H p.1).isNone) = true := by intro x; rfl) (ht : ∀ x, stF o.dst (shA (8 * d) (res x)) (shH (8 * d) (Hr x)) [] t H = some (tF x, HF x, k1 x, k2 x) := by intro x; rfl) : SV P n ops K (o :: os) t H := fun w0 w ρ a Q hr hQ => by
  simp only [wpList]
  have hw : Region.wanted o (yielded ops.toArray a.tmps) = true := by unfold Region.wanted; rw [hg]
  rw [if_pos hw]
  refine .inl (hr.draw (d := 8 * d) ho hc hx hy hk (fun x k bb hb => ?_) (dstB_ok hd) fun x ρ' a' w' hΦ h' => ?_)
  · have := List.all_eq_true.1 (hfr x) _ hb
    simpa using this
  · obtain ⟨e1, e2, _⟩ := stF_some (ht x)
    rw [e1, e2] at h'
    exact h x hΦ w0 w' ρ' a' Q h' hQ
theorem svv {f : FuncId} {c : Operand} {ats : Array TypeId} {d : Nat} {v : Value} {code : List UInt8} {α : Type} {Φ : α → Prop} {res : α → AV} {Hr : α → Hp} {tF : α → Tm} {HF : α → Hp} {k1 k2 : α → List Nat} (hc : ConV P f v code Φ res Hr) (h : ∀ x, Φ x → SV P n ops K os (tF x) (HF x)) (hd : dstB o.dst n = true := by rfl) (hg : o.guard = none := by rfl) (ho : o.op = .call { callee := .value (.func f), args := #[c], argTypes := ats } := by rfl) (hx : evo (gt t) c = .one (.rd (pinQ v code)) := by rfl) (hdd : o.dst = some d := by rfl)
    (hfr : ∀ x, (shH (8 * d) (Hr x)).all (fun p => (lk H p.1).isNone) = true := by intro x; rfl) (ht : ∀ x, stF o.dst (shA (8 * d) (res x)) (shH (8 * d) (Hr x)) [] t H = some (tF x, HF x, k1 x, k2 x) := by intro x; rfl) : SV P n ops K (o :: os) t H := fun w0 w ρ a Q hr hQ => by
  simp only [wpList]
  have hw : Region.wanted o (yielded ops.toArray a.tmps) = true := by unfold Region.wanted; rw [hg]
  rw [if_pos hw]
  left
  obtain ⟨Bs, b1, b2⟩ := hr.hp
  have hp := hr.ev c
  rw [hx] at hp
  obtain ⟨hp, hh, _⟩ := hp
  obtain ⟨hfn, hcall⟩ := hc
  unfold Oper.wp
  rw [run_enter ho hfn, Oper.upon_enter]
  have e2 : #[c].map a.eval = [v].toArray := by simp [hp]
  rw [e2]
  refine (hcall w0 w Bs b2 hh (8 * d)).mono fun e w' hq => ?_
  obtain ⟨x, hΦ, u, ρ', rfl, g1, g2, As, g3, g4⟩ := hq
  have hf : ∀ k b, (k, b) ∈ shH (8 * d) (Hr x) → lk H k = none := fun k bb hb => by
    have := List.all_eq_true.1 (hfr x) _ hb
    simpa using this
  let ρ2 : Nat → Value := fun k => if k ∈ (shH (8 * d) (Hr x)).map (·.1) then ρ' k else ρ k
  have e := upd_new (shH (8 * d) (Hr x)) H hf g2
  have hnot : ∀ k, dom H k → k ∉ (shH (8 * d) (Hr x)).map (·.1) := fun k hk hm => by
    obtain ⟨⟨k', b⟩, hb, rfl⟩ := List.mem_map.1 hm
    exact lk_nd (hf _ _ hb) hk
  have hD1 : ∀ k, dom H k → dom (updH H (shH (8 * d) (Hr x))) k ∧ ρ2 k = ρ k := fun k hk => ⟨by rw [dom_mem, e, List.map_append]; exact List.mem_append_left _ (dom_mem.1 hk), if_neg (hnot k hk)⟩
  have hD2 : ∀ k, dom (shH (8 * d) (Hr x)) k → dom (updH H (shH (8 * d) (Hr x))) k ∧ ρ2 k = ρ' k := fun k hk => ⟨by rw [dom_mem, e, List.map_append]; exact List.mem_append_right _ (dom_mem.1 hk), if_pos (dom_mem.1 hk)⟩
  have hR : Rel w0 w' ρ2 n t (updH H (shH (8 * d) (Hr x))) a := by
    refine ⟨hr.sz, hr.df, fun k => (hr.tm k).ext hD1, ⟨Bs ++ As, ?_, ?_⟩, ?_⟩
    · have a1 : F2 (BR w0 (dom (updH H (shH (8 * d) (Hr x)))) ρ2) H Bs := b1.mono fun y _ hy r => BR.ext hD1 (dom_mem.2 (List.mem_map_of_mem (f := fun z : Nat × Blk => z.1) hy)) r
      have a2 : F2 (BR w0 (dom (updH H (shH (8 * d) (Hr x)))) ρ2) (shH (8 * d) (Hr x)) As := g3.mono fun y _ hy r => BR.ext hD2 (dom_mem.2 (List.mem_map_of_mem (f := fun z : Nat × Blk => z.1) hy)) r
      have a3 := F2.app a1 a2
      rw [e] at a3 ⊢
      exact a3
    · exact St.perm g4 (List.perm_append_comm (l₁ := As) (l₂ := Bs))
    · rw [e, List.map_append, List.nodup_append]
      exact ⟨hr.nd, g2, fun a ha b hb e => hnot a (dom_mem.2 ha) (e ▸ hb)⟩
  have h' := hR.put (d := o.dst) (g1.ext hD2) (dstB_ok hd)
  obtain ⟨e3, e4, _⟩ := stF_some (ht x)
  rw [e3, e4] at h'
  exact h x hΦ w0 w' ρ2 _ Q h' hQ
end
def cleanR : PV → Bool
  | .rp .. | .ptr .. | .hv .. | .hc .. => false
  | _ => true
def cleanR1 : AV → Bool
  | .one p => cleanR p
  | .agg ps => ps.all cleanR
  | .tup _ => false
  | .junk => true
def cleanRA : AV → Bool
  | .tup vs => vs.all cleanR1
  | x => cleanR1 x
section
variable {w0 : World} {ρ : Nat → Value}
theorem shR_ok {b : Nat} {Hr : Hp} {p : PV} {u : Value} (h : R w0 (dom Hr) ρ p u) (hc : cleanR p = true) : R w0 (dom (shH b Hr)) (fun k => ρ (k - b)) (shP b p) u := by
  cases p <;> first | exact h | (simp [cleanR] at hc; done) | skip
  rename_i k
  obtain ⟨h1, h2, h3⟩ := h
  refine ⟨?_, by simp only [Nat.add_sub_cancel_left]; exact h2, h3⟩
  rw [dom_mem] at h1 ⊢
  obtain ⟨x, hx, rfl⟩ := List.mem_map.1 h1
  unfold shH
  rw [List.map_map]
  exact List.mem_map.2 ⟨x, hx, rfl⟩
theorem shRL_ok {b : Nat} {Hr : Hp} : ∀ {ps : List PV} {us : List Value}, F2 (R w0 (dom Hr) ρ) ps us → ps.all cleanR = true → F2 (R w0 (dom (shH b Hr)) (fun k => ρ (k - b))) (ps.map (shP b)) us
  | [], _, .nil, _ => .nil
  | p :: ps, _, .cons h hr, hc => by
    simp only [List.all_cons, Bool.and_eq_true] at hc
    exact .cons (shR_ok h hc.1) (shRL_ok hr hc.2)
theorem shR1_ok {b : Nat} {Hr : Hp} {p : AV} {u : Value} (h : AR1 w0 (dom Hr) ρ p u) (hc : cleanR1 p = true) : AR1 w0 (dom (shH b Hr)) (fun k => ρ (k - b)) (shA1 b p) u := by
  cases p with
  | one p => exact shR_ok h hc
  | agg ps => obtain ⟨us, h1, h2⟩ := h; exact ⟨us, h1, shRL_ok h2 hc⟩
  | tup vs => exact h.elim
  | junk => trivial
theorem shRA_ok {b : Nat} {Hr : Hp} {p : AV} {u : Value} (h : AR w0 (dom Hr) ρ p u) (hc : cleanRA p = true) : AR w0 (dom (shH b Hr)) (fun k => ρ (k - b)) (shA b p) u := by
  cases p with
  | tup vs =>
    obtain ⟨us, h1, h2⟩ := h
    refine ⟨us, h1, ?_⟩
    replace hc : vs.all cleanR1 = true := hc
    clear h1
    induction h2 with
    | nil => exact .nil
    | cons h k ih =>
      simp only [List.all_cons, Bool.and_eq_true] at hc
      exact .cons (shR1_ok h hc.1) (ih hc.2)
  | one p => exact AR.of1 (p := .one (shP b p)) (shR1_ok (p := .one p) h hc)
  | agg p => exact AR.of1 (p := .agg (p.map (shP b))) (shR1_ok (p := .agg p) h hc)
  | junk => trivial
theorem brR_sh {D : Nat → Prop} {b : Nat} {Hr : Hp} : ∀ {G : Hp} {As : List Asn}, F2 (BR w0 D ρ) G As → arrs G = true → F2 (BR w0 (dom (shH b Hr)) (fun k => ρ (k - b))) (shH b G) As
  | [], _, .nil, _ => .nil
  | (k, x) :: G, _, .cons h hr, hc => by
    have h1 : arrs [(k, x)] = true := by
      simp only [arrs, List.all_cons, Bool.and_eq_true] at hc ⊢
      exact ⟨hc.1, rfl⟩
    have h2 : arrs G = true := by
      simp only [arrs, List.all_cons, Bool.and_eq_true] at hc ⊢
      exact hc.2
    exact .cons (BR.arrs (k := k) (k' := b + k) h1 (by simp) h) (brR_sh hr h2)
end
def FinG (P : Program) [TyEnv P] (rs : List ResultVar) (G : Hp) {α : Type} (Φ : α → Prop) (res : α → AV) (Hr : α → Hp) : Post := fun e t H =>
  (e = .normal ∨ e = .ret) ∧ ∃ vs, resL P t H rs = some vs ∧ vs.all untup = true ∧ ∃ x, Φ x ∧ cleanRA (res x) = true ∧ arrs (Hr x) = true ∧ ∃ r : Ren, AW r (Hr x) (res x) (resV vs) ∧ HW r (G ++ Hr x) H (G ++ Hr x) ∧ ((keys (G ++ Hr x)).filterMap (rk r)).Nodup ∧ (keys (G ++ Hr x)).Nodup
theorem fin_g {P : Program} [TyEnv P] {rs : List ResultVar} {G : Hp} {α : Type} {Φ : α → Prop} {res : α → AV} {Hr : α → Hp} {e : Exit} {t : Tm} {H : Hp} {vs : List AV} (x : α) (hΦ : Φ x) (r : Ren) (hv : resL P t H rs = some vs) (h3 : AW r (Hr x) (res x) (resV vs)) (h4 : HW r (G ++ Hr x) H (G ++ Hr x)) (he : e = .normal ∨ e = .ret := by first | exact .inr rfl | exact .inl rfl) (hu : vs.all untup = true := by rfl) (hc : cleanRA (res x) = true := by rfl) (ha : arrs (Hr x) = true := by rfl) (hn : renB r (G ++ Hr x) = true := by rfl) : FinG P rs G Φ res Hr e t H :=
  ⟨he, vs, hv, hu, x, hΦ, hc, ha, r, h3, h4, (renB_ok hn).2, (renB_ok hn).1⟩
section
variable {P : Program} [TyEnv P] {f : FuncId} {fn : Func} {c : Code} {n : Nat} {rs : List ResultVar} {α : Type} {Φ : α → Prop} {res : α → AV} {Hr : α → Hp} {v : Value} {code : List UInt8}
theorem fin_after {w0 w : World} {a : Act} {G : Hp} {Is Js : List Asn} {base : Nat} {fn : Func} (hrs : fn.results = rs.toArray) {e : Exit} (hq : CQ w0 n (FinG P rs G Φ res Hr) e a w) (hG : ∀ ρ As, F2 (BR w0 (fun _ => True) ρ) G As → ∀ Zs, St w0 w (As ++ Zs) → St w0 w (Is ++ (Zs ++ Js)))
    (hGa : arrs G = true) : a.defers = [] ∧ (e = .normal ∨ e = .ret) ∧ ∃ us : List Value, RVs P w a.tmps rs us ∧ ∃ x, Φ x ∧ After w0 base (res x) (Hr x) Is Js (.returned (if h : us.toArray.size = 1 then us.toArray[0] else .tuple us.toArray)) w := by
  obtain ⟨ρ, t, H, hr, he, vs, h1, h2, x, hΦ, hcl, har, r, h3, h4, h5, h6⟩ := hq
  obtain ⟨us, g1, g2⟩ := resL_ok hr h1 h2
  have hrr := Rel.ren hr (t' := []) r trivial h4 h5 h6
  have hval : AR w0 (dom (Hr x)) (mapr r ρ) (res x) (if h : us.toArray.size = 1 then us.toArray[0] else .tuple us.toArray) := by
    refine AW.ok (q := resV vs) h3 (D := dom H) ?_
    cases g1 with
    | nil => exact ⟨[], rfl, .nil⟩
    | cons a b =>
      cases b with
      | nil => exact AR.of1 a
      | cons c d =>
        rw [dif_neg (by simp)]
        exact ⟨_, rfl, .cons a (.cons c d)⟩
  obtain ⟨As, k1, k2⟩ := hrr.hp
  -- the parts of G, and those of the results
  have hsplit : ∀ (G : Hp) {As : List Asn}, F2 (BR w0 (dom (G ++ Hr x)) (mapr r ρ)) (G ++ Hr x) As → True := fun _ _ _ => trivial
  have sp : ∀ (L M : Hp) {D : Nat → Prop} {As : List Asn}, F2 (BR w0 D (mapr r ρ)) (L ++ M) As → ∃ A1 A2, As = A1 ++ A2 ∧ F2 (BR w0 D (mapr r ρ)) L A1 ∧ F2 (BR w0 D (mapr r ρ)) M A2 := by
    intro L
    induction L with
    | nil => intro M D As h; exact ⟨[], As, rfl, .nil, h⟩
    | cons y L ih =>
      intro M D As h
      cases h with
      | cons h k =>
        obtain ⟨A1, A2, rfl, q1, q2⟩ := ih M k
        exact ⟨_ :: A1, A2, rfl, .cons h q1, q2⟩
  obtain ⟨A1, A2, rfl, q1, q2⟩ := sp G (Hr x) k1
  have q1' : F2 (BR w0 (fun _ => True) (mapr r ρ)) G A1 := by
    refine q1.mono fun y A hy h => ?_
    obtain ⟨k, bb⟩ := y
    exact BR.arrs (by
      have := List.all_eq_true.1 hGa _ hy
      simp only [arrs, List.all_cons, List.all_nil, Bool.and_true]
      exact this) rfl h
  have hst := hG _ _ q1' A2 k2
  have hn9 : (((shH base (Hr x))).map (·.1)).Nodup := by
    refine nd_sh ?_
    have h6' : (keys G ++ keys (Hr x)).Nodup := by simpa only [keys, List.map_append] using h6
    exact (List.nodup_append.1 h6').2.1
  exact ⟨hr.df, he, us, g2, x, hΦ, _, fun k => mapr r ρ (k - base), rfl, shRA_ok hval hcl, hn9, A2, brR_sh q2 har, hst⟩
theorem conv_i (hf : P.funcs[f]? = some fn) (hn : fn.ntmps = n) (h : ∀ L : List Asn, VC P n c (FinG P rs [(1000003, .own (frOw L))] Φ res Hr) [(0, .one (.rd (pinQ v code)))] [(1000003, .own (frOw L))]) (hv : v.oneCell' = true) (hb : fn.body = some c := by rfl) (hnm : (fn.name == "runtime.NumGoroutine") = false := by kernel_rfl) (hrs : fn.results = rs.toArray := by rfl) (hargs : Nat.ble 1 n = true := by rfl) : ConV P f v code Φ res Hr := by
  refine ⟨⟨fn, hf, hnm, by rw [hb]; rfl⟩, fun w0 w Js hs hh base => ?_⟩
  refine calls_of_wp hf hb ?_
  rw [hn]
  have hn1 := Nat.le_of_ble_eq_true hargs
  have hrel : Rel w0 w (fun _ => .bool true) n [(0, .one (.rd (pinQ v code)))] [(1000003, .own (frOw Js))] { tmps := [v].toArray ++ Array.replicate (n - [v].toArray.size) undef, defers := [] } := by
    refine ⟨by simp; omega, rfl, fun k => ?_, ⟨[(frOw Js).A (.bool true)], .cons rfl .nil, ?_⟩, by simp⟩
    · simp only [gt]
      split
      · rename_i e; subst e
        have e0 : ([v].toArray ++ Array.replicate (n - [v].toArray.size) undef).getD 0 undef = v := by
          rw [Array.getD_eq_getD_getElem?, Array.getElem?_append_left (by simp)]; simp
        simp only [e0]
        exact ⟨rfl, hh, hv⟩
      · trivial
    · exact (St.joinL (L := Js) (Js := []) (by simpa using hs)).same fun F hF => ⟨F, ⟨rfl, hF⟩, fun _ h => h⟩
  refine Code.wp_mono (fun e a w' hq => ?_) (h Js w0 w _ _ hrel)
  obtain ⟨hdf, he, us, g2, x, hΦ, hA⟩ := fin_after (Is := []) (Js := Js) (base := base) hrs hq (fun ρ As hF Zs hst => by
    cases hF with
    | cons q1 q2 =>
      cases q2
      have q1' : _ = (frOw Js).A (ρ 1000003) := q1
      subst q1'
      have h2 : St w0 w' (joinA Js :: Zs) := hst.same fun F hF => ⟨F, hF.2, fun _ h => h⟩
      exact St.perm h2.unjoin List.perm_append_comm) rfl
  have hrun := g2.run hrs
  rcases he with rfl | rfl
  · exact ⟨hdf, _, hrun, x, hΦ, hA⟩
  · exact ⟨hdf, _, hrun, x, hΦ, hA⟩
theorem conc_i {CT : TypeId} {b : Nat} {us : List Value} (hf : P.funcs[f]? = some fn) (hn : fn.ntmps = n) (h : ∀ L : List Asn, VC P n c (FinG P rs [(1000001, .own (cuOw CT b v code.length)), (1000003, .own (frOw L))] Φ res Hr) ((0, .one (.rd (cpQ b v code))) :: argT 1 (us.map fun u => .one (.v u))) [(1000001, .own (cuOw CT b v code.length)), (1000003, .own (frOw L))]) (hone : us.all (·.oneCell') = true := by rfl) (hb : fn.body = some c := by rfl) (hnm : (fn.name == "runtime.NumGoroutine") = false := by kernel_rfl) (hrs : fn.results = rs.toArray := by rfl) (hargs : Nat.ble (us.length + 1) n = true := by rfl) : ConC P f CT b v code us Φ res Hr := by
  refine ⟨⟨fn, hf, hnm, by rw [hb]; rfl⟩, fun w0 w Js hs hh base => ?_⟩
  refine calls_of_wp hf hb ?_
  rw [hn]
  have hn1 := Nat.le_of_ble_eq_true hargs
  have hrel : Rel w0 w (fun k => if k = 1000003 then .bool true else .pointer (some ⟨b, 0, none⟩)) n ((0, .one (.rd (cpQ b v code))) :: argT 1 (us.map fun u => .one (.v u))) [(1000001, .own (cuOw CT b v code.length)), (1000003, .own (frOw Js))] { tmps := (.pointer (some ⟨b, 0, none⟩) :: us).toArray ++ Array.replicate (n - (Value.pointer (some ⟨b, 0, none⟩) :: us).toArray.size) undef, defers := [] } := by
    refine ⟨by simp; omega, rfl, fun k => ?_, ⟨[(cuOw CT b v code.length).A (.pointer (some ⟨b, 0, none⟩)), (frOw Js).A (.bool true)], .cons (by show _ = (cuOw CT b v code.length).A (if 1000001 = 1000003 then _ else _); rw [if_neg (by decide)]) (.cons (by show _ = (frOw Js).A (if 1000003 = 1000003 then _ else _); rw [if_pos rfl]) .nil), ?_⟩, by simp⟩
    · simp only [gt]
      split
      · rename_i e; subst e
        have e0 : ((.pointer (some ⟨b, 0, none⟩) :: us).toArray ++ Array.replicate (n - (Value.pointer (some ⟨b, 0, none⟩) :: us).toArray.size) undef).getD 0 undef = .pointer (some ⟨b, 0, none⟩) := by
          rw [Array.getD_eq_getD_getElem?, Array.getElem?_append_left (by simp)]; simp
        simp only [e0]
        exact ⟨rfl, hh⟩
      · rename_i e
        rw [gt_argT]
        split
        · rename_i h1
          cases hk : (us.map fun u => AV.one (.v u))[k - 1]? with
          | none => trivial
          | some y =>
            rw [List.getElem?_map] at hk
            obtain ⟨u, hu, rfl⟩ := Option.map_eq_some_iff.1 hk
            have hkl := (List.getElem?_eq_some_iff.1 hu).1
            have : ((.pointer (some ⟨b, 0, none⟩) :: us).toArray ++ Array.replicate (n - (Value.pointer (some ⟨b, 0, none⟩) :: us).toArray.size) undef).getD k undef = u := by
              obtain ⟨m, rfl⟩ : ∃ m, k = m + 1 := ⟨k - 1, by omega⟩
              simp only [Nat.add_sub_cancel] at hu hkl
              rw [Array.getD_eq_getD_getElem?, Array.getElem?_append_left (by simp; omega)]
              simp [hu]
            simp only [this, Option.getD_some]
            exact ⟨rfl, List.all_eq_true.1 hone u (List.mem_of_getElem? hu)⟩
        · trivial
    · have h1 : St w0 w ((cuOw CT b v code.length).A (.pointer (some ⟨b, 0, none⟩)) :: Js) := hs.same fun F hF => ⟨F, ⟨rfl, hF⟩, fun _ h => h⟩
      have h2 : St w0 w (Js ++ [(cuOw CT b v code.length).A (.pointer (some ⟨b, 0, none⟩))]) := St.perm h1 (List.perm_append_singleton _ _).symm
      have h3 : St w0 w ((frOw Js).A (.bool true) :: [(cuOw CT b v code.length).A (.pointer (some ⟨b, 0, none⟩))]) := (St.joinL (L := Js) h2).same fun F hF => ⟨F, ⟨rfl, hF⟩, fun _ h => h⟩
      exact St.perm h3 (.swap ..)
  refine Code.wp_mono (fun e a w' hq => ?_) (h Js w0 w _ _ hrel)
  obtain ⟨hdf, he, us', g2, x, hΦ, hA⟩ := fin_after (Is := [curA CT b v code.length]) (Js := Js) (base := base) hrs hq (fun ρ As hF Zs hst => by
    cases hF with
    | cons q1 q2 =>
      cases q2 with
      | cons q2 q3 =>
        cases q3
        have q1' : _ = (cuOw CT b v code.length).A (ρ 1000001) := q1
        have q2' : _ = (frOw Js).A (ρ 1000003) := q2
        subst q1' q2'
        have h2 : St w0 w' (curA CT b v code.length :: ((frOw Js).A (ρ 1000003) :: Zs)) := hst.same fun F hF => ⟨F, hF.2, fun _ h => h⟩
        have h3 : St w0 w' (joinA Js :: (curA CT b v code.length :: Zs)) := (St.perm h2 (.swap ..)).same fun F hF => ⟨F, hF.2, fun _ h => h⟩
        refine St.perm h3.unjoin ?_
        exact (List.perm_middle (l₁ := Js)).trans (List.Perm.cons _ List.perm_append_comm)) rfl
  have hrun := g2.run hrs
  rcases he with rfl | rfl
  · exact ⟨hdf, _, hrun, x, hΦ, hA⟩
  · exact ⟨hdf, _, hrun, x, hΦ, hA⟩
end
end Go.Vc
end
section
namespace Go.Vc
open Go Go.RowKit
set_option linter.unusedVariables false
set_option linter.unusedSectionVars false
set_option linter.unusedSimpArgs false
set_option linter.unnecessarySimpa false
section
variable {P : Program} [TyEnv P] {n : Nat} {ops os : List Oper} {K : Tm → Hp → Prop} {t t' : Tm} {H H' : Hp} {o : Oper} {v : AV} {δ rs : Hp} {k1 k2 : List Nat}
theorem svnil (h : K t H) : SV P n ops K [] t H := fun w0 w ρ a Q hr hQ => hQ a w ρ t H hr h
theorem sv_on {g : Nat} {want : Bool} (hd : dstB o.dst n = true) (hg : o.guard = some (g, want)) (hw : gBF ops (gt t) want g = some true) (hs : Good P o (gt t) H v δ rs) (ht : stF o.dst v δ rs t H = some (t', H', k1, k2)) (h : SV P n ops K os t' H') : SV P n ops K (o :: os) t H := fun w0 w ρ a Q hr hQ => by
  obtain ⟨e1, e2, _⟩ := stF_some ht
  have hok : gOk ops (gt t) o true := by
    unfold gOk
    rw [hg]
    unfold gBF at hw
    split at hw
    · rename_i c hc
      simp only [Option.some.injEq, beq_iff_eq] at hw
      subst hw
      exact ⟨_, hc, by simp⟩
    · cases hw
    · cases hw
  simp only [wpList]
  rw [gOk_w hr hok, if_pos rfl]
  exact .inl (Oper.wp_mono (fun a' w' ⟨ρ', h'⟩ => by rw [e1, e2] at h'; exact h w0 w' ρ' a' Q h' hQ) (hs.1 w0 w ρ n _ _ a Q hr (fun k hk => rfl) hs.2.1 hs.2.2 (dstB_ok hd)))
theorem svon {g : Nat} {want : Bool} (h : SV P n ops K os t' H') (hd : dstB o.dst n = true := by rfl) (hg : o.guard = some (g, want) := by rfl) (hw : gBF ops (gt t) want g = some true := by rfl) (hs : vstep P o (gt t) H (EqK v δ rs) := by repeat (first | exact eqK_i | refine onO_i rfl ?_ | refine onO2_i rfl ?_ | refine onO3_i rfl ?_ | refine need_i side ?_ | refine ldxm_i side ?_ | refine ldxb_i side ?_)) (ht : stF o.dst v δ rs t H = some (t', H', k1, k2) := by rfl) : SV P n ops K (o :: os) t H := sv_on hd hg hw (good_v hs) ht h
theorem svof {g : Nat} {want : Bool} (h : SV P n ops K os t' H) (hd : dstB o.dst n = true := by rfl) (hg : o.guard = some (g, want) := by rfl) (hw : gBF ops (gt t) want g = some false := by rfl) (ht : putF o.dst (.tup []) t = some t' := by rfl) : SV P n ops K (o :: os) t H := fun w0 w ρ a Q hr hQ => by
  have hok : gOk ops (gt t) o false := by
    unfold gOk
    rw [hg]
    unfold gBF at hw
    split at hw
    · rename_i c hc
      simp only [Option.some.injEq] at hw
      refine ⟨_, hc, ?_⟩
      cases c <;> cases want <;> simp_all
    · rename_i hc
      exact ⟨_, hc, by simp⟩
    · cases hw
  simp only [wpList]
  rw [gOk_w hr hok, if_neg (by simp)]
  have := hr.put (v := .tup []) (u := undef) ⟨[], rfl, .nil⟩ (dstB_ok hd)
  rw [putF_some ht] at this
  exact h w0 w ρ _ Q this hQ
theorem svwr {d : Nat} {x : Int} (h : SV P n ops K os ((d, .one (.v (.int .i64 x))) :: t) H) (hw : -9223372036854775808 ≤ x ∧ x ≤ 9223372036854775807 := by omega) : SV P n ops K os ((d, .one (.v (.int .i64 (wr x)))) :: t) H := by
  have : wr x = x := IntWalk.i64_in x hw
  rw [this]; exact h
theorem svsp {d : Nat} {c : Bool} {p q : Prop} (h1 : p → SV P n ops K os ((d, .one (.v (.bool true))) :: t) H) (h2 : q → SV P n ops K os ((d, .one (.v (.bool false))) :: t) H) (hp : (c = true) = p := by (conv => lhs; try simp only [decide_eq_true_eq, decide_eq_false_iff_not, Bool.not_eq_true', Bool.not_eq_false', beq_iff_eq, Int.toNat_natCast, Int.ofNat_lt, ge_iff_le, gt_iff_lt, Int.not_le, Int.not_lt])) (hq : (c = false) = q := by (conv => lhs; try simp only [decide_eq_true_eq, decide_eq_false_iff_not, Bool.not_eq_true', Bool.not_eq_false', beq_iff_eq, Int.toNat_natCast, Int.ofNat_lt, ge_iff_le, gt_iff_lt, Int.not_le, Int.not_lt])) : SV P n ops K os ((d, .one (.v (.bool c))) :: t) H := by
  subst hp hq
  cases c
  · exact h2 rfl
  · exact h1 rfl
theorem sven {f : FuncId} {c : Operand} {xs : List Operand} {ats : Array TypeId} {CT : TypeId} {b g d : Nat} {want : Bool} {v : Value} {code : List UInt8} {us : List Value} {α : Type} {Φ : α → Prop} {res : α → AV} {Hr : α → Hp} {tF : α → Tm} {HF : α → Hp} {k1 k2 : α → List Nat} (hc : ConC P f CT b v code us Φ res Hr) (h : ∀ x, Φ x → SV P n ops K os (tF x) (HF x)) (kc : Nat) (hd : dstB o.dst n = true := by rfl) (hg : o.guard = some (g, want) := by rfl) (hw : gBF ops (gt t) want g = some true := by rfl) (ho : o.op = .call { callee := .value (.func f), args := (c :: xs).toArray, argTypes := ats } := by rfl) (hx : evo (gt t) c = .one (.rd (cpQ b v code)) := by rfl) (hy : xs.map (evo (gt t)) = us.map (fun u => .one (.v u)) := by rfl) (hk : lk H kc = some (.own (cuOw CT b v code.length)) := by rfl) (hdd : o.dst = some d := by rfl)
    (hfr : ∀ x, (shH (8 * d) (Hr x)).all (fun p => (lk H p.1).isNone) = true := by intro x; rfl) (ht : ∀ x, stF o.dst (shA (8 * d) (res x)) (shH (8 * d) (Hr x)) [] t H = some (tF x, HF x, k1 x, k2 x) := by intro x; rfl) : SV P n ops K (o :: os) t H := fun w0 w ρ a Q hr hQ => by
  have hok : gOk ops (gt t) o true := by
    unfold gOk
    rw [hg]
    unfold gBF at hw
    split at hw
    · rename_i c hc
      simp only [Option.some.injEq, beq_iff_eq] at hw
      subst hw
      exact ⟨_, hc, by simp⟩
    · cases hw
    · cases hw
  simp only [wpList]
  rw [gOk_w hr hok, if_pos rfl]
  refine .inl (hr.draw (d := 8 * d) ho hc hx hy hk (fun x k bb hb => ?_) (dstB_ok hd) fun x ρ' a' w' hΦ h' => ?_)
  · have := List.all_eq_true.1 (hfr x) _ hb
    simpa using this
  · obtain ⟨e1, e2, _⟩ := stF_some (ht x)
    rw [e1, e2] at h'
    exact h x hΦ w0 w' ρ' a' Q h' hQ
theorem tri_lenP {T e : TypeId} {i : TyI} {rd : Nat → AV} {x : Operand} {v : Value} {code : List UInt8} (ho : o.op = .call { callee := .builtin .len, args := #[x], argTypes := #[T] }) (hi : TyEnv.ti P T = some i) (hk : i.k = .slice e) (hx : evo rd x = .one (.rd (pinQ v code))) : Tri P o rd [] (.one (.v (.int .i64 code.length))) [] := by
  refine tri_pure fun w0 w D ρ ac hh hex => ?_
  have h1 := hh x (by simp [ho, Op.operands, Call.operands])
  rw [hx] at h1
  obtain ⟨h1, h2, _⟩ := h1
  obtain ⟨A, c, hv, _⟩ := h2.bytes
  simp only [List.cons.injEq, and_true] at hv
  subst hv
  refine ⟨_, ?_, ar_v rfl⟩
  have hu := ty_slice hi hk
  have := run_len_slice (P := P) w T o.type A code.length c (by rw [elem_of hu]; exact hu)
  simp [execOp, ho, resolve, invoke, builtin, h1, this, goInt]
theorem vlp {dr : Bool} {fp : List Fp} {T e : TypeId} {i : TyI} {x : Operand} {v : Value} {code : List UInt8} (h : Vd P n ops dr (K := K) os t' H' ((k1, k2) :: fp)) (hd : dstB o.dst n = true := by rfl) (hg : o.guard = none := by rfl) (ho : o.op = .call { callee := .builtin .len, args := #[x], argTypes := #[T] } := by rfl) (hi : TyEnv.ti P T = some i := by rfl) (hk : i.k = .slice e := by rfl) (hx : evo (gt t) x = .one (.rd (pinQ v code)) := by rfl)
    (ht : stF o.dst (.one (.v (.int .i64 code.length))) [] [] t H = some (t', H', k1, k2) := by rfl) : Vd P n ops dr K (o :: os) t H fp := vd_plain hd hg (good0 (tri_lenP ho hi hk hx)) ht h
end
def setQ (xs : List Int) : RdP := vQ fun u => ∃ x ∈ xs, u = .int .i64 x
section
variable {P : Program} [TyEnv P] {n : Nat} {ops os : List Oper} {K : Tm → Hp → Prop} {t t' : Tm} {H H' : Hp} {o : Oper} {k1 k2 : List Nat}
def Pick (P : Program) (f : FuncId) (CT : TypeId) : Prop := FnOk P f ∧ ∀ (w0 w : World) (Js : List Asn) (b : Nat) (v lv : Value) (code : List UInt8) (xs : List Int), St w0 w (curA CT b v code.length :: Js) → Holds w0 code [v] → RB w (.sl 1 (xs.map intE)) lv → (∀ c ∈ lv.blk, c ≠ b) → (∀ x ∈ xs, i64ok x) → 1 ≤ xs.length → xs.length ≤ 1000000 →
  Calls P f #[.pointer (some ⟨b, 0, none⟩), lv] w fun e w' => ∃ x ∈ xs, e = .returned (.int .i64 x) ∧ St w0 w' (curA CT b v code.length :: Js)
theorem Rel.pick {w0 w : World} {ρ : Nat → Value} {a : Act} {f : FuncId} {c y : Operand} {ats : Array TypeId} {CT E : TypeId} {b kc m : Nat} {v : Value} {code : List UInt8} {xs : List Int} {Q : Exit → Act → World → Prop} {K : Act → World → Prop}
    (hr : Rel w0 w ρ n t H a) (ho : o.op = .call { callee := .value (.func f), args := #[c, y], argTypes := ats }) (hc : Pick P f CT) (hx : evo (gt t) c = .one (.rd (cpQ b v code))) (hy : evo (gt t) y = .one (.hs m)) (hk : lk H kc = some (.own (cuOw CT b v code.length))) (hm : lk H m = some (.arr E 1 (xs.map intE))) (hkm : kc ≠ m)
    (h64 : ∀ x ∈ xs, i64ok x) (h1 : 1 ≤ xs.length) (h2 : xs.length ≤ 1000000) (hd : ∀ d, o.dst = some d → d < n)
    (h : ∀ x a' w', x ∈ xs → Rel w0 w' ρ n (putT t o.dst (.one (.v (.int .i64 x)))) H a' → K a' w') : o.wp P a w K Q := by
  obtain ⟨Bs, b1, b2⟩ := hr.hp
  have p1 : H.Perm ((kc, .own (cuOw CT b v code.length)) :: offK kc H) := by have := upd1_perm (.own (cuOw CT b v code.length)) hr.nd hk; rwa [upd1_same hk] at this
  have hm1 : lk (offK kc H) m = some (.arr E 1 (xs.map intE)) := by rw [lk_offK (fun e => hkm e.symm)]; exact hm
  have p2 : (offK kc H).Perm ((m, .arr E 1 (xs.map intE)) :: offK m (offK kc H)) := by have := upd1_perm (.arr E 1 (xs.map intE)) (nd_offK (k := kc) hr.nd) hm1; rwa [upd1_same hm1] at this
  obtain ⟨Ds, d1, d2⟩ := F2.perm (p1.trans (p2.cons _)) b1
  cases d2 with
  | @cons _ X _ Es' x1 x2 =>
    cases x2 with
    | @cons _ Y _ Es x2 x3 =>
      have hX : X = (cuOw CT b v code.length).A (ρ kc) := x1
      subst hX
      obtain ⟨hes, rfl⟩ := x2
      have s1 : St w0 w ((cuOw CT b v code.length).A (ρ kc) :: slotA E 1 (ρ m) (xs.map intE).length (xs.map intE).flatten :: Es) := St.perm b2 d1
      obtain ⟨hx0, F, ⟨F1, F2, ⟨hρ, hF1⟩, ⟨G1, G2, hG1, hG2, g3, g4⟩, f3, f4⟩, f5⟩ := s1
      have s1 : St w0 w ((cuOw CT b v code.length).A (ρ kc) :: slotA E 1 (ρ m) (xs.map intE).length (xs.map intE).flatten :: Es) := St.perm b2 d1
      have hcur : St w0 w (curA CT b v code.length :: slotA E 1 (ρ m) (xs.map intE).length (xs.map intE).flatten :: Es) := s1.same fun F hF => ⟨F, hF.2, fun _ h => h⟩
      have hp := hr.ev c
      rw [hx] at hp
      obtain ⟨hp, hh⟩ := hp
      have hq := hr.ev y
      rw [hy] at hq
      obtain ⟨_, hq, _⟩ := hq
      have hdis : ∀ c ∈ (ρ m).blk, c ≠ b := fun c hc e => by
        subst e
        exact f3 c ((hF1.2 c).2 rfl) ((g4 c).2 (.inl ((hG1.2 c).2 hc)))
      obtain ⟨hfn, hcall⟩ := hc
      unfold Oper.wp
      rw [run_enter ho hfn, Oper.upon_enter]
      have e2 : #[c, y].map a.eval = #[.pointer (some ⟨b, 0, none⟩), ρ m] := by simp [hp, hq]
      rw [e2]
      refine (hcall w0 w _ b v (ρ m) code xs hcur hh (slot_RB hG1.1 hes) hdis h64 h1 h2).mono fun e w' hq2 => ?_
      obtain ⟨x, hxs, rfl, hS⟩ := hq2
      have hback : St w0 w' ((cuOw CT b v code.length).A (ρ kc) :: slotA E 1 (ρ m) (xs.map intE).length (xs.map intE).flatten :: Es) := hS.same fun F hF => ⟨F, ⟨hρ, hF⟩, fun _ h => h⟩
      have hR : Rel w0 w' ρ n t H a := ⟨hr.sz, hr.df, hr.tm, ⟨Bs, b1, St.perm hback d1.symm⟩, hr.nd⟩
      exact h x _ w' hxs (hR.put (v := .one (.v (.int .i64 x))) ⟨rfl, rfl⟩ hd)
theorem svp {f : FuncId} {c y : Operand} {ats : Array TypeId} {CT E : TypeId} {b m d : Nat} {v : Value} {code : List UInt8} (xs : List Int) (hc : Pick P f CT) (h : ∀ x, x ∈ xs → SV P n ops K os ((d, .one (.v (.int .i64 x))) :: t) H) (kc : Nat) (hd : dstB o.dst n = true := by rfl) (hg : o.guard = none := by rfl) (ho : o.op = .call { callee := .value (.func f), args := #[c, y], argTypes := ats } := by rfl) (hx : evo (gt t) c = .one (.rd (cpQ b v code)) := by rfl) (hy : evo (gt t) y = .one (.hs m) := by rfl) (hk : lk H kc = some (.own (cuOw CT b v code.length)) := by rfl) (hm : lk H m = some (.arr E 1 (xs.map intE)) := by rfl) (hkm : Nat.beq kc m = false := by rfl) (hdd : o.dst = some d := by rfl)
    (h64 : ∀ x ∈ xs, i64ok x := by (intro x hx; simp only [List.mem_cons, List.not_mem_nil, or_false] at hx; unfold i64ok; omega)) (h1 : Nat.ble 1 xs.length = true := by rfl) (h2 : Nat.ble xs.length 1000 = true := by rfl) : SV P n ops K (o :: os) t H := fun w0 w ρ a Q hr hQ => by
  simp only [wpList]
  have hw : Region.wanted o (yielded ops.toArray a.tmps) = true := by unfold Region.wanted; rw [hg]
  rw [if_pos hw]
  have h1' := Nat.le_of_ble_eq_true h1
  have h2' := Nat.le_of_ble_eq_true h2
  exact .inl (hr.pick ho hc hx hy hk hm (Nat.ne_of_beq_eq_false hkm) h64 h1' (by omega) (dstB_ok hd) fun x a' w' hxs h' => by
    rw [hdd] at h'
    exact h x hxs w0 w' ρ a' Q h' hQ)
theorem tri_pick' {f : FuncId} {c y : Operand} {ats : Array TypeId} {CT E : TypeId} {b kc m : Nat} {rd : Nat → AV} {v : Value} {code : List UInt8} {xs : List Int} (ho : o.op = .call { callee := .value (.func f), args := #[c, y], argTypes := ats }) (hc : Pick P f CT) (hx : evo rd c = .one (.rd (cpQ b v code))) (hy : evo rd y = .one (.hs m)) (hkm : kc ≠ m) (h64 : ∀ x ∈ xs, i64ok x) (h1 : 1 ≤ xs.length) (h2 : xs.length ≤ 1000000) :
    Tri P o rd [(kc, .own (cuOw CT b v code.length)), (m, .arr E 1 (xs.map intE))] (.one (.rd (setQ xs))) [] := by
  intro w0 w ρ n t H a Q hr ht hrs hfr hd
  refine hr.pick ho hc ?_ ?_ (hrs kc _ (List.mem_cons_self ..)) (hrs m _ (List.mem_cons_of_mem _ (List.mem_cons_self ..))) hkm h64 h1 h2 hd fun x a' w' hxs h' => ⟨ρ, ?_⟩
  · rw [evo_of (o := o) (by simp [ho, Op.operands, Call.operands]) ht]; exact hx
  · rw [evo_of (o := o) (by simp [ho, Op.operands, Call.operands]) ht]; exact hy
  · refine ⟨h'.sz, h'.df, fun k => ?_, h'.hp, h'.nd⟩
    have := h'.tm k
    rw [gt_putT] at this ⊢
    split
    · rename_i e
      rw [if_pos e] at this
      obtain ⟨q1, q2⟩ := this
      exact ⟨⟨x, hxs, q1⟩, by rw [q1]; rfl⟩
    · rename_i e
      rw [if_neg e] at this
      exact this
theorem vdp {dr : Bool} {fp : List Fp} {f : FuncId} {c y : Operand} {ats : Array TypeId} {CT E : TypeId} {b m : Nat} {v : Value} {code : List UInt8} (xs : List Int) (hc : Pick P f CT) (h : Vd P n ops dr K os t' H' ((k1, k2) :: fp)) (kc : Nat) (hd : dstB o.dst n = true := by rfl) (hg : o.guard = none := by rfl) (ho : o.op = .call { callee := .value (.func f), args := #[c, y], argTypes := ats } := by rfl) (hx : evo (gt t) c = .one (.rd (cpQ b v code)) := by rfl) (hy : evo (gt t) y = .one (.hs m) := by rfl) (hk : lk H kc = some (.own (cuOw CT b v code.length)) := by rfl) (hm : lk H m = some (.arr E 1 (xs.map intE)) := by rfl) (hkm : Nat.beq kc m = false := by rfl)
    (h64 : ∀ x ∈ xs, i64ok x := by (intro x hx; simp only [List.mem_cons, List.not_mem_nil, or_false] at hx; unfold i64ok; omega)) (h1 : Nat.ble 1 xs.length = true := by rfl) (h2 : Nat.ble xs.length 1000 = true := by rfl) (ht : stF o.dst (.one (.rd (setQ xs))) [] [(kc, .own (cuOw CT b v code.length)), (m, .arr E 1 (xs.map intE))] t H = some (t', H', k1, k2) := by rfl) : Vd P n ops dr K (o :: os) t H fp := by
  have h1' := Nat.le_of_ble_eq_true h1
  have h2' := Nat.le_of_ble_eq_true h2
  exact vd_plain hd hg (good_of (tri_pick' ho hc hx hy (Nat.ne_of_beq_eq_false hkm) h64 h1' (by omega)) (fun k b hb => by
    simp only [List.mem_cons, Prod.mk.injEq, List.not_mem_nil, or_false] at hb
    rcases hb with ⟨rfl, rfl⟩ | ⟨rfl, rfl⟩
    · exact hk
    · exact hm) fun k b hb => by cases hb) ht h
theorem vc_et {K : Post} {c : Code} {d : Nat} {xs : List Int} (h : ∀ x, x ∈ xs → VC P n c K ((d, .one (.v (.int .i64 x))) :: t) H) (hx : gt t d = .one (.rd (setQ xs)) := by rfl) : VC P n c K t H := fun w0 w ρ a hr => by
  have h1 := hr.tm d
  rw [hx] at h1
  obtain ⟨⟨x, hxs, hu⟩, _⟩ := h1
  refine h x hxs w0 w ρ a ⟨hr.sz, hr.df, fun k => ?_, hr.hp, hr.nd⟩
  simp only [gt]
  split
  · rename_i e; subst e; exact ⟨hu, rfl⟩
  · exact hr.tm k
end
end Go.Vc
end
section
namespace Go.Proofs.YtfcmcedeapgdcaaGreat
open Go Go.RowKit Go.Vc
set_option linter.unusedVariables false
set_option linter.unusedSimpArgs false
set_option linter.unnecessarySimpa false
theorem after_i {w0 w' : World} {base : Nat} {r : Int} {Is Js : List Asn} (hs : St w0 w' (Is ++ Js)) : After w0 base (.one (.v (.int .i64 r))) [] Is Js (.returned (.int .i64 r)) w' :=
  ⟨_, fun _ => .bool true, rfl, ⟨rfl, rfl⟩, .nil, [], .nil, by simpa using hs⟩
theorem c_spec_l01Byte {b : Nat} {v : Value} {code : List UInt8} : ConC Tryz.prog 57 112 b v code [] (α := Int) (fun x => 0 ≤ x ∧ x ≤ 255) (fun x => .one (.v (.int .i64 x))) (fun _ => []) :=
  ⟨⟨_, Tryz.func57, by kernel_rfl, rfl⟩, fun w0 w Js hs hh base => (l01Byte_any b v code w0 w (hs.cu .head hh)).mono fun e w' hd => by
    obtain ⟨r, h1, h2, rfl, h3⟩ := hs.drawn .head hd
    exact ⟨r, ⟨h1, h2⟩, after_i h3⟩⟩
theorem c_spec_l01Below {b : Nat} {v : Value} {code : List UInt8} {n : Int} (h0 : 1 ≤ n := by omega) (h1 : n ≤ 1000000000 := by omega) : ConC Tryz.prog 21 112 b v code [.int .i64 n] (α := Int) (fun x => 0 ≤ x ∧ x ≤ n - 1) (fun x => .one (.v (.int .i64 x))) (fun _ => []) :=
  ⟨⟨_, Tryz.func21, by kernel_rfl, rfl⟩, fun w0 w Js hs hh base => (l01Below_any b v code n w0 w (hs.cu .head hh) h0 h1).mono fun e w' hd => by
    obtain ⟨r, h1, h2, rfl, h3⟩ := hs.drawn .head hd
    exact ⟨r, ⟨h1, h2⟩, after_i h3⟩⟩
theorem c_spec_l01New {v : Value} {code : List UInt8} : ConV Tryz.prog 19 v code (α := Nat) (fun _ => True) (fun B => .one (.rd (cpQ B v code))) (fun B => [(0, .own (cuOw 112 B v code.length))]) :=
  ⟨⟨_, Tryz.func19, by kernel_rfl, rfl⟩, fun w0 w Js hs hh base => (l01New_any v code w (hh.ex hs.ex)).mono fun e w' hd => by
    obtain ⟨B, rfl, h3⟩ := hs.newCur hd code.length
    refine ⟨B, trivial, _, fun _ => .pointer (some ⟨B, 0, none⟩), rfl, ⟨rfl, hh⟩, by simp [shH], [_], .cons rfl .nil, ?_⟩
    exact h3.same fun F hF => ⟨F, ⟨rfl, hF⟩, fun _ h => h⟩⟩
set_option maxHeartbeats 1000000 in
theorem pick_any (B : Nat) (v : Value) (code : List UInt8) (lv : Value) (xs : List Int) (w0 w : World) (hcu : Cu 112 w0 B v code w) (k2 : RB w (.sl 1 (xs.map intE)) lv) (hne : ∀ b ∈ lv.blk, b ≠ B) (h1 : 1 ≤ xs.length) (h2 : xs.length ≤ 1000000) :
    Calls Tryz.prog 69 #[.pointer (some ⟨B, 0, none⟩), lv] w fun e w' => ∃ x ∈ xs, DrawnN 112 B v code.length x x w e w' := by
  obtain ⟨a, cap, rfl, m1, m2, m3⟩ := k2
  unfold maxLen at m2
  rw [List.length_map] at m1 ⊢
  have lB := hcu.lt
  have M3 : Hid (∀ k (hk : k < xs.length), ∃ b off, a = some ⟨b, off, none⟩ ∧ w.cell? ⟨b, off + k, none⟩ = some (.int .i64 xs[k])) := hid fun k hk => by
    obtain ⟨b, off, ha, hc⟩ := m3.2 (by intro e; simp at e; subst e; simp at hk)
    refine ⟨b, off, ha, ?_⟩
    have := hc k (intE xs[k]) (by simp [List.getElem?_eq_getElem hk]) 0 (by decide)
    simpa [intE] using this
  have HN := hid hne
  clear m3 hne
  go_enter Tryz.func69, Tryz.ntmps69
  go_wp2_with fail
  (with_reducible refine (l01Below_any B v code _ w0 _ hcu (by omega) (by omega)).mono ?_); rintro e w' ⟨r, i, h, g, r0, r1, i0, i1, rfl, rfl⟩
  obtain ⟨k, rfl⟩ := Int.eq_ofNat_of_zero_le r0
  have hk : k < xs.length := by omega
  obtain ⟨b, off, rfl, hc⟩ := M3.out k hk
  have hbB : b ≠ B := HN.out b (by simp [Value.blk])
  have lb : b < w.heap.size := World.block_lt_of_cell? _ _ hc
  have hx := List.getElem_mem hk
  generalize xs[k] = y at *
  go_wp2
  go_ret
  exact ⟨y, hx, y, i, h, g, Int.le_refl _, Int.le_refl _, i0, i1, rfl, rfl⟩
theorem c_pick : Pick Tryz.prog 69 112 := ⟨⟨_, Tryz.func69, by kernel_rfl, rfl⟩, fun w0 w Js b v lv code xs hs hh hr hb h64 h1 h2 => (pick_any b v code lv xs w0 w (hs.cu .head hh) hr hb h1 h2).mono fun e w' ⟨x, hx, hd⟩ => by
  obtain ⟨r, g1, g2, rfl, h3⟩ := hs.drawn .head hd
  obtain rfl : r = x := by omega
  exact ⟨r, hx, rfl, h3⟩⟩
set_option maxHeartbeats 4000000 in
theorem c_spec_l01Once {b : Nat} {v : Value} {code : List UInt8} {n : Int} (h0 : 1 ≤ n := by omega) (h1 : n ≤ 1000000000 := by omega) : ConC Tryz.prog 68 112 b v code [.int .i64 (n)] (α := Bool) (fun _ => True) (fun x => .one (.v (.bool x))) (fun _ => []) := by
  refine conc_i Tryz.func68 Tryz.ntmps68 (fun L => ?_)
  refine vc_nf rfl rfl ?_
  refine vc_sr ?_
  refine vo ?_
  refine vnt ?_
  refine vc_seq' ?_
  refine vc_sv ?_
  refine svo ?_
  refine svo ?_
  refine sve (c_spec_l01Below (n := n)) (fun x1 hx1 => ?_) 1000001
  refine svo ?_
  refine svo ?_
  refine svnil ?_
  refine thn ?_
  refine vc_ret ?_
  refine fin_g (decide (x1 = 0)) (trivial) [] rfl (fz ?_) (fz ?_) <;> first | trivial | rfl | trace_state
set_option maxHeartbeats 4000000 in
theorem c_spec_l06Host {b : Nat} {v : Value} {code : List UInt8}  : ConC Tryz.prog 102 112 b v code [] (α := Int) (fun x => 167772161 ≤ x ∧ x ≤ 167772163) (fun x => .one (.v (.int .i64 x))) (fun _ => []) := by
  refine conc_i Tryz.func102 Tryz.ntmps102 (fun L => ?_)
  refine vc_nf rfl rfl ?_
  refine vc_sr ?_
  refine vo ?_
  refine vnt ?_
  refine vc_seq' ?_
  refine vc_sv ?_
  refine svo ?_
  refine sve (c_spec_l01Below (n := 3)) (fun x1 hx1 => ?_) 1000001
  refine svo ?_
  try refine svwr ?_
  refine svo ?_
  refine svnil ?_
  refine thn ?_
  refine vc_ret ?_
  refine fin_g (167772161 + x1) (by omega) [] rfl (fz ?_) (fz ?_) <;> first | trivial | rfl | trace_state
set_option maxHeartbeats 4000000 in
theorem c_spec_l06Flags {b : Nat} {v : Value} {code : List UInt8}  : ConC Tryz.prog 123 112 b v code [] (α := Int) (fun x => x ∈ ([16, 16, 16, 24, 17, 2, 4, 31, 0] : List Int)) (fun x => .one (.v (.int .i64 x))) (fun _ => []) := by
  refine conc_i Tryz.func123 Tryz.ntmps123 (fun L => ?_)
  refine vc_nf rfl rfl ?_
  refine vc_sr ?_
  refine vo ?_
  refine vnt ?_
  refine vc_seq' ?_
  refine vc_sv ?_
  refine svo ?_
  refine svo ?_
  refine svp [16, 16, 16, 24, 17, 2, 4, 31, 0] c_pick (fun x1 hx1 => ?_) 1000001
  refine svo ?_
  refine svnil ?_
  refine thn ?_
  refine vc_ret ?_
  refine fin_g (x1) (hx1) [] rfl (fz ?_) (fz ?_) <;> first | trivial | rfl | trace_state
set_option maxHeartbeats 4000000 in
theorem c_spec_l01Text {b : Nat} {v : Value} {code : List UInt8} {n : Int} (h0 : 0 ≤ n := by omega) (h1 : n ≤ 5000 := by omega) : ConC Tryz.prog 70 112 b v code [.int .i64 (n)] (α := ByteArray) (fun x => (x.size : Int) = n) (fun x => .one (.v (.string x))) (fun _ => []) := by
  refine conc_i Tryz.func70 Tryz.ntmps70 (fun L => ?_)
  refine vc_nf rfl rfl ?_
  refine vc_sr ?_
  refine vo ?_
  refine vnt ?_
  refine vc_seq' ?_
  refine vc_sr ?_
  iterate 2 refine vo ?_
  refine vnt ?_
  refine vc_if (fun g1 => ?_) (fun g1 => ?_)
  · exact absurd g1 (by omega)
  · refine vc_skip ?_
    refine thn ?_
    refine vc_sr ?_
    iterate 2 refine vo ?_
    refine vnt ?_
    refine vc_seq' ?_
    refine vc_sr ?_
    refine vo ?_
    refine vnt ?_
    refine vc_block ?_
    refine vc_lp (σ := List Int) [0, 1] [1000001, 1000003] (fun L => [(5, .one (.hs 7)), (6, I (L.length : Int))]) (fun L => [(7, .arr 5 1 (L.map byE))]) (fun L => (L.length : Int) ≤ n ∧ ∀ x ∈ L, 0 ≤ x ∧ x ≤ 255) (fun L => n.toNat - L.length) [] rfl rfl (sub_i [(7, some 72)] (fz ?_) (fz ?_)) ?_ fun L hL => ?_
    · first | trivial | rfl | trace_state
    · first | trivial | rfl | trace_state
    · exact ⟨h0, fun _ h => nomatch h⟩
    refine vc_nf rfl rfl ?_
    refine vc_seq' ?_
    refine vc_sr ?_
    iterate 3 refine vo ?_
    refine vnt ?_
    refine vc_if (fun g2 => ?_) (fun g2 => ?_)
    · refine vc_skip ?_
      refine thn ?_
      refine vc_seq' ?_
      refine vc_block ?_
      refine vc_sv ?_
      refine svo ?_
      refine svo ?_
      refine sve c_spec_l01Byte (fun x1 hx1 => ?_) 1000001
      refine svo ?_
      refine svo ?_
      refine svo ?_
      refine svo ?_
      refine svnil ?_
      refine inB_n ?_
      refine thn ?_
      refine vc_region ?_
      iterate 2 refine vo ?_
      try refine vwr ?_
      refine vo ?_
      refine vnt ?_
      have hle : (((L ++ [IntKind.u8.wrap x1]).length : Nat) : Int) = (L.length : Int) + 1 := by simp
      refine ⟨L ++ [IntKind.u8.wrap x1], ⟨by omega, fun y hy => ?_⟩, by omega, sub_i [(7, some 160)] (fz ?_) (fz ?_)⟩
      · rcases List.mem_append.1 hy with h | h
        · exact hL.2 y h
        · rw [List.mem_singleton.1 h, u8w (by omega) (by omega)]; omega
      · first | trivial | (rw [hle]; done) | trace_state
      · first | trivial | (rw [List.map_append]; rfl) | trace_state
    · have hle : (L.length : Int) = n := by omega
      have hok := okE_by hL.2
      refine vc_exit ?_
      refine thn_x ?_
      refine thn_x ?_
      refine inB_x ?_
      refine thn ?_
      refine vc_sr ?_
      iterate 3 refine vo ?_
      refine vnt ?_
      refine vc_ret ?_
      refine fin_g (ofE (L.map byE)) (by rw [ofE_by, strOfNums_size]; exact hle) [] rfl (fz ?_) (fz ?_) <;> first | trivial | rfl | trace_state
theorem seg_t {sp seq ack fl win w : Int} {n : Nat} (h1 : 0 ≤ sp ∧ sp ≤ 1) (h2 : seq ∈ ([0, 100, 4294967290, w] : List Int)) (hw : 0 ≤ w ∧ w ≤ 65535) (h3 : ack ∈ ([0, 5, 4294967295] : List Int)) (h4 : fl ∈ ([16, 16, 16, 24, 17, 2, 4, 31, 0] : List Int)) (h5 : win ∈ ([0, 512, 65535] : List Int)) (h6 : n ≤ 320) : segOkB 6 (1000 + sp) 80 seq ack fl win n = true := by
  simp only [List.mem_cons, List.not_mem_nil, or_false] at h2 h3 h4 h5
  unfold segOkB
  simp only [Bool.and_eq_true, Bool.or_eq_true, inB_iff, Bool.not_eq_true', decide_eq_false_iff_not, beq_iff_eq]
  refine ⟨⟨⟨by omega, by omega⟩, by omega⟩, .inl ⟨trivial, by omega, by omega, by omega, by omega⟩⟩
theorem seg_u {sp : Int} {n : Nat} (h1 : 0 ≤ sp ∧ sp ≤ 1) (h6 : n ≤ 320) : segOkB 17 (1000 + sp) 53 0 0 0 0 n = true := by
  unfold segOkB
  simp only [Bool.and_eq_true, Bool.or_eq_true, inB_iff, Bool.not_eq_true', decide_eq_false_iff_not, beq_iff_eq]
  refine ⟨⟨⟨by omega, by omega⟩, by omega⟩, .inr ⟨by decide, trivial, trivial, trivial, trivial, trivial⟩⟩
set_option maxHeartbeats 4000000 in
theorem c_spec_l06Segment {b : Nat} {v : Value} {code : List UInt8} {most : Int} (h0 : 0 ≤ most := by omega) (h1 : most ≤ 320 := by omega) : ConC Tryz.prog 103 112 b v code [.int .i64 (most)] (α := SegX) (fun x => segOkB x.kind x.sp x.dp x.seq x.ack x.fl x.win x.body.size = true ∧ (x.body.size : Int) ≤ most) (fun x => .agg [V (x).kind, V (x).sp, V (x).dp, V (x).seq, V (x).ack, V (x).fl, V (x).win, VS (x).body]) (fun _ => []) := by
  refine conc_i Tryz.func103 Tryz.ntmps103 (fun L => ?_)
  refine vc_nf rfl rfl ?_
  refine vc_sr ?_
  refine vo ?_
  refine vnt ?_
  refine vc_seq' ?_
  refine vc_sv ?_
  refine svo ?_
  refine sve (c_spec_l01Below (n := 2)) (fun x1 hx1 => ?_) 1000001
  refine svo ?_
  try refine svwr ?_
  refine svo ?_
  refine svo ?_
  refine sve (c_spec_l01Below (n := 65536)) (fun x2 hx2 => ?_) 1000001
  refine svo ?_
  refine svp [0, 100, 4294967290, x2] c_pick (fun x3 hx3 => ?_) 1000001
  refine svo ?_
  refine svo ?_
  refine svp [0, 5, 4294967295] c_pick (fun x4 hx4 => ?_) 1000001
  refine svo ?_
  refine sve c_spec_l06Flags (fun x5 hx5 => ?_) 1000001
  refine svo ?_
  refine svo ?_
  refine svp [0, 512, 65535] c_pick (fun x6 hx6 => ?_) 1000001
  refine svo ?_
  refine svo ?_
  refine svo ?_
  refine svnil ?_
  refine thn ?_
  refine vc_seq' ?_
  refine vc_sv ?_
  refine svo ?_
  refine svo ?_
  refine svo ?_
  refine svo ?_
  try refine svwr ?_
  refine sve (c_spec_l01Below (n := most + 1)) (fun x7 hx7 => ?_) 1000001
  refine sve (c_spec_l01Text (n := x7)) (fun x8 hx8 => ?_) 1000001
  refine svo ?_
  refine svo ?_
  refine svnil ?_
  refine thn ?_
  refine vc_seq' ?_
  refine vc_seq' ?_
  refine vc_sv ?_
  refine svo ?_
  refine sve (c_spec_l01Once (n := 4)) (fun x9 hx9 => ?_) 1000001
  refine svnil ?_
  refine thn ?_
  refine vc_if (fun g1 => ?_) (fun g1 => ?_)
  · refine vc_sr ?_
    iterate 6 refine vo ?_
    refine vnt ?_
    refine vc_ret ?_
    refine thn_r ?_
    have hsz : x8.size ≤ 320 := by omega
    have hsm : (x8.size : Int) ≤ most := by omega
    refine fin_g (⟨17, 1000 + x1, 53, 0, 0, 0, 0, x8⟩) (⟨seg_u hx1 hsz, hsm⟩) [] rfl (fz ?_) (fz ?_) <;> first | trivial | rfl | trace_state
  · refine vc_skip ?_
    refine thn ?_
    refine vc_sr ?_
    iterate 2 refine vo ?_
    refine vnt ?_
    refine vc_ret ?_
    have hsz : x8.size ≤ 320 := by omega
    have hsm : (x8.size : Int) ≤ most := by omega
    refine fin_g (⟨6, 1000 + x1, 80, x3, x4, x5, x6, x8⟩) (⟨seg_t hx1 hx3 (by omega) hx4 hx5 hx6 hsz, hsm⟩) [] rfl (fz ?_) (fz ?_) <;> first | trivial | rfl | trace_state
theorem seg_n {kind sp dp seq ack fl win : Int} {n m : Nat} (h : segOkB kind sp dp seq ack fl win n = true) (hm : m ≤ 320) : segOkB kind sp dp seq ack fl win m = true := by
  unfold segOkB at *
  simp only [Bool.and_eq_true, Bool.not_eq_true', decide_eq_false_iff_not] at h ⊢
  exact ⟨⟨h.1.1, by omega⟩, h.2⟩
theorem pk_sup {dm sm vl tos id ttl si kind sp dp seq ack fl win : Int} {n : Nat} (h1 : dm ∈ ([2, 2, 2, 4, 281474976710655] : List Int)) (h2 : sm ∈ ([6, 8] : List Int)) (h3 : vl ∈ ([-1, -1, 7] : List Int)) (h4 : tos ∈ ([0, 0, 255] : List Int)) (h5 : id ∈ ([1, 65535, 65534] : List Int)) (h6 : ttl ∈ ([64, 64, 255] : List Int)) (h7 : 167772161 ≤ si ∧ si ≤ 167772163) (h8 : segOkB kind sp dp seq ack fl win n = true) (h9 : n ≤ 128 ∨ kind = 6 ∧ streamB fl = true) : superOkB dm sm vl tos id ttl si 167772161 kind sp dp seq ack fl win n = true := by
  simp only [List.mem_cons, List.not_mem_nil, or_false] at h1 h2 h3 h4 h5 h6
  unfold superOkB
  simp only [Bool.and_eq_true, Bool.or_eq_true, inB_iff, Bool.not_eq_true', decide_eq_false_iff_not, beq_iff_eq]
  refine ⟨by omega, by omega, by omega, by omega, by omega, by omega, by omega, by omega, h8, h9.imp (by omega) (fun h => h)⟩
set_option maxHeartbeats 4000000 in
theorem c_spec_l07Packet {b : Nat} {v : Value} {code : List UInt8} {most : Int} (h0 : 0 ≤ most := by omega) (h1 : most ≤ 320 := by omega) : ConC Tryz.prog 67 112 b v code [.int .i64 (most)] (α := Pk) (fun x => x.sup = true ∧ (x.body.size : Int) ≤ most) (fun x => .agg [V (x).dm, V (x).sm, V (x).vl, V (x).tos, V (x).id, V (x).ttl, V (x).si, V (x).di, V (x).kind, V (x).sp, V (x).dp, V (x).seq, V (x).ack, V (x).fl, V (x).win, VS (x).body]) (fun _ => []) := by
  refine conc_i Tryz.func67 Tryz.ntmps67 (fun L => ?_)
  refine vc_nf rfl rfl ?_
  refine vc_sr ?_
  refine vo ?_
  refine vnt ?_
  refine vc_seq' ?_
  refine vc_sv ?_
  refine svo ?_
  refine svo ?_
  refine svp [2, 2, 2, 4, 281474976710655] c_pick (fun x1 hx1 => ?_) 1000001
  refine svo ?_
  refine svo ?_
  refine svp [6, 8] c_pick (fun x2 hx2 => ?_) 1000001
  refine svo ?_
  refine svo ?_
  refine svp [-1, -1, 7] c_pick (fun x3 hx3 => ?_) 1000001
  refine svo ?_
  refine svo ?_
  refine svp [0, 0, 255] c_pick (fun x4 hx4 => ?_) 1000001
  refine svo ?_
  refine svo ?_
  refine svp [1, 65535, 65534] c_pick (fun x5 hx5 => ?_) 1000001
  refine svo ?_
  refine svo ?_
  refine svp [64, 64, 255] c_pick (fun x6 hx6 => ?_) 1000001
  refine svo ?_
  refine sve c_spec_l06Host (fun x7 hx7 => ?_) 1000001
  refine svo ?_
  refine svo ?_
  refine svo ?_
  refine svnil ?_
  refine thn ?_
  refine vc_seq' ?_
  refine vc_sv ?_
  refine svo ?_
  refine svo ?_
  refine svo ?_
  refine sve (c_spec_l06Segment (most := min most 128)) (fun x8 hx8 => ?_) 1000001
  refine svo ?_
  refine svo ?_
  refine svnil ?_
  refine thn ?_
  refine vc_seq' ?_
  refine vc_seq' ?_
  refine vc_sv ?_
  refine svo ?_
  refine svo ?_
  refine svo ?_
  refine svo ?_
  refine svo ?_
  refine svsp (fun g1 => ?_) (fun g1 => ?_)
  · refine svon ?_
    refine svon ?_
    refine svon ?_
    refine svon ?_
    refine svon ?_
    refine svo ?_
    refine svo ?_
    refine svsp (fun g2 => ?_) (fun g2 => ?_)
    · refine svon ?_
      refine svon ?_
      refine svo ?_
      refine svo ?_
      refine svsp (fun g3 => ?_) (fun g3 => ?_)
      · refine svon ?_
        refine sven (c_spec_l01Once (n := 2)) (fun x9 hx9 => ?_) 1000001
        refine svo ?_
        refine svnil ?_
        refine thn ?_
        refine vc_if (fun g4 => ?_) (fun g4 => ?_)
        · refine vc_sv ?_
          refine svo ?_
          refine svo ?_
          refine svo ?_
          refine svo ?_
          try refine svwr ?_
          refine svo ?_
          try refine svwr ?_
          refine sve (c_spec_l01Below (n := most - 128 + 1)) (fun x10 hx10 => ?_) 1000001
          refine svo ?_
          try refine svwr ?_
          refine sve (c_spec_l01Text (n := 128 + x10)) (fun x11 hx11 => ?_) 1000001
          refine svo ?_
          refine svo ?_
          refine svo ?_
          refine svnil ?_
          refine thn ?_
          refine vc_sr ?_
          iterate 2 refine vo ?_
          refine vnt ?_
          refine vc_ret ?_
          have hx8b := segOk_fl hx8.1
          have hst : streamB x8.fl = true := by rw [← andnot9 hx8b.1 hx8b.2 rfl]; exact beq_iff_eq.2 g2
          have hsz : x11.size ≤ 320 := by omega
          have hsm : (x11.size : Int) ≤ most := by omega
          refine fin_g (⟨x1, x2, x3, x4, x5, x6, x7, 167772161, x8.kind, x8.sp, x8.dp, x8.seq, x8.ack, x8.fl, x8.win, x11⟩) (⟨pk_sup hx1 hx2 hx3 hx4 hx5 hx6 hx7 (seg_n hx8.1 hsz) (.inr ⟨g1, hst⟩), hsm⟩) [] rfl (fz ?_) (fz ?_) <;> first | trivial | rfl | trace_state
        · refine vc_skip ?_
          refine thn ?_
          refine vc_sr ?_
          iterate 2 refine vo ?_
          refine vnt ?_
          refine vc_ret ?_
          have hsz : x8.body.size ≤ 128 := by have := hx8.2; omega
          have hsm : (x8.body.size : Int) ≤ most := by have := hx8.2; omega
          refine fin_g (⟨x1, x2, x3, x4, x5, x6, x7, 167772161, x8.kind, x8.sp, x8.dp, x8.seq, x8.ack, x8.fl, x8.win, x8.body⟩) (⟨pk_sup hx1 hx2 hx3 hx4 hx5 hx6 hx7 hx8.1 (.inl hsz), hsm⟩) [] rfl (fz ?_) (fz ?_) <;> first | trivial | rfl | trace_state
      · refine svof ?_
        refine svof ?_
        refine svo ?_
        refine svnil ?_
        refine thn ?_
        refine vc_else ?_
        refine vc_skip ?_
        refine thn ?_
        refine vc_sr ?_
        iterate 2 refine vo ?_
        refine vnt ?_
        refine vc_ret ?_
        have hsz : x8.body.size ≤ 128 := by have := hx8.2; omega
        have hsm : (x8.body.size : Int) ≤ most := by have := hx8.2; omega
        refine fin_g (⟨x1, x2, x3, x4, x5, x6, x7, 167772161, x8.kind, x8.sp, x8.dp, x8.seq, x8.ack, x8.fl, x8.win, x8.body⟩) (⟨pk_sup hx1 hx2 hx3 hx4 hx5 hx6 hx7 hx8.1 (.inl hsz), hsm⟩) [] rfl (fz ?_) (fz ?_) <;> first | trivial | rfl | trace_state
    · refine svof ?_
      refine svof ?_
      refine svo ?_
      refine svo ?_
      refine svof ?_
      refine svof ?_
      refine svo ?_
      refine svnil ?_
      refine thn ?_
      refine vc_else ?_
      refine vc_skip ?_
      refine thn ?_
      refine vc_sr ?_
      iterate 2 refine vo ?_
      refine vnt ?_
      refine vc_ret ?_
      have hsz : x8.body.size ≤ 128 := by have := hx8.2; omega
      have hsm : (x8.body.size : Int) ≤ most := by have := hx8.2; omega
      refine fin_g (⟨x1, x2, x3, x4, x5, x6, x7, 167772161, x8.kind, x8.sp, x8.dp, x8.seq, x8.ack, x8.fl, x8.win, x8.body⟩) (⟨pk_sup hx1 hx2 hx3 hx4 hx5 hx6 hx7 hx8.1 (.inl hsz), hsm⟩) [] rfl (fz ?_) (fz ?_) <;> first | trivial | rfl | trace_state
  · refine svof ?_
    refine svof ?_
    refine svof ?_
    refine svof ?_
    refine svof ?_
    refine svo ?_
    refine svo ?_
    refine svof ?_
    refine svof ?_
    refine svo ?_
    refine svo ?_
    refine svof ?_
    refine svof ?_
    refine svo ?_
    refine svnil ?_
    refine thn ?_
    refine vc_else ?_
    refine vc_skip ?_
    refine thn ?_
    refine vc_sr ?_
    iterate 2 refine vo ?_
    refine vnt ?_
    refine vc_ret ?_
    have hsz : x8.body.size ≤ 128 := by have := hx8.2; omega
    have hsm : (x8.body.size : Int) ≤ most := by have := hx8.2; omega
    refine fin_g (⟨x1, x2, x3, x4, x5, x6, x7, 167772161, x8.kind, x8.sp, x8.dp, x8.seq, x8.ack, x8.fl, x8.win, x8.body⟩) (⟨pk_sup hx1 hx2 hx3 hx4 hx5 hx6 hx7 hx8.1 (.inl hsz), hsm⟩) [] rfl (fz ?_) (fz ?_) <;> first | trivial | rfl | trace_state
end Go.Proofs.YtfcmcedeapgdcaaGreat
end
section
namespace Go.Proofs.YtfcmcedeapgdcaaGreat
open Go Go.RowKit Go.Vc
set_option linter.unusedVariables false
set_option linter.unusedSimpArgs false
set_option linter.unnecessarySimpa false
theorem sup_tcp9 {p : Pk} (h : p.sup = true) (hk : p.kind = 6) {fl : Int} (hf : fl ∈ ([16, 16, 16, 16, 16, 24, 17, 2] : List Int)) {b : ByteArray} (hb : b.size ≤ 128) : ({ p with fl := fl, body := b } : Pk).sup = true := by
  unfold Pk.sup superOkB segOkB at *
  simp only [List.mem_cons, List.not_mem_nil, or_false] at hf
  simp only [Bool.and_eq_true, Bool.or_eq_true, inB_iff, Bool.not_eq_true', decide_eq_false_iff_not, beq_iff_eq] at h ⊢
  omega
theorem sup_id9 {p : Pk} (h : p.sup = true) : ({ p with id := (p.id + 1) % 65536 } : Pk).sup = true := by
  unfold Pk.sup superOkB at *
  simp only [Bool.and_eq_true, inB_iff] at h ⊢
  refine ⟨h.1, h.2.1, h.2.2.1, h.2.2.2.1, h.2.2.2.2.1, by omega, h.2.2.2.2.2.2⟩
theorem seg_sq9 {kind sp dp seq ack fl win : Int} {n : Nat} (h : segOkB kind sp dp seq ack fl win n = true) (hk : kind = 6) (m : Int) : segOkB kind sp dp ((seq + m) % 4294967296) ack fl win n = true := by
  unfold segOkB at *
  simp only [Bool.and_eq_true, Bool.or_eq_true, inB_iff, Bool.not_eq_true', decide_eq_false_iff_not, beq_iff_eq] at h ⊢
  omega
theorem sup_sq9 {p : Pk} (h : p.sup = true) (hk : p.kind = 6) (n : Int) : ({ p with seq := (p.seq + n) % 4294967296 } : Pk).sup = true := by
  unfold Pk.sup superOkB at *
  simp only [Bool.and_eq_true] at h ⊢
  exact ⟨h.1, h.2.1, h.2.2.1, h.2.2.2.1, h.2.2.2.2.1, h.2.2.2.2.2.1, h.2.2.2.2.2.2.1, h.2.2.2.2.2.2.2.1, seg_sq9 h.2.2.2.2.2.2.2.2.1 hk n, h.2.2.2.2.2.2.2.2.2⟩
theorem sup_sqb9 {p : Pk} (h : p.sup = true) : 0 ≤ p.seq ∧ p.seq ≤ 4294967295 ∧ 0 ≤ p.id ∧ p.id ≤ 65535 := by
  unfold Pk.sup superOkB segOkB at *
  simp only [Bool.and_eq_true, Bool.or_eq_true, inB_iff, Bool.not_eq_true', decide_eq_false_iff_not, beq_iff_eq] at h
  omega
structure L9 where
  (L : List Pk)
  (p : Pk)
  (size : Int)
  (k : Nat)
structure L9.ok (S : L9) (n : Nat) : Prop where
  len : S.L.length + S.k = n
  all : ∀ x ∈ S.L, x.ok = true
  sup : S.p.sup = true
  bd : S.p.body.size ≤ 40
  s0 : 1 ≤ S.size
  s1 : S.size ≤ 40
theorem pk_ok_of {p : Pk} (h : p.sup = true) (hb : p.body.size ≤ 40) : p.ok = true := by
  unfold Pk.ok
  rw [h, decide_eq_true (show p.body.size ≤ 128 by omega)]; rfl
theorem l9_stp {S : L9} {n k : Nat} (h : S.ok n) (hk : S.k = k + 1) {p p' : Pk} {z : Int} (hp : p.sup = true) (hb : p.body.size ≤ 40) (hp' : p'.sup = true) (hb' : p'.body.size ≤ 40) (z0 : 1 ≤ z) (z1 : z ≤ 40) : L9.ok ⟨S.L ++ [p], p', z, k⟩ n :=
  ⟨by have := h.len; show (S.L ++ [p]).length + k = n; simp; omega, fun x hx => by
    rcases List.mem_append.1 hx with hx | hx
    · exact h.all x hx
    · rw [List.mem_singleton.1 hx]; exact pk_ok_of hp hb, hp', hb', z0, z1⟩
set_option maxHeartbeats 4000000 in
theorem c_spec_l09List {b : Nat} {v : Value} {code : List UInt8} {most : Int} (h0 : 1 ≤ most := by omega) (h1 : most ≤ 10 := by omega) : ConC Tryz.prog 25 112 b v code [.int .i64 (most)] (α := List Pk) (fun x => (1 ≤ x.length ∧ (x.length : Int) ≤ most) ∧ ∀ p ∈ x, p.ok = true) (fun x => .one (.hs 0)) (fun x => [(0, .arr 35 16 (x.map pkE))]) := by
  refine conc_i Tryz.func25 Tryz.ntmps25 (fun L => ?_)
  refine vc_nf rfl rfl ?_
  refine vc_sr ?_
  refine vo ?_
  refine vnt ?_
  refine vc_sr ?_
  iterate 2 refine vo ?_
  refine vnt ?_
  refine vc_seq' ?_
  refine vc_sv ?_
  refine svo ?_
  refine sve (c_spec_l07Packet (most := 40)) (fun p1 hp1 => ?_) 1000001
  refine svo ?_
  refine svo ?_
  refine svnil ?_
  refine thn ?_
  refine vc_seq' ?_
  refine vc_sv ?_
  refine svo ?_
  refine sve (c_spec_l01Below (n := 3)) (fun z hz => ?_) 1000001
  refine svo ?_
  try refine svwr ?_
  refine svo ?_
  try refine svwr ?_
  refine svo ?_
  refine svnil ?_
  refine thn ?_
  refine vc_seq' ?_
  refine vc_seq' ?_
  refine vc_sv ?_
  refine svo ?_
  refine svo ?_
  refine sve (c_spec_l01Below (n := most)) (fun x hx => ?_) 1000001
  refine svo ?_
  try refine svwr ?_
  refine svo ?_
  refine svnil ?_
  refine thn ?_
  refine vc_block ?_
  refine vc_lp (σ := L9) [0, 6] [1000001, 1000003] (fun S => [(5, .one (.hs 7)), (7, I S.size), (8, I (S.k : Int))]) (fun S => [(7, .arr 35 16 (S.L.map pkE)), (48, .row 35 [V (S.p).dm, V (S.p).sm, V (S.p).vl, V (S.p).tos, V (S.p).id, V (S.p).ttl, V (S.p).si, V (S.p).di, V (S.p).kind, V (S.p).sp, V (S.p).dp, V (S.p).seq, V (S.p).ack, V (S.p).fl, V (S.p).win, VS (S.p).body])]) (fun S => S.ok (1 + x).toNat) (fun S => S.k) ⟨[], p1, 8 + z * 8, (1 + x).toNat⟩ rfl rfl (sub_i [(7, some 72), (48, some 48)] (fz ?_) (fz ?_)) ?_ fun S hI => ?_
  · first | trivial | rfl | (show ((1 + x : Int)) = (((1 + x).toNat : Nat) : Int); omega) | omega | trace_state
  · first | trivial | rfl | exact ⟨rfl, rfl⟩ | trace_state
  · exact ⟨by simp, (fun x hx => nomatch hx), hp1.1, by show p1.body.size ≤ 40; omega, by show 1 ≤ 8 + z * 8; omega, by show 8 + z * 8 ≤ 40; omega⟩
  refine vc_nf rfl rfl ?_
  have hs0 := hI.s0
  have hs1 := hI.s1
  have hlen := hI.len
  have hsb := sup_sqb9 hI.sup
  have hbd := hI.bd
  refine vc_seq' ?_
  refine vc_sr ?_
  iterate 2 refine vo ?_
  refine vnt ?_
  refine vc_if (fun g1 => ?_) (fun g1 => ?_)
  · refine vc_skip ?_
    refine thn ?_
    refine vc_seq' ?_
    refine vc_block ?_
    refine vc_seq' ?_
    refine vc_seq' ?_
    refine vc_sv ?_
    refine svo ?_
    refine sve (c_spec_l01Once (n := 5)) (fun o5 ho5 => ?_) 1000001
    refine svnil ?_
    refine thn ?_
    refine vc_if (fun g2 => ?_) (fun g2 => ?_)
    · refine vc_sv ?_
      refine svo ?_
      refine sve (c_spec_l07Packet (most := 40)) (fun p2 hp2 => ?_) 1000001
      have hp2b : p2.body.size ≤ 40 := by have := hp2.2; omega
      have hqb := sup_sqb9 hp2.1
      refine svo ?_
      refine svnil ?_
      refine thn ?_
      refine vc_seq' ?_
      refine vc_seq' ?_
      refine vc_sv ?_
      refine svo ?_
      refine sve (c_spec_l01Once (n := 6)) (fun o6 ho6 => ?_) 1000001
      refine svnil ?_
      refine thn ?_
      refine vc_if (fun g3 => ?_) (fun g3 => ?_)
      · refine vc_sv ?_
        refine svo ?_
        refine sve (c_spec_l01Below (n := 40)) (fun z2 hz2 => ?_) 1000001
        refine svo ?_
        try refine svwr ?_
        refine svo ?_
        refine svnil ?_
        refine thn ?_
        refine vc_seq' ?_
        refine vc_sr ?_
        iterate 4 refine vo ?_
        refine vnt ?_
        refine vc_if (fun g4 => ?_) (fun g4 => ?_)
        · refine vc_seq' ?_
          refine vc_sv ?_
          refine svo ?_
          refine svo ?_
          refine svp [16, 16, 16, 16, 16, 24, 17, 2] c_pick (fun fl hfl => ?_) 1000001
          refine svo ?_
          refine svo ?_
          refine svo ?_
          refine svnil ?_
          refine thn ?_
          refine vc_sv ?_
          refine svo ?_
          refine svo ?_
          refine sve (c_spec_l01Text (n := 1 + z2)) (fun tx htx => ?_) 1000001
          refine svo ?_
          refine svo ?_
          refine svo ?_
          refine svnil ?_
          refine thn ?_
          refine vc_sr ?_
          iterate 5 refine vo ?_
          refine vnt ?_
          refine vc_sr ?_
          iterate 3 refine vo ?_
          try refine vwr ?_
          refine vo ?_
          try refine veq (Int.tmod_eq_emod_of_nonneg (by omega)) ?_
          iterate 2 refine vo ?_
          refine vnt ?_
          refine vc_seq' ?_
          refine vc_sv ?_
          refine svo ?_
          refine svo ?_
          refine svo ?_
          refine svo ?_
          refine svsp (fun h9 => ?_) (fun h9 => absurd g4 h9)
          refine svo ?_
          refine svon ?_
          refine sven (c_spec_l01Once (n := 8)) (fun o8 ho8 => ?_) 1000001
          refine svon ?_
          refine svo ?_
          refine svnil ?_
          refine thn ?_
          refine vc_if (fun g5 => ?_) (fun g5 => ?_)
          · refine vc_region ?_
            iterate 8 refine vo ?_
            try refine vwr ?_
            refine vo ?_
            try refine veq (Int.tmod_eq_emod_of_nonneg (by omega)) ?_
            iterate 3 refine vo ?_
            refine vnil ?_
            refine inB_n ?_
            refine thn ?_
            refine vc_region ?_
            iterate 2 refine vo ?_
            try refine vwr ?_
            refine vo ?_
            refine vnt ?_
            have htz : tx.size ≤ 40 := by omega
            have hP1 := sup_tcp9 (p := p2) hp2.1 g4 hfl (b := tx) (by omega)
            have hP2 := sup_id9 hP1
            have hP3 := sup_sq9 hP2 g4 (tx.size : Nat)
            refine ⟨⟨S.L ++ [{ p2 with fl := fl, body := tx }], { ({ ({ p2 with fl := fl, body := tx } : Pk) with id := ((p2).id + 1) % 65536 } : Pk) with seq := ((p2).seq + (tx.size : Nat)) % 4294967296 }, 1 + z2, S.k - 1⟩, l9_stp hI (show S.k = S.k - 1 + 1 by omega) hP1 htz hP3 htz (by omega) (by omega), by show S.k - 1 < S.k; omega, sub_i [(7, some 400), (48, some 48)] (fz ?_) (fz ?_)⟩
            · have hkk : 0 < S.k := by omega
              omega
            · rw [List.map_append]; rfl
          · refine vc_skip ?_
            refine inB_n ?_
            refine thn ?_
            refine vc_region ?_
            iterate 2 refine vo ?_
            try refine vwr ?_
            refine vo ?_
            refine vnt ?_
            have htz : tx.size ≤ 40 := by omega
            have hP1 := sup_tcp9 (p := p2) hp2.1 g4 hfl (b := tx) (by omega)
            have hP2 := sup_id9 hP1
            refine ⟨⟨S.L ++ [{ p2 with fl := fl, body := tx }], { ({ p2 with fl := fl, body := tx } : Pk) with id := ((p2).id + 1) % 65536 }, 1 + z2, S.k - 1⟩, l9_stp hI (show S.k = S.k - 1 + 1 by omega) hP1 htz hP2 htz (by omega) (by omega), by show S.k - 1 < S.k; omega, sub_i [(7, some 400), (48, some 48)] (fz ?_) (fz ?_)⟩
            · have hkk : 0 < S.k := by omega
              omega
            · rw [List.map_append]; rfl
        · refine vc_skip ?_
          refine thn ?_
          refine vc_sr ?_
          iterate 5 refine vo ?_
          refine vnt ?_
          refine vc_sr ?_
          iterate 3 refine vo ?_
          try refine vwr ?_
          refine vo ?_
          try refine veq (Int.tmod_eq_emod_of_nonneg (by omega)) ?_
          iterate 2 refine vo ?_
          refine vnt ?_
          refine vc_seq' ?_
          refine vc_sv ?_
          refine svo ?_
          refine svo ?_
          refine svo ?_
          refine svo ?_
          refine svsp (fun h9 => absurd h9 g4) (fun h9 => ?_)
          refine svo ?_
          refine svof ?_
          refine svof ?_
          refine svof ?_
          refine svo ?_
          refine svnil ?_
          refine thn ?_
          refine vc_else ?_
          refine vc_skip ?_
          refine inB_n ?_
          refine thn ?_
          refine vc_region ?_
          iterate 2 refine vo ?_
          try refine vwr ?_
          refine vo ?_
          refine vnt ?_
          have hP2 := sup_id9 hp2.1
          refine ⟨⟨S.L ++ [p2], { (p2 : Pk) with id := ((p2).id + 1) % 65536 }, 1 + z2, S.k - 1⟩, l9_stp hI (show S.k = S.k - 1 + 1 by omega) hp2.1 hp2b hP2 hp2b (by omega) (by omega), by show S.k - 1 < S.k; omega, sub_i [(7, some 400), (48, some 48)] (fz ?_) (fz ?_)⟩
          · have hkk : 0 < S.k := by omega
            omega
          · rw [List.map_append]; rfl
      · refine vc_skip ?_
        refine thn ?_
        refine vc_seq' ?_
        refine vc_sr ?_
        iterate 4 refine vo ?_
        refine vnt ?_
        refine vc_if (fun g6 => ?_) (fun g6 => ?_)
        · refine vc_seq' ?_
          refine vc_sv ?_
          refine svo ?_
          refine svo ?_
          refine svp [16, 16, 16, 16, 16, 24, 17, 2] c_pick (fun fl hfl => ?_) 1000001
          refine svo ?_
          refine svo ?_
          refine svo ?_
          refine svnil ?_
          refine thn ?_
          refine vc_sv ?_
          refine svo ?_
          refine svo ?_
          refine sve (c_spec_l01Text (n := S.size)) (fun tx htx => ?_) 1000001
          refine svo ?_
          refine svo ?_
          refine svo ?_
          refine svnil ?_
          refine thn ?_
          refine vc_sr ?_
          iterate 5 refine vo ?_
          refine vnt ?_
          refine vc_sr ?_
          iterate 3 refine vo ?_
          try refine vwr ?_
          refine vo ?_
          try refine veq (Int.tmod_eq_emod_of_nonneg (by omega)) ?_
          iterate 2 refine vo ?_
          refine vnt ?_
          refine vc_seq' ?_
          refine vc_sv ?_
          refine svo ?_
          refine svo ?_
          refine svo ?_
          refine svo ?_
          refine svsp (fun h9 => ?_) (fun h9 => absurd g6 h9)
          refine svo ?_
          refine svon ?_
          refine sven (c_spec_l01Once (n := 8)) (fun o8 ho8 => ?_) 1000001
          refine svon ?_
          refine svo ?_
          refine svnil ?_
          refine thn ?_
          refine vc_if (fun g7 => ?_) (fun g7 => ?_)
          · refine vc_region ?_
            iterate 8 refine vo ?_
            try refine vwr ?_
            refine vo ?_
            try refine veq (Int.tmod_eq_emod_of_nonneg (by omega)) ?_
            iterate 3 refine vo ?_
            refine vnil ?_
            refine inB_n ?_
            refine thn ?_
            refine vc_region ?_
            iterate 2 refine vo ?_
            try refine vwr ?_
            refine vo ?_
            refine vnt ?_
            have htz : tx.size ≤ 40 := by omega
            have hP1 := sup_tcp9 (p := p2) hp2.1 g6 hfl (b := tx) (by omega)
            have hP2 := sup_id9 hP1
            have hP3 := sup_sq9 hP2 g6 (tx.size : Nat)
            refine ⟨⟨S.L ++ [{ p2 with fl := fl, body := tx }], { ({ ({ p2 with fl := fl, body := tx } : Pk) with id := ((p2).id + 1) % 65536 } : Pk) with seq := ((p2).seq + (tx.size : Nat)) % 4294967296 }, S.size, S.k - 1⟩, l9_stp hI (show S.k = S.k - 1 + 1 by omega) hP1 htz hP3 htz (by omega) (by omega), by show S.k - 1 < S.k; omega, sub_i [(7, some 400), (48, some 48)] (fz ?_) (fz ?_)⟩
            · have hkk : 0 < S.k := by omega
              omega
            · rw [List.map_append]; rfl
          · refine vc_skip ?_
            refine inB_n ?_
            refine thn ?_
            refine vc_region ?_
            iterate 2 refine vo ?_
            try refine vwr ?_
            refine vo ?_
            refine vnt ?_
            have htz : tx.size ≤ 40 := by omega
            have hP1 := sup_tcp9 (p := p2) hp2.1 g6 hfl (b := tx) (by omega)
            have hP2 := sup_id9 hP1
            refine ⟨⟨S.L ++ [{ p2 with fl := fl, body := tx }], { ({ p2 with fl := fl, body := tx } : Pk) with id := ((p2).id + 1) % 65536 }, S.size, S.k - 1⟩, l9_stp hI (show S.k = S.k - 1 + 1 by omega) hP1 htz hP2 htz (by omega) (by omega), by show S.k - 1 < S.k; omega, sub_i [(7, some 400), (48, some 48)] (fz ?_) (fz ?_)⟩
            · have hkk : 0 < S.k := by omega
              omega
            · rw [List.map_append]; rfl
        · refine vc_skip ?_
          refine thn ?_
          refine vc_sr ?_
          iterate 5 refine vo ?_
          refine vnt ?_
          refine vc_sr ?_
          iterate 3 refine vo ?_
          try refine vwr ?_
          refine vo ?_
          try refine veq (Int.tmod_eq_emod_of_nonneg (by omega)) ?_
          iterate 2 refine vo ?_
          refine vnt ?_
          refine vc_seq' ?_
          refine vc_sv ?_
          refine svo ?_
          refine svo ?_
          refine svo ?_
          refine svo ?_
          refine svsp (fun h9 => absurd h9 g6) (fun h9 => ?_)
          refine svo ?_
          refine svof ?_
          refine svof ?_
          refine svof ?_
          refine svo ?_
          refine svnil ?_
          refine thn ?_
          refine vc_else ?_
          refine vc_skip ?_
          refine inB_n ?_
          refine thn ?_
          refine vc_region ?_
          iterate 2 refine vo ?_
          try refine vwr ?_
          refine vo ?_
          refine vnt ?_
          have hP2 := sup_id9 hp2.1
          refine ⟨⟨S.L ++ [p2], { (p2 : Pk) with id := ((p2).id + 1) % 65536 }, S.size, S.k - 1⟩, l9_stp hI (show S.k = S.k - 1 + 1 by omega) hp2.1 hp2b hP2 hp2b (by omega) (by omega), by show S.k - 1 < S.k; omega, sub_i [(7, some 400), (48, some 48)] (fz ?_) (fz ?_)⟩
          · have hkk : 0 < S.k := by omega
            omega
          · rw [List.map_append]; rfl
    · refine vc_skip ?_
      refine thn ?_
      refine vc_seq' ?_
      refine vc_seq' ?_
      refine vc_sv ?_
      refine svo ?_
      refine sve (c_spec_l01Once (n := 6)) (fun o6 ho6 => ?_) 1000001
      refine svnil ?_
      refine thn ?_
      refine vc_if (fun g8 => ?_) (fun g8 => ?_)
      · refine vc_sv ?_
        refine svo ?_
        refine sve (c_spec_l01Below (n := 40)) (fun z2 hz2 => ?_) 1000001
        refine svo ?_
        try refine svwr ?_
        refine svo ?_
        refine svnil ?_
        refine thn ?_
        refine vc_seq' ?_
        refine vc_sr ?_
        iterate 4 refine vo ?_
        refine vnt ?_
        refine vc_if (fun g9 => ?_) (fun g9 => ?_)
        · refine vc_seq' ?_
          refine vc_sv ?_
          refine svo ?_
          refine svo ?_
          refine svp [16, 16, 16, 16, 16, 24, 17, 2] c_pick (fun fl hfl => ?_) 1000001
          refine svo ?_
          refine svo ?_
          refine svo ?_
          refine svnil ?_
          refine thn ?_
          refine vc_sv ?_
          refine svo ?_
          refine svo ?_
          refine sve (c_spec_l01Text (n := 1 + z2)) (fun tx htx => ?_) 1000001
          refine svo ?_
          refine svo ?_
          refine svo ?_
          refine svnil ?_
          refine thn ?_
          refine vc_sr ?_
          iterate 5 refine vo ?_
          refine vnt ?_
          refine vc_sr ?_
          iterate 3 refine vo ?_
          try refine vwr ?_
          refine vo ?_
          try refine veq (Int.tmod_eq_emod_of_nonneg (by omega)) ?_
          iterate 2 refine vo ?_
          refine vnt ?_
          refine vc_seq' ?_
          refine vc_sv ?_
          refine svo ?_
          refine svo ?_
          refine svo ?_
          refine svo ?_
          refine svsp (fun h9 => ?_) (fun h9 => absurd g9 h9)
          refine svo ?_
          refine svon ?_
          refine sven (c_spec_l01Once (n := 8)) (fun o8 ho8 => ?_) 1000001
          refine svon ?_
          refine svo ?_
          refine svnil ?_
          refine thn ?_
          refine vc_if (fun g10 => ?_) (fun g10 => ?_)
          · refine vc_region ?_
            iterate 8 refine vo ?_
            try refine vwr ?_
            refine vo ?_
            try refine veq (Int.tmod_eq_emod_of_nonneg (by omega)) ?_
            iterate 3 refine vo ?_
            refine vnil ?_
            refine inB_n ?_
            refine thn ?_
            refine vc_region ?_
            iterate 2 refine vo ?_
            try refine vwr ?_
            refine vo ?_
            refine vnt ?_
            have htz : tx.size ≤ 40 := by omega
            have hP1 := sup_tcp9 (p := S.p) hI.sup g9 hfl (b := tx) (by omega)
            have hP2 := sup_id9 hP1
            have hP3 := sup_sq9 hP2 g9 (tx.size : Nat)
            refine ⟨⟨S.L ++ [{ S.p with fl := fl, body := tx }], { ({ ({ S.p with fl := fl, body := tx } : Pk) with id := ((S.p).id + 1) % 65536 } : Pk) with seq := ((S.p).seq + (tx.size : Nat)) % 4294967296 }, 1 + z2, S.k - 1⟩, l9_stp hI (show S.k = S.k - 1 + 1 by omega) hP1 htz hP3 htz (by omega) (by omega), by show S.k - 1 < S.k; omega, sub_i [(7, some 400), (48, some 48)] (fz ?_) (fz ?_)⟩
            · have hkk : 0 < S.k := by omega
              omega
            · rw [List.map_append]; rfl
          · refine vc_skip ?_
            refine inB_n ?_
            refine thn ?_
            refine vc_region ?_
            iterate 2 refine vo ?_
            try refine vwr ?_
            refine vo ?_
            refine vnt ?_
            have htz : tx.size ≤ 40 := by omega
            have hP1 := sup_tcp9 (p := S.p) hI.sup g9 hfl (b := tx) (by omega)
            have hP2 := sup_id9 hP1
            refine ⟨⟨S.L ++ [{ S.p with fl := fl, body := tx }], { ({ S.p with fl := fl, body := tx } : Pk) with id := ((S.p).id + 1) % 65536 }, 1 + z2, S.k - 1⟩, l9_stp hI (show S.k = S.k - 1 + 1 by omega) hP1 htz hP2 htz (by omega) (by omega), by show S.k - 1 < S.k; omega, sub_i [(7, some 400), (48, some 48)] (fz ?_) (fz ?_)⟩
            · have hkk : 0 < S.k := by omega
              omega
            · rw [List.map_append]; rfl
        · refine vc_skip ?_
          refine thn ?_
          refine vc_sr ?_
          iterate 5 refine vo ?_
          refine vnt ?_
          refine vc_sr ?_
          iterate 3 refine vo ?_
          try refine vwr ?_
          refine vo ?_
          try refine veq (Int.tmod_eq_emod_of_nonneg (by omega)) ?_
          iterate 2 refine vo ?_
          refine vnt ?_
          refine vc_seq' ?_
          refine vc_sv ?_
          refine svo ?_
          refine svo ?_
          refine svo ?_
          refine svo ?_
          refine svsp (fun h9 => absurd h9 g9) (fun h9 => ?_)
          refine svo ?_
          refine svof ?_
          refine svof ?_
          refine svof ?_
          refine svo ?_
          refine svnil ?_
          refine thn ?_
          refine vc_else ?_
          refine vc_skip ?_
          refine inB_n ?_
          refine thn ?_
          refine vc_region ?_
          iterate 2 refine vo ?_
          try refine vwr ?_
          refine vo ?_
          refine vnt ?_
          have hP2 := sup_id9 hI.sup
          refine ⟨⟨S.L ++ [S.p], { (S.p : Pk) with id := ((S.p).id + 1) % 65536 }, 1 + z2, S.k - 1⟩, l9_stp hI (show S.k = S.k - 1 + 1 by omega) hI.sup hI.bd hP2 hI.bd (by omega) (by omega), by show S.k - 1 < S.k; omega, sub_i [(7, some 400), (48, some 48)] (fz ?_) (fz ?_)⟩
          · have hkk : 0 < S.k := by omega
            omega
          · rw [List.map_append]; rfl
      · refine vc_skip ?_
        refine thn ?_
        refine vc_seq' ?_
        refine vc_sr ?_
        iterate 4 refine vo ?_
        refine vnt ?_
        refine vc_if (fun g11 => ?_) (fun g11 => ?_)
        · refine vc_seq' ?_
          refine vc_sv ?_
          refine svo ?_
          refine svo ?_
          refine svp [16, 16, 16, 16, 16, 24, 17, 2] c_pick (fun fl hfl => ?_) 1000001
          refine svo ?_
          refine svo ?_
          refine svo ?_
          refine svnil ?_
          refine thn ?_
          refine vc_sv ?_
          refine svo ?_
          refine svo ?_
          refine sve (c_spec_l01Text (n := S.size)) (fun tx htx => ?_) 1000001
          refine svo ?_
          refine svo ?_
          refine svo ?_
          refine svnil ?_
          refine thn ?_
          refine vc_sr ?_
          iterate 5 refine vo ?_
          refine vnt ?_
          refine vc_sr ?_
          iterate 3 refine vo ?_
          try refine vwr ?_
          refine vo ?_
          try refine veq (Int.tmod_eq_emod_of_nonneg (by omega)) ?_
          iterate 2 refine vo ?_
          refine vnt ?_
          refine vc_seq' ?_
          refine vc_sv ?_
          refine svo ?_
          refine svo ?_
          refine svo ?_
          refine svo ?_
          refine svsp (fun h9 => ?_) (fun h9 => absurd g11 h9)
          refine svo ?_
          refine svon ?_
          refine sven (c_spec_l01Once (n := 8)) (fun o8 ho8 => ?_) 1000001
          refine svon ?_
          refine svo ?_
          refine svnil ?_
          refine thn ?_
          refine vc_if (fun g12 => ?_) (fun g12 => ?_)
          · refine vc_region ?_
            iterate 8 refine vo ?_
            try refine vwr ?_
            refine vo ?_
            try refine veq (Int.tmod_eq_emod_of_nonneg (by omega)) ?_
            iterate 3 refine vo ?_
            refine vnil ?_
            refine inB_n ?_
            refine thn ?_
            refine vc_region ?_
            iterate 2 refine vo ?_
            try refine vwr ?_
            refine vo ?_
            refine vnt ?_
            have htz : tx.size ≤ 40 := by omega
            have hP1 := sup_tcp9 (p := S.p) hI.sup g11 hfl (b := tx) (by omega)
            have hP2 := sup_id9 hP1
            have hP3 := sup_sq9 hP2 g11 (tx.size : Nat)
            refine ⟨⟨S.L ++ [{ S.p with fl := fl, body := tx }], { ({ ({ S.p with fl := fl, body := tx } : Pk) with id := ((S.p).id + 1) % 65536 } : Pk) with seq := ((S.p).seq + (tx.size : Nat)) % 4294967296 }, S.size, S.k - 1⟩, l9_stp hI (show S.k = S.k - 1 + 1 by omega) hP1 htz hP3 htz (by omega) (by omega), by show S.k - 1 < S.k; omega, sub_i [(7, some 400), (48, some 48)] (fz ?_) (fz ?_)⟩
            · have hkk : 0 < S.k := by omega
              omega
            · rw [List.map_append]; rfl
          · refine vc_skip ?_
            refine inB_n ?_
            refine thn ?_
            refine vc_region ?_
            iterate 2 refine vo ?_
            try refine vwr ?_
            refine vo ?_
            refine vnt ?_
            have htz : tx.size ≤ 40 := by omega
            have hP1 := sup_tcp9 (p := S.p) hI.sup g11 hfl (b := tx) (by omega)
            have hP2 := sup_id9 hP1
            refine ⟨⟨S.L ++ [{ S.p with fl := fl, body := tx }], { ({ S.p with fl := fl, body := tx } : Pk) with id := ((S.p).id + 1) % 65536 }, S.size, S.k - 1⟩, l9_stp hI (show S.k = S.k - 1 + 1 by omega) hP1 htz hP2 htz (by omega) (by omega), by show S.k - 1 < S.k; omega, sub_i [(7, some 400), (48, some 48)] (fz ?_) (fz ?_)⟩
            · have hkk : 0 < S.k := by omega
              omega
            · rw [List.map_append]; rfl
        · refine vc_skip ?_
          refine thn ?_
          refine vc_sr ?_
          iterate 5 refine vo ?_
          refine vnt ?_
          refine vc_sr ?_
          iterate 3 refine vo ?_
          try refine vwr ?_
          refine vo ?_
          try refine veq (Int.tmod_eq_emod_of_nonneg (by omega)) ?_
          iterate 2 refine vo ?_
          refine vnt ?_
          refine vc_seq' ?_
          refine vc_sv ?_
          refine svo ?_
          refine svo ?_
          refine svo ?_
          refine svo ?_
          refine svsp (fun h9 => absurd h9 g11) (fun h9 => ?_)
          refine svo ?_
          refine svof ?_
          refine svof ?_
          refine svof ?_
          refine svo ?_
          refine svnil ?_
          refine thn ?_
          refine vc_else ?_
          refine vc_skip ?_
          refine inB_n ?_
          refine thn ?_
          refine vc_region ?_
          iterate 2 refine vo ?_
          try refine vwr ?_
          refine vo ?_
          refine vnt ?_
          have hP2 := sup_id9 hI.sup
          refine ⟨⟨S.L ++ [S.p], { (S.p : Pk) with id := ((S.p).id + 1) % 65536 }, S.size, S.k - 1⟩, l9_stp hI (show S.k = S.k - 1 + 1 by omega) hI.sup hI.bd hP2 hI.bd (by omega) (by omega), by show S.k - 1 < S.k; omega, sub_i [(7, some 400), (48, some 48)] (fz ?_) (fz ?_)⟩
          · have hkk : 0 < S.k := by omega
            omega
          · rw [List.map_append]; rfl
  · refine vc_exit ?_
    refine thn_x ?_
    refine thn_x ?_
    refine inB_x ?_
    refine thn ?_
    refine vc_sr ?_
    iterate 2 refine vo ?_
    refine vnt ?_
    refine vc_ret ?_
    have hlen := hI.len
    have hk0 : S.k = 0 := by omega
    refine fin_g (S.L) (⟨by omega, hI.all⟩) [(1000001, some 1000001), (1000003, some 1000003), (0, some 7)] rfl (fz ?_) (fz ?_) <;> first | trivial | rfl | trace_state
set_option maxHeartbeats 4000000 in
theorem c_spec_l11Key {b : Nat} {v : Value} {code : List UInt8}  : ConC Tryz.prog 26 112 b v code [] (α := ByteArray) (fun x => x.size = 16) (fun x => .one (.v (.string x))) (fun _ => []) := by
  refine conc_i Tryz.func26 Tryz.ntmps26 (fun L => ?_)
  refine vc_nf rfl rfl ?_
  refine vc_sr ?_
  refine vo ?_
  refine vnt ?_
  refine vc_seq' ?_
  refine vc_sv ?_
  refine svo ?_
  refine sve (c_spec_l01Text (n := 16)) (fun x1 hx1 => ?_) 1000001
  refine svo ?_
  refine svnil ?_
  refine thn ?_
  refine vc_ret ?_
  refine fin_g (x1) (by omega) [] rfl (fz ?_) (fz ?_) <;> first | trivial | rfl | trace_state
end Go.Proofs.YtfcmcedeapgdcaaGreat
end
section
namespace Go.Vc
open Go Go.RowKit
set_option linter.unusedVariables false
set_option linter.unusedSectionVars false
end Go.Vc
end
section
namespace Go.Vc
open Go Go.RowKit
set_option linter.unusedVariables false
set_option linter.unusedSectionVars false
set_option linter.unusedSimpArgs false
def strQ (Φ : ByteArray → Prop) : RdP := vQ fun u => ∃ s, Φ s ∧ u = .string s
section
variable {P : Program} [TyEnv P] {n : Nat} {ops os : List Oper} {K : Tm → Hp → Prop} {t t' : Tm} {H H' : Hp} {o : Oper} {k1 k2 : List Nat}
theorem tri_drawS {f : FuncId} {c : Operand} {xs : List Operand} {ats : Array TypeId} {CT : TypeId} {b kc : Nat} {rd : Nat → AV} {v : Value} {code : List UInt8} {us : List Value} {Φ : ByteArray → Prop} (ho : o.op = .call { callee := .value (.func f), args := (c :: xs).toArray, argTypes := ats }) (hc : ConC P f CT b v code us Φ (fun s => .one (.v (.string s))) (fun _ => [])) (hx : evo rd c = .one (.rd (cpQ b v code))) (hy : xs.map (evo rd) = us.map (fun u => .one (.v u))) :
    Tri P o rd [(kc, .own (cuOw CT b v code.length))] (.one (.rd (strQ Φ))) [] := by
  intro w0 w ρ n t H a Q hr ht hrs hfr hd
  refine hr.draw (d := 0) ho hc ?_ ?_ (hrs kc _ (List.mem_cons_self ..)) (fun x k b hb => by cases hb) hd fun x ρ' a' w' hΦ h' => ⟨ρ', ?_⟩
  · rw [evo_of (o := o) (by simp [ho, Op.operands, Call.operands]) ht]; exact hx
  · refine (List.map_congr_left fun y hy' => ?_).trans hy
    exact evo_of (o := o) (by simp [ho, Op.operands, Call.operands]; exact .inr (.inr hy')) ht
  · refine ⟨h'.sz, h'.df, fun k => ?_, h'.hp, h'.nd⟩
    have := h'.tm k
    rw [gt_putT] at this ⊢
    split
    · rename_i e
      rw [if_pos e] at this
      obtain ⟨q1, q2⟩ := this
      exact ⟨⟨x, hΦ, q1⟩, by rw [q1]; rfl⟩
    · rename_i e
      rw [if_neg e] at this
      exact this
theorem vds {dr : Bool} {fp : List Fp} {f : FuncId} {c : Operand} {xs : List Operand} {ats : Array TypeId} {CT : TypeId} {b : Nat} {v : Value} {code : List UInt8} {us : List Value} {Φ : ByteArray → Prop} (hc : ConC P f CT b v code us Φ (fun s => .one (.v (.string s))) (fun _ => [])) (h : Vd P n ops dr K os t' H' ((k1, k2) :: fp)) (kc : Nat) (hd : dstB o.dst n = true := by rfl) (hg : o.guard = none := by rfl) (ho : o.op = .call { callee := .value (.func f), args := (c :: xs).toArray, argTypes := ats } := by rfl) (hx : evo (gt t) c = .one (.rd (cpQ b v code)) := by rfl) (hy : xs.map (evo (gt t)) = us.map (fun u => .one (.v u)) := by rfl) (hk : lk H kc = some (.own (cuOw CT b v code.length)) := by rfl)
    (ht : stF o.dst (.one (.rd (strQ Φ))) [] [(kc, .own (cuOw CT b v code.length))] t H = some (t', H', k1, k2) := by rfl) : Vd P n ops dr K (o :: os) t H fp :=
  vd_plain hd hg (goodr (tri_drawS ho hc hx hy) hk) ht h
theorem vc_es {K : Post} {c : Code} {d : Nat} {Φ : ByteArray → Prop} (h : ∀ s, Φ s → VC P n c K ((d, .one (.v (.string s))) :: t) H) (hx : gt t d = .one (.rd (strQ Φ)) := by rfl) : VC P n c K t H := fun w0 w ρ a hr => by
  have h1 := hr.tm d
  rw [hx] at h1
  obtain ⟨⟨s, hs, hu⟩, _⟩ := h1
  refine h s hs w0 w ρ a ⟨hr.sz, hr.df, fun k => ?_, hr.hp, hr.nd⟩
  simp only [gt]
  split
  · rename_i e; subst e; exact ⟨hu, rfl⟩
  · exact hr.tm k
end
def exOw {α : Type} (E : TypeId) (sz : Nat) (Φ : α → Prop) (g : α → List (List Value)) : OwP where
  A u := { P := fun w F => ∃ x, Φ x ∧ (∀ e ∈ g x, e.length = sz ∧ e.all (·.oneCell') = true) ∧ (slotA E sz u (g x).length (g x).flatten).P w F
           stable := fun ⟨x, h1, h2, h3⟩ hs => ⟨x, h1, h2, (slotA E sz u (g x).length (g x).flatten).stable h3 hs⟩
           lt := fun ⟨x, h1, h2, h3⟩ => (slotA E sz u (g x).length (g x).flatten).lt h3 }
  Q := vQ fun _ => True
  rd := by
    rintro w F u ⟨x, h1, h2, h3⟩
    obtain ⟨_, ⟨rfl, _⟩ | ⟨b, off, cap, cur, rfl, _⟩⟩ := h3.1 <;> exact ⟨trivial, rfl⟩
section
variable {P : Program} [TyEnv P] {n : Nat} {t : Tm} {H : Hp}
theorem vc_eo {α : Type} {K : Post} {c : Code} {k : Nat} {E : TypeId} {sz : Nat} {Φ : α → Prop} {g : α → List (List Value)} (h : ∀ x, Φ x → VC P n c K t (updH H [(k, .arr E sz (g x))])) (hk : lk H k = some (.own (exOw E sz Φ g)) := by rfl) : VC P n c K t H := fun w0 w ρ a hr => by
  obtain ⟨Bs, b1, b2⟩ := hr.hp
  have p1 : H.Perm ((k, .own (exOw E sz Φ g)) :: offK k H) := by have := upd1_perm (.own (exOw E sz Φ g)) hr.nd hk; rwa [upd1_same hk] at this
  obtain ⟨Ds, d1, d2⟩ := F2.perm p1 b1
  cases d2 with
  | @cons _ X _ Es x1 x2 =>
    have hX : X = (exOw E sz Φ g).A (ρ k) := x1
    subst hX
    have s1 : St w0 w ((exOw E sz Φ g).A (ρ k) :: Es) := St.perm b2 d1
    obtain ⟨hx0, F, ⟨F1, F2', ⟨x, hΦ, hes, hp⟩, f2, f3, f4⟩, f5⟩ := s1
    have s2 : St w0 w (slotA E sz (ρ k) (g x).length (g x).flatten :: Es) := ⟨hx0, F, ⟨F1, F2', hp, f2, f3, f4⟩, f5⟩
    have hD : ∀ j, dom H j → dom (upd1 k (.arr E sz (g x)) H) j ∧ ρ j = ρ j := fun j hj => ⟨dom_upd1.2 (.inr hj), rfl⟩
    have p2 := upd1_perm (.arr E sz (g x)) hr.nd hk
    have hmem : ∀ y : Nat × Blk, y ∈ offK k H → dom H y.1 := fun y hy => by
      have hy' : y ∈ H := (List.mem_filter.1 hy).1
      exact dom_mem.2 (List.mem_map_of_mem (f := fun z : Nat × Blk => z.1) hy')
    have F3 : F2 (BR w0 (dom (upd1 k (.arr E sz (g x)) H)) ρ) ((k, .arr E sz (g x)) :: offK k H) (slotA E sz (ρ k) (g x).length (g x).flatten :: Es) := .cons ⟨hes, rfl⟩ (x2.mono fun y _ hy r => BR.ext hD (hmem y hy) r)
    obtain ⟨Cs, c2, c1⟩ := F2.perm p2.symm F3
    exact h x hΦ w0 w ρ a ⟨hr.sz, hr.df, fun i => (hr.tm i).ext hD, ⟨Cs, c1, St.perm s2 c2⟩, nd_upd1 _ _ hr.nd⟩
end
end Go.Vc
end
section
namespace Go.Vc
open Go Go.RowKit
set_option linter.unusedVariables false
set_option linter.unusedSectionVars false
set_option linter.unusedSimpArgs false
def paOw (v0 : Value) (E : TypeId) (sz : Nat) (es : List (List Value)) : OwP where
  A u := { P := fun w F => u = v0 ∧ (∀ e ∈ es, e.length = sz ∧ e.all (·.oneCell') = true) ∧ (slotA E sz v0 es.length es.flatten).P w F
           stable := fun ⟨h1, h2, h3⟩ hs => ⟨h1, h2, (slotA E sz v0 es.length es.flatten).stable h3 hs⟩
           lt := fun ⟨h1, h2, h3⟩ => (slotA E sz v0 es.length es.flatten).lt h3 }
  Q := vQ fun _ => True
  rd := by
    rintro w F u ⟨rfl, h2, h3⟩
    obtain ⟨_, ⟨rfl, _⟩ | ⟨b, off, cap, cur, rfl, _⟩⟩ := h3.1 <;> exact ⟨trivial, rfl⟩
section
variable {P : Program} [TyEnv P] {o : Oper} {rd : Nat → AV} {T e : TypeId} {i ei : TyI} {x y : Operand} {k : Nat} {v0 : Value} {E : TypeId} {sz : Nat} {es : List (List Value)}
theorem pa_focus {w0 w : World} {ρ : Nat → Value} {n : Nat} {t : Tm} {H : Hp} {a : Act} (hr : Rel w0 w ρ n t H a) (hk : lk H k = some (.own (paOw v0 E sz es))) : ∃ Js, (∀ e ∈ es, e.length = sz ∧ e.all (·.oneCell') = true) ∧ St w0 w (slotA E sz (ρ k) es.length es.flatten :: Js) := by
  obtain ⟨A, Js, hA, h2, _⟩ := hr.focus hk
  have hA' : A = (paOw v0 E sz es).A (ρ k) := hA
  subst hA'
  obtain ⟨F, hF⟩ := h2.head
  refine ⟨Js, hF.2.1, h2.same fun F hF => ⟨F, ?_, fun _ h => h⟩⟩
  obtain ⟨h1, _, h3⟩ := hF
  rw [h1]; exact h3
theorem tri_lenPA (ho : o.op = .call { callee := .builtin .len, args := #[x], argTypes := #[T] }) (hi : TyEnv.ti P T = some i) (hk : i.k = .slice e) (hx : evo rd x = .one (.hs k)) : Tri P o rd [(k, .own (paOw v0 E sz es))] (.one (.v (.int .i64 es.length))) [] := by
  intro w0 w ρ n t H a Q hr ht hrs hfr hd
  obtain ⟨Js, hes, h2⟩ := pa_focus hr (hrs k _ (List.mem_cons_self ..))
  have hx' := hr.ev x
  rw [evo_of (by simp [ho, Op.operands, Call.operands]) ht, hx] at hx'
  obtain ⟨hD, hx', _⟩ := hx'
  obtain ⟨B, c, g1, _⟩ : RB w (.sl sz es) (ρ k) := slot_RB (h2.slot .head) hes
  have hu := ty_slice hi hk
  have hrun := run_len_slice (P := P) w T o.type B es.length c (by rw [elem_of hu]; exact hu)
  unfold Oper.wp
  rw [show (execOp a.eval o).run P w = .ok (.value (.int .i64 es.length)) w by simp [execOp, ho, resolve, invoke, builtin, hx', g1, hrun, goInt]]
  exact ⟨ρ, hr.put (v := .one (.v (.int .i64 es.length))) (ar_v rfl) hd⟩
theorem tri_ixPA {n : Int} (ho : o.op = .indexAddr T x y) (hi : TyEnv.ti P T = some i) (hk : i.k = .slice e) (he : TyEnv.ti P e = some ei) (hsz : sz = ei.size) (hx : evo rd x = .one (.hs k)) (hy : evo rd y = .one (.v (.int .i64 n))) (h0 : 0 ≤ n ∧ n < es.length) : Tri P o rd [(k, .own (paOw v0 E sz es))] (.one (.ptr k n.toNat sz 0)) [] := by
  intro w0 w ρ m t H a Q hr ht hrs hfr hd
  obtain ⟨Js, hes, h2⟩ := pa_focus hr (hrs k _ (List.mem_cons_self ..))
  have hx' := hr.ev x
  rw [evo_of (by simp [ho, Op.operands]) ht, hx] at hx'
  obtain ⟨hD, hx', _⟩ := hx'
  have hy' := hr.ev y
  rw [evo_of (by simp [ho, Op.operands]) ht, hy] at hy'
  obtain ⟨A, c, g1, _, _, hc⟩ : RB w (.sl sz es) (ρ k) := slot_RB (h2.slot .head) hes
  obtain ⟨b, off, rfl, _⟩ := hc.2 (fun h => by subst h; simp at h0; omega)
  have hu := ty_slice hi hk
  have := run_indexAt_slice (P := P) w T ⟨b, off, none⟩ es.length c .i64 n (by rw [elem_of hu]; exact hu)
  rw [if_pos h0, elem_of hu, size_run he] at this
  simp only [Result.andThen_ok, add_plain] at this
  unfold Oper.wp
  rw [show (execOp a.eval o).run P w = .ok (.value (.pointer (some ⟨b, off + n.toNat * ei.size, none⟩))) w by simp only [execOp, ho, hx', g1, AR.int hy', Sem.run_bind, this, Result.andThen_ok, Sem.run_pure]]
  exact ⟨ρ, hr.put (v := .one (.ptr k n.toNat sz 0)) ⟨hD, b, off, by rw [g1]; rfl, by rw [hsz, Nat.add_zero]⟩ hd⟩
theorem tri_ldPA {j f : Nat} {e : List Value} {v : AV} (ho : o.op = .load T x) (hi : TyEnv.ti P T = some i) (hx : evo rd x = .one (.ptr k j sz f)) (he : es[j]? = some e) (hv : mkv i ((e.drop f).map .v) = some v) : Tri P o rd [(k, .own (paOw v0 E sz es))] v [] := by
  intro w0 w ρ n t H a Q hr ht hrs hfr hd
  obtain ⟨Js, hes, h2⟩ := pa_focus hr (hrs k _ (List.mem_cons_self ..))
  have hx' := hr.ev x
  rw [evo_of (o := o) (by rw [ho]; simp [Op.operands]) ht, hx] at hx'
  obtain ⟨_, b, off, e1, hx'⟩ := hx'
  have hj := (List.getElem?_eq_some_iff.1 he).1
  obtain ⟨b', off', cap, hv', hc⟩ := slot_cells (h2.slot .head) (by omega)
  rw [hv'] at e1
  simp only [base, Option.some.injEq, Prod.mk.injEq] at e1
  obtain ⟨rfl, rfl⟩ := e1
  obtain ⟨hl, h1⟩ := hes e (List.mem_of_getElem? he)
  have hm := mkv_R (w0 := w0) (D := dom H) (ρ := ρ) hv (F2.plain (all_drop h1 f))
  refine wp_loadX ho hi hx' (us := e.drop f) (fun m v hm => ?_) hm fun u hu => ⟨ρ, hr.put hu hd⟩
  rw [List.getElem?_drop] at hm
  have hlt := (List.getElem?_eq_some_iff.1 hm).1
  have hjj := Nat.mul_le_mul_right sz (show j + 1 ≤ es.length from hj)
  rw [Nat.succ_mul] at hjj
  rw [Nat.add_assoc, Nat.add_assoc, (hc (j * sz + (f + m)) (by omega)).1, flat_at hes he (by omega)]
  exact hm
end
end Go.Vc
end
section
namespace Go.Vc
open Go Go.RowKit
set_option linter.unusedVariables false
set_option linter.unusedSectionVars false
set_option linter.unusedSimpArgs false
section
variable {P : Program} [TyEnv P] {n : Nat} {ops os : List Oper} {K : Tm → Hp → Prop} {t t' : Tm} {H H' : Hp} {o : Oper} {k1 k2 : List Nat} {dr : Bool} {fp : List Fp} {T e : TypeId} {i ei : TyI} {x y : Operand} {k : Nat} {v0 : Value} {E : TypeId} {sz : Nat} {α : Type} [Inhabited α] {xs : List α} {g : α → List Value} {m : Int}
theorem vkl (h : Vd P n ops dr K os t' H' ((k1, k2) :: fp)) (hd : dstB o.dst n = true := by rfl) (hg : o.guard = none := by rfl) (ho : o.op = .call { callee := .builtin .len, args := #[x], argTypes := #[T] } := by rfl) (hi : TyEnv.ti P T = some i := by rfl) (hk : i.k = .slice e := by rfl) (hx : evo (gt t) x = .one (.hs k) := by rfl) (hj : lk H k = some (.own (paOw v0 E sz (xs.map g))) := by rfl)
    (ht : stF o.dst (.one (.v (.int .i64 (xs.length : Int)))) [] [(k, .own (paOw v0 E sz (xs.map g)))] t H = some (t', H', k1, k2) := by rfl) : Vd P n ops dr K (o :: os) t H fp := vd_plain hd hg (goodr (by have := tri_lenPA (v0 := v0) (E := E) (sz := sz) (es := xs.map g) ho hi hk hx; rwa [List.length_map] at this) hj) ht h
theorem vkx (h : Vd P n ops dr K os t' H' ((k1, k2) :: fp)) (hd : dstB o.dst n = true := by rfl) (hg : o.guard = none := by rfl) (ho : o.op = .indexAddr T x y := by rfl) (hi : TyEnv.ti P T = some i := by rfl) (hk : i.k = .slice e := by rfl) (he : TyEnv.ti P e = some ei := by rfl) (hz : sz = ei.size := by rfl) (hx : evo (gt t) x = .one (.hs k) := by rfl) (hy : evo (gt t) y = .one (.v (.int .i64 m)) := by rfl) (hj : lk H k = some (.own (paOw v0 E sz (xs.map g))) := by rfl)
    (ht : stF o.dst (.one (.ptr k m.toNat sz 0)) [] [(k, .own (paOw v0 E sz (xs.map g)))] t H = some (t', H', k1, k2) := by rfl) (hs : 0 ≤ m ∧ m < xs.length := by omega) : Vd P n ops dr K (o :: os) t H fp := vd_plain hd hg (goodr (tri_ixPA ho hi hk he hz hx hy (by rw [List.length_map]; exact hs)) hj) ht h
theorem vkd {j f : Nat} {v : AV} (h : Vd P n ops dr K os t' H' ((k1, k2) :: fp)) (hd : dstB o.dst n = true := by rfl) (hg : o.guard = none := by rfl) (ho : o.op = .load T x := by rfl) (hi : TyEnv.ti P T = some i := by rfl) (hx : evo (gt t) x = .one (.ptr k j sz f) := by rfl) (hj : lk H k = some (.own (paOw v0 E sz (xs.map g))) := by rfl) (hv : mkv i (((g (at' xs j)).drop f).map .v) = some v := by rfl)
    (ht : stF o.dst v [] [(k, .own (paOw v0 E sz (xs.map g)))] t H = some (t', H', k1, k2) := by rfl) (hs : j < xs.length := by omega) : Vd P n ops dr K (o :: os) t H fp := vd_plain hd hg (goodr (tri_ldPA ho hi hx (by rw [List.getElem?_map, List.getElem?_eq_getElem hs]; unfold at'; rw [List.getElem?_eq_getElem hs]; rfl) hv) hj) ht h
end
def ConD (P : Program) (f : FuncId) (CT : TypeId) (b : Nat) (v : Value) (code : List UInt8) (E : TypeId) (sz : Nat) (es : List (List Value)) {α : Type} (Φ : α → Prop) (res : α → AV) (Hr : α → Hp) : Prop :=
  FnOk P f ∧ ∀ (w0 w : World) (u : Value) (Js : List Asn), St w0 w (curA CT b v code.length :: slotA E sz u es.length es.flatten :: Js) → (∀ e ∈ es, e.length = sz ∧ e.all (·.oneCell') = true) → u.oneCell' = true → Holds w0 code [v] → ∀ base : Nat, Calls P f [.pointer (some ⟨b, 0, none⟩), u].toArray w fun e w' => ∃ x, Φ x ∧ After w0 base (res x) (Hr x) [curA CT b v code.length, slotA E sz u es.length es.flatten] Js e w'
theorem cond_i {P : Program} [TyEnv P] {f : FuncId} {fn : Func} {c : Code} {n : Nat} {rs : List ResultVar} {α : Type} {Φ : α → Prop} {res : α → AV} {Hr : α → Hp} {v : Value} {code : List UInt8} {CT : TypeId} {b : Nat} {E : TypeId} {sz : Nat} {es : List (List Value)} (hf : P.funcs[f]? = some fn) (hn : fn.ntmps = n) (h : ∀ (L : List Asn) (u : Value), VC P n c (FinG P rs [(1000001, .own (cuOw CT b v code.length)), (1000005, .own (paOw u E sz es)), (1000003, .own (frOw L))] Φ res Hr) [(0, .one (.rd (cpQ b v code))), (1, .one (.hs 1000005))] [(1000001, .own (cuOw CT b v code.length)), (1000005, .own (paOw u E sz es)), (1000003, .own (frOw L))]) (hb : fn.body = some c := by rfl) (hnm : (fn.name == "runtime.NumGoroutine") = false := by kernel_rfl) (hrs : fn.results = rs.toArray := by rfl) (hargs : Nat.ble 2 n = true := by rfl) : ConD P f CT b v code E sz es Φ res Hr := by
  refine ⟨⟨fn, hf, hnm, by rw [hb]; rfl⟩, fun w0 w u Js hs hes hu hh base => ?_⟩
  refine calls_of_wp hf hb ?_
  rw [hn]
  have hn1 := Nat.le_of_ble_eq_true hargs
  have hrel : Rel w0 w (fun k => if k = 1000003 then .bool true else if k = 1000005 then u else .pointer (some ⟨b, 0, none⟩)) n [(0, .one (.rd (cpQ b v code))), (1, .one (.hs 1000005))] [(1000001, .own (cuOw CT b v code.length)), (1000005, .own (paOw u E sz es)), (1000003, .own (frOw Js))] { tmps := [.pointer (some ⟨b, 0, none⟩), u].toArray ++ Array.replicate (n - [Value.pointer (some ⟨b, 0, none⟩), u].toArray.size) undef, defers := [] } := by
    refine ⟨by simp; omega, rfl, fun k => ?_, ⟨[(cuOw CT b v code.length).A (.pointer (some ⟨b, 0, none⟩)), (paOw u E sz es).A u, (frOw Js).A (.bool true)], .cons rfl (.cons rfl (.cons rfl .nil)), ?_⟩, by simp⟩
    · simp only [gt]
      split
      · rename_i e; subst e
        have e0 : ([.pointer (some ⟨b, 0, none⟩), u].toArray ++ Array.replicate (n - [Value.pointer (some ⟨b, 0, none⟩), u].toArray.size) undef).getD 0 undef = .pointer (some ⟨b, 0, none⟩) := by
          rw [Array.getD_eq_getD_getElem?, Array.getElem?_append_left (by simp)]; simp
        simp only [e0]
        exact ⟨rfl, hh⟩
      · split
        · rename_i e; subst e
          have e0 : ([.pointer (some ⟨b, 0, none⟩), u].toArray ++ Array.replicate (n - [Value.pointer (some ⟨b, 0, none⟩), u].toArray.size) undef).getD 1 undef = u := by
            rw [Array.getD_eq_getD_getElem?, Array.getElem?_append_left (by simp)]; simp
          simp only [e0]
          exact ⟨dom_mem.2 (by simp), rfl, hu⟩
        · trivial
    · have h1 : St w0 w ((cuOw CT b v code.length).A (.pointer (some ⟨b, 0, none⟩)) :: slotA E sz u es.length es.flatten :: Js) := hs.same fun F hF => ⟨F, ⟨rfl, hF⟩, fun _ h => h⟩
      have h2 : St w0 w ((paOw u E sz es).A u :: (cuOw CT b v code.length).A (.pointer (some ⟨b, 0, none⟩)) :: Js) := (St.perm h1 (.swap ..)).same fun F hF => ⟨F, ⟨rfl, hes, hF⟩, fun _ h => h⟩
      have h3 : St w0 w (Js ++ [(cuOw CT b v code.length).A (.pointer (some ⟨b, 0, none⟩)), (paOw u E sz es).A u]) := St.perm (St.perm h2 (.swap ..)) (List.perm_append_comm (l₁ := [(cuOw CT b v code.length).A (.pointer (some ⟨b, 0, none⟩)), (paOw u E sz es).A u]) (l₂ := Js))
      have h4 : St w0 w ((frOw Js).A (.bool true) :: [(cuOw CT b v code.length).A (.pointer (some ⟨b, 0, none⟩)), (paOw u E sz es).A u]) := (St.joinL (L := Js) h3).same fun F hF => ⟨F, ⟨rfl, hF⟩, fun _ h => h⟩
      exact St.perm h4 (List.perm_append_comm (l₁ := [(frOw Js).A (.bool true)]))
  refine Code.wp_mono (fun e a w' hq => ?_) (h Js u w0 w _ _ hrel)
  obtain ⟨hdf, he, us', g2, x, hΦ, hA⟩ := fin_after (Is := [curA CT b v code.length, slotA E sz u es.length es.flatten]) (Js := Js) (base := base) hrs hq (fun ρ As hF Zs hst => by
    cases hF with
    | cons q1 q2 =>
      cases q2 with
      | cons q2 q3 =>
        cases q3 with
        | cons q3 q4 =>
          cases q4
          have q1' : _ = (cuOw CT b v code.length).A (ρ 1000001) := q1
          have q2' : _ = (paOw u E sz es).A (ρ 1000005) := q2
          have q3' : _ = (frOw Js).A (ρ 1000003) := q3
          subst q1' q2' q3'
          have h2 : St w0 w' (curA CT b v code.length :: ((paOw u E sz es).A (ρ 1000005) :: ((frOw Js).A (ρ 1000003) :: Zs))) := hst.same fun F hF => ⟨F, hF.2, fun _ h => h⟩
          have h3 : St w0 w' (slotA E sz u es.length es.flatten :: (curA CT b v code.length :: ((frOw Js).A (ρ 1000003) :: Zs))) := (St.perm h2 (.swap ..)).same fun F hF => ⟨F, hF.2.2, fun _ h => h⟩
          have h4 : St w0 w' ((frOw Js).A (ρ 1000003) :: (Zs ++ [curA CT b v code.length, slotA E sz u es.length es.flatten])) := St.perm (St.perm h3 (.swap ..)) (List.perm_append_comm (l₁ := [curA CT b v code.length, slotA E sz u es.length es.flatten]) (l₂ := (frOw Js).A (ρ 1000003) :: Zs))
          have h5 : St w0 w' (joinA Js :: (Zs ++ [curA CT b v code.length, slotA E sz u es.length es.flatten])) := h4.same fun F hF => ⟨F, hF.2, fun _ h => h⟩
          refine St.perm h5.unjoin ?_
          refine List.perm_append_comm.trans ?_
          rw [List.append_assoc]
          refine (List.perm_append_comm (l₁ := Zs)).trans ?_
          rw [List.append_assoc]
          exact List.Perm.append_left _ List.perm_append_comm) rfl
  have hrun := g2.run hrs
  rcases he with rfl | rfl
  · exact ⟨hdf, _, hrun, x, hΦ, hA⟩
  · exact ⟨hdf, _, hrun, x, hΦ, hA⟩
end Go.Vc
end
section
namespace Go.Vc
open Go Go.RowKit
set_option linter.unusedVariables false
set_option linter.unusedSectionVars false
set_option linter.unusedSimpArgs false
section
variable {P : Program} [TyEnv P] {w0 w w' : World} {ρ ρ' : Nat → Value} {n : Nat} {t : Tm} {H : Hp} {a : Act}
theorem Rel.drawD {o : Oper} {f : FuncId} {c y : Operand} {ats : Array TypeId} {CT E : TypeId} {sz : Nat} {es : List (List Value)} {b kc m d : Nat} {v : Value} {code : List UInt8} {α : Type} {Φ : α → Prop} {res : α → AV} {Hr : α → Hp} {Q : Exit → Act → World → Prop} {K : Act → World → Prop}
    (hr : Rel w0 w ρ n t H a) (ho : o.op = .call { callee := .value (.func f), args := #[c, y], argTypes := ats }) (hc : ConD P f CT b v code E sz es Φ res Hr) (hx : evo (gt t) c = .one (.rd (cpQ b v code))) (hy : evo (gt t) y = .one (.hs m)) (hk : lk H kc = some (.own (cuOw CT b v code.length))) (hm : lk H m = some (.arr E sz es)) (hkm : kc ≠ m)
    (hfr : ∀ x k b, (k, b) ∈ shH d (Hr x) → lk H k = none) (hd : ∀ d, o.dst = some d → d < n)
    (h : ∀ x ρ' a' w', Φ x → Rel w0 w' ρ' n (putT t o.dst (shA d (res x))) (updH H (shH d (Hr x))) a' → K a' w') : o.wp P a w K Q := by
  obtain ⟨Bs, b1, b2⟩ := hr.hp
  have p1 : H.Perm ((kc, .own (cuOw CT b v code.length)) :: offK kc H) := by have := upd1_perm (.own (cuOw CT b v code.length)) hr.nd hk; rwa [upd1_same hk] at this
  have hm1 : lk (offK kc H) m = some (.arr E sz es) := by rw [lk_offK (fun e => hkm e.symm)]; exact hm
  have p2 : (offK kc H).Perm ((m, .arr E sz es) :: offK m (offK kc H)) := by have := upd1_perm (.arr E sz es) (nd_offK (k := kc) hr.nd) hm1; rwa [upd1_same hm1] at this
  have p3 := p1.trans (p2.cons _)
  obtain ⟨Ds, d1, d2⟩ := F2.perm p3 b1
  cases d2 with
  | @cons _ X _ Es' x1 x2 =>
    cases x2 with
    | @cons _ Y _ Es x2 x3 =>
      have hX : X = (cuOw CT b v code.length).A (ρ kc) := x1
      subst hX
      obtain ⟨hes, rfl⟩ := x2
      have s1 : St w0 w ((cuOw CT b v code.length).A (ρ kc) :: slotA E sz (ρ m) es.length es.flatten :: Es) := St.perm b2 d1
      obtain ⟨F, hF⟩ := s1.head
      have hρ := hF.1
      have hcur : St w0 w (curA CT b v code.length :: slotA E sz (ρ m) es.length es.flatten :: Es) := s1.same fun F hF => ⟨F, hF.2, fun _ h => h⟩
      have hp := hr.ev c
      rw [hx] at hp
      obtain ⟨hp, hh⟩ := hp
      have hq := hr.ev y
      rw [hy] at hq
      obtain ⟨_, hq, hone⟩ := hq
      rw [hq] at hone
      obtain ⟨hfn, hcall⟩ := hc
      unfold Oper.wp
      rw [run_enter ho hfn, Oper.upon_enter]
      have e2 : #[c, y].map a.eval = [.pointer (some ⟨b, 0, none⟩), ρ m].toArray := by simp [hp, hq]
      rw [e2]
      refine (hcall w0 w (ρ m) Es hcur hes hone hh d).mono fun e w' hq2 => ?_
      obtain ⟨x, hΦ, u, ρ', rfl, g1, g2, As, g3, g4⟩ := hq2
      have hback : St w0 w' ((cuOw CT b v code.length).A (ρ kc) :: slotA E sz (ρ m) es.length es.flatten :: (As ++ Es)) := g4.same fun F hF => ⟨F, ⟨hρ, hF⟩, fun _ h => h⟩
      let ρ2 : Nat → Value := fun k => if k ∈ (shH d (Hr x)).map (·.1) then ρ' k else ρ k
      have e := upd_new (shH d (Hr x)) H (hfr x) g2
      have hnot : ∀ k, dom H k → k ∉ (shH d (Hr x)).map (·.1) := fun k hk hm => by
        obtain ⟨⟨k', b⟩, hb, rfl⟩ := List.mem_map.1 hm
        exact lk_nd (hfr x _ _ hb) hk
      have hD1 : ∀ k, dom H k → dom (updH H (shH d (Hr x))) k ∧ ρ2 k = ρ k := fun k hk => ⟨by rw [dom_mem, e, List.map_append]; exact List.mem_append_left _ (dom_mem.1 hk), if_neg (hnot k hk)⟩
      have hD2 : ∀ k, dom (shH d (Hr x)) k → dom (updH H (shH d (Hr x))) k ∧ ρ2 k = ρ' k := fun k hk => ⟨by rw [dom_mem, e, List.map_append]; exact List.mem_append_right _ (dom_mem.1 hk), if_pos (dom_mem.1 hk)⟩
      have c1 : F2 (BR w0 (dom (updH H (shH d (Hr x)))) ρ2) ((kc, .own (cuOw CT b v code.length)) :: (m, .arr E sz es) :: offK m (offK kc H)) ((cuOw CT b v code.length).A (ρ kc) :: slotA E sz (ρ m) es.length es.flatten :: Es) :=
        (F2.cons (show BR w0 (dom H) ρ (kc, .own (cuOw CT b v code.length)) _ from rfl) (F2.cons (show BR w0 (dom H) ρ (m, .arr E sz es) _ from ⟨hes, rfl⟩) x3)).mono fun y _ hy r => BR.ext hD1 (dom_mem.2 (by
          have := p3.symm.subset hy
          exact List.mem_map_of_mem (f := fun z : Nat × Blk => z.1) this)) r
      obtain ⟨Cs, c2, c3⟩ := F2.perm p3.symm c1
      have a2 : F2 (BR w0 (dom (updH H (shH d (Hr x)))) ρ2) (shH d (Hr x)) As := g3.mono fun y _ hy r => BR.ext hD2 (dom_mem.2 (List.mem_map_of_mem (f := fun z : Nat × Blk => z.1) hy)) r
      have hR : Rel w0 w' ρ2 n t (updH H (shH d (Hr x))) a := by
        refine ⟨hr.sz, hr.df, fun k => (hr.tm k).ext hD1, ⟨Cs ++ As, ?_, ?_⟩, ?_⟩
        · have a3 := F2.app c3 a2
          rw [e] at a3 ⊢
          exact a3
        · refine St.perm hback ?_
          exact (((List.perm_append_comm (l₁ := As) (l₂ := Es)).cons _).cons _).trans (c2.append_right As)
        · rw [e, List.map_append, List.nodup_append]
          exact ⟨hr.nd, g2, fun a ha b hb e => hnot a (dom_mem.2 ha) (e ▸ hb)⟩
      exact h x ρ2 _ w' hΦ (hR.put (g1.ext hD2) hd)
theorem Rel.toEx {α : Type} {E : TypeId} {sz k : Nat} {Φ : α → Prop} {g : α → List (List Value)} {x : α} (h : Rel w0 w ρ n t (upd1 k (.arr E sz (g x)) H) a) (hk : lk H k = none) (hΦ : Φ x) : Rel w0 w ρ n t (upd1 k (.own (exOw E sz Φ g)) H) a := by
  have hn := h.nd
  rw [upd1_new _ hk] at h hn ⊢
  obtain ⟨Bs, q1, q2⟩ := h.hp
  obtain ⟨Ds, d1, d2⟩ := F2.perm (List.perm_append_singleton (k, Blk.arr E sz (g x)) H) q1
  cases d2 with
  | @cons _ X _ Es x1 x2 =>
    obtain ⟨hes, rfl⟩ := x1
    have hD : ∀ j, dom (H ++ [(k, .arr E sz (g x))]) j → dom (H ++ [(k, .own (exOw E sz Φ g))]) j ∧ ρ j = ρ j := fun j hj => ⟨by rw [dom_mem] at *; simpa using hj, rfl⟩
    have s1 : St w0 w (slotA E sz (ρ k) (g x).length (g x).flatten :: Es) := St.perm q2 d1
    have s2 : St w0 w ((exOw E sz Φ g).A (ρ k) :: Es) := s1.same fun F hF => ⟨F, ⟨x, hΦ, hes, hF⟩, fun _ h => h⟩
    have F3 : F2 (BR w0 (dom (H ++ [(k, .own (exOw E sz Φ g))])) ρ) ((k, .own (exOw E sz Φ g)) :: H) ((exOw E sz Φ g).A (ρ k) :: Es) := .cons rfl (x2.mono fun y _ hy r => BR.ext hD (dom_mem.2 (by rw [List.map_append]; exact List.mem_append_left _ (List.mem_map_of_mem (f := fun z : Nat × Blk => z.1) hy))) r)
    obtain ⟨Cs, c2, c1⟩ := F2.perm (List.perm_append_singleton (k, Blk.own (exOw E sz Φ g)) H).symm F3
    exact ⟨h.sz, h.df, fun i => (h.tm i).ext hD, ⟨Cs, c1, St.perm s2 c2⟩, by simpa using hn⟩
theorem tri_drawE {o : Oper} {f : FuncId} {c y : Operand} {ats : Array TypeId} {CT E E2 : TypeId} {sz sz2 : Nat} {es : List (List Value)} {b kc m d : Nat} {rd : Nat → AV} {v : Value} {code : List UInt8} {α : Type} {Φ : α → Prop} {g : α → List (List Value)} (ho : o.op = .call { callee := .value (.func f), args := #[c, y], argTypes := ats }) (hc : ConD P f CT b v code E sz es Φ (fun _ => .one (.hs 0)) (fun x => [(0, .arr E2 sz2 (g x))])) (hx : evo rd c = .one (.rd (cpQ b v code))) (hy : evo rd y = .one (.hs m)) (hkm : kc ≠ m) (h1 : 8 * d ≠ kc) (h2 : 8 * d ≠ m) :
    Tri P o rd [(kc, .own (cuOw CT b v code.length)), (m, .arr E sz es)] (.one (.hs (8 * d))) [(8 * d, .own (exOw E2 sz2 Φ g))] := by
  intro w0 w ρ n t H a Q hr ht hrs hfr hd
  have hnk : lk H (8 * d) = none := by
    rcases hfr (8 * d) _ (List.mem_cons_self ..) with ⟨b', hb⟩ | h
    · simp only [List.mem_cons, Prod.mk.injEq, List.not_mem_nil, or_false] at hb
      rcases hb with ⟨e, _⟩ | ⟨e, _⟩
      · exact (h1 e).elim
      · exact (h2 e).elim
    · exact h
  refine hr.drawD (d := 8 * d) ho hc ?_ ?_ (hrs kc _ (List.mem_cons_self ..)) (hrs m _ (List.mem_cons_of_mem _ (List.mem_cons_self ..))) hkm (fun x k b hb => ?_) hd fun x ρ' a' w' hΦ h' => ⟨ρ', ?_⟩
  · rw [evo_of (o := o) (by simp [ho, Op.operands, Call.operands]) ht]; exact hx
  · rw [evo_of (o := o) (by simp [ho, Op.operands, Call.operands]) ht]; exact hy
  · have hb' : (k, b) ∈ [(8 * d, Blk.arr E2 sz2 (g x))] := hb
    simp only [List.mem_singleton, Prod.mk.injEq] at hb'
    rw [hb'.1]; exact hnk
  · have h' : Rel w0 w' ρ' n (putT t o.dst (.one (.hs (8 * d)))) (upd1 (8 * d) (.arr E2 sz2 (g x)) H) a' := h'
    exact h'.toEx hnk hΦ
end
section
variable {P : Program} [TyEnv P] {n : Nat} {ops os : List Oper} {K : Tm → Hp → Prop} {t t' : Tm} {H H' : Hp} {o : Oper} {k1 k2 : List Nat}
theorem vdd {dr : Bool} {fp : List Fp} {f : FuncId} {c y : Operand} {ats : Array TypeId} {CT E E2 : TypeId} {sz sz2 : Nat} {es : List (List Value)} {b m d : Nat} {v : Value} {code : List UInt8} {α : Type} {Φ : α → Prop} {g : α → List (List Value)} (hc : ConD P f CT b v code E sz es Φ (fun _ => .one (.hs 0)) (fun x => [(0, .arr E2 sz2 (g x))])) (h : Vd P n ops dr K os t' H' ((k1, k2) :: fp)) (kc : Nat) (hd : dstB o.dst n = true := by rfl) (hg : o.guard = none := by rfl) (ho : o.op = .call { callee := .value (.func f), args := #[c, y], argTypes := ats } := by rfl) (hx : evo (gt t) c = .one (.rd (cpQ b v code)) := by rfl) (hy : evo (gt t) y = .one (.hs m) := by rfl) (hk : lk H kc = some (.own (cuOw CT b v code.length)) := by rfl) (hm : lk H m = some (.arr E sz es) := by rfl) (hkm : Nat.beq kc m = false := by rfl) (hdd : o.dst = some d := by rfl) (hn1 : Nat.beq (8 * d) kc = false := by rfl) (hn2 : Nat.beq (8 * d) m = false := by rfl) (hnk : lk H (8 * d) = none := by rfl)
    (ht : stF o.dst (.one (.hs (8 * d))) [(8 * d, .own (exOw E2 sz2 Φ g))] [(kc, .own (cuOw CT b v code.length)), (m, .arr E sz es)] t H = some (t', H', k1, k2) := by rfl) : Vd P n ops dr K (o :: os) t H fp :=
  vd_plain hd hg (good_of (tri_drawE ho hc hx hy (Nat.ne_of_beq_eq_false hkm) (Nat.ne_of_beq_eq_false hn1) (Nat.ne_of_beq_eq_false hn2)) (fun k b hb => by
    simp only [List.mem_cons, Prod.mk.injEq, List.not_mem_nil, or_false] at hb
    rcases hb with ⟨rfl, rfl⟩ | ⟨rfl, rfl⟩
    · exact hk
    · exact hm) fun k b hb => by
    simp only [List.mem_cons, Prod.mk.injEq, List.not_mem_nil, or_false] at hb
    obtain ⟨rfl, _⟩ := hb
    exact .inr hnk) ht h
end
end Go.Vc
end
section
namespace Go.Vc
open Go Go.RowKit
set_option linter.unusedVariables false
set_option linter.unusedSectionVars false
set_option linter.unusedSimpArgs false
def byC (code : List UInt8) (i : Nat) : Int := ((code.getD i 0).toNat : Int)
theorem byC_bd (code : List UInt8) (i : Nat) : 0 ≤ byC code i ∧ byC code i ≤ 255 := by
  have := (code.getD i 0).toNat_lt
  unfold byC; omega
def pbQ (code : List UInt8) (i : Nat) : RdP where
  P w u := ∃ b o, u = .pointer (some ⟨b, o, none⟩) ∧ w.cell? ⟨b, o, none⟩ = some (.int .u8 (byC code i))
  ex := by
    rintro w w' u ⟨b, o, rfl, h⟩ hx
    exact ⟨b, o, rfl, (hx.cell (World.block_lt_of_cell? _ _ h)).trans h⟩
  one := by rintro w u ⟨b, o, rfl, _⟩; rfl
section
variable {P : Program} [TyEnv P] {o : Oper} {rd : Nat → AV} {T e : TypeId} {i ei : TyI} {x y : Operand} {v : Value} {code : List UInt8} {n : Int}
theorem tri_ixC (ho : o.op = .indexAddr T x y) (hi : TyEnv.ti P T = some i) (hk : i.k = .slice e) (he : TyEnv.ti P e = some ei) (hsz : ei.size = 1) (hx : evo rd x = .one (.rd (pinQ v code))) (hy : evo rd y = .one (.v (.int .i64 n))) (h0 : 0 ≤ n ∧ n < code.length) : Tri P o rd [] (.one (.rd (pbQ code n.toNat))) [] := by
  refine tri_pure fun w0 w D ρ a hh hex => ?_
  have h1 := hh x (by simp [ho, Op.operands])
  have h2 := hh y (by simp [ho, Op.operands])
  rw [hx] at h1; rw [hy] at h2
  obtain ⟨h1, h3, _⟩ := h1
  obtain ⟨A, c, hv, _, _, hc⟩ := h3.bytes
  simp only [List.cons.injEq, and_true] at hv
  subst hv
  have hn : n.toNat < code.length := by omega
  obtain ⟨b, off, rfl, hcell⟩ := hc n.toNat hn
  have hu := ty_slice hi hk
  have := run_indexAt_slice (P := P) w T ⟨b, off, none⟩ code.length c .i64 n (by rw [elem_of hu]; exact hu)
  rw [if_pos (by omega), elem_of hu, size_run he] at this
  simp only [Result.andThen_ok, add_plain] at this
  refine ⟨.pointer (some ⟨b, off + n.toNat * ei.size, none⟩), by simp only [execOp, ho, h1, AR.int h2, Sem.run_bind, this, Result.andThen_ok, Sem.run_pure], b, off + n.toNat, by rw [hsz, Nat.mul_one], ?_⟩
  rw [hcell]
  unfold byC
  rw [List.getD_eq_getElem?_getD, List.getElem?_eq_getElem hn]
  rfl
theorem tri_ldC {j : Nat} {v : AV} (ho : o.op = .load T x) (hi : TyEnv.ti P T = some i) (hx : evo rd x = .one (.rd (pbQ code j))) (hv : mkv i [.v (.int .u8 (byC code j))] = some v) : Tri P o rd [] v [] := by
  intro w0 w ρ n t H a Q hr ht hrs hfr hd
  have hx' := hr.ev x
  rw [evo_of (o := o) (by rw [ho]; simp [Op.operands]) ht, hx] at hx'
  obtain ⟨As, h2, _⟩ := hr.parts
  obtain ⟨b, off, hx', hc⟩ := (pbQ code j).ex hx' h2.ex
  have hF2 : F2 (R w0 (dom H) ρ) [.v (.int .u8 (byC code j))] [Value.int .u8 (byC code j)] := .cons ⟨rfl, rfl⟩ .nil
  have hm := mkv_R (w0 := w0) (D := dom H) (ρ := ρ) hv hF2
  refine wp_loadX ho hi hx' (us := [Value.int .u8 (byC code j)]) (fun m v hm => ?_) hm fun u hu => ⟨ρ, hr.put hu hd⟩
  have hlt := (List.getElem?_eq_some_iff.1 hm).1
  have hm0 : m = 0 := by simpa using hlt
  subst hm0
  rw [Nat.add_zero, hc]
  exact hm
end
section
variable {P : Program} [TyEnv P] {n : Nat} {ops os : List Oper} {K : Tm → Hp → Prop} {t t' : Tm} {H H' : Hp} {o : Oper} {k1 k2 : List Nat} {dr : Bool} {fp : List Fp} {T e : TypeId} {i ei : TyI} {x y : Operand} {v0 : Value} {code : List UInt8} {m : Int}
theorem vcx (h : Vd P n ops dr K os t' H' ((k1, k2) :: fp)) (hd : dstB o.dst n = true := by rfl) (hg : o.guard = none := by rfl) (ho : o.op = .indexAddr T x y := by rfl) (hi : TyEnv.ti P T = some i := by rfl) (hk : i.k = .slice e := by rfl) (he : TyEnv.ti P e = some ei := by rfl) (hz : ei.size = 1 := by rfl) (hx : evo (gt t) x = .one (.rd (pinQ v0 code)) := by rfl) (hy : evo (gt t) y = .one (.v (.int .i64 m)) := by rfl)
    (ht : stF o.dst (.one (.rd (pbQ code m.toNat))) [] [] t H = some (t', H', k1, k2) := by rfl) (hs : 0 ≤ m ∧ m < code.length := by omega) : Vd P n ops dr K (o :: os) t H fp := vd_plain hd hg (good0 (tri_ixC ho hi hk he hz hx hy hs)) ht h
theorem vcd {j : Nat} {v : AV} (h : Vd P n ops dr K os t' H' ((k1, k2) :: fp)) (hd : dstB o.dst n = true := by rfl) (hg : o.guard = none := by rfl) (ho : o.op = .load T x := by rfl) (hi : TyEnv.ti P T = some i := by rfl) (hx : evo (gt t) x = .one (.rd (pbQ code j)) := by rfl) (hv : mkv i [.v (.int .u8 (byC code j))] = some v := by rfl)
    (ht : stF o.dst v [] [] t H = some (t', H', k1, k2) := by rfl) : Vd P n ops dr K (o :: os) t H fp := vd_plain hd hg (good0 (tri_ldC ho hi hx hv)) ht h
end
end Go.Vc
end
section
namespace Go.Proofs.YtfcmcedeapgdcaaGreat
open Go Go.RowKit Go.Vc
set_option linter.unusedVariables false
set_option linter.unusedSimpArgs false
set_option linter.unnecessarySimpa false
def atC (code : List UInt8) (k : Int) : Int := if code.length = 0 then 0 else byC code ((k * 5 + 1) % code.length).toNat
theorem atC_bd (code : List UInt8) (k : Int) : 0 ≤ atC code k ∧ atC code k ≤ 255 := by
  unfold atC
  split
  · omega
  · exact byC_bd _ _
theorem i64_by (code : List UInt8) (j : Nat) : IntKind.i64.wrap (byC code j) = byC code j := IntWalk.i64_in _ (by have := byC_bd code j; omega)
set_option maxHeartbeats 4000000 in
theorem c_laws_at {v : Value} {code : List UInt8} {k : Int} (h0 : 0 ≤ k := by omega) (h1 : k ≤ 1000000 := by omega) (hl : code.length ≤ 1048576 := by omega) : Con0 Tryz.prog 9 [.one (.rd (pinQ v code)), I k] (I (atC code k)) [] := by
  refine con_i Tryz.func9 Tryz.ntmps9 (t := [(0, .one (.rd (pinQ v code))), (1, I k)]) rfl ?_
  refine vc_sr ?_
  refine vo ?_
  refine vnt ?_
  refine vc_seq' ?_
  refine vc_sr ?_
  refine vo ?_
  first | refine vlp ?_ | refine vo ?_
  try first | refine vlb ?_ | refine vln ?_
  refine vo ?_
  refine vnt ?_
  refine vc_if (fun g1 => ?_) (fun g1 => ?_)
  · refine vc_sr ?_
    refine vo ?_
    refine vnt ?_
    refine vc_ret ?_
    refine thn_r ?_
    have hh : atC code k = 0 := if_pos (by omega)
    rw [hh]
    refine fin_i [] rfl (fz ?_) (fz ?_) <;> first | trivial | rfl
  · have hm0 := Int.emod_nonneg (k * 5 + 1) (show (code.length : Int) ≠ 0 by omega)
    have hm1 := Int.emod_lt_of_pos (k * 5 + 1) (show 0 < (code.length : Int) by omega)
    refine vc_skip ?_
    refine thn ?_
    refine vc_sr ?_
    iterate 3 refine vo ?_
    try refine vwr ?_
    refine vo ?_
    try refine vwr ?_
    refine vo ?_
    first | refine vlp ?_ | refine vo ?_
    try first | refine vlb ?_ | refine vln ?_
    refine vo ?_
    try refine veq (Int.tmod_eq_emod_of_nonneg (by omega)) ?_
    first | refine vcx ?_ | refine vo ?_
    try with_reducible (first | refine vep ?_ | refine vpt ?_)
    first | refine vcd ?_ | refine vo ?_
    refine vo ?_
    try refine veq (i64_byt _ _) ?_
    refine veq (i64_by code _) ?_
    refine vo ?_
    refine vnt ?_
    refine vc_ret ?_
    have hh : atC code k = byC code ((k * 5 + 1) % code.length).toNat := if_neg (by omega)
    rw [hh]
    refine fin_i [] rfl (fz ?_) (fz ?_) <;> first | trivial | rfl
end Go.Proofs.YtfcmcedeapgdcaaGreat
end
section
namespace Go.Vc
open Go Go.RowKit
set_option linter.unusedVariables false
set_option linter.unusedSectionVars false
set_option linter.unusedSimpArgs false
section
variable {P : Program} [TyEnv P] {o : Oper} {rd : Nat → AV} {T T' : TypeId} {x y : Operand} {a : Int} {xs : List Int}
theorem tri_addQ (ho : o.op = .binOp .add T x y T') (hx : evo rd x = .one (.v (.int .i64 a))) (hy : evo rd y = .one (.rd (setQ xs))) : Tri P o rd [] (.one (.rd (setQ (xs.map fun x => wr (a + x))))) [] := by
  refine tri_pure fun w0 w D ρ ac hh hex => ?_
  have h1 := hh x (by simp [ho, Op.operands])
  have h2 := hh y (by simp [ho, Op.operands])
  rw [hx] at h1; rw [hy] at h2
  obtain ⟨⟨z, hz, hu⟩, _⟩ := h2
  refine ⟨.int .i64 (wr (a + z)), ?_, ⟨_, List.mem_map_of_mem hz, rfl⟩, rfl⟩
  have := run_intB P w (show intB .add a z = some (.int .i64 (wr (a + z))) from rfl) T T' x y ac.eval (AR.int h1) hu o.dst o.type o.pos o.after o.guard
  rw [← this]
  cases o
  simp only at ho
  subst ho
  rfl
end
section
variable {P : Program} [TyEnv P] {n : Nat} {ops os : List Oper} {K : Tm → Hp → Prop} {t t' : Tm} {H H' : Hp} {o : Oper} {k1 k2 : List Nat} {dr : Bool} {fp : List Fp} {T T' : TypeId} {x y : Operand} {a : Int} {xs : List Int}
theorem vaq (h : Vd P n ops dr K os t' H' ((k1, k2) :: fp)) (hd : dstB o.dst n = true := by rfl) (hg : o.guard = none := by rfl) (ho : o.op = .binOp .add T x y T' := by rfl) (hx : evo (gt t) x = .one (.v (.int .i64 a)) := by rfl) (hy : evo (gt t) y = .one (.rd (setQ xs)) := by rfl)
    (ht : stF o.dst (.one (.rd (setQ (xs.map fun x => wr (a + x))))) [] [] t H = some (t', H', k1, k2) := by rfl) : Vd P n ops dr K (o :: os) t H fp := vd_plain hd hg (good0 (tri_addQ ho hx hy)) ht h
end
section
variable {P : Program} [TyEnv P] {n : Nat} {ops os : List Oper} {K : Tm → Hp → Prop} {t t' : Tm} {H H' : Hp} {o : Oper} {k1 k2 : List Nat}
theorem svocn {f : FuncId} {args : Array Operand} {ats : Array TypeId} {ys : List AV} {res v : AV} {Hr δ rs : Hp} {d : Nat} {g : Nat} {want : Bool} (hc : Con0 P f ys res Hr) (ho : o.op = .call { callee := .value (.func f), args := args, argTypes := ats }) (hf : frzAs H (args.toList.map (evo (gt t))) = some ys) (h : SV P n ops K os t' H') (hdd : o.dst = some d := by rfl) (hv : shA (8 * d) res = v := by rfl) (hδ : shH (8 * d) Hr = δ := by rfl) (hrs : rsOf H ((args.toList.map (evo (gt t))).flatMap hsA) = rs := by rfl) (hfr : δ.all (fun p => (lk H p.1).isNone) = true := by rfl) (hd : dstB o.dst n = true := by rfl) (hg : o.guard = some (g, want) := by rfl) (hw : gBF ops (gt t) want g = some true := by rfl) (ht : stF o.dst v δ rs t H = some (t', H', k1, k2) := by rfl) : SV P n ops K (o :: os) t H := sv_on hd hg hw (good_call hc ho hf hdd hv hδ hrs hfr) ht h
end
end Go.Vc
end
section
namespace Go.Proofs.YtfcmcedeapgdcaaGreat
open Go Go.RowKit Go.Vc
set_option linter.unusedVariables false
set_option linter.unusedSimpArgs false
set_option linter.unnecessarySimpa false
def WL (l : List Mp) : Prop := l.length ≤ 12 ∧ ∀ i (h : i < l.length), l[i].1 = 0 ∧ l[i].2.1 = (i : Int) ∧ l[i].2.2.1 = 11 - (i : Int) ∧ (i < 2 → l[i].2.2.2 = true)
def tenF (i : Nat) : List Int := (List.range i).map fun i : Nat => (i : Int)
theorem tenF_len (i : Nat) : (tenF i).length = i := by simp [tenF]
theorem mp_app (l : List Mp) (x : Mp) : l.map mpE ++ [[.int .i64 x.1, .int .i64 x.2.1, .int .i64 x.2.2.1, .bool x.2.2.2]] = (l ++ [x]).map mpE := by rw [List.map_append]; rfl
theorem rp_stp (i : Nat) (s : ByteArray) : (List.replicate i s).map strE ++ [[.string s]] = (List.replicate (i + 1) s).map strE := by
  rw [List.replicate_succ', List.map_append]; rfl
def page0 : ByteArray := repF 0 (Int.toNat 128)
theorem page0_sz : page0.size = 128 := by unfold page0; rw [repF, strOfNums_size]; rfl
set_option maxHeartbeats 4000000 in
theorem c_spec_MapPage {l : List Mp} {x : Mp} (hl : l.length ≤ 1099511627776 := by first | with_reducible assumption | omega) (h1 : mapsOk l = true) (h2 : mapsOk (l ++ [x]) = true) : Con0 Tryz.prog 20 [.one (.sl 4 (l.map mpE)), .agg [V x.1, V x.2.1, V x.2.2.1, .v (.bool x.2.2.2)]] (.tup [.one (.hs 0), B true]) [(0, .arr 68 4 ((l ++ [x]).map mpE))] := by
  refine con_i Tryz.func20 Tryz.ntmps20 (t := [(0, .one (.sl 4 (l.map mpE))), (1, .agg [V x.1, V x.2.1, V x.2.2.1, .v (.bool x.2.2.2)])]) rfl ?_
  refine vc_sr ?_
  iterate 3 refine vo ?_
  refine vnt ?_
  refine vc_sr ?_
  iterate 3 refine vo ?_
  rw [List.nil_append]
  iterate 3 refine vo ?_
  rw [mp_app]
  refine vo ?_
  refine vnt ?_
  refine vc_seq' ?_
  refine vc_sr ?_
  refine vo ?_
  refine voc c_spec_MappingsOk rfl rfl ?_
  iterate 2 refine vo ?_
  refine vsp (fun g1 => ?_) (fun g1 => ?_)
  · rw [h1] at g1; cases g1
  · refine von ?_
    refine vocn (c_spec_MappingsOk (l := l ++ [x]) (hl := by have := (mapsOk_iff.1 h2).1; omega)) rfl rfl ?_
    refine von ?_
    refine vo ?_
    refine vnt ?_
    refine vc_if (fun g2 => ?_) (fun g2 => ?_)
    · rw [h2] at g2; cases g2
    · refine vc_skip ?_
      refine thn ?_
      refine vc_sr ?_
      iterate 3 refine vo ?_
      refine vnt ?_
      refine vc_ret ?_
      refine fin_i [(0, some 96)] rfl (fz ?_) (fz ?_)
      · first | trivial | rfl | trace_state
      · first | trivial | rfl | trace_state
set_option maxHeartbeats 4000000 in
theorem c_spec_NewMemory {n : Int} (h0 : 0 ≤ n := by omega) (h1 : n ≤ 64 := by omega) : Con0 Tryz.prog 24 [I n] (.agg [.hs 0]) [(0, .arr 9 1 ((List.replicate n.toNat page0).map strE))] := by
  refine con_i Tryz.func24 Tryz.ntmps24 (t := [(0, I n)]) rfl ?_
  refine vc_sr ?_
  refine vo ?_
  refine vnt ?_
  refine vc_sr ?_
  iterate 3 refine vo ?_
  refine vnt ?_
  refine vc_seq' ?_
  refine vc_sr ?_
  refine vo ?_
  refine vnt ?_
  refine vc_block ?_
  refine vc_lp (σ := Nat) [0, 2, 3] [16] (fun i => [(4, I (i : Nat))]) (fun i => [(7, .arr 9 1 ((List.replicate i page0).map strE)), (24, .row 27 [.hs 7])]) (fun i => (i : Int) ≤ n) (fun i => n.toNat - i) 0 rfl rfl (sub_i [(24, some 24), (7, none)] (fz ?_) (fz ?_)) ?_ fun i hI => ?_
  · first | trivial | rfl | exact ⟨rfl, rfl⟩ | exact ⟨rfl, rfl, rfl⟩ | trace_state
  · first | trivial | rfl | exact ⟨rfl, rfl⟩ | exact ⟨rfl, rfl, rfl⟩ | trace_state
  · omega
  refine vc_nf rfl rfl ?_
  refine vc_seq' ?_
  refine vc_sr ?_
  iterate 4 refine vo ?_
  refine vsp (fun g1 => ?_) (fun g1 => ?_)
  · iterate 2 refine von ?_
    refine vo ?_
    refine vnt ?_
    refine vc_if (fun g2 => ?_) (fun g2 => ?_)
    · refine vc_skip ?_
      refine thn ?_
      refine vc_seq' ?_
      refine vc_block ?_
      refine vc_region ?_
      iterate 2 refine vo ?_
      refine voc c_spec_l01Long rfl rfl ?_
      refine vzs (rep_le _ _) fun z1 => ?_
      iterate 4 refine vo ?_
      refine vnil ?_
      refine inB_n ?_
      refine thn ?_
      refine vc_region ?_
      iterate 2 refine vo ?_
      try refine vwr ?_
      refine vo ?_
      refine vnt ?_
      refine ⟨i + 1, by omega, by omega, sub_i [(24, some 24), (7, some 152)] (fz ?_) (fz ?_)⟩
      · omega
      · exact (rp_stp i page0).symm
    · refine vc_exit ?_
      refine thn_x ?_
      refine thn_x ?_
      refine inB_x ?_
      refine thn ?_
      refine vc_sr ?_
      iterate 2 refine vo ?_
      refine vnt ?_
      refine vc_ret ?_
      have hi : i = n.toNat := by omega
      subst hi
      refine fin_i [(0, some 7)] rfl (fz ?_) (fz ?_) <;> first | trivial | rfl | trace_state
  · iterate 2 refine vof ?_
    refine vo ?_
    refine vnt ?_
    refine vc_else ?_
    refine vc_exit ?_
    refine thn_x ?_
    refine thn_x ?_
    refine inB_x ?_
    refine thn ?_
    refine vc_sr ?_
    iterate 2 refine vo ?_
    refine vnt ?_
    refine vc_ret ?_
    have hi : i = n.toNat := by omega
    subst hi
    refine fin_i [(0, some 7)] rfl (fz ?_) (fz ?_) <;> first | trivial | rfl | trace_state
theorem rng_stp (i : Nat) : (tenF i).map intE ++ [[.int .i64 (i : Int)]] = (tenF (i + 1)).map intE := by
  simp only [tenF, List.range_succ, List.map_append]; rfl
structure W22 where
  (l : List Mp)
  (s h nx : Int)
def W22.ok (x : W22) : Prop := WL x.l ∧ x.l.length = 12 ∧ (x.s = 8 ∨ x.s = 16) ∧ (0 ≤ x.h ∧ x.h ≤ 2 * x.s - 1) ∧ (x.nx = 0 ∨ x.nx = 7 ∨ x.nx = 65535)
structure DSx where
  (w : W22)
  (p : Pk)
  (size cut : Int)
def DSx.ok (x : DSx) : Prop := x.w.ok ∧ x.p.sup = true ∧ (8 ≤ x.size ∧ x.size ≤ 128) ∧ (x.cut = 40 ∨ x.cut = 60 ∨ x.cut = 100 ∨ x.cut = 128)
end Go.Proofs.YtfcmcedeapgdcaaGreat
end
section
namespace Go.Proofs.YtfcmcedeapgdcaaGreat
open Go Go.RowKit Go.Vc
set_option linter.unusedVariables false
set_option linter.unusedSimpArgs false
set_option linter.unnecessarySimpa false
theorem fl_n {l : List Mp} {ps : Pg} {d b s h t pb pz pc : Int} {fr : List Int} (hh : ringOkB b s h t = false ∨ poolB pb pz pc fr = false) : fillRF l ps d b s h t pb pz pc fr = (ps, t, fr, 0) := by
  refine if_neg ?_
  rcases hh with hh | hh <;> rw [hh] <;> simp
theorem fl_y {l : List Mp} {ps p : Pg} {d b s h t u pb pz pc : Int} {fr : List Int} {n : Nat} (h1 : ringOkB b s h t = true) (h2 : poolB pb pz pc fr = true) (h3 : fillG l d b s h pb pz fr ps t 0 = (p, u, n)) : fillRF l ps d b s h t pb pz pc fr = (p, u, fr.drop n, n) := by
  unfold fillRF
  rw [if_pos (by rw [h1, h2]; rfl), h3]
theorem fg_end {l : List Mp} {d b s h pb pz u : Int} {fr : List Int} {p : Pg} {i : Nat} (hi : ¬ i < fr.length) : fillG l d b s h pb pz (fr.drop i) p u i = (p, u, i) := by
  rw [List.drop_eq_nil_of_le (by omega)]; rfl
theorem fg_no {l : List Mp} {d b s h pb pz u : Int} {fr : List Int} {p : Pg} {i : Nat} (hi : i < fr.length) (hr : (rputF l p d b s h u (encDF 3 0 pz (pb + at' fr i * pz) 0 (at' fr i))).2.2 = false) : fillG l d b s h pb pz (fr.drop i) p u i = (p, u, i) := by
  rw [List.drop_eq_getElem_cons hi, ← atp_eq hi]
  unfold fillG
  split
  · rename_i g; rw [g] at hr; cases hr
  · rfl
theorem fg_go {l : List Mp} {d b s h pb pz u : Int} {fr : List Int} {p : Pg} {i : Nat} (hi : i < fr.length) (hr : (rputF l p d b s h u (encDF 3 0 pz (pb + at' fr i * pz) 0 (at' fr i))).2.2 = true) : fillG l d b s h pb pz (fr.drop i) p u i = fillG l d b s h pb pz (fr.drop (i + 1)) (rputF l p d b s h u (encDF 3 0 pz (pb + at' fr i * pz) 0 (at' fr i))).1 (rputF l p d b s h u (encDF 3 0 pz (pb + at' fr i * pz) 0 (at' fr i))).2.1 (i + 1) := by
  rw [List.drop_eq_getElem_cons hi, ← atp_eq hi]
  conv => lhs; unfold fillG
  split
  · rename_i g; rw [g]
  · rename_i g; rw [g] at hr; cases hr
theorem fg_fr {l : List Mp} {d b s h pb pz u : Int} {fr : List Int} {p : Pg} {i : Nat} (hf : freeF b s h u ≤ 0) : fillG l d b s h pb pz (fr.drop i) p u i = (p, u, i) := fillG_full (by have := freeF_nn b s h u; omega) _
theorem bufA_in {pb pz pc : Int} {fr : List Int} {i : Nat} (h1 : poolB pb pz pc fr = true) (hi : i < fr.length) : bufA pb pz pc fr (at' fr i) = pb + at' fr i * pz ∧ 0 ≤ pb ∧ pb ≤ 130944 := by
  obtain ⟨b0, b1, z0, z1, c0, c1, hk⟩ := poolB_facts h1
  have := hk _ (atp_mem hi)
  exact ⟨(bufA_y h1 (inB_iff.2 (by omega))).1, b0, b1⟩
theorem encDF_sz (op fl ln at_ sz ck : Int) : (encDF op fl ln at_ sz ck).size ≤ 1099511627776 := by
  unfold encDF
  split
  · rename_i h; have := encD_size h; omega
  · decide
theorem rpt_y {l : List Mp} {ps : Pg} {d b s h t : Int} {e : ByteArray} (hr : (rputF l ps d b s h t e).2.2 = true) : ringOkB b s h (rputF l ps d b s h t e).2.1 = true ∧ (rputF l ps d b s h t e).1.length = ps.length := by
  generalize hx : rputF l ps d b s h t e = x at hr
  obtain ⟨x1, x2, x3⟩ := x
  simp only at hr
  subst hr
  exact ⟨(rputF_t hx.symm).2, rputF_len hx.symm⟩
set_option maxHeartbeats 4000000 in
theorem c_impl_FillRing {l : List Mp} {ps : Pg} {d b s h t pb pz pc : Int} {fr : List Int} (hl : l.length ≤ 1099511627776 := by first | with_reducible assumption | omega) (hp : ps.length ≤ 1099511627776 := by first | with_reducible assumption | omega) (hl_fr : fr.length ≤ 1099511627776 := by first | with_reducible assumption | omega) : Con0 Tryz.prog 49 [.one (.sl 4 (l.map mpE)), .agg [.sl 1 (ps.map strE)], I d, .agg [V b, V s, V h, V t], .agg [V pb, V pz, V pc, .sl 1 (fr.map intE)]] (.tup [.agg [.hs 0], .agg [V b, V s, V h, V (fillRF l ps d b s h t pb pz pc fr).2.1], .agg [V pb, V pz, V pc, .hs 1], I ((fillRF l ps d b s h t pb pz pc fr).2.2.2 : Nat)]) [(0, .arr 9 1 ((fillRF l ps d b s h t pb pz pc fr).1.map strE)), (1, .arr 3 1 ((fillRF l ps d b s h t pb pz pc fr).2.2.1.map intE))] := by
  refine con_i Tryz.func49 Tryz.ntmps49 (t := [(0, .one (.sl 4 (l.map mpE))), (1, .agg [.sl 1 (ps.map strE)]), (2, I d), (3, .agg [V b, V s, V h, V t]), (4, .agg [V pb, V pz, V pc, .sl 1 (fr.map intE)])]) rfl ?_
  refine vc_sr ?_
  iterate 7 refine vo ?_
  refine vnt ?_
  refine vc_sr ?_
  refine vo ?_
  refine voc c_impl_copyMemory rfl rfl ?_
  refine vo ?_
  refine voc c_impl_copyPool rfl rfl ?_
  iterate 4 refine vo ?_
  refine vnt ?_
  refine vc_seq' ?_
  refine vc_sr ?_
  refine vo ?_
  refine voc c_impl_RingOk rfl rfl ?_
  iterate 2 refine vo ?_
  refine vsp (fun g1 => ?_) (fun g1 => ?_)
  · iterate 3 refine vof ?_
    refine vo ?_
    refine vnt ?_
    refine vc_then ?_
    refine vc_sr ?_
    iterate 7 refine vo ?_
    refine vnt ?_
    refine vc_ret ?_
    refine thn_r ?_
    have hh : fillRF l ps d b s h t pb pz pc fr = _ := fl_n (.inl g1)
    refine fin_i [(0, some 192), (1, some 208)] rfl (fz ?_) (fz ?_)
    · rw [hh]; first | exact ⟨rfl, rfl⟩ | trivial | simp
    · rw [hh]; first | exact ⟨rfl, rfl⟩ | trivial | simp
  · refine von ?_
    refine vocn c_impl_PoolOk rfl rfl ?_
    refine von ?_
    refine vo ?_
    refine vnt ?_
    refine vc_if (fun g2 => ?_) (fun g2 => ?_)
    · refine vc_sr ?_
      iterate 7 refine vo ?_
      refine vnt ?_
      refine vc_ret ?_
      refine thn_r ?_
      have hh : fillRF l ps d b s h t pb pz pc fr = _ := fl_n (.inr g2)
      refine fin_i [(0, some 192), (1, some 208)] rfl (fz ?_) (fz ?_)
      · rw [hh]; first | exact ⟨rfl, rfl⟩ | trivial | simp
      · rw [hh]; first | exact ⟨rfl, rfl⟩ | trivial | simp
    · refine vc_skip ?_
      refine thn ?_
      refine vc_sr ?_
      refine vo ?_
      refine vnt ?_
      refine vc_seq' ?_
      refine vc_sr ?_
      iterate 3 refine vo ?_
      try first | refine vlb ?_ | refine vln ?_
      refine vo ?_
      refine vnt ?_
      refine vc_block ?_
      refine vc_lp3 [0, 2, 8, 9, 10, 11, 12, 14, 15, 39, 40] [72, 80, 88, 96, 120, 208] (fun (i : Nat) (p : Pg) (u : Int) => [(16, I (i : Nat)), (41, I (i : Nat))]) (fun (i : Nat) (p : Pg) (u : Int) => [(7, .arr 9 1 (p.map strE)), (64, .row 29 [V b, V s, V h, V u]), (112, .row 27 [.hs 7])]) (fun (i : Nat) (p : Pg) (u : Int) => fillG l d b s h pb pz fr ps t 0 = fillG l d b s h pb pz (fr.drop i) p u i ∧ i ≤ fr.length ∧ p.length = ps.length ∧ ringOkB b s h u = true) (fun (i : Nat) (p : Pg) (u : Int) => fr.length - i) 0 ps t rfl rfl (sub_i [(112, some 112), (64, some 64), (7, some 192)] (fz ?_) (fz ?_)) ?_ fun i p u hI => ?_
      · first | trivial | rfl
      · first | trivial | rfl | exact ⟨rfl, rfl⟩ | exact ⟨rfl, rfl, rfl⟩ | trace_state
      · exact ⟨rfl, Nat.zero_le _, rfl, g1⟩
      refine vc_nf rfl rfl ?_
      have hpl := hI.2.2.1
      have hdn : (fr.drop (i : Int).toNat).length ≤ 1099511627776 := by rw [List.length_drop]; omega
      refine vc_sr ?_
      refine vo ?_
      refine vnt ?_
      refine vc_seq' ?_
      refine vc_if (fun g3 => ?_) (fun g3 => ?_)
      · obtain ⟨hbe, hb0, hb1⟩ := bufA_in g2 g3
        have hze := encDF_sz 3 0 pz (pb + at' fr i * pz) 0 (at' fr i)
        refine vc_skip ?_
        refine thn ?_
        refine vc_seq' ?_
        refine vc_block ?_
        refine vc_sr ?_
        refine vo ?_
        try with_reducible (first | refine vep ?_ | refine vpt ?_)
        iterate 2 refine vo ?_
        refine vnt ?_
        refine vc_sr ?_
        iterate 4 refine vo ?_
        refine voc c_impl_BufferAddress rfl rfl ?_
        refine veq hbe ?_
        iterate 2 refine vo ?_
        refine voc c_impl_EncodeDesc rfl rfl ?_
        refine vo ?_
        refine vnt ?_
        refine vc_sr ?_
        iterate 5 refine vo ?_
        refine voc c_impl_RingPut rfl rfl ?_
        iterate 9 refine vo ?_
        refine vnt ?_
        refine vc_seq' ?_
        refine vc_sr ?_
        iterate 2 refine vo ?_
        refine vnt ?_
        refine vc_if (fun g4 => ?_) (fun g4 => ?_)
        · refine vc_exit ?_
          refine thn_x ?_
          refine inB_y ?_
          refine thn_x ?_
          refine thn_x ?_
          refine inB_x ?_
          refine thn ?_
          refine vc_sr ?_
          iterate 4 refine vo ?_
          try first | refine vdr ?_ | refine vtk ?_
          refine voc c_impl_copyInts rfl rfl ?_
          iterate 2 refine vo ?_
          refine vnt ?_
          refine vc_sr ?_
          iterate 8 refine vo ?_
          refine vnt ?_
          refine vc_ret ?_
          have hh : fillRF l ps d b s h t pb pz pc fr = _ := fl_y g1 g2 (hI.1.trans (fg_no g3 g4))
          refine fin_i [(0, some 7), (1, some 592)] rfl (fz ?_) (fz ?_)
          · rw [hh]; first | exact ⟨rfl, rfl⟩ | trivial | simp
          · rw [hh]; first | exact ⟨rfl, rfl⟩ | trivial | simp
        · refine vc_skip ?_
          refine thn ?_
          refine vc_sr ?_
          iterate 4 refine vo ?_
          refine vnt ?_
          refine vc_region ?_
          iterate 2 refine vo ?_
          try refine vwr ?_
          refine vo ?_
          refine vnil ?_
          refine inB_n ?_
          refine thn ?_
          refine vc_region ?_
          refine vo ?_
          try refine vwr ?_
          refine vo ?_
          refine vnt ?_
          have hq := rpt_y (l := l) (ps := p) (d := d) (b := b) (s := s) (h := h) (t := u) (e := encDF 3 0 pz (pb + at' fr i * pz) 0 (at' fr i)) g4
          refine ⟨i + 1, (rputF l p d b s h u (encDF 3 0 pz (pb + at' fr i * pz) 0 (at' fr i))).1, (rputF l p d b s h u (encDF 3 0 pz (pb + at' fr i * pz) 0 (at' fr i))).2.1, ?_, ?_, sub_i [(112, some 112), (64, some 64), (7, some 472)] (fz ?_) (fz ?_)⟩
          · exact ⟨hI.1.trans (fg_go g3 g4), by omega, by rw [hq.2]; exact hI.2.2.1, hq.1⟩
          · omega
          · first | trivial | rfl | exact ⟨rfl, rfl⟩
          · first | trivial | rfl | exact ⟨rfl, rfl⟩ | exact ⟨rfl, rfl, rfl⟩ | exact ⟨rfl, rfl, rfl, rfl⟩ | trace_state
      · refine vc_exit ?_
        refine thn_x ?_
        refine thn_x ?_
        refine inB_x ?_
        refine thn ?_
        refine vc_sr ?_
        iterate 4 refine vo ?_
        try first | refine vdr ?_ | refine vtk ?_
        refine voc c_impl_copyInts rfl rfl ?_
        iterate 2 refine vo ?_
        refine vnt ?_
        refine vc_sr ?_
        iterate 8 refine vo ?_
        refine vnt ?_
        refine vc_ret ?_
        have hh : fillRF l ps d b s h t pb pz pc fr = _ := fl_y g1 g2 (hI.1.trans (fg_end g3))
        refine fin_i [(0, some 7), (1, some 592)] rfl (fz ?_) (fz ?_)
        · rw [hh]; first | exact ⟨rfl, rfl⟩ | trivial | simp
        · rw [hh]; first | exact ⟨rfl, rfl⟩ | trivial | simp
set_option maxHeartbeats 4000000 in
theorem c_spec_FillRing {l : List Mp} {ps : Pg} {d b s h t pb pz pc : Int} {fr : List Int} (hl : l.length ≤ 1099511627776 := by first | with_reducible assumption | omega) (hp : ps.length ≤ 1099511627776 := by first | with_reducible assumption | omega) (hl_fr : fr.length ≤ 1099511627776 := by first | with_reducible assumption | omega) : Con0 Tryz.prog 23 [.one (.sl 4 (l.map mpE)), .agg [.sl 1 (ps.map strE)], I d, .agg [V b, V s, V h, V t], .agg [V pb, V pz, V pc, .sl 1 (fr.map intE)]] (.tup [.agg [.hs 0], .agg [V b, V s, V h, V (fillRF l ps d b s h t pb pz pc fr).2.1], .agg [V pb, V pz, V pc, .hs 1], I ((fillRF l ps d b s h t pb pz pc fr).2.2.2 : Nat)]) [(0, .arr 9 1 ((fillRF l ps d b s h t pb pz pc fr).1.map strE)), (1, .arr 3 1 ((fillRF l ps d b s h t pb pz pc fr).2.2.1.map intE))] := by
  refine con_i Tryz.func23 Tryz.ntmps23 (t := [(0, .one (.sl 4 (l.map mpE))), (1, .agg [.sl 1 (ps.map strE)]), (2, I d), (3, .agg [V b, V s, V h, V t]), (4, .agg [V pb, V pz, V pc, .sl 1 (fr.map intE)])]) rfl ?_
  refine vc_sr ?_
  iterate 7 refine vo ?_
  refine vnt ?_
  refine vc_sr ?_
  refine vo ?_
  refine voc c_spec_l16Copy rfl rfl ?_
  iterate 2 refine vo ?_
  refine vnt ?_
  refine vc_sr ?_
  refine vo ?_
  refine voc c_spec_l21Copy rfl rfl ?_
  iterate 2 refine vo ?_
  refine vnt ?_
  refine vc_sr ?_
  refine vo ?_
  refine vnt ?_
  refine vc_seq' ?_
  refine vc_sr ?_
  refine vo ?_
  refine voc c_spec_RingOk rfl rfl ?_
  iterate 2 refine vo ?_
  refine vsp (fun g1 => ?_) (fun g1 => ?_)
  · iterate 3 refine vof ?_
    refine vo ?_
    refine vnt ?_
    refine vc_then ?_
    refine vc_sr ?_
    iterate 7 refine vo ?_
    refine vnt ?_
    refine vc_ret ?_
    refine thn_r ?_
    have hh : fillRF l ps d b s h t pb pz pc fr = _ := fl_n (.inl g1)
    refine fin_i [(0, some 176), (1, some 192)] rfl (fz ?_) (fz ?_)
    · rw [hh]; first | exact ⟨rfl, rfl⟩ | trivial | simp
    · rw [hh]; first | exact ⟨rfl, rfl⟩ | trivial | simp
  · refine von ?_
    refine vocn c_spec_PoolOk rfl rfl ?_
    refine von ?_
    refine vo ?_
    refine vnt ?_
    refine vc_if (fun g2 => ?_) (fun g2 => ?_)
    · refine vc_sr ?_
      iterate 7 refine vo ?_
      refine vnt ?_
      refine vc_ret ?_
      refine thn_r ?_
      have hh : fillRF l ps d b s h t pb pz pc fr = _ := fl_n (.inr g2)
      refine fin_i [(0, some 176), (1, some 192)] rfl (fz ?_) (fz ?_)
      · rw [hh]; first | exact ⟨rfl, rfl⟩ | trivial | simp
      · rw [hh]; first | exact ⟨rfl, rfl⟩ | trivial | simp
    · refine vc_skip ?_
      refine thn ?_
      refine vc_seq' ?_
      refine vc_block ?_
      refine vc_lp3 [0, 2, 8, 9, 10, 11, 12, 14, 15] [72, 80, 88, 96] (fun (i : Nat) (p : Pg) (u : Int) => [(16, I (i : Nat))]) (fun (i : Nat) (p : Pg) (u : Int) => [(7, .arr 9 1 (p.map strE)), (9, .arr 3 1 ((fr.drop i).map intE)), (64, .row 29 [V b, V s, V h, V u]), (112, .row 27 [.hs 7]), (120, .row 42 [V pb, V pz, V pc, .hs 9])]) (fun (i : Nat) (p : Pg) (u : Int) => fillG l d b s h pb pz fr ps t 0 = fillG l d b s h pb pz (fr.drop i) p u i ∧ i ≤ fr.length ∧ p.length = ps.length ∧ ringOkB b s h u = true) (fun (i : Nat) (p : Pg) (u : Int) => fr.length - i) 0 ps t rfl rfl (sub_i [(112, some 112), (64, some 64), (7, some 176), (120, some 120), (9, some 192)] (fz ?_) (fz ?_)) ?_ fun i p u hI => ?_
      · first | trivial | rfl
      · first | trivial | rfl | exact ⟨rfl, rfl⟩ | exact ⟨rfl, rfl, rfl⟩ | trace_state
      · exact ⟨rfl, Nat.zero_le _, rfl, g1⟩
      refine vc_nf rfl rfl ?_
      have hpl := hI.2.2.1
      have hdl : (fr.drop i).length = fr.length - i := List.length_drop
      have hdd : (List.drop 1 (List.map intE (fr.drop i))).length ≤ fr.length := by rw [List.length_drop, List.length_map]; omega
      refine vc_seq' ?_
      refine vc_sr ?_
      refine vo ?_
      refine voc c_spec_RingFree rfl rfl ?_
      iterate 2 refine vo ?_
      refine vsp (fun g3 => ?_) (fun g3 => ?_)
      · iterate 3 refine von ?_
        try first | refine vlb ?_ | refine vln ?_
        refine von ?_
        refine vo ?_
        refine vnt ?_
        refine vc_if (fun g4 => ?_) (fun g4 => ?_)
        · have hlt : i < fr.length := by omega
          obtain ⟨hbe, hb0, hb1⟩ := bufA_in g2 hlt
          have hze := encDF_sz 3 0 pz (pb + at' fr i * pz) 0 (at' fr i)
          have hat : at' (fr.drop i) 0 = at' fr i := by rw [atp_eq (by omega), atp_eq hlt, List.getElem_drop]; rfl
          refine vc_skip ?_
          refine thn ?_
          refine vc_block ?_
          refine vc_sr ?_
          iterate 3 refine vo ?_
          first | refine vepl (j := 0) rfl ?_ | refine vptl (j := 0) rfl ?_
          refine vo ?_
          refine veq hat ?_
          refine vo ?_
          refine vnt ?_
          refine vc_sr ?_
          iterate 8 refine vo ?_
          refine voc c_spec_BufferAddress rfl rfl ?_
          refine veq hbe ?_
          iterate 2 refine vo ?_
          refine voc c_spec_EncodeDesc rfl rfl ?_
          refine voc c_spec_RingPut rfl rfl ?_
          iterate 9 refine vo ?_
          refine vnt ?_
          refine vc_seq' ?_
          refine vc_sr ?_
          iterate 2 refine vo ?_
          refine vnt ?_
          refine vc_if (fun g5 => ?_) (fun g5 => ?_)
          · refine vc_exit ?_
            refine thn_x ?_
            refine inB_y ?_
            refine thn_x ?_
            refine inB_x ?_
            refine thn ?_
            refine vc_sr ?_
            iterate 8 refine vo ?_
            refine vnt ?_
            refine vc_ret ?_
            have hh : fillRF l ps d b s h t pb pz pc fr = _ := fl_y g1 g2 (hI.1.trans (fg_no hlt g5))
            refine fin_i [(0, some 7), (1, some 9)] rfl (fz ?_) (fz ?_)
            · rw [hh]; first | exact ⟨rfl, rfl⟩ | trivial | simp
            · rw [hh]; first | exact ⟨rfl, rfl⟩ | trivial | simp
          · refine vc_skip ?_
            refine thn ?_
            refine vc_sr ?_
            iterate 2 refine vo ?_
            refine vnt ?_
            refine vc_sr ?_
            iterate 2 refine vo ?_
            refine vnt ?_
            refine vc_sr ?_
            iterate 4 refine vo ?_
            try first | refine vdrl (j := 1) rfl ?_ | refine vhc (j := 1) rfl ?_
            refine vo ?_
            rw [List.nil_append, ← List.map_drop, List.drop_drop]
            iterate 2 refine vo ?_
            refine vnt ?_
            refine vc_region ?_
            iterate 2 refine vo ?_
            try refine vwr ?_
            refine vo ?_
            refine vnil ?_
            refine inB_n ?_
            refine thn ?_
            have hq := rpt_y (l := l) (ps := p) (d := d) (b := b) (s := s) (h := h) (t := u) (e := encDF 3 0 pz (pb + at' fr i * pz) 0 (at' fr i)) g5
            refine ⟨i + 1, (rputF l p d b s h u (encDF 3 0 pz (pb + at' fr i * pz) 0 (at' fr i))).1, (rputF l p d b s h u (encDF 3 0 pz (pb + at' fr i * pz) 0 (at' fr i))).2.1, ?_, ?_, sub_i [(112, some 112), (64, some 64), (7, some 496), (120, some 120), (9, some 592)] (fz ?_) (fz ?_)⟩
            · exact ⟨hI.1.trans (fg_go hlt g5), by omega, by rw [hq.2]; exact hI.2.2.1, hq.1⟩
            · omega
            · first | trivial | rfl | exact ⟨rfl, rfl⟩
            · first | trivial | rfl | exact ⟨rfl, rfl⟩ | exact ⟨rfl, rfl, rfl⟩ | exact ⟨rfl, rfl, rfl, rfl⟩ | trace_state
        · refine vc_exit ?_
          refine thn_x ?_
          refine thn_x ?_
          refine inB_x ?_
          refine thn ?_
          refine vc_sr ?_
          iterate 8 refine vo ?_
          refine vnt ?_
          refine vc_ret ?_
          have hh : fillRF l ps d b s h t pb pz pc fr = _ := fl_y g1 g2 (hI.1.trans (fg_end (by omega)))
          refine fin_i [(0, some 7), (1, some 9)] rfl (fz ?_) (fz ?_)
          · rw [hh]; first | exact ⟨rfl, rfl⟩ | trivial | simp
          · rw [hh]; first | exact ⟨rfl, rfl⟩ | trivial | simp
      · iterate 4 refine vof ?_
        refine vo ?_
        refine vnt ?_
        refine vc_else ?_
        refine vc_exit ?_
        refine thn_x ?_
        refine thn_x ?_
        refine inB_x ?_
        refine thn ?_
        refine vc_sr ?_
        iterate 8 refine vo ?_
        refine vnt ?_
        refine vc_ret ?_
        have hh : fillRF l ps d b s h t pb pz pc fr = _ := fl_y g1 g2 (hI.1.trans (fg_fr (by omega)))
        refine fin_i [(0, some 7), (1, some 9)] rfl (fz ?_) (fz ?_)
        · rw [hh]; first | exact ⟨rfl, rfl⟩ | trivial | simp
        · rw [hh]; first | exact ⟨rfl, rfl⟩ | trivial | simp
end Go.Proofs.YtfcmcedeapgdcaaGreat
end

/- Part 4 of what the proof of FnExactSendPacket rests on: an idealised machine, contracts of functions, and the walk of the law. No condition. -/
import Derived.Test.YtnikopahkjmneaaGreatMFnExactSendPacketc
section
namespace Go.Proofs.YtnikopahkjmneaaGreat
open Go Go.RowKit Go.Vc
set_option linter.unusedVariables false
set_option linter.unusedSimpArgs false
set_option linter.unnecessarySimpa false
section
variable {P : Program} [TyEnv P] {n : Nat} {ops os : List Oper} {dr : Bool} {K : Tm → Hp → Prop} {t : Tm} {H : Hp} {fp : List Fp} {d : Nat}
theorem vlb {s : ByteArray} (h : Vd P n ops dr K os ((d, .one (.v (.int .i64 (s.size : Int)))) :: t) H fp) : Vd P n ops dr K os ((d, .one (.v (.int .i64 ((bytesE s).length : Int)))) :: t) H fp := by
  rw [bytesE_len]; exact h
end
theorem pg_at {ps : Pg} {a : Int} (h0 : 0 ≤ a) (h : a / 128 < (ps.length : Int)) : at' ps (a / 128).toNat = pageAt ps a := by
  unfold at' pageAt
  rw [List.getD_eq_getElem?_getD, List.getElem?_eq_getElem (show (a / 128).toNat < ps.length by omega)]; rfl
theorem seg_in {ps : Pg} {a n : Int} (hm : MemOk ps) (hs : Seg ps.length (a, n)) : memInB ps a n = true := by
  obtain ⟨h0, h1, h2, h3⟩ := hs
  simp only at h0 h1 h2 h3
  exact memInB_iff.2 ⟨hm, by omega, by omega, by omega, by omega⟩
theorem seg_pg {ps : Pg} {a n : Int} (hm : MemOk ps) (hs : Seg ps.length (a, n)) : (at' ps (a / 128).toNat).size = 128 := by
  obtain ⟨h0, h1, h2, h3⟩ := hs
  obtain ⟨g, e, he⟩ := hm.page h0 h3
  rw [pg_at h0 h3]; exact he
theorem seg_wr {ps : Pg} {a : Int} {S : ByteArray} (hs : Seg ps.length (a, (S.size : Int))) : (writeSeg ps a S).map strE = (ps.map strE).set (a / 128).toNat [.string (putB (at' ps (a / 128).toNat) (a % 128).toNat S)] := by
  obtain ⟨h0, h1, h2, h3⟩ := hs
  rw [pg_at h0 h3, writeSeg, List.map_set]; rfl
theorem seg_wr2 {ps : Pg} {a : Int} {S : ByteArray} (hm : MemOk ps) (hs : Seg ps.length (a, (S.size : Int))) : (writeSeg ps a S).map strE = (ps.map strE).set (a / 128).toNat [.string (putBF (at' ps (a / 128).toNat) (a % 128) S)] := by
  rw [seg_wr hs]
  have hg := seg_pg hm hs
  obtain ⟨h0, h1, h2, h3⟩ := hs
  simp only at h2
  have e : (a % 128) = ((a % 128).toNat : Nat) := by omega
  rw [show putBF (at' ps (a / 128).toNat) (a % 128) S = putB (at' ps (a / 128).toNat) (a % 128).toNat S by
    conv => lhs; rw [e]
    exact putBF_in (by omega)]
theorem ex_full (S : ByteArray) : S.extract (Int.toNat (S.size : Nat)) S.size = ⟨#[]⟩ := ba_full S
theorem ex_all (S : ByteArray) : S.extract (Int.toNat 0) (Int.toNat (S.size : Nat)) = S := ba_all S
set_option maxHeartbeats 4000000 in
theorem c_impl_WriteMemory {ps : Pg} {a : Int} {S : ByteArray} (hm : MemOk ps := by assumption) (hs : Seg ps.length (a, (S.size : Int)) := by assumption) : Con0 Tryz.prog 153 [.agg [.sl 1 (ps.map strE)], I a, Z S] (.tup [.agg [.hs 0], B true]) [(0, .arr 9 1 ((writeSeg ps a S).map strE))] := by
  have hw := seg_in hm hs
  have hg := seg_pg hm hs
  have hs1 : 0 ≤ a ∧ 1 ≤ (S.size : Int) ∧ a % 128 + S.size ≤ 128 ∧ a / 128 < (ps.length : Int) := hs
  have hl := hm.1
  have he : ByteArray.size ⟨#[]⟩ = 0 := rfl
  have hs2 : S.size ≤ 1099511627776 := by omega
  have hg2 : (at' ps (a / 128).toNat).size ≤ 1099511627776 := by omega
  refine con_i Tryz.func153 Tryz.ntmps153 (t := [(0, .agg [.sl 1 (ps.map strE)]), (1, I a), (2, Z S)]) rfl ?_
  refine vc_sr ?_
  iterate 3 refine vo ?_
  refine vnt ?_
  refine vc_sr ?_
  refine vo ?_
  refine voc c_impl_copyMemory rfl rfl ?_
  iterate 2 refine vo ?_
  refine vnt ?_
  refine vc_seq' ?_
  refine vc_sr ?_
  iterate 4 refine vo ?_
  refine voc c_impl_within rfl rfl ?_
  refine vo ?_
  refine vnt ?_
  refine vc_if (fun g1 => ?_) (fun g1 => ?_)
  · rw [hw] at g1; cases g1
  · refine vc_skip ?_
    refine thn ?_
    refine vc_seq' ?_
    refine vc_block ?_
    refine vc_lp3 [6, 8] [48, 64] (fun (q : Pg) (b : Int) (s : ByteArray) => [(1, I b), (2, Z s)]) (fun (q : Pg) (b : Int) (s : ByteArray) => [(96, .arr 9 1 (q.map strE))]) (fun (q : Pg) (b : Int) (s : ByteArray) => (q = ps ∧ b = a ∧ s = S) ∨ (q = writeSeg ps a S ∧ b = a + S.size ∧ s = ⟨#[]⟩)) (fun (q : Pg) (b : Int) (s : ByteArray) => s.size) ps a S rfl rfl (sub_i [] (fz ?_) (fz ?_)) ?_ fun q b s hI => ?_
    · first | trivial | rfl
    · first | trivial | rfl
    · exact .inl ⟨rfl, rfl, rfl⟩
    refine vc_nf rfl rfl ?_
    refine vc_seq' ?_
    refine vc_sr ?_
    iterate 3 refine vo ?_
    refine vnt ?_
    refine vc_if (fun g2 => ?_) (fun g2 => ?_)
    · obtain ⟨rfl, rfl, rfl⟩ : ps = q ∧ a = b ∧ S = s := by rcases hI with h | h <;> first | exact ⟨h.1.symm, h.2.1.symm, h.2.2.symm⟩ | (exfalso; rw [h.2.2] at g2; simp at g2; omega)
      refine vc_skip ?_
      refine thn ?_
      refine vc_block ?_
      refine vc_sr ?_
      iterate 4 refine vo ?_
      try refine veq (IntWalk.i64_quo _ _ (by omega)) ?_
      refine vo ?_
      try with_reducible (first | refine vep ?_ | refine vpt ?_)
      iterate 3 refine vo ?_
      refine vnt ?_
      refine vc_sr ?_
      iterate 3 refine vo ?_
      try refine veq (Int.tmod_eq_emod_of_nonneg (by omega)) ?_
      iterate 4 refine vo ?_
      refine vnt ?_
      refine vc_sr ?_
      iterate 4 refine vo ?_
      try refine veq (IntWalk.i64_quo _ _ (by omega)) ?_
      iterate 3 refine vo ?_
      try with_reducible (first | refine vep ?_ | refine vpt ?_)
      refine vo ?_
      refine vnt ?_
      refine vc_sr ?_
      iterate 3 refine vo ?_
      refine vstr (ex_full S) ?_
      refine vo ?_
      refine vnt ?_
      refine vc_region ?_
      iterate 3 refine vo ?_
      try refine vwr ?_
      refine vo ?_
      refine vnil ?_
      refine inB_n ?_
      refine thn ?_
      refine ⟨writeSeg ps a S, a + S.size, ⟨#[]⟩, ?_, ?_, sub_i [] (fz ?_) (fz ?_)⟩
      · exact .inr ⟨rfl, rfl, rfl⟩
      · omega
      · first | trivial | rfl
      · first | exact seg_wr hs | exact seg_wr2 hm hs
    · obtain rfl : q = writeSeg ps a S := by rcases hI with h | h <;> first | exact h.1 | (exfalso; rw [h.2.2] at g2; omega)
      refine vc_exit ?_
      refine thn_x ?_
      refine thn_x ?_
      refine inB_x ?_
      refine thn ?_
      refine vc_sr ?_
      iterate 3 refine vo ?_
      refine vnt ?_
      refine vc_ret ?_
      refine fin_i [(0, some 96)] rfl (fz ?_) (fz ?_) <;> first | trivial | rfl
set_option maxHeartbeats 4000000 in
theorem c_spec_WriteMemory {ps : Pg} {a : Int} {S : ByteArray} (hm : MemOk ps := by assumption) (hs : Seg ps.length (a, (S.size : Int)) := by assumption) : Con0 Tryz.prog 121 [.agg [.sl 1 (ps.map strE)], I a, Z S] (.tup [.agg [.hs 0], B true]) [(0, .arr 9 1 ((writeSeg ps a S).map strE))] := by
  have hw := seg_in hm hs
  have hg := seg_pg hm hs
  have hs1 : 0 ≤ a ∧ 1 ≤ (S.size : Int) ∧ a % 128 + S.size ≤ 128 ∧ a / 128 < (ps.length : Int) := hs
  have hl := hm.1
  have he : ByteArray.size ⟨#[]⟩ = 0 := rfl
  have hs2 : S.size ≤ 1099511627776 := by omega
  have hg2 : (at' ps (a / 128).toNat).size ≤ 1099511627776 := by omega
  refine con_i Tryz.func121 Tryz.ntmps121 (t := [(0, .agg [.sl 1 (ps.map strE)]), (1, I a), (2, Z S)]) rfl ?_
  refine vc_sr ?_
  iterate 3 refine vo ?_
  refine vnt ?_
  refine vc_sr ?_
  refine vo ?_
  refine voc c_spec_l16Copy rfl rfl ?_
  iterate 2 refine vo ?_
  refine vnt ?_
  refine vc_seq' ?_
  refine vc_sr ?_
  iterate 4 refine vo ?_
  refine voc c_spec_l16Within rfl rfl ?_
  refine vo ?_
  refine vnt ?_
  refine vc_if (fun g1 => ?_) (fun g1 => ?_)
  · rw [hw] at g1; cases g1
  · refine vc_skip ?_
    refine thn ?_
    refine vc_seq' ?_
    refine vc_block ?_
    refine vc_lp3 [6, 8] [48, 64] (fun (q : Pg) (b : Int) (s : ByteArray) => [(1, I b), (2, Z s)]) (fun (q : Pg) (b : Int) (s : ByteArray) => [(96, .arr 9 1 (q.map strE))]) (fun (q : Pg) (b : Int) (s : ByteArray) => (q = ps ∧ b = a ∧ s = S) ∨ (q = writeSeg ps a S ∧ b = a + S.size ∧ s = ⟨#[]⟩)) (fun (q : Pg) (b : Int) (s : ByteArray) => s.size) ps a S rfl rfl (sub_i [] (fz ?_) (fz ?_)) ?_ fun q b s hI => ?_
    · first | trivial | rfl
    · first | trivial | rfl
    · exact .inl ⟨rfl, rfl, rfl⟩
    refine vc_nf rfl rfl ?_
    refine vc_seq' ?_
    refine vc_sr ?_
    iterate 3 refine vo ?_
    refine vnt ?_
    refine vc_if (fun g2 => ?_) (fun g2 => ?_)
    · obtain ⟨rfl, rfl, rfl⟩ : ps = q ∧ a = b ∧ S = s := by rcases hI with h | h <;> first | exact ⟨h.1.symm, h.2.1.symm, h.2.2.symm⟩ | (exfalso; rw [h.2.2] at g2; simp at g2; omega)
      refine vc_skip ?_
      refine thn ?_
      refine vc_block ?_
      refine vc_sr ?_
      iterate 2 refine vo ?_
      try refine veq (Int.tmod_eq_emod_of_nonneg (by omega)) ?_
      refine vo ?_
      refine vnt ?_
      refine vc_sr ?_
      iterate 4 refine vo ?_
      try refine vwr ?_
      refine vo ?_
      refine veq (show min (S.size : Int) (128 - a % 128) = S.size by omega) ?_
      refine vo ?_
      refine vnt ?_
      refine vc_sr ?_
      iterate 4 refine vo ?_
      try refine veq (IntWalk.i64_quo _ _ (by omega)) ?_
      iterate 4 refine vo ?_
      try refine veq (IntWalk.i64_quo _ _ (by omega)) ?_
      refine vo ?_
      try with_reducible (first | refine vep ?_ | refine vpt ?_)
      iterate 5 refine vo ?_
      refine vstr (ex_all S) ?_
      refine voc c_spec_PutBytes rfl rfl ?_
      refine vzs (Nat.le_of_eq (putBF_le _ _ _)) fun z1 => ?_
      refine vo ?_
      try with_reducible (first | refine vep ?_ | refine vpt ?_)
      refine vo ?_
      refine vnt ?_
      refine vc_sr ?_
      iterate 3 refine vo ?_
      try refine vwr ?_
      refine vo ?_
      refine vnt ?_
      refine vc_region ?_
      iterate 3 refine vo ?_
      refine vstr (ex_full S) ?_
      refine vo ?_
      refine vnil ?_
      refine inB_n ?_
      refine thn ?_
      refine ⟨writeSeg ps a S, a + S.size, ⟨#[]⟩, ?_, ?_, sub_i [] (fz ?_) (fz ?_)⟩
      · exact .inr ⟨rfl, rfl, rfl⟩
      · omega
      · first | trivial | rfl
      · first | exact seg_wr hs | exact seg_wr2 hm hs
    · obtain rfl : q = writeSeg ps a S := by rcases hI with h | h <;> first | exact h.1 | (exfalso; rw [h.2.2] at g2; omega)
      refine vc_exit ?_
      refine thn_x ?_
      refine thn_x ?_
      refine inB_x ?_
      refine thn ?_
      refine vc_sr ?_
      iterate 3 refine vo ?_
      refine vnt ?_
      refine vc_ret ?_
      refine fin_i [(0, some 96)] rfl (fz ?_) (fz ?_) <;> first | trivial | rfl
end Go.Proofs.YtnikopahkjmneaaGreat
end
section
namespace Go.Proofs.YtnikopahkjmneaaGreat
open Go Go.RowKit Go.Vc
set_option linter.unusedVariables false
set_option linter.unusedSimpArgs false
set_option linter.unnecessarySimpa false
theorem at_map {α β : Type} [Inhabited α] [Inhabited β] {l : List α} {f : α → β} {i : Nat} (h : i < l.length) : at' (l.map f) i = f (at' l i) := by
  rw [at_eq h, at_eq (by simpa using h), List.getElem_map]
theorem wr_facts {q : Pg} {np : Nat} {rs : List (Int × Int)} {i : Nat} {s1 : ByteArray} (hi : i < rs.length) (hf : Fits np (rs.drop i) s1.size) (hq : MemOk q) (hl : q.length = np) : Seg q.length ((at' rs i).1, ((s1.extract (Int.toNat 0) (at' rs i).2.toNat).size : Int)) ∧ 1 ≤ (at' rs i).2 ∧ (at' rs i).2 ≤ s1.size ∧ Fits np (rs.drop (i + 1)) (s1.extract (at' rs i).2.toNat s1.size).size ∧ MemOk (writeSeg q (at' rs i).1 (s1.extract (Int.toNat 0) (at' rs i).2.toNat)) ∧ (writeSeg q (at' rs i).1 (s1.extract (Int.toNat 0) (at' rs i).2.toNat)).length = np := by
  rw [drop_at hi] at hf
  obtain ⟨h1, h2, h3⟩ := hf.cons
  obtain ⟨g0, g1, g2, g3⟩ := h1
  have e : (s1.extract (Int.toNat 0) (at' rs i).2.toNat).size = (at' rs i).2.toNat := by rw [ByteArray.size_extract]; have : Int.toNat 0 = 0 := rfl; omega
  have e2 : (s1.extract (at' rs i).2.toNat s1.size).size = s1.size - (at' rs i).2.toNat := by rw [ByteArray.size_extract]; omega
  refine ⟨⟨g0, by rw [e]; simp only; omega, by rw [e]; simp only; omega, by rw [hl]; exact g3⟩, g1, h2, by rw [e2]; exact h3, ?_⟩
  have := hq.writeSeg (a := (at' rs i).1) (b := s1.extract (Int.toNat 0) (at' rs i).2.toNat) g0 (by rw [hl]; exact g3) (by rw [e]; omega)
  exact ⟨this.1, by rw [this.2, hl]⟩
theorem wr_stp {ps q : Pg} {rs : List (Int × Int)} {i : Nat} {s s1 : ByteArray} (hi : i < rs.length) (h : writeAll ps rs s = writeAll q (rs.drop i) s1) : writeAll ps rs s = writeAll (writeSeg q (at' rs i).1 (s1.extract (Int.toNat 0) (at' rs i).2.toNat)) (rs.drop (i + 1)) (s1.extract (at' rs i).2.toNat s1.size) := by
  rw [h, drop_at hi]; rfl
theorem wr_fin {l : List Mp} {ps q : Pg} {d a : Int} {s s1 : ByteArray} {wt : Bool} {rs : List (Int × Int)} {i : Nat} (hrs : runs l ps d a s.size wt = some rs) (h : writeAll ps rs s = writeAll q (rs.drop i) s1) (hi : ¬ i < rs.length) : (dmaWF l ps d a s wt).2 = true ∧ (dmaWF l ps d a s wt).1 = q := by
  have e : dmaWF l ps d a s wt = (writeAll ps rs s, true) := by unfold dmaWF dmaW; rw [hrs]; rfl
  rw [e]
  refine ⟨rfl, ?_⟩
  rw [h, List.drop_eq_nil_of_le (by omega)]; rfl
theorem wr_none {l : List Mp} {ps : Pg} {d a : Int} {s : ByteArray} {wt : Bool} (h : (runs l ps d a s.size wt).isSome = false) : (dmaWF l ps d a s wt).2 = false ∧ (dmaWF l ps d a s wt).1 = ps := by
  have : runs l ps d a s.size wt = none := by cases hx : runs l ps d a s.size wt with
    | none => rfl
    | some x => rw [hx] at h; cases h
  rw [dmaWF_no this]; exact ⟨rfl, rfl⟩
set_option maxHeartbeats 4000000 in
theorem c_impl_put {l : List Mp} {ps : Pg} {d a : Int} {s : ByteArray} {wt : Bool} (hl : l.length ≤ 1099511627776 := by first | assumption | omega) (hp : ps.length ≤ 1099511627776 := by first | assumption | omega) (hs_s : s.size ≤ 1099511627776 := by first | assumption | omega | (simp only [ByteArray.size_append, ByteArray.size_extract, strOfNums_size, List.length_cons, List.length_nil]; omega)) (ha : a ≤ 9223372036854775807 := by omega) : Con0 Tryz.prog 131 [.one (.sl 4 (l.map mpE)), .agg [.sl 1 (ps.map strE)], I d, I a, Z s, B wt] (.tup [.agg [.hs 0], B (dmaWF l ps d a s wt).2]) [(0, .arr 9 1 ((dmaWF l ps d a s wt).1.map strE))] := by
  refine con_i Tryz.func131 Tryz.ntmps131 (t := [(0, .one (.sl 4 (l.map mpE))), (1, .agg [.sl 1 (ps.map strE)]), (2, I d), (3, I a), (4, Z s), (5, B wt)]) rfl ?_
  refine vc_sr ?_
  iterate 3 refine vo ?_
  refine vnt ?_
  refine vc_sr ?_
  refine vo ?_
  refine voc c_impl_copyMemory rfl rfl ?_
  iterate 2 refine vo ?_
  refine vnt ?_
  refine vc_sr ?_
  iterate 7 refine vo ?_
  refine voc c_impl_runsOf rfl rfl ?_
  iterate 5 refine vo ?_
  refine vnt ?_
  refine vc_seq' ?_
  refine vc_sr ?_
  iterate 2 refine vo ?_
  refine vnt ?_
  refine vc_if (fun g1 => ?_) (fun g1 => ?_)
  · refine vc_sr ?_
    iterate 3 refine vo ?_
    refine vnt ?_
    refine vc_ret ?_
    refine thn_r ?_
    refine fin_i [(0, some 160)] rfl (fz ?_) (fz ?_)
    · exact (wr_none g1).1
    · rw [(wr_none g1).2]
  · obtain ⟨rs, hrs⟩ := Option.isSome_iff_exists.1 g1
    obtain ⟨hm, hps, hn, hseg, hsum, hlen⟩ := runs_fine hrs
    have hpl := hps.1
    have e : (runs l ps d a s.size wt).getD [] = rs := by rw [hrs]; rfl
    rw [e]
    refine vc_skip ?_
    refine thn ?_
    refine vc_seq' ?_
    refine vc_sr ?_
    iterate 2 refine vo ?_
    try first | refine vlb ?_ | refine vln ?_
    refine vo ?_
    refine vnt ?_
    refine vc_block ?_
    refine vc_lp3 [12, 14, 35, 36] [96, 232] (fun (i : Nat) (q : Pg) (s1 : ByteArray) => [(4, Z s1), (37, I (i : Nat))]) (fun (i : Nat) (q : Pg) (s1 : ByteArray) => [(7, .arr 9 1 (q.map strE)), (112, .row 42 [.hs 7])]) (fun (i : Nat) (q : Pg) (s1 : ByteArray) => i ≤ rs.length ∧ writeAll ps rs s = writeAll q (rs.drop i) s1 ∧ MemOk q ∧ q.length = ps.length ∧ Fits ps.length (rs.drop i) s1.size) (fun (i : Nat) (q : Pg) (s1 : ByteArray) => rs.length - i) 0 ps s rfl rfl (sub_i [(7, some 160)] (fz ?_) (fz ?_)) ?_ fun i q s1 hI => ?_
    · first | trivial | rfl
    · first | trivial | rfl | exact ⟨rfl, rfl⟩
    · exact ⟨Nat.zero_le _, rfl, hps, rfl, hseg, by rw [List.drop_zero]; exact hsum⟩
    refine vc_nf rfl rfl ?_
    refine vc_sr ?_
    refine vo ?_
    refine vnt ?_
    refine vc_seq' ?_
    refine vc_if (fun g2 => ?_) (fun g2 => ?_)
    · obtain ⟨hs, hz1, hz2, hfit, hmq, hlq⟩ := wr_facts g2 hI.2.2.2.2 hI.2.2.1 hI.2.2.2.1
      have hq2 := hI.2.2.1
      have hql := hI.2.2.2.1
      refine vc_skip ?_
      refine thn ?_
      refine vc_seq' ?_
      refine vc_block ?_
      refine vc_sr ?_
      refine vo ?_
      try with_reducible (first | refine vep ?_ | refine vpt ?_)
      iterate 3 refine vo ?_
      refine vnt ?_
      refine vc_sr ?_
      iterate 7 refine vo ?_
      refine voc c_impl_WriteMemory rfl rfl ?_
      iterate 4 refine vo ?_
      refine vnt ?_
      refine vc_region ?_
      iterate 5 refine vo ?_
      refine vnil ?_
      refine inB_n ?_
      refine thn ?_
      refine vc_region ?_
      refine vo ?_
      try refine vwr ?_
      refine vo ?_
      refine vnt ?_
      refine ⟨i + 1, writeSeg q (at' rs i).1 (s1.extract (Int.toNat 0) (at' rs i).2.toNat), s1.extract (at' rs i).2.toNat s1.size, ?_, ?_, sub_i [(7, some 392)] (fz ?_) (fz ?_)⟩
      · exact ⟨by omega, wr_stp g2 hI.2.1, hmq, hlq, hfit⟩
      · omega
      · first | trivial | rfl | exact ⟨rfl, rfl⟩
      · first | trivial | rfl | exact ⟨rfl, rfl⟩
    · refine vc_exit ?_
      refine thn_x ?_
      refine thn_x ?_
      refine inB_x ?_
      refine thn ?_
      refine vc_sr ?_
      iterate 3 refine vo ?_
      refine vnt ?_
      refine vc_ret ?_
      refine fin_i [(0, some 7)] rfl (fz ?_) (fz ?_)
      · exact (wr_fin hrs hI.2.1 g2).1
      · rw [(wr_fin hrs hI.2.1 g2).2]
set_option maxHeartbeats 4000000 in
theorem c_impl_DmaWrite {l : List Mp} {ps : Pg} {d a : Int} {s : ByteArray} (hl : l.length ≤ 1099511627776 := by first | assumption | omega) (hp : ps.length ≤ 1099511627776 := by first | assumption | omega) (hs_s : s.size ≤ 1099511627776 := by first | assumption | omega | (simp only [ByteArray.size_append, ByteArray.size_extract, strOfNums_size, List.length_cons, List.length_nil]; omega)) (ha : a ≤ 9223372036854775807 := by omega) : Con0 Tryz.prog 132 [.one (.sl 4 (l.map mpE)), .agg [.sl 1 (ps.map strE)], I d, I a, Z s] (.tup [.agg [.hs 0], B (dmaWF l ps d a s true).2]) [(0, .arr 9 1 ((dmaWF l ps d a s true).1.map strE))] := by
  refine con_i Tryz.func132 Tryz.ntmps132 (t := [(0, .one (.sl 4 (l.map mpE))), (1, .agg [.sl 1 (ps.map strE)]), (2, I d), (3, I a), (4, Z s)]) rfl ?_
  refine vc_sr ?_
  iterate 3 refine vo ?_
  refine vnt ?_
  refine vc_sr ?_
  iterate 5 refine vo ?_
  refine voc c_impl_put rfl rfl ?_
  iterate 4 refine vo ?_
  refine vnt ?_
  refine vc_ret ?_
  refine fin_i [(0, some 136)] rfl (fz ?_) (fz ?_) <;> first | trivial | rfl
set_option maxHeartbeats 4000000 in
theorem c_spec_DmaWrite {l : List Mp} {ps : Pg} {d a : Int} {s : ByteArray} (hl : l.length ≤ 1099511627776 := by first | assumption | omega) (hp : ps.length ≤ 1099511627776 := by first | assumption | omega) (hs_s : s.size ≤ 1099511627776 := by first | assumption | omega | (simp only [ByteArray.size_append, ByteArray.size_extract, strOfNums_size, List.length_cons, List.length_nil]; omega)) (ha : a ≤ 9223372036854775807 := by omega) : Con0 Tryz.prog 80 [.one (.sl 4 (l.map mpE)), .agg [.sl 1 (ps.map strE)], I d, I a, Z s] (.tup [.agg [.hs 0], B (dmaWF l ps d a s true).2]) [(0, .arr 9 1 ((dmaWF l ps d a s true).1.map strE))] := by
  refine con_i Tryz.func80 Tryz.ntmps80 (t := [(0, .one (.sl 4 (l.map mpE))), (1, .agg [.sl 1 (ps.map strE)]), (2, I d), (3, I a), (4, Z s)]) rfl ?_
  refine vc_sr ?_
  iterate 3 refine vo ?_
  refine vnt ?_
  refine vc_sr ?_
  iterate 6 refine vo ?_
  refine voc c_spec_l17Parts rfl rfl ?_
  iterate 7 refine vo ?_
  refine vnt ?_
  refine vc_sr ?_
  refine vo ?_
  refine voc c_spec_l16Copy rfl rfl ?_
  iterate 2 refine vo ?_
  refine vnt ?_
  refine vc_seq' ?_
  refine vc_sr ?_
  iterate 2 refine vo ?_
  refine vnt ?_
  refine vc_if (fun g1 => ?_) (fun g1 => ?_)
  · refine vc_sr ?_
    iterate 3 refine vo ?_
    refine vnt ?_
    refine vc_ret ?_
    refine thn_r ?_
    refine fin_i [(0, some 232)] rfl (fz ?_) (fz ?_)
    · exact (wr_none g1).1
    · rw [(wr_none g1).2]
  · obtain ⟨rs, hrs⟩ := Option.isSome_iff_exists.1 g1
    obtain ⟨hm, hps, hn, hseg, hsum, hlen⟩ := runs_fine hrs
    have hpl := hps.1
    have e : (runs l ps d a s.size true).getD [] = rs := by rw [hrs]; rfl
    rw [e]
    refine vc_skip ?_
    refine thn ?_
    refine vc_seq' ?_
    refine vc_sr ?_
    refine vo ?_
    refine vnt ?_
    refine vc_block ?_
    refine vc_lp3 [10, 12, 13, 15] [80, 192, 193] (fun (i : Nat) (q : Pg) (s1 : ByteArray) => [(4, Z s1), (16, I (i : Nat))]) (fun (i : Nat) (q : Pg) (s1 : ByteArray) => [(7, .arr 9 1 (q.map strE)), (120, .row 42 [.hs 7])]) (fun (i : Nat) (q : Pg) (s1 : ByteArray) => i ≤ rs.length ∧ writeAll ps rs s = writeAll q (rs.drop i) s1 ∧ MemOk q ∧ q.length = ps.length ∧ Fits ps.length (rs.drop i) s1.size) (fun (i : Nat) (q : Pg) (s1 : ByteArray) => rs.length - i) 0 ps s rfl rfl (sub_i [(7, some 232)] (fz ?_) (fz ?_)) ?_ fun i q s1 hI => ?_
    · first | trivial | rfl
    · first | trivial | rfl | exact ⟨rfl, rfl⟩
    · exact ⟨Nat.zero_le _, rfl, hps, rfl, hseg, by rw [List.drop_zero]; exact hsum⟩
    refine vc_nf rfl rfl ?_
    refine vc_seq' ?_
    refine vc_sr ?_
    iterate 3 refine vo ?_
    try first | refine vlb ?_ | refine vln ?_
    refine veq (show ((rs.map (·.1)).length : Int) = rs.length by rw [List.length_map]) ?_
    refine vo ?_
    refine vnt ?_
    refine vc_if (fun g2 => ?_) (fun g2 => ?_)
    · obtain ⟨hs, hz1, hz2, hfit, hmq, hlq⟩ := wr_facts g2 hI.2.2.2.2 hI.2.2.1 hI.2.2.2.1
      have hq2 := hI.2.2.1
      have hql := hI.2.2.2.1
      refine vc_skip ?_
      refine thn ?_
      refine vc_seq' ?_
      refine vc_block ?_
      refine vc_sr ?_
      iterate 4 refine vo ?_
      try with_reducible (first | refine vep ?_ | refine vpt ?_)
      refine vo ?_
      refine veq (at_map g2) ?_
      iterate 4 refine vo ?_
      try with_reducible (first | refine vep ?_ | refine vpt ?_)
      refine vo ?_
      refine veq (at_map g2) ?_
      refine vo ?_
      refine voc c_spec_WriteMemory rfl rfl ?_
      iterate 4 refine vo ?_
      refine vnt ?_
      refine vc_region ?_
      iterate 4 refine vo ?_
      try with_reducible (first | refine vep ?_ | refine vpt ?_)
      refine vo ?_
      refine veq (at_map g2) ?_
      iterate 2 refine vo ?_
      refine vnil ?_
      refine inB_n ?_
      refine thn ?_
      refine vc_region ?_
      iterate 2 refine vo ?_
      try refine vwr ?_
      refine vo ?_
      refine vnt ?_
      refine ⟨i + 1, writeSeg q (at' rs i).1 (s1.extract (Int.toNat 0) (at' rs i).2.toNat), s1.extract (at' rs i).2.toNat s1.size, ?_, ?_, sub_i [(7, some 408)] (fz ?_) (fz ?_)⟩
      · exact ⟨by omega, wr_stp g2 hI.2.1, hmq, hlq, hfit⟩
      · omega
      · first | trivial | rfl | exact ⟨rfl, rfl⟩
      · first | trivial | rfl | exact ⟨rfl, rfl⟩
    · refine vc_exit ?_
      refine thn_x ?_
      refine thn_x ?_
      refine inB_x ?_
      refine thn ?_
      refine vc_sr ?_
      iterate 3 refine vo ?_
      refine vnt ?_
      refine vc_ret ?_
      refine fin_i [(0, some 7)] rfl (fz ?_) (fz ?_)
      · exact (wr_fin hrs hI.2.1 g2).1
      · rw [(wr_fin hrs hI.2.1 g2).2]
end Go.Proofs.YtnikopahkjmneaaGreat
end
section
namespace Go.Proofs.YtnikopahkjmneaaGreat
open Go Go.RowKit Go.Vc
set_option linter.unusedVariables false
set_option linter.unusedSimpArgs false
set_option linter.unnecessarySimpa false
theorem dw_no {l : List Mp} {ps : Pg} {d a : Int} {s : ByteArray} {wt : Bool} (h : (dmaWF l ps d a s wt).2 = false) : (dmaWF l ps d a s wt).1 = ps := by
  generalize hx : dmaWF l ps d a s wt = x at h ⊢
  obtain ⟨x1, x2⟩ := x
  simp only at h
  subst h
  exact dmaWF_same hx.symm
end Go.Proofs.YtnikopahkjmneaaGreat
end
section
namespace Go.Proofs.YtnikopahkjmneaaGreat
open Go Go.RowKit Go.Vc
set_option linter.unusedVariables false
set_option linter.unusedSimpArgs false
set_option linter.unnecessarySimpa false
def bitF (s : ByteArray) (i : Nat) : Nat := bAt s (i / 8) / 2 ^ (7 - i % 8) % 2
def kwF (key : ByteArray) (b : Nat) : Nat → Nat
  | 0 => 0
  | n + 1 => 2 * kwF key b n + bitF key (b + n)
def hashF (key x : ByteArray) : Nat → Int
  | 0 => 0
  | n + 1 => if bitF x n = 1 then xorI (hashF key x n) (kwF key n 32) else hashF key x n
def hinF (si di sp dp : Int) : ByteArray := word32 si ++ word32 di ++ word16 sp ++ word16 dp
def hflF (key : ByteArray) (si di sp dp : Int) : Int := hashF key (hinF si di sp dp) (8 * (hinF si di sp dp).size)
end Go.Proofs.YtnikopahkjmneaaGreat
end
section
namespace Go.Vc
open Go Go.RowKit
set_option linter.unusedVariables false
set_option linter.unusedSectionVars false
set_option linter.unusedSimpArgs false
set_option linter.unnecessarySimpa false
end Go.Vc
end
section
namespace Go.Proofs.YtnikopahkjmneaaGreat
open Go Go.RowKit Go.Vc
set_option linter.unusedVariables false
set_option linter.unusedSimpArgs false
set_option linter.unnecessarySimpa false
end Go.Proofs.YtnikopahkjmneaaGreat
end
section
namespace Go.Proofs.YtnikopahkjmneaaGreat
open Go Go.RowKit Go.Vc
set_option linter.unusedVariables false
set_option linter.unusedSimpArgs false
set_option linter.unnecessarySimpa false
def stF (l : List Mp) (ps : Pg) (d db ds dc dm sm vl tos id ttl si di kind sp dp seq ack fl win : Int) (body : ByteArray) (size count : Int) (key entry : ByteArray) : Pg × Int × Bool :=
  if (decDF entry).2 = true ∧ (decDF entry).1.1 = 3 ∧ ¬ (decDF entry).1.2.2.1 < ((imgR dm sm vl tos id ttl si di kind sp dp seq ack fl win body).size : Int) then
    if (dmaWF l ps d (decDF entry).1.2.2.2.1 (imgR dm sm vl tos id ttl si di kind sp dp seq ack fl win body) true).2 = true then putC l (dmaWF l ps d (decDF entry).1.2.2.2.1 (imgR dm sm vl tos id ttl si di kind sp dp seq ack fl win body) true).1 d db ds dc (decDF entry).1.2.2.2.2.2 (imgR dm sm vl tos id ttl si di kind sp dp seq ack fl win body).size size count (hflF key si di sp dp) else (ps, dc, false)
  else (ps, dc, false)
end Go.Proofs.YtnikopahkjmneaaGreat
end
section
namespace Go.Proofs.YtnikopahkjmneaaGreat
open Go Go.RowKit Go.Vc
set_option linter.unusedVariables false
set_option linter.unusedSimpArgs false
set_option linter.unnecessarySimpa false
end Go.Proofs.YtnikopahkjmneaaGreat
end
section
namespace Go
open Go.RowKit
set_option linter.unusedVariables false
set_option linter.unusedSimpArgs false
theorem tk {Is Js : List Asn} {A : Asn} (h : Take Is A Js := by first | ((repeat (first | (with_reducible exact Take.head) | apply Take.tail)); done) | ((repeat (first | exact Take.head | apply Take.tail)); done)) : Take Is A Js := h
theorem vcs {p : Prop} (h : p := by simp only [Value.cells]; rfl) : p := h
theorem rfx {p : Prop} (h : p := by rfl) : p := h
end Go
end
section
namespace Go
open Go.RowKit
set_option linter.unusedVariables false
set_option linter.unusedSimpArgs false
end Go
end
section
namespace Go.Proofs.YtnikopahkjmneaaGreat
open Go Go.RowKit
set_option linter.unusedVariables false
set_option linter.unusedSimpArgs false
set_option linter.unusedSectionVars false
theorem ret_str {a b : ByteArray} (h : a = b) : Ending.returned (.string a) = .returned (.string b) := by rw [h]
theorem in_uint8 : infoT Tryz.prog 5 (.int .u8 0) 1 1 := ⟨by kernel_rfl, rfl⟩
theorem _root_.Go.St.rowByt {w0 w : World} {Is Js : List Asn} {b : Nat} {cs : List Value} {T : TypeId} (h : St w0 w Is) (t : Take Is (rowA b cs T) Js) (s : ByteArray) (hc : cs = byteCells s) : St w0 w (bytA b s :: Js) := by
  subst hc
  exact (h.take t).same fun F hF => ⟨F, ⟨⟨_, _, _, hF.1, by simp [byteCells_length], fun j hj => by simp, fun j hj => frozen_row hF.1 j⟩, hF.2⟩, fun _ h => h⟩
set_option maxRecDepth 100000 in
set_option maxHeartbeats 4000000 in
theorem markText_any (K : Nat) (w : World) (h0 : 0 < K) (h1 : K ≤ 4611686018427387904) :
    Calls Tryz.prog 109 #[.int .i64 K] w fun e w' => e = .returned (.string (mtext K)) ∧ Ex w w' := by
  have hsz := dig_size K
  have hd0 : decide ((K : Int) ≤ 0) = false := decide_eq_false (by omega)
  have hd1 : decide (K = 0) = false := decide_eq_false (by omega)
  have HSZ := hid hsz
  have HS := St.start w
  go_enter Tryz.func109, Tryz.ntmps109
  go_wp2_with (first
        | ((with_reducible (show wpList _ _ _ (Oper.mk (some 12) (Op.buildSlice _ _ _) _ _ _ _ :: _) _ _)); refine wpList_bslice1_st (o := ⟨some 12, .buildSlice _ _ _, _, _, _, _⟩) rfl _ _ rfl _ Tryz.underlying126 in_uint8 (by decide) (by decide) (x := .int .u8 _) rfl vcs rfx HS ?_; clear HS; intro w12 b12 hb12 HS; replace HS := HS.rowByt tk ⟨#[B]⟩ (by simp [byteCells, hu8]))
        | ((with_reducible (show wpList _ _ _ (Oper.mk (some 12) (Op.buildSlice _ _ _) _ _ _ _ :: _) _ _)); refine wpList_bslice1_st (o := ⟨some 12, .buildSlice _ _ _, _, _, _, _⟩) rfl _ _ rfl _ Tryz.underlying126 in_uint8 (by decide) (by decide) (x := _) rfl vcs rfx HS ?_; clear HS; intro w12 b12 hb12 HS; replace HS := HS.rowByt tk ⟨#[B]⟩ (by simp [byteCells, hu8]))
        | ((with_reducible (show wpList _ _ _ (Oper.mk (some 13) (Op.convert _ _ _) _ _ _ _ :: _) _ _)); refine wpList_back_st (o := ⟨some 13, .convert _ _ _, _, _, _, _⟩) rfl _ _ _ rfl _ Tryz.underlying126 Tryz.underlying5 Tryz.underlying9 rfl HS tk rfx ?_))
  go_loopw [0, 3] (fun kv ov wr => ∃ (n : Nat) (t : ByteArray), n ≤ K ∧ dig n ++ t = dig K ∧ kv = .int .i64 n ∧ ov = .string t ∧ St w wr []) (fun kv _ _ => (intOf kv).toNat)
  case atStart => exact ⟨K, ⟨#[]⟩, Nat.le_refl _, ba_append_nil _, rfl, rfl, (HS.arr (by repeat (first | exact Arr.nil | (with_reducible exact take_all _) | (refine Arr.cons tk ?_) | (refine arr_skip ?_))))⟩
  case round =>
    clear HS
    obtain ⟨n, t, hn, ht, rfl, rfl, HS⟩ := hrel
    by_cases h0 : n = 0
    case pos =>
      subst h0
      have hts : t.size ≤ K := by have := congrArg ByteArray.size ht; rw [ByteArray.size_append] at this; omega
      rw [dig_zero, show (⟨#[]⟩ : ByteArray) ++ t = t from ByteArray.empty_append] at ht
      have HT := hid ht
      clear ht hsz
      have hl : ¬ (9223372036854775807 < 1 + t.size) := by omega
      go_wp2_with (first
            | ((with_reducible (show wpList _ _ _ (Oper.mk (some 12) (Op.buildSlice _ _ _) _ _ _ _ :: _) _ _)); refine wpList_bslice1_st (o := ⟨some 12, .buildSlice _ _ _, _, _, _, _⟩) rfl _ _ rfl _ Tryz.underlying126 in_uint8 (by decide) (by decide) (x := .int .u8 _) rfl vcs rfx HS ?_; clear HS; intro w12 b12 hb12 HS; replace HS := HS.rowByt tk ⟨#[B]⟩ (by simp [byteCells, hu8]))
            | ((with_reducible (show wpList _ _ _ (Oper.mk (some 12) (Op.buildSlice _ _ _) _ _ _ _ :: _) _ _)); refine wpList_bslice1_st (o := ⟨some 12, .buildSlice _ _ _, _, _, _, _⟩) rfl _ _ rfl _ Tryz.underlying126 in_uint8 (by decide) (by decide) (x := _) rfl vcs rfx HS ?_; clear HS; intro w12 b12 hb12 HS; replace HS := HS.rowByt tk ⟨#[B]⟩ (by simp [byteCells, hu8]))
            | ((with_reducible (show wpList _ _ _ (Oper.mk (some 13) (Op.convert _ _ _) _ _ _ _ :: _) _ _)); refine wpList_back_st (o := ⟨some 13, .convert _ _ _, _, _, _, _⟩) rfl _ _ _ rfl _ Tryz.underlying126 Tryz.underlying5 Tryz.underlying9 rfl HS tk rfx ?_))
      go_ret
      exact ⟨ret_str (by rw [HT.out]; rfl), HS.ex⟩
    case neg =>
      have hn0 : 0 < n := by omega
      have hts : t.size + 1 ≤ K := by
        have h1 := congrArg ByteArray.size ht
        rw [ByteArray.size_append, dig_pos hn0, ByteArray.size_append] at h1
        have h2 : (⟨#[UInt8.ofNat (48 + n % 10)]⟩ : ByteArray).size = 1 := rfl
        omega
      rw [dig_pos hn0, ByteArray.append_assoc] at ht
      have hu8 : (UInt8.ofNat (48 + n % 10)).toNat = 48 + n % 10 := by rw [UInt8.toNat_ofNat']; omega
      generalize UInt8.ofNat (48 + n % 10) = B at *
      have q1 : (n : Int).tmod 10 = ((n % 10 : Nat) : Int) := by rw [Int.tmod_eq_emod_of_nonneg (by omega)]; omega
      have q2 : (n : Int).tdiv 10 = ((n / 10 : Nat) : Int) := by rw [Int.tdiv_eq_ediv_of_nonneg (by omega)]; omega
      have hm9 : n % 10 ≤ 9 := by omega
      have HT := hid ht
      clear ht hsz h0
      go_wp2_with (first
            | ((with_reducible (show wpList _ _ _ (Oper.mk (some 12) (Op.buildSlice _ _ _) _ _ _ _ :: _) _ _)); refine wpList_bslice1_st (o := ⟨some 12, .buildSlice _ _ _, _, _, _, _⟩) rfl _ _ rfl _ Tryz.underlying126 in_uint8 (by decide) (by decide) (x := .int .u8 _) rfl vcs rfx HS ?_; clear HS; intro w12 b12 hb12 HS; replace HS := HS.rowByt tk ⟨#[B]⟩ (by simp [byteCells, hu8]))
            | ((with_reducible (show wpList _ _ _ (Oper.mk (some 12) (Op.buildSlice _ _ _) _ _ _ _ :: _) _ _)); refine wpList_bslice1_st (o := ⟨some 12, .buildSlice _ _ _, _, _, _, _⟩) rfl _ _ rfl _ Tryz.underlying126 in_uint8 (by decide) (by decide) (x := _) rfl vcs rfx HS ?_; clear HS; intro w12 b12 hb12 HS; replace HS := HS.rowByt tk ⟨#[B]⟩ (by simp [byteCells, hu8]))
            | ((with_reducible (show wpList _ _ _ (Oper.mk (some 13) (Op.convert _ _ _) _ _ _ _ :: _) _ _)); refine wpList_back_st (o := ⟨some 13, .convert _ _ _, _, _, _, _⟩) rfl _ _ _ rfl _ Tryz.underlying126 Tryz.underlying5 Tryz.underlying9 rfl HS tk rfx ?_))
      go_roundw
      case rel => exact ⟨n / 10, _, by omega, HT.out, rfl, rfl, (HS.arr (by repeat (first | exact Arr.nil | (with_reducible exact take_all _) | (refine Arr.cons tk ?_) | (refine arr_skip ?_))))⟩
      case measure => simp [intOf]; omega
end Go.Proofs.YtnikopahkjmneaaGreat
end
section
namespace Go.Proofs.YtnikopahkjmneaaGreat
open Go Go.RowKit Go.Vc
set_option linter.unusedVariables false
set_option linter.unusedSimpArgs false
set_option maxHeartbeats 4000000 in
theorem c_laws_toRing {x_Base x_Size x_Head x_Tail : Int} : Con0 Tryz.prog 41 [.agg [V x_Base, V x_Size, V x_Head, V x_Tail]] (.agg [V x_Base, V x_Size, V x_Head, V x_Tail]) [] := by
  refine con_i Tryz.func41 Tryz.ntmps41 (t := [(0, .agg [V x_Base, V x_Size, V x_Head, V x_Tail])]) rfl ?_
  refine vc_sr ?_
  iterate 2 refine vo ?_
  refine vnt ?_
  refine vc_sr ?_
  refine vo ?_
  refine vnt ?_
  refine vc_sr ?_
  iterate 4 refine vo ?_
  refine vnt ?_
  refine vc_sr ?_
  iterate 4 refine vo ?_
  refine vnt ?_
  refine vc_sr ?_
  iterate 4 refine vo ?_
  refine vnt ?_
  refine vc_sr ?_
  iterate 4 refine vo ?_
  refine vnt ?_
  refine vc_sr ?_
  iterate 2 refine vo ?_
  refine vnt ?_
  refine vc_ret ?_
  refine fin_i [] rfl (fz ?_) (fz ?_) <;> first | trivial | rfl
set_option maxHeartbeats 4000000 in
theorem c_laws_eqRing {x_Base x_Size x_Head x_Tail : Int} : Con0 Tryz.prog 59 [.agg [V x_Base, V x_Size, V x_Head, V x_Tail], .agg [V x_Base, V x_Size, V x_Head, V x_Tail]] (B true) [] := by
  refine con_i Tryz.func59 Tryz.ntmps59 (t := [(0, .agg [V x_Base, V x_Size, V x_Head, V x_Tail]), (1, .agg [V x_Base, V x_Size, V x_Head, V x_Tail])]) rfl ?_
  refine vc_sr ?_
  iterate 3 refine vo ?_
  refine vnt ?_
  refine vc_seq' ?_
  refine vc_sr ?_
  iterate 5 refine vo ?_
  refine vnt ?_
  refine vc_if (fun g1 => ?_) (fun g1 => ?_)
  · first | contradiction | omega | (simp at g1; done)
  · refine vc_skip ?_
    refine thn ?_
    refine vc_seq' ?_
    refine vc_sr ?_
    iterate 5 refine vo ?_
    refine vnt ?_
    refine vc_if (fun g2 => ?_) (fun g2 => ?_)
    · first | contradiction | omega | (simp at g2; done)
    · refine vc_skip ?_
      refine thn ?_
      refine vc_seq' ?_
      refine vc_sr ?_
      iterate 5 refine vo ?_
      refine vnt ?_
      refine vc_if (fun g3 => ?_) (fun g3 => ?_)
      · first | contradiction | omega | (simp at g3; done)
      · refine vc_skip ?_
        refine thn ?_
        refine vc_seq' ?_
        refine vc_sr ?_
        iterate 5 refine vo ?_
        refine vnt ?_
        refine vc_if (fun g4 => ?_) (fun g4 => ?_)
        · first | contradiction | omega | (simp at g4; done)
        · refine vc_skip ?_
          refine thn ?_
          refine vc_sr ?_
          refine vo ?_
          refine vnt ?_
          refine vc_ret ?_
          refine fin_i [] rfl (fz ?_) (fz ?_) <;> first | trivial | rfl
set_option maxHeartbeats 4000000 in
theorem c_laws_toSegment {x_Kind x_SrcPort x_DstPort x_Seq x_Ack x_Flags x_Window : Int} {x_Body : ByteArray} : Con0 Tryz.prog 44 [.agg [V x_Kind, V x_SrcPort, V x_DstPort, V x_Seq, V x_Ack, V x_Flags, V x_Window, VS x_Body]] (.agg [V x_Kind, V x_SrcPort, V x_DstPort, V x_Seq, V x_Ack, V x_Flags, V x_Window, VS x_Body]) [] := by
  refine con_i Tryz.func44 Tryz.ntmps44 (t := [(0, .agg [V x_Kind, V x_SrcPort, V x_DstPort, V x_Seq, V x_Ack, V x_Flags, V x_Window, VS x_Body])]) rfl ?_
  refine vc_sr ?_
  iterate 2 refine vo ?_
  refine vnt ?_
  refine vc_sr ?_
  refine vo ?_
  refine vnt ?_
  refine vc_sr ?_
  iterate 4 refine vo ?_
  refine vnt ?_
  refine vc_sr ?_
  iterate 4 refine vo ?_
  refine vnt ?_
  refine vc_sr ?_
  iterate 4 refine vo ?_
  refine vnt ?_
  refine vc_sr ?_
  iterate 4 refine vo ?_
  refine vnt ?_
  refine vc_sr ?_
  iterate 4 refine vo ?_
  refine vnt ?_
  refine vc_sr ?_
  iterate 4 refine vo ?_
  refine vnt ?_
  refine vc_sr ?_
  iterate 4 refine vo ?_
  refine vnt ?_
  refine vc_sr ?_
  iterate 4 refine vo ?_
  refine vnt ?_
  refine vc_sr ?_
  iterate 2 refine vo ?_
  refine vnt ?_
  refine vc_ret ?_
  refine fin_i [] rfl (fz ?_) (fz ?_) <;> first | trivial | rfl
set_option maxHeartbeats 4000000 in
theorem c_laws_szSegment_le {x_Kind x_SrcPort x_DstPort x_Seq x_Ack x_Flags x_Window : Int} {x_Body : ByteArray} {left : Int} (hL : left ≤ 1048576 := by omega) (h : (x_Body.size : Int) ≤ left := by omega) (hs_x_Body : x_Body.size ≤ 9223372036854775807 := by first | assumption | omega) : Con0 Tryz.prog 25 [.agg [V x_Kind, V x_SrcPort, V x_DstPort, V x_Seq, V x_Ack, V x_Flags, V x_Window, VS x_Body], I left] (I (left - x_Body.size)) [] := by
  refine con_i Tryz.func25 Tryz.ntmps25 (t := [(0, .agg [V x_Kind, V x_SrcPort, V x_DstPort, V x_Seq, V x_Ack, V x_Flags, V x_Window, VS x_Body]), (1, I left)]) rfl ?_
  refine vc_sr ?_
  iterate 2 refine vo ?_
  refine vnt ?_
  refine vc_sr ?_
  iterate 5 refine vo ?_
  try refine vwr ?_
  refine vo ?_
  refine vnt ?_
  refine vc_seq' ?_
  refine vc_sr ?_
  iterate 2 refine vo ?_
  refine vnt ?_
  refine vc_if (fun g1 => ?_) (fun g1 => ?_)
  · first | contradiction | omega | (simp at g1; done)
  · refine vc_skip ?_
    refine thn ?_
    refine vc_sr ?_
    iterate 2 refine vo ?_
    refine vnt ?_
    refine vc_ret ?_
    refine fin_i [] rfl (fz ?_) (fz ?_) <;> first | trivial | rfl | omega | (simp; omega)
set_option maxHeartbeats 4000000 in
theorem c_laws_szSegment_gt {x_Kind x_SrcPort x_DstPort x_Seq x_Ack x_Flags x_Window : Int} {x_Body : ByteArray} {left : Int} (hL : left ≤ 1048576 := by omega) (h0 : 0 ≤ left := by omega) (h : left < (x_Body.size : Int) := by omega) (hs_x_Body : x_Body.size ≤ 9223372036854775807 := by first | assumption | omega) : Con0 Tryz.prog 25 [.agg [V x_Kind, V x_SrcPort, V x_DstPort, V x_Seq, V x_Ack, V x_Flags, V x_Window, VS x_Body], I left] (I (-1)) [] := by
  refine con_i Tryz.func25 Tryz.ntmps25 (t := [(0, .agg [V x_Kind, V x_SrcPort, V x_DstPort, V x_Seq, V x_Ack, V x_Flags, V x_Window, VS x_Body]), (1, I left)]) rfl ?_
  refine vc_sr ?_
  iterate 2 refine vo ?_
  refine vnt ?_
  refine vc_sr ?_
  iterate 5 refine vo ?_
  try refine vwr ?_
  refine vo ?_
  refine vnt ?_
  refine vc_seq' ?_
  refine vc_sr ?_
  iterate 2 refine vo ?_
  refine vnt ?_
  refine vc_if (fun g1 => ?_) (fun g1 => ?_)
  · refine vc_sr ?_
    refine vo ?_
    refine vnt ?_
    refine vc_ret ?_
    refine thn_r ?_
    refine fin_i [] rfl (fz ?_) (fz ?_) <;> first | trivial | rfl | omega | (simp; omega)
  · first | contradiction | omega | (simp at g1; done; done)
set_option maxHeartbeats 4000000 in
theorem c_laws_toPacket {x_DstMac x_SrcMac x_Vlan x_Tos x_Id x_Ttl x_SrcIp x_DstIp x_Seg_Kind x_Seg_SrcPort x_Seg_DstPort x_Seg_Seq x_Seg_Ack x_Seg_Flags x_Seg_Window : Int} {x_Seg_Body : ByteArray} : Con0 Tryz.prog 12 [.agg [V x_DstMac, V x_SrcMac, V x_Vlan, V x_Tos, V x_Id, V x_Ttl, V x_SrcIp, V x_DstIp, V x_Seg_Kind, V x_Seg_SrcPort, V x_Seg_DstPort, V x_Seg_Seq, V x_Seg_Ack, V x_Seg_Flags, V x_Seg_Window, VS x_Seg_Body]] (.agg [V x_DstMac, V x_SrcMac, V x_Vlan, V x_Tos, V x_Id, V x_Ttl, V x_SrcIp, V x_DstIp, V x_Seg_Kind, V x_Seg_SrcPort, V x_Seg_DstPort, V x_Seg_Seq, V x_Seg_Ack, V x_Seg_Flags, V x_Seg_Window, VS x_Seg_Body]) [] := by
  refine con_i Tryz.func12 Tryz.ntmps12 (t := [(0, .agg [V x_DstMac, V x_SrcMac, V x_Vlan, V x_Tos, V x_Id, V x_Ttl, V x_SrcIp, V x_DstIp, V x_Seg_Kind, V x_Seg_SrcPort, V x_Seg_DstPort, V x_Seg_Seq, V x_Seg_Ack, V x_Seg_Flags, V x_Seg_Window, VS x_Seg_Body])]) rfl ?_
  refine vc_sr ?_
  iterate 2 refine vo ?_
  refine vnt ?_
  refine vc_sr ?_
  refine vo ?_
  refine vnt ?_
  refine vc_sr ?_
  iterate 4 refine vo ?_
  refine vnt ?_
  refine vc_sr ?_
  iterate 4 refine vo ?_
  refine vnt ?_
  refine vc_sr ?_
  iterate 4 refine vo ?_
  refine vnt ?_
  refine vc_sr ?_
  iterate 4 refine vo ?_
  refine vnt ?_
  refine vc_sr ?_
  iterate 4 refine vo ?_
  refine vnt ?_
  refine vc_sr ?_
  iterate 4 refine vo ?_
  refine vnt ?_
  refine vc_sr ?_
  iterate 4 refine vo ?_
  refine vnt ?_
  refine vc_sr ?_
  iterate 4 refine vo ?_
  refine vnt ?_
  refine vc_sr ?_
  iterate 2 refine vo ?_
  refine voc c_laws_toSegment rfl rfl ?_
  iterate 2 refine vo ?_
  refine vnt ?_
  refine vc_sr ?_
  iterate 2 refine vo ?_
  refine vnt ?_
  refine vc_ret ?_
  refine fin_i [] rfl (fz ?_) (fz ?_) <;> first | trivial | rfl
set_option maxHeartbeats 4000000 in
theorem c_laws_szPacket_le {x_DstMac x_SrcMac x_Vlan x_Tos x_Id x_Ttl x_SrcIp x_DstIp x_Seg_Kind x_Seg_SrcPort x_Seg_DstPort x_Seg_Seq x_Seg_Ack x_Seg_Flags x_Seg_Window : Int} {x_Seg_Body : ByteArray} {left : Int} (hL : left ≤ 1048576 := by omega) (h : (x_Seg_Body.size : Int) ≤ left := by omega) (hs_x_Seg_Body : x_Seg_Body.size ≤ 9223372036854775807 := by first | assumption | omega) : Con0 Tryz.prog 7 [.agg [V x_DstMac, V x_SrcMac, V x_Vlan, V x_Tos, V x_Id, V x_Ttl, V x_SrcIp, V x_DstIp, V x_Seg_Kind, V x_Seg_SrcPort, V x_Seg_DstPort, V x_Seg_Seq, V x_Seg_Ack, V x_Seg_Flags, V x_Seg_Window, VS x_Seg_Body], I left] (I (left - x_Seg_Body.size)) [] := by
  refine con_i Tryz.func7 Tryz.ntmps7 (t := [(0, .agg [V x_DstMac, V x_SrcMac, V x_Vlan, V x_Tos, V x_Id, V x_Ttl, V x_SrcIp, V x_DstIp, V x_Seg_Kind, V x_Seg_SrcPort, V x_Seg_DstPort, V x_Seg_Seq, V x_Seg_Ack, V x_Seg_Flags, V x_Seg_Window, VS x_Seg_Body]), (1, I left)]) rfl ?_
  refine vc_sr ?_
  iterate 2 refine vo ?_
  refine vnt ?_
  refine vc_sr ?_
  iterate 3 refine vo ?_
  refine voc c_laws_szSegment_le rfl rfl ?_
  refine vo ?_
  refine vnt ?_
  refine vc_seq' ?_
  refine vc_sr ?_
  iterate 2 refine vo ?_
  refine vnt ?_
  refine vc_if (fun g1 => ?_) (fun g1 => ?_)
  · first | contradiction | omega | (simp at g1; done)
  · refine vc_skip ?_
    refine thn ?_
    refine vc_sr ?_
    iterate 2 refine vo ?_
    refine vnt ?_
    refine vc_ret ?_
    refine fin_i [] rfl (fz ?_) (fz ?_) <;> first | trivial | rfl | omega | (simp; omega)
set_option maxHeartbeats 4000000 in
theorem c_laws_szPacket_gt {x_DstMac x_SrcMac x_Vlan x_Tos x_Id x_Ttl x_SrcIp x_DstIp x_Seg_Kind x_Seg_SrcPort x_Seg_DstPort x_Seg_Seq x_Seg_Ack x_Seg_Flags x_Seg_Window : Int} {x_Seg_Body : ByteArray} {left : Int} (hL : left ≤ 1048576 := by omega) (h0 : 0 ≤ left := by omega) (h : left < (x_Seg_Body.size : Int) := by omega) (hs_x_Seg_Body : x_Seg_Body.size ≤ 9223372036854775807 := by first | assumption | omega) : Con0 Tryz.prog 7 [.agg [V x_DstMac, V x_SrcMac, V x_Vlan, V x_Tos, V x_Id, V x_Ttl, V x_SrcIp, V x_DstIp, V x_Seg_Kind, V x_Seg_SrcPort, V x_Seg_DstPort, V x_Seg_Seq, V x_Seg_Ack, V x_Seg_Flags, V x_Seg_Window, VS x_Seg_Body], I left] (I (-1)) [] := by
  refine con_i Tryz.func7 Tryz.ntmps7 (t := [(0, .agg [V x_DstMac, V x_SrcMac, V x_Vlan, V x_Tos, V x_Id, V x_Ttl, V x_SrcIp, V x_DstIp, V x_Seg_Kind, V x_Seg_SrcPort, V x_Seg_DstPort, V x_Seg_Seq, V x_Seg_Ack, V x_Seg_Flags, V x_Seg_Window, VS x_Seg_Body]), (1, I left)]) rfl ?_
  refine vc_sr ?_
  iterate 2 refine vo ?_
  refine vnt ?_
  refine vc_sr ?_
  iterate 3 refine vo ?_
  refine voc c_laws_szSegment_gt rfl rfl ?_
  refine vo ?_
  refine vnt ?_
  refine vc_seq' ?_
  refine vc_sr ?_
  iterate 2 refine vo ?_
  refine vnt ?_
  refine vc_if (fun g1 => ?_) (fun g1 => ?_)
  · refine vc_sr ?_
    refine vo ?_
    refine vnt ?_
    refine vc_ret ?_
    refine thn_r ?_
    refine fin_i [] rfl (fz ?_) (fz ?_) <;> first | trivial | rfl | omega | (simp; omega)
  · first | contradiction | omega | (simp at g1; done; done)
section
variable {P : Program} {f : FuncId} {args : List AV} {vs : List Value} {w : World}
theorem ab_agg (cs : List Value) (h : cs.all (·.oneCell') = true) {w : World} : AB w (.agg (cs.map .v)) (.agg cs.toArray) := ⟨cs, rfl, F2.plain h⟩
theorem rb_sl {α : Type} [Rep α] [Flat α] {w : World} {xs : List α} {v : Value} {E : α → List Value} (hE : ∀ x, E x = Flat.cells x) (h : Holds w xs [v]) : RB w (.sl (Rep.size α) (xs.map E)) v := by
  obtain ⟨a, cap, e, h1, h2, h3, h4⟩ := h.flat
  obtain rfl : v = .slice a xs.length cap := by simpa using e
  refine ⟨a, cap, by rw [List.length_map], by rwa [List.length_map], h2, fun e he => ?_, fun hne => ?_⟩
  · obtain ⟨x, _, rfl⟩ := List.mem_map.1 he
    rw [hE]; exact ⟨Flat.len x, List.all_eq_true.2 (Flat.one x)⟩
  · have hl : 0 < xs.length := by
      rcases xs with _ | ⟨x, xs⟩
      · exact (hne rfl).elim
      · exact Nat.succ_pos _
    obtain ⟨b, off, ha, _⟩ := h3 0 hl
    refine ⟨b, off, ha, fun i e he j hj => ?_⟩
    rw [List.getElem?_map] at he
    obtain ⟨x, hx, rfl⟩ := Option.map_eq_some_iff.1 he
    obtain ⟨hi, rfl⟩ := List.getElem?_eq_some_iff.1 hx
    obtain ⟨b', off', ha', hc⟩ := h3 i hi
    rw [ha] at ha'
    simp only [Option.some.injEq, Addr.mk.injEq, and_true] at ha'
    obtain ⟨rfl, rfl⟩ := ha'
    rw [hE]; exact hc j hj
theorem ab_mem {ps : Pg} {v : Value} (h : Holds w ps [v]) : AB w (.agg [.sl 1 (ps.map strE)]) (.agg #[v]) := ⟨[v], rfl, .cons (R.of_rb (rb_sl (fun _ => rfl) h)) .nil⟩
theorem ab_mps {l : List Mp} {v : Value} (h : Holds w l [v]) : AB w (.one (.sl 4 (l.map mpE))) v := R.of_rb (w0 := w) (D := fun _ => False) (ρ := fun _ => undef) (rb_sl (fun _ => rfl) h)
theorem old_one {x : Value} (hc : Con0 P f args (.one (.v x)) []) (ha : F2 (AB w) args vs) : Calls P f vs.toArray w fun e w' => e = .returned x ∧ Ex w w' := by
  refine (hc.2 w vs ha 0).mono fun e w' h => ?_
  obtain ⟨u, ρ, rfl, h1, _, _, _, As, h2, h3⟩ := h
  obtain ⟨rfl, _⟩ : u = x ∧ _ := h1
  exact ⟨rfl, h3.ex⟩
end
end Go.Proofs.YtnikopahkjmneaaGreat
end
section
namespace Go.Proofs.YtnikopahkjmneaaGreat
open Go Go.RowKit Go.Vc
set_option linter.unusedVariables false
set_option linter.unusedSimpArgs false
set_option linter.unnecessarySimpa false
theorem bAt_extract (s : ByteArray) (a b k : Nat) : bAt (s.extract a b) k = if a + k < b then bAt s (a + k) else 0 := by
  unfold bAt
  by_cases h : k < (s.extract a b).size
  · rw [dif_pos h]
    have h2 : k < min b s.size - a := by rw [ByteArray.size_extract] at h; exact h
    rw [if_pos (by omega), dif_pos (by omega), ByteArray.getElem_extract]
  · rw [dif_neg h]
    have h2 : ¬ k < min b s.size - a := by rw [ByteArray.size_extract] at h; exact h
    split
    · rw [dif_neg (by omega)]
    · rfl
theorem bAt_append (s t : ByteArray) (k : Nat) : bAt (s ++ t) k = if k < s.size then bAt s k else bAt t (k - s.size) := by
  unfold bAt
  by_cases h : k < s.size
  · rw [if_pos h, dif_pos (by rw [ByteArray.size_append]; omega), dif_pos h, ByteArray.getElem_append_left h]
  · rw [if_neg h]
    by_cases h2 : k - s.size < t.size
    · rw [dif_pos (by rw [ByteArray.size_append]; omega), dif_pos h2, ByteArray.getElem_append_right (by omega)]
    · rw [dif_neg (by rw [ByteArray.size_append]; omega), dif_neg h2]
theorem bAt_putB {s p : ByteArray} {a : Nat} (h : a + p.size ≤ s.size) (k : Nat) : bAt (putB s a p) k = if a ≤ k ∧ k < a + p.size then bAt p (k - a) else bAt s k := by
  unfold putB
  have ea : (s.extract 0 a).size = a := by rw [ByteArray.size_extract]; omega
  have eb : ∀ k, k < a → bAt (s.extract 0 a) k = bAt s k := fun k hk => by rw [bAt_extract, if_pos (by omega), Nat.zero_add]
  have ec : ∀ k, bAt (s.extract (a + p.size) s.size) k = if a + p.size + k < s.size then bAt s (a + p.size + k) else 0 := fun k => bAt_extract _ _ _ _
  generalize s.extract 0 a = u at *
  generalize s.extract (a + p.size) s.size = v at *
  have e0 : bAt (u ++ p ++ v) k = if k < a + p.size then (if k < a then bAt u k else bAt p (k - a)) else bAt v (k - (a + p.size)) := by
    rw [bAt_append, bAt_append, ByteArray.size_append, ea]
  rw [e0]
  by_cases h1 : k < a
  · have q1 : k < a + p.size := by omega
    have q2 : ¬ (a ≤ k ∧ k < a + p.size) := by omega
    rw [if_pos q1, if_pos h1, if_neg q2, eb k h1]
  · by_cases h2 : k < a + p.size
    · have q2 : a ≤ k ∧ k < a + p.size := by omega
      rw [if_pos h2, if_neg h1, if_pos q2]
    · have q2 : ¬ (a ≤ k ∧ k < a + p.size) := by omega
      rw [if_neg h2, if_neg q2, ec]
      by_cases h3 : k < s.size
      · have q3 : a + p.size + (k - (a + p.size)) = k := by omega
        rw [q3, if_pos h3]
      · have q3 : a + p.size + (k - (a + p.size)) = k := by omega
        rw [q3, if_neg h3]
        unfold bAt; rw [dif_neg h3]
structure EthX where
  (dst src vl ty : Int)
  (body : ByteArray)
structure IpX where
  (tos id ttl pr src dst : Int)
  (body : ByteArray)
structure SegX where
  (kind sp dp seq ack fl win : Int)
  (body : ByteArray)
structure Pk where
  (dm sm vl tos id ttl si di kind sp dp seq ack fl win : Int)
  (body : ByteArray)
def m6 (s : ByteArray) (i : Int) : Int := get16 s i * 4294967296 + get32 s (i + 2)
def ethX (s : ByteArray) : EthX := if get16 s 12 = 33024 ∧ 18 ≤ s.size then ⟨m6 s 0, m6 s 6, get16 s 14, get16 s 16, s.extract (Int.toNat 18) s.size⟩ else ⟨m6 s 0, m6 s 6, -1, get16 s 12, s.extract (Int.toNat 14) s.size⟩
def EthX.ok (e : EthX) : Bool := ethOkB e.dst e.src e.vl e.ty e.body.size
def ethPB (s : ByteArray) : Bool := decide (18 ≤ s.size) && (ethX s).ok
def IpX.ok (d : IpX) : Bool := ipOkB d.tos d.id d.ttl d.pr d.src d.dst d.body.size
def IpX.im (d : IpX) : ByteArray := ipR d.tos d.id d.ttl d.pr d.src d.dst d.body
def SegX.ok (src dst : Int) (g : SegX) : Bool := segC src dst g.kind g.sp g.dp g.seq g.ack g.fl g.win g.body
def SegX.im (src dst : Int) (g : SegX) : ByteArray := segR src dst g.kind g.sp g.dp g.seq g.ack g.fl g.win g.body
def Pk.sup (p : Pk) : Bool := superOkB p.dm p.sm p.vl p.tos p.id p.ttl p.si p.di p.kind p.sp p.dp p.seq p.ack p.fl p.win p.body.size
def Pk.im (p : Pk) : ByteArray := imgR p.dm p.sm p.vl p.tos p.id p.ttl p.si p.di p.kind p.sp p.dp p.seq p.ack p.fl p.win p.body
def Pk.sc (p : Pk) : Bool := supC p.dm p.sm p.vl p.tos p.id p.ttl p.si p.di p.kind p.sp p.dp p.seq p.ack p.fl p.win p.body
def pk0 : Pk := ⟨0, 0, 0, 0, 0, 0, 0, 0, 0, 0, 0, 0, 0, 0, 0, ⟨#[]⟩⟩
theorem get16_in {s : ByteArray} {i : Int} (h0 : 0 ≤ i) (h : i + 2 ≤ s.size) : 0 ≤ get16 s i ∧ get16 s i ≤ 65535 := by
  have := get16_bd s i
  rw [get16, if_pos ⟨h0, h⟩] at *
  omega
theorem get32_in {s : ByteArray} {i : Int} (h0 : 0 ≤ i) (h : i + 4 ≤ s.size) : 0 ≤ get32 s i ∧ get32 s i ≤ 4294967295 := by
  have := get32_bd s i
  rw [get32, if_pos ⟨h0, h⟩] at *
  omega
end Go.Proofs.YtnikopahkjmneaaGreat
end
section
namespace Go.Proofs.YtnikopahkjmneaaGreat
open Go Go.RowKit Go.Vc
set_option linter.unusedVariables false
set_option linter.unusedSimpArgs false
set_option linter.unnecessarySimpa false
theorem atp_eq {α : Type} [Inhabited α] {l : List α} {i : Nat} (h : i < l.length) : at' l i = l[i] := by unfold at'; rw [List.getElem?_eq_getElem h]; rfl
theorem atp_mem {α : Type} [Inhabited α] {l : List α} {i : Nat} (h : i < l.length) : at' l i ∈ l := by rw [atp_eq h]; exact List.getElem_mem h
structure Sm where
  (kind si di sp dp next : Int)
  (data : ByteArray)
  (done : Bool)
def sm0 : Sm := ⟨0, 0, 0, 0, 0, 0, ⟨#[]⟩, false⟩
instance : Inhabited Sm := ⟨sm0⟩
def giveB (pb pz pc : Int) (fr ks : List Int) : Bool := poolB pb pz pc fr && poolB pb pz pc (fr ++ ks)
def giveF (pb pz pc : Int) (fr ks : List Int) : List Int := if giveB pb pz pc fr ks then fr ++ ks else fr
theorem give_y {pb pz pc : Int} {fr ks : List Int} (h1 : poolB pb pz pc fr = true) (h2 : poolB pb pz pc (fr ++ ks) = true) : giveF pb pz pc fr ks = fr ++ ks ∧ giveB pb pz pc fr ks = true := by
  have : giveB pb pz pc fr ks = true := by unfold giveB; rw [h1, h2]; rfl
  exact ⟨if_pos this, this⟩
theorem give_n {pb pz pc : Int} {fr ks : List Int} (h : poolB pb pz pc fr = false ∨ poolB pb pz pc (fr ++ ks) = false) : giveF pb pz pc fr ks = fr ∧ giveB pb pz pc fr ks = false := by
  have : giveB pb pz pc fr ks = false := by unfold giveB; rcases h with h | h <;> rw [h] <;> simp
  exact ⟨if_neg (by rw [this]; decide), this⟩
def bufA (pb pz pc : Int) (fr : List Int) (k : Int) : Int := if poolB pb pz pc fr && inB k 0 (pc - 1) then pb + k * pz else -1
theorem bufA_n {pb pz pc k : Int} {fr : List Int} (h : poolB pb pz pc fr = false ∨ inB k 0 (pc - 1) = false) : bufA pb pz pc fr k = -1 := by
  refine if_neg ?_
  rcases h with h | h <;> rw [h] <;> simp
theorem bufA_y {pb pz pc k : Int} {fr : List Int} (h1 : poolB pb pz pc fr = true) (h2 : inB k 0 (pc - 1) = true) : bufA pb pz pc fr k = pb + k * pz ∧ 0 ≤ k * pz ∧ k * pz ≤ 7680 := by
  obtain ⟨b0, b1, z0, z1, c0, c1, _⟩ := poolB_facts h1
  have hk := inB_iff.1 h2
  refine ⟨if_pos (by rw [h1, h2]; rfl), Int.mul_nonneg hk.1 (by omega), ?_⟩
  have h3 := Int.mul_le_mul (show k ≤ 15 by omega) z1 (by omega) (by omega)
  omega
theorem bufA_bd (pb pz pc : Int) (fr : List Int) (k : Int) : -1 ≤ bufA pb pz pc fr k ∧ bufA pb pz pc fr k ≤ 140000 := by
  by_cases h1 : poolB pb pz pc fr = true
  · by_cases h2 : inB k 0 (pc - 1) = true
    · obtain ⟨e, h3, h4⟩ := bufA_y h1 h2
      obtain ⟨b0, b1, _⟩ := poolB_facts h1
      omega
    · rw [bufA_n (.inr (by simpa using h2))]; omega
  · rw [bufA_n (.inl (by simpa using h1))]; omega
end Go.Proofs.YtnikopahkjmneaaGreat
end
section
namespace Go.Proofs.YtnikopahkjmneaaGreat
open Go Go.RowKit Go.Vc
set_option linter.unusedVariables false
set_option linter.unusedSimpArgs false
set_option linter.unnecessarySimpa false
def sumsA (s : ByteArray) : Int := if get16 s 12 = 33024 then 18 else 14
def sumsK (s : ByteArray) : Int := bAt s (sumsA s + 9).toNat
def sumsB (s : ByteArray) : Int := sumsA s + 20 + sumPl (sumsK s)
theorem sumsA_bd (s : ByteArray) : sumsA s = 14 ∨ sumsA s = 18 := by unfold sumsA; split <;> simp
theorem sumsB_bd (s : ByteArray) : sumsB s = sumsA s + 26 ∨ sumsB s = sumsA s + 36 := by unfold sumsB sumPl; split <;> omega
def Pk.tm (p : Pk) : ByteArray := if p.sup then putBF (putBF p.im (sumsA p.im + 10) (word16 0)) (sumsB p.im) (word16 0) else ⟨#[]⟩
theorem get16_at {s : ByteArray} {i : Nat} (h : i + 2 ≤ s.size) : get16 s (i : Int) = ((bAt s i * 256 + bAt s (i + 1) : Nat) : Int) := by
  rw [get16, if_pos (by omega), Int.toNat_natCast]
theorem putBF_at {s p : ByteArray} {i : Nat} (h : i + p.size ≤ s.size) (k : Nat) : bAt (putBF s (i : Int) p) k = if i ≤ k ∧ k < i + p.size then bAt p (k - i) else bAt s k := by
  rw [Go.Proofs.YtnikopahkjmneaaGreat.putBF_in h, bAt_putB h]
theorem mac_sz {a : Int} (h : inB a 0 281474976710655 = true) : (macF a).size = 6 := by
  have h1 := inB_iff.1 h
  unfold macF
  rw [ByteArray.size_append, word16_size (inB_iff.2 (by omega)), word32_size (inB_iff.2 (by omega))]
theorem bAt_lit {xs : List Int} {i : Nat} (h : i < xs.length) : bAt (strOfNums xs) i = xs[i].toNat % 256 := by
  unfold bAt
  rw [dif_pos (by rw [strOfNums_size]; exact h)]
  simp only [strOfNums, ByteArray.getElem_eq_getElem_data, List.getElem_toArray, List.getElem_map]
  rfl
theorem w16_at {v : Int} (h : inB v 0 65535 = true) : ((bAt (word16 v) 0 * 256 + bAt (word16 v) 1 : Nat) : Int) = v := by
  have h1 := inB_iff.1 h
  rw [show word16 v = strOfNums [v / 256, v % 256] by unfold word16; rw [if_pos h], bAt_lit (i := 0) (by simp), bAt_lit (i := 1) (by simp)]
  simp only [List.getElem_cons_zero, List.getElem_cons_succ]
  omega
theorem get16_mid {a r : ByteArray} {v : Int} (h : inB v 0 65535 = true) {i : Nat} (hi : i = a.size) : get16 (a ++ word16 v ++ r) (i : Int) = v := by
  subst hi
  have hs := word16_size h
  rw [get16_at (by rw [ByteArray.size_append, ByteArray.size_append, hs]; omega)]
  rw [bAt_append, if_pos (by rw [ByteArray.size_append, hs]; omega), bAt_append a, if_neg (by omega), Nat.sub_self]
  rw [bAt_append, if_pos (by rw [ByteArray.size_append, hs]; omega), bAt_append a, if_neg (by omega), show a.size + 1 - a.size = 1 by omega]
  exact w16_at h
theorem img_lay {p : Pk} (h : p.sup = true) : 46 + sumsA p.im ≤ p.im.size ∧ p.im.size ≤ 400 + sumsA p.im ∧ inB p.vl (-1) 4095 = true ∧ ((get16 p.im 12 = 33024 ∧ get16 p.im 14 = p.vl ∧ get16 p.im 16 = 2048) ∨ get16 p.im 12 = 2048) := by
  obtain ⟨h1, h2, h3, h4, h5, h6, h7, h8, h9, h10⟩ := superOk_facts h
  have e := (sup_img h).1
  unfold supC at e
  rw [Bool.and_eq_true] at e
  have e2 := e.2
  have hi : p.im = ethF p.dm p.sm p.vl 2048 (padF (ipR p.tos p.id p.ttl p.kind p.si p.di (segR p.si p.di p.kind p.sp p.dp p.seq p.ack p.fl p.win p.body))) := by
    unfold Pk.im imgR
    rw [if_pos (show superOkB _ _ _ _ _ _ _ _ _ _ _ _ _ _ _ _ = true from h), ethR, if_pos e2]
  have hb : inB ((padF (ipR p.tos p.id p.ttl p.kind p.si p.di (segR p.si p.di p.kind p.sp p.dp p.seq p.ack p.fl p.win p.body))).size : Int) 46 400 = true := by
    unfold ethOkB at e2
    simp only [Bool.and_eq_true] at e2
    exact e2.2
  generalize padF (ipR p.tos p.id p.ttl p.kind p.si p.di (segR p.si p.di p.kind p.sp p.dp p.seq p.ack p.fl p.win p.body)) = b at *
  have hb2 := inB_iff.1 hb
  have m1 := mac_sz h1
  have m2 := mac_sz h2
  have w1 : (word16 33024).size = 2 := rfl
  have w2 : (word16 2048).size = 2 := rfl
  have hv := inB_iff.1 h3
  rw [hi]
  unfold ethF
  by_cases hv0 : 0 ≤ p.vl
  · rw [if_pos hv0]
    have w3 : (word16 p.vl).size = 2 := word16_size (inB_iff.2 (by omega))
    have q1 : get16 (macF p.dm ++ macF p.sm ++ (word16 33024 ++ word16 p.vl) ++ word16 2048 ++ b) ((12 : Nat) : Int) = 33024 := by
      rw [show macF p.dm ++ macF p.sm ++ (word16 33024 ++ word16 p.vl) ++ word16 2048 ++ b = macF p.dm ++ macF p.sm ++ word16 33024 ++ (word16 p.vl ++ (word16 2048 ++ b)) by simp only [ByteArray.append_assoc]]
      exact get16_mid (by decide) (by rw [ByteArray.size_append, m1, m2])
    have q2 : get16 (macF p.dm ++ macF p.sm ++ (word16 33024 ++ word16 p.vl) ++ word16 2048 ++ b) ((14 : Nat) : Int) = p.vl := by
      rw [show macF p.dm ++ macF p.sm ++ (word16 33024 ++ word16 p.vl) ++ word16 2048 ++ b = (macF p.dm ++ macF p.sm ++ word16 33024) ++ word16 p.vl ++ (word16 2048 ++ b) by simp only [ByteArray.append_assoc]]
      exact get16_mid (inB_iff.2 (by omega)) (by simp only [ByteArray.size_append, m1, m2, w1])
    have q3 : get16 (macF p.dm ++ macF p.sm ++ (word16 33024 ++ word16 p.vl) ++ word16 2048 ++ b) ((16 : Nat) : Int) = 2048 := by
      rw [show macF p.dm ++ macF p.sm ++ (word16 33024 ++ word16 p.vl) ++ word16 2048 ++ b = (macF p.dm ++ macF p.sm ++ (word16 33024 ++ word16 p.vl)) ++ word16 2048 ++ b by simp only [ByteArray.append_assoc]]
      exact get16_mid (by decide) (by simp only [ByteArray.size_append, m1, m2, w1, w3])
    have hz : (macF p.dm ++ macF p.sm ++ (word16 33024 ++ word16 p.vl) ++ word16 2048 ++ b).size = 18 + b.size := by
      simp only [ByteArray.size_append, m1, m2, w1, w2, w3]
    have ha : sumsA (macF p.dm ++ macF p.sm ++ (word16 33024 ++ word16 p.vl) ++ word16 2048 ++ b) = 18 := by unfold sumsA; exact if_pos q1
    exact ⟨by omega, by omega, h3, .inl ⟨q1, q2, q3⟩⟩
  · rw [if_neg hv0]
    have q1 : get16 (macF p.dm ++ macF p.sm ++ word16 2048 ++ b) ((12 : Nat) : Int) = 2048 := get16_mid (by decide) (by rw [ByteArray.size_append, m1, m2])
    have hz : (macF p.dm ++ macF p.sm ++ word16 2048 ++ b).size = 14 + b.size := by
      simp only [ByteArray.size_append, m1, m2, w2]
    have ha : sumsA (macF p.dm ++ macF p.sm ++ word16 2048 ++ b) = 14 := by unfold sumsA; refine if_neg ?_; rw [show (12 : Int) = ((12 : Nat) : Int) from rfl, q1]; decide
    exact ⟨by omega, by omega, h3, .inr q1⟩
theorem get16_put {s p : ByteArray} {i j : Nat} (h : i + p.size ≤ s.size) (hj : j + 2 ≤ i ∨ i + p.size ≤ j) : get16 (putBF s (i : Int) p) (j : Int) = get16 s (j : Int) := by
  have hz := putBF_size s (i : Int) p
  by_cases hs : j + 2 ≤ s.size
  · rw [get16_at (by omega), get16_at hs, putBF_at h, if_neg (by omega), putBF_at h, if_neg (by omega)]
  · rw [get16, if_neg (by omega), get16, if_neg (by omega)]
theorem get16_here {s : ByteArray} {i : Nat} {v : Int} (hv : inB v 0 65535 = true) (h : i + 2 ≤ s.size) : get16 (putBF s (i : Int) (word16 v)) (i : Int) = v := by
  have hz := putBF_size s (i : Int) (word16 v)
  have hw := word16_size hv
  rw [get16_at (by omega), putBF_at (by omega), if_pos (by omega), putBF_at (by omega), if_pos (by omega), Nat.sub_self, show i + 1 - i = 1 by omega]
  exact w16_at hv
theorem tm_facts {p : Pk} (h : p.sup = true) {t : ByteArray} (ht : p.tm = t) : t.size = p.im.size ∧ sumsA t = sumsA p.im ∧ sumsB t = sumsB p.im ∧ get16 t (sumsA t + 10) = 0 ∧ get16 t (sumsB t) = 0 ∧ ethPB t = true := by
  obtain ⟨l1, l2, l3, l4⟩ := img_lay h
  unfold Pk.tm at ht
  rw [if_pos h] at ht
  have w0 : (word16 0).size = 2 := rfl
  have ha := sumsA_bd p.im
  have hb := sumsB_bd p.im
  obtain ⟨A, hA⟩ := Int.eq_ofNat_of_zero_le (show 0 ≤ sumsA p.im + 10 by omega)
  obtain ⟨B, hB⟩ := Int.eq_ofNat_of_zero_le (show 0 ≤ sumsB p.im by omega)
  rw [hA, hB] at ht
  have z1 := putBF_size p.im (A : Int) (word16 0)
  have z2 := putBF_size (putBF p.im (A : Int) (word16 0)) (B : Int) (word16 0)
  rw [ht] at z2
  have hg : ∀ j : Nat, j + 2 ≤ A → get16 t (j : Int) = get16 p.im (j : Int) := fun j hj => by
    rw [← ht, get16_put (by omega) (by omega), get16_put (by omega) (by omega)]
  have g12 : get16 t 12 = get16 p.im 12 := hg 12 (by omega)
  have eA : sumsA t = sumsA p.im := by unfold sumsA; rw [g12]
  have eK : sumsK t = sumsK p.im := by
    unfold sumsK
    rw [eA, ← ht, putBF_at (by omega), if_neg (by omega), putBF_at (by omega), if_neg (by omega)]
  have eB : sumsB t = sumsB p.im := by unfold sumsB; rw [eA, eK]
  have zB : get16 t (B : Int) = 0 := by rw [← ht]; exact get16_here (by decide) (by omega)
  have zA : get16 t (A : Int) = 0 := by rw [← ht, get16_put (by omega) (by omega)]; exact get16_here (by decide) (by omega)
  refine ⟨by omega, eA, eB, by rw [eA, hA]; exact zA, by rw [eB, hB]; exact zB, ?_⟩
  have hs : t.size = p.im.size := by omega
  have hvl := inB_iff.1 l3
  have k0 := get16_in (s := t) (i := 0) (by omega) (by omega)
  have k1 := get32_in (s := t) (i := 2) (by omega) (by omega)
  have k2 := get16_in (s := t) (i := 6) (by omega) (by omega)
  have k3 := get32_in (s := t) (i := 8) (by omega) (by omega)
  have i0 : inB (m6 t 0) 0 281474976710655 = true := inB_iff.2 (by unfold m6; simp only [Int.zero_add]; omega)
  have i1 : inB (m6 t 6) 0 281474976710655 = true := inB_iff.2 (by unfold m6; rw [show (6 : Int) + 2 = 8 from rfl]; omega)
  unfold ethPB EthX.ok ethX
  rw [decide_eq_true (show 18 ≤ t.size by omega), Bool.true_and]
  rcases l4 with ⟨q1, q2, q3⟩ | q1
  · have hA2 : sumsA p.im = 18 := by unfold sumsA; rw [if_pos q1]
    rw [if_pos ⟨by rw [g12, q1], by omega⟩]
    simp only
    rw [show get16 t 14 = p.vl from (hg 14 (by omega)).trans q2, show get16 t 16 = 2048 from (hg 16 (by omega)).trans q3]
    unfold ethOkB
    rw [i0, i1, l3, inB_iff.2 (show (1536 : Int) ≤ 2048 ∧ (2048 : Int) ≤ 65535 by omega), inB_iff.2 (by rw [ByteArray.size_extract]; have : Int.toNat 18 = 18 := rfl; omega)]
    decide
  · have hA2 : sumsA p.im = 14 := by unfold sumsA; rw [if_neg (by rw [q1]; decide)]
    rw [if_neg (by rw [g12, q1]; omega)]
    simp only
    rw [g12, q1]
    unfold ethOkB
    rw [i0, i1, inB_iff.2 (show (-1 : Int) ≤ -1 ∧ (-1 : Int) ≤ 4095 by omega), inB_iff.2 (show (1536 : Int) ≤ 2048 ∧ (2048 : Int) ≤ 65535 by omega), inB_iff.2 (by rw [ByteArray.size_extract]; have : Int.toNat 14 = 14 := rfl; omega)]
    decide
end Go.Proofs.YtnikopahkjmneaaGreat
end
section
namespace Go.Proofs.YtnikopahkjmneaaGreat
open Go Go.RowKit Go.Vc
set_option linter.unusedVariables false
set_option linter.unusedSimpArgs false
set_option linter.unnecessarySimpa false
theorem atq_eq {α : Type} [Inhabited α] {l : List α} {i : Nat} (h : i < l.length) : at' l i = l[i] := by unfold at'; rw [List.getElem?_eq_getElem h]; rfl
theorem all_stp {α : Type} [Inhabited α] {l : List α} {p : α → Bool} {i : Nat} (h : (l.take i).all p = true) (hi : i < l.length) (hp : p (at' l i) = true) : (l.take (i + 1)).all p = true := by
  rw [List.take_succ_eq_append_getElem hi, List.all_append, h, ← atq_eq hi]
  simp [hp]
theorem all_bad {α : Type} [Inhabited α] {l : List α} {p : α → Bool} {i : Nat} (hi : i < l.length) (hp : p (at' l i) = false) : l.all p = false := by
  rw [Bool.eq_false_iff]
  intro h
  have := List.all_eq_true.1 h l[i] (List.getElem_mem hi)
  rw [atq_eq hi] at hp
  rw [hp] at this; cases this
theorem all_end {α : Type} {l : List α} {p : α → Bool} {i : Nat} (h : (l.take i).all p = true) (hi : ¬ i < l.length) : l.all p = true := by
  rw [List.take_of_length_le (by omega)] at h; exact h
abbrev Pc := Int × Int
def pcE (p : Pc) : List Value := [.int .i64 p.1, .int .i64 p.2]
def dscE (d : Dsc) : List Value := [.int .i64 d.1, .int .i64 d.2.1, .int .i64 d.2.2.1, .int .i64 d.2.2.2.1, .int .i64 d.2.2.2.2.1, .int .i64 d.2.2.2.2.2]
def pcOk (p : Pc) : Bool := decide (0 ≤ p.1) && inB p.2 0 4096
def pcsOk (l : List Pc) : Bool := l.all pcOk && decide (l.length ≤ 16)
theorem pcOk_no {p : Pc} (h : p.1 < 0 ∨ inB p.2 0 4096 = false) : pcOk p = false := by
  unfold pcOk
  rcases h with h | h
  · rw [decide_eq_false (by omega)]; rfl
  · rw [h, Bool.and_false]
theorem pcOk_yes {p : Pc} (h1 : 0 ≤ p.1) (h2 : inB p.2 0 4096 = true) : pcOk p = true := by
  unfold pcOk
  rw [decide_eq_true h1, h2]; rfl
theorem pcsOk_end {l : List Pc} {i : Nat} (h : (l.take i).all pcOk = true) (hi : ¬ i < l.length) : pcsOk l = decide ((l.length : Int) ≤ 16) := by
  unfold pcsOk
  rw [all_end h hi, Bool.true_and]
  congr 1
  exact propext ⟨fun h => by omega, fun h => by omega⟩
theorem pcsOk_bad {l : List Pc} {i : Nat} (hi : i < l.length) (h : (at' l i).1 < 0 ∨ inB (at' l i).2 0 4096 = false) : pcsOk l = false := by
  unfold pcsOk
  rw [all_bad hi (pcOk_no h)]; rfl
theorem pcsOk_iff {l : List Pc} : pcsOk l = true ↔ (∀ i, i < l.length → 0 ≤ (at' l i).1 ∧ 0 ≤ (at' l i).2 ∧ (at' l i).2 ≤ 4096) ∧ l.length ≤ 16 := by
  unfold pcsOk
  rw [Bool.and_eq_true, decide_eq_true_eq, List.all_eq_true]
  constructor
  · rintro ⟨h1, h2⟩
    refine ⟨fun i hi => ?_, h2⟩
    have := h1 l[i] (List.getElem_mem hi)
    rw [← atq_eq hi] at this
    unfold pcOk at this
    rw [Bool.and_eq_true, decide_eq_true_eq, inB_iff] at this
    exact ⟨this.1, this.2.1, this.2.2⟩
  · rintro ⟨h1, h2⟩
    refine ⟨fun x hx => ?_, h2⟩
    obtain ⟨i, hi, rfl⟩ := List.getElem_of_mem hx
    have := h1 i hi
    rw [atq_eq hi] at this
    unfold pcOk
    rw [Bool.and_eq_true, decide_eq_true_eq, inB_iff]
    exact ⟨this.1, this.2.1, this.2.2⟩
def dOk (d : Dsc) : Bool := descB d.1 d.2.1 d.2.2.1 d.2.2.2.1 d.2.2.2.2.1 d.2.2.2.2.2
def dAt (l : List Pc) (size ck : Int) : Nat → Dsc
  | 0 => (2, 0, 0, 0, size, ck)
  | i + 1 => (1, if i + 1 = l.length then 1 else 0, (at' l i).2, (at' l i).1, 0, ck)
def dsF (l : List Pc) (size ck : Int) (n : Nat) : List Dsc := (List.range n).map (dAt l size ck)
theorem dsF_stp (l : List Pc) (size ck : Int) (n : Nat) : dsF l size ck n ++ [dAt l size ck n] = dsF l size ck (n + 1) := by
  unfold dsF
  rw [List.range_succ, List.map_append]; rfl
theorem dsF_len (l : List Pc) (size ck : Int) (n : Nat) : (dsF l size ck n).length = n := by unfold dsF; rw [List.length_map, List.length_range]
theorem dsF_at {l : List Pc} {size ck : Int} {n i : Nat} (h : i < n) : at' (dsF l size ck n) i = dAt l size ck i := by
  rw [atq_eq (by rw [dsF_len]; exact h)]
  unfold dsF
  rw [List.getElem_map, List.getElem_range]
def descrB (l : List Pc) (size ck : Int) : Bool := !decide (l = []) && (pcsOk l && (inB size 1 128 && (dsF l size ck (l.length + 1)).all dOk))
def descrF (l : List Pc) (size ck : Int) : List Dsc := if descrB l size ck then dsF l size ck (l.length + 1) else []
theorem descr_n {l : List Pc} {size ck : Int} (h : l = [] ∨ pcsOk l = false ∨ inB size 1 128 = false ∨ (dsF l size ck (l.length + 1)).all dOk = false) : descrF l size ck = [] := by
  refine if_neg ?_
  unfold descrB
  rcases h with h | h | h | h
  · rw [decide_eq_true h]; simp
  · rw [h]; simp
  · rw [h]; simp
  · rw [h]; simp
theorem descr_y {l : List Pc} {size ck : Int} (h1 : ¬ l = []) (h2 : pcsOk l = true) (h3 : inB size 1 128 = true) (h4 : (dsF l size ck (l.length + 1)).all dOk = true) : descrF l size ck = dsF l size ck (l.length + 1) := by
  refine if_pos ?_
  unfold descrB
  rw [decide_eq_false h1, h2, h3, h4]; rfl
theorem descr_bad {l : List Pc} {size ck : Int} {i : Nat} (hi : i < l.length + 1) (h : dOk (dAt l size ck i) = false) : descrF l size ck = [] := by
  refine descr_n (.inr (.inr (.inr ?_)))
  exact all_bad (i := i) (by rw [dsF_len]; exact hi) (by rw [dsF_at hi]; exact h)
theorem descrF_le (l : List Pc) (size ck : Int) : (descrF l size ck).length ≤ l.length + 1 := by
  unfold descrF
  split
  · rw [dsF_len]; exact Nat.le_refl _
  · exact Nat.zero_le _
def Pk.ok (p : Pk) : Bool := p.sup && decide (p.body.size ≤ 128)
instance : Inhabited Pk := ⟨pk0⟩
end Go.Proofs.YtnikopahkjmneaaGreat
end
section
namespace Go.Vc
open Go Go.RowKit
set_option linter.unusedVariables false
section
variable {P : Program} [TyEnv P] {n : Nat} {ops os : List Oper} {dr : Bool} {K : Tm → Hp → Prop} {t : Tm} {H : Hp} {fp : List Fp} {d : Nat}
theorem vepl {sz k j : Nat} {c : Int} {es : List (List Value)} (hj : c.toNat = j) (h : Vd P n ops dr K os ((d, .one (.ep sz es j k)) :: t) H fp) : Vd P n ops dr K os ((d, .one (.ep sz es c.toNat k)) :: t) H fp := by rw [hj]; exact h
theorem vptl {i sz k j : Nat} {c : Int} (hj : c.toNat = j) (h : Vd P n ops dr K os ((d, .one (.ptr i j sz k)) :: t) H fp) : Vd P n ops dr K os ((d, .one (.ptr i c.toNat sz k)) :: t) H fp := by rw [hj]; exact h
theorem vh1 {k sz : Nat} {E : TypeId} {es es' : List (List Value)} (he : es = es') (h : Vd P n ops dr K os t [(k, .arr E sz es')] fp) : Vd P n ops dr K os t [(k, .arr E sz es)] fp := he ▸ h
end
end Go.Vc
end
section
namespace Go.Proofs.YtnikopahkjmneaaGreat
open Go Go.RowKit Go.Vc
set_option linter.unusedVariables false
set_option linter.unusedSimpArgs false
set_option linter.unnecessarySimpa false
theorem seen_at {n : Nat} {xs : List Int} {k : Int} (h0 : 0 ≤ k) (h1 : k < n) : at' (seenF n xs) k.toNat = xs.contains k := by
  obtain ⟨i, rfl⟩ := Int.eq_ofNat_of_zero_le h0
  rw [atp_eq (by rw [seenF_length]; omega)]
  have := seenF_get xs (show i < n by omega)
  rw [List.getElem?_eq_getElem (by rw [seenF_length]; omega)] at this
  simpa using this
theorem seen_set {n : Nat} {xs : List Int} {k : Int} (h0 : 0 ≤ k) (h1 : k < n) : ((seenF n xs).map booE).set k.toNat [.bool true] = (seenF n (xs ++ [k])).map booE := by
  obtain ⟨i, rfl⟩ := Int.eq_ofNat_of_zero_le h0
  rw [← seenF_set xs (show i < n by omega), List.map_set]; rfl
theorem seen_nil (n : Nat) : (seenF n []).map booE = List.replicate (n : Int).toNat [Value.bool false] := by
  rw [seenF_nil, List.map_replicate]; rfl
theorem take_at {α : Type} [Inhabited α] {l : List α} {i : Nat} (h : i < l.length) : l.take (i + 1) = l.take i ++ [at' l i] := by
  rw [List.take_succ_eq_append_getElem h, atp_eq h]
theorem pool_no {b z c : Int} {fr : List Int} (h : inB b 0 130944 = false ∨ inB z 1 512 = false ∨ inB c 0 16 = false) : poolB b z c fr = false := by
  unfold poolB
  rcases h with h | h | h <;> rw [h] <;> simp
theorem pool_rng {b z : Int} {n : Nat} {fr : List Int} {i : Nat} (hi : i < fr.length) (h : inB (at' fr i) 0 ((n : Int) - 1) = false) : poolB b z n fr = false := poolB_range hi (atp_eq hi).symm h
theorem pool_dup {b z : Int} {n : Nat} {fr : List Int} {i : Nat} (hi : i < fr.length) (h : (fr.take i).contains (at' fr i) = true) : poolB b z n fr = false := poolB_dup hi (atp_eq hi).symm h
theorem pool_stp {n : Nat} {fr : List Int} {i : Nat} (hi : i < fr.length) (g : poolG n fr i) (h1 : inB (at' fr i) 0 ((n : Int) - 1) = true) (h2 : (fr.take i).contains (at' fr i) = false) : poolG n fr (i + 1) := poolG_step hi (atp_eq hi).symm g h1 h2
theorem pool_all {b z : Int} {n : Nat} {fr : List Int} {i : Nat} (h0 : inB b 0 130944 = true) (h1 : inB z 1 512 = true) (h2 : inB (n : Int) 0 16 = true) (g : poolG n fr i) (hi : i ≤ fr.length) (hh : ¬ i < fr.length) : poolB b z n fr = true := by
  obtain rfl : i = fr.length := by omega
  exact poolB_all h0 h1 h2 g
theorem rpu_n {l : List Mp} {ps : Pg} {d b s h t : Int} {e : ByteArray} (hh : freeF b s h t = 0 ∨ ¬ e.size = 16 ∨ (dmaWF l ps d (rslot b s t) e true).2 = false) : rputF l ps d b s h t e = (ps, t, false) := by
  unfold rputF
  split
  · rfl
  · split
    · rename_i g1 g2
      have h3 : (dmaWF l ps d (rslot b s t) e true).2 = false := by
        rcases hh with hh | hh | hh
        · exact (g1 hh).elim
        · exact (hh g2).elim
        · exact hh
      generalize dmaWF l ps d (rslot b s t) e true = x at h3 ⊢
      obtain ⟨x1, x2⟩ := x
      simp only at h3
      subst h3; rfl
    · rfl
theorem rpu_y {l : List Mp} {ps : Pg} {d b s h t : Int} {e : ByteArray} (h1 : ¬ freeF b s h t = 0) (h2 : e.size = 16) (h3 : (dmaWF l ps d (rslot b s t) e true).2 = true) : rputF l ps d b s h t e = ((dmaWF l ps d (rslot b s t) e true).1, rnext s t, true) := by
  unfold rputF
  rw [if_neg h1, if_pos h2]
  generalize dmaWF l ps d (rslot b s t) e true = x at h3 ⊢
  obtain ⟨x1, x2⟩ := x
  simp only at h3
  subst h3; rfl
set_option maxHeartbeats 4000000 in
theorem c_impl_copyInts {fr : List Int} (hl_fr : fr.length ≤ 1099511627776 := by first | with_reducible assumption | omega) : Con0 Tryz.prog 100 [.one (.sl 1 (fr.map intE))] (.one (.hs 0)) [(0, .arr 3 1 (fr.map intE))] := by
  refine con_i Tryz.func100 Tryz.ntmps100 (t := [(0, .one (.sl 1 (fr.map intE)))]) rfl ?_
  refine vc_sr ?_
  refine vo ?_
  refine vnt ?_
  refine vc_sr ?_
  iterate 4 refine vo ?_
  refine vnt ?_
  refine vc_ret ?_
  refine fin_i [(0, some 40)] rfl (fz ?_) (fz ?_) <;> first | trivial | rfl | simp
set_option maxHeartbeats 4000000 in
theorem c_impl_copyPool {pb pz pc : Int} {fr : List Int} (hl_fr : fr.length ≤ 1099511627776 := by first | with_reducible assumption | omega) : Con0 Tryz.prog 88 [.agg [V pb, V pz, V pc, .sl 1 (fr.map intE)]] (.agg [V pb, V pz, V pc, .hs 0]) [(0, .arr 3 1 (fr.map intE))] := by
  refine con_i Tryz.func88 Tryz.ntmps88 (t := [(0, .agg [V pb, V pz, V pc, .sl 1 (fr.map intE)])]) rfl ?_
  refine vc_sr ?_
  iterate 2 refine vo ?_
  refine vnt ?_
  refine vc_sr ?_
  iterate 2 refine vo ?_
  refine voc c_impl_copyInts rfl rfl ?_
  iterate 2 refine vo ?_
  refine vnt ?_
  refine vc_sr ?_
  iterate 2 refine vo ?_
  refine vnt ?_
  refine vc_ret ?_
  refine fin_i [(0, some 40)] rfl (fz ?_) (fz ?_) <;> first | trivial | rfl | simp
set_option maxHeartbeats 4000000 in
theorem c_spec_l21Copy {pb pz pc : Int} {fr : List Int} (hl_fr : fr.length ≤ 1099511627776 := by first | with_reducible assumption | omega) : Con0 Tryz.prog 78 [.agg [V pb, V pz, V pc, .sl 1 (fr.map intE)]] (.agg [V pb, V pz, V pc, .hs 0]) [(0, .arr 3 1 (fr.map intE))] := by
  refine con_i Tryz.func78 Tryz.ntmps78 (t := [(0, .agg [V pb, V pz, V pc, .sl 1 (fr.map intE)])]) rfl ?_
  refine vc_sr ?_
  iterate 2 refine vo ?_
  refine vnt ?_
  refine vc_sr ?_
  iterate 12 refine vo ?_
  refine vnt ?_
  refine vc_ret ?_
  refine fin_i [(0, some 96)] rfl (fz ?_) (fz ?_) <;> first | trivial | rfl | simp
set_option maxHeartbeats 4000000 in
theorem c_impl_PoolOk {pb pz pc : Int} {fr : List Int} (hl_fr : fr.length ≤ 1099511627776 := by first | with_reducible assumption | omega) : Con0 Tryz.prog 91 [.agg [V pb, V pz, V pc, .sl 1 (fr.map intE)]] (B (poolB pb pz pc fr)) [] := by
  refine con_i Tryz.func91 Tryz.ntmps91 (t := [(0, .agg [V pb, V pz, V pc, .sl 1 (fr.map intE)])]) rfl ?_
  refine vc_sr ?_
  iterate 2 refine vo ?_
  refine vnt ?_
  refine vc_seq' ?_
  refine vc_sr ?_
  iterate 2 refine vo ?_
  refine voc c_impl_between rfl rfl ?_
  iterate 2 refine vo ?_
  refine vsp (fun g1 => ?_) (fun g1 => ?_)
  · iterate 4 refine vof ?_
    iterate 2 refine vo ?_
    iterate 4 refine vof ?_
    refine vo ?_
    refine vnt ?_
    refine vc_then ?_
    refine vc_sr ?_
    refine vo ?_
    refine vnt ?_
    refine vc_ret ?_
    refine thn_r ?_
    refine fin_i [] rfl (fz ?_) trivial
    exact pool_no (.inl g1)
  · iterate 2 refine von ?_
    refine vocn c_impl_between rfl rfl ?_
    refine von ?_
    iterate 2 refine vo ?_
    refine vsp (fun g2 => ?_) (fun g2 => ?_)
    · iterate 4 refine vof ?_
      refine vo ?_
      refine vnt ?_
      refine vc_then ?_
      refine vc_sr ?_
      refine vo ?_
      refine vnt ?_
      refine vc_ret ?_
      refine thn_r ?_
      refine fin_i [] rfl (fz ?_) trivial
      exact pool_no (.inr (.inl g2))
    · iterate 2 refine von ?_
      refine vocn c_impl_between rfl rfl ?_
      refine von ?_
      refine vo ?_
      refine vnt ?_
      refine vc_if (fun g3 => ?_) (fun g3 => ?_)
      · refine vc_sr ?_
        refine vo ?_
        refine vnt ?_
        refine vc_ret ?_
        refine thn_r ?_
        refine fin_i [] rfl (fz ?_) trivial
        exact pool_no (.inr (.inr g3))
      · have hz3 := inB_iff.1 g3
        obtain ⟨n, rfl⟩ := Int.eq_ofNat_of_zero_le hz3.1
        refine vc_skip ?_
        refine thn ?_
        refine vc_sr ?_
        iterate 4 refine vo ?_
        refine vnt ?_
        refine vc_seq' ?_
        refine vc_sr ?_
        iterate 3 refine vo ?_
        try first | refine vlb ?_ | refine vln ?_
        refine vo ?_
        refine vnt ?_
        refine vc_block ?_
        refine vc_lp (σ := Nat) [1, 3, 26, 27] [8] (fun i => [(28, I (i : Nat))]) (fun i => [(192, .arr 4 1 ((seenF n (fr.take i)).map booE))]) (fun i => i ≤ fr.length ∧ poolG n fr i) (fun i => fr.length - i) 0 rfl rfl (sub_i [(192, some 192)] (fz ?_) (fz ?_)) ?_ fun i hI => ?_
        · first | trivial | rfl
        · first | trivial | exact (seen_nil n).symm | exact seen_nil n | (simp [seen_nil]; done) | trace_state
        · exact ⟨Nat.zero_le _, poolG_zero n fr⟩
        refine vc_nf rfl rfl ?_
        have hsl := seenF_length n (fr.take i)
        refine vc_sr ?_
        refine vo ?_
        refine vnt ?_
        refine vc_seq' ?_
        refine vc_if (fun g4 => ?_) (fun g4 => ?_)
        · refine vc_skip ?_
          refine thn ?_
          refine vc_seq' ?_
          refine vc_block ?_
          refine vc_sr ?_
          refine vo ?_
          try with_reducible (first | refine vep ?_ | refine vpt ?_)
          iterate 2 refine vo ?_
          refine vnt ?_
          refine vc_seq' ?_
          refine vc_sr ?_
          iterate 4 refine vo ?_
          try refine vwr ?_
          refine voc c_impl_between rfl rfl ?_
          iterate 2 refine vo ?_
          refine vsp (fun g5 => ?_) (fun g5 => ?_)
          · iterate 4 refine vof ?_
            refine vo ?_
            refine vnt ?_
            refine vc_then ?_
            refine vc_sr ?_
            refine vo ?_
            refine vnt ?_
            refine vc_ret ?_
            refine thn_r ?_
            refine inB_r ?_
            refine thn_r ?_
            refine thn_r ?_
            refine inB_r ?_
            refine thn_r ?_
            refine fin_i [] rfl (fz ?_) trivial
            exact pool_rng g4 g5
          · have hkb := inB_iff.1 g5
            iterate 3 refine von ?_
            try with_reducible (first | refine vep ?_ | refine vpt ?_)
            refine von ?_
            refine vo ?_
            refine vnt ?_
            refine vc_if (fun g6 => ?_) (fun g6 => ?_)
            · rw [seen_at (by omega) (by omega)] at g6
              have hct : (fr.take i).contains (at' fr i) = true := by first | exact g6 | simpa using g6
              refine vc_sr ?_
              refine vo ?_
              refine vnt ?_
              refine vc_ret ?_
              refine thn_r ?_
              refine inB_r ?_
              refine thn_r ?_
              refine thn_r ?_
              refine inB_r ?_
              refine thn_r ?_
              refine fin_i [] rfl (fz ?_) trivial
              exact pool_dup g4 hct
            · rw [seen_at (by omega) (by omega)] at g6
              have hct : (fr.take i).contains (at' fr i) = false := by first | exact g6 | simpa using g6
              refine vc_skip ?_
              refine thn ?_
              refine vc_region ?_
              iterate 3 refine vo ?_
              try with_reducible (first | refine vep ?_ | refine vpt ?_)
              refine vo ?_
              refine vnil ?_
              refine inB_n ?_
              refine thn ?_
              refine vc_region ?_
              refine vo ?_
              try refine vwr ?_
              refine vo ?_
              refine vnt ?_
              refine ⟨i + 1, ?_, ?_, sub_i [(192, some 192)] (fz ?_) (fz ?_)⟩
              · exact ⟨by omega, pool_stp g4 hI.2 g5 hct⟩
              · omega
              · first | trivial | rfl | exact ⟨rfl, rfl⟩
              · first | (rw [take_at g4]; exact (seen_set (by omega) (by omega)).symm) | (rw [take_at g4, seen_set (by omega) (by omega)]; done) | trace_state
        · refine vc_exit ?_
          refine thn_x ?_
          refine thn_x ?_
          refine inB_x ?_
          refine thn ?_
          refine vc_sr ?_
          refine vo ?_
          refine vnt ?_
          refine vc_ret ?_
          refine fin_i [] rfl (fz ?_) trivial
          exact pool_all g1 g2 g3 hI.2 hI.1 (by omega)
set_option maxHeartbeats 4000000 in
theorem c_spec_PoolOk {pb pz pc : Int} {fr : List Int} (hl_fr : fr.length ≤ 1099511627776 := by first | with_reducible assumption | omega) : Con0 Tryz.prog 76 [.agg [V pb, V pz, V pc, .sl 1 (fr.map intE)]] (B (poolB pb pz pc fr)) [] := by
  refine con_i Tryz.func76 Tryz.ntmps76 (t := [(0, .agg [V pb, V pz, V pc, .sl 1 (fr.map intE)])]) rfl ?_
  refine vc_sr ?_
  iterate 2 refine vo ?_
  refine vnt ?_
  refine vc_seq' ?_
  refine vc_sr ?_
  iterate 2 refine vo ?_
  refine voc c_spec_l01In rfl rfl ?_
  iterate 2 refine vo ?_
  refine vsp (fun g1 => ?_) (fun g1 => ?_)
  · iterate 4 refine vof ?_
    iterate 2 refine vo ?_
    iterate 4 refine vof ?_
    refine vo ?_
    refine vnt ?_
    refine vc_then ?_
    refine vc_sr ?_
    refine vo ?_
    refine vnt ?_
    refine vc_ret ?_
    refine thn_r ?_
    refine fin_i [] rfl (fz ?_) trivial
    exact pool_no (.inl g1)
  · iterate 2 refine von ?_
    refine vocn c_spec_l01In rfl rfl ?_
    refine von ?_
    iterate 2 refine vo ?_
    refine vsp (fun g2 => ?_) (fun g2 => ?_)
    · iterate 4 refine vof ?_
      refine vo ?_
      refine vnt ?_
      refine vc_then ?_
      refine vc_sr ?_
      refine vo ?_
      refine vnt ?_
      refine vc_ret ?_
      refine thn_r ?_
      refine fin_i [] rfl (fz ?_) trivial
      exact pool_no (.inr (.inl g2))
    · iterate 2 refine von ?_
      refine vocn c_spec_l01In rfl rfl ?_
      refine von ?_
      refine vo ?_
      refine vnt ?_
      refine vc_if (fun g3 => ?_) (fun g3 => ?_)
      · refine vc_sr ?_
        refine vo ?_
        refine vnt ?_
        refine vc_ret ?_
        refine thn_r ?_
        refine fin_i [] rfl (fz ?_) trivial
        exact pool_no (.inr (.inr g3))
      · have hz3 := inB_iff.1 g3
        obtain ⟨n, rfl⟩ := Int.eq_ofNat_of_zero_le hz3.1
        refine vc_skip ?_
        refine thn ?_
        refine vc_sr ?_
        iterate 4 refine vo ?_
        refine vnt ?_
        refine vc_seq' ?_
        refine vc_sr ?_
        refine vo ?_
        refine vnt ?_
        refine vc_block ?_
        refine vc_lp (σ := Nat) [1, 3] [8] (fun i => [(4, I (i : Nat))]) (fun i => [(184, .arr 4 1 ((seenF n (fr.take i)).map booE))]) (fun i => i ≤ fr.length ∧ poolG n fr i) (fun i => fr.length - i) 0 rfl rfl (sub_i [(184, some 184)] (fz ?_) (fz ?_)) ?_ fun i hI => ?_
        · first | trivial | rfl
        · first | trivial | exact (seen_nil n).symm | exact seen_nil n | (simp [seen_nil]; done) | trace_state
        · exact ⟨Nat.zero_le _, poolG_zero n fr⟩
        refine vc_nf rfl rfl ?_
        have hsl := seenF_length n (fr.take i)
        refine vc_seq' ?_
        refine vc_sr ?_
        iterate 4 refine vo ?_
        try first | refine vlb ?_ | refine vln ?_
        refine vo ?_
        refine vnt ?_
        refine vc_if (fun g4 => ?_) (fun g4 => ?_)
        · refine vc_skip ?_
          refine thn ?_
          refine vc_seq' ?_
          refine vc_block ?_
          refine vc_seq' ?_
          refine vc_sr ?_
          iterate 4 refine vo ?_
          try with_reducible (first | refine vep ?_ | refine vpt ?_)
          iterate 4 refine vo ?_
          try refine vwr ?_
          refine voc c_spec_l01In rfl rfl ?_
          iterate 2 refine vo ?_
          refine vsp (fun g5 => ?_) (fun g5 => ?_)
          · iterate 8 refine vof ?_
            refine vo ?_
            refine vnt ?_
            refine vc_then ?_
            refine vc_sr ?_
            refine vo ?_
            refine vnt ?_
            refine vc_ret ?_
            refine thn_r ?_
            refine inB_r ?_
            refine thn_r ?_
            refine thn_r ?_
            refine inB_r ?_
            refine thn_r ?_
            refine fin_i [] rfl (fz ?_) trivial
            exact pool_rng g4 g5
          · have hkb := inB_iff.1 g5
            iterate 5 refine von ?_
            try with_reducible (first | refine vep ?_ | refine vpt ?_)
            iterate 2 refine von ?_
            try with_reducible (first | refine vep ?_ | refine vpt ?_)
            refine von ?_
            refine vo ?_
            refine vnt ?_
            refine vc_if (fun g6 => ?_) (fun g6 => ?_)
            · rw [seen_at (by omega) (by omega)] at g6
              have hct : (fr.take i).contains (at' fr i) = true := by first | exact g6 | simpa using g6
              refine vc_sr ?_
              refine vo ?_
              refine vnt ?_
              refine vc_ret ?_
              refine thn_r ?_
              refine inB_r ?_
              refine thn_r ?_
              refine thn_r ?_
              refine inB_r ?_
              refine thn_r ?_
              refine fin_i [] rfl (fz ?_) trivial
              exact pool_dup g4 hct
            · rw [seen_at (by omega) (by omega)] at g6
              have hct : (fr.take i).contains (at' fr i) = false := by first | exact g6 | simpa using g6
              refine vc_skip ?_
              refine thn ?_
              refine vc_region ?_
              iterate 5 refine vo ?_
              try with_reducible (first | refine vep ?_ | refine vpt ?_)
              iterate 2 refine vo ?_
              try with_reducible (first | refine vep ?_ | refine vpt ?_)
              refine vo ?_
              refine vnil ?_
              refine inB_n ?_
              refine thn ?_
              refine vc_region ?_
              iterate 2 refine vo ?_
              try refine vwr ?_
              refine vo ?_
              refine vnt ?_
              refine ⟨i + 1, ?_, ?_, sub_i [(184, some 184)] (fz ?_) (fz ?_)⟩
              · exact ⟨by omega, pool_stp g4 hI.2 g5 hct⟩
              · omega
              · first | trivial | rfl | exact ⟨rfl, rfl⟩
              · first | (rw [take_at g4]; exact (seen_set (by omega) (by omega)).symm) | (rw [take_at g4, seen_set (by omega) (by omega)]; done) | trace_state
        · refine vc_exit ?_
          refine thn_x ?_
          refine thn_x ?_
          refine inB_x ?_
          refine thn ?_
          refine vc_sr ?_
          refine vo ?_
          refine vnt ?_
          refine vc_ret ?_
          refine fin_i [] rfl (fz ?_) trivial
          exact pool_all g1 g2 g3 hI.2 hI.1 (by omega)
set_option maxHeartbeats 4000000 in
theorem c_impl_BufferAddress {pb pz pc k : Int} {fr : List Int} (hl_fr : fr.length ≤ 1099511627776 := by first | with_reducible assumption | omega) : Con0 Tryz.prog 102 [.agg [V pb, V pz, V pc, .sl 1 (fr.map intE)], I k] (I (bufA pb pz pc fr k)) [] := by
  refine con_i Tryz.func102 Tryz.ntmps102 (t := [(0, .agg [V pb, V pz, V pc, .sl 1 (fr.map intE)]), (1, I k)]) rfl ?_
  refine vc_sr ?_
  iterate 2 refine vo ?_
  refine vnt ?_
  refine vc_seq' ?_
  refine vc_sr ?_
  refine vo ?_
  refine voc c_impl_PoolOk rfl rfl ?_
  iterate 2 refine vo ?_
  refine vsp (fun g1 => ?_) (fun g1 => ?_)
  · iterate 6 refine vof ?_
    refine vo ?_
    refine vnt ?_
    refine vc_then ?_
    refine vc_sr ?_
    refine vo ?_
    refine vnt ?_
    refine vc_ret ?_
    refine thn_r ?_
    refine fin_i [] rfl (fz ?_) trivial
    rw [bufA_n (.inl g1)]
  · have hpf := poolB_facts g1
    iterate 4 refine von ?_
    try refine vwr ?_
    refine vocn c_impl_between rfl rfl ?_
    refine von ?_
    refine vo ?_
    refine vnt ?_
    refine vc_if (fun g2 => ?_) (fun g2 => ?_)
    · refine vc_sr ?_
      refine vo ?_
      refine vnt ?_
      refine vc_ret ?_
      refine thn_r ?_
      refine fin_i [] rfl (fz ?_) trivial
      rw [bufA_n (.inr g2)]
    · have hba := bufA_y g1 g2
      refine vc_skip ?_
      refine thn ?_
      refine vc_sr ?_
      iterate 6 refine vo ?_
      try refine vwr ?_
      refine vo ?_
      try refine vwr ?_
      refine vo ?_
      refine vnt ?_
      refine vc_ret ?_
      refine fin_i [] rfl (fz ?_) trivial
      exact hba.1
set_option maxHeartbeats 4000000 in
theorem c_impl_GiveBuffers {pb pz pc : Int} {fr ks : List Int} (hl_fr : fr.length ≤ 1000000000 := by first | with_reducible assumption | omega) (hl_ks : ks.length ≤ 1000000000 := by first | with_reducible assumption | omega) : Con0 Tryz.prog 92 [.agg [V pb, V pz, V pc, .sl 1 (fr.map intE)], .one (.sl 1 (ks.map intE))] (.tup [.agg [V pb, V pz, V pc, .hs 0], B (giveB pb pz pc fr ks)]) [(0, .arr 3 1 ((giveF pb pz pc fr ks).map intE))] := by
  have hla : (fr ++ ks).length = fr.length + ks.length := List.length_append
  refine con_i Tryz.func92 Tryz.ntmps92 (t := [(0, .agg [V pb, V pz, V pc, .sl 1 (fr.map intE)]), (1, .one (.sl 1 (ks.map intE)))]) rfl ?_
  refine vc_sr ?_
  iterate 3 refine vo ?_
  refine vnt ?_
  refine vc_sr ?_
  refine vo ?_
  refine voc c_impl_copyPool rfl rfl ?_
  iterate 2 refine vo ?_
  refine vnt ?_
  refine vc_sr ?_
  iterate 4 refine vo ?_
  rw [← List.map_append]
  iterate 2 refine vo ?_
  refine vnt ?_
  refine vc_seq' ?_
  refine vc_sr ?_
  refine vo ?_
  refine voc c_impl_PoolOk rfl rfl ?_
  iterate 2 refine vo ?_
  refine vsp (fun g1 => ?_) (fun g1 => ?_)
  · iterate 3 refine vof ?_
    refine vo ?_
    refine vnt ?_
    refine vc_then ?_
    refine vc_sr ?_
    refine vo ?_
    refine voc c_impl_copyPool rfl rfl ?_
    iterate 2 refine vo ?_
    refine vnt ?_
    refine vc_ret ?_
    refine thn_r ?_
    have hh := give_n (pb := pb) (pz := pz) (pc := pc) (fr := fr) (ks := ks) (.inl g1)
    refine fin_i [(0, some 184)] rfl (fz ?_) (fz ?_)
    · rw [hh.2]
    · first | (rw [hh.1]; done) | (rw [hh.1]; simp)
  · refine von ?_
    refine vocn c_impl_PoolOk rfl rfl ?_
    refine von ?_
    refine vo ?_
    refine vnt ?_
    refine vc_if (fun g2 => ?_) (fun g2 => ?_)
    · refine vc_sr ?_
      refine vo ?_
      refine voc c_impl_copyPool rfl rfl ?_
      iterate 2 refine vo ?_
      refine vnt ?_
      refine vc_ret ?_
      refine thn_r ?_
      have hh := give_n (pb := pb) (pz := pz) (pc := pc) (fr := fr) (ks := ks) (.inr g2)
      refine fin_i [(0, some 184)] rfl (fz ?_) (fz ?_)
      · rw [hh.2]
      · first | (rw [hh.1]; done) | (rw [hh.1]; simp)
    · refine vc_skip ?_
      refine thn ?_
      refine vc_sr ?_
      iterate 3 refine vo ?_
      refine vnt ?_
      refine vc_ret ?_
      have hh := give_y (pb := pb) (pz := pz) (pc := pc) (fr := fr) (ks := ks) g1 g2
      refine fin_i [(0, some 96)] rfl (fz ?_) (fz ?_)
      · rw [hh.2]
      · first | (rw [hh.1]; done) | (rw [hh.1]; simp)
set_option maxHeartbeats 4000000 in
theorem c_spec_BufferAddress {pb pz pc k : Int} {fr : List Int} (hl_fr : fr.length ≤ 1099511627776 := by first | with_reducible assumption | omega) : Con0 Tryz.prog 34 [.agg [V pb, V pz, V pc, .sl 1 (fr.map intE)], I k] (I (bufA pb pz pc fr k)) [] := by
  refine con_i Tryz.func34 Tryz.ntmps34 (t := [(0, .agg [V pb, V pz, V pc, .sl 1 (fr.map intE)]), (1, I k)]) rfl ?_
  refine vc_sr ?_
  iterate 2 refine vo ?_
  refine vnt ?_
  refine vc_seq' ?_
  refine vc_sr ?_
  refine vo ?_
  refine voc c_spec_PoolOk rfl rfl ?_
  iterate 2 refine vo ?_
  refine vsp (fun g1 => ?_) (fun g1 => ?_)
  · iterate 6 refine vof ?_
    refine vo ?_
    refine vnt ?_
    refine vc_then ?_
    refine vc_sr ?_
    refine vo ?_
    refine vnt ?_
    refine vc_ret ?_
    refine thn_r ?_
    refine fin_i [] rfl (fz ?_) trivial
    rw [bufA_n (.inl g1)]
  · have hpf := poolB_facts g1
    iterate 4 refine von ?_
    try refine vwr ?_
    refine vocn c_spec_l01In rfl rfl ?_
    refine von ?_
    refine vo ?_
    refine vnt ?_
    refine vc_if (fun g2 => ?_) (fun g2 => ?_)
    · refine vc_sr ?_
      refine vo ?_
      refine vnt ?_
      refine vc_ret ?_
      refine thn_r ?_
      refine fin_i [] rfl (fz ?_) trivial
      rw [bufA_n (.inr g2)]
    · have hba := bufA_y g1 g2
      refine vc_skip ?_
      refine thn ?_
      refine vc_sr ?_
      iterate 6 refine vo ?_
      try refine vwr ?_
      refine vo ?_
      try refine vwr ?_
      refine vo ?_
      refine vnt ?_
      refine vc_ret ?_
      refine fin_i [] rfl (fz ?_) trivial
      exact hba.1
set_option maxHeartbeats 4000000 in
theorem c_spec_GiveBuffers {pb pz pc : Int} {fr ks : List Int} (hl_fr : fr.length ≤ 1000000000 := by first | with_reducible assumption | omega) (hl_ks : ks.length ≤ 1000000000 := by first | with_reducible assumption | omega) : Con0 Tryz.prog 77 [.agg [V pb, V pz, V pc, .sl 1 (fr.map intE)], .one (.sl 1 (ks.map intE))] (.tup [.agg [V pb, V pz, V pc, .hs 0], B (giveB pb pz pc fr ks)]) [(0, .arr 3 1 ((giveF pb pz pc fr ks).map intE))] := by
  have hla : (fr ++ ks).length = fr.length + ks.length := List.length_append
  refine con_i Tryz.func77 Tryz.ntmps77 (t := [(0, .agg [V pb, V pz, V pc, .sl 1 (fr.map intE)]), (1, .one (.sl 1 (ks.map intE)))]) rfl ?_
  refine vc_sr ?_
  iterate 3 refine vo ?_
  refine vnt ?_
  refine vc_sr ?_
  refine vo ?_
  refine voc c_spec_l21Copy rfl rfl ?_
  iterate 2 refine vo ?_
  refine vnt ?_
  refine vc_sr ?_
  iterate 4 refine vo ?_
  rw [← List.map_append]
  iterate 2 refine vo ?_
  refine vnt ?_
  refine vc_seq' ?_
  refine vc_sr ?_
  refine vo ?_
  refine voc c_spec_PoolOk rfl rfl ?_
  iterate 2 refine vo ?_
  refine vsp (fun g1 => ?_) (fun g1 => ?_)
  · iterate 3 refine vof ?_
    refine vo ?_
    refine vnt ?_
    refine vc_then ?_
    refine vc_sr ?_
    refine vo ?_
    refine voc c_spec_l21Copy rfl rfl ?_
    iterate 2 refine vo ?_
    refine vnt ?_
    refine vc_ret ?_
    refine thn_r ?_
    have hh := give_n (pb := pb) (pz := pz) (pc := pc) (fr := fr) (ks := ks) (.inl g1)
    refine fin_i [(0, some 184)] rfl (fz ?_) (fz ?_)
    · rw [hh.2]
    · first | (rw [hh.1]; done) | (rw [hh.1]; simp)
  · refine von ?_
    refine vocn c_spec_PoolOk rfl rfl ?_
    refine von ?_
    refine vo ?_
    refine vnt ?_
    refine vc_if (fun g2 => ?_) (fun g2 => ?_)
    · refine vc_sr ?_
      refine vo ?_
      refine voc c_spec_l21Copy rfl rfl ?_
      iterate 2 refine vo ?_
      refine vnt ?_
      refine vc_ret ?_
      refine thn_r ?_
      have hh := give_n (pb := pb) (pz := pz) (pc := pc) (fr := fr) (ks := ks) (.inr g2)
      refine fin_i [(0, some 184)] rfl (fz ?_) (fz ?_)
      · rw [hh.2]
      · first | (rw [hh.1]; done) | (rw [hh.1]; simp)
    · refine vc_skip ?_
      refine thn ?_
      refine vc_sr ?_
      iterate 3 refine vo ?_
      refine vnt ?_
      refine vc_ret ?_
      have hh := give_y (pb := pb) (pz := pz) (pc := pc) (fr := fr) (ks := ks) g1 g2
      refine fin_i [(0, some 96)] rfl (fz ?_) (fz ?_)
      · rw [hh.2]
      · first | (rw [hh.1]; done) | (rw [hh.1]; simp)
set_option maxHeartbeats 4000000 in
theorem c_impl_RingFree {b s h t : Int} : Con0 Tryz.prog 51 [.agg [V b, V s, V h, V t]] (I (freeF b s h t)) [] := by
  refine con_i Tryz.func51 Tryz.ntmps51 (t := [(0, .agg [V b, V s, V h, V t])]) rfl ?_
  refine vc_sr ?_
  iterate 2 refine vo ?_
  refine vnt ?_
  refine vc_seq' ?_
  refine vc_sr ?_
  refine vo ?_
  refine voc c_impl_RingOk rfl rfl ?_
  refine vo ?_
  refine vnt ?_
  refine vc_if (fun g1 => ?_) (fun g1 => ?_)
  · refine vc_sr ?_
    refine vo ?_
    refine vnt ?_
    refine vc_ret ?_
    refine thn_r ?_
    refine fin_i [] rfl (fz ?_) trivial
    rw [freeF, g1]
    simp
  · have hr := ringOk_facts g1
    have hs0 := hr.1
    have hub : 0 ≤ usedF s h t ∧ usedF s h t ≤ 16 := by unfold usedF; have hsz := sizeB_cases hs0; omega
    refine vc_skip ?_
    refine thn ?_
    refine vc_sr ?_
    iterate 3 refine vo ?_
    refine voc c_impl_RingUsed rfl rfl ?_
    refine vo ?_
    try refine vwr ?_
    refine vo ?_
    refine vnt ?_
    refine vc_ret ?_
    refine fin_i [] rfl (fz ?_) trivial
    rw [freeF, g1]
    simp [usedF]
set_option maxHeartbeats 4000000 in
theorem c_impl_RingPut {l : List Mp} {ps : Pg} {d b s h t : Int} {e : ByteArray} (hl : l.length ≤ 1099511627776 := by first | with_reducible assumption | omega) (hp : ps.length ≤ 1099511627776 := by first | with_reducible assumption | omega) (hs_e : e.size ≤ 1099511627776 := by first | with_reducible assumption | omega | (simp only [ByteArray.size_append, ByteArray.size_extract, strOfNums_size, List.length_cons, List.length_nil]; omega)) : Con0 Tryz.prog 106 [.one (.sl 4 (l.map mpE)), .agg [.sl 1 (ps.map strE)], I d, .agg [V b, V s, V h, V t], Z e] (.tup [.agg [.hs 0], .agg [V b, V s, V h, V (rputF l ps d b s h t e).2.1], B (rputF l ps d b s h t e).2.2]) [(0, .arr 9 1 ((rputF l ps d b s h t e).1.map strE))] := by
  refine con_i Tryz.func106 Tryz.ntmps106 (t := [(0, .one (.sl 4 (l.map mpE))), (1, .agg [.sl 1 (ps.map strE)]), (2, I d), (3, .agg [V b, V s, V h, V t]), (4, Z e)]) rfl ?_
  refine vc_sr ?_
  iterate 5 refine vo ?_
  refine vnt ?_
  refine vc_seq' ?_
  refine vc_sr ?_
  refine vo ?_
  refine voc c_impl_RingFree rfl rfl ?_
  iterate 2 refine vo ?_
  refine vsp (fun g1 => ?_) (fun g1 => ?_)
  · iterate 3 refine vof ?_
    refine vo ?_
    refine vnt ?_
    refine vc_then ?_
    refine vc_sr ?_
    refine vo ?_
    refine voc c_impl_copyMemory rfl rfl ?_
    iterate 4 refine vo ?_
    refine vnt ?_
    refine vc_ret ?_
    refine thn_r ?_
    have hh : rputF l ps d b s h t e = _ := rpu_n (.inl g1)
    refine fin_i [(0, some 192)] rfl (fz ?_) (fz ?_)
    · rw [hh]; first | exact ⟨rfl, rfl⟩ | simp [rnext]
    · first | (rw [hh]; done) | (rw [hh, dw_no g3]; done)
  · have hr0 := freeF_ok g1
    have hr := ringOk_facts hr0
    have hsl := rslot_bd hr0 t
    have hsz := sizeB_cases hr.1
    iterate 3 refine von ?_
    refine vo ?_
    refine vnt ?_
    refine vc_if (fun g2 => ?_) (fun g2 => ?_)
    · refine vc_sr ?_
      refine vo ?_
      refine voc c_impl_copyMemory rfl rfl ?_
      iterate 4 refine vo ?_
      refine vnt ?_
      refine vc_ret ?_
      refine thn_r ?_
      have hh : rputF l ps d b s h t e = _ := rpu_n (.inr (.inl (by omega)))
      refine fin_i [(0, some 192)] rfl (fz ?_) (fz ?_)
      · rw [hh]; first | exact ⟨rfl, rfl⟩ | simp [rnext]
      · first | (rw [hh]; done) | (rw [hh, dw_no g3]; done)
    · refine vc_skip ?_
      refine thn ?_
      refine vc_sr ?_
      iterate 6 refine vo ?_
      refine voc c_impl_SlotAddress rfl rfl ?_
      refine vo ?_
      refine voc c_impl_DmaWrite rfl rfl ?_
      iterate 6 refine vo ?_
      refine vnt ?_
      refine vc_seq' ?_
      refine vc_sr ?_
      iterate 2 refine vo ?_
      refine vnt ?_
      refine vc_if (fun g3 => ?_) (fun g3 => ?_)
      · refine vc_sr ?_
        iterate 5 refine vo ?_
        refine vnt ?_
        refine vc_ret ?_
        refine thn_r ?_
        have hh : rputF l ps d b s h t e = _ := rpu_n (.inr (.inr g3))
        refine fin_i [(0, some 280)] rfl (fz ?_) (fz ?_)
        · rw [hh]; first | exact ⟨rfl, rfl⟩ | simp [rnext]
        · first | (rw [hh]; done) | (rw [hh, dw_no g3]; done)
      · refine vc_skip ?_
        refine thn ?_
        refine vc_sr ?_
        iterate 3 refine vo ?_
        try refine vwr ?_
        iterate 3 refine vo ?_
        try refine vwr ?_
        refine vo ?_
        try refine veq (Int.tmod_eq_emod_of_nonneg (by omega)) ?_
        iterate 2 refine vo ?_
        refine vnt ?_
        refine vc_sr ?_
        iterate 5 refine vo ?_
        refine vnt ?_
        refine vc_ret ?_
        have hh : rputF l ps d b s h t e = _ := rpu_y g1 (by omega) g3
        refine fin_i [(0, some 280)] rfl (fz ?_) (fz ?_)
        · rw [hh]; first | exact ⟨rfl, rfl⟩ | simp [rnext]
        · first | (rw [hh]; done) | (rw [hh, dw_no g3]; done)
set_option maxHeartbeats 4000000 in
theorem c_spec_RingFree {b s h t : Int} : Con0 Tryz.prog 32 [.agg [V b, V s, V h, V t]] (I (freeF b s h t)) [] := by
  refine con_i Tryz.func32 Tryz.ntmps32 (t := [(0, .agg [V b, V s, V h, V t])]) rfl ?_
  refine vc_sr ?_
  iterate 2 refine vo ?_
  refine vnt ?_
  refine vc_seq' ?_
  refine vc_sr ?_
  refine vo ?_
  refine voc c_spec_RingOk rfl rfl ?_
  refine vo ?_
  refine vnt ?_
  refine vc_if (fun g1 => ?_) (fun g1 => ?_)
  · refine vc_sr ?_
    refine vo ?_
    refine vnt ?_
    refine vc_ret ?_
    refine thn_r ?_
    refine fin_i [] rfl (fz ?_) trivial
    rw [freeF, g1]
    simp
  · have hr := ringOk_facts g1
    have hs0 := hr.1
    have hub : 0 ≤ usedF s h t ∧ usedF s h t ≤ 16 := by unfold usedF; have hsz := sizeB_cases hs0; omega
    refine vc_skip ?_
    refine thn ?_
    refine vc_sr ?_
    iterate 3 refine vo ?_
    refine voc c_spec_RingUsed rfl rfl ?_
    refine vo ?_
    try refine vwr ?_
    refine vo ?_
    refine vnt ?_
    refine vc_ret ?_
    refine fin_i [] rfl (fz ?_) trivial
    rw [freeF, g1]
    simp [usedF]
set_option maxHeartbeats 4000000 in
theorem c_spec_RingPut {l : List Mp} {ps : Pg} {d b s h t : Int} {e : ByteArray} (hl : l.length ≤ 1099511627776 := by first | with_reducible assumption | omega) (hp : ps.length ≤ 1099511627776 := by first | with_reducible assumption | omega) (hs_e : e.size ≤ 1099511627776 := by first | with_reducible assumption | omega | (simp only [ByteArray.size_append, ByteArray.size_extract, strOfNums_size, List.length_cons, List.length_nil]; omega)) : Con0 Tryz.prog 84 [.one (.sl 4 (l.map mpE)), .agg [.sl 1 (ps.map strE)], I d, .agg [V b, V s, V h, V t], Z e] (.tup [.agg [.hs 0], .agg [V b, V s, V h, V (rputF l ps d b s h t e).2.1], B (rputF l ps d b s h t e).2.2]) [(0, .arr 9 1 ((rputF l ps d b s h t e).1.map strE))] := by
  refine con_i Tryz.func84 Tryz.ntmps84 (t := [(0, .one (.sl 4 (l.map mpE))), (1, .agg [.sl 1 (ps.map strE)]), (2, I d), (3, .agg [V b, V s, V h, V t]), (4, Z e)]) rfl ?_
  refine vc_sr ?_
  iterate 5 refine vo ?_
  refine vnt ?_
  refine vc_seq' ?_
  refine vc_sr ?_
  refine vo ?_
  refine voc c_spec_RingFree rfl rfl ?_
  iterate 2 refine vo ?_
  refine vsp (fun g1 => ?_) (fun g1 => ?_)
  · iterate 3 refine vof ?_
    refine vo ?_
    refine vnt ?_
    refine vc_then ?_
    refine vc_sr ?_
    refine vo ?_
    refine voc c_spec_l16Copy rfl rfl ?_
    iterate 4 refine vo ?_
    refine vnt ?_
    refine vc_ret ?_
    refine thn_r ?_
    have hh : rputF l ps d b s h t e = _ := rpu_n (.inl g1)
    refine fin_i [(0, some 192)] rfl (fz ?_) (fz ?_)
    · rw [hh]; first | exact ⟨rfl, rfl⟩ | simp [rnext]
    · first | (rw [hh]; done) | (rw [hh, dw_no g3]; done)
  · have hr0 := freeF_ok g1
    have hr := ringOk_facts hr0
    have hsl := rslot_bd hr0 t
    have hsz := sizeB_cases hr.1
    iterate 3 refine von ?_
    refine vo ?_
    refine vnt ?_
    refine vc_if (fun g2 => ?_) (fun g2 => ?_)
    · refine vc_sr ?_
      refine vo ?_
      refine voc c_spec_l16Copy rfl rfl ?_
      iterate 4 refine vo ?_
      refine vnt ?_
      refine vc_ret ?_
      refine thn_r ?_
      have hh : rputF l ps d b s h t e = _ := rpu_n (.inr (.inl (by omega)))
      refine fin_i [(0, some 192)] rfl (fz ?_) (fz ?_)
      · rw [hh]; first | exact ⟨rfl, rfl⟩ | simp [rnext]
      · first | (rw [hh]; done) | (rw [hh, dw_no g3]; done)
    · refine vc_skip ?_
      refine thn ?_
      refine vc_sr ?_
      iterate 6 refine vo ?_
      refine voc c_spec_SlotAddress rfl rfl ?_
      refine vo ?_
      refine voc c_spec_DmaWrite rfl rfl ?_
      iterate 6 refine vo ?_
      refine vnt ?_
      refine vc_seq' ?_
      refine vc_sr ?_
      iterate 2 refine vo ?_
      refine vnt ?_
      refine vc_if (fun g3 => ?_) (fun g3 => ?_)
      · refine vc_sr ?_
        refine vo ?_
        refine voc c_spec_l16Copy rfl rfl ?_
        iterate 4 refine vo ?_
        refine vnt ?_
        refine vc_ret ?_
        refine thn_r ?_
        have hh : rputF l ps d b s h t e = _ := rpu_n (.inr (.inr g3))
        refine fin_i [(0, some 328)] rfl (fz ?_) (fz ?_)
        · rw [hh]; first | exact ⟨rfl, rfl⟩ | simp [rnext]
        · first | (rw [hh]; done) | (rw [hh, dw_no g3]; done)
      · refine vc_skip ?_
        refine thn ?_
        refine vc_sr ?_
        iterate 3 refine vo ?_
        try refine vwr ?_
        iterate 3 refine vo ?_
        try refine vwr ?_
        refine vo ?_
        try refine veq (Int.tmod_eq_emod_of_nonneg (by omega)) ?_
        iterate 2 refine vo ?_
        refine vnt ?_
        refine vc_sr ?_
        iterate 5 refine vo ?_
        refine vnt ?_
        refine vc_ret ?_
        have hh : rputF l ps d b s h t e = _ := rpu_y g1 (by omega) g3
        refine fin_i [(0, some 280)] rfl (fz ?_) (fz ?_)
        · rw [hh]; first | exact ⟨rfl, rfl⟩ | simp [rnext]
        · first | (rw [hh]; done) | (rw [hh, dw_no g3]; done)
end Go.Proofs.YtnikopahkjmneaaGreat
end
section
namespace Go.Proofs.YtnikopahkjmneaaGreat
open Go Go.RowKit Go.Vc
set_option linter.unusedVariables false
set_option linter.unusedSimpArgs false
set_option linter.unnecessarySimpa false
end Go.Proofs.YtnikopahkjmneaaGreat
end
section
namespace Go.Proofs.YtnikopahkjmneaaGreat
open Go Go.RowKit Go.Vc
set_option linter.unusedVariables false
set_option linter.unusedSimpArgs false
set_option linter.unnecessarySimpa false
def fb (N : Nat) (ps : Pg) (a : Int) : Nat := bAt (pageAt ps (((N : Int) - 1 - a / 128) * 128)) (a % 128).toNat
theorem ba_ext {s t : ByteArray} (h : s.size = t.size) (k : ∀ i, i < s.size → bAt s i = bAt t i) : s = t := by
  refine ByteArray.ext_getElem h fun i h1 h2 => ?_
  have := k i h1
  unfold bAt at this
  rw [dif_pos h1, dif_pos h2] at this
  exact UInt8.toNat_inj.1 this
def fs (N : Nat) (ps : Pg) (a : Int) (n : Nat) : ByteArray := ⟨((List.range n).map fun k : Nat => UInt8.ofNat (fb N ps (a + k))).toArray⟩
end Go.Proofs.YtnikopahkjmneaaGreat
end
section
namespace Go.Proofs.YtnikopahkjmneaaGreat
open Go Go.RowKit Go.Vc
set_option linter.unusedVariables false
set_option linter.unusedSimpArgs false
set_option linter.unnecessarySimpa false
def slotsF (ws : List Sn) : Int := (ws.map fun x => x.2.1).sum
def bufsF (ws : List Sn) : List Int := ws.flatMap fun x => x.2.2
def snOk (x : Sn) : Bool := decide (1 ≤ x.2.1) && inB x.1 0 65535
def txS (s : Int) (ws : List Sn) : Bool := ws.all snOk && decide (slotsF ws ≤ s)
def txOkB (b s h t pb pz pc : Int) (fr : List Int) (ws : List Sn) (nx : Int) : Bool := ringOkB b s h t && (poolB pb pz pc fr && (inB nx 0 65535 && (txS s ws && giveB pb pz pc fr (bufsF ws))))
theorem snOk_iff {x : Sn} : snOk x = true ↔ 1 ≤ x.2.1 ∧ inB x.1 0 65535 = true := by unfold snOk; rw [Bool.and_eq_true, decide_eq_true_eq]
theorem slots_app (a b : List Sn) : slotsF (a ++ b) = slotsF a + slotsF b := by unfold slotsF; rw [List.map_append, List.sum_append]
theorem slots_stp {ws : List Sn} {i : Nat} (h : i < ws.length) : slotsF (ws.take (i + 1)) = slotsF (ws.take i) + (at' ws i).2.1 := by
  rw [List.take_succ_eq_append_getElem h, slots_app, ← atp_eq h]
  unfold slotsF; simp
theorem bufs_stp {ws : List Sn} {i : Nat} (h : i < ws.length) : bufsF (ws.take i) ++ (at' ws i).2.2 = bufsF (ws.take (i + 1)) := by
  rw [List.take_succ_eq_append_getElem h, ← atp_eq h]
  unfold bufsF; simp
theorem slots_nn : ∀ {ws : List Sn}, ws.all snOk = true → 0 ≤ slotsF ws ∧ (ws.length : Int) ≤ slotsF ws
  | [], _ => by decide
  | x :: ws, h => by
    simp only [List.all_cons, Bool.and_eq_true] at h
    have h1 := snOk_iff.1 h.1
    have h2 := slots_nn h.2
    have e : slotsF (x :: ws) = x.2.1 + slotsF ws := by unfold slotsF; rw [List.map_cons, List.sum_cons]
    rw [e, List.length_cons]
    omega
theorem slots_le {ws : List Sn} (h : ws.all snOk = true) (i : Nat) : slotsF (ws.take i) ≤ slotsF ws := by
  have e : slotsF ws = slotsF (ws.take i) + slotsF (ws.drop i) := by rw [← slots_app, List.take_append_drop]
  have : (ws.drop i).all snOk = true := by
    rw [List.all_eq_true] at h ⊢
    exact fun x hx => h x (List.mem_of_mem_drop hx)
  have := slots_nn this
  omega
theorem bufs_le (ws : List Sn) (i : Nat) : (bufsF (ws.take i)).length ≤ (bufsF ws).length := by
  have e : bufsF ws = bufsF (ws.take i) ++ bufsF (ws.drop i) := by unfold bufsF; rw [← List.flatMap_append, List.take_append_drop]
  rw [e, List.length_append]; omega
theorem buf_le {ws : List Sn} {i : Nat} (h : i < ws.length) : (at' ws i).2.2.length ≤ (bufsF ws).length := by
  have h1 := bufs_le ws (i + 1)
  rw [← bufs_stp h, List.length_append] at h1
  omega
theorem tx_bad {s : Int} {ws : List Sn} {i : Nat} (hi : i < ws.length) (h : (at' ws i).2.1 < 1 ∨ inB (at' ws i).1 0 65535 = false ∨ s < slotsF (ws.take (i + 1))) : txS s ws = false := by
  rw [Bool.eq_false_iff]
  intro hc
  unfold txS at hc
  rw [Bool.and_eq_true, decide_eq_true_eq] at hc
  have h1 := snOk_iff.1 (List.all_eq_true.1 hc.1 _ (atp_mem hi))
  have h2 := slots_le hc.1 (i + 1)
  rcases h with h | h | h
  · omega
  · rw [h1.2] at h; cases h
  · omega
theorem all_take {ws : List Sn} {i : Nat} (h : (ws.take i).all snOk = true) (hi : i < ws.length) (h1 : 1 ≤ (at' ws i).2.1) (h2 : inB (at' ws i).1 0 65535 = true) : (ws.take (i + 1)).all snOk = true := by
  rw [List.take_succ_eq_append_getElem hi, List.all_append, h, ← atp_eq hi]
  simp [snOk_iff.2 ⟨h1, h2⟩]
theorem tx_end {s : Int} {ws : List Sn} {i : Nat} (h : (ws.take i).all snOk = true) (hi : ¬ i < ws.length) (hs : slotsF (ws.take i) ≤ s) : txS s ws = true := by
  rw [List.take_of_length_le (by omega)] at h hs
  unfold txS
  rw [h, decide_eq_true hs]; rfl
theorem tx_endn {s : Int} {ws : List Sn} {i : Nat} (hi : ¬ i < ws.length) (hs : s < slotsF (ws.take i)) : txS s ws = false := by
  rw [List.take_of_length_le (by omega)] at hs
  unfold txS
  rw [decide_eq_false (by omega), Bool.and_false]
theorem bufs_end {ws : List Sn} {i : Nat} (hi : ¬ i < ws.length) : bufsF (ws.take i) = bufsF ws := by rw [List.take_of_length_le (by omega)]
theorem slots_end {ws : List Sn} {i : Nat} (hi : ¬ i < ws.length) : slotsF (ws.take i) = slotsF ws := by rw [List.take_of_length_le (by omega)]
theorem all_tk {ws : List Sn} (h : ws.all snOk = true) (i : Nat) : (ws.take i).all snOk = true := by
  rw [List.all_eq_true] at h ⊢
  exact fun x hx => h x (List.mem_of_mem_take hx)
theorem inB_no {x a c : Int} (h : inB x a c = false) : x < a ∨ c < x := by
  rcases (show x < a ∨ a ≤ x by omega) with g | g
  · exact .inl g
  · rcases (show c < x ∨ x ≤ c by omega) with g2 | g2
    · exact .inr g2
    · rw [inB_iff.2 ⟨g, g2⟩] at h; cases h
theorem txS_facts {s : Int} {ws : List Sn} (h : txS s ws = true) : ws.all snOk = true ∧ 0 ≤ slotsF ws ∧ slotsF ws ≤ s := by
  unfold txS at h
  rw [Bool.and_eq_true, decide_eq_true_eq] at h
  exact ⟨h.1, (slots_nn h.1).1, h.2⟩
def takeB (pb pz pc : Int) (fr : List Int) (n : Int) : Bool := poolB pb pz pc fr && inB n 0 fr.length
def takeR (pb pz pc : Int) (fr : List Int) (n : Int) : List Int := if takeB pb pz pc fr n then fr.drop n.toNat else fr
def takeL (pb pz pc : Int) (fr : List Int) (n : Int) : List Int := if takeB pb pz pc fr n then fr.take n.toNat else []
theorem take_n {pb pz pc n : Int} {fr : List Int} (h : poolB pb pz pc fr = false ∨ inB n 0 fr.length = false) : takeR pb pz pc fr n = fr ∧ takeL pb pz pc fr n = [] ∧ takeB pb pz pc fr n = false := by
  have : takeB pb pz pc fr n = false := by
    unfold takeB
    rcases h with h | h <;> rw [h] <;> simp
  unfold takeR takeL
  rw [this]
  exact ⟨rfl, rfl, rfl⟩
theorem take_y {pb pz pc n : Int} {fr : List Int} (h1 : poolB pb pz pc fr = true) (h2 : inB n 0 fr.length = true) : takeR pb pz pc fr n = fr.drop n.toNat ∧ takeL pb pz pc fr n = fr.take n.toNat ∧ takeB pb pz pc fr n = true := by
  have : takeB pb pz pc fr n = true := by unfold takeB; rw [h1, h2]; rfl
  unfold takeR takeL
  rw [this]
  exact ⟨rfl, rfl, rfl⟩
theorem takeL_le (pb pz pc : Int) (fr : List Int) (n : Int) : (takeL pb pz pc fr n).length ≤ fr.length := by
  unfold takeL
  split
  · rw [List.length_take]; omega
  · exact Nat.zero_le _
theorem takeR_le (pb pz pc : Int) (fr : List Int) (n : Int) : (takeR pb pz pc fr n).length ≤ fr.length := by
  unfold takeR
  split
  · rw [List.length_drop]; omega
  · exact Nat.le_refl _
def rpa (l : List Mp) (d b s h : Int) : List ByteArray → Pg → Int → Pg × Int × Bool
  | [], ps, t => (ps, t, true)
  | e :: r, ps, t => if (rputF l ps d b s h t e).2.2 = true then rpa l d b s h r (rputF l ps d b s h t e).1 (rputF l ps d b s h t e).2.1 else (ps, t, false)
def rpaF (l : List Mp) (ps : Pg) (d b s h t : Int) (es : List ByteArray) : Pg × Int × Bool := if (rpa l d b s h es ps t).2.2 = true then rpa l d b s h es ps t else (ps, t, false)
theorem rpa_stp {l : List Mp} {ps : Pg} {d b s h t : Int} {es : List ByteArray} {i : Nat} (hi : i < es.length) (hr : (rputF l ps d b s h t (at' es i)).2.2 = true) : rpa l d b s h (es.drop i) ps t = rpa l d b s h (es.drop (i + 1)) (rputF l ps d b s h t (at' es i)).1 (rputF l ps d b s h t (at' es i)).2.1 := by
  rw [drop_at hi]
  simp only [rpa]
  rw [if_pos hr]
theorem rpa_no {l : List Mp} {ps qs : Pg} {d b s h t u : Int} {es : List ByteArray} {i : Nat} (hq : rpa l d b s h es ps t = rpa l d b s h (es.drop i) qs u) (hi : i < es.length) (hr : (rputF l qs d b s h u (at' es i)).2.2 = false) : rpaF l ps d b s h t es = (ps, t, false) := by
  refine if_neg ?_
  rw [hq, drop_at hi]
  simp only [rpa]
  rw [if_neg (by rw [hr]; decide)]
  simp
theorem rpa_end {l : List Mp} {ps qs : Pg} {d b s h t u : Int} {es : List ByteArray} {i : Nat} (hq : rpa l d b s h es ps t = rpa l d b s h (es.drop i) qs u) (hi : ¬ i < es.length) : rpaF l ps d b s h t es = (qs, u, true) := by
  rw [List.drop_eq_nil_of_le (by omega)] at hq
  unfold rpaF
  rw [hq, if_pos (by rfl)]
  rfl
def sdN (T : ByteArray) (cut : Int) : Int := ((T.size : Int) + cut - 1) / cut
def sdP (T : ByteArray) (cut : Int) (k : Nat) : ByteArray := T.extract ((k : Int) * cut).toNat (min (T.size : Int) (((k : Int) + 1) * cut)).toNat
def sdW (l : List Mp) (d pb pz pc : Int) (fr : List Int) (T : ByteArray) (cut : Int) : List Int → Nat → Pg → Pg × Bool
  | [], _, ps => (ps, true)
  | k :: r, i, ps => if (dmaWF l ps d (bufA pb pz pc fr k) (sdP T cut i) false).2 = true then sdW l d pb pz pc fr T cut r (i + 1) (dmaWF l ps d (bufA pb pz pc fr k) (sdP T cut i) false).1 else (ps, false)
def sdQ (pb pz pc : Int) (fr : List Int) (T : ByteArray) (cut : Int) (ks : List Int) (n : Nat) : List Pc := (List.range n).map fun i => (bufA pb pz pc fr (at' ks i), ((sdP T cut i).size : Int))
theorem sdQ_stp (pb pz pc : Int) (fr : List Int) (T : ByteArray) (cut : Int) (ks : List Int) (n : Nat) : sdQ pb pz pc fr T cut ks n ++ [(bufA pb pz pc fr (at' ks n), ((sdP T cut n).size : Int))] = sdQ pb pz pc fr T cut ks (n + 1) := by
  unfold sdQ
  rw [List.range_succ, List.map_append]; rfl
theorem sdQ_len (pb pz pc : Int) (fr : List Int) (T : ByteArray) (cut : Int) (ks : List Int) (n : Nat) : (sdQ pb pz pc fr T cut ks n).length = n := by unfold sdQ; rw [List.length_map, List.length_range]
theorem sdW_stp {l : List Mp} {d pb pz pc : Int} {fr : List Int} {T : ByteArray} {cut : Int} {ks : List Int} {i : Nat} {ps : Pg} (hi : i < ks.length) (hr : (dmaWF l ps d (bufA pb pz pc fr (at' ks i)) (sdP T cut i) false).2 = true) : sdW l d pb pz pc fr T cut (ks.drop i) i ps = sdW l d pb pz pc fr T cut (ks.drop (i + 1)) (i + 1) (dmaWF l ps d (bufA pb pz pc fr (at' ks i)) (sdP T cut i) false).1 := by
  rw [drop_at hi]
  simp only [sdW]
  rw [if_pos hr]
theorem sdW_no {l : List Mp} {d pb pz pc : Int} {fr : List Int} {T : ByteArray} {cut : Int} {ks : List Int} {i : Nat} {ps : Pg} (hi : i < ks.length) (hr : (dmaWF l ps d (bufA pb pz pc fr (at' ks i)) (sdP T cut i) false).2 = false) : sdW l d pb pz pc fr T cut (ks.drop i) i ps = (ps, false) := by
  rw [drop_at hi]
  simp only [sdW]
  rw [if_neg (by rw [hr]; decide)]
theorem sdW_end {l : List Mp} {d pb pz pc : Int} {fr : List Int} {T : ByteArray} {cut : Int} {ks : List Int} {i : Nat} {ps : Pg} (hi : ¬ i < ks.length) : sdW l d pb pz pc fr T cut (ks.drop i) i ps = (ps, true) := by
  rw [List.drop_eq_nil_of_le (by omega)]; rfl
theorem ext_ext (s : ByteArray) (a b c e : Nat) : (s.extract a b).extract c e = s.extract (a + c) (min (a + e) b) := by
  refine ba_ext (by simp only [ByteArray.size_extract]; omega) fun i hi => ?_
  simp only [ByteArray.size_extract] at hi
  rw [bAt_extract, if_pos (by omega), bAt_extract, if_pos (by omega), bAt_extract, if_pos (by omega)]
  congr 1; omega
theorem ext_clip (s : ByteArray) (a b : Nat) : s.extract a b = s.extract a (min b s.size) := by
  refine ba_ext (by simp only [ByteArray.size_extract]; omega) fun i hi => ?_
  simp only [ByteArray.size_extract] at hi
  rw [bAt_extract, if_pos (by omega), bAt_extract, if_pos (by omega)]
theorem ext_none (s : ByteArray) {a b a' b' : Nat} (h : min b s.size ≤ a) (h' : min b' s.size ≤ a') : s.extract a b = s.extract a' b' := by
  refine ba_ext (by simp only [ByteArray.size_extract]; omega) fun i hi => ?_
  simp only [ByteArray.size_extract] at hi
  omega
theorem mul_nnI {a b : Int} (h : 0 ≤ a) (h2 : 0 ≤ b) : 0 ≤ a * b := Int.mul_nonneg h h2
theorem suc_mul (k : Nat) (cut : Int) : ((k : Int) + 1) * cut = (k : Int) * cut + cut := by rw [Int.add_mul, Int.one_mul]
theorem sdP_sz (T : ByteArray) (cut : Int) (k : Nat) : (sdP T cut k).size ≤ T.size := by unfold sdP; rw [ByteArray.size_extract]; omega
theorem sd_pf {T : ByteArray} {cut : Int} {k : Nat} (h : 1 ≤ cut) : (T.extract ((k : Int) * cut).toNat T.size).extract (Int.toNat 0) (min cut ((T.extract ((k : Int) * cut).toNat T.size).size : Int)).toNat = sdP T cut k := by
  have h0 := mul_nnI (a := (k : Int)) (b := cut) (by omega) (by omega)
  unfold sdP
  rw [ext_ext, suc_mul, ByteArray.size_extract, show Int.toNat 0 = 0 from rfl, Nat.add_zero]
  rw [ext_clip T _ (min _ _), ext_clip T _ (Int.toNat _)]
  by_cases hc : (k : Int) * cut ≤ T.size
  · congr 1; omega
  · exact ext_none T (by omega) (by omega)
theorem sd_tl {T : ByteArray} {cut : Int} {k : Nat} (h : 1 ≤ cut) : (T.extract ((k : Int) * cut).toNat T.size).extract ((sdP T cut k).size : Int).toNat ((T.extract ((k : Int) * cut).toNat T.size).size : Int).toNat = T.extract (((k + 1 : Nat) : Int) * cut).toNat T.size := by
  have h0 := mul_nnI (a := (k : Int)) (b := cut) (by omega) (by omega)
  have h1 : ((k + 1 : Nat) : Int) * cut = (k : Int) * cut + cut := by rw [← suc_mul]; rfl
  have hz : (sdP T cut k).size = min (min (T.size : Int) ((k : Int) * cut + cut)).toNat T.size - ((k : Int) * cut).toNat := by unfold sdP; rw [ByteArray.size_extract, suc_mul]
  rw [ext_ext, h1, hz, ByteArray.size_extract]
  by_cases hc : (k : Int) * cut + cut ≤ T.size
  · congr 1 <;> omega
  · exact ext_none T (by omega) (by omega)
theorem sdP_le {T : ByteArray} {cut : Int} {k : Nat} : (sdP T cut k).size ≤ (T.extract ((k : Int) * cut).toNat T.size).size := by
  unfold sdP
  simp only [ByteArray.size_extract]; omega
theorem sd_pf0 {T : ByteArray} {cut : Int} (h : 1 ≤ cut) : T.extract (Int.toNat 0) (min cut (T.size : Int)).toNat = sdP T cut 0 := by
  have := sd_pf (T := T) (k := 0) h
  rw [show (((0 : Nat) : Int) * cut).toNat = 0 by simp, ByteArray.extract_zero_size] at this
  exact this
theorem sd_tl0 {T : ByteArray} {cut : Int} (h : 1 ≤ cut) : T.extract ((sdP T cut 0).size : Int).toNat (T.size : Int).toNat = T.extract (((1 : Nat) : Int) * cut).toNat T.size := by
  have := sd_tl (T := T) (k := 0) h
  rw [show (((0 : Nat) : Int) * cut).toNat = 0 by simp, ByteArray.extract_zero_size] at this
  exact this
def encL (ds : List Dsc) : List ByteArray := ds.map fun x => encDF x.1 x.2.1 x.2.2.1 x.2.2.2.1 x.2.2.2.2.1 x.2.2.2.2.2
theorem encL_stp {ds : List Dsc} {j : Nat} (h : j < ds.length) : (encL (ds.take j)).map strE ++ [[.string (encDF (at' ds j).1 (at' ds j).2.1 (at' ds j).2.2.1 (at' ds j).2.2.2.1 (at' ds j).2.2.2.2.1 (at' ds j).2.2.2.2.2)]] = (encL (ds.take (j + 1))).map strE := by
  rw [List.take_succ_eq_append_getElem h, ← atp_eq h]
  unfold encL
  rw [List.map_append, List.map_append]; rfl
theorem encL_end {ds : List Dsc} {j : Nat} (h : ¬ j < ds.length) : encL (ds.take j) = encL ds := by rw [List.take_of_length_le (by omega)]
theorem encL_sz (ds : List Dsc) : ∀ x ∈ encL ds, x.size ≤ 1099511627776 := fun x hx => by
  obtain ⟨y, _, rfl⟩ := List.mem_map.1 hx
  unfold encDF
  split
  · rename_i h; have := encD_size h; omega
  · decide
theorem encL_len (ds : List Dsc) : (encL ds).length = ds.length := by unfold encL; rw [List.length_map]
theorem sdW_ln {l : List Mp} {d pb pz pc : Int} {fr : List Int} {T : ByteArray} {cut : Int} : ∀ (ks : List Int) (i : Nat) (ps : Pg), (sdW l d pb pz pc fr T cut ks i ps).1.length = ps.length
  | [], _, _ => rfl
  | k :: r, i, ps => by
    unfold sdW
    split
    · rw [sdW_ln r (i + 1)]
      exact dmaWF_ln (qs := (dmaWF l ps d (bufA pb pz pc fr k) (sdP T cut i) false).1) (ok := (dmaWF l ps d (bufA pb pz pc fr k) (sdP T cut i) false).2) rfl
    · rfl
theorem txOk_facts {b s h t pb pz pc nx : Int} {fr : List Int} {ws : List Sn} (g : txOkB b s h t pb pz pc fr ws nx = true) : ringOkB b s h t = true ∧ poolB pb pz pc fr = true ∧ inB nx 0 65535 = true ∧ txS s ws = true ∧ giveB pb pz pc fr (bufsF ws) = true := by
  unfold txOkB at g
  simp only [Bool.and_eq_true] at g
  exact ⟨g.1, g.2.1, g.2.2.1, g.2.2.2.1, g.2.2.2.2⟩
theorem tm_sz {p : Pk} (h : p.sup = true) : 60 ≤ p.tm.size ∧ p.tm.size ≤ 418 := by
  obtain ⟨l1, l2, l3, l4⟩ := img_lay h
  obtain ⟨t1, t2, t3, t4, t5, t6⟩ := tm_facts h rfl
  have := sumsA_bd p.im
  omega
theorem sdN_bd {T : ByteArray} {cut : Int} (h : 1 ≤ cut) (h1 : 1 ≤ T.size) : 1 ≤ sdN T cut ∧ sdN T cut ≤ T.size ∧ (sdN T cut - 1) * cut < T.size ∧ T.size ≤ sdN T cut * cut := by
  have e := Int.emod_add_mul_ediv ((T.size : Int) + cut - 1) cut
  have m0 := Int.emod_nonneg ((T.size : Int) + cut - 1) (show cut ≠ 0 by omega)
  have m1 := Int.emod_lt_of_pos ((T.size : Int) + cut - 1) (show 0 < cut by omega)
  have hx : sdN T cut = ((T.size : Int) + cut - 1) / cut := rfl
  rw [← hx, Int.mul_comm] at e
  have e2 : (sdN T cut - 1) * cut = sdN T cut * cut - cut := by rw [Int.sub_mul, Int.one_mul]
  have p1 : 1 ≤ sdN T cut := by
    rcases (show sdN T cut < 1 ∨ 1 ≤ sdN T cut by omega) with g | g
    · have : sdN T cut * cut ≤ 0 := Int.mul_nonpos_of_nonpos_of_nonneg (by omega) (by omega)
      omega
    · exact g
  have p2 : sdN T cut - 1 ≤ (sdN T cut - 1) * cut := by
    have := Int.mul_le_mul_of_nonneg_left h (show 0 ≤ sdN T cut - 1 by omega)
    rwa [Int.mul_one] at this
  exact ⟨p1, by omega, by omega, by omega⟩
theorem sd_in {T : ByteArray} {cut : Int} {i : Nat} (h : 1 ≤ cut) (h1 : 1 ≤ T.size) (hi : (i : Int) < sdN T cut) : 0 ≤ (i : Int) * cut ∧ (i : Int) * cut < T.size := by
  obtain ⟨a, b, c, d⟩ := sdN_bd h h1
  have := Int.mul_le_mul_of_nonneg_right (show (i : Int) ≤ sdN T cut - 1 by omega) (show 0 ≤ cut by omega)
  exact ⟨mul_nnI (by omega) (by omega), by omega⟩
abbrev TxR := Pg × Int × List Int × List Sn × Int × Bool
def sdKs (pb pz pc : Int) (fr : List Int) (T : ByteArray) (cut : Int) : List Int := takeL pb pz pc fr (sdN T cut)
def sdPc (pb pz pc : Int) (fr : List Int) (T : ByteArray) (cut : Int) : List Pc := sdQ pb pz pc fr T cut (sdKs pb pz pc fr T cut) (sdKs pb pz pc fr T cut).length
def sdWr (l : List Mp) (ps : Pg) (d pb pz pc : Int) (fr : List Int) (T : ByteArray) (cut : Int) : Pg × Bool := sdW l d pb pz pc fr T cut (sdKs pb pz pc fr T cut) 0 ps
def sdRg (l : List Mp) (ps : Pg) (d b s h t pb pz pc : Int) (fr : List Int) (nx : Int) (T : ByteArray) (size cut : Int) : Pg × Int × Bool := rpaF l (sdWr l ps d pb pz pc fr T cut).1 d b s h t (encL (descrF (sdPc pb pz pc fr T cut) size nx))
def sdB (l : List Mp) (ps : Pg) (d b s h t pb pz pc : Int) (fr : List Int) (ws : List Sn) (nx : Int) (p : Pk) (size cut : Int) : Bool :=
  (txOkB b s h t pb pz pc fr ws nx && (p.sup && (inB cut 1 pz && inB size 1 128))) && ((decide (sdN p.tm cut ≤ 16) && (decide (sdN p.tm cut + 1 ≤ freeF b s h t) && (decide (slotsF ws + sdN p.tm cut + 1 ≤ s) && takeB pb pz pc fr (sdN p.tm cut)))) && ((sdWr l ps d pb pz pc fr p.tm cut).2 && (descrB (sdPc pb pz pc fr p.tm cut) size nx && (sdRg l ps d b s h t pb pz pc fr nx p.tm size cut).2.2)))
def sdF (l : List Mp) (ps : Pg) (d b s h t pb pz pc : Int) (fr : List Int) (ws : List Sn) (nx : Int) (p : Pk) (size cut : Int) : TxR :=
  if sdB l ps d b s h t pb pz pc fr ws nx p size cut then ((sdRg l ps d b s h t pb pz pc fr nx p.tm size cut).1, (sdRg l ps d b s h t pb pz pc fr nx p.tm size cut).2.1, takeR pb pz pc fr (sdN p.tm cut), ws ++ [(nx, sdN p.tm cut + 1, sdKs pb pz pc fr p.tm cut)], (nx + 1) % 65536, true)
  else (ps, t, fr, ws, nx, false)
theorem sd_no {l : List Mp} {ps : Pg} {d b s h t pb pz pc : Int} {fr : List Int} {ws : List Sn} {nx : Int} {p : Pk} {size cut : Int} (hb : sdB l ps d b s h t pb pz pc fr ws nx p size cut = false) : sdF l ps d b s h t pb pz pc fr ws nx p size cut = (ps, t, fr, ws, nx, false) := if_neg (by rw [hb]; decide)
theorem sd_yes {l : List Mp} {ps : Pg} {d b s h t pb pz pc : Int} {fr : List Int} {ws : List Sn} {nx : Int} {p : Pk} {size cut : Int} {R : Pg × Int × Bool} (h1 : txOkB b s h t pb pz pc fr ws nx = true) (h2 : p.sup = true) (h3 : inB cut 1 pz = true) (h4 : inB size 1 128 = true) (h5 : sdN p.tm cut ≤ 16) (h6 : sdN p.tm cut + 1 ≤ freeF b s h t) (h7 : slotsF ws + sdN p.tm cut + 1 ≤ s) (h8 : takeB pb pz pc fr (sdN p.tm cut) = true) (h9 : (sdWr l ps d pb pz pc fr p.tm cut).2 = true) (h10 : descrB (sdPc pb pz pc fr p.tm cut) size nx = true) (h11 : sdRg l ps d b s h t pb pz pc fr nx p.tm size cut = R) (h12 : R.2.2 = true) :
    sdF l ps d b s h t pb pz pc fr ws nx p size cut = (R.1, R.2.1, takeR pb pz pc fr (sdN p.tm cut), ws ++ [(nx, sdN p.tm cut + 1, sdKs pb pz pc fr p.tm cut)], (nx + 1) % 65536, true) := by
  subst h11
  refine if_pos ?_
  unfold sdB
  rw [h1, h2, h3, h4, h8, h9, h10, h12, decide_eq_true h5, decide_eq_true h6, decide_eq_true h7]
  rfl
theorem takeL_len {pb pz pc n : Int} {fr : List Int} (h : takeB pb pz pc fr n = true) : ((takeL pb pz pc fr n).length : Int) = n := by
  have hh := h
  unfold takeB at hh
  rw [Bool.and_eq_true] at hh
  have := inB_iff.1 hh.2
  unfold takeL
  rw [if_pos h, List.length_take]; omega
theorem sdPc_len (pb pz pc : Int) (fr : List Int) (T : ByteArray) (cut : Int) : (sdPc pb pz pc fr T cut).length = (sdKs pb pz pc fr T cut).length := sdQ_len ..
theorem descr_len {l : List Pc} {size ck : Int} (h : descrB l size ck = true) : (descrF l size ck).length = l.length + 1 := by
  unfold descrF
  rw [if_pos h, dsF_len]
theorem descr_nil {l : List Pc} {size ck : Int} (h : descrB l size ck = false) : descrF l size ck = [] := if_neg (by rw [h]; decide)
end Go.Proofs.YtnikopahkjmneaaGreat
end
section
namespace Go.Proofs.YtnikopahkjmneaaGreat
open Go Go.RowKit Go.Vc
set_option linter.unusedVariables false
set_option linter.unusedSimpArgs false
set_option linter.unnecessarySimpa false
set_option maxHeartbeats 4000000 in
theorem c_impl_copySent {ws : List Sn} (hl_ws : ws.length ≤ 100000000 := by first | with_reducible assumption | omega) (hz_ws : (bufsF ws).length ≤ 100000000 := by first | with_reducible assumption | omega) : Con0 Tryz.prog 89 [.one (.rd (snQ (ws.map snE)))] (.one (.hs 0)) [(0, .own (sntOw 93 3 (ws.map snE)))] := by
  refine con_i Tryz.func89 Tryz.ntmps89 (t := [(0, .one (.rd (snQ (ws.map snE))))]) rfl ?_
  refine vc_sr ?_
  refine vo ?_
  refine vnt ?_
  refine vc_sr ?_
  iterate 2 refine vo ?_
  refine vnt ?_
  refine vc_seq' ?_
  refine vc_sr ?_
  refine vo ?_
  first | (refine vql ?_; refine vlnS ?_) | refine vo ?_
  try first | refine vlb ?_ | refine vln ?_
  refine vo ?_
  refine vnt ?_
  refine vc_block ?_
  refine vc_lp (σ := Nat) [7, 8] [] (fun i => [(3, .one (.hs 7)), (9, I (i : Nat))]) (fun i => [(7, .own (sntOw 93 3 ((ws.take i).map snE)))]) (fun i => i ≤ ws.length) (fun i => ws.length - i) 0 rfl rfl (sub_i [(7, some 48)] (fz ?_) (fz ?_)) ?_ fun i hI => ?_
  · first | trivial | rfl
  · first | trivial | rfl | exact fun v w F h => snt_arr h | exact ⟨rfl, rfl⟩ | trace_state
  · exact Nat.zero_le _
  refine vc_nf rfl rfl ?_
  refine vc_sr ?_
  refine vo ?_
  refine vnt ?_
  refine vc_seq' ?_
  refine vc_if (fun g1 => ?_) (fun g1 => ?_)
  · have hzi := buf_le g1
    refine vc_skip ?_
    refine thn ?_
    refine vc_seq' ?_
    refine vc_block ?_
    refine vc_sr ?_
    refine vqx ?_
    refine vepS ?_
    try with_reducible (first | refine vep ?_ | refine vpt ?_)
    refine vqd ?_
    iterate 2 refine vo ?_
    refine vnt ?_
    refine vc_region ?_
    iterate 7 refine vo ?_
    refine voc c_impl_copyInts rfl rfl ?_
    refine vo ?_
    refine vqb ?_
    refine vqa ?_
    refine vo ?_
    refine vnil ?_
    refine inB_n ?_
    refine thn ?_
    refine vc_region ?_
    refine vo ?_
    try refine vwr ?_
    refine vo ?_
    refine vnt ?_
    refine ⟨i + 1, by omega, by omega, sub_i [(7, some 184)] (fz ?_) (fz ?_)⟩
    · first | trivial | rfl | simp
    · exact (snt_stp g1).symm
  · refine vc_exit ?_
    refine thn_x ?_
    refine thn_x ?_
    refine inB_x ?_
    refine thn ?_
    refine vc_sr ?_
    iterate 2 refine vo ?_
    refine vnt ?_
    refine vc_ret ?_
    refine fin_i [(0, some 7)] rfl (fz ?_) (fz ?_)
    · first | trivial | rfl
    · exact (snt_end g1).symm
set_option maxHeartbeats 4000000 in
theorem c_impl_copyTx {b s h t pb pz pc nx : Int} {fr : List Int} (hl_fr : fr.length ≤ 100000000 := by first | with_reducible assumption | omega) {ws : List Sn} (hl_ws : ws.length ≤ 100000000 := by first | with_reducible assumption | omega) (hz_ws : (bufsF ws).length ≤ 100000000 := by first | with_reducible assumption | omega) : Con0 Tryz.prog 46 [.agg [V b, V s, V h, V t, V pb, V pz, V pc, .sl 1 (fr.map intE), .rd (snQ (ws.map snE)), V nx]] (.agg [V b, V s, V h, V t, V pb, V pz, V pc, .hs 0, .hs 1, V nx]) [(0, .arr 3 1 (fr.map intE)), (1, .own (sntOw 93 3 (ws.map snE)))] := by
  refine con_i Tryz.func46 Tryz.ntmps46 (t := [(0, .agg [V b, V s, V h, V t, V pb, V pz, V pc, .sl 1 (fr.map intE), .rd (snQ (ws.map snE)), V nx])]) rfl ?_
  refine vc_sr ?_
  iterate 2 refine vo ?_
  refine vnt ?_
  refine vc_sr ?_
  iterate 4 refine vo ?_
  refine voc c_impl_copyPool rfl rfl ?_
  iterate 2 refine vo ?_
  refine voc c_impl_copySent rfl rfl ?_
  iterate 4 refine vo ?_
  refine vnt ?_
  refine vc_ret ?_
  refine fin_i [(0, some 56), (1, some 80)] rfl (fz ?_) (fz ?_) <;> first | trivial | rfl | exact ⟨rfl, rfl⟩
set_option maxHeartbeats 4000000 in
theorem c_spec_l22Copy {b s h t pb pz pc nx : Int} {fr : List Int} (hl_fr : fr.length ≤ 100000000 := by first | with_reducible assumption | omega) {ws : List Sn} (hl_ws : ws.length ≤ 100000000 := by first | with_reducible assumption | omega) (hz_ws : (bufsF ws).length ≤ 100000000 := by first | with_reducible assumption | omega) : Con0 Tryz.prog 30 [.agg [V b, V s, V h, V t, V pb, V pz, V pc, .sl 1 (fr.map intE), .rd (snQ (ws.map snE)), V nx]] (.agg [V b, V s, V h, V t, V pb, V pz, V pc, .hs 0, .hs 1, V nx]) [(0, .arr 3 1 (fr.map intE)), (1, .own (sntOw 93 3 (ws.map snE)))] := by
  refine con_i Tryz.func30 Tryz.ntmps30 (t := [(0, .agg [V b, V s, V h, V t, V pb, V pz, V pc, .sl 1 (fr.map intE), .rd (snQ (ws.map snE)), V nx])]) rfl ?_
  refine vc_sr ?_
  iterate 2 refine vo ?_
  refine vnt ?_
  refine vc_sr ?_
  iterate 4 refine vo ?_
  refine voc c_spec_l21Copy rfl rfl ?_
  iterate 5 refine vo ?_
  refine vnt ?_
  refine vc_seq' ?_
  refine vc_sr ?_
  refine vo ?_
  refine vnt ?_
  refine vc_block ?_
  refine vc_lp (σ := Nat) [1, 2, 3] [8, 16] (fun i => [(4, I (i : Nat))]) (fun i => [(7, .arr 3 1 (fr.map intE)), (9, .own (sntOw 93 3 ((ws.take i).map snE))), (24, .row 47 [V b, V s, V h, V t, V pb, V pz, V pc, .hs 7, .hs 9, V nx])]) (fun i => i ≤ ws.length) (fun i => ws.length - i) 0 rfl rfl (sub_i [(24, some 24), (7, some 80), (9, none)] (fz ?_) (fz ?_)) ?_ fun i hI => ?_
  · first | trivial | rfl
  · first | trivial | rfl | exact ⟨by simp, fun w => snt_nil _ _ w⟩ | exact fun w => snt_nil _ _ w | trace_state
  · exact Nat.zero_le _
  refine vc_nf rfl rfl ?_
  refine vc_seq' ?_
  refine vc_sr ?_
  iterate 3 refine vo ?_
  first | (refine vql ?_; refine vlnS ?_) | refine vo ?_
  try first | refine vlb ?_ | refine vln ?_
  refine vo ?_
  refine vnt ?_
  refine vc_if (fun g1 => ?_) (fun g1 => ?_)
  · have hzi := buf_le g1
    refine vc_skip ?_
    refine thn ?_
    refine vc_seq' ?_
    refine vc_block ?_
    refine vc_sr ?_
    iterate 3 refine vo ?_
    refine vqx ?_
    refine vepS ?_
    try with_reducible (first | refine vep ?_ | refine vpt ?_)
    refine vqd ?_
    iterate 2 refine vo ?_
    refine vnt ?_
    refine vc_region ?_
    iterate 10 refine vo ?_
    rw [List.nil_append]
    refine vo ?_
    refine vqb ?_
    refine vqa ?_
    iterate 2 refine vo ?_
    refine vnil ?_
    refine inB_n ?_
    refine thn ?_
    refine vc_region ?_
    iterate 2 refine vo ?_
    try refine vwr ?_
    refine vo ?_
    refine vnt ?_
    refine ⟨i + 1, by omega, by omega, sub_i [(24, some 24), (7, some 7), (9, some 304)] (fz ?_) (fz ?_)⟩
    · first | trivial | rfl | simp
    · first | exact (snt_stp g1).symm | exact ⟨rfl, (snt_stp g1).symm⟩ | trace_state
  · refine vc_exit ?_
    refine thn_x ?_
    refine thn_x ?_
    refine inB_x ?_
    refine thn ?_
    refine vc_sr ?_
    iterate 2 refine vo ?_
    refine vnt ?_
    refine vc_ret ?_
    refine fin_i [(0, some 7), (1, some 9)] rfl (fz ?_) (fz ?_)
    · first | trivial | rfl
    · first | exact (snt_end g1).symm | exact ⟨rfl, (snt_end g1).symm⟩ | trace_state
set_option maxHeartbeats 4000000 in
theorem c_impl_TxOk {b s h t pb pz pc nx : Int} {fr : List Int} (hl_fr : fr.length ≤ 100000000 := by first | with_reducible assumption | omega) {ws : List Sn} (hl_ws : ws.length ≤ 100000000 := by first | with_reducible assumption | omega) (hz_ws : (bufsF ws).length ≤ 100000000 := by first | with_reducible assumption | omega) : Con0 Tryz.prog 47 [.agg [V b, V s, V h, V t, V pb, V pz, V pc, .sl 1 (fr.map intE), .rd (snQ (ws.map snE)), V nx]] (B (txOkB b s h t pb pz pc fr ws nx)) [] := by
  refine con_i Tryz.func47 Tryz.ntmps47 (t := [(0, .agg [V b, V s, V h, V t, V pb, V pz, V pc, .sl 1 (fr.map intE), .rd (snQ (ws.map snE)), V nx])]) rfl ?_
  refine vc_sr ?_
  iterate 2 refine vo ?_
  refine vnt ?_
  refine vc_seq' ?_
  refine vc_sr ?_
  iterate 2 refine vo ?_
  refine voc c_impl_RingOk rfl rfl ?_
  iterate 2 refine vo ?_
  refine vsp (fun g1 => ?_) (fun g1 => ?_)
  · iterate 4 refine vof ?_
    iterate 2 refine vo ?_
    iterate 4 refine vof ?_
    refine vo ?_
    refine vnt ?_
    refine vc_then ?_
    refine vc_sr ?_
    refine vo ?_
    refine vnt ?_
    refine vc_ret ?_
    refine thn_r ?_
    refine fin_i [] rfl (fz ?_) trivial
    have hh : txOkB b s h t pb pz pc fr ws nx = false := by unfold txOkB; rw [g1]; rfl
    rw [hh]
  · obtain ⟨hs_, b0, b1, s0, s1, h0, h1, t0, t1, u1, u0⟩ := ringOk_facts g1
    iterate 2 refine von ?_
    refine vocn c_impl_PoolOk rfl rfl ?_
    refine von ?_
    iterate 2 refine vo ?_
    refine vsp (fun g2 => ?_) (fun g2 => ?_)
    · iterate 4 refine vof ?_
      refine vo ?_
      refine vnt ?_
      refine vc_then ?_
      refine vc_sr ?_
      refine vo ?_
      refine vnt ?_
      refine vc_ret ?_
      refine thn_r ?_
      refine fin_i [] rfl (fz ?_) trivial
      have hh : txOkB b s h t pb pz pc fr ws nx = false := by unfold txOkB; rw [g2]; simp
      rw [hh]
    · iterate 2 refine von ?_
      refine vocn c_impl_between rfl rfl ?_
      refine von ?_
      refine vo ?_
      refine vnt ?_
      refine vc_if (fun g3 => ?_) (fun g3 => ?_)
      · refine vc_sr ?_
        refine vo ?_
        refine vnt ?_
        refine vc_ret ?_
        refine thn_r ?_
        refine fin_i [] rfl (fz ?_) trivial
        have hh : txOkB b s h t pb pz pc fr ws nx = false := by unfold txOkB; rw [g3]; simp
        rw [hh]
      · refine vc_skip ?_
        refine thn ?_
        refine vc_sr ?_
        iterate 4 refine vo ?_
        refine vnt ?_
        refine vc_sr ?_
        iterate 2 refine vo ?_
        refine vnt ?_
        refine vc_seq' ?_
        refine vc_sr ?_
        iterate 2 refine vo ?_
        first | (refine vql ?_; refine vlnS ?_) | refine vo ?_
        try first | refine vlb ?_ | refine vln ?_
        refine vo ?_
        refine vnt ?_
        refine vc_block ?_
        refine vc_lp (σ := Nat) [1, 30, 31] [8] (fun i => [(3, I (s - slotsF (ws.take i))), (4, .one (.hs 7)), (32, I (i : Nat))]) (fun i => [(7, .arr 3 1 ((bufsF (ws.take i)).map intE))]) (fun i => i ≤ ws.length ∧ (ws.take i).all snOk = true ∧ slotsF (ws.take i) ≤ s ∧ 0 ≤ slotsF (ws.take i)) (fun i => ws.length - i) 0 rfl rfl (sub_i [(7, some 224)] (fz ?_) (fz ?_)) ?_ fun i hI => ?_
        · first | trivial | rfl | (simp [slotsF]; done) | trace_state
        · first | trivial | rfl | exact ⟨rfl, rfl⟩ | trace_state
        · exact ⟨Nat.zero_le _, rfl, by show (0 : Int) ≤ s; omega, Int.le_refl _⟩
        refine vc_nf rfl rfl ?_
        have hbl := bufs_le ws i
        refine vc_sr ?_
        refine vo ?_
        refine vnt ?_
        refine vc_seq' ?_
        refine vc_if (fun g4 => ?_) (fun g4 => ?_)
        · have hzi := buf_le g4
          refine vc_skip ?_
          refine thn ?_
          refine vc_seq' ?_
          refine vc_block ?_
          refine vc_sr ?_
          refine vqx ?_
          refine vepS ?_
          try with_reducible (first | refine vep ?_ | refine vpt ?_)
          refine vqd ?_
          iterate 2 refine vo ?_
          refine vnt ?_
          refine vc_seq' ?_
          refine vc_sr ?_
          iterate 4 refine vo ?_
          refine vsp (fun g5 => ?_) (fun g5 => ?_)
          · iterate 4 refine vof ?_
            iterate 2 refine vo ?_
            iterate 4 refine vof ?_
            refine vo ?_
            refine vnt ?_
            refine vc_then ?_
            refine vc_sr ?_
            refine vo ?_
            refine vnt ?_
            refine vc_ret ?_
            refine thn_r ?_
            refine inB_r ?_
            refine thn_r ?_
            refine thn_r ?_
            refine inB_r ?_
            refine thn_r ?_
            refine fin_i [] rfl (fz ?_) trivial
            have hh : txOkB b s h t pb pz pc fr ws nx = false := by unfold txOkB; rw [tx_bad (s := s) g4 (.inl (by omega))]; simp
            rw [hh]
          · iterate 4 refine von ?_
            iterate 2 refine vo ?_
            refine vsp (fun g6 => ?_) (fun g6 => ?_)
            · iterate 4 refine vof ?_
              refine vo ?_
              refine vnt ?_
              refine vc_then ?_
              refine vc_sr ?_
              refine vo ?_
              refine vnt ?_
              refine vc_ret ?_
              refine thn_r ?_
              refine inB_r ?_
              refine thn_r ?_
              refine thn_r ?_
              refine inB_r ?_
              refine thn_r ?_
              refine fin_i [] rfl (fz ?_) trivial
              have hh : txOkB b s h t pb pz pc fr ws nx = false := by unfold txOkB; rw [tx_bad (s := s) g4 (.inr (.inr (by rw [slots_stp g4]; omega)))]; simp
              rw [hh]
            · iterate 2 refine von ?_
              refine vocn c_impl_between rfl rfl ?_
              refine von ?_
              refine vo ?_
              refine vnt ?_
              refine vc_if (fun g7 => ?_) (fun g7 => ?_)
              · refine vc_sr ?_
                refine vo ?_
                refine vnt ?_
                refine vc_ret ?_
                refine thn_r ?_
                refine inB_r ?_
                refine thn_r ?_
                refine thn_r ?_
                refine inB_r ?_
                refine thn_r ?_
                refine fin_i [] rfl (fz ?_) trivial
                have hh : txOkB b s h t pb pz pc fr ws nx = false := by unfold txOkB; rw [tx_bad (s := s) g4 (.inr (.inl g7))]; simp
                rw [hh]
              · refine vc_skip ?_
                refine thn ?_
                refine vc_sr ?_
                iterate 4 refine vo ?_
                try refine vwr ?_
                refine vo ?_
                refine vnt ?_
                refine vc_region ?_
                iterate 5 refine vo ?_
                refine vnil ?_
                refine inB_n ?_
                refine thn ?_
                refine vc_region ?_
                refine vo ?_
                try refine vwr ?_
                refine vo ?_
                refine vnt ?_
                have hst := slots_stp g4
                refine ⟨i + 1, ⟨by omega, all_take hI.2.1 g4 (by omega) g7, by omega, by omega⟩, by omega, sub_i [(7, some 464)] (fz ?_) (fz ?_)⟩
                · first | trivial | (rw [hst]; simp; omega) | (rw [hst]; omega) | trace_state
                · first | (rw [← bufs_stp g4, List.map_append]; done) | (rw [← bufs_stp g4, List.map_append]; rfl) | trace_state
        · have hbl2 := bufs_le ws i
          refine vc_exit ?_
          refine thn_x ?_
          refine thn_x ?_
          refine inB_x ?_
          refine thn ?_
          refine vc_sr ?_
          iterate 3 refine vo ?_
          refine voc c_impl_GiveBuffers rfl rfl ?_
          iterate 6 refine vo ?_
          refine vnt ?_
          refine vc_sr ?_
          iterate 2 refine vo ?_
          refine vnt ?_
          refine vc_ret ?_
          refine fin_i [] rfl (fz ?_) trivial
          have hh : txOkB b s h t pb pz pc fr ws nx = giveB pb pz pc fr (bufsF ws) := by unfold txOkB; rw [g1, g2, g3, tx_end hI.2.1 g4 hI.2.2.1]; simp
          rw [hh, bufs_end g4]
set_option maxHeartbeats 4000000 in
theorem c_spec_TxOk {b s h t pb pz pc nx : Int} {fr : List Int} (hl_fr : fr.length ≤ 100000000 := by first | with_reducible assumption | omega) {ws : List Sn} (hl_ws : ws.length ≤ 100000000 := by first | with_reducible assumption | omega) (hz_ws : (bufsF ws).length ≤ 100000000 := by first | with_reducible assumption | omega) : Con0 Tryz.prog 27 [.agg [V b, V s, V h, V t, V pb, V pz, V pc, .sl 1 (fr.map intE), .rd (snQ (ws.map snE)), V nx]] (B (txOkB b s h t pb pz pc fr ws nx)) [] := by
  refine con_i Tryz.func27 Tryz.ntmps27 (t := [(0, .agg [V b, V s, V h, V t, V pb, V pz, V pc, .sl 1 (fr.map intE), .rd (snQ (ws.map snE)), V nx])]) rfl ?_
  refine vc_sr ?_
  iterate 2 refine vo ?_
  refine vnt ?_
  refine vc_seq' ?_
  refine vc_sr ?_
  iterate 2 refine vo ?_
  refine voc c_spec_RingOk rfl rfl ?_
  iterate 2 refine vo ?_
  refine vsp (fun g1 => ?_) (fun g1 => ?_)
  · iterate 4 refine vof ?_
    iterate 2 refine vo ?_
    iterate 4 refine vof ?_
    refine vo ?_
    refine vnt ?_
    refine vc_then ?_
    refine vc_sr ?_
    refine vo ?_
    refine vnt ?_
    refine vc_ret ?_
    refine thn_r ?_
    refine fin_i [] rfl (fz ?_) trivial
    have hh : txOkB b s h t pb pz pc fr ws nx = false := by unfold txOkB; rw [g1]; rfl
    rw [hh]
  · obtain ⟨hs_, b0, b1, s0, s1, h0, h1, t0, t1, u1, u0⟩ := ringOk_facts g1
    have hsz := sizeB_cases hs_
    iterate 2 refine von ?_
    refine vocn c_spec_PoolOk rfl rfl ?_
    refine von ?_
    iterate 2 refine vo ?_
    refine vsp (fun g2 => ?_) (fun g2 => ?_)
    · iterate 4 refine vof ?_
      refine vo ?_
      refine vnt ?_
      refine vc_then ?_
      refine vc_sr ?_
      refine vo ?_
      refine vnt ?_
      refine vc_ret ?_
      refine thn_r ?_
      refine fin_i [] rfl (fz ?_) trivial
      have hh : txOkB b s h t pb pz pc fr ws nx = false := by unfold txOkB; rw [g2]; simp
      rw [hh]
    · iterate 2 refine von ?_
      refine vocn c_spec_l01In rfl rfl ?_
      refine von ?_
      refine vo ?_
      refine vnt ?_
      refine vc_if (fun g3 => ?_) (fun g3 => ?_)
      · refine vc_sr ?_
        refine vo ?_
        refine vnt ?_
        refine vc_ret ?_
        refine thn_r ?_
        refine fin_i [] rfl (fz ?_) trivial
        have hh : txOkB b s h t pb pz pc fr ws nx = false := by unfold txOkB; rw [g3]; simp
        rw [hh]
      · refine vc_skip ?_
        refine thn ?_
        refine vc_sr ?_
        refine vo ?_
        refine vnt ?_
        refine vc_sr ?_
        iterate 2 refine vo ?_
        refine vnt ?_
        refine vc_seq' ?_
        refine vc_sr ?_
        refine vo ?_
        refine vnt ?_
        refine vc_block ?_
        refine vc_lp (σ := Nat) [1] [8] (fun i => [(3, I (slotsF (ws.take i))), (4, .one (.hs 7)), (5, I (i : Nat))]) (fun i => [(7, .arr 3 1 ((bufsF (ws.take i)).map intE))]) (fun i => i ≤ ws.length ∧ (ws.take i).all snOk = true ∧ slotsF (ws.take i) ≤ 16 * i ∧ 0 ≤ slotsF (ws.take i)) (fun i => ws.length - i) 0 rfl rfl (sub_i [(7, some 200)] (fz ?_) (fz ?_)) ?_ fun i hI => ?_
        · first | trivial | rfl | (simp [slotsF]; done) | trace_state
        · first | trivial | rfl | exact ⟨rfl, rfl⟩ | trace_state
        · exact ⟨Nat.zero_le _, rfl, Int.le_refl _, Int.le_refl _⟩
        refine vc_nf rfl rfl ?_
        have hbl := bufs_le ws i
        refine vc_seq' ?_
        refine vc_sr ?_
        iterate 3 refine vo ?_
        first | (refine vql ?_; refine vlnS ?_) | refine vo ?_
        try first | refine vlb ?_ | refine vln ?_
        refine vo ?_
        refine vnt ?_
        refine vc_if (fun g4 => ?_) (fun g4 => ?_)
        · have hzi := buf_le g4
          refine vc_skip ?_
          refine thn ?_
          refine vc_seq' ?_
          refine vc_block ?_
          refine vc_sr ?_
          iterate 3 refine vo ?_
          refine vqx ?_
          refine vepS ?_
          try with_reducible (first | refine vep ?_ | refine vpt ?_)
          refine vqd ?_
          iterate 2 refine vo ?_
          refine vnt ?_
          refine vc_seq' ?_
          refine vc_sr ?_
          iterate 5 refine vo ?_
          refine voc c_spec_l01In rfl rfl ?_
          iterate 2 refine vo ?_
          refine vsp (fun g5 => ?_) (fun g5 => ?_)
          · iterate 4 refine vof ?_
            refine vo ?_
            refine vnt ?_
            refine vc_then ?_
            refine vc_sr ?_
            refine vo ?_
            refine vnt ?_
            refine vc_ret ?_
            refine thn_r ?_
            refine inB_r ?_
            refine thn_r ?_
            refine thn_r ?_
            refine inB_r ?_
            refine thn_r ?_
            refine fin_i [] rfl (fz ?_) trivial
            have hh : txOkB b s h t pb pz pc fr ws nx = false := by unfold txOkB; rw [tx_bad (s := s) g4 ((inB_no g5).elim .inl fun hx => .inr (.inr (by rw [slots_stp g4]; omega)))]; simp
            rw [hh]
          · iterate 2 refine von ?_
            refine vocn c_spec_l01In rfl rfl ?_
            refine von ?_
            refine vo ?_
            refine vnt ?_
            refine vc_if (fun g6 => ?_) (fun g6 => ?_)
            · refine vc_sr ?_
              refine vo ?_
              refine vnt ?_
              refine vc_ret ?_
              refine thn_r ?_
              refine inB_r ?_
              refine thn_r ?_
              refine thn_r ?_
              refine inB_r ?_
              refine thn_r ?_
              refine fin_i [] rfl (fz ?_) trivial
              have hh : txOkB b s h t pb pz pc fr ws nx = false := by unfold txOkB; rw [tx_bad (s := s) g4 (.inr (.inl g6))]; simp
              rw [hh]
            · have hgi := inB_iff.1 g5
              refine vc_skip ?_
              refine thn ?_
              refine vc_sr ?_
              iterate 4 refine vo ?_
              try refine vwr ?_
              refine vo ?_
              refine vnt ?_
              refine vc_region ?_
              iterate 5 refine vo ?_
              refine vnil ?_
              refine inB_n ?_
              refine thn ?_
              refine vc_region ?_
              iterate 2 refine vo ?_
              try refine vwr ?_
              refine vo ?_
              refine vnt ?_
              have hst := slots_stp g4
              have hgi := inB_iff.1 g5
              refine ⟨i + 1, ⟨by omega, all_take hI.2.1 g4 (by omega) g6, by omega, by omega⟩, by omega, sub_i [(7, some 464)] (fz ?_) (fz ?_)⟩
              · first | trivial | (rw [hst]; simp; done) | (rw [hst]; exact ⟨by simp, rfl⟩) | trace_state
              · first | (rw [← bufs_stp g4, List.map_append]; done) | (rw [← bufs_stp g4, List.map_append]; rfl) | trace_state
        · have hbl2 := bufs_le ws i
          refine vc_exit ?_
          refine thn_x ?_
          refine thn_x ?_
          refine inB_x ?_
          refine thn ?_
          refine vc_sr ?_
          iterate 3 refine vo ?_
          refine voc c_spec_GiveBuffers rfl rfl ?_
          iterate 6 refine vo ?_
          refine vnt ?_
          refine vc_sr ?_
          iterate 2 refine vo ?_
          refine vsp (fun g7 => ?_) (fun g7 => ?_)
          · iterate 5 refine von ?_
            iterate 2 refine vo ?_
            refine vnt ?_
            refine vc_ret ?_
            refine fin_i [] rfl (fz ?_) trivial
            have hh : txOkB b s h t pb pz pc fr ws nx = decide (slotsF (ws.take i) ≤ s) := by
              unfold txOkB
              rw [g1, g2, g3]
              by_cases hc : slotsF (ws.take i) ≤ s
              · rw [tx_end hI.2.1 g4 hc, decide_eq_true hc, ← bufs_end g4, g7]; rfl
              · rw [tx_endn g4 (by omega), decide_eq_false hc]; simp
            rw [hh]
          · iterate 5 refine vof ?_
            iterate 2 refine vo ?_
            refine vnt ?_
            refine vc_ret ?_
            refine fin_i [] rfl (fz ?_) trivial
            have hh : txOkB b s h t pb pz pc fr ws nx = false := by unfold txOkB; rw [← bufs_end g4, g7]; simp
            rw [hh]
set_option maxHeartbeats 4000000 in
theorem c_impl_slotsWaiting {b s h t pb pz pc nx : Int} {fr : List Int} {ws : List Sn} (hl_ws : ws.length ≤ 100000000 := by first | with_reducible assumption | omega) (h1 : ws.all snOk = true) (h2 : slotsF ws ≤ 100) : Con0 Tryz.prog 52 [.agg [V b, V s, V h, V t, V pb, V pz, V pc, .sl 1 (fr.map intE), .rd (snQ (ws.map snE)), V nx]] (I (slotsF ws)) [] := by
  refine con_i Tryz.func52 Tryz.ntmps52 (t := [(0, .agg [V b, V s, V h, V t, V pb, V pz, V pc, .sl 1 (fr.map intE), .rd (snQ (ws.map snE)), V nx])]) rfl ?_
  refine vc_sr ?_
  iterate 2 refine vo ?_
  refine vnt ?_
  refine vc_sr ?_
  refine vo ?_
  refine vnt ?_
  refine vc_seq' ?_
  refine vc_sr ?_
  iterate 2 refine vo ?_
  first | (refine vql ?_; refine vlnS ?_) | refine vo ?_
  try first | refine vlb ?_ | refine vln ?_
  refine vo ?_
  refine vnt ?_
  refine vc_block ?_
  refine vc_lp (σ := Nat) [7, 8] [] (fun i => [(3, I (slotsF (ws.take i))), (9, I (i : Nat))]) (fun i => []) (fun i => i ≤ ws.length) (fun i => ws.length - i) 0 rfl rfl (sub_i [] (fz ?_) (fz ?_)) ?_ fun i hI => ?_
  · first | trivial | rfl | (simp [slotsF]; done) | trace_state
  · first | trivial | rfl | trace_state
  · exact Nat.zero_le _
  refine vc_nf rfl rfl ?_
  refine vc_sr ?_
  refine vo ?_
  refine vnt ?_
  refine vc_seq' ?_
  refine vc_if (fun g1 => ?_) (fun g1 => ?_)
  · have hst := slots_stp g1
    have ha := slots_le h1 (i + 1)
    have hb := slots_nn (all_tk h1 i)
    have hc := slots_nn (all_tk h1 (i + 1))
    refine vc_skip ?_
    refine thn ?_
    refine vc_seq' ?_
    refine vc_block ?_
    refine vc_sr ?_
    refine vqx ?_
    refine vepS ?_
    try with_reducible (first | refine vep ?_ | refine vpt ?_)
    refine vqd ?_
    iterate 2 refine vo ?_
    refine vnt ?_
    refine vc_region ?_
    iterate 4 refine vo ?_
    try refine vwr ?_
    refine vo ?_
    refine vnil ?_
    refine inB_n ?_
    refine thn ?_
    refine vc_region ?_
    refine vo ?_
    try refine vwr ?_
    refine vo ?_
    refine vnt ?_
    refine ⟨i + 1, by omega, by omega, sub_i [] (fz ?_) (fz ?_)⟩
    · first | trivial | (rw [hst]; simp; done) | (rw [hst]; exact ⟨by simp, rfl⟩) | (rw [hst]; exact ⟨rfl, by simp⟩) | trace_state
    · first | trivial | rfl
  · refine vc_exit ?_
    refine thn_x ?_
    refine thn_x ?_
    refine inB_x ?_
    refine thn ?_
    refine vc_sr ?_
    iterate 2 refine vo ?_
    refine vnt ?_
    refine vc_ret ?_
    refine fin_i [] rfl (fz ?_) trivial
    rw [slots_end g1]
set_option maxHeartbeats 4000000 in
theorem c_spec_l22Slots {b s h t pb pz pc nx : Int} {fr : List Int} {ws : List Sn} (hl_ws : ws.length ≤ 100000000 := by first | with_reducible assumption | omega) (h1 : ws.all snOk = true) (h2 : slotsF ws ≤ 100) : Con0 Tryz.prog 33 [.agg [V b, V s, V h, V t, V pb, V pz, V pc, .sl 1 (fr.map intE), .rd (snQ (ws.map snE)), V nx]] (I (slotsF ws)) [] := by
  refine con_i Tryz.func33 Tryz.ntmps33 (t := [(0, .agg [V b, V s, V h, V t, V pb, V pz, V pc, .sl 1 (fr.map intE), .rd (snQ (ws.map snE)), V nx])]) rfl ?_
  refine vc_sr ?_
  iterate 2 refine vo ?_
  refine vnt ?_
  refine vc_sr ?_
  refine vo ?_
  refine vnt ?_
  refine vc_seq' ?_
  refine vc_sr ?_
  refine vo ?_
  refine vnt ?_
  refine vc_block ?_
  refine vc_lp (σ := Nat) [1] [8] (fun i => [(3, I (slotsF (ws.take i))), (4, I (i : Nat))]) (fun i => []) (fun i => i ≤ ws.length) (fun i => ws.length - i) 0 rfl rfl (sub_i [] (fz ?_) (fz ?_)) ?_ fun i hI => ?_
  · first | trivial | rfl | (simp [slotsF]; done) | trace_state
  · first | trivial | rfl | trace_state
  · exact Nat.zero_le _
  refine vc_nf rfl rfl ?_
  refine vc_seq' ?_
  refine vc_sr ?_
  iterate 3 refine vo ?_
  first | (refine vql ?_; refine vlnS ?_) | refine vo ?_
  try first | refine vlb ?_ | refine vln ?_
  refine vo ?_
  refine vnt ?_
  refine vc_if (fun g1 => ?_) (fun g1 => ?_)
  · have hst := slots_stp g1
    have ha := slots_le h1 (i + 1)
    have hb := slots_nn (all_tk h1 i)
    have hc := slots_nn (all_tk h1 (i + 1))
    refine vc_skip ?_
    refine thn ?_
    refine vc_seq' ?_
    refine vc_block ?_
    refine vc_region ?_
    iterate 4 refine vo ?_
    refine vqx ?_
    refine vepS ?_
    try with_reducible (first | refine vep ?_ | refine vpt ?_)
    refine vqf ?_
    refine vqd ?_
    refine vo ?_
    try refine vwr ?_
    refine vo ?_
    refine vnil ?_
    refine inB_n ?_
    refine thn ?_
    refine vc_region ?_
    iterate 2 refine vo ?_
    try refine vwr ?_
    refine vo ?_
    refine vnt ?_
    refine ⟨i + 1, by omega, by omega, sub_i [] (fz ?_) (fz ?_)⟩
    · first | trivial | (rw [hst]; simp; done) | (rw [hst]; exact ⟨by simp, rfl⟩) | (rw [hst]; exact ⟨rfl, by simp⟩) | trace_state
    · first | trivial | rfl
  · refine vc_exit ?_
    refine thn_x ?_
    refine thn_x ?_
    refine inB_x ?_
    refine thn ?_
    refine vc_sr ?_
    iterate 2 refine vo ?_
    refine vnt ?_
    refine vc_ret ?_
    refine fin_i [] rfl (fz ?_) trivial
    rw [slots_end g1]
set_option maxHeartbeats 4000000 in
theorem c_impl_TakeBuffers {pb pz pc n : Int} {fr : List Int} (hl_fr : fr.length ≤ 100000000 := by first | with_reducible assumption | omega) : Con0 Tryz.prog 53 [.agg [V pb, V pz, V pc, .sl 1 (fr.map intE)], I n] (.tup [.agg [V pb, V pz, V pc, .hs 0], .one (.hs 1), B (takeB pb pz pc fr n)]) [(0, .arr 3 1 ((takeR pb pz pc fr n).map intE)), (1, .arr 3 1 ((takeL pb pz pc fr n).map intE))] := by
  refine con_i Tryz.func53 Tryz.ntmps53 (t := [(0, .agg [V pb, V pz, V pc, .sl 1 (fr.map intE)]), (1, I n)]) rfl ?_
  refine vc_sr ?_
  iterate 4 refine vo ?_
  refine vnt ?_
  refine vc_sr ?_
  refine vo ?_
  refine voc c_impl_copyPool rfl rfl ?_
  iterate 2 refine vo ?_
  refine vnt ?_
  refine vc_seq' ?_
  refine vc_sr ?_
  refine vo ?_
  refine voc c_impl_PoolOk rfl rfl ?_
  iterate 2 refine vo ?_
  refine vsp (fun g1 => ?_) (fun g1 => ?_)
  · iterate 6 refine vof ?_
    refine vo ?_
    refine vnt ?_
    refine vc_then ?_
    refine vc_sr ?_
    iterate 4 refine vo ?_
    refine vnt ?_
    refine vc_ret ?_
    refine thn_r ?_
    have hh := take_n (pz := pz) (n := n) (.inl g1)
    refine fin_i [(0, some 72), (1, none)] rfl (fz ?_) (fz ?_)
    · rw [hh.2.2]; first | trivial | rfl | exact ⟨rfl, rfl⟩ | trace_state
    · rw [hh.1, hh.2.1]; first | trivial | rfl | exact ⟨rfl, rfl⟩ | trace_state
  · iterate 4 refine von ?_
    try first | refine vlb ?_ | refine vln ?_
    refine vocn c_impl_between rfl rfl ?_
    refine von ?_
    refine vo ?_
    refine vnt ?_
    refine vc_if (fun g2 => ?_) (fun g2 => ?_)
    · refine vc_sr ?_
      iterate 4 refine vo ?_
      refine vnt ?_
      refine vc_ret ?_
      refine thn_r ?_
      have hh := take_n (pb := pb) (pz := pz) (pc := pc) (.inr g2)
      refine fin_i [(0, some 72), (1, none)] rfl (fz ?_) (fz ?_)
      · rw [hh.2.2]; first | trivial | rfl | exact ⟨rfl, rfl⟩ | trace_state
      · rw [hh.1, hh.2.1]; first | trivial | rfl | exact ⟨rfl, rfl⟩ | trace_state
    · have hn := inB_iff.1 g2
      have hd1 : (fr.drop n.toNat).length ≤ 100000000 := by rw [List.length_drop]; omega
      have hd2 : (fr.take n.toNat).length ≤ 100000000 := by rw [List.length_take]; omega
      refine vc_skip ?_
      refine thn ?_
      refine vc_sr ?_
      iterate 4 refine vo ?_
      try first | refine vdr ?_ | refine vtk ?_
      refine voc c_impl_copyInts rfl rfl ?_
      iterate 2 refine vo ?_
      refine vnt ?_
      refine vc_sr ?_
      iterate 5 refine vo ?_
      try first | refine vdr ?_ | refine vtk ?_
      refine voc c_impl_copyInts rfl rfl ?_
      iterate 3 refine vo ?_
      refine vnt ?_
      refine vc_ret ?_
      have hh := take_y g1 g2
      refine fin_i [(0, some 208), (1, some 264)] rfl (fz ?_) (fz ?_)
      · rw [hh.2.2]; first | trivial | rfl | exact ⟨rfl, rfl⟩ | trace_state
      · rw [hh.1, hh.2.1]; first | trivial | rfl | exact ⟨rfl, rfl⟩ | trace_state
set_option maxHeartbeats 4000000 in
theorem c_spec_TakeBuffers {pb pz pc n : Int} {fr : List Int} (hl_fr : fr.length ≤ 100000000 := by first | with_reducible assumption | omega) : Con0 Tryz.prog 31 [.agg [V pb, V pz, V pc, .sl 1 (fr.map intE)], I n] (.tup [.agg [V pb, V pz, V pc, .hs 0], .one (.hs 1), B (takeB pb pz pc fr n)]) [(0, .arr 3 1 ((takeR pb pz pc fr n).map intE)), (1, .arr 3 1 ((takeL pb pz pc fr n).map intE))] := by
  refine con_i Tryz.func31 Tryz.ntmps31 (t := [(0, .agg [V pb, V pz, V pc, .sl 1 (fr.map intE)]), (1, I n)]) rfl ?_
  refine vc_sr ?_
  iterate 4 refine vo ?_
  refine vnt ?_
  refine vc_sr ?_
  refine vo ?_
  refine voc c_spec_l21Copy rfl rfl ?_
  iterate 2 refine vo ?_
  refine vnt ?_
  refine vc_seq' ?_
  refine vc_sr ?_
  refine vo ?_
  refine voc c_spec_PoolOk rfl rfl ?_
  iterate 2 refine vo ?_
  refine vsp (fun g1 => ?_) (fun g1 => ?_)
  · iterate 6 refine vof ?_
    refine vo ?_
    refine vnt ?_
    refine vc_then ?_
    refine vc_sr ?_
    iterate 5 refine vo ?_
    refine vnt ?_
    refine vc_ret ?_
    refine thn_r ?_
    have hh := take_n (pz := pz) (n := n) (.inl g1)
    refine fin_i [(0, some 80), (1, some 184)] rfl (fz ?_) (fz ?_)
    · rw [hh.2.2]; first | trivial | rfl | exact ⟨rfl, rfl⟩ | trace_state
    · rw [hh.1, hh.2.1]; first | trivial | rfl | exact ⟨rfl, rfl⟩ | trace_state
  · iterate 4 refine von ?_
    try first | refine vlb ?_ | refine vln ?_
    refine vocn c_spec_l01In rfl rfl ?_
    refine von ?_
    refine vo ?_
    refine vnt ?_
    refine vc_if (fun g2 => ?_) (fun g2 => ?_)
    · refine vc_sr ?_
      iterate 5 refine vo ?_
      refine vnt ?_
      refine vc_ret ?_
      refine thn_r ?_
      have hh := take_n (pb := pb) (pz := pz) (pc := pc) (.inr g2)
      refine fin_i [(0, some 80), (1, some 184)] rfl (fz ?_) (fz ?_)
      · rw [hh.2.2]; first | trivial | rfl | exact ⟨rfl, rfl⟩ | trace_state
      · rw [hh.1, hh.2.1]; first | trivial | rfl | exact ⟨rfl, rfl⟩ | trace_state
    · have hn := inB_iff.1 g2
      have hd1 : (fr.drop n.toNat).length ≤ 100000000 := by rw [List.length_drop]; omega
      have hd2 : (fr.take n.toNat).length ≤ 100000000 := by rw [List.length_take]; omega
      refine vc_skip ?_
      refine thn ?_
      refine vc_sr ?_
      iterate 5 refine vo ?_
      try first | refine vdr ?_ | refine vtk ?_
      refine vo ?_
      rw [List.nil_append]
      refine vo ?_
      refine vnt ?_
      refine vc_sr ?_
      iterate 5 refine vo ?_
      try first | refine vdr ?_ | refine vtk ?_
      refine vo ?_
      rw [List.nil_append]
      iterate 2 refine vo ?_
      refine vnt ?_
      refine vc_sr ?_
      iterate 5 refine vo ?_
      refine vnt ?_
      refine vc_ret ?_
      have hh := take_y g1 g2
      refine fin_i [(0, some 280), (1, some 232)] rfl (fz ?_) (fz ?_)
      · rw [hh.2.2]; first | trivial | rfl | exact ⟨rfl, rfl⟩ | trace_state
      · rw [hh.1, hh.2.1]; first | trivial | rfl | exact ⟨rfl, rfl⟩ | trace_state
end Go.Proofs.YtnikopahkjmneaaGreat
end
section
namespace Go.Proofs.YtnikopahkjmneaaGreat
open Go Go.RowKit Go.Vc
set_option linter.unusedVariables false
set_option linter.unusedSimpArgs false
set_option linter.unnecessarySimpa false
def midX {α : Type} [Inhabited α] (f : Nat → α) (l : List α) (i : Nat) : List α := (List.range l.length).map fun j => if j < i then f j else at' l j
def rgX {α : Type} (f : Nat → α) (n : Nat) : List α := (List.range n).map f
section
variable {α : Type} [Inhabited α] {f : Nat → α} {l : List α} {i : Nat}
omit [Inhabited α] in
theorem rg_len (n : Nat) : (rgX f n).length = n := by simp [rgX]
theorem rg_at {n : Nat} (h : i < n) : at' (rgX f n) i = f i := by
  rw [atp_eq (by rw [rg_len]; exact h)]; simp [rgX]
theorem rg_self : rgX (at' l) l.length = l := by
  refine List.ext_getElem (by rw [rg_len]) fun j h1 h2 => ?_
  rw [← atp_eq h1, ← atp_eq h2, rg_at h2]
theorem mid_len : (midX f l i).length = l.length := by simp [midX]
theorem mid_at' {j : Nat} (h : j < l.length) : at' (midX f l i) j = if j < i then f j else at' l j := by
  rw [atp_eq (by rw [mid_len]; exact h)]; simp [midX]
theorem mid_at (h : i < l.length) : at' (midX f l i) i = at' l i := by rw [mid_at' h, if_neg (Nat.lt_irrefl _)]
theorem ext_at {a b : List α} (h : a.length = b.length) (k : ∀ j, j < a.length → at' a j = at' b j) : a = b := by
  refine List.ext_getElem h fun j h1 h2 => ?_
  rw [← atp_eq h1, ← atp_eq h2]; exact k j h1
theorem mid_0 : midX f l 0 = l := ext_at mid_len fun j h => by
  rw [mid_len] at h
  rw [mid_at' h, if_neg (Nat.not_lt_zero _)]
theorem at_set {a : List α} {j k : Nat} {y : α} (h : k < a.length) : at' (a.set j y) k = if j = k then y else at' a k := by
  rw [atp_eq (by rw [List.length_set]; exact h), List.getElem_set]
  split
  · rfl
  · rw [atp_eq h]
theorem mid_set (h : i < l.length) : (midX f l i).set i (f i) = midX f l (i + 1) := ext_at (by rw [List.length_set, mid_len, mid_len]) fun j hj => by
  rw [List.length_set, mid_len] at hj
  rw [at_set (by rw [mid_len]; exact hj), mid_at' hj, mid_at' hj]
  by_cases e : i = j
  · subst e; rw [if_pos rfl, if_pos (by omega)]
  · rw [if_neg e]
    by_cases e2 : j < i
    · rw [if_pos e2, if_pos (by omega)]
    · rw [if_neg e2, if_neg (by omega)]
theorem mid_end (h : ¬ i < l.length) : midX f l i = rgX f l.length := ext_at (by rw [mid_len, rg_len]) fun j hj => by
  rw [mid_len] at hj
  rw [mid_at' hj, rg_at hj, if_pos (by omega)]
end
def sumL {α : Type} (f : α → Nat) (l : List α) : Nat := (l.map f).sum
theorem sum_stp {α : Type} [Inhabited α] {f : α → Nat} {l : List α} {i : Nat} (h : i < l.length) : sumL f (l.take (i + 1)) = sumL f (l.take i) + f (at' l i) := by
  rw [List.take_succ_eq_append_getElem h, ← atp_eq h]
  unfold sumL
  rw [List.map_append, List.sum_append]; simp
theorem sum_le {α : Type} (f : α → Nat) : ∀ (l : List α) (i : Nat), sumL f (l.take i) ≤ sumL f l
  | [], i => by simp [sumL]
  | x :: l, 0 => Nat.zero_le _
  | x :: l, i + 1 => by
    have := sum_le f l i
    show f x + sumL f (l.take i) ≤ f x + sumL f l
    omega
def szF (n : Nat) (l : Int) : Int := if (n : Int) ≤ l then l - n else -1
theorem sz_y {n : Nat} {l : Int} (h : (n : Int) ≤ l) : szF n l = l - n := if_pos h
theorem sz_n {n : Nat} {l : Int} (h : ¬ (n : Int) ≤ l) : szF n l = -1 := if_neg h
theorem sz_neg {n : Nat} {l : Int} (h : szF n l < 0) (h0 : 0 ≤ l) : l < n := by unfold szF at h; split at h <;> omega
theorem sz_pos {n : Nat} {l : Int} (h : 0 ≤ szF n l) : (n : Int) ≤ l := by unfold szF at h; split at h <;> omega
def tS (ps : Pg) : Nat := ps.length + sumL ByteArray.size ps
def tW (ws : List Sn) : Nat := ws.length + sumL (fun x : Sn => x.2.2.length) ws
def mtX (k : Int) : ByteArray := mtext k.toNat
def mkI (n : Nat) (k : Int) : List Int := rgX (fun j : Nat => k + (j : Int)) n
def mkS (n : Nat) (k : Int) : Pg := rgX (fun j : Nat => mtX (k + (j : Int))) n
def preW (ws : List Sn) (i : Nat) : Nat := 2 * i + sumL (fun x : Sn => x.2.2.length) (ws.take i)
theorem preW_stp {ws : List Sn} {i : Nat} (h : i < ws.length) : preW ws (i + 1) = preW ws i + 2 + (at' ws i).2.2.length := by unfold preW; rw [sum_stp h]; omega
theorem preW_le (ws : List Sn) {i : Nat} (h : i ≤ ws.length) : preW ws i ≤ preW ws ws.length := by
  have := sum_le (fun x : Sn => x.2.2.length) ws i
  unfold preW
  rw [List.take_length]; omega
def mkW (ws : List Sn) (k : Int) : List Sn := rgX (fun j : Nat => (k + (preW ws j : Int), k + (preW ws j : Int) + 1, mkI (at' ws j).2.2.length (k + (preW ws j : Int) + 1 + 1))) ws.length
theorem old_con {f : FuncId} {k : Int} {v : Value} (hf : FnOk Tryz.prog f) (hone : v.oneCell' = true) (h : ∀ w, Calls Tryz.prog f #[.int .i64 k] w fun e w' => e = .returned v ∧ Ex w w') : Con0 Tryz.prog f [I k] (.one (.v v)) [] := ⟨hf, fun w vs hv b => by
  obtain ⟨u, rfl, hu⟩ : ∃ u, vs = [u] ∧ u = .int .i64 k := by
    cases hv with
    | cons h1 h2 => cases h2; exact ⟨_, rfl, h1.1⟩
  subst hu
  refine (h w).mono fun e w' hq => ?_
  obtain ⟨rfl, hx⟩ := hq
  exact ⟨v, fun _ => undef, rfl, ⟨rfl, hone⟩, rfl, rfl, .nil, [], .nil, (St.start w).grow hx⟩⟩
theorem c_markText {k : Int} (h0 : 0 < k := by omega) (h1 : k ≤ 4611686018427387904 := by omega) : Con0 Tryz.prog 109 [I k] (.one (.v (.string (mtX k)))) [] := old_con ⟨_, Tryz.func109, by kernel_rfl, rfl⟩ rfl fun w => by
  have := markText_any k.toNat w (by omega) (by omega)
  rwa [Int.toNat_of_nonneg (by omega)] at this
set_option maxHeartbeats 4000000 in
theorem c_laws_szIntS {xs : List Int} (hl_xs : xs.length ≤ 9223372036854775807 := by first | with_reducible assumption | omega | (simp only [rg_len, List.length_map]; omega)) {left : Int} (h0 : 0 ≤ left := by omega) (h1 : left ≤ 1048576 := by omega) : Con0 Tryz.prog 69 [.one (.sl 1 (xs.map intE)), I left] (I (szF xs.length left)) [] := by
  refine con_i Tryz.func69 Tryz.ntmps69 (t := [(0, .one (.sl 1 (xs.map intE))), (1, I left)]) rfl ?_
  refine vc_sr ?_
  refine vo ?_
  refine vnt ?_
  refine vc_sr ?_
  iterate 3 refine vo ?_
  try first | refine vlb ?_ | refine vln ?_
  refine vo ?_
  try refine vwr ?_
  refine vo ?_
  refine vnt ?_
  refine vc_seq' ?_
  refine vc_sr ?_
  iterate 2 refine vo ?_
  refine vnt ?_
  refine vc_if (fun g1 => ?_) (fun g1 => ?_)
  · refine vc_sr ?_
    refine vo ?_
    refine vnt ?_
    refine vc_ret ?_
    refine thn_r ?_
    have hh : szF (xs.length) left = -1 := sz_n (by omega)
    rw [hh]
    refine fin_i [] rfl (fz ?_) (fz ?_) <;> first | trivial | rfl | omega
  · refine vc_skip ?_
    refine thn ?_
    refine vc_sr ?_
    iterate 2 refine vo ?_
    refine vnt ?_
    refine vc_ret ?_
    have hh : szF (xs.length) left = left - (xs.length : Nat) := sz_y (by omega)
    rw [hh]
    refine fin_i [] rfl (fz ?_) (fz ?_) <;> first | trivial | rfl | omega
set_option maxHeartbeats 4000000 in
theorem c_laws_szMappingS {xs : List Mp} (hl_xs : xs.length ≤ 9223372036854775807 := by first | with_reducible assumption | omega | (simp only [rg_len, List.length_map]; omega)) {left : Int} (h0 : 0 ≤ left := by omega) (h1 : left ≤ 1048576 := by omega) : Con0 Tryz.prog 4 [.one (.sl 4 (xs.map mpE)), I left] (I (szF xs.length left)) [] := by
  refine con_i Tryz.func4 Tryz.ntmps4 (t := [(0, .one (.sl 4 (xs.map mpE))), (1, I left)]) rfl ?_
  refine vc_sr ?_
  refine vo ?_
  refine vnt ?_
  refine vc_sr ?_
  iterate 3 refine vo ?_
  try first | refine vlb ?_ | refine vln ?_
  refine vo ?_
  try refine vwr ?_
  refine vo ?_
  refine vnt ?_
  refine vc_seq' ?_
  refine vc_sr ?_
  iterate 2 refine vo ?_
  refine vnt ?_
  refine vc_if (fun g1 => ?_) (fun g1 => ?_)
  · refine vc_sr ?_
    refine vo ?_
    refine vnt ?_
    refine vc_ret ?_
    refine thn_r ?_
    have hh : szF (xs.length) left = -1 := sz_n (by omega)
    rw [hh]
    refine fin_i [] rfl (fz ?_) (fz ?_) <;> first | trivial | rfl | omega
  · refine vc_skip ?_
    refine thn ?_
    refine vc_sr ?_
    iterate 2 refine vo ?_
    refine vnt ?_
    refine vc_ret ?_
    have hh : szF (xs.length) left = left - (xs.length : Nat) := sz_y (by omega)
    rw [hh]
    refine fin_i [] rfl (fz ?_) (fz ?_) <;> first | trivial | rfl | omega
theorem szdef_ps (ps : Pg) : tS ps = ps.length + sumL ByteArray.size ps := rfl
set_option maxHeartbeats 4000000 in
theorem c_laws_szStringS {ps : Pg} (hl_ps : ps.length ≤ 9223372036854775807 := by first | with_reducible assumption | omega) (hz : ∀ p ∈ ps, p.size ≤ 9223372036854775807 := by with_reducible assumption) {left : Int} (h0 : 0 ≤ left := by omega) (h1 : left ≤ 1048576 := by omega) : Con0 Tryz.prog 22 [.one (.sl 1 (ps.map strE)), I left] (I (szF (tS ps) left)) [] := by
  refine con_i Tryz.func22 Tryz.ntmps22 (t := [(0, .one (.sl 1 (ps.map strE))), (1, I left)]) rfl ?_
  refine vc_sr ?_
  refine vo ?_
  refine vnt ?_
  refine vc_sr ?_
  iterate 3 refine vo ?_
  try first | refine vlb ?_ | refine vln ?_
  refine vo ?_
  try refine vwr ?_
  refine vo ?_
  refine vnt ?_
  refine vc_seq' ?_
  refine vc_sr ?_
  iterate 2 refine vo ?_
  refine vnt ?_
  refine vc_if (fun g1 => ?_) (fun g1 => ?_)
  · refine vc_sr ?_
    refine vo ?_
    refine vnt ?_
    refine vc_ret ?_
    refine thn_r ?_
    have hdf := szdef_ps ps
    have hh : szF (tS ps) left = -1 := sz_n (by omega)
    rw [hh]
    refine fin_i [] rfl (fz ?_) (fz ?_) <;> first | trivial | rfl | omega
  · refine vc_skip ?_
    refine thn ?_
    refine vc_seq' ?_
    refine vc_sr ?_
    refine vo ?_
    refine vnt ?_
    refine vc_block ?_
    refine vc_lp (σ := Nat) [0] [] (fun i => [(1, I (left - ps.length - sumL ByteArray.size (ps.take i))), (5, I (i : Nat))]) (fun i => []) (fun i => i ≤ ps.length ∧ (ps.length : Int) + sumL ByteArray.size (ps.take i) ≤ left) (fun i => ps.length - i) 0 rfl rfl (sub_i [] (fz ?_) (fz ?_)) ?_ fun i hI => ?_
    · first | trivial | rfl | exact ⟨rfl, by show _ = left - _ - ((0 : Nat) : Int); omega⟩ | exact ⟨by show left - _ - ((0 : Nat) : Int) = _; omega, rfl⟩ | (show left - _ - ((0 : Nat) : Int) = _; omega) | trace_state
    · first | trivial | rfl
    · exact ⟨Nat.zero_le _, by show (ps.length : Int) + (0 : Nat) ≤ left; omega⟩
    refine vc_nf rfl rfl ?_
    refine vc_seq' ?_
    refine vc_sr ?_
    iterate 3 refine vo ?_
    try first | refine vlb ?_ | refine vln ?_
    refine vo ?_
    refine vnt ?_
    refine vc_if (fun g2 => ?_) (fun g2 => ?_)
    · have hst := sum_stp (f := ByteArray.size) (l := ps) (i := i) (by omega)
      have hsl := sum_le ByteArray.size ps (i + 1)
      have hdef : tS ps = ps.length + sumL ByteArray.size ps := rfl
      have hzi := hz _ (atp_mem (show i < ps.length by omega))
      refine vc_skip ?_
      refine thn ?_
      refine vc_seq' ?_
      refine vc_block ?_
      refine vc_sr ?_
      iterate 4 refine vo ?_
      try with_reducible (first | refine vep ?_ | refine vpt ?_)
      iterate 3 refine vo ?_
      try refine vwr ?_
      refine vo ?_
      refine vnt ?_
      refine vc_sr ?_
      iterate 2 refine vo ?_
      refine vnt ?_
      refine vc_if (fun g3 => ?_) (fun g3 => ?_)
      · refine vc_sr ?_
        refine vo ?_
        refine vnt ?_
        refine vc_ret ?_
        refine inB_r ?_
        refine thn_r ?_
        refine thn_r ?_
        refine inB_r ?_
        refine thn_r ?_
        have hh : szF (tS ps) left = -1 := sz_n (by omega)
        rw [hh]
        refine fin_i [] rfl (fz ?_) (fz ?_) <;> first | trivial | rfl | omega
      · refine vc_skip ?_
        refine inB_n ?_
        refine thn ?_
        refine vc_region ?_
        iterate 2 refine vo ?_
        try refine vwr ?_
        refine vo ?_
        refine vnt ?_
        refine ⟨i + 1, ?_, ?_, sub_i [] (fz ?_) (fz ?_)⟩
        · exact ⟨by omega, by omega⟩
        · omega
        all_goals first | trivial | rfl | omega | exact ⟨by omega, rfl⟩ | exact ⟨rfl, by omega⟩ | exact ⟨by omega, by omega⟩ | trace_state
    · have hlst : i = ps.length := by omega
      subst hlst
      have hI2 := hI.2
      rw [List.take_length] at hI2
      have hdef : tS ps = ps.length + sumL ByteArray.size ps := rfl
      refine vc_exit ?_
      refine thn_x ?_
      refine thn_x ?_
      refine inB_x ?_
      refine thn ?_
      refine vc_sr ?_
      iterate 2 refine vo ?_
      refine vnt ?_
      refine vc_ret ?_
      have hh : szF (tS ps) left = left - (tS ps : Nat) := sz_y (by omega)
      rw [hh]
      rw [List.take_length]
      refine fin_i [] rfl (fz ?_) (fz ?_) <;> first | trivial | rfl | omega
theorem szdef_ws (ws : List Sn) : tW ws = ws.length + sumL (fun x : Sn => x.2.2.length) ws := rfl
set_option maxHeartbeats 4000000 in
theorem c_laws_szSent {c s : Int} {xs : List Int} (hl_xs : xs.length ≤ 9223372036854775807 := by first | with_reducible assumption | omega | (simp only [rg_len, List.length_map]; omega)) {left : Int} (h0 : 0 ≤ left := by omega) (h1 : left ≤ 1048576 := by omega) : Con0 Tryz.prog 70 [.agg [V c, V s, .sl 1 (xs.map intE)], I left] (I (szF xs.length left)) [] := by
  refine con_i Tryz.func70 Tryz.ntmps70 (t := [(0, .agg [V c, V s, .sl 1 (xs.map intE)]), (1, I left)]) rfl ?_
  refine vc_sr ?_
  iterate 2 refine vo ?_
  refine vnt ?_
  refine vc_sr ?_
  iterate 3 refine vo ?_
  refine voc c_laws_szIntS rfl rfl ?_
  refine vo ?_
  refine vnt ?_
  refine vc_seq' ?_
  refine vc_sr ?_
  iterate 2 refine vo ?_
  refine vnt ?_
  refine vc_if (fun g1 => ?_) (fun g1 => ?_)
  · refine vc_sr ?_
    refine vo ?_
    refine vnt ?_
    refine vc_ret ?_
    refine thn_r ?_
    have hh : szF xs.length left = -1 := sz_n (by have := sz_neg g1 h0; omega)
    rw [hh]
    refine fin_i [] rfl (fz ?_) (fz ?_) <;> first | trivial | rfl
  · refine vc_skip ?_
    refine thn ?_
    refine vc_sr ?_
    iterate 2 refine vo ?_
    refine vnt ?_
    refine vc_ret ?_
    refine fin_i [] rfl (fz ?_) (fz ?_) <;> first | trivial | rfl
set_option maxHeartbeats 4000000 in
theorem c_laws_szSentS {ws : List Sn} (hl_ws : ws.length ≤ 9223372036854775807 := by first | with_reducible assumption | omega) (hb : ∀ x ∈ ws, x.2.2.length ≤ 9223372036854775807 := by with_reducible assumption) {left : Int} (h0 : 0 ≤ left := by omega) (h1 : left ≤ 1048576 := by omega) : Con0 Tryz.prog 24 [.one (.rd (snQ (ws.map snE))), I left] (I (szF (tW ws) left)) [] := by
  refine con_i Tryz.func24 Tryz.ntmps24 (t := [(0, .one (.rd (snQ (ws.map snE)))), (1, I left)]) rfl ?_
  refine vc_sr ?_
  refine vo ?_
  refine vnt ?_
  refine vc_sr ?_
  iterate 2 refine vo ?_
  first | (refine vql ?_; refine vlnS ?_) | refine vo ?_
  try first | refine vlb ?_ | refine vln ?_
  refine vo ?_
  try refine vwr ?_
  refine vo ?_
  refine vnt ?_
  refine vc_seq' ?_
  refine vc_sr ?_
  iterate 2 refine vo ?_
  refine vnt ?_
  refine vc_if (fun g1 => ?_) (fun g1 => ?_)
  · refine vc_sr ?_
    refine vo ?_
    refine vnt ?_
    refine vc_ret ?_
    refine thn_r ?_
    have hdf := szdef_ws ws
    have hh : szF (tW ws) left = -1 := sz_n (by omega)
    rw [hh]
    refine fin_i [] rfl (fz ?_) (fz ?_) <;> first | trivial | rfl | omega
  · refine vc_skip ?_
    refine thn ?_
    refine vc_seq' ?_
    refine vc_sr ?_
    refine vo ?_
    refine vnt ?_
    refine vc_block ?_
    refine vc_lp (σ := Nat) [0] [] (fun i => [(1, I (left - ws.length - sumL (fun x : Sn => x.2.2.length) (ws.take i))), (5, I (i : Nat))]) (fun i => []) (fun i => i ≤ ws.length ∧ (ws.length : Int) + sumL (fun x : Sn => x.2.2.length) (ws.take i) ≤ left) (fun i => ws.length - i) 0 rfl rfl (sub_i [] (fz ?_) (fz ?_)) ?_ fun i hI => ?_
    · first | trivial | rfl | exact ⟨rfl, by show _ = left - _ - ((0 : Nat) : Int); omega⟩ | exact ⟨by show left - _ - ((0 : Nat) : Int) = _; omega, rfl⟩ | (show left - _ - ((0 : Nat) : Int) = _; omega) | trace_state
    · first | trivial | rfl
    · exact ⟨Nat.zero_le _, by show (ws.length : Int) + (0 : Nat) ≤ left; omega⟩
    refine vc_nf rfl rfl ?_
    refine vc_seq' ?_
    refine vc_sr ?_
    iterate 2 refine vo ?_
    first | (refine vql ?_; refine vlnS ?_) | refine vo ?_
    try first | refine vlb ?_ | refine vln ?_
    refine vo ?_
    refine vnt ?_
    refine vc_if (fun g2 => ?_) (fun g2 => ?_)
    · have hst := sum_stp (f := (fun x : Sn => x.2.2.length)) (l := ws) (i := i) (by omega)
      have hsl := sum_le (fun x : Sn => x.2.2.length) ws (i + 1)
      have hdef : tW ws = ws.length + sumL (fun x : Sn => x.2.2.length) ws := rfl
      have hbi := hb _ (atp_mem (show i < ws.length by omega))
      refine vc_skip ?_
      refine thn ?_
      refine vc_seq' ?_
      refine vc_block ?_
      refine vc_sr ?_
      iterate 2 refine vo ?_
      refine vqx ?_
      refine vepS ?_
      try with_reducible (first | refine vep ?_ | refine vpt ?_)
      refine vqd ?_
      refine vo ?_
      refine voc (c_laws_szSent (c := (at' ws i).1) (s := (at' ws i).2.1) (xs := (at' ws i).2.2) (hl_xs := hbi)) rfl rfl ?_
      refine vo ?_
      refine vnt ?_
      refine vc_sr ?_
      iterate 2 refine vo ?_
      refine vnt ?_
      refine vc_if (fun g3 => ?_) (fun g3 => ?_)
      · refine vc_sr ?_
        refine vo ?_
        refine vnt ?_
        refine vc_ret ?_
        refine inB_r ?_
        refine thn_r ?_
        refine thn_r ?_
        refine inB_r ?_
        refine thn_r ?_
        have hng := sz_neg g3 (by omega)
        have hh : szF (tW ws) left = -1 := sz_n (by omega)
        rw [hh]
        refine fin_i [] rfl (fz ?_) (fz ?_) <;> first | trivial | rfl | omega
      · have hps := sz_pos g3
        have hsz3 := sz_y hps
        refine vc_skip ?_
        refine inB_n ?_
        refine thn ?_
        refine vc_region ?_
        iterate 2 refine vo ?_
        try refine vwr ?_
        refine vo ?_
        refine vnt ?_
        refine ⟨i + 1, ?_, ?_, sub_i [] (fz ?_) (fz ?_)⟩
        · exact ⟨by omega, by omega⟩
        · omega
        · first | exact ⟨rfl, by rw [hsz3]; omega⟩ | exact ⟨by rw [hsz3]; omega, rfl⟩ | (rw [hsz3]; omega) | trace_state
        · first | trivial | rfl
    · have hlst : i = ws.length := by omega
      subst hlst
      have hI2 := hI.2
      rw [List.take_length] at hI2
      have hdef : tW ws = ws.length + sumL (fun x : Sn => x.2.2.length) ws := rfl
      refine vc_exit ?_
      refine thn_x ?_
      refine thn_x ?_
      refine inB_x ?_
      refine thn ?_
      refine vc_sr ?_
      iterate 2 refine vo ?_
      refine vnt ?_
      refine vc_ret ?_
      have hh : szF (tW ws) left = left - (tW ws : Nat) := sz_y (by omega)
      rw [hh]
      rw [List.take_length]
      refine fin_i [] rfl (fz ?_) (fz ?_) <;> first | trivial | rfl | omega
set_option maxHeartbeats 4000000 in
theorem c_laws_szMemory {ps : Pg} (hl_ps : ps.length ≤ 9223372036854775807 := by first | with_reducible assumption | omega | (simp only [rg_len, List.length_map]; omega)) (hz : ∀ p ∈ ps, p.size ≤ 9223372036854775807 := by with_reducible assumption) {left : Int} (h0 : 0 ≤ left := by omega) (h1 : left ≤ 1048576 := by omega) : Con0 Tryz.prog 5 [.agg [.sl 1 (ps.map strE)], I left] (I (szF (tS ps) left)) [] := by
  refine con_i Tryz.func5 Tryz.ntmps5 (t := [(0, .agg [.sl 1 (ps.map strE)]), (1, I left)]) rfl ?_
  refine vc_sr ?_
  iterate 2 refine vo ?_
  refine vnt ?_
  refine vc_sr ?_
  iterate 3 refine vo ?_
  refine voc (c_laws_szStringS (ps := ps)) rfl rfl ?_
  refine vo ?_
  refine vnt ?_
  refine vc_seq' ?_
  refine vc_sr ?_
  iterate 2 refine vo ?_
  refine vnt ?_
  refine vc_if (fun g1 => ?_) (fun g1 => ?_)
  · refine vc_sr ?_
    refine vo ?_
    refine vnt ?_
    refine vc_ret ?_
    refine thn_r ?_
    have hh : szF (tS ps) left = -1 := sz_n (by have := sz_neg g1 h0; omega)
    rw [hh]
    refine fin_i [] rfl (fz ?_) (fz ?_) <;> first | trivial | rfl
  · refine vc_skip ?_
    refine thn ?_
    refine vc_sr ?_
    iterate 2 refine vo ?_
    refine vnt ?_
    refine vc_ret ?_
    refine fin_i [] rfl (fz ?_) (fz ?_) <;> first | trivial | rfl
set_option maxHeartbeats 4000000 in
theorem c_laws_szPool {pb pz pc : Int} {fr : List Int} (hl_fr : fr.length ≤ 9223372036854775807 := by first | with_reducible assumption | omega | (simp only [rg_len, List.length_map]; omega)) {left : Int} (h0 : 0 ≤ left := by omega) (h1 : left ≤ 1048576 := by omega) : Con0 Tryz.prog 23 [.agg [V pb, V pz, V pc, .sl 1 (fr.map intE)], I left] (I (szF fr.length left)) [] := by
  refine con_i Tryz.func23 Tryz.ntmps23 (t := [(0, .agg [V pb, V pz, V pc, .sl 1 (fr.map intE)]), (1, I left)]) rfl ?_
  refine vc_sr ?_
  iterate 2 refine vo ?_
  refine vnt ?_
  refine vc_sr ?_
  iterate 3 refine vo ?_
  refine voc (c_laws_szIntS (xs := fr)) rfl rfl ?_
  refine vo ?_
  refine vnt ?_
  refine vc_seq' ?_
  refine vc_sr ?_
  iterate 2 refine vo ?_
  refine vnt ?_
  refine vc_if (fun g1 => ?_) (fun g1 => ?_)
  · refine vc_sr ?_
    refine vo ?_
    refine vnt ?_
    refine vc_ret ?_
    refine thn_r ?_
    have hh : szF fr.length left = -1 := sz_n (by have := sz_neg g1 h0; omega)
    rw [hh]
    refine fin_i [] rfl (fz ?_) (fz ?_) <;> first | trivial | rfl
  · refine vc_skip ?_
    refine thn ?_
    refine vc_sr ?_
    iterate 2 refine vo ?_
    refine vnt ?_
    refine vc_ret ?_
    refine fin_i [] rfl (fz ?_) (fz ?_) <;> first | trivial | rfl
set_option maxHeartbeats 4000000 in
theorem c_laws_szTxQueue {b s h t pb pz pc nx : Int} {fr : List Int} {ws : List Sn} (hl_fr : fr.length ≤ 9223372036854775807 := by first | with_reducible assumption | omega | (simp only [rg_len, List.length_map]; omega)) (hl_ws : ws.length ≤ 9223372036854775807 := by first | with_reducible assumption | omega | (simp only [rg_len, List.length_map]; omega)) (hb : ∀ x ∈ ws, x.2.2.length ≤ 9223372036854775807 := by with_reducible assumption) {left : Int} (h0 : 0 ≤ left := by omega) (h1 : left ≤ 1048576 := by omega) : Con0 Tryz.prog 6 [.agg [V b, V s, V h, V t, V pb, V pz, V pc, .sl 1 (fr.map intE), .rd (snQ (ws.map snE)), V nx], I left] (I (szF (fr.length + tW ws) left)) [] := by
  refine con_i Tryz.func6 Tryz.ntmps6 (t := [(0, .agg [V b, V s, V h, V t, V pb, V pz, V pc, .sl 1 (fr.map intE), .rd (snQ (ws.map snE)), V nx]), (1, I left)]) rfl ?_
  refine vc_sr ?_
  iterate 2 refine vo ?_
  refine vnt ?_
  refine vc_sr ?_
  iterate 3 refine vo ?_
  refine voc (c_laws_szPool (fr := fr)) rfl rfl ?_
  refine vo ?_
  refine vnt ?_
  refine vc_seq' ?_
  refine vc_sr ?_
  iterate 2 refine vo ?_
  refine vnt ?_
  refine vc_if (fun g1 => ?_) (fun g1 => ?_)
  · refine vc_sr ?_
    refine vo ?_
    refine vnt ?_
    refine vc_ret ?_
    refine thn_r ?_
    have hh : szF (fr.length + tW ws) left = -1 := sz_n (by have := sz_neg g1 h0; omega)
    rw [hh]
    refine fin_i [] rfl (fz ?_) (fz ?_) <;> first | trivial | rfl | omega
  · have hps := sz_pos (show 0 ≤ szF fr.length left by omega)
    have hsz := sz_y hps
    refine vc_skip ?_
    refine thn ?_
    refine vc_sr ?_
    iterate 3 refine vo ?_
    refine voc (c_laws_szSentS (ws := ws) (left := szF fr.length left)) rfl rfl ?_
    refine vo ?_
    refine vnt ?_
    refine vc_seq' ?_
    refine vc_sr ?_
    iterate 2 refine vo ?_
    refine vnt ?_
    refine vc_if (fun g2 => ?_) (fun g2 => ?_)
    · refine vc_sr ?_
      refine vo ?_
      refine vnt ?_
      refine vc_ret ?_
      refine thn_r ?_
      have hng := sz_neg g2 (by omega)
      have hh : szF (fr.length + tW ws) left = -1 := sz_n (by omega)
      rw [hh]
      refine fin_i [] rfl (fz ?_) (fz ?_) <;> first | trivial | rfl | omega
    · refine vc_skip ?_
      refine thn ?_
      refine vc_sr ?_
      iterate 2 refine vo ?_
      refine vnt ?_
      refine vc_ret ?_
      have hpz := sz_pos (show 0 ≤ szF (tW ws) (szF fr.length left) by omega)
      have hz2 := sz_y hpz
      have hh : szF (fr.length + tW ws) left = szF (tW ws) (szF fr.length left) := by rw [hz2, sz_y (by omega)]; omega
      rw [hh]
      refine fin_i [] rfl (fz ?_) (fz ?_) <;> first | trivial | rfl
set_option maxHeartbeats 4000000 in
theorem c_laws_eqIntS {xs : List Int} (hl_xs : xs.length ≤ 1099511627776 := by first | with_reducible assumption | omega | (simp only [rg_len]; omega)) : Con0 Tryz.prog 107 [.one (.sl 1 (xs.map intE)), .one (.sl 1 (xs.map intE))] (B true) [] := by
  refine con_i Tryz.func107 Tryz.ntmps107 (t := [(0, .one (.sl 1 (xs.map intE))), (1, .one (.sl 1 (xs.map intE)))]) rfl ?_
  refine vc_sr ?_
  refine vo ?_
  refine vnt ?_
  refine vc_seq' ?_
  refine vc_sr ?_
  iterate 2 refine vo ?_
  try first | refine vlb ?_ | refine vln ?_
  iterate 2 refine vo ?_
  try first | refine vlb ?_ | refine vln ?_
  refine vo ?_
  refine vnt ?_
  refine vc_if (fun g1 => ?_) (fun g1 => ?_)
  · exact absurd g1 (by simp)
  · refine vc_skip ?_
    refine thn ?_
    refine vc_seq' ?_
    refine vc_sr ?_
    refine vo ?_
    refine vnt ?_
    refine vc_block ?_
    refine vc_lp (σ := Nat) [0, 1] [] (fun i => [(5, I (i : Nat))]) (fun i => []) (fun i => i ≤ xs.length) (fun i => xs.length - i) 0 rfl rfl (sub_i [] (fz ?_) (fz ?_)) ?_ fun i hI => ?_
    · first | trivial | simp
    · first | trivial | simp
    · omega
    refine vc_nf rfl rfl ?_
    refine vc_seq' ?_
    refine vc_sr ?_
    iterate 3 refine vo ?_
    try first | refine vlb ?_ | refine vln ?_
    refine vo ?_
    refine vnt ?_
    refine vc_if (fun g2 => ?_) (fun g2 => ?_)
    · refine vc_skip ?_
      refine thn ?_
      refine vc_seq' ?_
      refine vc_block ?_
      refine vc_sr ?_
      iterate 3 refine vo ?_
      try with_reducible (first | refine vep ?_ | refine vpt ?_)
      iterate 4 refine vo ?_
      try with_reducible (first | refine vep ?_ | refine vpt ?_)
      iterate 2 refine vo ?_
      refine vnt ?_
      refine vc_if (fun g3 => ?_) (fun g3 => ?_)
      · exact absurd g3 (by simp)
      · refine vc_skip ?_
        refine inB_n ?_
        refine thn ?_
        refine vc_region ?_
        iterate 2 refine vo ?_
        try refine vwr ?_
        refine vo ?_
        refine vnt ?_
        refine ⟨i + 1, ?_, ?_, sub_i [] (fz ?_) (fz ?_)⟩
        · omega
        · omega
        all_goals first | trivial | rfl | omega | simp
    · refine vc_exit ?_
      refine thn_x ?_
      refine thn_x ?_
      refine inB_x ?_
      refine thn ?_
      refine vc_sr ?_
      refine vo ?_
      refine vnt ?_
      refine vc_ret ?_
      refine fin_i [] rfl (fz ?_) (fz ?_) <;> first | trivial | rfl
set_option maxHeartbeats 4000000 in
theorem c_laws_eqStringS {ps : Pg} (hl_ps : ps.length ≤ 1099511627776 := by first | with_reducible assumption | omega | (simp only [rg_len]; omega)) : Con0 Tryz.prog 58 [.one (.sl 1 (ps.map strE)), .one (.sl 1 (ps.map strE))] (B true) [] := by
  refine con_i Tryz.func58 Tryz.ntmps58 (t := [(0, .one (.sl 1 (ps.map strE))), (1, .one (.sl 1 (ps.map strE)))]) rfl ?_
  refine vc_sr ?_
  refine vo ?_
  refine vnt ?_
  refine vc_seq' ?_
  refine vc_sr ?_
  iterate 2 refine vo ?_
  try first | refine vlb ?_ | refine vln ?_
  iterate 2 refine vo ?_
  try first | refine vlb ?_ | refine vln ?_
  refine vo ?_
  refine vnt ?_
  refine vc_if (fun g1 => ?_) (fun g1 => ?_)
  · exact absurd g1 (by simp)
  · refine vc_skip ?_
    refine thn ?_
    refine vc_seq' ?_
    refine vc_sr ?_
    refine vo ?_
    refine vnt ?_
    refine vc_block ?_
    refine vc_lp (σ := Nat) [0, 1] [] (fun i => [(5, I (i : Nat))]) (fun i => []) (fun i => i ≤ ps.length) (fun i => ps.length - i) 0 rfl rfl (sub_i [] (fz ?_) (fz ?_)) ?_ fun i hI => ?_
    · first | trivial | simp
    · first | trivial | simp
    · omega
    refine vc_nf rfl rfl ?_
    refine vc_seq' ?_
    refine vc_sr ?_
    iterate 3 refine vo ?_
    try first | refine vlb ?_ | refine vln ?_
    refine vo ?_
    refine vnt ?_
    refine vc_if (fun g2 => ?_) (fun g2 => ?_)
    · refine vc_skip ?_
      refine thn ?_
      refine vc_seq' ?_
      refine vc_block ?_
      refine vc_sr ?_
      iterate 3 refine vo ?_
      try with_reducible (first | refine vep ?_ | refine vpt ?_)
      iterate 4 refine vo ?_
      try with_reducible (first | refine vep ?_ | refine vpt ?_)
      iterate 2 refine vo ?_
      refine vnt ?_
      refine vc_if (fun g3 => ?_) (fun g3 => ?_)
      · exact absurd g3 (by simp)
      · refine vc_skip ?_
        refine inB_n ?_
        refine thn ?_
        refine vc_region ?_
        iterate 2 refine vo ?_
        try refine vwr ?_
        refine vo ?_
        refine vnt ?_
        refine ⟨i + 1, ?_, ?_, sub_i [] (fz ?_) (fz ?_)⟩
        · omega
        · omega
        all_goals first | trivial | rfl | omega | simp
    · refine vc_exit ?_
      refine thn_x ?_
      refine thn_x ?_
      refine inB_x ?_
      refine thn ?_
      refine vc_sr ?_
      refine vo ?_
      refine vnt ?_
      refine vc_ret ?_
      refine fin_i [] rfl (fz ?_) (fz ?_) <;> first | trivial | rfl
set_option maxHeartbeats 4000000 in
theorem c_laws_eqMapping {x : Mp} : Con0 Tryz.prog 62 [.agg [V x.1, V x.2.1, V x.2.2.1, .v (.bool x.2.2.2)], .agg [V x.1, V x.2.1, V x.2.2.1, .v (.bool x.2.2.2)]] (B true) [] := by
  refine con_i Tryz.func62 Tryz.ntmps62 (t := [(0, .agg [V x.1, V x.2.1, V x.2.2.1, .v (.bool x.2.2.2)]), (1, .agg [V x.1, V x.2.1, V x.2.2.1, .v (.bool x.2.2.2)])]) rfl ?_
  refine vc_sr ?_
  iterate 3 refine vo ?_
  refine vnt ?_
  refine vc_seq' ?_
  refine vc_sr ?_
  iterate 5 refine vo ?_
  refine vnt ?_
  refine vc_if (fun g1 => ?_) (fun g1 => ?_)
  · exact absurd g1 (by simp)
  · refine vc_skip ?_
    refine thn ?_
    refine vc_seq' ?_
    refine vc_sr ?_
    iterate 5 refine vo ?_
    refine vnt ?_
    refine vc_if (fun g2 => ?_) (fun g2 => ?_)
    · exact absurd g2 (by simp)
    · refine vc_skip ?_
      refine thn ?_
      refine vc_seq' ?_
      refine vc_sr ?_
      iterate 5 refine vo ?_
      refine vnt ?_
      refine vc_if (fun g3 => ?_) (fun g3 => ?_)
      · exact absurd g3 (by simp)
      · refine vc_skip ?_
        refine thn ?_
        refine vc_seq' ?_
        refine vc_sr ?_
        iterate 5 refine vo ?_
        refine vnt ?_
        refine vc_if (fun g4 => ?_) (fun g4 => ?_)
        · exact absurd g4 (by simp)
        · refine vc_skip ?_
          refine thn ?_
          refine vc_sr ?_
          refine vo ?_
          refine vnt ?_
          refine vc_ret ?_
          refine fin_i [] rfl (fz ?_) (fz ?_) <;> first | trivial | rfl
set_option maxHeartbeats 4000000 in
theorem c_laws_eqMappingS {xs : List Mp} (hl_xs : xs.length ≤ 1099511627776 := by first | with_reducible assumption | omega | (simp only [rg_len]; omega)) : Con0 Tryz.prog 16 [.one (.sl 4 (xs.map mpE)), .one (.sl 4 (xs.map mpE))] (B true) [] := by
  refine con_i Tryz.func16 Tryz.ntmps16 (t := [(0, .one (.sl 4 (xs.map mpE))), (1, .one (.sl 4 (xs.map mpE)))]) rfl ?_
  refine vc_sr ?_
  refine vo ?_
  refine vnt ?_
  refine vc_seq' ?_
  refine vc_sr ?_
  iterate 2 refine vo ?_
  try first | refine vlb ?_ | refine vln ?_
  iterate 2 refine vo ?_
  try first | refine vlb ?_ | refine vln ?_
  refine vo ?_
  refine vnt ?_
  refine vc_if (fun g1 => ?_) (fun g1 => ?_)
  · exact absurd g1 (by simp)
  · refine vc_skip ?_
    refine thn ?_
    refine vc_seq' ?_
    refine vc_sr ?_
    refine vo ?_
    refine vnt ?_
    refine vc_block ?_
    refine vc_lp (σ := Nat) [0, 1] [] (fun i => [(5, I (i : Nat))]) (fun i => []) (fun i => i ≤ xs.length) (fun i => xs.length - i) 0 rfl rfl (sub_i [] (fz ?_) (fz ?_)) ?_ fun i hI => ?_
    · first | trivial | simp
    · first | trivial | simp
    · omega
    refine vc_nf rfl rfl ?_
    refine vc_seq' ?_
    refine vc_sr ?_
    iterate 3 refine vo ?_
    try first | refine vlb ?_ | refine vln ?_
    refine vo ?_
    refine vnt ?_
    refine vc_if (fun g2 => ?_) (fun g2 => ?_)
    · refine vc_skip ?_
      refine thn ?_
      refine vc_seq' ?_
      refine vc_block ?_
      refine vc_sr ?_
      iterate 3 refine vo ?_
      try with_reducible (first | refine vep ?_ | refine vpt ?_)
      iterate 4 refine vo ?_
      try with_reducible (first | refine vep ?_ | refine vpt ?_)
      refine vo ?_
      refine voc (c_laws_eqMapping (x := at' xs i)) rfl rfl ?_
      refine vo ?_
      refine vnt ?_
      refine vc_if (fun g3 => ?_) (fun g3 => ?_)
      · exact absurd g3 (by simp)
      · refine vc_skip ?_
        refine inB_n ?_
        refine thn ?_
        refine vc_region ?_
        iterate 2 refine vo ?_
        try refine vwr ?_
        refine vo ?_
        refine vnt ?_
        refine ⟨i + 1, ?_, ?_, sub_i [] (fz ?_) (fz ?_)⟩
        · omega
        · omega
        all_goals first | trivial | rfl | omega | simp
    · refine vc_exit ?_
      refine thn_x ?_
      refine thn_x ?_
      refine inB_x ?_
      refine thn ?_
      refine vc_sr ?_
      refine vo ?_
      refine vnt ?_
      refine vc_ret ?_
      refine fin_i [] rfl (fz ?_) (fz ?_) <;> first | trivial | rfl
set_option maxHeartbeats 4000000 in
theorem c_laws_eqPool {pb pz pc : Int} {fr : List Int} (hl_fr : fr.length ≤ 1099511627776 := by first | with_reducible assumption | omega | (simp only [rg_len]; omega)) : Con0 Tryz.prog 60 [.agg [V pb, V pz, V pc, .sl 1 (fr.map intE)], .agg [V pb, V pz, V pc, .sl 1 (fr.map intE)]] (B true) [] := by
  refine con_i Tryz.func60 Tryz.ntmps60 (t := [(0, .agg [V pb, V pz, V pc, .sl 1 (fr.map intE)]), (1, .agg [V pb, V pz, V pc, .sl 1 (fr.map intE)])]) rfl ?_
  refine vc_sr ?_
  iterate 3 refine vo ?_
  refine vnt ?_
  refine vc_seq' ?_
  refine vc_sr ?_
  iterate 5 refine vo ?_
  refine vnt ?_
  refine vc_if (fun g1 => ?_) (fun g1 => ?_)
  · exact absurd g1 (by simp)
  · refine vc_skip ?_
    refine thn ?_
    refine vc_seq' ?_
    refine vc_sr ?_
    iterate 5 refine vo ?_
    refine vnt ?_
    refine vc_if (fun g2 => ?_) (fun g2 => ?_)
    · exact absurd g2 (by simp)
    · refine vc_skip ?_
      refine thn ?_
      refine vc_seq' ?_
      refine vc_sr ?_
      iterate 5 refine vo ?_
      refine vnt ?_
      refine vc_if (fun g3 => ?_) (fun g3 => ?_)
      · exact absurd g3 (by simp)
      · refine vc_skip ?_
        refine thn ?_
        refine vc_seq' ?_
        refine vc_sr ?_
        iterate 4 refine vo ?_
        refine voc (c_laws_eqIntS (xs := fr)) rfl rfl ?_
        refine vo ?_
        refine vnt ?_
        refine vc_if (fun g4 => ?_) (fun g4 => ?_)
        · exact absurd g4 (by simp)
        · refine vc_skip ?_
          refine thn ?_
          refine vc_sr ?_
          refine vo ?_
          refine vnt ?_
          refine vc_ret ?_
          refine fin_i [] rfl (fz ?_) (fz ?_) <;> first | trivial | rfl
set_option maxHeartbeats 4000000 in
theorem c_laws_eqMemory {ps : Pg} (hl_ps : ps.length ≤ 1099511627776 := by first | with_reducible assumption | omega | (simp only [rg_len]; omega)) : Con0 Tryz.prog 14 [.agg [.sl 1 (ps.map strE)], .agg [.sl 1 (ps.map strE)]] (B true) [] := by
  refine con_i Tryz.func14 Tryz.ntmps14 (t := [(0, .agg [.sl 1 (ps.map strE)]), (1, .agg [.sl 1 (ps.map strE)])]) rfl ?_
  refine vc_sr ?_
  iterate 3 refine vo ?_
  refine vnt ?_
  refine vc_seq' ?_
  refine vc_sr ?_
  iterate 4 refine vo ?_
  refine voc (c_laws_eqStringS (ps := ps)) rfl rfl ?_
  refine vo ?_
  refine vnt ?_
  refine vc_if (fun g1 => ?_) (fun g1 => ?_)
  · exact absurd g1 (by simp)
  · refine vc_skip ?_
    refine thn ?_
    refine vc_sr ?_
    refine vo ?_
    refine vnt ?_
    refine vc_ret ?_
    refine fin_i [] rfl (fz ?_) (fz ?_) <;> first | trivial | rfl
set_option maxHeartbeats 4000000 in
theorem c_laws_eqSent {c s : Int} {xs : List Int} (hl_xs : xs.length ≤ 1099511627776 := by first | with_reducible assumption | omega | (simp only [rg_len]; omega)) : Con0 Tryz.prog 108 [.agg [V c, V s, .sl 1 (xs.map intE)], .agg [V c, V s, .sl 1 (xs.map intE)]] (B true) [] := by
  refine con_i Tryz.func108 Tryz.ntmps108 (t := [(0, .agg [V c, V s, .sl 1 (xs.map intE)]), (1, .agg [V c, V s, .sl 1 (xs.map intE)])]) rfl ?_
  refine vc_sr ?_
  iterate 3 refine vo ?_
  refine vnt ?_
  refine vc_seq' ?_
  refine vc_sr ?_
  iterate 5 refine vo ?_
  refine vnt ?_
  refine vc_if (fun g1 => ?_) (fun g1 => ?_)
  · exact absurd g1 (by simp)
  · refine vc_skip ?_
    refine thn ?_
    refine vc_seq' ?_
    refine vc_sr ?_
    iterate 5 refine vo ?_
    refine vnt ?_
    refine vc_if (fun g2 => ?_) (fun g2 => ?_)
    · exact absurd g2 (by simp)
    · refine vc_skip ?_
      refine thn ?_
      refine vc_seq' ?_
      refine vc_sr ?_
      iterate 4 refine vo ?_
      refine voc (c_laws_eqIntS (xs := xs)) rfl rfl ?_
      refine vo ?_
      refine vnt ?_
      refine vc_if (fun g3 => ?_) (fun g3 => ?_)
      · exact absurd g3 (by simp)
      · refine vc_skip ?_
        refine thn ?_
        refine vc_sr ?_
        refine vo ?_
        refine vnt ?_
        refine vc_ret ?_
        refine fin_i [] rfl (fz ?_) (fz ?_) <;> first | trivial | rfl
set_option maxHeartbeats 4000000 in
theorem c_laws_eqSentS {ws : List Sn} (hl_ws : ws.length ≤ 1099511627776 := by first | with_reducible assumption | omega | (simp only [rg_len]; omega)) (hb : ∀ x ∈ ws, x.2.2.length ≤ 1099511627776 := by with_reducible assumption) : Con0 Tryz.prog 61 [.one (.rd (snQ (ws.map snE))), .one (.rd (snQ (ws.map snE)))] (B true) [] := by
  refine con_i Tryz.func61 Tryz.ntmps61 (t := [(0, .one (.rd (snQ (ws.map snE)))), (1, .one (.rd (snQ (ws.map snE))))]) rfl ?_
  refine vc_sr ?_
  refine vo ?_
  refine vnt ?_
  refine vc_seq' ?_
  refine vc_sr ?_
  refine vo ?_
  first | (refine vql ?_; refine vlnS ?_) | refine vo ?_
  try first | refine vlb ?_ | refine vln ?_
  refine vo ?_
  first | (refine vql ?_; refine vlnS ?_) | refine vo ?_
  try first | refine vlb ?_ | refine vln ?_
  refine vo ?_
  refine vnt ?_
  refine vc_if (fun g1 => ?_) (fun g1 => ?_)
  · exact absurd g1 (by simp)
  · refine vc_skip ?_
    refine thn ?_
    refine vc_seq' ?_
    refine vc_sr ?_
    refine vo ?_
    refine vnt ?_
    refine vc_block ?_
    refine vc_lp (σ := Nat) [0, 1] [] (fun i => [(5, I (i : Nat))]) (fun i => []) (fun i => i ≤ ws.length) (fun i => ws.length - i) 0 rfl rfl (sub_i [] (fz ?_) (fz ?_)) ?_ fun i hI => ?_
    · first | trivial | simp
    · first | trivial | simp
    · omega
    refine vc_nf rfl rfl ?_
    refine vc_seq' ?_
    refine vc_sr ?_
    iterate 2 refine vo ?_
    first | (refine vql ?_; refine vlnS ?_) | refine vo ?_
    try first | refine vlb ?_ | refine vln ?_
    refine vo ?_
    refine vnt ?_
    refine vc_if (fun g2 => ?_) (fun g2 => ?_)
    · have hbi := hb _ (atp_mem (show i < ws.length by omega))
      refine vc_skip ?_
      refine thn ?_
      refine vc_seq' ?_
      refine vc_block ?_
      refine vc_sr ?_
      iterate 2 refine vo ?_
      refine vqx ?_
      refine vepS ?_
      try with_reducible (first | refine vep ?_ | refine vpt ?_)
      refine vqd ?_
      iterate 2 refine vo ?_
      refine vqx ?_
      refine vepS ?_
      try with_reducible (first | refine vep ?_ | refine vpt ?_)
      refine vqd ?_
      refine voc (c_laws_eqSent (c := (at' ws i).1) (s := (at' ws i).2.1) (xs := (at' ws i).2.2) (hl_xs := hbi)) rfl rfl ?_
      refine vo ?_
      refine vnt ?_
      refine vc_if (fun g3 => ?_) (fun g3 => ?_)
      · exact absurd g3 (by simp)
      · refine vc_skip ?_
        refine inB_n ?_
        refine thn ?_
        refine vc_region ?_
        iterate 2 refine vo ?_
        try refine vwr ?_
        refine vo ?_
        refine vnt ?_
        refine ⟨i + 1, ?_, ?_, sub_i [] (fz ?_) (fz ?_)⟩
        · omega
        · omega
        all_goals first | trivial | rfl | omega | simp
    · refine vc_exit ?_
      refine thn_x ?_
      refine thn_x ?_
      refine inB_x ?_
      refine thn ?_
      refine vc_sr ?_
      refine vo ?_
      refine vnt ?_
      refine vc_ret ?_
      refine fin_i [] rfl (fz ?_) (fz ?_) <;> first | trivial | rfl
set_option maxHeartbeats 4000000 in
theorem c_laws_eqTxQueue {b s h t pb pz pc nx : Int} {fr : List Int} (hl_fr : fr.length ≤ 1099511627776 := by first | with_reducible assumption | omega | (simp only [rg_len]; omega)) {ws : List Sn} (hl_ws : ws.length ≤ 1099511627776 := by first | with_reducible assumption | omega | (simp only [rg_len]; omega)) (hb : ∀ x ∈ ws, x.2.2.length ≤ 1099511627776 := by with_reducible assumption) : Con0 Tryz.prog 15 [.agg [V b, V s, V h, V t, V pb, V pz, V pc, .sl 1 (fr.map intE), .rd (snQ (ws.map snE)), V nx], .agg [V b, V s, V h, V t, V pb, V pz, V pc, .sl 1 (fr.map intE), .rd (snQ (ws.map snE)), V nx]] (B true) [] := by
  refine con_i Tryz.func15 Tryz.ntmps15 (t := [(0, .agg [V b, V s, V h, V t, V pb, V pz, V pc, .sl 1 (fr.map intE), .rd (snQ (ws.map snE)), V nx]), (1, .agg [V b, V s, V h, V t, V pb, V pz, V pc, .sl 1 (fr.map intE), .rd (snQ (ws.map snE)), V nx])]) rfl ?_
  refine vc_sr ?_
  iterate 3 refine vo ?_
  refine vnt ?_
  refine vc_seq' ?_
  refine vc_sr ?_
  iterate 4 refine vo ?_
  refine voc c_laws_eqRing rfl rfl ?_
  refine vo ?_
  refine vnt ?_
  refine vc_if (fun g1 => ?_) (fun g1 => ?_)
  · exact absurd g1 (by simp)
  · refine vc_skip ?_
    refine thn ?_
    refine vc_seq' ?_
    refine vc_sr ?_
    iterate 4 refine vo ?_
    refine voc (c_laws_eqPool (fr := fr)) rfl rfl ?_
    refine vo ?_
    refine vnt ?_
    refine vc_if (fun g2 => ?_) (fun g2 => ?_)
    · exact absurd g2 (by simp)
    · refine vc_skip ?_
      refine thn ?_
      refine vc_seq' ?_
      refine vc_sr ?_
      iterate 4 refine vo ?_
      refine voc (c_laws_eqSentS (ws := ws)) rfl rfl ?_
      refine vo ?_
      refine vnt ?_
      refine vc_if (fun g3 => ?_) (fun g3 => ?_)
      · exact absurd g3 (by simp)
      · refine vc_skip ?_
        refine thn ?_
        refine vc_seq' ?_
        refine vc_sr ?_
        iterate 5 refine vo ?_
        refine vnt ?_
        refine vc_if (fun g4 => ?_) (fun g4 => ?_)
        · exact absurd g4 (by simp)
        · refine vc_skip ?_
          refine thn ?_
          refine vc_sr ?_
          refine vo ?_
          refine vnt ?_
          refine vc_ret ?_
          refine fin_i [] rfl (fz ?_) (fz ?_) <;> first | trivial | rfl
set_option maxHeartbeats 4000000 in
theorem c_laws_toIntS {xs : List Int} (hl_xs : xs.length ≤ 1099511627776 := by first | with_reducible assumption | omega | (simp only [rg_len]; omega)) : Con0 Tryz.prog 85 [.one (.sl 1 (xs.map intE))] (.one (.hs 0)) [(0, .arr 3 1 (xs.map intE))] := by
  refine con_i Tryz.func85 Tryz.ntmps85 (t := [(0, .one (.sl 1 (xs.map intE)))]) rfl ?_
  refine vc_sr ?_
  refine vo ?_
  refine vnt ?_
  refine vc_sr ?_
  iterate 2 refine vo ?_
  try first | refine vlb ?_ | refine vln ?_
  iterate 2 refine vo ?_
  refine vnt ?_
  refine vc_seq' ?_
  refine vc_sr ?_
  refine vo ?_
  refine vnt ?_
  refine vc_block ?_
  refine vc_lp (σ := Nat) [0, 3] [] (fun i => [(4, I (i : Nat))]) (fun i => [(56, .arr 3 1 ((midX (at' xs) (List.replicate xs.length (0 : Int)) i).map intE))]) (fun i => i ≤ xs.length) (fun i => xs.length - i) 0 rfl rfl (sub_i [(56, some 56)] (fz ?_) (fz ?_)) ?_ fun i hI => ?_
  · first | trivial | rfl
  · rw [mid_0, List.map_replicate]; rfl
  · exact Nat.zero_le _
  refine vc_nf rfl rfl ?_
  have hml : (midX (at' xs) (List.replicate xs.length (0 : Int)) i).length = xs.length := by rw [mid_len, List.length_replicate]
  refine vc_seq' ?_
  refine vc_sr ?_
  iterate 3 refine vo ?_
  try first | refine vlb ?_ | refine vln ?_
  refine vo ?_
  refine vnt ?_
  refine vc_if (fun g1 => ?_) (fun g1 => ?_)
  · refine vc_skip ?_
    refine thn ?_
    refine vc_seq' ?_
    refine vc_block ?_
    refine vc_region ?_
    iterate 5 refine vo ?_
    try with_reducible (first | refine vep ?_ | refine vpt ?_)
    iterate 2 refine vo ?_
    try with_reducible (first | refine vep ?_ | refine vpt ?_)
    refine vo ?_
    refine vnil ?_
    refine inB_n ?_
    refine thn ?_
    refine vc_region ?_
    iterate 2 refine vo ?_
    try refine vwr ?_
    refine vo ?_
    refine vnt ?_
    refine ⟨i + 1, by omega, by omega, sub_i [(56, some 56)] (fz ?_) (fz ?_)⟩
    · first | trivial | rfl | omega
    · rw [← mid_set (f := at' xs) (l := (List.replicate xs.length (0 : Int))) (i := i) (by rw [List.length_replicate]; omega), List.map_set]; rfl
  · refine vc_exit ?_
    refine thn_x ?_
    refine thn_x ?_
    refine inB_x ?_
    refine thn ?_
    refine vc_sr ?_
    iterate 2 refine vo ?_
    refine vnt ?_
    refine vc_ret ?_
    have hi : i = xs.length := by omega
    subst hi
    rw [mid_end (by rw [List.length_replicate]; omega), List.length_replicate, rg_self]
    refine fin_i [(0, some 56)] rfl (fz ?_) (fz ?_) <;> first | trivial | rfl | trace_state
set_option maxHeartbeats 4000000 in
theorem c_laws_toStringS {ps : Pg} (hl_ps : ps.length ≤ 1099511627776 := by first | with_reducible assumption | omega | (simp only [rg_len]; omega)) : Con0 Tryz.prog 40 [.one (.sl 1 (ps.map strE))] (.one (.hs 0)) [(0, .arr 9 1 (ps.map strE))] := by
  refine con_i Tryz.func40 Tryz.ntmps40 (t := [(0, .one (.sl 1 (ps.map strE)))]) rfl ?_
  refine vc_sr ?_
  refine vo ?_
  refine vnt ?_
  refine vc_sr ?_
  iterate 2 refine vo ?_
  try first | refine vlb ?_ | refine vln ?_
  iterate 2 refine vo ?_
  refine vnt ?_
  refine vc_seq' ?_
  refine vc_sr ?_
  refine vo ?_
  refine vnt ?_
  refine vc_block ?_
  refine vc_lp (σ := Nat) [0, 3] [] (fun i => [(4, I (i : Nat))]) (fun i => [(56, .arr 9 1 ((midX (at' ps) (List.replicate ps.length (⟨#[]⟩ : ByteArray)) i).map strE))]) (fun i => i ≤ ps.length) (fun i => ps.length - i) 0 rfl rfl (sub_i [(56, some 56)] (fz ?_) (fz ?_)) ?_ fun i hI => ?_
  · first | trivial | rfl
  · rw [mid_0, List.map_replicate]; rfl
  · exact Nat.zero_le _
  refine vc_nf rfl rfl ?_
  have hml : (midX (at' ps) (List.replicate ps.length (⟨#[]⟩ : ByteArray)) i).length = ps.length := by rw [mid_len, List.length_replicate]
  refine vc_seq' ?_
  refine vc_sr ?_
  iterate 3 refine vo ?_
  try first | refine vlb ?_ | refine vln ?_
  refine vo ?_
  refine vnt ?_
  refine vc_if (fun g1 => ?_) (fun g1 => ?_)
  · refine vc_skip ?_
    refine thn ?_
    refine vc_seq' ?_
    refine vc_block ?_
    refine vc_region ?_
    iterate 5 refine vo ?_
    try with_reducible (first | refine vep ?_ | refine vpt ?_)
    iterate 2 refine vo ?_
    try with_reducible (first | refine vep ?_ | refine vpt ?_)
    refine vo ?_
    refine vnil ?_
    refine inB_n ?_
    refine thn ?_
    refine vc_region ?_
    iterate 2 refine vo ?_
    try refine vwr ?_
    refine vo ?_
    refine vnt ?_
    refine ⟨i + 1, by omega, by omega, sub_i [(56, some 56)] (fz ?_) (fz ?_)⟩
    · first | trivial | rfl | omega
    · rw [← mid_set (f := at' ps) (l := (List.replicate ps.length (⟨#[]⟩ : ByteArray))) (i := i) (by rw [List.length_replicate]; omega), List.map_set]; rfl
  · refine vc_exit ?_
    refine thn_x ?_
    refine thn_x ?_
    refine inB_x ?_
    refine thn ?_
    refine vc_sr ?_
    iterate 2 refine vo ?_
    refine vnt ?_
    refine vc_ret ?_
    have hi : i = ps.length := by omega
    subst hi
    rw [mid_end (by rw [List.length_replicate]; omega), List.length_replicate, rg_self]
    refine fin_i [(0, some 56)] rfl (fz ?_) (fz ?_) <;> first | trivial | rfl | trace_state
set_option maxHeartbeats 4000000 in
theorem c_laws_toMapping {x : Mp} : Con0 Tryz.prog 39 [.agg [V x.1, V x.2.1, V x.2.2.1, .v (.bool x.2.2.2)]] (.agg [V x.1, V x.2.1, V x.2.2.1, .v (.bool x.2.2.2)]) [] := by
  refine con_i Tryz.func39 Tryz.ntmps39 (t := [(0, .agg [V x.1, V x.2.1, V x.2.2.1, .v (.bool x.2.2.2)])]) rfl ?_
  refine vc_sr ?_
  iterate 2 refine vo ?_
  refine vnt ?_
  refine vc_sr ?_
  refine vo ?_
  refine vnt ?_
  refine vc_sr ?_
  iterate 4 refine vo ?_
  refine vnt ?_
  refine vc_sr ?_
  iterate 4 refine vo ?_
  refine vnt ?_
  refine vc_sr ?_
  iterate 4 refine vo ?_
  refine vnt ?_
  refine vc_sr ?_
  iterate 4 refine vo ?_
  refine vnt ?_
  refine vc_sr ?_
  iterate 2 refine vo ?_
  refine vnt ?_
  refine vc_ret ?_
  refine fin_i [] rfl (fz ?_) (fz ?_) <;> first | trivial | rfl
set_option maxHeartbeats 4000000 in
theorem c_laws_toMappingS {xs : List Mp} (hl_xs : xs.length ≤ 1099511627776 := by first | with_reducible assumption | omega | (simp only [rg_len]; omega)) : Con0 Tryz.prog 9 [.one (.sl 4 (xs.map mpE))] (.one (.hs 0)) [(0, .arr 95 4 (xs.map mpE))] := by
  refine con_i Tryz.func9 Tryz.ntmps9 (t := [(0, .one (.sl 4 (xs.map mpE)))]) rfl ?_
  refine vc_sr ?_
  refine vo ?_
  refine vnt ?_
  refine vc_sr ?_
  iterate 2 refine vo ?_
  try first | refine vlb ?_ | refine vln ?_
  iterate 2 refine vo ?_
  refine vnt ?_
  refine vc_seq' ?_
  refine vc_sr ?_
  refine vo ?_
  refine vnt ?_
  refine vc_block ?_
  refine vc_lp (σ := Nat) [0, 3] [] (fun i => [(4, I (i : Nat))]) (fun i => [(56, .arr 95 4 ((midX (at' xs) (List.replicate xs.length ((0, 0, 0, false) : Mp)) i).map mpE))]) (fun i => i ≤ xs.length) (fun i => xs.length - i) 0 rfl rfl (sub_i [(56, some 56)] (fz ?_) (fz ?_)) ?_ fun i hI => ?_
  · first | trivial | rfl
  · rw [mid_0, List.map_replicate]; rfl
  · exact Nat.zero_le _
  refine vc_nf rfl rfl ?_
  have hml : (midX (at' xs) (List.replicate xs.length ((0, 0, 0, false) : Mp)) i).length = xs.length := by rw [mid_len, List.length_replicate]
  refine vc_seq' ?_
  refine vc_sr ?_
  iterate 3 refine vo ?_
  try first | refine vlb ?_ | refine vln ?_
  refine vo ?_
  refine vnt ?_
  refine vc_if (fun g1 => ?_) (fun g1 => ?_)
  · refine vc_skip ?_
    refine thn ?_
    refine vc_seq' ?_
    refine vc_block ?_
    refine vc_region ?_
    iterate 5 refine vo ?_
    try with_reducible (first | refine vep ?_ | refine vpt ?_)
    refine vo ?_
    refine voc (c_laws_toMapping (x := at' xs i)) rfl rfl ?_
    refine vo ?_
    try with_reducible (first | refine vep ?_ | refine vpt ?_)
    refine vo ?_
    refine vnil ?_
    refine inB_n ?_
    refine thn ?_
    refine vc_region ?_
    iterate 2 refine vo ?_
    try refine vwr ?_
    refine vo ?_
    refine vnt ?_
    refine ⟨i + 1, by omega, by omega, sub_i [(56, some 56)] (fz ?_) (fz ?_)⟩
    · first | trivial | rfl | omega
    · rw [← mid_set (f := at' xs) (l := (List.replicate xs.length ((0, 0, 0, false) : Mp))) (i := i) (by rw [List.length_replicate]; omega), List.map_set]; rfl
  · refine vc_exit ?_
    refine thn_x ?_
    refine thn_x ?_
    refine inB_x ?_
    refine thn ?_
    refine vc_sr ?_
    iterate 2 refine vo ?_
    refine vnt ?_
    refine vc_ret ?_
    have hi : i = xs.length := by omega
    subst hi
    rw [mid_end (by rw [List.length_replicate]; omega), List.length_replicate, rg_self]
    refine fin_i [(0, some 56)] rfl (fz ?_) (fz ?_) <;> first | trivial | rfl | trace_state
set_option maxHeartbeats 4000000 in
theorem c_laws_toMemory {ps : Pg} (hl_ps : ps.length ≤ 1099511627776 := by first | with_reducible assumption | omega | (simp only [rg_len]; omega)) : Con0 Tryz.prog 10 [.agg [.sl 1 (ps.map strE)]] (.agg [.hs 0]) [(0, .arr 9 1 (ps.map strE))] := by
  refine con_i Tryz.func10 Tryz.ntmps10 (t := [(0, .agg [.sl 1 (ps.map strE)])]) rfl ?_
  refine vc_sr ?_
  iterate 2 refine vo ?_
  refine vnt ?_
  refine vc_sr ?_
  refine vo ?_
  refine vnt ?_
  refine vc_sr ?_
  iterate 2 refine vo ?_
  refine voc (c_laws_toStringS (ps := ps)) rfl rfl ?_
  iterate 2 refine vo ?_
  refine vnt ?_
  refine vc_sr ?_
  iterate 2 refine vo ?_
  refine vnt ?_
  refine vc_ret ?_
  refine fin_i [(0, some 48)] rfl (fz ?_) (fz ?_) <;> first | trivial | rfl
set_option maxHeartbeats 4000000 in
theorem c_laws_toPool {pb pz pc : Int} {fr : List Int} (hl_fr : fr.length ≤ 1099511627776 := by first | with_reducible assumption | omega | (simp only [rg_len]; omega)) : Con0 Tryz.prog 42 [.agg [V pb, V pz, V pc, .sl 1 (fr.map intE)]] (.agg [V pb, V pz, V pc, .hs 0]) [(0, .arr 3 1 (fr.map intE))] := by
  refine con_i Tryz.func42 Tryz.ntmps42 (t := [(0, .agg [V pb, V pz, V pc, .sl 1 (fr.map intE)])]) rfl ?_
  refine vc_sr ?_
  iterate 2 refine vo ?_
  refine vnt ?_
  refine vc_sr ?_
  refine vo ?_
  refine vnt ?_
  refine vc_sr ?_
  iterate 4 refine vo ?_
  refine vnt ?_
  refine vc_sr ?_
  iterate 4 refine vo ?_
  refine vnt ?_
  refine vc_sr ?_
  iterate 4 refine vo ?_
  refine vnt ?_
  refine vc_sr ?_
  iterate 2 refine vo ?_
  refine voc (c_laws_toIntS (xs := fr)) rfl rfl ?_
  iterate 2 refine vo ?_
  refine vnt ?_
  refine vc_sr ?_
  iterate 2 refine vo ?_
  refine vnt ?_
  refine vc_ret ?_
  refine fin_i [(0, some 120)] rfl (fz ?_) (fz ?_) <;> first | trivial | rfl
set_option maxHeartbeats 4000000 in
theorem c_laws_toSent {c s : Int} {xs : List Int} (hl_xs : xs.length ≤ 1099511627776 := by first | with_reducible assumption | omega | (simp only [rg_len]; omega)) : Con0 Tryz.prog 86 [.agg [V c, V s, .sl 1 (xs.map intE)]] (.agg [V c, V s, .hs 0]) [(0, .arr 3 1 (xs.map intE))] := by
  refine con_i Tryz.func86 Tryz.ntmps86 (t := [(0, .agg [V c, V s, .sl 1 (xs.map intE)])]) rfl ?_
  refine vc_sr ?_
  iterate 2 refine vo ?_
  refine vnt ?_
  refine vc_sr ?_
  refine vo ?_
  refine vnt ?_
  refine vc_sr ?_
  iterate 4 refine vo ?_
  refine vnt ?_
  refine vc_sr ?_
  iterate 4 refine vo ?_
  refine vnt ?_
  refine vc_sr ?_
  iterate 2 refine vo ?_
  refine voc (c_laws_toIntS (xs := xs)) rfl rfl ?_
  iterate 2 refine vo ?_
  refine vnt ?_
  refine vc_sr ?_
  iterate 2 refine vo ?_
  refine vnt ?_
  refine vc_ret ?_
  refine fin_i [(0, some 96)] rfl (fz ?_) (fz ?_) <;> first | trivial | rfl
def z3 : List Value := [.int .i64 0, .int .i64 0, .slice none 0 0]
theorem sntC_rep : ∀ n : Nat, sntC ((List.replicate n ((0, 0, []) : Sn)).map snE) (List.replicate n (.slice none 0 0)) = List.replicate n z3
  | 0 => rfl
  | n + 1 => by
    show _ :: sntC ((List.replicate n ((0, 0, []) : Sn)).map snE) (List.replicate n (.slice none 0 0)) = _ :: List.replicate n z3
    rw [sntC_rep n]; rfl
theorem sntO_rep (E' : TypeId) (w : World) : ∀ n : Nat, SepL w (sntO E' ((List.replicate n ((0, 0, []) : Sn)).map snE) (List.replicate n (.slice none 0 0))) fun _ => False
  | 0 => fun b h => h
  | n + 1 => ⟨fun _ => False, fun _ => False, ⟨⟨rfl, .inl ⟨rfl, rfl⟩⟩, fun b => by simp [Value.blk]⟩, sntO_rep E' w n, fun _ h => h.elim, fun b => by simp⟩
theorem snt_mk {E E' : TypeId} (n : Nat) {v : Value} {w : World} {F : Nat → Prop} (h : (slotA E 3 v (List.replicate n z3).length (List.replicate n z3).flatten).P w F) : (sntA E E' ((List.replicate n ((0, 0, []) : Sn)).map snE) v).P w F := by
  refine ⟨fun x hx => ?_, List.replicate n (.slice none 0 0), by simp, F, fun _ => False, ?_, sntO_rep E' w n, fun _ _ h => h, fun b => by simp⟩
  · obtain ⟨y, hy, rfl⟩ := List.mem_map.1 hx
    exact int_ok _
  · rw [sntC_rep n, List.length_map, List.length_replicate]
    rwa [List.length_replicate] at h
set_option maxHeartbeats 4000000 in
theorem c_laws_toSentS {ws : List Sn} (hl_ws : ws.length ≤ 1099511627776 := by first | with_reducible assumption | omega | (simp only [rg_len]; omega)) (hb : ∀ x ∈ ws, x.2.2.length ≤ 1099511627776 := by with_reducible assumption) : Con0 Tryz.prog 43 [.one (.rd (snQ (ws.map snE)))] (.one (.hs 0)) [(0, .own (sntOw 93 3 ((ws).map snE)))] := by
  refine con_i Tryz.func43 Tryz.ntmps43 (t := [(0, .one (.rd (snQ (ws.map snE))))]) rfl ?_
  refine vc_sr ?_
  refine vo ?_
  refine vnt ?_
  refine vc_sr ?_
  refine vo ?_
  first | (refine vql ?_; refine vlnS ?_) | refine vo ?_
  try first | refine vlb ?_ | refine vln ?_
  refine vmk ?_
  refine vo ?_
  refine vnt ?_
  refine vc_seq' ?_
  refine vc_sr ?_
  refine vo ?_
  refine vnt ?_
  refine vc_block ?_
  refine vc_lp (σ := Nat) [0, 3] [] (fun i => [(4, I (i : Nat))]) (fun i => [(56, .own (sntOw 93 3 ((midX (at' ws) (List.replicate ws.length ((0, 0, []) : Sn)) i).map snE)))]) (fun i => i ≤ ws.length) (fun i => ws.length - i) 0 rfl rfl (sub_i [(56, some 56)] (fz ?_) (fz ?_)) ?_ fun i hI => ?_
  · first | trivial | rfl
  · rw [mid_0]; exact fun v w F h => snt_mk _ h
  · exact Nat.zero_le _
  refine vc_nf rfl rfl ?_
  have hml : (midX (at' ws) (List.replicate ws.length ((0, 0, []) : Sn)) i).length = ws.length := by rw [mid_len, List.length_replicate]
  refine vc_seq' ?_
  refine vc_sr ?_
  iterate 2 refine vo ?_
  first | (refine vql ?_; refine vlnS ?_) | refine vo ?_
  try first | refine vlb ?_ | refine vln ?_
  refine vo ?_
  refine vnt ?_
  refine vc_if (fun g1 => ?_) (fun g1 => ?_)
  · have hbi := hb _ (atp_mem (show i < ws.length by omega))
    refine vc_skip ?_
    refine thn ?_
    refine vc_seq' ?_
    refine vc_block ?_
    refine vc_region ?_
    iterate 4 refine vo ?_
    refine vqx ?_
    refine vepS ?_
    try with_reducible (first | refine vep ?_ | refine vpt ?_)
    refine vqd ?_
    refine voc (c_laws_toSent (c := (at' ws i).1) (s := (at' ws i).2.1) (xs := (at' ws i).2.2) (hl_xs := hbi)) rfl rfl ?_
    refine vxo ?_
    refine vpt ?_
    try with_reducible (first | refine vep ?_ | refine vpt ?_)
    refine vso ?_
    refine vnil ?_
    refine inB_n ?_
    refine thn ?_
    refine vc_region ?_
    iterate 2 refine vo ?_
    try refine vwr ?_
    refine vo ?_
    refine vnt ?_
    refine ⟨i + 1, by omega, by omega, sub_i [(56, some 56)] (fz ?_) (fz ?_)⟩
    · first | trivial | rfl | omega
    · rw [← mid_set (f := at' ws) (l := (List.replicate ws.length ((0, 0, []) : Sn))) (i := i) (by rw [List.length_replicate]; omega)]
  · refine vc_exit ?_
    refine thn_x ?_
    refine thn_x ?_
    refine inB_x ?_
    refine thn ?_
    refine vc_sr ?_
    iterate 2 refine vo ?_
    refine vnt ?_
    refine vc_ret ?_
    have hi : i = ws.length := by omega
    subst hi
    rw [mid_end (by rw [List.length_replicate]; omega), List.length_replicate, rg_self]
    refine fin_i [(0, some 56)] rfl (fz ?_) (fz ?_) <;> first | trivial | rfl | trace_state
set_option maxHeartbeats 4000000 in
theorem c_laws_toTxQueue {b s h t pb pz pc nx : Int} {fr : List Int} (hl_fr : fr.length ≤ 1099511627776 := by first | with_reducible assumption | omega | (simp only [rg_len]; omega)) {ws : List Sn} (hl_ws : ws.length ≤ 1099511627776 := by first | with_reducible assumption | omega | (simp only [rg_len]; omega)) (hb : ∀ x ∈ ws, x.2.2.length ≤ 1099511627776 := by with_reducible assumption) : Con0 Tryz.prog 11 [.agg [V b, V s, V h, V t, V pb, V pz, V pc, .sl 1 (fr.map intE), .rd (snQ (ws.map snE)), V nx]] (.agg [V b, V s, V h, V t, V pb, V pz, V pc, .hs 0, .hs 1, V nx]) [(0, .arr 3 1 (fr.map intE)), (1, .own (sntOw 93 3 ((ws).map snE)))] := by
  refine con_i Tryz.func11 Tryz.ntmps11 (t := [(0, .agg [V b, V s, V h, V t, V pb, V pz, V pc, .sl 1 (fr.map intE), .rd (snQ (ws.map snE)), V nx])]) rfl ?_
  refine vc_sr ?_
  iterate 2 refine vo ?_
  refine vnt ?_
  refine vc_sr ?_
  refine vo ?_
  refine vnt ?_
  refine vc_sr ?_
  iterate 2 refine vo ?_
  refine voc c_laws_toRing rfl rfl ?_
  iterate 2 refine vo ?_
  refine vnt ?_
  refine vc_sr ?_
  iterate 2 refine vo ?_
  refine voc (c_laws_toPool (fr := fr)) rfl rfl ?_
  iterate 2 refine vo ?_
  refine vnt ?_
  refine vc_sr ?_
  iterate 2 refine vo ?_
  refine voc (c_laws_toSentS (ws := ws)) rfl rfl ?_
  iterate 2 refine vo ?_
  refine vnt ?_
  refine vc_sr ?_
  iterate 4 refine vo ?_
  refine vnt ?_
  refine vc_sr ?_
  iterate 2 refine vo ?_
  refine vnt ?_
  refine vc_ret ?_
  refine fin_i [(0, some 80), (1, some 112)] rfl (fz ?_) (fz ?_) <;> first | trivial | rfl | exact ⟨rfl, rfl⟩
end Go.Proofs.YtnikopahkjmneaaGreat
end
section
namespace Go.Proofs.YtnikopahkjmneaaGreat
open Go Go.RowKit Go.Vc
set_option linter.unusedVariables false
set_option linter.unusedSimpArgs false
set_option linter.unnecessarySimpa false
set_option maxHeartbeats 4000000 in
theorem c_laws_heldIntS {n : Nat} {k : Int} (k0 : 0 < k := by omega) (k1 : k + n ≤ 4611686018427380000 := by omega) : Con0 Tryz.prog 111 [.one (.sl 1 ((mkI n k).map intE)), I k] (I (k + n)) [] := by
  refine con_i Tryz.func111 Tryz.ntmps111 (t := [(0, .one (.sl 1 ((mkI n k).map intE))), (1, I k)]) rfl ?_
  refine vc_sr ?_
  refine vo ?_
  refine vnt ?_
  refine vc_seq' ?_
  refine vc_sr ?_
  refine vo ?_
  refine vnt ?_
  refine vc_block ?_
  refine vc_lp (σ := Nat) [0] [] (fun i => [(1, I (k + (i : Int))), (5, I (i : Nat))]) (fun i => []) (fun i => i ≤ n) (fun i => n - i) 0 rfl rfl (sub_i [] (fz ?_) (fz ?_)) ?_ fun i hI => ?_
  · first | trivial | rfl | exact ⟨rfl, by omega⟩ | exact ⟨by omega, rfl⟩ | (show k + ((0 : Nat) : Int) = k; omega) | trace_state
  · first | trivial | rfl
  · omega
  refine vc_nf rfl rfl ?_
  have hln : (mkI n k).length = n := rg_len n
  refine vc_seq' ?_
  refine vc_sr ?_
  iterate 3 refine vo ?_
  try first | refine vlb ?_ | refine vln ?_
  refine vo ?_
  refine vnt ?_
  refine vc_if (fun g1 => ?_) (fun g1 => ?_)
  · have hat : at' (mkI n k) i = k + (i : Int) := rg_at (by omega)
    refine vc_skip ?_
    refine thn ?_
    refine vc_seq' ?_
    refine vc_block ?_
    refine vc_seq' ?_
    refine vc_sr ?_
    iterate 3 refine vo ?_
    try with_reducible (first | refine vep ?_ | refine vpt ?_)
    iterate 3 refine vo ?_
    refine vnt ?_
    refine vc_if (fun g2 => ?_) (fun g2 => ?_)
    · exact absurd hat g2
    · refine vc_skip ?_
      refine thn ?_
      refine vc_region ?_
      iterate 2 refine vo ?_
      try refine vwr ?_
      refine vo ?_
      refine vnil ?_
      refine inB_n ?_
      refine thn ?_
      refine vc_region ?_
      iterate 2 refine vo ?_
      try refine vwr ?_
      refine vo ?_
      refine vnt ?_
      refine ⟨i + 1, ?_, ?_, sub_i [] (fz ?_) (fz ?_)⟩
      · omega
      · omega
      all_goals first | trivial | rfl | omega | exact ⟨by omega, rfl⟩ | exact ⟨rfl, by omega⟩ | exact ⟨by omega, by omega⟩ | trace_state
  · refine vc_exit ?_
    refine thn_x ?_
    refine thn_x ?_
    refine inB_x ?_
    refine thn ?_
    refine vc_sr ?_
    iterate 2 refine vo ?_
    refine vnt ?_
    refine vc_ret ?_
    have hi : i = n := by omega
    subst hi
    refine fin_i [] rfl (fz ?_) (fz ?_) <;> first | trivial | rfl | omega
set_option maxHeartbeats 4000000 in
theorem c_laws_heldStringS {n : Nat} {k : Int} (k0 : 0 < k := by omega) (k1 : k + n ≤ 4611686018427380000 := by omega) : Con0 Tryz.prog 66 [.one (.sl 1 ((mkS n k).map strE)), I k] (I (k + n)) [] := by
  refine con_i Tryz.func66 Tryz.ntmps66 (t := [(0, .one (.sl 1 ((mkS n k).map strE))), (1, I k)]) rfl ?_
  refine vc_sr ?_
  refine vo ?_
  refine vnt ?_
  refine vc_seq' ?_
  refine vc_sr ?_
  refine vo ?_
  refine vnt ?_
  refine vc_block ?_
  refine vc_lp (σ := Nat) [0] [] (fun i => [(1, I (k + (i : Int))), (5, I (i : Nat))]) (fun i => []) (fun i => i ≤ n) (fun i => n - i) 0 rfl rfl (sub_i [] (fz ?_) (fz ?_)) ?_ fun i hI => ?_
  · first | trivial | rfl | exact ⟨rfl, by omega⟩ | exact ⟨by omega, rfl⟩ | (show k + ((0 : Nat) : Int) = k; omega) | trace_state
  · first | trivial | rfl
  · omega
  refine vc_nf rfl rfl ?_
  have hln : (mkS n k).length = n := rg_len n
  refine vc_seq' ?_
  refine vc_sr ?_
  iterate 3 refine vo ?_
  try first | refine vlb ?_ | refine vln ?_
  refine vo ?_
  refine vnt ?_
  refine vc_if (fun g1 => ?_) (fun g1 => ?_)
  · have hat : at' (mkS n k) i = mtX (k + (i : Int)) := rg_at (by omega)
    refine vc_skip ?_
    refine thn ?_
    refine vc_seq' ?_
    refine vc_block ?_
    refine vc_seq' ?_
    refine vc_sr ?_
    iterate 3 refine vo ?_
    try with_reducible (first | refine vep ?_ | refine vpt ?_)
    iterate 2 refine vo ?_
    refine voc (c_markText (k := k + (i : Int))) rfl rfl ?_
    refine vo ?_
    refine vnt ?_
    refine vc_if (fun g2 => ?_) (fun g2 => ?_)
    · exact absurd hat g2
    · refine vc_skip ?_
      refine thn ?_
      refine vc_region ?_
      iterate 2 refine vo ?_
      try refine vwr ?_
      refine vo ?_
      refine vnil ?_
      refine inB_n ?_
      refine thn ?_
      refine vc_region ?_
      iterate 2 refine vo ?_
      try refine vwr ?_
      refine vo ?_
      refine vnt ?_
      refine ⟨i + 1, ?_, ?_, sub_i [] (fz ?_) (fz ?_)⟩
      · omega
      · omega
      all_goals first | trivial | rfl | omega | exact ⟨by omega, rfl⟩ | exact ⟨rfl, by omega⟩ | exact ⟨by omega, by omega⟩ | trace_state
  · refine vc_exit ?_
    refine thn_x ?_
    refine thn_x ?_
    refine inB_x ?_
    refine thn ?_
    refine vc_sr ?_
    iterate 2 refine vo ?_
    refine vnt ?_
    refine vc_ret ?_
    have hi : i = n := by omega
    subst hi
    refine fin_i [] rfl (fz ?_) (fz ?_) <;> first | trivial | rfl | omega
set_option maxHeartbeats 4000000 in
theorem c_laws_heldPool {pb pz pc : Int} {n : Nat} {k : Int} (k0 : 0 < k := by omega) (k1 : k + n ≤ 4611686018427380000 := by omega) : Con0 Tryz.prog 67 [.agg [V pb, V pz, V pc, .sl 1 ((mkI n k).map intE)], I k] (I (k + n)) [] := by
  refine con_i Tryz.func67 Tryz.ntmps67 (t := [(0, .agg [V pb, V pz, V pc, .sl 1 ((mkI n k).map intE)]), (1, I k)]) rfl ?_
  refine vc_sr ?_
  iterate 2 refine vo ?_
  refine vnt ?_
  refine vc_sr ?_
  iterate 3 refine vo ?_
  refine voc (c_laws_heldIntS (n := n) (k := k)) rfl rfl ?_
  refine vo ?_
  refine vnt ?_
  refine vc_seq' ?_
  refine vc_sr ?_
  iterate 2 refine vo ?_
  refine vnt ?_
  refine vc_if (fun g1 => ?_) (fun g1 => ?_)
  · exact absurd g1 (by omega)
  · refine vc_skip ?_
    refine thn ?_
    refine vc_sr ?_
    iterate 2 refine vo ?_
    refine vnt ?_
    refine vc_ret ?_
    refine fin_i [] rfl (fz ?_) (fz ?_) <;> first | trivial | rfl
set_option maxHeartbeats 4000000 in
theorem c_laws_heldMemory {n : Nat} {k : Int} (k0 : 0 < k := by omega) (k1 : k + n ≤ 4611686018427380000 := by omega) : Con0 Tryz.prog 20 [.agg [.sl 1 ((mkS n k).map strE)], I k] (I (k + n)) [] := by
  refine con_i Tryz.func20 Tryz.ntmps20 (t := [(0, .agg [.sl 1 ((mkS n k).map strE)]), (1, I k)]) rfl ?_
  refine vc_sr ?_
  iterate 2 refine vo ?_
  refine vnt ?_
  refine vc_sr ?_
  iterate 3 refine vo ?_
  refine voc (c_laws_heldStringS (n := n) (k := k)) rfl rfl ?_
  refine vo ?_
  refine vnt ?_
  refine vc_seq' ?_
  refine vc_sr ?_
  iterate 2 refine vo ?_
  refine vnt ?_
  refine vc_if (fun g1 => ?_) (fun g1 => ?_)
  · exact absurd g1 (by omega)
  · refine vc_skip ?_
    refine thn ?_
    refine vc_sr ?_
    iterate 2 refine vo ?_
    refine vnt ?_
    refine vc_ret ?_
    refine fin_i [] rfl (fz ?_) (fz ?_) <;> first | trivial | rfl
set_option maxHeartbeats 4000000 in
theorem c_laws_heldSentS {ws : List Sn} {k : Int} (hl_ws : ws.length ≤ 1099511627776 := by first | with_reducible assumption | omega | (simp only [rg_len]; omega)) (k0 : 0 < k := by omega) (k1 : k + (preW ws ws.length : Nat) ≤ 4611686018427380000 := by omega) : Con0 Tryz.prog 68 [.one (.rd (snQ ((mkW ws k).map snE))), I k] (I (k + (preW ws ws.length : Nat))) [] := by
  refine con_i Tryz.func68 Tryz.ntmps68 (t := [(0, .one (.rd (snQ ((mkW ws k).map snE)))), (1, I k)]) rfl ?_
  refine vc_sr ?_
  refine vo ?_
  refine vnt ?_
  refine vc_seq' ?_
  refine vc_sr ?_
  refine vo ?_
  refine vnt ?_
  refine vc_block ?_
  refine vc_lp (σ := Nat) [0] [] (fun i => [(1, I (k + (preW ws i : Int))), (5, I (i : Nat))]) (fun i => []) (fun i => i ≤ ws.length) (fun i => ws.length - i) 0 rfl rfl (sub_i [] (fz ?_) (fz ?_)) ?_ fun i hI => ?_
  · first | trivial | rfl | exact ⟨rfl, by show k + ((0 : Nat) : Int) = k; omega⟩ | exact ⟨by show k + ((0 : Nat) : Int) = k; omega, rfl⟩ | (show k + ((0 : Nat) : Int) = k; omega) | trace_state
  · first | trivial | rfl
  · omega
  refine vc_nf rfl rfl ?_
  have hln : (mkW ws k).length = ws.length := rg_len _
  refine vc_seq' ?_
  refine vc_sr ?_
  iterate 2 refine vo ?_
  first | (refine vql ?_; refine vlnS ?_) | refine vo ?_
  try first | refine vlb ?_ | refine vln ?_
  refine vo ?_
  refine vnt ?_
  refine vc_if (fun g1 => ?_) (fun g1 => ?_)
  · have hpl := preW_le ws (show i + 1 ≤ ws.length by omega)
    have hps := preW_stp (show i < ws.length by omega)
    have hat : at' (mkW ws k) i = (k + (preW ws i : Int), k + (preW ws i : Int) + 1, mkI (at' ws i).2.2.length (k + (preW ws i : Int) + 1 + 1)) := rg_at (by omega)
    refine vc_skip ?_
    refine thn ?_
    refine vc_seq' ?_
    refine vc_block ?_
    refine vc_seq' ?_
    refine vc_sr ?_
    iterate 2 refine vo ?_
    refine vqx ?_
    refine vepS ?_
    try with_reducible (first | refine vep ?_ | refine vpt ?_)
    refine vqf ?_
    refine vqd ?_
    rw [hat]
    iterate 2 refine vo ?_
    refine vnt ?_
    refine vc_if (fun g2 => ?_) (fun g2 => ?_)
    · first | exact absurd rfl g2 | exact (g2 trivial).elim
    · refine vc_skip ?_
      refine thn ?_
      refine vc_sr ?_
      iterate 2 refine vo ?_
      try refine vwr ?_
      refine vo ?_
      refine vnt ?_
      refine vc_seq' ?_
      refine vc_sr ?_
      iterate 2 refine vo ?_
      refine vqx ?_
      refine vepS ?_
      try with_reducible (first | refine vep ?_ | refine vpt ?_)
      refine vqf ?_
      refine vqd ?_
      rw [hat]
      iterate 2 refine vo ?_
      refine vnt ?_
      refine vc_if (fun g3 => ?_) (fun g3 => ?_)
      · first | exact absurd rfl g3 | exact (g3 trivial).elim
      · refine vc_skip ?_
        refine thn ?_
        refine vc_sr ?_
        iterate 2 refine vo ?_
        try refine vwr ?_
        refine vo ?_
        refine vnt ?_
        refine vc_sr ?_
        iterate 2 refine vo ?_
        refine vqx ?_
        refine vepS ?_
        try with_reducible (first | refine vep ?_ | refine vpt ?_)
        refine vqf ?_
        refine vqd ?_
        rw [hat]
        refine vo ?_
        refine voc (c_laws_heldIntS (n := (at' ws i).2.2.length) (k := k + (preW ws i : Int) + 1 + 1)) rfl rfl ?_
        refine vo ?_
        refine vnt ?_
        refine vc_sr ?_
        iterate 2 refine vo ?_
        refine vnt ?_
        refine vc_if (fun g4 => ?_) (fun g4 => ?_)
        · exact absurd g4 (by omega)
        · refine vc_skip ?_
          refine inB_n ?_
          refine thn ?_
          refine vc_region ?_
          iterate 2 refine vo ?_
          try refine vwr ?_
          refine vo ?_
          refine vnt ?_
          refine ⟨i + 1, ?_, ?_, sub_i [] (fz ?_) (fz ?_)⟩
          · omega
          · omega
          all_goals first | trivial | rfl | omega | exact ⟨by omega, rfl⟩ | exact ⟨rfl, by omega⟩ | exact ⟨by omega, by omega⟩ | trace_state
  · refine vc_exit ?_
    refine thn_x ?_
    refine thn_x ?_
    refine inB_x ?_
    refine thn ?_
    refine vc_sr ?_
    iterate 2 refine vo ?_
    refine vnt ?_
    refine vc_ret ?_
    have hi : i = ws.length := by omega
    subst hi
    refine fin_i [] rfl (fz ?_) (fz ?_) <;> first | trivial | rfl | omega
set_option maxHeartbeats 4000000 in
theorem c_laws_heldTxQueue {b s h t pb pz pc nx : Int} {n : Nat} {ws : List Sn} {k : Int} (hl_ws : ws.length ≤ 1099511627776 := by first | with_reducible assumption | omega | (simp only [rg_len]; omega)) (k0 : 0 < k := by omega) (k1 : k + n + (preW ws ws.length : Nat) ≤ 4611686018427380000 := by omega) : Con0 Tryz.prog 21 [.agg [V b, V s, V h, V t, V pb, V pz, V pc, .sl 1 ((mkI n k).map intE), .rd (snQ ((mkW ws (k + n)).map snE)), V nx], I k] (I (k + n + (preW ws ws.length : Nat))) [] := by
  refine con_i Tryz.func21 Tryz.ntmps21 (t := [(0, .agg [V b, V s, V h, V t, V pb, V pz, V pc, .sl 1 ((mkI n k).map intE), .rd (snQ ((mkW ws (k + n)).map snE)), V nx]), (1, I k)]) rfl ?_
  refine vc_sr ?_
  iterate 2 refine vo ?_
  refine vnt ?_
  refine vc_sr ?_
  iterate 3 refine vo ?_
  refine voc (c_laws_heldPool (n := n) (k := k)) rfl rfl ?_
  refine vo ?_
  refine vnt ?_
  refine vc_seq' ?_
  refine vc_sr ?_
  iterate 2 refine vo ?_
  refine vnt ?_
  refine vc_if (fun g1 => ?_) (fun g1 => ?_)
  · exact absurd g1 (by omega)
  · refine vc_skip ?_
    refine thn ?_
    refine vc_sr ?_
    iterate 3 refine vo ?_
    refine voc (c_laws_heldSentS (ws := ws) (k := k + n)) rfl rfl ?_
    refine vo ?_
    refine vnt ?_
    refine vc_seq' ?_
    refine vc_sr ?_
    iterate 2 refine vo ?_
    refine vnt ?_
    refine vc_if (fun g2 => ?_) (fun g2 => ?_)
    · exact absurd g2 (by omega)
    · refine vc_skip ?_
      refine thn ?_
      refine vc_sr ?_
      iterate 2 refine vo ?_
      refine vnt ?_
      refine vc_ret ?_
      refine fin_i [] rfl (fz ?_) (fz ?_) <;> first | trivial | rfl
set_option maxHeartbeats 4000000 in
theorem c_laws_markIntS {xs : List Int} {k : Int} (k0 : 0 < k := by omega) (k1 : k + xs.length ≤ 4611686018427380000 := by omega) (hl_xs : xs.length ≤ 1099511627776 := by first | with_reducible assumption | omega | (simp only [rg_len]; omega)) : ConH Tryz.prog 110 [.one (.hs 0), I k] (.arr 3 1 (xs.map intE)) (.arr 3 1 (rgX (fun j : Nat => k + (j : Int)) xs.length |>.map intE)) (.int .i64 (k + xs.length)) := by
  refine conh_i Tryz.func110 Tryz.ntmps110 (fun L u => ?_)
  refine vc_nf rfl rfl ?_
  refine vc_sr ?_
  refine vo ?_
  refine vnt ?_
  refine vc_seq' ?_
  refine vc_sr ?_
  refine vo ?_
  refine vnt ?_
  refine vc_block ?_
  refine vc_lp (σ := Nat) [0] [1000003] (fun i => [(1, I (k + (i : Int))), (5, I (i : Nat))]) (fun i => [(0, .own (paOw u 3 1 ((midX (fun j : Nat => k + (j : Int)) xs i).map intE)))]) (fun i => i ≤ xs.length) (fun i => xs.length - i) 0 rfl rfl (sub_i [(0, some 0)] (fz ?_) (fz ?_)) ?_ fun i hI => ?_
  · first | trivial | rfl | exact ⟨rfl, by omega⟩ | exact ⟨by omega, rfl⟩ | exact ⟨by omega, rfl, rfl⟩ | trace_state
  · rw [mid_0]; first | done | rfl | trace_state
  · exact Nat.zero_le _
  refine vc_nf rfl rfl ?_
  have hml : (midX (fun j : Nat => k + (j : Int)) xs i).length = xs.length := mid_len
  refine vc_seq' ?_
  refine vc_sr ?_
  iterate 2 refine vo ?_
  first | refine vkl ?_ | refine vo ?_
  try first | refine vlb ?_ | refine vln ?_
  refine vo ?_
  refine vnt ?_
  refine vc_if (fun g1 => ?_) (fun g1 => ?_)
  · refine vc_skip ?_
    refine thn ?_
    refine vc_seq' ?_
    refine vc_block ?_
    refine vc_sr ?_
    iterate 3 refine vo ?_
    first | refine vkx ?_ | refine vo ?_
    try with_reducible (first | refine vep ?_ | refine vpt ?_)
    refine vks (k + (i : Int)) ?_
    refine vnt ?_
    refine vc_region ?_
    iterate 2 refine vo ?_
    try refine vwr ?_
    refine vo ?_
    refine vnil ?_
    refine inB_n ?_
    refine thn ?_
    refine vc_region ?_
    iterate 2 refine vo ?_
    try refine vwr ?_
    refine vo ?_
    refine vnt ?_
    refine ⟨i + 1, by omega, by omega, sub_i [(0, some 0)] (fz ?_) (fz ?_)⟩
    · first | trivial | rfl | omega | exact ⟨by omega, rfl⟩ | exact ⟨rfl, by omega⟩ | exact ⟨by omega, by omega⟩ | trace_state
    · rw [← mid_set (f := fun j : Nat => k + (j : Int)) (l := xs) (i := i) (by omega)]; first | done | rfl | trace_state
  · refine vc_exit ?_
    refine thn_x ?_
    refine thn_x ?_
    refine inB_x ?_
    refine thn ?_
    refine vc_sr ?_
    iterate 2 refine vo ?_
    refine vnt ?_
    refine vc_ret ?_
    have hi : i = xs.length := by omega
    subst hi
    refine fin_g (()) (trivial) [(0, some 0), (1000003, some 1000003)] rfl (fz ?_) (fz ?_)
    · first | trivial | rfl | omega | trace_state
    · rw [mid_end (Nat.lt_irrefl _)]; first | done | rfl | trace_state
set_option maxHeartbeats 4000000 in
theorem c_laws_markStringS {ps : Pg} {k : Int} (k0 : 0 < k := by omega) (k1 : k + ps.length ≤ 4611686018427380000 := by omega) (hl_ps : ps.length ≤ 1099511627776 := by first | with_reducible assumption | omega | (simp only [rg_len]; omega)) : ConH Tryz.prog 63 [.one (.hs 0), I k] (.arr 9 1 (ps.map strE)) (.arr 9 1 (rgX (fun j : Nat => mtX (k + (j : Int))) ps.length |>.map strE)) (.int .i64 (k + ps.length)) := by
  refine conh_i Tryz.func63 Tryz.ntmps63 (fun L u => ?_)
  refine vc_nf rfl rfl ?_
  refine vc_sr ?_
  refine vo ?_
  refine vnt ?_
  refine vc_seq' ?_
  refine vc_sr ?_
  refine vo ?_
  refine vnt ?_
  refine vc_block ?_
  refine vc_lp (σ := Nat) [0] [1000003] (fun i => [(1, I (k + (i : Int))), (5, I (i : Nat))]) (fun i => [(0, .own (paOw u 9 1 ((midX (fun j : Nat => mtX (k + (j : Int))) ps i).map strE)))]) (fun i => i ≤ ps.length) (fun i => ps.length - i) 0 rfl rfl (sub_i [(0, some 0)] (fz ?_) (fz ?_)) ?_ fun i hI => ?_
  · first | trivial | rfl | exact ⟨rfl, by omega⟩ | exact ⟨by omega, rfl⟩ | exact ⟨by omega, rfl, rfl⟩ | trace_state
  · rw [mid_0]; first | done | rfl | trace_state
  · exact Nat.zero_le _
  refine vc_nf rfl rfl ?_
  have hml : (midX (fun j : Nat => mtX (k + (j : Int))) ps i).length = ps.length := mid_len
  refine vc_seq' ?_
  refine vc_sr ?_
  iterate 2 refine vo ?_
  first | refine vkl ?_ | refine vo ?_
  try first | refine vlb ?_ | refine vln ?_
  refine vo ?_
  refine vnt ?_
  refine vc_if (fun g1 => ?_) (fun g1 => ?_)
  · refine vc_skip ?_
    refine thn ?_
    refine vc_seq' ?_
    refine vc_block ?_
    refine vc_sr ?_
    iterate 3 refine vo ?_
    refine voc (c_markText (k := k + (i : Int))) rfl rfl ?_
    first | refine vkx ?_ | refine vo ?_
    try with_reducible (first | refine vep ?_ | refine vpt ?_)
    refine vks (mtX (k + (i : Int))) ?_
    refine vnt ?_
    refine vc_region ?_
    iterate 2 refine vo ?_
    try refine vwr ?_
    refine vo ?_
    refine vnil ?_
    refine inB_n ?_
    refine thn ?_
    refine vc_region ?_
    iterate 2 refine vo ?_
    try refine vwr ?_
    refine vo ?_
    refine vnt ?_
    refine ⟨i + 1, by omega, by omega, sub_i [(0, some 0)] (fz ?_) (fz ?_)⟩
    · first | trivial | rfl | omega | exact ⟨by omega, rfl⟩ | exact ⟨rfl, by omega⟩ | exact ⟨by omega, by omega⟩ | trace_state
    · rw [← mid_set (f := fun j : Nat => mtX (k + (j : Int))) (l := ps) (i := i) (by omega)]; first | done | rfl | trace_state
  · refine vc_exit ?_
    refine thn_x ?_
    refine thn_x ?_
    refine inB_x ?_
    refine thn ?_
    refine vc_sr ?_
    iterate 2 refine vo ?_
    refine vnt ?_
    refine vc_ret ?_
    have hi : i = ps.length := by omega
    subst hi
    refine fin_g (()) (trivial) [(0, some 0), (1000003, some 1000003)] rfl (fz ?_) (fz ?_)
    · first | trivial | rfl | omega | trace_state
    · rw [mid_end (Nat.lt_irrefl _)]; first | done | rfl | trace_state
set_option maxHeartbeats 4000000 in
theorem c_laws_markMappingS {xs : List Mp} {k : Int} (k0 : 0 < k := by omega) (k1 : k + 4 * (xs.length : Int) ≤ 4611686018427380000 := by omega) (hl_xs : xs.length ≤ 1099511627776 := by first | with_reducible assumption | omega | (simp only [rg_len]; omega)) : ConH Tryz.prog 17 [.one (.hs 0), I k] (.arr 95 4 (xs.map mpE)) (.arr 95 4 (rgX (fun j : Nat => ((k + 4 * (j : Int), k + 4 * (j : Int) + 1, k + 4 * (j : Int) + 2, decide ((k + 4 * (j : Int) + 3) % 3 = 0)) : Mp)) xs.length |>.map mpE)) (.int .i64 (k + 4 * (xs.length : Int))) := by
  refine conh_i Tryz.func17 Tryz.ntmps17 (fun L u => ?_)
  refine vc_nf rfl rfl ?_
  refine vc_sr ?_
  refine vo ?_
  refine vnt ?_
  refine vc_seq' ?_
  refine vc_sr ?_
  refine vo ?_
  refine vnt ?_
  refine vc_block ?_
  refine vc_lp (σ := Nat) [0] [1000003] (fun i => [(1, I (k + 4 * (i : Int))), (5, I (i : Nat))]) (fun i => [(0, .own (paOw u 95 4 ((midX (fun j : Nat => ((k + 4 * (j : Int), k + 4 * (j : Int) + 1, k + 4 * (j : Int) + 2, decide ((k + 4 * (j : Int) + 3) % 3 = 0)) : Mp)) xs i).map mpE)))]) (fun i => i ≤ xs.length) (fun i => xs.length - i) 0 rfl rfl (sub_i [(0, some 0)] (fz ?_) (fz ?_)) ?_ fun i hI => ?_
  · first | trivial | rfl | exact ⟨rfl, by omega⟩ | exact ⟨by omega, rfl⟩ | exact ⟨by omega, rfl, rfl⟩ | trace_state
  · rw [mid_0]; first | done | rfl | trace_state
  · exact Nat.zero_le _
  refine vc_nf rfl rfl ?_
  have hml : (midX (fun j : Nat => ((k + 4 * (j : Int), k + 4 * (j : Int) + 1, k + 4 * (j : Int) + 2, decide ((k + 4 * (j : Int) + 3) % 3 = 0)) : Mp)) xs i).length = xs.length := mid_len
  refine vc_seq' ?_
  refine vc_sr ?_
  iterate 2 refine vo ?_
  first | refine vkl ?_ | refine vo ?_
  try first | refine vlb ?_ | refine vln ?_
  refine vo ?_
  refine vnt ?_
  refine vc_if (fun g1 => ?_) (fun g1 => ?_)
  · refine vc_skip ?_
    refine thn ?_
    refine vc_seq' ?_
    refine vc_block ?_
    refine vc_sr ?_
    iterate 3 refine vo ?_
    first | refine vkx ?_ | refine vo ?_
    try with_reducible (first | refine vep ?_ | refine vpt ?_)
    refine vo ?_
    refine vks (((k + 4 * (i : Int), (at' (midX (fun j : Nat => ((k + 4 * (j : Int), k + 4 * (j : Int) + 1, k + 4 * (j : Int) + 2, decide ((k + 4 * (j : Int) + 3) % 3 = 0)) : Mp)) xs i) i).2.1, (at' (midX (fun j : Nat => ((k + 4 * (j : Int), k + 4 * (j : Int) + 1, k + 4 * (j : Int) + 2, decide ((k + 4 * (j : Int) + 3) % 3 = 0)) : Mp)) xs i) i).2.2.1, (at' (midX (fun j : Nat => ((k + 4 * (j : Int), k + 4 * (j : Int) + 1, k + 4 * (j : Int) + 2, decide ((k + 4 * (j : Int) + 3) % 3 = 0)) : Mp)) xs i) i).2.2.2) : Mp)) ?_
    obtain ⟨X1, hX1⟩ : ∃ X, List.set (midX (fun j : Nat => ((k + 4 * (j : Int), k + 4 * (j : Int) + 1, k + 4 * (j : Int) + 2, decide ((k + 4 * (j : Int) + 3) % 3 = 0)) : Mp)) xs i) i (((k + 4 * (i : Int), (at' (midX (fun j : Nat => ((k + 4 * (j : Int), k + 4 * (j : Int) + 1, k + 4 * (j : Int) + 2, decide ((k + 4 * (j : Int) + 3) % 3 = 0)) : Mp)) xs i) i).2.1, (at' (midX (fun j : Nat => ((k + 4 * (j : Int), k + 4 * (j : Int) + 1, k + 4 * (j : Int) + 2, decide ((k + 4 * (j : Int) + 3) % 3 = 0)) : Mp)) xs i) i).2.2.1, (at' (midX (fun j : Nat => ((k + 4 * (j : Int), k + 4 * (j : Int) + 1, k + 4 * (j : Int) + 2, decide ((k + 4 * (j : Int) + 3) % 3 = 0)) : Mp)) xs i) i).2.2.2) : Mp)) = X := ⟨_, rfl⟩
    rw [hX1]
    have hl1 : X1.length = (midX (fun j : Nat => ((k + 4 * (j : Int), k + 4 * (j : Int) + 1, k + 4 * (j : Int) + 2, decide ((k + 4 * (j : Int) + 3) % 3 = 0)) : Mp)) xs i).length := by rw [← hX1, List.length_set]
    have ha1 : at' X1 i = (((k + 4 * (i : Int), (at' (midX (fun j : Nat => ((k + 4 * (j : Int), k + 4 * (j : Int) + 1, k + 4 * (j : Int) + 2, decide ((k + 4 * (j : Int) + 3) % 3 = 0)) : Mp)) xs i) i).2.1, (at' (midX (fun j : Nat => ((k + 4 * (j : Int), k + 4 * (j : Int) + 1, k + 4 * (j : Int) + 2, decide ((k + 4 * (j : Int) + 3) % 3 = 0)) : Mp)) xs i) i).2.2.1, (at' (midX (fun j : Nat => ((k + 4 * (j : Int), k + 4 * (j : Int) + 1, k + 4 * (j : Int) + 2, decide ((k + 4 * (j : Int) + 3) % 3 = 0)) : Mp)) xs i) i).2.2.2) : Mp)) := by rw [← hX1, at_set (by omega), if_pos rfl]
    refine vnt ?_
    refine vc_sr ?_
    iterate 2 refine vo ?_
    try refine vwr ?_
    refine vo ?_
    refine vnt ?_
    refine vc_sr ?_
    iterate 3 refine vo ?_
    first | refine vkx ?_ | refine vo ?_
    try with_reducible (first | refine vep ?_ | refine vpt ?_)
    refine vo ?_
    refine vks ((((at' X1 i).1, k + 4 * (i : Int) + 1, (at' X1 i).2.2.1, (at' X1 i).2.2.2) : Mp)) ?_
    obtain ⟨X2, hX2⟩ : ∃ X, List.set (X1) i ((((at' X1 i).1, k + 4 * (i : Int) + 1, (at' X1 i).2.2.1, (at' X1 i).2.2.2) : Mp)) = X := ⟨_, rfl⟩
    rw [hX2]
    have hl2 : X2.length = (X1).length := by rw [← hX2, List.length_set]
    have ha2 : at' X2 i = ((((at' X1 i).1, k + 4 * (i : Int) + 1, (at' X1 i).2.2.1, (at' X1 i).2.2.2) : Mp)) := by rw [← hX2, at_set (by omega), if_pos rfl]
    refine vnt ?_
    refine vc_sr ?_
    iterate 2 refine vo ?_
    try refine vwr ?_
    refine vo ?_
    refine vnt ?_
    refine vc_sr ?_
    iterate 3 refine vo ?_
    first | refine vkx ?_ | refine vo ?_
    try with_reducible (first | refine vep ?_ | refine vpt ?_)
    refine vo ?_
    refine vks ((((at' X2 i).1, (at' X2 i).2.1, k + 4 * (i : Int) + 1 + 1, (at' X2 i).2.2.2) : Mp)) ?_
    obtain ⟨X3, hX3⟩ : ∃ X, List.set (X2) i ((((at' X2 i).1, (at' X2 i).2.1, k + 4 * (i : Int) + 1 + 1, (at' X2 i).2.2.2) : Mp)) = X := ⟨_, rfl⟩
    rw [hX3]
    have hl3 : X3.length = (X2).length := by rw [← hX3, List.length_set]
    have ha3 : at' X3 i = ((((at' X2 i).1, (at' X2 i).2.1, k + 4 * (i : Int) + 1 + 1, (at' X2 i).2.2.2) : Mp)) := by rw [← hX3, at_set (by omega), if_pos rfl]
    refine vnt ?_
    refine vc_sr ?_
    iterate 2 refine vo ?_
    try refine vwr ?_
    refine vo ?_
    refine vnt ?_
    refine vc_sr ?_
    iterate 4 refine vo ?_
    try refine veq (Int.tmod_eq_emod_of_nonneg (by omega)) ?_
    refine vo ?_
    first | refine vkx ?_ | refine vo ?_
    try with_reducible (first | refine vep ?_ | refine vpt ?_)
    refine vo ?_
    refine vks ((((at' X3 i).1, (at' X3 i).2.1, (at' X3 i).2.2.1, decide ((k + 4 * (i : Int) + 1 + 1 + 1) % 3 = 0)) : Mp)) ?_
    obtain ⟨X4, hX4⟩ : ∃ X, List.set (X3) i ((((at' X3 i).1, (at' X3 i).2.1, (at' X3 i).2.2.1, decide ((k + 4 * (i : Int) + 1 + 1 + 1) % 3 = 0)) : Mp)) = X := ⟨_, rfl⟩
    rw [hX4]
    have hl4 : X4.length = (X3).length := by rw [← hX4, List.length_set]
    have ha4 : at' X4 i = ((((at' X3 i).1, (at' X3 i).2.1, (at' X3 i).2.2.1, decide ((k + 4 * (i : Int) + 1 + 1 + 1) % 3 = 0)) : Mp)) := by rw [← hX4, at_set (by omega), if_pos rfl]
    refine vnt ?_
    have hX5 : X4 = midX (fun j : Nat => ((k + 4 * (j : Int), k + 4 * (j : Int) + 1, k + 4 * (j : Int) + 2, decide ((k + 4 * (j : Int) + 3) % 3 = 0)) : Mp)) xs (i + 1) := by (rw [← hX4, ha3, ha2, ha1, ← hX3, List.set_set, ← hX2, List.set_set, ← hX1, List.set_set, ← mid_set (f := fun j : Nat => ((k + 4 * (j : Int), k + 4 * (j : Int) + 1, k + 4 * (j : Int) + 2, decide ((k + 4 * (j : Int) + 3) % 3 = 0)) : Mp)) (l := xs) (i := i) (by omega)]; first | rfl | (congr 1; simp only [Prod.mk.injEq]; refine ⟨trivial, trivial, by omega, ?_⟩; congr 2; omega) | trace_state)
    refine vc_region ?_
    iterate 2 refine vo ?_
    try refine vwr ?_
    refine vo ?_
    refine vnil ?_
    refine inB_n ?_
    refine thn ?_
    refine vc_region ?_
    iterate 2 refine vo ?_
    try refine vwr ?_
    refine vo ?_
    refine vnt ?_
    refine ⟨i + 1, by omega, by omega, sub_i [(0, some 0)] (fz ?_) (fz ?_)⟩
    · first | trivial | rfl | omega | exact ⟨by omega, rfl⟩ | exact ⟨rfl, by omega⟩ | exact ⟨by omega, by omega⟩ | trace_state
    · rw [hX5]; first | done | rfl | trace_state
  · refine vc_exit ?_
    refine thn_x ?_
    refine thn_x ?_
    refine inB_x ?_
    refine thn ?_
    refine vc_sr ?_
    iterate 2 refine vo ?_
    refine vnt ?_
    refine vc_ret ?_
    have hi : i = xs.length := by omega
    subst hi
    refine fin_g (()) (trivial) [(0, some 0), (1000003, some 1000003)] rfl (fz ?_) (fz ?_)
    · first | trivial | rfl | omega | trace_state
    · rw [mid_end (Nat.lt_irrefl _)]; first | done | rfl | trace_state
set_option maxHeartbeats 4000000 in
theorem c_laws_markMemory {ps : Pg} {k : Int} (k0 : 0 < k := by omega) (k1 : k + ps.length ≤ 4611686018427380000 := by omega) (hl_ps : ps.length ≤ 1099511627776 := by first | with_reducible assumption | omega | (simp only [rg_len]; omega)) : ConH Tryz.prog 18 [.agg [.hs 0], I k] (.arr 9 1 (ps.map strE)) (.arr 9 1 ((mkS ps.length k).map strE)) (.int .i64 (k + ps.length)) := by
  refine conh_i Tryz.func18 Tryz.ntmps18 (fun L u => ?_)
  refine vc_nf rfl rfl ?_
  refine vc_sr ?_
  iterate 2 refine vo ?_
  refine vnt ?_
  refine vc_sr ?_
  refine vo ?_
  first | refine vkd ?_ | refine vo ?_
  refine vo ?_
  refine vlt1 (c_laws_markStringS (ps := ps) (k := k)) ?_
  refine vo ?_
  refine vnt ?_
  refine vc_sr ?_
  iterate 2 refine vo ?_
  refine vnt ?_
  refine vc_ret ?_
  refine fin_g (()) (trivial) [(0, some 0), (1000003, some 1000003)] rfl (fz ?_) (fz ?_) <;> first | trivial | rfl | trace_state
set_option maxHeartbeats 4000000 in
theorem c_laws_markPool {pb pz pc : Int} {xs : List Int} {k : Int} (k0 : 0 < k := by omega) (k1 : k + xs.length ≤ 4611686018427380000 := by omega) (hl_xs : xs.length ≤ 1099511627776 := by first | with_reducible assumption | omega | (simp only [rg_len]; omega)) : ConH Tryz.prog 64 [.agg [V pb, V pz, V pc, .hs 0], I k] (.arr 3 1 (xs.map intE)) (.arr 3 1 ((mkI xs.length k).map intE)) (.int .i64 (k + xs.length)) := by
  refine conh_i Tryz.func64 Tryz.ntmps64 (fun L u => ?_)
  refine vc_nf rfl rfl ?_
  refine vc_sr ?_
  iterate 2 refine vo ?_
  refine vnt ?_
  refine vc_sr ?_
  refine vo ?_
  first | refine vkd ?_ | refine vo ?_
  refine vo ?_
  refine vlt1 (c_laws_markIntS (xs := xs) (k := k)) ?_
  refine vo ?_
  refine vnt ?_
  refine vc_sr ?_
  iterate 2 refine vo ?_
  refine vnt ?_
  refine vc_ret ?_
  refine fin_g (()) (trivial) [(0, some 0), (1000003, some 1000003)] rfl (fz ?_) (fz ?_) <;> first | trivial | rfl | trace_state
section
variable {ws : List Sn} {k : Int} {vs : List Value}
theorem mkW_len : (mkW ws k).length = ws.length := rg_len _
theorem mkW_at {j : Nat} (h : j < ws.length) : at' (mkW ws k) j = (k + (preW ws j : Int), k + (preW ws j : Int) + 1, mkI (at' ws j).2.2.length (k + (preW ws j : Int) + 1 + 1)) := rg_at h
def FT (ws : List Sn) (k : Int) (vs : List Value) (j : Nat) : Tr := ⟨k + (preW ws j : Int), k + (preW ws j : Int) + 1, vs.getD j undef⟩
def FB (ws : List Sn) (k : Int) (j : Nat) : List Int := mkI (at' ws j).2.2.length (k + (preW ws j : Int) + 1 + 1)
theorem trs_mkW (h : vs.length = ws.length) : rgX (FT ws k vs) ws.length = trs (mkW ws k) vs := by
  have hl : vs.length = (mkW ws k).length := by rw [mkW_len, h]
  refine ext_at (by rw [rg_len, trs_len hl, mkW_len]) fun j hj => ?_
  rw [rg_len] at hj
  rw [rg_at hj, trs_at hl (by rw [mkW_len]; exact hj), mkW_at hj]
  rfl
theorem bufs_mkW : rgX (FB ws k) ws.length = (mkW ws k).map (fun x : Sn => x.2.2) := by
  unfold mkW rgX
  rw [List.map_map]; rfl
theorem bufs_at {j : Nat} (h : j < ws.length) : at' (ws.map (fun x : Sn => x.2.2)) j = (at' ws j).2.2 := by
  rw [atp_eq (by rw [List.length_map]; exact h), atp_eq h, List.getElem_map]
theorem getE_at {α : Type} [Inhabited α] {a : List α} {j : Nat} (h : j < a.length) : a[j]? = some (at' a j) := by rw [atp_eq h, List.getElem?_eq_getElem h]
end
set_option maxHeartbeats 4000000 in
theorem c_laws_markSentS {ws : List Sn} {k : Int} (k0 : 0 < k := by omega) (k1 : k + (preW ws ws.length : Nat) ≤ 4611686018427380000 := by omega) (hl_ws : ws.length ≤ 1099511627776 := by first | with_reducible assumption | omega | (simp only [rg_len]; omega)) (hb : ∀ x ∈ ws, x.2.2.length ≤ 1099511627776 := by with_reducible assumption) : ConH Tryz.prog 65 [.one (.hs 0), I k] (.own (sntOw 93 3 (ws.map snE))) (.own (sntOw 93 3 ((mkW ws k).map snE))) (.int .i64 (k + (preW ws ws.length : Nat))) := by
  refine conh_i Tryz.func65 Tryz.ntmps65 (fun L u => ?_)
  refine vc_nf rfl rfl ?_
  refine vc_unS (k := 0) (j := 7) (fun vs hvs => ?_)
  refine vc_nf rfl rfl ?_
  refine vc_sr ?_
  refine vo ?_
  refine vnt ?_
  refine vc_seq' ?_
  refine vc_sr ?_
  refine vo ?_
  refine vnt ?_
  refine vc_block ?_
  refine vc_lp (σ := Nat) [0] [1000003] (fun i => [(1, I (k + (preW ws i : Int))), (5, I (i : Nat))]) (fun i => [(0, .own (paOw u 93 3 ((midX (FT ws k vs) (trs ws vs) i).map trE))), (7, .own (frOw (ptO 3 vs (midX (FB ws k) (ws.map (fun x : Sn => x.2.2)) i))))]) (fun i => i ≤ ws.length) (fun i => ws.length - i) 0 rfl rfl (sub_i [(0, some 0), (7, some 7)] (fz ?_) (fz ?_)) ?_ fun i hI => ?_
  · first | trivial | rfl | exact ⟨rfl, by show k + ((0 : Nat) : Int) = k; omega⟩ | exact ⟨by show k + ((0 : Nat) : Int) = k; omega, rfl⟩ | trace_state
  · rw [mid_0, mid_0]; first | done | exact ⟨rfl, rfl⟩ | rfl | trace_state
  · exact Nat.zero_le _
  refine vc_nf rfl rfl ?_
  have hml : (midX (FT ws k vs) (trs ws vs) i).length = ws.length := by rw [mid_len, trs_len hvs]
  refine vc_seq' ?_
  refine vc_sr ?_
  iterate 2 refine vo ?_
  refine vkl ?_
  try first | refine vlb ?_ | refine vln ?_
  refine vo ?_
  refine vnt ?_
  refine vc_if (fun g1 => ?_) (fun g1 => ?_)
  · have hpl := preW_le ws (show i + 1 ≤ ws.length by omega)
    have hps := preW_stp (show i < ws.length by omega)
    have hbi := hb _ (atp_mem (show i < ws.length by omega))
    refine vc_skip ?_
    refine thn ?_
    refine vc_seq' ?_
    refine vc_block ?_
    refine vc_sr ?_
    iterate 3 refine vo ?_
    refine vkx ?_
    try with_reducible (first | refine vep ?_ | refine vpt ?_)
    refine vo ?_
    refine vks (g := trE) ((⟨k + (preW ws i : Int), (at' (midX (FT ws k vs) (trs ws vs) i) i).s, (at' (midX (FT ws k vs) (trs ws vs) i) i).v⟩ : Tr)) ?_
    obtain ⟨X1, hX1⟩ : ∃ X, List.set (midX (FT ws k vs) (trs ws vs) i) i ((⟨k + (preW ws i : Int), (at' (midX (FT ws k vs) (trs ws vs) i) i).s, (at' (midX (FT ws k vs) (trs ws vs) i) i).v⟩ : Tr)) = X := ⟨_, rfl⟩
    rw [hX1]
    have hl1 : X1.length = (midX (FT ws k vs) (trs ws vs) i).length := by rw [← hX1, List.length_set]
    have ha1 : at' X1 i = ((⟨k + (preW ws i : Int), (at' (midX (FT ws k vs) (trs ws vs) i) i).s, (at' (midX (FT ws k vs) (trs ws vs) i) i).v⟩ : Tr)) := by rw [← hX1, at_set (by omega), if_pos rfl]
    refine vnt ?_
    refine vc_sr ?_
    iterate 2 refine vo ?_
    try refine vwr ?_
    refine vo ?_
    refine vnt ?_
    refine vc_sr ?_
    iterate 3 refine vo ?_
    refine vkx ?_
    try with_reducible (first | refine vep ?_ | refine vpt ?_)
    refine vo ?_
    refine vks (g := trE) ((⟨(at' X1 i).c, k + (preW ws i : Int) + 1, (at' X1 i).v⟩ : Tr)) ?_
    obtain ⟨X2, hX2⟩ : ∃ X, List.set (X1) i ((⟨(at' X1 i).c, k + (preW ws i : Int) + 1, (at' X1 i).v⟩ : Tr)) = X := ⟨_, rfl⟩
    rw [hX2]
    have hl2 : X2.length = (X1).length := by rw [← hX2, List.length_set]
    have ha2 : at' X2 i = ((⟨(at' X1 i).c, k + (preW ws i : Int) + 1, (at' X1 i).v⟩ : Tr)) := by rw [← hX2, at_set (by omega), if_pos rfl]
    refine vnt ?_
    refine vc_sr ?_
    iterate 2 refine vo ?_
    try refine vwr ?_
    refine vo ?_
    refine vnt ?_
    refine vc_region ?_
    iterate 2 refine vo ?_
    refine vkx ?_
    try with_reducible (first | refine vep ?_ | refine vpt ?_)
    refine vo ?_
    refine vkv ?_
    have hT0 : at' (midX (FT ws k vs) (trs ws vs) i) i = at' (trs ws vs) i := mid_at (by rw [trs_len hvs]; omega)
    have hTv : (at' (trs ws vs) i).v = vs.getD i undef := by rw [trs_at hvs (by omega)]
    have hX3 : X2 = midX (FT ws k vs) (trs ws vs) (i + 1) := by (rw [← hX2, ha1, ← hX1, List.set_set, hT0, hTv]; exact mid_set (f := FT ws k vs) (l := trs ws vs) (i := i) (by rw [trs_len hvs]; omega))
    have hv : vs[i]? = some (at' X2 i).v := by rw [ha2]; show vs[i]? = some (at' X1 i).v; rw [ha1]; show vs[i]? = some (at' (midX (FT ws k vs) (trs ws vs) i) i).v; rw [hT0, hTv, List.getD_eq_getElem?_getD, getE_at (show i < vs.length by omega)]; rfl
    have hb : (midX (FB ws k) (ws.map (fun x : Sn => x.2.2)) i)[i]? = some (at' ws i).2.2 := by rw [getE_at (by rw [mid_len, List.length_map]; omega), mid_at (by rw [List.length_map]; omega), bufs_at (by omega)]
    refine vo ?_
    refine vhq (m := 7) i (c_laws_markIntS (xs := (at' ws i).2.2) (k := k + (preW ws i : Int) + 1 + 1)) hv hb ?_
    refine vo ?_
    refine vnil ?_
    refine inB_n ?_
    refine thn ?_
    refine vc_region ?_
    iterate 2 refine vo ?_
    try refine vwr ?_
    refine vo ?_
    refine vnt ?_
    refine ⟨i + 1, by omega, by omega, sub_i [(0, some 0), (7, some 7)] (fz ?_) (fz ?_)⟩
    · first | trivial | rfl | omega | exact ⟨by omega, rfl⟩ | exact ⟨rfl, by omega⟩ | exact ⟨by omega, by omega⟩ | trace_state
    · rw [hX3, ← mid_set (f := FB ws k) (l := ws.map (fun x : Sn => x.2.2)) (i := i) (by rw [List.length_map]; omega)]; first | done | exact ⟨rfl, rfl⟩ | rfl | trace_state
  · have hi : i = ws.length := by omega
    subst hi
    refine vc_exit ?_
    refine thn_x ?_
    refine thn_x ?_
    refine inB_x ?_
    refine thn ?_
    refine vc_sr ?_
    iterate 2 refine vo ?_
    refine vnt ?_
    refine vc_reS (k := 0) (j := 7) (ws := mkW ws k) (vs := vs) (L := midX (FT ws k vs) (trs ws vs) ws.length) (B := midX (FB ws k) (ws.map (fun x : Sn => x.2.2)) ws.length) (by rw [mkW_len]; exact hvs) (by rw [mid_end (by rw [trs_len hvs]; omega), trs_len hvs]; exact trs_mkW hvs) (by rw [mid_end (by rw [List.length_map]; omega), List.length_map]; exact bufs_mkW) ?_
    refine vc_nf rfl rfl ?_
    refine vc_ret ?_
    refine fin_g (()) (trivial) [(0, some 0), (1000003, some 1000003)] rfl (fz ?_) (fz ?_) <;> first | trivial | rfl | trace_state
set_option maxHeartbeats 4000000 in
theorem c_laws_markTxQueue {b s h t pb pz pc nx : Int} {xs : List Int} {ws : List Sn} {k : Int} (k0 : 0 < k := by omega) (k1 : k + xs.length + (preW ws ws.length : Nat) ≤ 4611686018427380000 := by omega) (hl_xs : xs.length ≤ 1099511627776 := by first | with_reducible assumption | omega | (simp only [rg_len]; omega)) (hl_ws : ws.length ≤ 1099511627776 := by first | with_reducible assumption | omega | (simp only [rg_len]; omega)) (hb : ∀ x ∈ ws, x.2.2.length ≤ 1099511627776 := by with_reducible assumption) : ConH2 Tryz.prog 19 [.agg [V b, V s, V h, V t, V pb, V pz, V pc, .hs 0, .hs 1, V nx], I k] (.arr 3 1 (xs.map intE)) (.own (sntOw 93 3 (ws.map snE))) (.arr 3 1 ((mkI xs.length k).map intE)) (.own (sntOw 93 3 ((mkW ws (k + xs.length)).map snE))) (.int .i64 (k + xs.length + (preW ws ws.length : Nat))) := by
  refine conh2_i Tryz.func19 Tryz.ntmps19 (fun L u v => ?_)
  refine vc_nf rfl rfl ?_
  refine vc_sr ?_
  iterate 2 refine vo ?_
  refine vnt ?_
  refine vc_sr ?_
  refine vo ?_
  first | refine vkd ?_ | refine vo ?_
  refine vo ?_
  refine vlt1 (c_laws_markPool (xs := xs) (k := k)) ?_
  refine vo ?_
  refine vnt ?_
  refine vc_sr ?_
  refine vo ?_
  first | refine vkd ?_ | refine vo ?_
  refine vo ?_
  refine vlt1 (c_laws_markSentS (ws := ws) (k := k + xs.length)) ?_
  refine vo ?_
  refine vnt ?_
  refine vc_sr ?_
  iterate 2 refine vo ?_
  refine vnt ?_
  refine vc_ret ?_
  refine fin_g (()) (trivial) [(0, some 0), (1, some 1), (1000003, some 1000003)] rfl (fz ?_) (fz ?_) <;> first | trivial | rfl | exact ⟨rfl, rfl⟩ | trace_state
end Go.Proofs.YtnikopahkjmneaaGreat
end

/- Part 5 of what the proof of FnExactTransmitAll rests on: an idealised machine, contracts of functions, and the walk of the law. No condition. -/
import Derived.Test.YtgbjkojgjhcabaaGreatMFnExactTransmitAlld
section
namespace Go.Proofs.YtgbjkojgjhcabaaGreat
open Go Go.RowKit Go.Vc
set_option linter.unusedVariables false
set_option linter.unusedSimpArgs false
set_option linter.unnecessarySimpa false
theorem eb_body {t : ByteArray} (h : ethPB t = true) : (ethX t).body = t.extract (sumsA t).toNat t.size ∧ sumsA t + 46 ≤ t.size := by
  unfold ethPB at h
  rw [Bool.and_eq_true, decide_eq_true_eq] at h
  obtain ⟨h1, h2⟩ := h
  have h3 : inB ((ethX t).body.size : Int) 46 400 = true := by
    unfold EthX.ok ethOkB at h2
    simp only [Bool.and_eq_true] at h2
    exact h2.2
  have h4 := inB_iff.1 h3
  have e14 : Int.toNat 14 = 14 := rfl
  have e18 : Int.toNat 18 = 18 := rfl
  by_cases g : get16 t 12 = 33024
  · have hx : (ethX t).body = t.extract (Int.toNat 18) t.size := by unfold ethX; rw [if_pos ⟨g, h1⟩]
    have ha : sumsA t = 18 := if_pos g
    rw [hx, ByteArray.size_extract] at h4
    rw [hx, ha]
    exact ⟨rfl, by omega⟩
  · have hx : (ethX t).body = t.extract (Int.toNat 14) t.size := by unfold ethX; rw [if_neg (fun hh => g hh.1)]
    have ha : sumsA t = 14 := if_neg g
    rw [hx, ByteArray.size_extract] at h4
    rw [hx, ha]
    exact ⟨rfl, by omega⟩
theorem get16_ex {t : ByteArray} {a i : Int} (h0 : 0 ≤ a) (ha : a ≤ t.size) (hi : 0 ≤ i) : get16 (t.extract a.toNat t.size) i = get16 t (a + i) := by
  unfold get16
  rw [ByteArray.size_extract]
  by_cases h : i + 2 ≤ (t.size : Int) - a
  · rw [if_pos (by omega), if_pos (by omega), bAt_extract, if_pos (by omega), bAt_extract, if_pos (by omega), show a.toNat + i.toNat = (a + i).toNat by omega, show a.toNat + (i.toNat + 1) = (a + i).toNat + 1 by omega]
  · rw [if_neg (by omega), if_neg (by omega)]
theorem get32_ex {t : ByteArray} {a i : Int} (h0 : 0 ≤ a) (ha : a ≤ t.size) (hi : 0 ≤ i) : get32 (t.extract a.toNat t.size) i = get32 t (a + i) := by
  unfold get32
  rw [ByteArray.size_extract]
  by_cases h : i + 4 ≤ (t.size : Int) - a
  · rw [if_pos (by omega), if_pos (by omega), bAt_extract, if_pos (by omega), bAt_extract, if_pos (by omega), bAt_extract, if_pos (by omega), bAt_extract, if_pos (by omega), show a.toNat + i.toNat = (a + i).toNat by omega, show a.toNat + (i.toNat + 1) = (a + i).toNat + 1 by omega, show a.toNat + (i.toNat + 2) = (a + i).toNat + 2 by omega, show a.toNat + (i.toNat + 3) = (a + i).toNat + 3 by omega]
  · rw [if_neg (by omega), if_neg (by omega)]
theorem ex_ex {t : ByteArray} {a i j : Nat} (h : a + j ≤ t.size) : (t.extract a t.size).extract i j = t.extract (a + i) (a + j) := by
  rw [ByteArray.extract_extract, Nat.min_eq_left h]
theorem fe_n {t : ByteArray} (h : ethPB t = true) : get16 (ethX t).body 2 = fsN t := by
  obtain ⟨hb, hs⟩ := eb_body h
  have := sumsA_bd t
  rw [hb, get16_ex (by omega) (by omega) (by omega)]; rfl
theorem fe_32 {t : ByteArray} (h : ethPB t = true) {i : Int} (hi : 0 ≤ i) : get32 (ethX t).body i = get32 t (sumsA t + i) := by
  obtain ⟨hb, hs⟩ := eb_body h
  have := sumsA_bd t
  rw [hb, get32_ex (by omega) (by omega) hi]
theorem fe_k {t : ByteArray} (h : ethPB t = true) : (bAt (ethX t).body (Int.toNat 9) : Int) = sumsK t := by
  obtain ⟨hb, hs⟩ := eb_body h
  have := sumsA_bd t
  have e9 : Int.toNat 9 = 9 := rfl
  unfold sumsK
  rw [hb, bAt_extract, if_pos (by omega), show (sumsA t).toNat + Int.toNat 9 = (sumsA t + 9).toNat by omega]
theorem fe_z {t : ByteArray} (h : ethPB t = true) : ((ethX t).body.size : Int) = t.size - sumsA t := by
  obtain ⟨hb, hs⟩ := eb_body h
  have := sumsA_bd t
  rw [hb, ByteArray.size_extract]; omega
theorem fe_g {t : ByteArray} (h : ethPB t = true) (h1 : 20 ≤ fsN t) (h2 : fsN t ≤ t.size - sumsA t) : (ethX t).body.extract (Int.toNat 20) (fsN t).toNat = t.extract (sumsA t + 20).toNat (sumsA t + fsN t).toNat := by
  obtain ⟨hb, hs⟩ := eb_body h
  have := sumsA_bd t
  have e20 : Int.toNat 20 = 20 := rfl
  rw [hb, ex_ex (by omega), show (sumsA t).toNat + Int.toNat 20 = (sumsA t + 20).toNat by omega, show (sumsA t).toNat + (fsN t).toNat = (sumsA t + fsN t).toNat by omega]
theorem fe_h {t : ByteArray} (h : ethPB t = true) : (ethX t).body.extract (Int.toNat 0) (Int.toNat 20) = t.extract (sumsA t).toNat (sumsA t + 20).toNat := by
  obtain ⟨hb, hs⟩ := eb_body h
  have := sumsA_bd t
  have e20 : Int.toNat 20 = 20 := rfl
  have e0 : Int.toNat 0 = 0 := rfl
  rw [hb, ex_ex (by omega), show (sumsA t).toNat + Int.toNat 20 = (sumsA t + 20).toNat by omega, show (sumsA t).toNat + Int.toNat 0 = (sumsA t).toNat by omega]
theorem fs_ps {t : ByteArray} (h : sumsA t + 46 ≤ t.size) (h1 : 20 ≤ fsN t) : psOkB (get32 t (sumsA t + 12)) (get32 t (sumsA t + 16)) (sumsK t) (fsN t - 20) = true := by
  have ha := sumsA_bd t
  have a := get32_in (s := t) (i := sumsA t + 12) (by omega) (by omega)
  have b := get32_in (s := t) (i := sumsA t + 16) (by omega) (by omega)
  have c := bAt_lt t (sumsA t + 9).toNat
  have d := (get16_bd t (sumsA t + 2)).2
  unfold psOkB
  rw [inB_iff.2 a, inB_iff.2 b, inB_iff.2 (show 0 ≤ sumsK t ∧ sumsK t ≤ 255 by unfold sumsK; omega), inB_iff.2 (show 0 ≤ fsN t - 20 ∧ fsN t - 20 ≤ 65535 by unfold fsN at *; omega)]
  rfl
def smA (s : ByteArray) : Int := if sumsA s + 46 ≤ s.size then sumsA s + 10 else -1
def smB (s : ByteArray) : Int := if sumsA s + 46 ≤ s.size then sumsB s else -1
theorem fs_bad {t : ByteArray} (h : fsOk t = false ∨ ¬ rdC (fsS t) = 0 ∨ ¬ (rdF (fsS t)).tm = t) : fsF t = ⟨#[]⟩ ∧ fsB t = false := by
  refine fs_no ?_
  unfold fsB
  rcases h with h | h | h
  · rw [h]; rfl
  · rw [decide_eq_false h]; simp
  · rw [decide_eq_false h]; simp
theorem fsOk_n {t : ByteArray} (h : t.size < sumsA t + 46 ∨ fsN t < sumsB t + 2 - sumsA t ∨ t.size - sumsA t < fsN t) : fsOk t = false := by
  unfold fsOk
  rcases h with h | h | h
  · rw [decide_eq_false (by omega)]; rfl
  · rw [decide_eq_false (p := sumsB t + 2 - sumsA t ≤ fsN t) (by omega)]; simp
  · rw [decide_eq_false (p := fsN t ≤ t.size - sumsA t) (by omega)]; simp
theorem fsOk_y {t : ByteArray} (h1 : sumsA t + 46 ≤ t.size) (h2 : sumsB t + 2 - sumsA t ≤ fsN t) (h3 : fsN t ≤ t.size - sumsA t) : fsOk t = true := by
  unfold fsOk
  rw [decide_eq_true h1, decide_eq_true h2, decide_eq_true h3]; rfl
theorem fs_eth {t : ByteArray} (h : ethPB t = false) : fsF t = ⟨#[]⟩ ∧ fsB t = false := by
  refine fs_no ?_
  rw [Bool.eq_false_iff]
  intro hh
  have := (fs_facts hh).2.2.2.2.2
  rw [h] at this; cases this
theorem fs_zero {t : ByteArray} (h : ¬ get16 t (sumsA t + 10) = 0 ∨ ¬ get16 t (sumsB t) = 0) : fsF t = ⟨#[]⟩ ∧ fsB t = false := by
  refine fs_no ?_
  rw [Bool.eq_false_iff]
  intro hh
  obtain ⟨_, _, _, h1, h2, _⟩ := fs_facts hh
  rcases h with h | h
  · exact h h1
  · exact h h2
end Go.Proofs.YtgbjkojgjhcabaaGreat
end
section
namespace Go.Proofs.YtgbjkojgjhcabaaGreat
open Go Go.RowKit Go.Vc
set_option linter.unusedVariables false
set_option linter.unusedSimpArgs false
set_option linter.unnecessarySimpa false
set_option maxHeartbeats 4000000 in
theorem c_impl_sumPlaces {s : ByteArray} (hs_s : s.size ≤ 1099511627776 := by first | with_reducible assumption | omega | (simp only [ByteArray.size_append, ByteArray.size_extract, strOfNums_size, List.length_cons, List.length_nil]; omega)) : Con0 Tryz.prog 125 [Z s] (.tup [I (sumsA s + 10), I (sumsB s)]) [] := by
  refine con_i Tryz.func125 Tryz.ntmps125 (t := [(0, Z s)]) rfl ?_
  refine vc_sr ?_
  iterate 2 refine vo ?_
  refine vnt ?_
  refine vc_sr ?_
  refine vo ?_
  refine vnt ?_
  refine vc_seq' ?_
  refine vc_sr ?_
  refine vo ?_
  refine voc c_impl_Get16 rfl rfl ?_
  refine vo ?_
  refine vnt ?_
  refine vc_if (fun g1 => ?_) (fun g1 => ?_)
  · refine vc_region ?_
    refine vo ?_
    refine vnt ?_
    refine vc_sr ?_
    refine vo ?_
    refine vnt ?_
    refine vc_seq' ?_
    refine vc_sr ?_
    iterate 2 refine vo ?_
    try refine vwr ?_
    iterate 3 refine vo ?_
    refine vnt ?_
    refine vc_if (fun g2 => ?_) (fun g2 => ?_)
    · refine vc_region ?_
      iterate 3 refine vo ?_
      try refine vwr ?_
      iterate 2 refine vo ?_
      try refine veq (i64_byt _ _) ?_
      refine vo ?_
      refine vnt ?_
      refine vc_sr ?_
      iterate 2 refine vo ?_
      try refine vwr ?_
      iterate 2 refine vo ?_
      try refine vwr ?_
      refine vo ?_
      refine voc c_impl_sumPlace rfl rfl ?_
      refine vo ?_
      try refine vwr ?_
      iterate 2 refine vo ?_
      refine vnt ?_
      refine vc_ret ?_
      refine fin_i [] rfl (fz ?_) trivial
      have ha : sumsA s = 18 := if_pos g1
      have hk : sumsK s = (bAt s ((18 : Int) + 9).toNat : Int) := by unfold sumsK; rw [ha]
      have hb := sumsB_bd s
      unfold sumsB at *
      rw [ha, hk] at *
      exact ⟨rfl, (wr_id (by omega) (by omega)).symm⟩
    · refine vc_skip ?_
      refine thn ?_
      refine vc_sr ?_
      iterate 2 refine vo ?_
      try refine vwr ?_
      iterate 2 refine vo ?_
      try refine vwr ?_
      refine vo ?_
      refine voc c_impl_sumPlace rfl rfl ?_
      refine vo ?_
      try refine vwr ?_
      iterate 2 refine vo ?_
      refine vnt ?_
      refine vc_ret ?_
      refine fin_i [] rfl (fz ?_) trivial
      have ha : sumsA s = 18 := if_pos g1
      have hk : sumsK s = 0 := by unfold sumsK; rw [ha, show bAt s ((18 : Int) + 9).toNat = 0 by unfold bAt; rw [dif_neg (by omega)]]; rfl
      have hb := sumsB_bd s
      unfold sumsB at *
      rw [ha, hk] at *
      exact ⟨rfl, (wr_id (by omega) (by omega)).symm⟩
  · refine vc_skip ?_
    refine thn ?_
    refine vc_sr ?_
    refine vo ?_
    refine vnt ?_
    refine vc_seq' ?_
    refine vc_sr ?_
    iterate 2 refine vo ?_
    try refine vwr ?_
    iterate 3 refine vo ?_
    refine vnt ?_
    refine vc_if (fun g3 => ?_) (fun g3 => ?_)
    · refine vc_region ?_
      iterate 3 refine vo ?_
      try refine vwr ?_
      iterate 2 refine vo ?_
      try refine veq (i64_byt _ _) ?_
      refine vo ?_
      refine vnt ?_
      refine vc_sr ?_
      iterate 2 refine vo ?_
      try refine vwr ?_
      iterate 2 refine vo ?_
      try refine vwr ?_
      refine vo ?_
      refine voc c_impl_sumPlace rfl rfl ?_
      refine vo ?_
      try refine vwr ?_
      iterate 2 refine vo ?_
      refine vnt ?_
      refine vc_ret ?_
      refine fin_i [] rfl (fz ?_) trivial
      have ha : sumsA s = 14 := if_neg g1
      have hk : sumsK s = (bAt s ((14 : Int) + 9).toNat : Int) := by unfold sumsK; rw [ha]
      have hb := sumsB_bd s
      unfold sumsB at *
      rw [ha, hk] at *
      exact ⟨rfl, (wr_id (by omega) (by omega)).symm⟩
    · refine vc_skip ?_
      refine thn ?_
      refine vc_sr ?_
      iterate 2 refine vo ?_
      try refine vwr ?_
      iterate 2 refine vo ?_
      try refine vwr ?_
      refine vo ?_
      refine voc c_impl_sumPlace rfl rfl ?_
      refine vo ?_
      try refine vwr ?_
      iterate 2 refine vo ?_
      refine vnt ?_
      refine vc_ret ?_
      refine fin_i [] rfl (fz ?_) trivial
      have ha : sumsA s = 14 := if_neg g1
      have hk : sumsK s = 0 := by unfold sumsK; rw [ha, show bAt s ((14 : Int) + 9).toNat = 0 by unfold bAt; rw [dif_neg (by omega)]]; rfl
      have hb := sumsB_bd s
      unfold sumsB at *
      rw [ha, hk] at *
      exact ⟨rfl, (wr_id (by omega) (by omega)).symm⟩
set_option maxHeartbeats 4000000 in
theorem c_spec_l22Sums {s : ByteArray} (hs_s : s.size ≤ 1099511627776 := by first | with_reducible assumption | omega | (simp only [ByteArray.size_append, ByteArray.size_extract, strOfNums_size, List.length_cons, List.length_nil]; omega)) : Con0 Tryz.prog 102 [Z s] (.tup [I (smA s), I (smB s)]) [] := by
  refine con_i Tryz.func102 Tryz.ntmps102 (t := [(0, Z s)]) rfl ?_
  refine vc_sr ?_
  iterate 2 refine vo ?_
  refine vnt ?_
  refine vc_sr ?_
  refine vo ?_
  refine vnt ?_
  refine vc_seq' ?_
  refine vc_sr ?_
  refine vo ?_
  refine voc c_spec_Get16 rfl rfl ?_
  refine vo ?_
  refine vnt ?_
  refine vc_if (fun g1 => ?_) (fun g1 => ?_)
  · refine vc_region ?_
    refine vo ?_
    refine vnt ?_
    refine vc_seq' ?_
    refine vc_sr ?_
    iterate 4 refine vo ?_
    try refine vwr ?_
    refine vo ?_
    refine vnt ?_
    refine vc_if (fun g2 => ?_) (fun g2 => ?_)
    · refine vc_sr ?_
      iterate 2 refine vo ?_
      refine vnt ?_
      refine vc_ret ?_
      refine thn_r ?_
      refine fin_i [] rfl (fz ?_) trivial
      have ha : sumsA s = 18 := if_pos g1
      unfold smA smB; rw [ha, if_neg (by omega), if_neg (by omega)]
      exact ⟨rfl, rfl⟩
    · refine vc_skip ?_
      refine thn ?_
      refine vc_seq' ?_
      refine vc_sr ?_
      iterate 3 refine vo ?_
      try refine vwr ?_
      iterate 2 refine vo ?_
      try refine veq (i64_byt _ _) ?_
      refine vo ?_
      refine vnt ?_
      refine vc_if (fun g3 => ?_) (fun g3 => ?_)
      · refine vc_sr ?_
        iterate 2 refine vo ?_
        try refine vwr ?_
        iterate 2 refine vo ?_
        try refine vwr ?_
        iterate 2 refine vo ?_
        refine vnt ?_
        refine vc_ret ?_
        refine thn_r ?_
        refine fin_i [] rfl (fz ?_) trivial
        have ha : sumsA s = 18 := if_pos g1
        unfold smA smB; rw [ha, if_pos (by omega), if_pos (by omega)]
        have hk : sumsK s = (bAt s ((18 : Int) + 9).toNat : Int) := by unfold sumsK; rw [ha]
        have hg := g3
        refine ⟨rfl, ?_⟩
        unfold sumsB sumPl
        rw [ha, hk, if_pos hg]
        try rfl
      · refine vc_skip ?_
        refine thn ?_
        refine vc_sr ?_
        iterate 2 refine vo ?_
        try refine vwr ?_
        iterate 2 refine vo ?_
        try refine vwr ?_
        iterate 2 refine vo ?_
        refine vnt ?_
        refine vc_ret ?_
        refine fin_i [] rfl (fz ?_) trivial
        have ha : sumsA s = 18 := if_pos g1
        unfold smA smB; rw [ha, if_pos (by omega), if_pos (by omega)]
        have hk : sumsK s = (bAt s ((18 : Int) + 9).toNat : Int) := by unfold sumsK; rw [ha]
        have hg := g3
        refine ⟨rfl, ?_⟩
        unfold sumsB sumPl
        rw [ha, hk, if_neg hg]
        try rfl
  · refine vc_skip ?_
    refine thn ?_
    refine vc_seq' ?_
    refine vc_sr ?_
    iterate 4 refine vo ?_
    try refine vwr ?_
    refine vo ?_
    refine vnt ?_
    refine vc_if (fun g4 => ?_) (fun g4 => ?_)
    · refine vc_sr ?_
      iterate 2 refine vo ?_
      refine vnt ?_
      refine vc_ret ?_
      refine thn_r ?_
      refine fin_i [] rfl (fz ?_) trivial
      have ha : sumsA s = 14 := if_neg g1
      unfold smA smB; rw [ha, if_neg (by omega), if_neg (by omega)]
      exact ⟨rfl, rfl⟩
    · refine vc_skip ?_
      refine thn ?_
      refine vc_seq' ?_
      refine vc_sr ?_
      iterate 3 refine vo ?_
      try refine vwr ?_
      iterate 2 refine vo ?_
      try refine veq (i64_byt _ _) ?_
      refine vo ?_
      refine vnt ?_
      refine vc_if (fun g5 => ?_) (fun g5 => ?_)
      · refine vc_sr ?_
        iterate 2 refine vo ?_
        try refine vwr ?_
        iterate 2 refine vo ?_
        try refine vwr ?_
        iterate 2 refine vo ?_
        refine vnt ?_
        refine vc_ret ?_
        refine thn_r ?_
        refine fin_i [] rfl (fz ?_) trivial
        have ha : sumsA s = 14 := if_neg g1
        unfold smA smB; rw [ha, if_pos (by omega), if_pos (by omega)]
        have hk : sumsK s = (bAt s ((14 : Int) + 9).toNat : Int) := by unfold sumsK; rw [ha]
        have hg := g5
        refine ⟨rfl, ?_⟩
        unfold sumsB sumPl
        rw [ha, hk, if_pos hg]
        try rfl
      · refine vc_skip ?_
        refine thn ?_
        refine vc_sr ?_
        iterate 2 refine vo ?_
        try refine vwr ?_
        iterate 2 refine vo ?_
        try refine vwr ?_
        iterate 2 refine vo ?_
        refine vnt ?_
        refine vc_ret ?_
        refine fin_i [] rfl (fz ?_) trivial
        have ha : sumsA s = 14 := if_neg g1
        unfold smA smB; rw [ha, if_pos (by omega), if_pos (by omega)]
        have hk : sumsK s = (bAt s ((14 : Int) + 9).toNat : Int) := by unfold sumsK; rw [ha]
        have hg := g5
        refine ⟨rfl, ?_⟩
        unfold sumsB sumPl
        rw [ha, hk, if_neg hg]
        try rfl
theorem im_sz {p : Pk} (h : p.sup = true) : p.im.size ≤ 1000 ∧ p.sc = true ∧ smA p.im = sumsA p.im + 10 ∧ smB p.im = sumsB p.im := by
  have h1 := sup_img h
  have h2 := (img_lay h).1
  refine ⟨h1.2, h1.1, ?_, ?_⟩
  · unfold smA; rw [if_pos (by omega)]
  · unfold smB; rw [if_pos (by omega)]
theorem sc_sup {p : Pk} (h : p.sc = false) : p.sup = false := by
  cases hs : p.sup with
  | false => rfl
  | true => rw [(im_sz hs).2.1] at h; cases h
theorem sc_sup2 {p : Pk} (h : p.sc = true) : p.sup = true := by
  unfold Pk.sc supC at h
  rw [Bool.and_eq_true] at h
  exact h.1
theorem tm_n {p : Pk} (h : p.sup = false) : p.tm = ⟨#[]⟩ := if_neg (by rw [h]; decide)
theorem tm_y {p : Pk} (h : p.sup = true) : p.tm = putBF (putBF p.im (sumsA p.im + 10) (word16 0)) (sumsB p.im) (word16 0) := if_pos h
set_option maxHeartbeats 4000000 in
theorem c_impl_Template {p : Pk} (hz_p : p.body.size ≤ 1099511627776 := by first | assumption | omega) : Con0 Tryz.prog 132 [.agg [V (p).dm, V (p).sm, V (p).vl, V (p).tos, V (p).id, V (p).ttl, V (p).si, V (p).di, V (p).kind, V (p).sp, V (p).dp, V (p).seq, V (p).ack, V (p).fl, V (p).win, VS (p).body]] (.tup [Z p.tm, B p.sup]) [] := by
  refine con_i Tryz.func132 Tryz.ntmps132 (t := [(0, .agg [V (p).dm, V (p).sm, V (p).vl, V (p).tos, V (p).id, V (p).ttl, V (p).si, V (p).di, V (p).kind, V (p).sp, V (p).dp, V (p).seq, V (p).ack, V (p).fl, V (p).win, VS (p).body])]) rfl ?_
  refine vc_sr ?_
  iterate 3 refine vo ?_
  refine vnt ?_
  refine vc_sr ?_
  refine vo ?_
  refine voc c_impl_BuildImage rfl rfl ?_
  iterate 5 refine vo ?_
  refine vnt ?_
  refine vc_seq' ?_
  refine vc_sr ?_
  iterate 2 refine vo ?_
  refine vnt ?_
  refine vc_if (fun g1 => ?_) (fun g1 => ?_)
  · refine vc_sr ?_
    iterate 2 refine vo ?_
    refine vnt ?_
    refine vc_ret ?_
    refine thn_r ?_
    refine fin_i [] rfl (fz ?_) trivial
    have hs : p.sup = false := sc_sup g1
    rw [tm_n hs, hs]
    trivial
  · have hs : p.sup = true := sc_sup2 g1
    obtain ⟨hz, _, ea, eb⟩ := im_sz hs
    have hz1 : (imgR p.dm p.sm p.vl p.tos p.id p.ttl p.si p.di p.kind p.sp p.dp p.seq p.ack p.fl p.win p.body).size ≤ 1000 := hz
    have hz2 : (imgR p.dm p.sm p.vl p.tos p.id p.ttl p.si p.di p.kind p.sp p.dp p.seq p.ack p.fl p.win p.body).size ≤ 1099511627776 := by omega
    refine vc_skip ?_
    refine thn ?_
    refine vc_sr ?_
    refine vo ?_
    refine voc c_impl_sumPlaces rfl rfl ?_
    iterate 5 refine vo ?_
    refine vnt ?_
    refine vc_sr ?_
    iterate 2 refine vo ?_
    refine voc c_impl_Word16 rfl rfl ?_
    refine vzs (word16_le _) fun z1 => ?_
    refine voc c_impl_PutBytes rfl rfl ?_
    refine vzs (Nat.le_of_eq (putBF_le _ _ _)) fun z2 => ?_
    refine vo ?_
    refine voc c_impl_Word16 rfl rfl ?_
    refine vzs (word16_le _) fun z3 => ?_
    refine voc c_impl_PutBytes rfl rfl ?_
    refine vzs (Nat.le_of_eq (putBF_le _ _ _)) fun z4 => ?_
    iterate 2 refine vo ?_
    refine vnt ?_
    refine vc_ret ?_
    refine fin_i [] rfl (fz ?_) trivial
    rw [tm_y hs, hs]
    first | exact ⟨rfl, rfl⟩ | (rw [← ea, ← eb]; exact ⟨rfl, rfl⟩)
set_option maxHeartbeats 4000000 in
theorem c_spec_Template {p : Pk} (hz_p : p.body.size ≤ 1099511627776 := by first | assumption | omega) : Con0 Tryz.prog 109 [.agg [V (p).dm, V (p).sm, V (p).vl, V (p).tos, V (p).id, V (p).ttl, V (p).si, V (p).di, V (p).kind, V (p).sp, V (p).dp, V (p).seq, V (p).ack, V (p).fl, V (p).win, VS (p).body]] (.tup [Z p.tm, B p.sup]) [] := by
  refine con_i Tryz.func109 Tryz.ntmps109 (t := [(0, .agg [V (p).dm, V (p).sm, V (p).vl, V (p).tos, V (p).id, V (p).ttl, V (p).si, V (p).di, V (p).kind, V (p).sp, V (p).dp, V (p).seq, V (p).ack, V (p).fl, V (p).win, VS (p).body])]) rfl ?_
  refine vc_sr ?_
  iterate 3 refine vo ?_
  refine vnt ?_
  refine vc_sr ?_
  refine vo ?_
  refine voc c_spec_BuildImage rfl rfl ?_
  iterate 5 refine vo ?_
  refine vnt ?_
  refine vc_seq' ?_
  refine vc_sr ?_
  iterate 2 refine vo ?_
  refine vnt ?_
  refine vc_if (fun g1 => ?_) (fun g1 => ?_)
  · refine vc_sr ?_
    iterate 2 refine vo ?_
    refine vnt ?_
    refine vc_ret ?_
    refine thn_r ?_
    refine fin_i [] rfl (fz ?_) trivial
    have hs : p.sup = false := sc_sup g1
    rw [tm_n hs, hs]
    trivial
  · have hs : p.sup = true := sc_sup2 g1
    obtain ⟨hz, _, ea, eb⟩ := im_sz hs
    have hz1 : (imgR p.dm p.sm p.vl p.tos p.id p.ttl p.si p.di p.kind p.sp p.dp p.seq p.ack p.fl p.win p.body).size ≤ 1000 := hz
    have hz2 : (imgR p.dm p.sm p.vl p.tos p.id p.ttl p.si p.di p.kind p.sp p.dp p.seq p.ack p.fl p.win p.body).size ≤ 1099511627776 := by omega
    refine vc_skip ?_
    refine thn ?_
    refine vc_sr ?_
    refine vo ?_
    refine voc c_spec_l22Sums rfl rfl ?_
    iterate 5 refine vo ?_
    refine vnt ?_
    refine vc_sr ?_
    iterate 2 refine vo ?_
    refine voc c_spec_Word16 rfl rfl ?_
    refine vzs (word16_le _) fun z1 => ?_
    refine voc c_spec_PutBytes rfl rfl ?_
    refine vzs (Nat.le_of_eq (putBF_le _ _ _)) fun z2 => ?_
    refine vo ?_
    refine voc c_spec_Word16 rfl rfl ?_
    refine vzs (word16_le _) fun z3 => ?_
    refine voc c_spec_PutBytes rfl rfl ?_
    refine vzs (Nat.le_of_eq (putBF_le _ _ _)) fun z4 => ?_
    iterate 2 refine vo ?_
    refine vnt ?_
    refine vc_ret ?_
    refine fin_i [] rfl (fz ?_) trivial
    rw [tm_y hs, hs]
    first | exact ⟨rfl, rfl⟩ | (rw [← ea, ← eb]; exact ⟨rfl, rfl⟩)
theorem ethPF_sz (t : ByteArray) : (ethPF t).body.size ≤ t.size := by
  unfold ethPF
  split
  · exact ethX_body t
  · exact Nat.zero_le _
theorem sumPl_bd (k : Int) : 6 ≤ sumPl k ∧ sumPl k ≤ 16 := by unfold sumPl; split <;> omega
theorem sm_neg {t : ByteArray} (h : smA t < 0) : t.size < sumsA t + 46 := by
  have := sumsA_bd t
  unfold smA at h
  split at h <;> omega
theorem sm_pos {t : ByteArray} (h : ¬ smA t < 0) : sumsA t + 46 ≤ t.size ∧ smA t = sumsA t + 10 ∧ smB t = sumsB t := by
  have g : sumsA t + 46 ≤ t.size := by
    unfold smA at h
    split at h
    · assumption
    · omega
  exact ⟨g, if_pos g, if_pos g⟩
theorem fsS_sz (t : ByteArray) : (fsS t).size = t.size := by unfold fsS; rw [putBF_le, putBF_le]
theorem rdF_bz (s : ByteArray) : (rdF s).body.size ≤ 1099511627776 := by
  by_cases h : rdC s = 0
  · have := (superOk_facts (rdC_sup h)).2.2.2.2.2.2.2.2.2; omega
  · rw [rdF, if_neg h]; exact Nat.zero_le _
theorem fs_gl {t : ByteArray} (h0 : sumsA t + 46 ≤ t.size) (h1 : 20 ≤ fsN t) (h2 : fsN t ≤ t.size - sumsA t) : ((t.extract (sumsA t + 20).toNat (sumsA t + fsN t).toNat).size : Int) = fsN t - 20 := by
  have := sumsA_bd t
  rw [ByteArray.size_extract]; omega
set_option maxHeartbeats 4000000 in
theorem c_impl_FillSums {t : ByteArray} (hs_t : t.size ≤ 1099511627776 := by first | with_reducible assumption | omega | (simp only [ByteArray.size_append, ByteArray.size_extract, strOfNums_size, List.length_cons, List.length_nil]; omega)) : Con0 Tryz.prog 55 [Z t] (.tup [Z (fsF t), B (fsB t)]) [] := by
  have zp : (ethPF t).body.size ≤ 1099511627776 := Nat.le_trans (ethPF_sz t) hs_t
  refine con_i Tryz.func55 Tryz.ntmps55 (t := [(0, Z t)]) rfl ?_
  refine vc_sr ?_
  iterate 2 refine vo ?_
  refine vnt ?_
  refine vc_sr ?_
  refine vo ?_
  refine voc c_impl_ParseEth rfl rfl ?_
  iterate 6 refine vo ?_
  refine vnt ?_
  refine vc_sr ?_
  iterate 2 refine vo ?_
  refine voc (c_impl_Get16 (hs := by first | omega | (simp only [ByteArray.size_append, ByteArray.size_extract]; omega))) rfl rfl ?_
  refine vo ?_
  refine vnt ?_
  refine vc_seq' ?_
  refine vc_sr ?_
  iterate 3 refine vo ?_
  refine vsp (fun g1 => ?_) (fun g1 => ?_)
  · iterate 2 refine vof ?_
    iterate 2 refine vo ?_
    iterate 5 refine vof ?_
    refine vo ?_
    refine vnt ?_
    refine vc_then ?_
    refine vc_sr ?_
    iterate 2 refine vo ?_
    refine vnt ?_
    refine vc_ret ?_
    refine thn_r ?_
    refine fin_i [] rfl (fz ?_) trivial
    have hh := fs_eth g1
    rw [hh.1, hh.2]
    trivial
  · rw [ethPF_y g1, fe_n g1]
    obtain ⟨hb, hsz⟩ := eb_body g1
    have zz := fe_z g1
    have zb : (ethX t).body.size ≤ 1099511627776 := Nat.le_trans (ethX_body t) hs_t
    have ha := sumsA_bd t
    have hbb := sumsB_bd t
    have hnb : -1 ≤ fsN t ∧ fsN t ≤ 65535 := get16_bd t _
    have hpl := sumPl_bd (sumsK t)
    have hBd : sumsB t = sumsA t + 20 + sumPl (sumsK t) := rfl
    iterate 2 refine von ?_
    iterate 2 refine vo ?_
    refine vsp (fun g2 => ?_) (fun g2 => ?_)
    · iterate 5 refine vof ?_
      refine vo ?_
      refine vnt ?_
      refine vc_then ?_
      refine vc_sr ?_
      iterate 2 refine vo ?_
      refine vnt ?_
      refine vc_ret ?_
      refine thn_r ?_
      refine fin_i [] rfl (fz ?_) trivial
      have hh := fs_bad (t := t) (.inl (fsOk_n (.inr (.inl (by omega)))))
      rw [hh.1, hh.2]
      trivial
    · iterate 5 refine von ?_
      refine vo ?_
      refine vnt ?_
      refine vc_if (fun g3 => ?_) (fun g3 => ?_)
      · refine vc_sr ?_
        iterate 2 refine vo ?_
        refine vnt ?_
        refine vc_ret ?_
        refine thn_r ?_
        refine fin_i [] rfl (fz ?_) trivial
        have hh := fs_bad (t := t) (.inl (fsOk_n (.inr (.inr (by omega)))))
        rw [hh.1, hh.2]
        trivial
      · have hgl := fs_gl hsz (by omega) (by omega)
        have hps := fs_ps hsz (by omega)
        have zps := psF_le (get32 t (sumsA t + 12)) (get32 t (sumsA t + 16)) (sumsK t) (fsN t - 20)
        have hcb := sumF_bd (psF (get32 t (sumsA t + 12)) (get32 t (sumsA t + 16)) (sumsK t) (fsN t - 20) ++ t.extract (sumsA t + 20).toNat (sumsA t + fsN t).toNat)
        have zex : (t.extract (sumsA t + 20).toNat (sumsA t + fsN t).toNat).size ≤ t.size := by rw [ByteArray.size_extract]; omega
        have hss := fsS_sz t
        have hrz := rdF_bz (fsS t)
        refine vc_skip ?_
        refine thn ?_
        refine vc_sr ?_
        refine vo ?_
        refine voc c_impl_sumPlaces rfl rfl ?_
        iterate 5 refine vo ?_
        refine vnt ?_
        refine vc_sr ?_
        iterate 4 refine vo ?_
        try first | refine vdrl (j := 20) rfl ?_ | refine vhc (j := 20) rfl ?_
        refine vstr (fe_g g1 (by omega) (by omega)) ?_
        refine vo ?_
        refine vnt ?_
        refine vc_sr ?_
        iterate 4 refine vo ?_
        try refine veq (i64_byt _ _) ?_
        refine veq (fe_k g1) ?_
        refine vo ?_
        refine vnt ?_
        refine vc_sr ?_
        iterate 2 refine vo ?_
        refine voc (c_impl_Get32 (hs := by first | omega | (simp only [ByteArray.size_append, ByteArray.size_extract]; omega))) rfl rfl ?_
        refine veq (fe_32 g1 (by omega)) ?_
        iterate 2 refine vo ?_
        refine voc (c_impl_Get32 (hs := by first | omega | (simp only [ByteArray.size_append, ByteArray.size_extract]; omega))) rfl rfl ?_
        refine veq (fe_32 g1 (by omega)) ?_
        iterate 3 refine vo ?_
        refine veq hgl ?_
        refine voc c_impl_PseudoHeader rfl rfl ?_
        rw [psR_ok hps, hps]
        iterate 5 refine vo ?_
        refine vnt ?_
        refine vc_seq' ?_
        refine vc_sr ?_
        iterate 3 refine vo ?_
        refine vsp (fun g4 => ?_) (fun g4 => ?_)
        · first | cases g4 | (simp at g4)
        · refine von ?_
          refine vocn c_impl_sumPlace rfl rfl ?_
          refine von ?_
          try refine vwr ?_
          iterate 2 refine von ?_
          refine veq hgl ?_
          refine von ?_
          refine vo ?_
          refine vnt ?_
          refine vc_if (fun g5 => ?_) (fun g5 => ?_)
          · refine vc_sr ?_
            iterate 2 refine vo ?_
            refine vnt ?_
            refine vc_ret ?_
            refine thn_r ?_
            refine fin_i [] rfl (fz ?_) trivial
            have hh := fs_bad (t := t) (.inl (fsOk_n (.inr (.inl (by omega)))))
            rw [hh.1, hh.2]
            trivial
          · refine vc_skip ?_
            refine thn ?_
            refine vc_sr ?_
            iterate 3 refine vo ?_
            refine voc (c_impl_Checksum (hs_s := by first | omega | (simp only [ByteArray.size_append, ByteArray.size_extract]; omega))) rfl rfl ?_
            refine veq (show checkF _ = fsC t from rfl) ?_
            refine vo ?_
            refine vnt ?_
            refine vc_seq' ?_
            refine vc_sr ?_
            iterate 3 refine vo ?_
            refine vsp (fun g6 => ?_) (fun g6 => ?_)
            · iterate 2 refine von ?_
              refine vo ?_
              refine vnt ?_
              refine vc_if (fun g7 => ?_) (fun g7 => ?_)
              · have hy : fsY t = 65535 := if_pos ⟨g6, g7⟩
                refine vc_region ?_
                refine vo ?_
                refine vnt ?_
                refine vc_sr ?_
                iterate 5 refine vo ?_
                try first | refine vdr ?_ | refine vtk ?_
                refine vstr (fe_h g1) ?_
                refine voc (c_impl_Checksum (hs_s := by first | omega | (simp only [ByteArray.size_append, ByteArray.size_extract]; omega))) rfl rfl ?_
                refine voc c_impl_Word16 rfl rfl ?_
                refine vzs (word16_le _) fun z1 => ?_
                refine voc (c_impl_PutBytes (hs_s := by first | omega | (simp only [ByteArray.size_append, ByteArray.size_extract]; omega)) (hs_p := by first | omega | (simp only [ByteArray.size_append, ByteArray.size_extract]; omega))) rfl rfl ?_
                refine vzs (Nat.le_of_eq (putBF_le _ _ _)) fun z2 => ?_
                iterate 2 refine vo ?_
                refine veq hy.symm ?_
                refine voc c_impl_Word16 rfl rfl ?_
                refine vzs (word16_le _) fun z3 => ?_
                refine voc (c_impl_PutBytes (hs_s := by first | omega | (simp only [ByteArray.size_append, ByteArray.size_extract]; omega)) (hs_p := by first | omega | (simp only [ByteArray.size_append, ByteArray.size_extract]; omega))) rfl rfl ?_
                refine vzs (Nat.le_of_eq (putBF_le _ _ _)) fun z4 => ?_
                refine vstr (show _ = fsS t from rfl) ?_
                refine vo ?_
                refine vnt ?_
                refine vc_sr ?_
                refine vo ?_
                refine voc (c_impl_ReadImage (hs_s := by first | omega | (simp only [ByteArray.size_append, ByteArray.size_extract]; omega))) rfl rfl ?_
                iterate 6 refine vo ?_
                refine vnt ?_
                refine vc_sr ?_
                refine vo ?_
                refine voc (c_impl_Template (hz_p := hrz)) rfl rfl ?_
                iterate 5 refine vo ?_
                refine vnt ?_
                refine vc_seq' ?_
                refine vc_sr ?_
                iterate 3 refine vo ?_
                refine vsp (fun g8 => ?_) (fun g8 => ?_)
                · iterate 2 refine vof ?_
                  iterate 2 refine vo ?_
                  iterate 3 refine vof ?_
                  refine vo ?_
                  refine vnt ?_
                  refine vc_then ?_
                  refine vc_sr ?_
                  iterate 2 refine vo ?_
                  refine vnt ?_
                  refine vc_ret ?_
                  refine thn_r ?_
                  refine fin_i [] rfl (fz ?_) trivial
                  have hh := fs_bad (t := t) (.inr (.inl g8))
                  rw [hh.1, hh.2]
                  trivial
                · iterate 2 refine von ?_
                  iterate 2 refine vo ?_
                  refine vsp (fun g9 => ?_) (fun g9 => ?_)
                  · iterate 3 refine vof ?_
                    refine vo ?_
                    refine vnt ?_
                    refine vc_then ?_
                    refine vc_sr ?_
                    iterate 2 refine vo ?_
                    refine vnt ?_
                    refine vc_ret ?_
                    refine thn_r ?_
                    exfalso
                    have h0 := rdC_sup g8
                    rw [h0] at g9
                    cases g9
                  · iterate 3 refine von ?_
                    refine vo ?_
                    refine vnt ?_
                    refine vc_if (fun g10 => ?_) (fun g10 => ?_)
                    · refine vc_sr ?_
                      iterate 2 refine vo ?_
                      refine vnt ?_
                      refine vc_ret ?_
                      refine thn_r ?_
                      refine fin_i [] rfl (fz ?_) trivial
                      have hh := fs_bad (t := t) (.inr (.inr g10))
                      rw [hh.1, hh.2]
                      trivial
                    · refine vc_skip ?_
                      refine thn ?_
                      refine vc_sr ?_
                      refine vo ?_
                      refine voc c_impl_BuildImage rfl rfl ?_
                      iterate 4 refine vo ?_
                      refine vnt ?_
                      refine vc_ret ?_
                      refine fin_i [] rfl (fz ?_) trivial
                      have hh := fs_yes (fsOk_y hsz (by omega) (by omega)) g8 g10
                      rw [hh.1, hh.2]
                      exact ⟨rfl, (im_sz (rdC_sup g8)).2.1.symm⟩
              · have hy : fsY t = fsC t := if_neg fun h => g7 h.2
                refine vc_skip ?_
                refine thn ?_
                refine vc_sr ?_
                iterate 5 refine vo ?_
                try first | refine vdr ?_ | refine vtk ?_
                refine vstr (fe_h g1) ?_
                refine voc (c_impl_Checksum (hs_s := by first | omega | (simp only [ByteArray.size_append, ByteArray.size_extract]; omega))) rfl rfl ?_
                refine voc c_impl_Word16 rfl rfl ?_
                refine vzs (word16_le _) fun z5 => ?_
                refine voc (c_impl_PutBytes (hs_s := by first | omega | (simp only [ByteArray.size_append, ByteArray.size_extract]; omega)) (hs_p := by first | omega | (simp only [ByteArray.size_append, ByteArray.size_extract]; omega))) rfl rfl ?_
                refine vzs (Nat.le_of_eq (putBF_le _ _ _)) fun z6 => ?_
                iterate 2 refine vo ?_
                refine veq hy.symm ?_
                refine voc c_impl_Word16 rfl rfl ?_
                refine vzs (word16_le _) fun z7 => ?_
                refine voc (c_impl_PutBytes (hs_s := by first | omega | (simp only [ByteArray.size_append, ByteArray.size_extract]; omega)) (hs_p := by first | omega | (simp only [ByteArray.size_append, ByteArray.size_extract]; omega))) rfl rfl ?_
                refine vzs (Nat.le_of_eq (putBF_le _ _ _)) fun z8 => ?_
                refine vstr (show _ = fsS t from rfl) ?_
                refine vo ?_
                refine vnt ?_
                refine vc_sr ?_
                refine vo ?_
                refine voc (c_impl_ReadImage (hs_s := by first | omega | (simp only [ByteArray.size_append, ByteArray.size_extract]; omega))) rfl rfl ?_
                iterate 6 refine vo ?_
                refine vnt ?_
                refine vc_sr ?_
                refine vo ?_
                refine voc (c_impl_Template (hz_p := hrz)) rfl rfl ?_
                iterate 5 refine vo ?_
                refine vnt ?_
                refine vc_seq' ?_
                refine vc_sr ?_
                iterate 3 refine vo ?_
                refine vsp (fun g11 => ?_) (fun g11 => ?_)
                · iterate 2 refine vof ?_
                  iterate 2 refine vo ?_
                  iterate 3 refine vof ?_
                  refine vo ?_
                  refine vnt ?_
                  refine vc_then ?_
                  refine vc_sr ?_
                  iterate 2 refine vo ?_
                  refine vnt ?_
                  refine vc_ret ?_
                  refine thn_r ?_
                  refine fin_i [] rfl (fz ?_) trivial
                  have hh := fs_bad (t := t) (.inr (.inl g11))
                  rw [hh.1, hh.2]
                  trivial
                · iterate 2 refine von ?_
                  iterate 2 refine vo ?_
                  refine vsp (fun g12 => ?_) (fun g12 => ?_)
                  · iterate 3 refine vof ?_
                    refine vo ?_
                    refine vnt ?_
                    refine vc_then ?_
                    refine vc_sr ?_
                    iterate 2 refine vo ?_
                    refine vnt ?_
                    refine vc_ret ?_
                    refine thn_r ?_
                    exfalso
                    have h0 := rdC_sup g11
                    rw [h0] at g12
                    cases g12
                  · iterate 3 refine von ?_
                    refine vo ?_
                    refine vnt ?_
                    refine vc_if (fun g13 => ?_) (fun g13 => ?_)
                    · refine vc_sr ?_
                      iterate 2 refine vo ?_
                      refine vnt ?_
                      refine vc_ret ?_
                      refine thn_r ?_
                      refine fin_i [] rfl (fz ?_) trivial
                      have hh := fs_bad (t := t) (.inr (.inr g13))
                      rw [hh.1, hh.2]
                      trivial
                    · refine vc_skip ?_
                      refine thn ?_
                      refine vc_sr ?_
                      refine vo ?_
                      refine voc c_impl_BuildImage rfl rfl ?_
                      iterate 4 refine vo ?_
                      refine vnt ?_
                      refine vc_ret ?_
                      refine fin_i [] rfl (fz ?_) trivial
                      have hh := fs_yes (fsOk_y hsz (by omega) (by omega)) g11 g13
                      rw [hh.1, hh.2]
                      exact ⟨rfl, (im_sz (rdC_sup g11)).2.1.symm⟩
            · have hy : fsY t = fsC t := if_neg fun h => g6 h.1
              iterate 2 refine vof ?_
              refine vo ?_
              refine vnt ?_
              refine vc_else ?_
              refine vc_skip ?_
              refine thn ?_
              refine vc_sr ?_
              iterate 5 refine vo ?_
              try first | refine vdr ?_ | refine vtk ?_
              refine vstr (fe_h g1) ?_
              refine voc (c_impl_Checksum (hs_s := by first | omega | (simp only [ByteArray.size_append, ByteArray.size_extract]; omega))) rfl rfl ?_
              refine voc c_impl_Word16 rfl rfl ?_
              refine vzs (word16_le _) fun z9 => ?_
              refine voc (c_impl_PutBytes (hs_s := by first | omega | (simp only [ByteArray.size_append, ByteArray.size_extract]; omega)) (hs_p := by first | omega | (simp only [ByteArray.size_append, ByteArray.size_extract]; omega))) rfl rfl ?_
              refine vzs (Nat.le_of_eq (putBF_le _ _ _)) fun z10 => ?_
              iterate 2 refine vo ?_
              refine veq hy.symm ?_
              refine voc c_impl_Word16 rfl rfl ?_
              refine vzs (word16_le _) fun z11 => ?_
              refine voc (c_impl_PutBytes (hs_s := by first | omega | (simp only [ByteArray.size_append, ByteArray.size_extract]; omega)) (hs_p := by first | omega | (simp only [ByteArray.size_append, ByteArray.size_extract]; omega))) rfl rfl ?_
              refine vzs (Nat.le_of_eq (putBF_le _ _ _)) fun z12 => ?_
              refine vstr (show _ = fsS t from rfl) ?_
              refine vo ?_
              refine vnt ?_
              refine vc_sr ?_
              refine vo ?_
              refine voc (c_impl_ReadImage (hs_s := by first | omega | (simp only [ByteArray.size_append, ByteArray.size_extract]; omega))) rfl rfl ?_
              iterate 6 refine vo ?_
              refine vnt ?_
              refine vc_sr ?_
              refine vo ?_
              refine voc (c_impl_Template (hz_p := hrz)) rfl rfl ?_
              iterate 5 refine vo ?_
              refine vnt ?_
              refine vc_seq' ?_
              refine vc_sr ?_
              iterate 3 refine vo ?_
              refine vsp (fun g14 => ?_) (fun g14 => ?_)
              · iterate 2 refine vof ?_
                iterate 2 refine vo ?_
                iterate 3 refine vof ?_
                refine vo ?_
                refine vnt ?_
                refine vc_then ?_
                refine vc_sr ?_
                iterate 2 refine vo ?_
                refine vnt ?_
                refine vc_ret ?_
                refine thn_r ?_
                refine fin_i [] rfl (fz ?_) trivial
                have hh := fs_bad (t := t) (.inr (.inl g14))
                rw [hh.1, hh.2]
                trivial
              · iterate 2 refine von ?_
                iterate 2 refine vo ?_
                refine vsp (fun g15 => ?_) (fun g15 => ?_)
                · iterate 3 refine vof ?_
                  refine vo ?_
                  refine vnt ?_
                  refine vc_then ?_
                  refine vc_sr ?_
                  iterate 2 refine vo ?_
                  refine vnt ?_
                  refine vc_ret ?_
                  refine thn_r ?_
                  exfalso
                  have h0 := rdC_sup g14
                  rw [h0] at g15
                  cases g15
                · iterate 3 refine von ?_
                  refine vo ?_
                  refine vnt ?_
                  refine vc_if (fun g16 => ?_) (fun g16 => ?_)
                  · refine vc_sr ?_
                    iterate 2 refine vo ?_
                    refine vnt ?_
                    refine vc_ret ?_
                    refine thn_r ?_
                    refine fin_i [] rfl (fz ?_) trivial
                    have hh := fs_bad (t := t) (.inr (.inr g16))
                    rw [hh.1, hh.2]
                    trivial
                  · refine vc_skip ?_
                    refine thn ?_
                    refine vc_sr ?_
                    refine vo ?_
                    refine voc c_impl_BuildImage rfl rfl ?_
                    iterate 4 refine vo ?_
                    refine vnt ?_
                    refine vc_ret ?_
                    refine fin_i [] rfl (fz ?_) trivial
                    have hh := fs_yes (fsOk_y hsz (by omega) (by omega)) g14 g16
                    rw [hh.1, hh.2]
                    exact ⟨rfl, (im_sz (rdC_sup g14)).2.1.symm⟩
set_option maxHeartbeats 4000000 in
theorem c_spec_FillSums {t : ByteArray} (hs_t : t.size ≤ 1099511627776 := by first | with_reducible assumption | omega | (simp only [ByteArray.size_append, ByteArray.size_extract, strOfNums_size, List.length_cons, List.length_nil]; omega)) : Con0 Tryz.prog 45 [Z t] (.tup [Z (fsF t), B (fsB t)]) [] := by
  refine con_i Tryz.func45 Tryz.ntmps45 (t := [(0, Z t)]) rfl ?_
  refine vc_sr ?_
  iterate 2 refine vo ?_
  refine vnt ?_
  refine vc_sr ?_
  refine vo ?_
  refine voc c_spec_l22Sums rfl rfl ?_
  iterate 5 refine vo ?_
  refine vnt ?_
  refine vc_seq' ?_
  refine vc_sr ?_
  iterate 3 refine vo ?_
  refine vsp (fun g1 => ?_) (fun g1 => ?_)
  · iterate 4 refine vof ?_
    iterate 2 refine vo ?_
    iterate 4 refine vof ?_
    refine vo ?_
    refine vnt ?_
    refine vc_then ?_
    refine vc_sr ?_
    iterate 2 refine vo ?_
    refine vnt ?_
    refine vc_ret ?_
    refine thn_r ?_
    refine fin_i [] rfl (fz ?_) trivial
    have hh := fs_bad (t := t) (.inl (fsOk_n (.inl (sm_neg g1))))
    rw [hh.1, hh.2]
    trivial
  · obtain ⟨hsz, ea, eb⟩ := sm_pos (t := t) (by omega)
    rw [ea, eb]
    have ha := sumsA_bd t
    have hbb := sumsB_bd t
    have hnb : -1 ≤ fsN t ∧ fsN t ≤ 65535 := get16_bd t _
    have hpl := sumPl_bd (sumsK t)
    have hBd : sumsB t = sumsA t + 20 + sumPl (sumsK t) := rfl
    iterate 2 refine von ?_
    refine vocn (c_spec_Get16 (hs := by first | omega | (simp only [ByteArray.size_append, ByteArray.size_extract]; omega))) rfl rfl ?_
    refine von ?_
    iterate 2 refine vo ?_
    refine vsp (fun g2 => ?_) (fun g2 => ?_)
    · iterate 4 refine vof ?_
      refine vo ?_
      refine vnt ?_
      refine vc_then ?_
      refine vc_sr ?_
      iterate 2 refine vo ?_
      refine vnt ?_
      refine vc_ret ?_
      refine thn_r ?_
      refine fin_i [] rfl (fz ?_) trivial
      have hh := fs_zero (.inl g2)
      rw [hh.1, hh.2]
      trivial
    · iterate 2 refine von ?_
      refine vocn (c_spec_Get16 (hs := by first | omega | (simp only [ByteArray.size_append, ByteArray.size_extract]; omega))) rfl rfl ?_
      refine von ?_
      refine vo ?_
      refine vnt ?_
      refine vc_if (fun g3 => ?_) (fun g3 => ?_)
      · refine vc_sr ?_
        iterate 2 refine vo ?_
        refine vnt ?_
        refine vc_ret ?_
        refine thn_r ?_
        refine fin_i [] rfl (fz ?_) trivial
        have hh := fs_zero (.inr g3)
        rw [hh.1, hh.2]
        trivial
      · refine vc_skip ?_
        refine thn ?_
        refine vc_sr ?_
        iterate 2 refine vo ?_
        try refine vwr ?_
        refine veq (show sumsA t + 10 - 10 = sumsA t by omega) ?_
        refine vo ?_
        refine vnt ?_
        refine vc_sr ?_
        iterate 3 refine vo ?_
        try refine vwr ?_
        refine voc (c_spec_Get16 (hs := by first | omega | (simp only [ByteArray.size_append, ByteArray.size_extract]; omega))) rfl rfl ?_
        refine veq (show get16 t (sumsA t + 2) = fsN t from rfl) ?_
        refine vo ?_
        refine vnt ?_
        refine vc_sr ?_
        iterate 3 refine vo ?_
        try refine vwr ?_
        iterate 2 refine vo ?_
        try refine veq (i64_byt _ _) ?_
        refine veq (show _ = sumsK t from rfl) ?_
        refine vo ?_
        refine vnt ?_
        refine vc_seq' ?_
        refine vc_sr ?_
        iterate 3 refine vo ?_
        try refine vwr ?_
        iterate 2 refine vo ?_
        try refine vwr ?_
        iterate 2 refine vo ?_
        refine vsp (fun g4 => ?_) (fun g4 => ?_)
        · iterate 6 refine vof ?_
          refine vo ?_
          refine vnt ?_
          refine vc_then ?_
          refine vc_sr ?_
          iterate 2 refine vo ?_
          refine vnt ?_
          refine vc_ret ?_
          refine thn_r ?_
          refine fin_i [] rfl (fz ?_) trivial
          have hh := fs_bad (t := t) (.inl (fsOk_n (.inr (.inl (by omega)))))
          rw [hh.1, hh.2]
          trivial
        · iterate 5 refine von ?_
          try refine vwr ?_
          refine von ?_
          refine vo ?_
          refine vnt ?_
          refine vc_if (fun g5 => ?_) (fun g5 => ?_)
          · refine vc_sr ?_
            iterate 2 refine vo ?_
            refine vnt ?_
            refine vc_ret ?_
            refine thn_r ?_
            refine fin_i [] rfl (fz ?_) trivial
            have hh := fs_bad (t := t) (.inl (fsOk_n (.inr (.inr (by omega)))))
            rw [hh.1, hh.2]
            trivial
          · have hps := fs_ps hsz (by omega)
            have zps := psF_le (get32 t (sumsA t + 12)) (get32 t (sumsA t + 16)) (sumsK t) (fsN t - 20)
            have hcb := sumF_bd (psF (get32 t (sumsA t + 12)) (get32 t (sumsA t + 16)) (sumsK t) (fsN t - 20) ++ t.extract (sumsA t + 20).toNat (sumsA t + fsN t).toNat)
            have zex : (t.extract (sumsA t + 20).toNat (sumsA t + fsN t).toNat).size ≤ t.size := by rw [ByteArray.size_extract]; omega
            have hss := fsS_sz t
            have hrz := rdF_bz (fsS t)
            refine vc_skip ?_
            refine thn ?_
            refine vc_sr ?_
            iterate 4 refine vo ?_
            try refine vwr ?_
            refine vo ?_
            try first | refine vdr ?_ | refine vtk ?_
            refine voc (c_spec_Checksum (hs_s := by first | omega | (simp only [ByteArray.size_append, ByteArray.size_extract]; omega))) rfl rfl ?_
            refine vo ?_
            refine vnt ?_
            refine vc_sr ?_
            iterate 3 refine vo ?_
            try refine vwr ?_
            refine voc (c_spec_Get32 (hs := by first | omega | (simp only [ByteArray.size_append, ByteArray.size_extract]; omega))) rfl rfl ?_
            iterate 3 refine vo ?_
            try refine vwr ?_
            refine voc (c_spec_Get32 (hs := by first | omega | (simp only [ByteArray.size_append, ByteArray.size_extract]; omega))) rfl rfl ?_
            iterate 3 refine vo ?_
            try refine vwr ?_
            refine voc c_spec_PseudoHeader rfl rfl ?_
            rw [psR_ok hps, hps]
            iterate 5 refine vo ?_
            refine vnt ?_
            refine vc_sr ?_
            iterate 4 refine vo ?_
            try refine vwr ?_
            iterate 3 refine vo ?_
            try refine vwr ?_
            refine vo ?_
            try first | refine vdr ?_ | refine vtk ?_
            refine vo ?_
            refine voc (c_spec_Checksum (hs_s := by first | omega | (simp only [ByteArray.size_append, ByteArray.size_extract]; omega))) rfl rfl ?_
            refine veq (show checkF _ = fsC t from rfl) ?_
            refine vo ?_
            refine vnt ?_
            refine vc_seq' ?_
            refine vc_sr ?_
            iterate 3 refine vo ?_
            refine vsp (fun g6 => ?_) (fun g6 => ?_)
            · iterate 2 refine von ?_
              refine vo ?_
              refine vnt ?_
              refine vc_if (fun g7 => ?_) (fun g7 => ?_)
              · have hy : fsY t = 65535 := if_pos ⟨g7, g6⟩
                refine vc_region ?_
                refine vo ?_
                refine vnt ?_
                refine vc_sr ?_
                iterate 3 refine vo ?_
                refine voc c_spec_Word16 rfl rfl ?_
                refine vzs (word16_le _) fun z1 => ?_
                refine voc (c_spec_PutBytes (hs_s := by first | omega | (simp only [ByteArray.size_append, ByteArray.size_extract]; omega)) (hs_p := by first | omega | (simp only [ByteArray.size_append, ByteArray.size_extract]; omega))) rfl rfl ?_
                refine vzs (Nat.le_of_eq (putBF_le _ _ _)) fun z2 => ?_
                iterate 2 refine vo ?_
                refine veq hy.symm ?_
                refine voc c_spec_Word16 rfl rfl ?_
                refine vzs (word16_le _) fun z3 => ?_
                refine voc (c_spec_PutBytes (hs_s := by first | omega | (simp only [ByteArray.size_append, ByteArray.size_extract]; omega)) (hs_p := by first | omega | (simp only [ByteArray.size_append, ByteArray.size_extract]; omega))) rfl rfl ?_
                refine vzs (Nat.le_of_eq (putBF_le _ _ _)) fun z4 => ?_
                refine vstr (show _ = fsS t from rfl) ?_
                refine vo ?_
                refine vnt ?_
                refine vc_sr ?_
                refine vo ?_
                refine voc (c_spec_ReadImage (hs_s := by first | omega | (simp only [ByteArray.size_append, ByteArray.size_extract]; omega))) rfl rfl ?_
                iterate 6 refine vo ?_
                refine vnt ?_
                refine vc_seq' ?_
                refine vc_sr ?_
                iterate 2 refine vo ?_
                refine vnt ?_
                refine vc_if (fun g8 => ?_) (fun g8 => ?_)
                · refine vc_sr ?_
                  iterate 2 refine vo ?_
                  refine vnt ?_
                  refine vc_ret ?_
                  refine thn_r ?_
                  refine fin_i [] rfl (fz ?_) trivial
                  have hh := fs_bad (t := t) (.inr (.inl g8))
                  rw [hh.1, hh.2]
                  trivial
                · refine vc_skip ?_
                  refine thn ?_
                  refine vc_sr ?_
                  refine vo ?_
                  refine voc (c_spec_Template (hz_p := hrz)) rfl rfl ?_
                  iterate 5 refine vo ?_
                  refine vnt ?_
                  refine vc_seq' ?_
                  refine vc_sr ?_
                  iterate 3 refine vo ?_
                  refine vnt ?_
                  refine vc_if (fun g9 => ?_) (fun g9 => ?_)
                  · refine vc_sr ?_
                    iterate 2 refine vo ?_
                    refine vnt ?_
                    refine vc_ret ?_
                    refine thn_r ?_
                    refine fin_i [] rfl (fz ?_) trivial
                    have hh := fs_bad (t := t) (.inr (.inr g9))
                    rw [hh.1, hh.2]
                    trivial
                  · refine vc_skip ?_
                    refine thn ?_
                    refine vc_sr ?_
                    refine vo ?_
                    refine voc c_spec_BuildImage rfl rfl ?_
                    iterate 4 refine vo ?_
                    refine vnt ?_
                    refine vc_ret ?_
                    refine fin_i [] rfl (fz ?_) trivial
                    have hh := fs_yes (fsOk_y hsz (by omega) (by omega)) g8 g9
                    rw [hh.1, hh.2]
                    exact ⟨rfl, (im_sz (rdC_sup g8)).2.1.symm⟩
              · have hy : fsY t = fsC t := if_neg fun h => g7 h.1
                refine vc_skip ?_
                refine thn ?_
                refine vc_sr ?_
                iterate 3 refine vo ?_
                refine voc c_spec_Word16 rfl rfl ?_
                refine vzs (word16_le _) fun z5 => ?_
                refine voc (c_spec_PutBytes (hs_s := by first | omega | (simp only [ByteArray.size_append, ByteArray.size_extract]; omega)) (hs_p := by first | omega | (simp only [ByteArray.size_append, ByteArray.size_extract]; omega))) rfl rfl ?_
                refine vzs (Nat.le_of_eq (putBF_le _ _ _)) fun z6 => ?_
                iterate 2 refine vo ?_
                refine veq hy.symm ?_
                refine voc c_spec_Word16 rfl rfl ?_
                refine vzs (word16_le _) fun z7 => ?_
                refine voc (c_spec_PutBytes (hs_s := by first | omega | (simp only [ByteArray.size_append, ByteArray.size_extract]; omega)) (hs_p := by first | omega | (simp only [ByteArray.size_append, ByteArray.size_extract]; omega))) rfl rfl ?_
                refine vzs (Nat.le_of_eq (putBF_le _ _ _)) fun z8 => ?_
                refine vstr (show _ = fsS t from rfl) ?_
                refine vo ?_
                refine vnt ?_
                refine vc_sr ?_
                refine vo ?_
                refine voc (c_spec_ReadImage (hs_s := by first | omega | (simp only [ByteArray.size_append, ByteArray.size_extract]; omega))) rfl rfl ?_
                iterate 6 refine vo ?_
                refine vnt ?_
                refine vc_seq' ?_
                refine vc_sr ?_
                iterate 2 refine vo ?_
                refine vnt ?_
                refine vc_if (fun g10 => ?_) (fun g10 => ?_)
                · refine vc_sr ?_
                  iterate 2 refine vo ?_
                  refine vnt ?_
                  refine vc_ret ?_
                  refine thn_r ?_
                  refine fin_i [] rfl (fz ?_) trivial
                  have hh := fs_bad (t := t) (.inr (.inl g10))
                  rw [hh.1, hh.2]
                  trivial
                · refine vc_skip ?_
                  refine thn ?_
                  refine vc_sr ?_
                  refine vo ?_
                  refine voc (c_spec_Template (hz_p := hrz)) rfl rfl ?_
                  iterate 5 refine vo ?_
                  refine vnt ?_
                  refine vc_seq' ?_
                  refine vc_sr ?_
                  iterate 3 refine vo ?_
                  refine vnt ?_
                  refine vc_if (fun g11 => ?_) (fun g11 => ?_)
                  · refine vc_sr ?_
                    iterate 2 refine vo ?_
                    refine vnt ?_
                    refine vc_ret ?_
                    refine thn_r ?_
                    refine fin_i [] rfl (fz ?_) trivial
                    have hh := fs_bad (t := t) (.inr (.inr g11))
                    rw [hh.1, hh.2]
                    trivial
                  · refine vc_skip ?_
                    refine thn ?_
                    refine vc_sr ?_
                    refine vo ?_
                    refine voc c_spec_BuildImage rfl rfl ?_
                    iterate 4 refine vo ?_
                    refine vnt ?_
                    refine vc_ret ?_
                    refine fin_i [] rfl (fz ?_) trivial
                    have hh := fs_yes (fsOk_y hsz (by omega) (by omega)) g10 g11
                    rw [hh.1, hh.2]
                    exact ⟨rfl, (im_sz (rdC_sup g10)).2.1.symm⟩
            · have hy : fsY t = fsC t := if_neg fun h => g6 h.2
              iterate 2 refine vof ?_
              refine vo ?_
              refine vnt ?_
              refine vc_else ?_
              refine vc_skip ?_
              refine thn ?_
              refine vc_sr ?_
              iterate 3 refine vo ?_
              refine voc c_spec_Word16 rfl rfl ?_
              refine vzs (word16_le _) fun z9 => ?_
              refine voc (c_spec_PutBytes (hs_s := by first | omega | (simp only [ByteArray.size_append, ByteArray.size_extract]; omega)) (hs_p := by first | omega | (simp only [ByteArray.size_append, ByteArray.size_extract]; omega))) rfl rfl ?_
              refine vzs (Nat.le_of_eq (putBF_le _ _ _)) fun z10 => ?_
              iterate 2 refine vo ?_
              refine veq hy.symm ?_
              refine voc c_spec_Word16 rfl rfl ?_
              refine vzs (word16_le _) fun z11 => ?_
              refine voc (c_spec_PutBytes (hs_s := by first | omega | (simp only [ByteArray.size_append, ByteArray.size_extract]; omega)) (hs_p := by first | omega | (simp only [ByteArray.size_append, ByteArray.size_extract]; omega))) rfl rfl ?_
              refine vzs (Nat.le_of_eq (putBF_le _ _ _)) fun z12 => ?_
              refine vstr (show _ = fsS t from rfl) ?_
              refine vo ?_
              refine vnt ?_
              refine vc_sr ?_
              refine vo ?_
              refine voc (c_spec_ReadImage (hs_s := by first | omega | (simp only [ByteArray.size_append, ByteArray.size_extract]; omega))) rfl rfl ?_
              iterate 6 refine vo ?_
              refine vnt ?_
              refine vc_seq' ?_
              refine vc_sr ?_
              iterate 2 refine vo ?_
              refine vnt ?_
              refine vc_if (fun g12 => ?_) (fun g12 => ?_)
              · refine vc_sr ?_
                iterate 2 refine vo ?_
                refine vnt ?_
                refine vc_ret ?_
                refine thn_r ?_
                refine fin_i [] rfl (fz ?_) trivial
                have hh := fs_bad (t := t) (.inr (.inl g12))
                rw [hh.1, hh.2]
                trivial
              · refine vc_skip ?_
                refine thn ?_
                refine vc_sr ?_
                refine vo ?_
                refine voc (c_spec_Template (hz_p := hrz)) rfl rfl ?_
                iterate 5 refine vo ?_
                refine vnt ?_
                refine vc_seq' ?_
                refine vc_sr ?_
                iterate 3 refine vo ?_
                refine vnt ?_
                refine vc_if (fun g13 => ?_) (fun g13 => ?_)
                · refine vc_sr ?_
                  iterate 2 refine vo ?_
                  refine vnt ?_
                  refine vc_ret ?_
                  refine thn_r ?_
                  refine fin_i [] rfl (fz ?_) trivial
                  have hh := fs_bad (t := t) (.inr (.inr g13))
                  rw [hh.1, hh.2]
                  trivial
                · refine vc_skip ?_
                  refine thn ?_
                  refine vc_sr ?_
                  refine vo ?_
                  refine voc c_spec_BuildImage rfl rfl ?_
                  iterate 4 refine vo ?_
                  refine vnt ?_
                  refine vc_ret ?_
                  refine fin_i [] rfl (fz ?_) trivial
                  have hh := fs_yes (fsOk_y hsz (by omega) (by omega)) g12 g13
                  rw [hh.1, hh.2]
                  exact ⟨rfl, (im_sz (rdC_sup g12)).2.1.symm⟩
end Go.Proofs.YtgbjkojgjhcabaaGreat
end
section
namespace Go.Vc
open Go Go.RowKit
set_option linter.unusedVariables false
section
variable {P : Program} [TyEnv P] {n : Nat} {ops os : List Oper} {dr : Bool} {K : Tm → Hp → Prop} {t : Tm} {H : Hp} {fp : List Fp} {d : Nat}
theorem vepl {sz k j : Nat} {c : Int} {es : List (List Value)} (hj : c.toNat = j) (h : Vd P n ops dr K os ((d, .one (.ep sz es j k)) :: t) H fp) : Vd P n ops dr K os ((d, .one (.ep sz es c.toNat k)) :: t) H fp := by rw [hj]; exact h
theorem vptl {i sz k j : Nat} {c : Int} (hj : c.toNat = j) (h : Vd P n ops dr K os ((d, .one (.ptr i j sz k)) :: t) H fp) : Vd P n ops dr K os ((d, .one (.ptr i c.toNat sz k)) :: t) H fp := by rw [hj]; exact h
theorem vdrl {sz j : Nat} {c : Int} {α : Type} {l : List α} {f : α → List Value} (hj : c.toNat = j) (h : Vd P n ops dr K os ((d, .one (.sl sz ((l.drop j).map f))) :: t) H fp) : Vd P n ops dr K os ((d, .one (.sl sz ((l.map f).drop c.toNat))) :: t) H fp := by
  rw [hj]; rw [List.map_drop] at h; exact h
theorem vh1 {k sz : Nat} {E : TypeId} {es es' : List (List Value)} (he : es = es') (h : Vd P n ops dr K os t [(k, .arr E sz es')] fp) : Vd P n ops dr K os t [(k, .arr E sz es)] fp := he ▸ h
theorem vhc {k sz j : Nat} {c : Int} (hj : c.toNat = j) (h : Vd P n ops dr K os ((d, .one (.hc k j sz)) :: t) H fp) : Vd P n ops dr K os ((d, .one (.hc k c.toNat sz)) :: t) H fp := by rw [hj]; exact h
end
end Go.Vc
end
section
namespace Go.Proofs.YtgbjkojgjhcabaaGreat
open Go Go.RowKit Go.Vc
set_option linter.unusedVariables false
set_option linter.unusedSimpArgs false
set_option linter.unnecessarySimpa false
theorem eqk_Desc : EqOk Tryz.prog 145 [0, 0, 0, 0, 0, 0] := eqOk_of 4 (by kernel_rfl) (by decide) (by kernel_rfl) (by kernel_rfl)
theorem and1 (n : Int) : andI n 1 = n % 2 := by
  rw [andI_eq]; exact and_mask_i64 n 1 (by decide)
theorem ds_all {l : List Pc} {size ck : Int} {n : Nat} (h : ∀ j, j < n → dOk (dAt l size ck j) = true) : (dsF l size ck n).all dOk = true := by
  rw [List.all_eq_true]
  intro x hx
  unfold dsF at hx
  obtain ⟨j, hj, rfl⟩ := List.mem_map.1 hx
  exact h j (List.mem_range.1 hj)
theorem upto_stp {Q : Nat → Prop} {k : Nat} (h : ∀ j, j < k → Q j) (hk : Q k) : ∀ j, j < k + 1 → Q j := fun j g => by
  rcases Nat.lt_or_ge j k with g2 | g2
  · exact h j g2
  · obtain rfl : j = k := by omega
    exact hk
theorem ds_at {l : List Pc} {size ck v : Int} {i : Nat} (hfl : (if i + 1 = l.length then (1 : Int) else 0) = v) : dAt l size ck (i + 1) = (1, v, (at' l i).2, (at' l i).1, 0, ck) := by rw [← hfl]; rfl
theorem pcs_len {l : List Pc} (h : pcsOk l = true) : l.length ≤ 16 := (pcsOk_iff.1 h).2
theorem ceq_no {a b : Dsc} (h : ceqV (dscE a) (dscE b) = false) : ¬ a = b := by
  rw [ceq_dsc] at h
  exact of_decide_eq_false h
theorem ceq_yes {a b : Dsc} (h : ceqV (dscE a) (dscE b) = true) : a = b := by
  rw [ceq_dsc] at h
  exact of_decide_eq_true h
theorem pod_at {l : List Dsc} (h : podB l = true) : pcsOk (podL l) = true ∧ ∀ x ∈ podL l, x.1 ≤ 4294967295 := by
  unfold podB at h
  rw [Bool.and_eq_true, decide_eq_true_eq, decide_eq_true_eq] at h
  obtain ⟨h1, h2⟩ := h
  have hb : descrB (podL l) (at' l 0).2.2.2.2.1 (at' l 0).2.2.2.2.2 = true := by
    cases hb : descrB (podL l) (at' l 0).2.2.2.2.1 (at' l 0).2.2.2.2.2 with
    | true => rfl
    | false =>
      unfold descrF at h2
      rw [hb, if_neg (by decide)] at h2
      rw [← h2] at h1
      simp at h1
  unfold descrB at hb
  simp only [Bool.and_eq_true] at hb
  obtain ⟨_, hp, _, ha⟩ := hb
  refine ⟨hp, fun x hx => ?_⟩
  obtain ⟨i, hi, rfl⟩ := List.getElem_of_mem hx
  have hm : dAt (podL l) (at' l 0).2.2.2.2.1 (at' l 0).2.2.2.2.2 (i + 1) ∈ dsF (podL l) (at' l 0).2.2.2.2.1 (at' l 0).2.2.2.2.2 ((podL l).length + 1) := List.mem_map.2 ⟨i + 1, List.mem_range.2 (by omega), rfl⟩
  have := List.all_eq_true.1 ha _ hm
  unfold dOk descB at this
  simp only [Bool.and_eq_true, dAt] at this
  have := inB_iff.1 this.2
  rw [atq_eq hi] at this
  exact this.2
set_option maxHeartbeats 4000000 in
theorem c_impl_PiecesOk {l : List Pc} (hl_l : l.length ≤ 1099511627776 := by first | assumption | omega) : Con0 Tryz.prog 122 [.one (.sl 2 (l.map pcE))] (B (pcsOk l)) [] := by
  refine con_i Tryz.func122 Tryz.ntmps122 (t := [(0, .one (.sl 2 (l.map pcE)))]) rfl ?_
  refine vc_sr ?_
  refine vo ?_
  refine vnt ?_
  refine vc_seq' ?_
  refine vc_sr ?_
  iterate 2 refine vo ?_
  try first | refine vlb ?_ | refine vln ?_
  refine vo ?_
  refine vnt ?_
  refine vc_block ?_
  refine vc_lp (σ := Nat) [0, 5, 6] [] (fun i => [(7, I (i : Nat))]) (fun i => []) (fun i => i ≤ l.length ∧ (l.take i).all pcOk = true) (fun i => l.length - i) 0 rfl rfl (sub_i [] (fz ?_) (fz ?_)) ?_ fun i hI => ?_
  · first | trivial | rfl
  · first | trivial | rfl
  · exact ⟨Nat.zero_le _, rfl⟩
  refine vc_nf rfl rfl ?_
  refine vc_sr ?_
  refine vo ?_
  refine vnt ?_
  refine vc_seq' ?_
  refine vc_if (fun g1 => ?_) (fun g1 => ?_)
  · refine vc_skip ?_
    refine thn ?_
    refine vc_seq' ?_
    refine vc_block ?_
    refine vc_sr ?_
    refine vo ?_
    try with_reducible (first | refine vep ?_ | refine vpt ?_)
    iterate 3 refine vo ?_
    refine vnt ?_
    refine vc_sr ?_
    iterate 4 refine vo ?_
    refine vsp (fun g2 => ?_) (fun g2 => ?_)
    · iterate 4 refine vof ?_
      refine vo ?_
      refine vnt ?_
      refine vc_then ?_
      refine vc_sr ?_
      refine vo ?_
      refine vnt ?_
      refine vc_ret ?_
      refine inB_r ?_
      refine thn_r ?_
      refine thn_r ?_
      refine inB_r ?_
      refine thn_r ?_
      refine fin_i [] rfl (fz ?_) trivial
      exact pcsOk_bad g1 (.inl g2)
    · iterate 2 refine von ?_
      refine vocn c_impl_between rfl rfl ?_
      refine von ?_
      refine vo ?_
      refine vnt ?_
      refine vc_if (fun g3 => ?_) (fun g3 => ?_)
      · refine vc_sr ?_
        refine vo ?_
        refine vnt ?_
        refine vc_ret ?_
        refine inB_r ?_
        refine thn_r ?_
        refine thn_r ?_
        refine inB_r ?_
        refine thn_r ?_
        refine fin_i [] rfl (fz ?_) trivial
        exact pcsOk_bad g1 (.inr g3)
      · refine vc_skip ?_
        refine inB_n ?_
        refine thn ?_
        refine vc_region ?_
        refine vo ?_
        try refine vwr ?_
        refine vo ?_
        refine vnt ?_
        refine ⟨i + 1, ?_, ?_, sub_i [] (fz ?_) (fz ?_)⟩
        · exact ⟨by omega, all_stp hI.2 g1 (pcOk_yes (by omega) g3)⟩
        · omega
        · first | rfl | trivial | exact ⟨rfl, rfl⟩
        · first | rfl | trivial
  · refine vc_exit ?_
    refine thn_x ?_
    refine thn_x ?_
    refine inB_x ?_
    refine thn ?_
    refine vc_sr ?_
    iterate 2 refine vo ?_
    try first | refine vlb ?_ | refine vln ?_
    iterate 2 refine vo ?_
    refine vnt ?_
    refine vc_ret ?_
    refine fin_i [] rfl (fz ?_) trivial
    exact pcsOk_end hI.2 g1
set_option maxHeartbeats 4000000 in
theorem c_spec_PiecesOk {l : List Pc} (hl_l : l.length ≤ 1099511627776 := by first | assumption | omega) : Con0 Tryz.prog 101 [.one (.sl 2 (l.map pcE))] (B (pcsOk l)) [] := by
  refine con_i Tryz.func101 Tryz.ntmps101 (t := [(0, .one (.sl 2 (l.map pcE)))]) rfl ?_
  refine vc_sr ?_
  refine vo ?_
  refine vnt ?_
  refine vc_seq' ?_
  refine vc_sr ?_
  refine vo ?_
  refine vnt ?_
  refine vc_block ?_
  refine vc_lp (σ := Nat) [0] [] (fun i => [(3, I (i : Nat))]) (fun i => []) (fun i => i ≤ l.length ∧ (l.take i).all pcOk = true) (fun i => l.length - i) 0 rfl rfl (sub_i [] (fz ?_) (fz ?_)) ?_ fun i hI => ?_
  · first | trivial | rfl
  · first | trivial | rfl
  · exact ⟨Nat.zero_le _, rfl⟩
  refine vc_nf rfl rfl ?_
  refine vc_seq' ?_
  refine vc_sr ?_
  iterate 3 refine vo ?_
  try first | refine vlb ?_ | refine vln ?_
  refine vo ?_
  refine vnt ?_
  refine vc_if (fun g1 => ?_) (fun g1 => ?_)
  · refine vc_skip ?_
    refine thn ?_
    refine vc_seq' ?_
    refine vc_block ?_
    refine vc_sr ?_
    iterate 3 refine vo ?_
    try with_reducible (first | refine vep ?_ | refine vpt ?_)
    iterate 4 refine vo ?_
    refine vsp (fun g2 => ?_) (fun g2 => ?_)
    · iterate 7 refine vof ?_
      refine vo ?_
      refine vnt ?_
      refine vc_then ?_
      refine vc_sr ?_
      refine vo ?_
      refine vnt ?_
      refine vc_ret ?_
      refine inB_r ?_
      refine thn_r ?_
      refine thn_r ?_
      refine inB_r ?_
      refine thn_r ?_
      refine fin_i [] rfl (fz ?_) trivial
      exact pcsOk_bad g1 (.inl g2)
    · iterate 3 refine von ?_
      try with_reducible (first | refine vep ?_ | refine vpt ?_)
      iterate 2 refine von ?_
      refine vocn c_spec_l01In rfl rfl ?_
      refine von ?_
      refine vo ?_
      refine vnt ?_
      refine vc_if (fun g3 => ?_) (fun g3 => ?_)
      · refine vc_sr ?_
        refine vo ?_
        refine vnt ?_
        refine vc_ret ?_
        refine inB_r ?_
        refine thn_r ?_
        refine thn_r ?_
        refine inB_r ?_
        refine thn_r ?_
        refine fin_i [] rfl (fz ?_) trivial
        exact pcsOk_bad g1 (.inr g3)
      · refine vc_skip ?_
        refine inB_n ?_
        refine thn ?_
        refine vc_region ?_
        iterate 2 refine vo ?_
        try refine vwr ?_
        refine vo ?_
        refine vnt ?_
        refine ⟨i + 1, ?_, ?_, sub_i [] (fz ?_) (fz ?_)⟩
        · exact ⟨by omega, all_stp hI.2 g1 (pcOk_yes (by omega) g3)⟩
        · omega
        · first | rfl | trivial | exact ⟨rfl, rfl⟩
        · first | rfl | trivial
  · refine vc_exit ?_
    refine thn_x ?_
    refine thn_x ?_
    refine inB_x ?_
    refine thn ?_
    refine vc_sr ?_
    iterate 2 refine vo ?_
    try first | refine vlb ?_ | refine vln ?_
    iterate 2 refine vo ?_
    refine vnt ?_
    refine vc_ret ?_
    refine fin_i [] rfl (fz ?_) trivial
    exact pcsOk_end hI.2 g1
set_option maxHeartbeats 4000000 in
theorem c_impl_DescribePacket {l : List Pc} {size ck : Int} (hl_l : l.length ≤ 1099511627776 := by first | assumption | omega) : Con0 Tryz.prog 121 [.one (.sl 2 (l.map pcE)), I size, I ck] (.one (.hs 0)) [(0, .arr 145 6 ((descrF l size ck).map dscE))] := by
  refine con_i Tryz.func121 Tryz.ntmps121 (t := [(0, .one (.sl 2 (l.map pcE))), (1, I size), (2, I ck)]) rfl ?_
  refine vc_sr ?_
  refine vo ?_
  refine vnt ?_
  refine vc_seq' ?_
  refine vc_sr ?_
  iterate 2 refine vo ?_
  try first | refine vlb ?_ | refine vln ?_
  iterate 2 refine vo ?_
  refine vsp (fun g1 => ?_) (fun g1 => ?_)
  · iterate 3 refine vof ?_
    iterate 2 refine vo ?_
    iterate 3 refine vof ?_
    refine vo ?_
    refine vnt ?_
    refine vc_then ?_
    refine vc_sr ?_
    refine vo ?_
    refine vnt ?_
    refine vc_ret ?_
    refine thn_r ?_
    refine fin_i [(0, none)] rfl (fz ?_) (fz ?_)
    · trivial
    · rw [descr_n (.inl (List.eq_nil_of_length_eq_zero (by omega)))]; rfl
  · refine von ?_
    refine vocn c_impl_PiecesOk rfl rfl ?_
    refine von ?_
    iterate 2 refine vo ?_
    refine vsp (fun g2 => ?_) (fun g2 => ?_)
    · iterate 3 refine vof ?_
      refine vo ?_
      refine vnt ?_
      refine vc_then ?_
      refine vc_sr ?_
      refine vo ?_
      refine vnt ?_
      refine vc_ret ?_
      refine thn_r ?_
      refine fin_i [(0, none)] rfl (fz ?_) (fz ?_)
      · trivial
      · rw [descr_n (.inr (.inl g2))]; rfl
    · refine von ?_
      refine vocn c_impl_between rfl rfl ?_
      refine von ?_
      refine vo ?_
      refine vnt ?_
      refine vc_if (fun g3 => ?_) (fun g3 => ?_)
      · refine vc_sr ?_
        refine vo ?_
        refine vnt ?_
        refine vc_ret ?_
        refine thn_r ?_
        refine fin_i [(0, none)] rfl (fz ?_) (fz ?_)
        · trivial
        · rw [descr_n (.inr (.inr (.inl g3)))]; rfl
      · have hpl := pcs_len g2
        have hne : ¬ l = [] := fun h => by subst h; simp at g1
        have hz2 := inB_iff.1 g3
        refine vc_skip ?_
        refine thn ?_
        refine vc_sr ?_
        iterate 5 refine vo ?_
        refine vnt ?_
        refine vc_seq' ?_
        refine vc_sr ?_
        iterate 2 refine vo ?_
        try first | refine vlb ?_ | refine vln ?_
        refine vo ?_
        refine vnt ?_
        refine vc_block ?_
        refine vc_lp (σ := Nat) [0, 2, 30, 31] [] (fun i => [(7, .one (.hs 7)), (32, I (i : Nat))]) (fun i => [(7, .arr 145 6 ((dsF l size ck (i + 1)).map dscE))]) (fun i => i ≤ l.length) (fun i => l.length - i) 0 rfl rfl (sub_i [(7, some 232)] (fz ?_) (fz ?_)) ?_ fun i hI => ?_
        · first | trivial | rfl
        · first | trivial | rfl | simp [dsF, dAt, dscE]
        · exact Nat.zero_le _
        refine vc_nf rfl rfl ?_
        have hdl := dsF_len l size ck (i + 1)
        refine vc_sr ?_
        refine vo ?_
        refine vnt ?_
        refine vc_seq' ?_
        refine vc_if (fun g4 => ?_) (fun g4 => ?_)
        · refine vc_skip ?_
          refine thn ?_
          refine vc_seq' ?_
          refine vc_block ?_
          refine vc_sr ?_
          iterate 2 refine vo ?_
          try with_reducible (first | refine vep ?_ | refine vpt ?_)
          iterate 4 refine vo ?_
          refine vnt ?_
          refine vc_sr ?_
          iterate 8 refine vo ?_
          refine vnt ?_
          refine vc_seq' ?_
          refine vc_sr ?_
          iterate 3 refine vo ?_
          try first | refine vlb ?_ | refine vln ?_
          refine vo ?_
          try refine vwr ?_
          refine vo ?_
          refine vnt ?_
          refine vc_if (fun g5 => ?_) (fun g5 => ?_)
          · have hfl : (if i + 1 = l.length then (1 : Int) else 0) = 1 := if_pos (by omega)
            refine vc_region ?_
            iterate 2 refine vo ?_
            refine vnt ?_
            refine vc_region ?_
            iterate 5 refine vo ?_
            refine vnil ?_
            refine inB_n ?_
            refine thn ?_
            refine vc_region ?_
            refine vo ?_
            try refine vwr ?_
            refine vo ?_
            refine vnt ?_
            refine ⟨i + 1, ?_, ?_, sub_i [(7, some 416)] (fz ?_) (fz ?_)⟩
            · first | omega | exact ⟨by omega, by assumption⟩
            · omega
            · first | trivial | rfl | exact ⟨rfl, rfl⟩
            · rw [← dsF_stp]; simp [dscE, dAt, hfl]
          · have hfl : (if i + 1 = l.length then (1 : Int) else 0) = 0 := if_neg (by omega)
            refine vc_skip ?_
            refine thn ?_
            refine vc_region ?_
            iterate 5 refine vo ?_
            refine vnil ?_
            refine inB_n ?_
            refine thn ?_
            refine vc_region ?_
            refine vo ?_
            try refine vwr ?_
            refine vo ?_
            refine vnt ?_
            refine ⟨i + 1, ?_, ?_, sub_i [(7, some 416)] (fz ?_) (fz ?_)⟩
            · first | omega | exact ⟨by omega, by assumption⟩
            · omega
            · first | trivial | rfl | exact ⟨rfl, rfl⟩
            · rw [← dsF_stp]; simp [dscE, dAt, hfl]
        · have hil : i = l.length := by omega
          subst hil
          refine vc_exit ?_
          refine thn_x ?_
          refine thn_x ?_
          refine inB_x ?_
          refine thn ?_
          refine vc_seq' ?_
          refine vc_sr ?_
          iterate 2 refine vo ?_
          try first | refine vlb ?_ | refine vln ?_
          refine vo ?_
          refine vnt ?_
          refine vc_block ?_
          refine vc_lp (σ := Nat) [7, 54, 55] [7] (fun j => [(56, I (j : Nat))]) (fun j => []) (fun j => j ≤ l.length + 1 ∧ ∀ q, q < j → dOk (dAt l size ck q) = true) (fun j => l.length + 1 - j) 0 rfl rfl (sub_i [] (fz ?_) (fz ?_)) ?_ fun j hJ => ?_
          · first | trivial | rfl
          · first | trivial | rfl
          · exact ⟨Nat.zero_le _, fun q h => by omega⟩
          refine vc_nf rfl rfl ?_
          have hda : j < l.length + 1 → at' (dsF l size ck (l.length + 1)) j = dAt l size ck j := fun h => dsF_at h
          have hdl := dsF_len l size ck (l.length + 1)
          refine vc_sr ?_
          refine vo ?_
          refine vnt ?_
          refine vc_seq' ?_
          refine vc_if (fun g6 => ?_) (fun g6 => ?_)
          · refine vc_skip ?_
            refine thn ?_
            refine vc_seq' ?_
            refine vc_block ?_
            refine vc_sr ?_
            refine vo ?_
            try with_reducible (first | refine vep ?_ | refine vpt ?_)
            iterate 3 refine vo ?_
            refine vnt ?_
            refine vc_sr ?_
            refine vo ?_
            refine voc c_impl_DescOk rfl rfl ?_
            refine vo ?_
            refine vnt ?_
            refine vc_if (fun g7 => ?_) (fun g7 => ?_)
            · refine vc_sr ?_
              refine vo ?_
              refine vnt ?_
              refine vc_ret ?_
              refine inB_r ?_
              refine thn_r ?_
              refine thn_r ?_
              refine inB_r ?_
              refine thn_r ?_
              refine fin_i [(0, none)] rfl (fz ?_) (fz ?_)
              · trivial
              · rw [descr_bad (i := j) (by omega) (by rw [← hda (by omega)]; exact g7)]; rfl
            · refine vc_skip ?_
              refine inB_n ?_
              refine thn ?_
              refine vc_region ?_
              refine vo ?_
              try refine vwr ?_
              refine vo ?_
              refine vnt ?_
              refine ⟨j + 1, ?_, ?_, sub_i [] (fz ?_) (fz ?_)⟩
              · exact ⟨by omega, upto_stp hJ.2 (by rw [← hda (by omega)]; assumption)⟩
              · omega
              · first | trivial | rfl | exact ⟨rfl, rfl⟩
              · first | trivial | rfl
          · refine vc_exit ?_
            refine thn_x ?_
            refine thn_x ?_
            refine inB_x ?_
            refine thn ?_
            refine vc_sr ?_
            iterate 2 refine vo ?_
            refine vnt ?_
            refine vc_ret ?_
            refine fin_i [(0, some 7)] rfl (fz ?_) (fz ?_)
            · trivial
            · rw [descr_y hne g2 g3 (ds_all fun q hq => hJ.2 q (by omega))]
set_option maxHeartbeats 4000000 in
theorem c_spec_DescribePacket {l : List Pc} {size ck : Int} (hl_l : l.length ≤ 1099511627776 := by first | assumption | omega) : Con0 Tryz.prog 100 [.one (.sl 2 (l.map pcE)), I size, I ck] (.one (.hs 0)) [(0, .arr 145 6 ((descrF l size ck).map dscE))] := by
  refine con_i Tryz.func100 Tryz.ntmps100 (t := [(0, .one (.sl 2 (l.map pcE))), (1, I size), (2, I ck)]) rfl ?_
  refine vc_sr ?_
  refine vo ?_
  refine vnt ?_
  refine vc_sr ?_
  iterate 4 refine vo ?_
  refine vh1 (es' := [((2, 0, 0, 0, size, ck) : Dsc)].map dscE) rfl ?_
  refine vo ?_
  refine vnt ?_
  refine vc_seq' ?_
  refine vc_sr ?_
  iterate 2 refine vo ?_
  try first | refine vlb ?_ | refine vln ?_
  iterate 2 refine vo ?_
  refine vsp (fun g1 => ?_) (fun g1 => ?_)
  · iterate 3 refine vof ?_
    iterate 2 refine vo ?_
    iterate 3 refine vof ?_
    iterate 2 refine vo ?_
    iterate 5 refine vof ?_
    refine vo ?_
    refine vnt ?_
    refine vc_then ?_
    refine vc_sr ?_
    iterate 2 refine vo ?_
    refine vnt ?_
    refine vc_ret ?_
    refine thn_r ?_
    refine fin_i [(0, some 272)] rfl (fz ?_) (fz ?_)
    · trivial
    · rw [descr_n (.inl (List.eq_nil_of_length_eq_zero (by omega)))]; rfl
  · refine von ?_
    refine vocn c_spec_PiecesOk rfl rfl ?_
    refine von ?_
    iterate 2 refine vo ?_
    refine vsp (fun g2 => ?_) (fun g2 => ?_)
    · iterate 3 refine vof ?_
      iterate 2 refine vo ?_
      iterate 5 refine vof ?_
      refine vo ?_
      refine vnt ?_
      refine vc_then ?_
      refine vc_sr ?_
      iterate 2 refine vo ?_
      refine vnt ?_
      refine vc_ret ?_
      refine thn_r ?_
      refine fin_i [(0, some 272)] rfl (fz ?_) (fz ?_)
      · trivial
      · rw [descr_n (.inr (.inl g2))]; rfl
    · refine von ?_
      refine vocn c_spec_l01In rfl rfl ?_
      refine von ?_
      iterate 2 refine vo ?_
      refine vsp (fun g3 => ?_) (fun g3 => ?_)
      · iterate 5 refine vof ?_
        refine vo ?_
        refine vnt ?_
        refine vc_then ?_
        refine vc_sr ?_
        iterate 2 refine vo ?_
        refine vnt ?_
        refine vc_ret ?_
        refine thn_r ?_
        refine fin_i [(0, some 272)] rfl (fz ?_) (fz ?_)
        · trivial
        · rw [descr_n (.inr (.inr (.inl g3)))]; rfl
      · have hpl := pcs_len g2
        have hne : ¬ l = [] := fun h => by subst h; simp at g1
        have hz2 := inB_iff.1 g3
        iterate 2 refine von ?_
        first | refine vepl (j := 0) rfl ?_ | refine vptl (j := 0) rfl ?_
        refine von ?_
        refine vocn c_spec_DescOk rfl rfl ?_
        refine von ?_
        refine vo ?_
        refine vnt ?_
        refine vc_if (fun g4 => ?_) (fun g4 => ?_)
        · refine vc_sr ?_
          iterate 2 refine vo ?_
          refine vnt ?_
          refine vc_ret ?_
          refine thn_r ?_
          refine fin_i [(0, some 272)] rfl (fz ?_) (fz ?_)
          · trivial
          · rw [descr_bad (l := l) (size := size) (ck := ck) (i := 0) (by omega) g4]; rfl
        · have g4 : dOk (dAt l size ck 0) = true := g4
          refine vc_skip ?_
          refine thn ?_
          refine vc_seq' ?_
          refine vc_sr ?_
          refine vo ?_
          refine vnt ?_
          refine vc_block ?_
          refine vc_lp (σ := Nat) [0, 2] [] (fun i => [(7, .one (.hs 7)), (8, I (i : Nat))]) (fun i => [(7, .arr 145 6 ((dsF l size ck (i + 1)).map dscE))]) (fun i => i ≤ l.length ∧ ∀ q, q < i + 1 → dOk (dAt l size ck q) = true) (fun i => l.length - i) 0 rfl rfl (sub_i [(7, some 104)] (fz ?_) (fz ?_)) ?_ fun i hI => ?_
          · first | trivial | rfl
          · first | trivial | rfl | simp [dsF, dAt, dscE]
          · exact ⟨Nat.zero_le _, fun q h => by obtain rfl : q = 0 := (by omega); exact g4⟩
          refine vc_nf rfl rfl ?_
          have hdl := dsF_len l size ck (i + 1)
          refine vc_seq' ?_
          refine vc_sr ?_
          iterate 3 refine vo ?_
          try first | refine vlb ?_ | refine vln ?_
          refine vo ?_
          refine vnt ?_
          refine vc_if (fun g5 => ?_) (fun g5 => ?_)
          · refine vc_skip ?_
            refine thn ?_
            refine vc_seq' ?_
            refine vc_block ?_
            refine vc_sr ?_
            iterate 3 refine vo ?_
            try with_reducible (first | refine vep ?_ | refine vpt ?_)
            iterate 5 refine vo ?_
            try with_reducible (first | refine vep ?_ | refine vpt ?_)
            iterate 6 refine vo ?_
            refine vnt ?_
            refine vc_seq' ?_
            refine vc_sr ?_
            iterate 3 refine vo ?_
            try first | refine vlb ?_ | refine vln ?_
            refine vo ?_
            try refine vwr ?_
            refine vo ?_
            refine vnt ?_
            refine vc_if (fun g6 => ?_) (fun g6 => ?_)
            · have hfl : (if i + 1 = l.length then (1 : Int) else 0) = 1 := if_pos (by omega)
              refine vc_region ?_
              iterate 2 refine vo ?_
              refine vnt ?_
              refine vc_seq' ?_
              refine vc_sr ?_
              refine vo ?_
              refine voc c_spec_DescOk rfl rfl ?_
              refine vo ?_
              refine vnt ?_
              refine vc_if (fun g7 => ?_) (fun g7 => ?_)
              · refine vc_sr ?_
                iterate 2 refine vo ?_
                refine vnt ?_
                refine vc_ret ?_
                refine thn_r ?_
                refine inB_r ?_
                refine thn_r ?_
                refine thn_r ?_
                refine inB_r ?_
                refine thn_r ?_
                refine fin_i [(0, some 496)] rfl (fz ?_) (fz ?_)
                · trivial
                · rw [descr_bad (l := l) (size := size) (ck := ck) (i := i + 1) (by omega) (by rw [ds_at hfl]; exact g7)]; rfl
              · refine vc_skip ?_
                refine thn ?_
                refine vc_region ?_
                iterate 5 refine vo ?_
                refine vnil ?_
                refine inB_n ?_
                refine thn ?_
                refine vc_region ?_
                iterate 2 refine vo ?_
                try refine vwr ?_
                refine vo ?_
                refine vnt ?_
                refine ⟨i + 1, ?_, ?_, sub_i [(7, some 528)] (fz ?_) (fz ?_)⟩
                · exact ⟨by omega, upto_stp hI.2 (by rw [ds_at hfl]; assumption)⟩
                · omega
                · first | trivial | rfl | exact ⟨rfl, rfl⟩
                · rw [← dsF_stp]; simp [dscE, dAt, hfl]
            · have hfl : (if i + 1 = l.length then (1 : Int) else 0) = 0 := if_neg (by omega)
              refine vc_skip ?_
              refine thn ?_
              refine vc_seq' ?_
              refine vc_sr ?_
              refine vo ?_
              refine voc c_spec_DescOk rfl rfl ?_
              refine vo ?_
              refine vnt ?_
              refine vc_if (fun g8 => ?_) (fun g8 => ?_)
              · refine vc_sr ?_
                iterate 2 refine vo ?_
                refine vnt ?_
                refine vc_ret ?_
                refine thn_r ?_
                refine inB_r ?_
                refine thn_r ?_
                refine thn_r ?_
                refine inB_r ?_
                refine thn_r ?_
                refine fin_i [(0, some 496)] rfl (fz ?_) (fz ?_)
                · trivial
                · rw [descr_bad (l := l) (size := size) (ck := ck) (i := i + 1) (by omega) (by rw [ds_at hfl]; exact g8)]; rfl
              · refine vc_skip ?_
                refine thn ?_
                refine vc_region ?_
                iterate 5 refine vo ?_
                refine vnil ?_
                refine inB_n ?_
                refine thn ?_
                refine vc_region ?_
                iterate 2 refine vo ?_
                try refine vwr ?_
                refine vo ?_
                refine vnt ?_
                refine ⟨i + 1, ?_, ?_, sub_i [(7, some 528)] (fz ?_) (fz ?_)⟩
                · exact ⟨by omega, upto_stp hI.2 (by rw [ds_at hfl]; assumption)⟩
                · omega
                · first | trivial | rfl | exact ⟨rfl, rfl⟩
                · rw [← dsF_stp]; simp [dscE, dAt, hfl]
          · refine vc_exit ?_
            refine thn_x ?_
            refine thn_x ?_
            refine inB_x ?_
            refine thn ?_
            refine vc_sr ?_
            iterate 2 refine vo ?_
            refine vnt ?_
            refine vc_ret ?_
            refine fin_i [(0, some 7)] rfl (fz ?_) (fz ?_)
            · trivial
            · rw [descr_y hne g2 g3 (ds_all fun q hq => hI.2 q (by omega)), show l.length = i by omega]
set_option maxHeartbeats 4000000 in
theorem c_spec_l19Same {l m : List Dsc} (hl_l : l.length ≤ 1099511627776 := by first | assumption | omega) (hl_m : m.length ≤ 1099511627776 := by first | assumption | omega) : Con0 Tryz.prog 99 [.one (.sl 6 (m.map dscE)), .one (.sl 6 (l.map dscE))] (B (decide (m = l))) [] := by
  have hE := eqk_Desc
  refine con_i Tryz.func99 Tryz.ntmps99 (t := [(0, .one (.sl 6 (m.map dscE))), (1, .one (.sl 6 (l.map dscE)))]) rfl ?_
  refine vc_sr ?_
  refine vo ?_
  refine vnt ?_
  refine vc_seq' ?_
  refine vc_sr ?_
  iterate 2 refine vo ?_
  try first | refine vlb ?_ | refine vln ?_
  iterate 2 refine vo ?_
  try first | refine vlb ?_ | refine vln ?_
  refine vo ?_
  refine vnt ?_
  refine vc_if (fun g1 => ?_) (fun g1 => ?_)
  · refine vc_sr ?_
    refine vo ?_
    refine vnt ?_
    refine vc_ret ?_
    refine thn_r ?_
    refine fin_i [] rfl (fz ?_) trivial
    exact decide_eq_false fun h => by subst h; omega
  · refine vc_skip ?_
    refine thn ?_
    refine vc_seq' ?_
    refine vc_sr ?_
    refine vo ?_
    refine vnt ?_
    refine vc_block ?_
    refine vc_lp (σ := Nat) [0, 1] [] (fun i => [(5, I (i : Nat))]) (fun i => []) (fun i => i ≤ m.length ∧ ∀ j, j < i → at' m j = at' l j) (fun i => m.length - i) 0 rfl rfl (sub_i [] (fz ?_) (fz ?_)) ?_ fun i hI => ?_
    · first | trivial | rfl
    · first | trivial | rfl
    · exact ⟨Nat.zero_le _, fun j h => by omega⟩
    refine vc_nf rfl rfl ?_
    refine vc_seq' ?_
    refine vc_sr ?_
    iterate 3 refine vo ?_
    try first | refine vlb ?_ | refine vln ?_
    refine vo ?_
    refine vnt ?_
    refine vc_if (fun g2 => ?_) (fun g2 => ?_)
    · refine vc_skip ?_
      refine thn ?_
      refine vc_seq' ?_
      refine vc_block ?_
      refine vc_sr ?_
      iterate 3 refine vo ?_
      try with_reducible (first | refine vep ?_ | refine vpt ?_)
      iterate 4 refine vo ?_
      try with_reducible (first | refine vep ?_ | refine vpt ?_)
      iterate 2 refine vo ?_
      refine vnt ?_
      refine vc_if (fun g3 => ?_) (fun g3 => ?_)
      · refine vc_sr ?_
        refine vo ?_
        refine vnt ?_
        refine vc_ret ?_
        refine inB_r ?_
        refine thn_r ?_
        refine thn_r ?_
        refine inB_r ?_
        refine thn_r ?_
        refine fin_i [] rfl (fz ?_) trivial
        exact decide_eq_false fun h => ceq_no g3 (by rw [h])
      · refine vc_skip ?_
        refine inB_n ?_
        refine thn ?_
        refine vc_region ?_
        iterate 2 refine vo ?_
        try refine vwr ?_
        refine vo ?_
        refine vnt ?_
        refine ⟨i + 1, ?_, ?_, sub_i [] (fz ?_) (fz ?_)⟩
        · exact ⟨by omega, same_stp hI.2 (ceq_yes (by assumption))⟩
        · omega
        · first | rfl | trivial | exact ⟨rfl, rfl⟩
        · first | rfl | trivial
    · refine vc_exit ?_
      refine thn_x ?_
      refine thn_x ?_
      refine inB_x ?_
      refine thn ?_
      refine vc_sr ?_
      refine vo ?_
      refine vnt ?_
      refine vc_ret ?_
      refine fin_i [] rfl (fz ?_) trivial
      exact decide_eq_true (same_end (by omega) hI.2 (by omega))
set_option maxHeartbeats 4000000 in
theorem c_impl_PiecesOfDescs {l : List Dsc} (hl_l : l.length ≤ 1000000 := by first | assumption | omega) : Con0 Tryz.prog 53 [.one (.sl 6 (l.map dscE))] (.tup [.one (.hs 0), I (podS l), I (podC l), B (podB l)]) [(0, .arr 149 2 ((podF l).map pcE))] := by
  have hE := eqk_Desc
  refine con_i Tryz.func53 Tryz.ntmps53 (t := [(0, .one (.sl 6 (l.map dscE)))]) rfl ?_
  refine vc_sr ?_
  iterate 4 refine vo ?_
  refine vnt ?_
  refine vc_seq' ?_
  refine vc_sr ?_
  iterate 2 refine vo ?_
  try first | refine vlb ?_ | refine vln ?_
  refine vo ?_
  refine vnt ?_
  refine vc_if (fun g1 => ?_) (fun g1 => ?_)
  · refine vc_sr ?_
    iterate 4 refine vo ?_
    refine vnt ?_
    refine vc_ret ?_
    refine thn_r ?_
    have hh := pod_n (l := l) (.inl (by omega))
    refine fin_i [(0, none)] rfl (fz ?_) (fz ?_)
    · rw [hh.2.1, hh.2.2.1, hh.2.2.2]; trivial
    · rw [hh.1]; rfl
  · refine vc_skip ?_
    refine thn ?_
    refine vc_sr ?_
    iterate 2 refine vo ?_
    refine vnt ?_
    refine vc_seq' ?_
    refine vc_sr ?_
    iterate 2 refine vo ?_
    try first | refine vdrl (j := 1) rfl ?_ | refine vhc (j := 1) rfl ?_
    refine vo ?_
    try first | refine vlb ?_ | refine vln ?_
    refine vo ?_
    refine vnt ?_
    refine vc_block ?_
    refine vc_lp (σ := Nat) [0, 18, 19] [] (fun i => [(6, .one (.hs 7)), (20, I (i : Nat))]) (fun i => [(7, .arr 149 2 ((((l.drop 1).take i).map podP).map pcE))]) (fun i => i ≤ (l.drop 1).length) (fun i => (l.drop 1).length - i) 0 rfl rfl (sub_i [(7, some 128)] (fz ?_) (fz ?_)) ?_ fun i hI => ?_
    · first | trivial | rfl
    · first | trivial | rfl
    · exact Nat.zero_le _
    refine vc_nf rfl rfl ?_
    have hdl : (l.drop 1).length = l.length - 1 := List.length_drop
    have htl : (((l.drop 1).take i).map podP).length = i := by rw [List.length_map, List.length_take]; omega
    refine vc_sr ?_
    refine vo ?_
    refine vnt ?_
    refine vc_seq' ?_
    refine vc_if (fun g2 => ?_) (fun g2 => ?_)
    · refine vc_skip ?_
      refine thn ?_
      refine vc_seq' ?_
      refine vc_block ?_
      refine vc_sr ?_
      refine vo ?_
      try with_reducible (first | refine vep ?_ | refine vpt ?_)
      iterate 3 refine vo ?_
      refine vnt ?_
      refine vc_region ?_
      iterate 9 refine vo ?_
      refine vnil ?_
      refine inB_n ?_
      refine thn ?_
      refine vc_region ?_
      refine vo ?_
      try refine vwr ?_
      refine vo ?_
      refine vnt ?_
      refine ⟨i + 1, ?_, ?_, sub_i [(7, some 248)] (fz ?_) (fz ?_)⟩
      · omega
      · omega
      · first | trivial | rfl | exact ⟨rfl, rfl⟩
      · rw [← podL_stp (by omega)]; simp [pcE, podP]
    · rw [podL_end (by omega)]
      have hpl := podL_len l
      have hwl := descrF_le (podL l) (at' l 0).2.2.2.2.1 (at' l 0).2.2.2.2.2
      refine vc_exit ?_
      refine thn_x ?_
      refine thn_x ?_
      refine inB_x ?_
      refine thn ?_
      refine vc_sr ?_
      iterate 2 refine vo ?_
      first | refine vepl (j := 0) rfl ?_ | refine vptl (j := 0) rfl ?_
      iterate 4 refine vo ?_
      first | refine vepl (j := 0) rfl ?_ | refine vptl (j := 0) rfl ?_
      iterate 4 refine vo ?_
      refine vnt ?_
      refine vc_sr ?_
      iterate 3 refine vo ?_
      refine voc c_impl_DescribePacket rfl rfl ?_
      refine vo ?_
      refine vnt ?_
      refine vc_seq' ?_
      refine vc_sr ?_
      iterate 2 refine vo ?_
      try first | refine vlb ?_ | refine vln ?_
      iterate 2 refine vo ?_
      try first | refine vlb ?_ | refine vln ?_
      refine vo ?_
      refine vnt ?_
      refine vc_if (fun g3 => ?_) (fun g3 => ?_)
      · refine vc_sr ?_
        iterate 4 refine vo ?_
        refine vnt ?_
        refine vc_ret ?_
        refine thn_r ?_
        have hh := pod_n (l := l) (.inr fun h => g3 (by rw [h]))
        refine fin_i [(0, none)] rfl (fz ?_) (fz ?_)
        · rw [hh.2.1, hh.2.2.1, hh.2.2.2]; trivial
        · rw [hh.1]; rfl
      · refine vc_skip ?_
        refine thn ?_
        refine vc_seq' ?_
        refine vc_sr ?_
        iterate 2 refine vo ?_
        try first | refine vlb ?_ | refine vln ?_
        refine vo ?_
        refine vnt ?_
        refine vc_block ?_
        refine vc_lp (σ := Nat) [0, 6, 9, 10, 11, 51] [7, 352] (fun j => [(52, I (j : Nat))]) (fun j => []) (fun j => j ≤ (descrF (podL l) (at' l 0).2.2.2.2.1 (at' l 0).2.2.2.2.2).length ∧ ∀ q, q < j → at' (descrF (podL l) (at' l 0).2.2.2.2.1 (at' l 0).2.2.2.2.2) q = at' l q) (fun j => (descrF (podL l) (at' l 0).2.2.2.2.1 (at' l 0).2.2.2.2.2).length - j) 0 rfl rfl (sub_i [] (fz ?_) (fz ?_)) ?_ fun j hJ => ?_
        · first | trivial | rfl
        · first | trivial | rfl
        · exact ⟨Nat.zero_le _, fun q h => by omega⟩
        refine vc_nf rfl rfl ?_
        refine vc_sr ?_
        refine vo ?_
        refine vnt ?_
        refine vc_seq' ?_
        refine vc_if (fun g4 => ?_) (fun g4 => ?_)
        · refine vc_skip ?_
          refine thn ?_
          refine vc_seq' ?_
          refine vc_block ?_
          refine vc_sr ?_
          iterate 2 refine vo ?_
          refine vnt ?_
          refine vc_sr ?_
          iterate 3 refine vo ?_
          try with_reducible (first | refine vep ?_ | refine vpt ?_)
          iterate 4 refine vo ?_
          try with_reducible (first | refine vep ?_ | refine vpt ?_)
          iterate 2 refine vo ?_
          refine vnt ?_
          refine vc_if (fun g5 => ?_) (fun g5 => ?_)
          · refine vc_sr ?_
            iterate 4 refine vo ?_
            refine vnt ?_
            refine vc_ret ?_
            refine inB_r ?_
            refine thn_r ?_
            refine thn_r ?_
            refine inB_r ?_
            refine thn_r ?_
            have hh := pod_n (l := l) (.inr fun h => ceq_no g5 (by rw [h]))
            refine fin_i [(0, none)] rfl (fz ?_) (fz ?_)
            · rw [hh.2.1, hh.2.2.1, hh.2.2.2]; trivial
            · rw [hh.1]; rfl
          · refine vc_skip ?_
            refine inB_n ?_
            refine thn ?_
            refine vc_region ?_
            refine vo ?_
            try refine vwr ?_
            refine vo ?_
            refine vnt ?_
            refine ⟨j + 1, ?_, ?_, sub_i [] (fz ?_) (fz ?_)⟩
            · exact ⟨by omega, same_stp hJ.2 (ceq_yes (by assumption))⟩
            · omega
            · first | trivial | rfl | exact ⟨rfl, rfl⟩
            · first | trivial | rfl
        · refine vc_exit ?_
          refine thn_x ?_
          refine thn_x ?_
          refine inB_x ?_
          refine thn ?_
          refine vc_sr ?_
          iterate 7 refine vo ?_
          refine vnt ?_
          refine vc_ret ?_
          have hh := pod_y (l := l) (by omega) (same_end (by omega) hJ.2 (by omega))
          refine fin_i [(0, some 7)] rfl (fz ?_) (fz ?_)
          · rw [hh.2.1, hh.2.2.1, hh.2.2.2]; trivial
          · rw [hh.1]
set_option maxHeartbeats 4000000 in
theorem c_spec_PiecesOfDescs {l : List Dsc} (hl_l : l.length ≤ 1000000 := by first | assumption | omega) : Con0 Tryz.prog 43 [.one (.sl 6 (l.map dscE))] (.tup [.one (.hs 0), I (podS l), I (podC l), B (podB l)]) [(0, .arr 149 2 ((podF l).map pcE))] := by
  refine con_i Tryz.func43 Tryz.ntmps43 (t := [(0, .one (.sl 6 (l.map dscE)))]) rfl ?_
  refine vc_sr ?_
  iterate 4 refine vo ?_
  refine vnt ?_
  refine vc_sr ?_
  iterate 2 refine vo ?_
  refine vnt ?_
  refine vc_seq' ?_
  refine vc_sr ?_
  refine vo ?_
  refine vnt ?_
  refine vc_block ?_
  refine vc_lp (σ := Nat) [0] [] (fun i => [(6, .one (.hs 7)), (7, I ((i + 1 : Nat) : Int))]) (fun i => [(7, .arr 149 2 ((((l.drop 1).take i).map podP).map pcE))]) (fun i => i ≤ (l.drop 1).length) (fun i => (l.drop 1).length - i) 0 rfl rfl (sub_i [(7, some 64)] (fz ?_) (fz ?_)) ?_ fun i hI => ?_
  · first | trivial | rfl
  · first | trivial | rfl
  · exact Nat.zero_le _
  refine vc_nf rfl rfl ?_
  have hdl : (l.drop 1).length = l.length - 1 := List.length_drop
  have htl : (((l.drop 1).take i).map podP).length = i := by rw [List.length_map, List.length_take]; omega
  have had : at' (l.drop 1) i = at' l (i + 1) := by rw [at_drop, Nat.add_comm]
  refine vc_seq' ?_
  refine vc_sr ?_
  iterate 3 refine vo ?_
  try first | refine vlb ?_ | refine vln ?_
  refine vo ?_
  refine vnt ?_
  refine vc_if (fun g1 => ?_) (fun g1 => ?_)
  · refine vc_skip ?_
    refine thn ?_
    refine vc_seq' ?_
    refine vc_block ?_
    refine vc_region ?_
    iterate 4 refine vo ?_
    try with_reducible (first | refine vep ?_ | refine vpt ?_)
    iterate 5 refine vo ?_
    try with_reducible (first | refine vep ?_ | refine vpt ?_)
    iterate 6 refine vo ?_
    refine vnil ?_
    refine inB_n ?_
    refine thn ?_
    refine vc_region ?_
    iterate 2 refine vo ?_
    try refine vwr ?_
    refine vo ?_
    refine vnt ?_
    refine ⟨i + 1, ?_, ?_, sub_i [(7, some 224)] (fz ?_) (fz ?_)⟩
    · omega
    · omega
    · first | trivial | rfl | exact ⟨rfl, rfl⟩
    · rw [← podL_stp (by omega), had]; simp [pcE, podP]
  · rw [podL_end (by omega)]
    have hpl := podL_len l
    have hwl := descrF_le (podL l) (at' l 0).2.2.2.2.1 (at' l 0).2.2.2.2.2
    refine vc_exit ?_
    refine thn_x ?_
    refine thn_x ?_
    refine inB_x ?_
    refine thn ?_
    refine vc_seq' ?_
    refine vc_sr ?_
    iterate 2 refine vo ?_
    try first | refine vlb ?_ | refine vln ?_
    iterate 2 refine vo ?_
    refine vsp (fun g2 => ?_) (fun g2 => ?_)
    · iterate 13 refine vof ?_
      refine vo ?_
      refine vnt ?_
      refine vc_then ?_
      refine vc_sr ?_
      iterate 5 refine vo ?_
      refine vnt ?_
      refine vc_ret ?_
      refine thn_r ?_
      have hh := pod_n (l := l) (.inl (by omega))
      refine fin_i [(0, some 376)] rfl (fz ?_) (fz ?_)
      · rw [hh.2.1, hh.2.2.1, hh.2.2.2]; trivial
      · rw [hh.1]; rfl
    · iterate 3 refine von ?_
      first | refine vepl (j := 0) rfl ?_ | refine vptl (j := 0) rfl ?_
      iterate 4 refine von ?_
      first | refine vepl (j := 0) rfl ?_ | refine vptl (j := 0) rfl ?_
      iterate 2 refine von ?_
      refine vocn c_spec_DescribePacket rfl rfl ?_
      refine von ?_
      refine vocn c_spec_l19Same rfl rfl ?_
      refine von ?_
      refine vo ?_
      refine vnt ?_
      refine vc_if (fun g3 => ?_) (fun g3 => ?_)
      · refine vc_sr ?_
        iterate 5 refine vo ?_
        refine vnt ?_
        refine vc_ret ?_
        refine thn_r ?_
        have hh := pod_n (l := l) (.inr g3)
        refine fin_i [(0, some 376)] rfl (fz ?_) (fz ?_)
        · rw [hh.2.1, hh.2.2.1, hh.2.2.2]; trivial
        · rw [hh.1]; rfl
      · refine vc_skip ?_
        refine thn ?_
        refine vc_sr ?_
        iterate 3 refine vo ?_
        first | refine vepl (j := 0) rfl ?_ | refine vptl (j := 0) rfl ?_
        iterate 4 refine vo ?_
        first | refine vepl (j := 0) rfl ?_ | refine vptl (j := 0) rfl ?_
        iterate 6 refine vo ?_
        refine vnt ?_
        refine vc_ret ?_
        have hh := pod_y (l := l) (by omega) g3
        refine fin_i [(0, some 7)] rfl (fz ?_) (fz ?_)
        · rw [hh.2.1, hh.2.2.1, hh.2.2.2]; trivial
        · rw [hh.1]
theorem atp_mem' {α : Type} [Inhabited α] {l : List α} {i : Nat} (h : i < l.length) : at' l i ∈ l := by rw [atq_eq h]; exact List.getElem_mem h
set_option maxHeartbeats 4000000 in
theorem c_impl_GatherPieces {l : List Mp} {ps : Pg} {d : Int} {pcs : List Pc} (hl : l.length ≤ 1099511627776 := by first | assumption | omega) (hp : ps.length ≤ 1099511627776 := by first | assumption | omega) (hl_pcs : pcs.length ≤ 1099511627776 := by first | assumption | omega) (hb : ∀ x ∈ pcs, x.1 ≤ 9223372036854775807 := by assumption) : Con0 Tryz.prog 54 [.one (.sl 4 (l.map mpE)), .agg [.sl 1 (ps.map strE)], I d, .one (.sl 2 (pcs.map pcE))] (.tup [Z (gathF l ps d pcs).1, B (gathF l ps d pcs).2]) [] := by
  refine con_i Tryz.func54 Tryz.ntmps54 (t := [(0, .one (.sl 4 (l.map mpE))), (1, .agg [.sl 1 (ps.map strE)]), (2, I d), (3, .one (.sl 2 (pcs.map pcE)))]) rfl ?_
  refine vc_sr ?_
  iterate 3 refine vo ?_
  refine vnt ?_
  refine vc_seq' ?_
  refine vc_sr ?_
  refine vo ?_
  refine voc c_impl_PiecesOk rfl rfl ?_
  refine vo ?_
  refine vnt ?_
  refine vc_if (fun g1 => ?_) (fun g1 => ?_)
  · refine vc_sr ?_
    iterate 2 refine vo ?_
    refine vnt ?_
    refine vc_ret ?_
    refine thn_r ?_
    refine fin_i [] rfl (fz ?_) trivial
    rw [gathF_n g1]
    trivial
  · refine vc_skip ?_
    refine thn ?_
    refine vc_sr ?_
    refine vo ?_
    refine vnt ?_
    refine vc_seq' ?_
    refine vc_sr ?_
    iterate 2 refine vo ?_
    try first | refine vlb ?_ | refine vln ?_
    refine vo ?_
    refine vnt ?_
    refine vc_block ?_
    refine vc_lp2 [0, 2, 5, 18, 19] [40] (fun (i : Nat) (o : ByteArray) => [(10, Z o), (20, I (i : Nat))]) (fun (i : Nat) (o : ByteArray) => []) (fun (i : Nat) (o : ByteArray) => i ≤ pcs.length ∧ gath l ps d pcs ⟨#[]⟩ = gath l ps d (pcs.drop i) o ∧ o.size ≤ 4096 * i) (fun (i : Nat) (o : ByteArray) => pcs.length - i) 0 ⟨#[]⟩ rfl rfl (sub_i [] (fz ?_) (fz ?_)) ?_ fun i o hI => ?_
    · first | trivial | rfl | exact ⟨rfl, rfl⟩
    · first | trivial | rfl
    · exact ⟨Nat.zero_le _, rfl, Nat.zero_le _⟩
    refine vc_nf rfl rfl ?_
    refine vc_sr ?_
    refine vo ?_
    refine vnt ?_
    refine vc_seq' ?_
    refine vc_if (fun g2 => ?_) (fun g2 => ?_)
    · have hbi := hb _ (atp_mem' g2)
      have hpi := (pcsOk_iff.1 g1).1 i g2
      have hdz := dmaRF_le l ps d (at' pcs i).1 (at' pcs i).2 hpi.2.2
      have hpl := (pcsOk_iff.1 g1).2
      refine vc_skip ?_
      refine thn ?_
      refine vc_seq' ?_
      refine vc_block ?_
      refine vc_sr ?_
      refine vo ?_
      try with_reducible (first | refine vep ?_ | refine vpt ?_)
      iterate 3 refine vo ?_
      refine vnt ?_
      refine vc_sr ?_
      iterate 7 refine vo ?_
      refine voc c_impl_DmaRead rfl rfl ?_
      iterate 5 refine vo ?_
      refine vnt ?_
      refine vc_seq' ?_
      refine vc_sr ?_
      iterate 2 refine vo ?_
      refine vnt ?_
      refine vc_if (fun g3 => ?_) (fun g3 => ?_)
      · refine vc_sr ?_
        iterate 2 refine vo ?_
        refine vnt ?_
        refine vc_ret ?_
        refine thn_r ?_
        refine inB_r ?_
        refine thn_r ?_
        refine thn_r ?_
        refine inB_r ?_
        refine thn_r ?_
        refine fin_i [] rfl (fz ?_) trivial
        rw [gathF_y g1, gath_bad hI.2.1 g2 g3]
        trivial
      · refine vc_skip ?_
        refine thn ?_
        refine vc_region ?_
        iterate 4 refine vo ?_
        refine vnil ?_
        refine inB_n ?_
        refine thn ?_
        refine vc_region ?_
        refine vo ?_
        try refine vwr ?_
        refine vo ?_
        refine vnt ?_
        refine ⟨i + 1, o ++ (dmaRF l ps d (at' pcs i).1 (at' pcs i).2).1, ?_, ?_, sub_i [] (fz ?_) (fz ?_)⟩
        · exact ⟨by omega, gath_stp hI.2.1 g2 g3, by rw [ByteArray.size_append]; omega⟩
        · omega
        · first | trivial | rfl | exact ⟨rfl, rfl⟩
        · first | trivial | rfl
    · refine vc_exit ?_
      refine thn_x ?_
      refine thn_x ?_
      refine inB_x ?_
      refine thn ?_
      refine vc_sr ?_
      iterate 3 refine vo ?_
      refine vnt ?_
      refine vc_ret ?_
      refine fin_i [] rfl (fz ?_) trivial
      rw [gathF_y g1, gath_end hI.2.1 (by omega)]
      trivial
set_option maxHeartbeats 4000000 in
theorem c_spec_GatherPieces {l : List Mp} {ps : Pg} {d : Int} {pcs : List Pc} (hl : l.length ≤ 1099511627776 := by first | assumption | omega) (hp : ps.length ≤ 1099511627776 := by first | assumption | omega) (hl_pcs : pcs.length ≤ 1099511627776 := by first | assumption | omega) (hb : ∀ x ∈ pcs, x.1 ≤ 9223372036854775807 := by assumption) : Con0 Tryz.prog 44 [.one (.sl 4 (l.map mpE)), .agg [.sl 1 (ps.map strE)], I d, .one (.sl 2 (pcs.map pcE))] (.tup [Z (gathF l ps d pcs).1, B (gathF l ps d pcs).2]) [] := by
  refine con_i Tryz.func44 Tryz.ntmps44 (t := [(0, .one (.sl 4 (l.map mpE))), (1, .agg [.sl 1 (ps.map strE)]), (2, I d), (3, .one (.sl 2 (pcs.map pcE)))]) rfl ?_
  refine vc_sr ?_
  iterate 3 refine vo ?_
  refine vnt ?_
  refine vc_sr ?_
  refine vo ?_
  refine vnt ?_
  refine vc_seq' ?_
  refine vc_sr ?_
  refine vo ?_
  refine voc c_spec_PiecesOk rfl rfl ?_
  refine vo ?_
  refine vnt ?_
  refine vc_if (fun g1 => ?_) (fun g1 => ?_)
  · refine vc_sr ?_
    iterate 2 refine vo ?_
    refine vnt ?_
    refine vc_ret ?_
    refine thn_r ?_
    refine fin_i [] rfl (fz ?_) trivial
    rw [gathF_n g1]
    trivial
  · refine vc_skip ?_
    refine thn ?_
    refine vc_seq' ?_
    refine vc_sr ?_
    refine vo ?_
    refine vnt ?_
    refine vc_block ?_
    refine vc_lp2 [0, 2, 3, 5] [40] (fun (i : Nat) (o : ByteArray) => [(10, Z o), (11, I (i : Nat))]) (fun (i : Nat) (o : ByteArray) => []) (fun (i : Nat) (o : ByteArray) => i ≤ pcs.length ∧ gath l ps d pcs ⟨#[]⟩ = gath l ps d (pcs.drop i) o ∧ o.size ≤ 4096 * i) (fun (i : Nat) (o : ByteArray) => pcs.length - i) 0 ⟨#[]⟩ rfl rfl (sub_i [] (fz ?_) (fz ?_)) ?_ fun i o hI => ?_
    · first | trivial | rfl | exact ⟨rfl, rfl⟩
    · first | trivial | rfl
    · exact ⟨Nat.zero_le _, rfl, Nat.zero_le _⟩
    refine vc_nf rfl rfl ?_
    refine vc_seq' ?_
    refine vc_sr ?_
    iterate 3 refine vo ?_
    try first | refine vlb ?_ | refine vln ?_
    refine vo ?_
    refine vnt ?_
    refine vc_if (fun g2 => ?_) (fun g2 => ?_)
    · have hbi := hb _ (atp_mem' g2)
      have hpi := (pcsOk_iff.1 g1).1 i g2
      have hdz := dmaRF_le l ps d (at' pcs i).1 (at' pcs i).2 hpi.2.2
      have hpl := (pcsOk_iff.1 g1).2
      refine vc_skip ?_
      refine thn ?_
      refine vc_seq' ?_
      refine vc_block ?_
      refine vc_sr ?_
      iterate 6 refine vo ?_
      try with_reducible (first | refine vep ?_ | refine vpt ?_)
      iterate 5 refine vo ?_
      try with_reducible (first | refine vep ?_ | refine vpt ?_)
      iterate 2 refine vo ?_
      refine voc c_spec_DmaRead rfl rfl ?_
      iterate 5 refine vo ?_
      refine vnt ?_
      refine vc_seq' ?_
      refine vc_sr ?_
      iterate 2 refine vo ?_
      refine vnt ?_
      refine vc_if (fun g3 => ?_) (fun g3 => ?_)
      · refine vc_sr ?_
        iterate 2 refine vo ?_
        refine vnt ?_
        refine vc_ret ?_
        refine thn_r ?_
        refine inB_r ?_
        refine thn_r ?_
        refine thn_r ?_
        refine inB_r ?_
        refine thn_r ?_
        refine fin_i [] rfl (fz ?_) trivial
        rw [gathF_y g1, gath_bad hI.2.1 g2 g3]
        trivial
      · refine vc_skip ?_
        refine thn ?_
        refine vc_region ?_
        iterate 4 refine vo ?_
        refine vnil ?_
        refine inB_n ?_
        refine thn ?_
        refine vc_region ?_
        iterate 2 refine vo ?_
        try refine vwr ?_
        refine vo ?_
        refine vnt ?_
        refine ⟨i + 1, o ++ (dmaRF l ps d (at' pcs i).1 (at' pcs i).2).1, ?_, ?_, sub_i [] (fz ?_) (fz ?_)⟩
        · exact ⟨by omega, gath_stp hI.2.1 g2 g3, by rw [ByteArray.size_append]; omega⟩
        · omega
        · first | trivial | rfl | exact ⟨rfl, rfl⟩
        · first | trivial | rfl
    · refine vc_exit ?_
      refine thn_x ?_
      refine thn_x ?_
      refine inB_x ?_
      refine thn ?_
      refine vc_sr ?_
      iterate 3 refine vo ?_
      refine vnt ?_
      refine vc_ret ?_
      refine fin_i [] rfl (fz ?_) trivial
      rw [gathF_y g1, gath_end hI.2.1 (by omega)]
      trivial
set_option maxHeartbeats 4000000 in
theorem c_impl_TakeChain {l : List Mp} {ps : Pg} {d b s h t : Int} (hl : l.length ≤ 1099511627776 := by first | assumption | omega) (hp : ps.length ≤ 1099511627776 := by first | assumption | omega) : Con0 Tryz.prog 52 [.one (.sl 4 (l.map mpE)), .agg [.sl 1 (ps.map strE)], I d, .agg [V b, V s, V h, V t]] (.tup [.one (.hs 0), .agg [V b, V s, V (tcF l ps d b s h t).2.1, V t], B (tcF l ps d b s h t).2.2]) [(0, .arr 145 6 ((tcF l ps d b s h t).1.map dscE))] := by
  refine con_i Tryz.func52 Tryz.ntmps52 (t := [(0, .one (.sl 4 (l.map mpE))), (1, .agg [.sl 1 (ps.map strE)]), (2, I d), (3, .agg [V b, V s, V h, V t])]) rfl ?_
  refine vc_sr ?_
  iterate 5 refine vo ?_
  refine vnt ?_
  refine vc_seq' ?_
  refine vc_sr ?_
  refine vo ?_
  refine voc c_impl_RingOk rfl rfl ?_
  iterate 2 refine vo ?_
  refine vsp (fun g1 => ?_) (fun g1 => ?_)
  · iterate 3 refine vof ?_
    refine vo ?_
    refine vnt ?_
    refine vc_then ?_
    refine vc_sr ?_
    iterate 4 refine vo ?_
    refine vnt ?_
    refine vc_ret ?_
    refine thn_r ?_
    have hh := tc_n (l := l) (ps := ps) (d := d) (b := b) (s := s) (h := h) (t := t) (.inl g1)
    refine fin_i [(0, none)] rfl (fz ?_) (fz ?_)
    · rw [hh]; trivial
    · first | (rw [hh]; done) | (rw [hh]; simp [dscE, dsc1])
  · have hs0 := (ringOk_facts g1).1
    refine von ?_
    refine vocn c_impl_RingUsed rfl rfl ?_
    refine von ?_
    refine vo ?_
    refine vnt ?_
    refine vc_if (fun g2 => ?_) (fun g2 => ?_)
    · refine vc_sr ?_
      iterate 4 refine vo ?_
      refine vnt ?_
      refine vc_ret ?_
      refine thn_r ?_
      have hh := tc_n (l := l) (ps := ps) (d := d) (b := b) (s := s) (h := h) (t := t) (.inr g2)
      refine fin_i [(0, none)] rfl (fz ?_) (fz ?_)
      · rw [hh]; trivial
      · first | (rw [hh]; done) | (rw [hh]; simp [dscE, dsc1])
    · refine vc_skip ?_
      refine thn ?_
      refine vc_sr ?_
      iterate 3 refine vo ?_
      refine vnt ?_
      refine vc_sr ?_
      iterate 4 refine vo ?_
      refine vnt ?_
      refine vc_sr ?_
      iterate 2 refine vo ?_
      refine vnt ?_
      refine vc_seq' ?_
      refine vc_block ?_
      refine vc_lp2 [0, 2, 5, 7, 9, 11] [40, 88] (fun (h1 : Int) (o : List Dsc) => [(12, .one (.hs 7))]) (fun (h1 : Int) (o : List Dsc) => [(7, .arr 145 6 (o.map dscE)), (56, .row 30 [V b, V s, V h1, V t]), (72, .row 30 [V 0, V 0, V 0, V 0])]) (fun (h1 : Int) (o : List Dsc) => ringOkB b s h1 t = true ∧ chn l ps d b s t (usedF s h t).toNat h [] = chn l ps d b s t (usedF s h1 t).toNat h1 o ∧ (o.length : Int) + usedF s h1 t ≤ 16) (fun (h1 : Int) (o : List Dsc) => (usedF s h1 t).toNat) h [] rfl rfl (sub_i [(56, some 56), (72, some 72), (7, some 240)] (fz ?_) (fz ?_)) ?_ fun h1 o hI => ?_
      · first | trivial | rfl
      · first | trivial | rfl | exact ⟨rfl, rfl⟩
      · exact ⟨g1, rfl, by have := used_bd g1; simp; omega⟩
      refine vc_nf rfl rfl ?_
      have hr := hI.1
      have hsz := sizeB_cases (ringOk_facts hr).1
      have hs1 := (ringOk_facts hr).1
      have hub := used_bd hr
      have hrz := rt_sz l ps d b s h1 t
      refine vc_seq' ?_
      refine vc_sr ?_
      refine vo ?_
      refine voc c_impl_RingUsed rfl rfl ?_
      refine vo ?_
      refine vnt ?_
      refine vc_if (fun g3 => ?_) (fun g3 => ?_)
      · refine vc_skip ?_
        refine thn ?_
        refine vc_block ?_
        refine vc_sr ?_
        iterate 4 refine vo ?_
        refine voc c_impl_RingTake rfl rfl ?_
        iterate 8 refine vo ?_
        refine vnt ?_
        refine vc_seq' ?_
        refine vc_sr ?_
        iterate 2 refine vo ?_
        refine vnt ?_
        refine vc_if (fun g4 => ?_) (fun g4 => ?_)
        · refine vc_sr ?_
          iterate 4 refine vo ?_
          refine vnt ?_
          refine vc_ret ?_
          refine thn_r ?_
          refine inB_r ?_
          refine thn_r ?_
          refine inB_r ?_
          refine thn_r ?_
          have hc : chn l ps d b s t (usedF s h t).toNat h [] = none := by rw [hI.2.1, chn_no (by omega) (.inl g4)]
          have hh := tc_f g1 g2 hc
          refine fin_i [(0, none)] rfl (fz ?_) (fz ?_)
          · rw [hh]; trivial
          · first | (rw [hh]; done) | (rw [hh]; simp [dscE, dsc1])
        · have gr := g4
          obtain ⟨e2, q2, u2, z2⟩ := rt_true hr g4
          rw [e2]
          refine vc_skip ?_
          refine thn ?_
          refine vc_sr ?_
          refine vo ?_
          refine voc c_impl_DecodeDesc rfl rfl ?_
          iterate 6 refine vo ?_
          refine vnt ?_
          refine vc_seq' ?_
          refine vc_sr ?_
          iterate 2 refine vo ?_
          refine vnt ?_
          refine vc_if (fun g5 => ?_) (fun g5 => ?_)
          · refine vc_sr ?_
            iterate 4 refine vo ?_
            refine vnt ?_
            refine vc_ret ?_
            refine thn_r ?_
            refine inB_r ?_
            refine thn_r ?_
            refine inB_r ?_
            refine thn_r ?_
            have hc : chn l ps d b s t (usedF s h t).toNat h [] = none := by rw [hI.2.1, chn_no (by omega) (.inr g5)]
            have hh := tc_f g1 g2 hc
            refine fin_i [(0, none)] rfl (fz ?_) (fz ?_)
            · rw [hh]; trivial
            · first | (rw [hh]; done) | (rw [hh]; simp [dscE, dsc1])
          · have gd : (dsc1 l ps d b s t h1).2 = true := g5
            refine vc_skip ?_
            refine thn ?_
            refine vc_sr ?_
            iterate 2 refine vo ?_
            refine vnt ?_
            refine vc_sr ?_
            iterate 5 refine vo ?_
            refine vnt ?_
            refine vc_sr ?_
            iterate 4 refine vo ?_
            refine vsp (fun g6 => ?_) (fun g6 => ?_)
            · have ga : (dsc1 l ps d b s t h1).1.1 = 1 := g6
              have hm := and1 (dsc1 l ps d b s t h1).1.2.1
              iterate 4 refine von ?_
              refine vo ?_
              refine vnt ?_
              refine vc_if (fun g7 => ?_) (fun g7 => ?_)
              · have hl : (dsc1 l ps d b s t h1).1.2.1 % 2 = 1 := by have g7 : ¬ andI (dsc1 l ps d b s t h1).1.2.1 1 = 0 := g7; omega
                refine vc_exit ?_
                refine inB_y ?_
                refine thn_x ?_
                refine inB_x ?_
                refine thn ?_
                refine vc_sr ?_
                iterate 5 refine vo ?_
                refine vnt ?_
                refine vc_ret ?_
                have hc : chn l ps d b s t (usedF s h t).toNat h [] = some (o ++ [(dsc1 l ps d b s t h1).1], rnext s h1) := by rw [hI.2.1, chn_last (by omega) gr gd ga hl]
                have hh := tc_y g1 g2 hc
                refine fin_i [(0, some 464)] rfl (fz ?_) (fz ?_)
                · rw [hh]; trivial
                · first | (rw [hh]; done) | (rw [hh]; simp [dscE, dsc1])
              · have hf : ¬ ((dsc1 l ps d b s t h1).1.1 = 1 ∧ (dsc1 l ps d b s t h1).1.2.1 % 2 = 1) := fun hh => by have g7 : andI (dsc1 l ps d b s t h1).1.2.1 1 = 0 := g7; omega
                refine vc_skip ?_
                refine inB_n ?_
                refine thn ?_
                refine ⟨rnext s h1, o ++ [(dsc1 l ps d b s t h1).1], ?_, ?_, sub_i [(56, some 56), (72, some 72), (7, some 464)] (fz ?_) (fz ?_)⟩
                · exact ⟨q2, by rw [hI.2.1, chn_go (by omega) gr gd hf, u2]; congr 1; omega, by simp only [List.length_append, List.length_cons, List.length_nil]; omega⟩
                · omega
                · first | trivial | rfl
                · first | trivial | rfl | (simp [dscE, dsc1]; done) | (refine ⟨?_, ?_⟩ <;> first | rfl | simp [dscE, dsc1]) | trace_state
            · have hf : ¬ ((dsc1 l ps d b s t h1).1.1 = 1 ∧ (dsc1 l ps d b s t h1).1.2.1 % 2 = 1) := fun hh => g6 hh.1
              iterate 4 refine vof ?_
              refine vo ?_
              refine vnt ?_
              refine vc_else ?_
              refine vc_skip ?_
              refine inB_n ?_
              refine thn ?_
              refine ⟨rnext s h1, o ++ [(dsc1 l ps d b s t h1).1], ?_, ?_, sub_i [(56, some 56), (72, some 72), (7, some 464)] (fz ?_) (fz ?_)⟩
              · exact ⟨q2, by rw [hI.2.1, chn_go (by omega) gr gd hf, u2]; congr 1; omega, by simp only [List.length_append, List.length_cons, List.length_nil]; omega⟩
              · omega
              · first | trivial | rfl
              · first | trivial | rfl | (simp [dscE, dsc1]; done) | (refine ⟨?_, ?_⟩ <;> first | rfl | simp [dscE, dsc1]) | trace_state
      · refine vc_exit ?_
        refine thn_x ?_
        refine thn_x ?_
        refine inB_x ?_
        refine thn ?_
        refine vc_sr ?_
        iterate 5 refine vo ?_
        refine vnt ?_
        refine vc_ret ?_
        have hc : chn l ps d b s t (usedF s h t).toNat h [] = some (o, h1) := by rw [hI.2.1, show (usedF s h1 t).toNat = 0 by omega]; rfl
        have hh := tc_y g1 g2 hc
        refine fin_i [(0, some 7)] rfl (fz ?_) (fz ?_)
        · rw [hh]; trivial
        · first | (rw [hh]; done) | (rw [hh]; simp [dscE, dsc1])
set_option maxHeartbeats 4000000 in
theorem c_spec_TakeChain {l : List Mp} {ps : Pg} {d b s h t : Int} (hl : l.length ≤ 1099511627776 := by first | assumption | omega) (hp : ps.length ≤ 1099511627776 := by first | assumption | omega) : Con0 Tryz.prog 42 [.one (.sl 4 (l.map mpE)), .agg [.sl 1 (ps.map strE)], I d, .agg [V b, V s, V h, V t]] (.tup [.one (.hs 0), .agg [V b, V s, V (tcF l ps d b s h t).2.1, V t], B (tcF l ps d b s h t).2.2]) [(0, .arr 145 6 ((tcF l ps d b s h t).1.map dscE))] := by
  refine con_i Tryz.func42 Tryz.ntmps42 (t := [(0, .one (.sl 4 (l.map mpE))), (1, .agg [.sl 1 (ps.map strE)]), (2, I d), (3, .agg [V b, V s, V h, V t])]) rfl ?_
  refine vc_sr ?_
  iterate 5 refine vo ?_
  refine vnt ?_
  refine vc_sr ?_
  iterate 2 refine vo ?_
  refine vnt ?_
  refine vc_seq' ?_
  refine vc_sr ?_
  refine vo ?_
  refine voc c_spec_RingOk rfl rfl ?_
  iterate 2 refine vo ?_
  refine vsp (fun g1 => ?_) (fun g1 => ?_)
  · iterate 3 refine vof ?_
    refine vo ?_
    refine vnt ?_
    refine vc_then ?_
    refine vc_sr ?_
    iterate 5 refine vo ?_
    refine vnt ?_
    refine vc_ret ?_
    refine thn_r ?_
    have hh := tc_n (l := l) (ps := ps) (d := d) (b := b) (s := s) (h := h) (t := t) (.inl g1)
    refine fin_i [(0, some 136)] rfl (fz ?_) (fz ?_)
    · rw [hh]; trivial
    · first | (rw [hh]; done) | (rw [hh]; simp [dscE, dsc1])
  · have hs0 := (ringOk_facts g1).1
    refine von ?_
    refine vocn c_spec_RingUsed rfl rfl ?_
    refine von ?_
    refine vo ?_
    refine vnt ?_
    refine vc_if (fun g2 => ?_) (fun g2 => ?_)
    · refine vc_sr ?_
      iterate 5 refine vo ?_
      refine vnt ?_
      refine vc_ret ?_
      refine thn_r ?_
      have hh := tc_n (l := l) (ps := ps) (d := d) (b := b) (s := s) (h := h) (t := t) (.inr g2)
      refine fin_i [(0, some 136)] rfl (fz ?_) (fz ?_)
      · rw [hh]; trivial
      · first | (rw [hh]; done) | (rw [hh]; simp [dscE, dsc1])
    · refine vc_skip ?_
      refine thn ?_
      refine vc_seq' ?_
      refine vc_block ?_
      refine vc_lp2 [0, 2, 5, 7, 9] [40] (fun (h1 : Int) (o : List Dsc) => [(11, .one (.hs 7))]) (fun (h1 : Int) (o : List Dsc) => [(7, .arr 145 6 (o.map dscE)), (56, .row 30 [V b, V s, V h1, V t]), (72, .row 30 [V 0, V 0, V 0, V 0])]) (fun (h1 : Int) (o : List Dsc) => ringOkB b s h1 t = true ∧ chn l ps d b s t (usedF s h t).toNat h [] = chn l ps d b s t (usedF s h1 t).toNat h1 o ∧ (o.length : Int) + usedF s h1 t ≤ 16) (fun (h1 : Int) (o : List Dsc) => (usedF s h1 t).toNat) h [] rfl rfl (sub_i [(56, some 56), (72, some 72), (7, some 136)] (fz ?_) (fz ?_)) ?_ fun h1 o hI => ?_
      · first | trivial | rfl
      · first | trivial | rfl | exact ⟨rfl, rfl⟩
      · exact ⟨g1, rfl, by have := used_bd g1; simp; omega⟩
      refine vc_nf rfl rfl ?_
      have hr := hI.1
      have hsz := sizeB_cases (ringOk_facts hr).1
      have hs1 := (ringOk_facts hr).1
      have hub := used_bd hr
      have hrz := rt_sz l ps d b s h1 t
      refine vc_seq' ?_
      refine vc_sr ?_
      refine vo ?_
      refine voc c_spec_RingUsed rfl rfl ?_
      refine vo ?_
      refine vnt ?_
      refine vc_if (fun g3 => ?_) (fun g3 => ?_)
      · refine vc_skip ?_
        refine thn ?_
        refine vc_block ?_
        refine vc_sr ?_
        iterate 4 refine vo ?_
        refine voc c_spec_RingTake rfl rfl ?_
        iterate 8 refine vo ?_
        refine vnt ?_
        refine vc_sr ?_
        refine vo ?_
        refine voc c_spec_DecodeDesc rfl rfl ?_
        iterate 6 refine vo ?_
        refine vnt ?_
        refine vc_seq' ?_
        refine vc_sr ?_
        iterate 3 refine vo ?_
        refine vsp (fun g4 => ?_) (fun g4 => ?_)
        · iterate 2 refine vof ?_
          refine vo ?_
          refine vnt ?_
          refine vc_then ?_
          refine vc_sr ?_
          iterate 4 refine vo ?_
          refine vnt ?_
          refine vc_sr ?_
          iterate 5 refine vo ?_
          refine vnt ?_
          refine vc_ret ?_
          refine thn_r ?_
          refine inB_r ?_
          refine thn_r ?_
          refine inB_r ?_
          refine thn_r ?_
          have hc : chn l ps d b s t (usedF s h t).toNat h [] = none := by rw [hI.2.1, chn_no (by omega) (.inl g4)]
          have hh := tc_f g1 g2 hc
          refine fin_i [(0, some 432)] rfl (fz ?_) (fz ?_)
          · rw [hh]; trivial
          · first | (rw [hh]; done) | (rw [hh]; simp [dscE, dsc1])
        · have gr := g4
          obtain ⟨e2, q2, u2, z2⟩ := rt_true hr g4
          rw [e2]
          iterate 2 refine von ?_
          refine vo ?_
          refine vnt ?_
          refine vc_if (fun g5 => ?_) (fun g5 => ?_)
          · refine vc_sr ?_
            iterate 4 refine vo ?_
            refine vnt ?_
            refine vc_sr ?_
            iterate 5 refine vo ?_
            refine vnt ?_
            refine vc_ret ?_
            refine thn_r ?_
            refine inB_r ?_
            refine thn_r ?_
            refine inB_r ?_
            refine thn_r ?_
            have hc : chn l ps d b s t (usedF s h t).toNat h [] = none := by rw [hI.2.1, chn_no (by omega) (.inr g5)]
            have hh := tc_f g1 g2 hc
            refine fin_i [(0, some 432)] rfl (fz ?_) (fz ?_)
            · rw [hh]; trivial
            · first | (rw [hh]; done) | (rw [hh]; simp [dscE, dsc1])
          · have gd : (dsc1 l ps d b s t h1).2 = true := g5
            refine vc_skip ?_
            refine thn ?_
            refine vc_sr ?_
            iterate 2 refine vo ?_
            refine vnt ?_
            refine vc_sr ?_
            iterate 5 refine vo ?_
            refine vnt ?_
            refine vc_sr ?_
            iterate 4 refine vo ?_
            refine vsp (fun g6 => ?_) (fun g6 => ?_)
            · have ga : (dsc1 l ps d b s t h1).1.1 = 1 := g6
              have hm := and1 (dsc1 l ps d b s t h1).1.2.1
              iterate 4 refine von ?_
              refine vo ?_
              refine vnt ?_
              refine vc_if (fun g7 => ?_) (fun g7 => ?_)
              · have hl : (dsc1 l ps d b s t h1).1.2.1 % 2 = 1 := by have g7 : ¬ andI (dsc1 l ps d b s t h1).1.2.1 1 = 0 := g7; omega
                refine vc_exit ?_
                refine inB_y ?_
                refine thn_x ?_
                refine inB_x ?_
                refine thn ?_
                refine vc_sr ?_
                iterate 5 refine vo ?_
                refine vnt ?_
                refine vc_ret ?_
                have hc : chn l ps d b s t (usedF s h t).toNat h [] = some (o ++ [(dsc1 l ps d b s t h1).1], rnext s h1) := by rw [hI.2.1, chn_last (by omega) gr gd ga hl]
                have hh := tc_y g1 g2 hc
                refine fin_i [(0, some 480)] rfl (fz ?_) (fz ?_)
                · rw [hh]; trivial
                · first | (rw [hh]; done) | (rw [hh]; simp [dscE, dsc1])
              · have hf : ¬ ((dsc1 l ps d b s t h1).1.1 = 1 ∧ (dsc1 l ps d b s t h1).1.2.1 % 2 = 1) := fun hh => by have g7 : andI (dsc1 l ps d b s t h1).1.2.1 1 = 0 := g7; omega
                refine vc_skip ?_
                refine inB_n ?_
                refine thn ?_
                refine ⟨rnext s h1, o ++ [(dsc1 l ps d b s t h1).1], ?_, ?_, sub_i [(56, some 56), (72, some 72), (7, some 480)] (fz ?_) (fz ?_)⟩
                · exact ⟨q2, by rw [hI.2.1, chn_go (by omega) gr gd hf, u2]; congr 1; omega, by simp only [List.length_append, List.length_cons, List.length_nil]; omega⟩
                · omega
                · first | trivial | rfl
                · first | trivial | rfl | (simp [dscE, dsc1]; done) | (refine ⟨?_, ?_⟩ <;> first | rfl | simp [dscE, dsc1]) | trace_state
            · have hf : ¬ ((dsc1 l ps d b s t h1).1.1 = 1 ∧ (dsc1 l ps d b s t h1).1.2.1 % 2 = 1) := fun hh => g6 hh.1
              iterate 4 refine vof ?_
              refine vo ?_
              refine vnt ?_
              refine vc_else ?_
              refine vc_skip ?_
              refine inB_n ?_
              refine thn ?_
              refine ⟨rnext s h1, o ++ [(dsc1 l ps d b s t h1).1], ?_, ?_, sub_i [(56, some 56), (72, some 72), (7, some 480)] (fz ?_) (fz ?_)⟩
              · exact ⟨q2, by rw [hI.2.1, chn_go (by omega) gr gd hf, u2]; congr 1; omega, by simp only [List.length_append, List.length_cons, List.length_nil]; omega⟩
              · omega
              · first | trivial | rfl
              · first | trivial | rfl | (simp [dscE, dsc1]; done) | (refine ⟨?_, ?_⟩ <;> first | rfl | simp [dscE, dsc1]) | trace_state
      · refine vc_exit ?_
        refine thn_x ?_
        refine thn_x ?_
        refine inB_x ?_
        refine thn ?_
        refine vc_sr ?_
        iterate 5 refine vo ?_
        refine vnt ?_
        refine vc_ret ?_
        have hc : chn l ps d b s t (usedF s h t).toNat h [] = some (o, h1) := by rw [hI.2.1, show (usedF s h1 t).toNat = 0 by omega]; rfl
        have hh := tc_y g1 g2 hc
        refine fin_i [(0, some 7)] rfl (fz ?_) (fz ?_)
        · rw [hh]; trivial
        · first | (rw [hh]; done) | (rw [hh]; simp [dscE, dsc1])
end Go.Proofs.YtgbjkojgjhcabaaGreat
end
section
namespace Go.Proofs.YtgbjkojgjhcabaaGreat
open Go Go.RowKit Go.Vc
set_option linter.unusedVariables false
set_option linter.unusedSimpArgs false
set_option linter.unnecessarySimpa false
theorem split_sz {p : Pk} {size : Int} {M : Nat} (hp : p.body.size ≤ M) : ∀ q ∈ splitF p size, q.body.size ≤ M := by
  intro q hq
  unfold splitF at hq
  split at hq
  · split at hq
    · obtain ⟨k, _, rfl⟩ := List.mem_map.1 hq
      unfold Pk.part
      simp only [ByteArray.size_extract]
      omega
    · rw [List.mem_singleton.1 hq]; exact hp
  · cases hq
theorem podF_y {l : List Dsc} (h : podB l = true) : podF l = podL l := if_pos h
theorem gath_sz {l : List Mp} {ps : Pg} {d : Int} : ∀ (pcs : List Pc) (o : ByteArray), (∀ p ∈ pcs, p.2 ≤ 4096) → (gath l ps d pcs o).1.size ≤ o.size + 4096 * pcs.length
  | [], o, h => by simp [gath]
  | p :: r, o, h => by
    simp only [gath]
    split
    · have h1 := gath_sz (l := l) (ps := ps) (d := d) r (o ++ (dmaRF l ps d p.1 p.2).1) fun q hq => h q (List.mem_cons_of_mem _ hq)
      have h2 := dmaRF_le l ps d p.1 p.2 (h p (List.mem_cons_self ..))
      rw [ByteArray.size_append] at h1
      simp only [List.length_cons]
      omega
    · exact Nat.zero_le _
theorem gathF_sz (l : List Mp) (ps : Pg) (d : Int) (pcs : List Pc) : (gathF l ps d pcs).1.size ≤ 65536 := by
  by_cases h : pcsOk pcs = true
  · obtain ⟨h1, h2⟩ := pcsOk_iff.1 h
    rw [gathF_y h]
    have := gath_sz (l := l) (ps := ps) (d := d) pcs ⟨#[]⟩ fun p hp => by
      obtain ⟨i, hi, rfl⟩ := List.getElem_of_mem hp
      have := (h1 i hi).2.2
      rwa [atq_eq hi] at this
    have e : (⟨#[]⟩ : ByteArray).size = 0 := rfl
    omega
  · rw [gathF_n (by simpa using h)]; exact Nat.zero_le _
theorem fsF_sz (t : ByteArray) : (fsF t).size ≤ 1000 := by
  unfold fsF
  split
  · rename_i h
    exact (sup_img (rdC_sup (fs_facts h).2.1)).2
  · exact Nat.zero_le _
theorem rdF_sz (s : ByteArray) : (rdF s).body.size ≤ 320 := by
  by_cases h : rdC s = 0
  · exact sup_len (rdC_sup h)
  · rw [rdF, if_neg h]; exact Nat.zero_le _
theorem tx_idle {l : List Mp} {ps : Pg} {d b s h t : Int} (hc : (txF l ps d b s h t).2.2 = 0) : (txF l ps d b s h t).1 = h := by
  by_cases q : ringOkB b s h t = true
  · by_cases hu : usedF s h t = 0
    · rw [tx_0 (.inr hu)]
    · by_cases g : txB l ps d b s h t = true
      · rw [tx_1 q hu g] at hc; simp at hc
      · rw [tx_2 q hu (by simpa using g)] at hc; simp at hc
  · rw [tx_0 (.inl (by simpa using q))]
set_option maxHeartbeats 4000000 in
theorem c_impl_SendFrames {p : Pk} {size : Int} (hz_p : p.body.size ≤ 1099511627776 := by first | assumption | omega) : Con0 Tryz.prog 57 [.agg [V (p).dm, V (p).sm, V (p).vl, V (p).tos, V (p).id, V (p).ttl, V (p).si, V (p).di, V (p).kind, V (p).sp, V (p).dp, V (p).seq, V (p).ack, V (p).fl, V (p).win, VS (p).body], I size] (.one (.hs 0)) [(0, .arr 9 1 ((framesF (splitF p size)).map strE))] := by
  have hsl := split_le p size
  have hz := split_sz (size := size) hz_p
  refine con_i Tryz.func57 Tryz.ntmps57 (t := [(0, .agg [V (p).dm, V (p).sm, V (p).vl, V (p).tos, V (p).id, V (p).ttl, V (p).si, V (p).di, V (p).kind, V (p).sp, V (p).dp, V (p).seq, V (p).ack, V (p).fl, V (p).win, VS (p).body]), (1, I size)]) rfl ?_
  refine vc_sr ?_
  iterate 2 refine vo ?_
  refine vnt ?_
  refine vc_sr ?_
  iterate 2 refine vo ?_
  refine voc c_impl_Split rfl rfl ?_
  refine voc c_impl_FrameAll rfl rfl ?_
  refine vo ?_
  refine vnt ?_
  refine vc_ret ?_
  refine fin_i [(0, some 64)] rfl (fz ?_) (fz ?_) <;> trivial
set_option maxHeartbeats 4000000 in
theorem c_spec_SendFrames {p : Pk} {size : Int} (hz_p : p.body.size ≤ 1099511627776 := by first | assumption | omega) : Con0 Tryz.prog 47 [.agg [V (p).dm, V (p).sm, V (p).vl, V (p).tos, V (p).id, V (p).ttl, V (p).si, V (p).di, V (p).kind, V (p).sp, V (p).dp, V (p).seq, V (p).ack, V (p).fl, V (p).win, VS (p).body], I size] (.one (.hs 0)) [(0, .arr 9 1 ((framesF (splitF p size)).map strE))] := by
  have hsl := split_le p size
  have hz := split_sz (size := size) hz_p
  refine con_i Tryz.func47 Tryz.ntmps47 (t := [(0, .agg [V (p).dm, V (p).sm, V (p).vl, V (p).tos, V (p).id, V (p).ttl, V (p).si, V (p).di, V (p).kind, V (p).sp, V (p).dp, V (p).seq, V (p).ack, V (p).fl, V (p).win, VS (p).body]), (1, I size)]) rfl ?_
  refine vc_sr ?_
  iterate 2 refine vo ?_
  refine vnt ?_
  refine vc_sr ?_
  iterate 2 refine vo ?_
  refine voc c_spec_Split rfl rfl ?_
  refine voc c_spec_FrameAll rfl rfl ?_
  refine vo ?_
  refine vnt ?_
  refine vc_ret ?_
  refine fin_i [(0, some 64)] rfl (fz ?_) (fz ?_) <;> trivial
set_option maxHeartbeats 4000000 in
theorem c_impl_TransmitNext {l : List Mp} {ps : Pg} {d b s h t : Int} (hl : l.length ≤ 1099511627776 := by first | with_reducible assumption | omega) (hp : ps.length ≤ 1099511627776 := by first | with_reducible assumption | omega) : Con0 Tryz.prog 12 [.one (.sl 4 (l.map mpE)), .agg [.sl 1 (ps.map strE)], I d, .agg [V b, V s, V h, V t]] (.tup [.agg [V b, V s, V (txF l ps d b s h t).1, V t], .one (.hs 0), I (txF l ps d b s h t).2.2]) [(0, .arr 9 1 ((txF l ps d b s h t).2.1.map strE))] := by
  have htl := tc_len l ps d b s h t
  refine con_i Tryz.func12 Tryz.ntmps12 (t := [(0, .one (.sl 4 (l.map mpE))), (1, .agg [.sl 1 (ps.map strE)]), (2, I d), (3, .agg [V b, V s, V h, V t])]) rfl ?_
  refine vc_sr ?_
  iterate 5 refine vo ?_
  refine vnt ?_
  refine vc_seq' ?_
  refine vc_sr ?_
  refine vo ?_
  refine voc c_impl_RingOk rfl rfl ?_
  iterate 2 refine vo ?_
  refine vsp (fun g1 => ?_) (fun g1 => ?_)
  · iterate 3 refine vof ?_
    refine vo ?_
    refine vnt ?_
    refine vc_then ?_
    refine vc_sr ?_
    iterate 4 refine vo ?_
    refine vnt ?_
    refine vc_ret ?_
    refine thn_r ?_
    have hh := tx_0 (l := l) (ps := ps) (d := d) (b := b) (s := s) (h := h) (t := t) (.inl g1)
    refine fin_i [(0, none)] rfl (fz ?_) (fz ?_)
    · rw [hh]; first | exact ⟨rfl, rfl⟩ | exact rfl
    · rw [hh]; first | exact rfl
  · have hs0 := (ringOk_facts g1).1
    refine von ?_
    refine vocn c_impl_RingUsed rfl rfl ?_
    refine von ?_
    refine vo ?_
    refine vnt ?_
    refine vc_if (fun g2 => ?_) (fun g2 => ?_)
    · refine vc_sr ?_
      iterate 4 refine vo ?_
      refine vnt ?_
      refine vc_ret ?_
      refine thn_r ?_
      have hh := tx_0 (l := l) (ps := ps) (d := d) (b := b) (s := s) (h := h) (t := t) (.inr g2)
      refine fin_i [(0, none)] rfl (fz ?_) (fz ?_)
      · rw [hh]; first | exact ⟨rfl, rfl⟩ | exact rfl
      · rw [hh]; first | exact rfl
    · refine vc_skip ?_
      refine thn ?_
      refine vc_sr ?_
      iterate 4 refine vo ?_
      refine voc c_impl_TakeChain rfl rfl ?_
      iterate 8 refine vo ?_
      refine vnt ?_
      refine vc_seq' ?_
      refine vc_sr ?_
      iterate 2 refine vo ?_
      refine vnt ?_
      refine vc_if (fun g3 => ?_) (fun g3 => ?_)
      · refine vc_sr ?_
        iterate 4 refine vo ?_
        refine vnt ?_
        refine vc_ret ?_
        refine thn_r ?_
        have hh := tx_2 g1 g2 (show txB l ps d b s h t = false by unfold txB; rw [g3]; rfl)
        refine fin_i [(0, none)] rfl (fz ?_) (fz ?_)
        · rw [hh]; first | exact ⟨rfl, rfl⟩ | exact rfl
        · rw [hh]; first | exact rfl
      · refine vc_skip ?_
        refine thn ?_
        refine vc_sr ?_
        refine vo ?_
        refine voc c_impl_PiecesOfDescs rfl rfl ?_
        iterate 9 refine vo ?_
        refine vnt ?_
        refine vc_seq' ?_
        refine vc_sr ?_
        iterate 2 refine vo ?_
        refine vnt ?_
        refine vc_if (fun g4 => ?_) (fun g4 => ?_)
        · refine vc_sr ?_
          iterate 4 refine vo ?_
          refine vnt ?_
          refine vc_ret ?_
          refine thn_r ?_
          have hh := tx_2 g1 g2 (show txB l ps d b s h t = false by unfold txB; rw [g4]; simp)
          refine fin_i [(0, none)] rfl (fz ?_) (fz ?_)
          · rw [hh]; first | exact ⟨rfl, rfl⟩ | exact rfl
          · rw [hh]; first | exact rfl
        · rw [podF_y g4]
          have hb : ∀ x ∈ podL (tcF l ps d b s h t).1, x.1 ≤ 9223372036854775807 := fun x hx => by have := (pod_at g4).2 x hx; omega
          have hpn := podL_len (tcF l ps d b s h t).1
          refine vc_skip ?_
          refine thn ?_
          refine vc_sr ?_
          iterate 4 refine vo ?_
          refine voc c_impl_GatherPieces rfl rfl ?_
          iterate 5 refine vo ?_
          refine vnt ?_
          refine vc_seq' ?_
          refine vc_sr ?_
          iterate 2 refine vo ?_
          refine vnt ?_
          refine vc_if (fun g5 => ?_) (fun g5 => ?_)
          · refine vc_sr ?_
            iterate 4 refine vo ?_
            refine vnt ?_
            refine vc_ret ?_
            refine thn_r ?_
            have hh := tx_2 g1 g2 (show txB l ps d b s h t = false by unfold txB; rw [g5]; simp)
            refine fin_i [(0, none)] rfl (fz ?_) (fz ?_)
            · rw [hh]; first | exact ⟨rfl, rfl⟩ | exact rfl
            · rw [hh]; first | exact rfl
          · refine vc_skip ?_
            refine thn ?_
            refine vc_sr ?_
            refine vo ?_
            have zg : (gathF l ps d (podL (tcF l ps d b s h t).1)).1.size ≤ 1099511627776 := Nat.le_trans (gathF_sz ..) (by decide)
            refine voc c_impl_FillSums rfl rfl ?_
            iterate 5 refine vo ?_
            refine vnt ?_
            refine vc_seq' ?_
            refine vc_sr ?_
            iterate 2 refine vo ?_
            refine vnt ?_
            refine vc_if (fun g6 => ?_) (fun g6 => ?_)
            · refine vc_sr ?_
              iterate 4 refine vo ?_
              refine vnt ?_
              refine vc_ret ?_
              refine thn_r ?_
              have hh := tx_2 g1 g2 (show txB l ps d b s h t = false by unfold txB; rw [g6]; simp)
              refine fin_i [(0, none)] rfl (fz ?_) (fz ?_)
              · rw [hh]; first | exact ⟨rfl, rfl⟩ | exact rfl
              · rw [hh]; first | exact rfl
            · refine vc_skip ?_
              refine thn ?_
              refine vc_sr ?_
              refine vo ?_
              have zf : (fsF (gathF l ps d (podL (tcF l ps d b s h t).1)).1).size ≤ 1099511627776 := Nat.le_trans (fsF_sz _) (by decide)
              refine voc c_impl_ReadImage rfl rfl ?_
              iterate 6 refine vo ?_
              refine vnt ?_
              refine vc_seq' ?_
              refine vc_sr ?_
              iterate 2 refine vo ?_
              refine vnt ?_
              refine vc_if (fun g7 => ?_) (fun g7 => ?_)
              · refine vc_sr ?_
                iterate 4 refine vo ?_
                refine vnt ?_
                refine vc_ret ?_
                refine thn_r ?_
                have hh := tx_2 g1 g2 (show txB l ps d b s h t = false by unfold txB; rw [decide_eq_false (p := rdC (txI l ps d b s h t) = 0) g7]; simp)
                refine fin_i [(0, none)] rfl (fz ?_) (fz ?_)
                · rw [hh]; first | exact ⟨rfl, rfl⟩ | exact rfl
                · rw [hh]; first | exact rfl
              · have zr : (rdF (fsF (gathF l ps d (podL (tcF l ps d b s h t).1)).1)).body.size ≤ 1099511627776 := Nat.le_trans (rdF_sz _) (by decide)
                refine vc_skip ?_
                refine thn ?_
                refine vc_sr ?_
                iterate 3 refine vo ?_
                refine voc c_impl_SendFrames rfl rfl ?_
                iterate 3 refine vo ?_
                refine vnt ?_
                refine vc_ret ?_
                have hh := tx_1 g1 g2 (show txB l ps d b s h t = true by unfold txB; rw [g3, g4, g5, g6, decide_eq_true (p := rdC (txI l ps d b s h t) = 0) g7]; rfl)
                refine fin_i [(0, some 656)] rfl (fz ?_) (fz ?_)
                · rw [hh]; first | exact ⟨rfl, rfl⟩ | exact rfl
                · rw [hh]; first | exact rfl
set_option maxHeartbeats 4000000 in
theorem c_spec_TransmitNext {l : List Mp} {ps : Pg} {d b s h t : Int} (hl : l.length ≤ 1099511627776 := by first | with_reducible assumption | omega) (hp : ps.length ≤ 1099511627776 := by first | with_reducible assumption | omega) : Con0 Tryz.prog 8 [.one (.sl 4 (l.map mpE)), .agg [.sl 1 (ps.map strE)], I d, .agg [V b, V s, V h, V t]] (.tup [.agg [V b, V s, V (txF l ps d b s h t).1, V t], .one (.hs 0), I (txF l ps d b s h t).2.2]) [(0, .arr 9 1 ((txF l ps d b s h t).2.1.map strE))] := by
  have htl := tc_len l ps d b s h t
  refine con_i Tryz.func8 Tryz.ntmps8 (t := [(0, .one (.sl 4 (l.map mpE))), (1, .agg [.sl 1 (ps.map strE)]), (2, I d), (3, .agg [V b, V s, V h, V t])]) rfl ?_
  refine vc_sr ?_
  iterate 5 refine vo ?_
  refine vnt ?_
  refine vc_sr ?_
  iterate 2 refine vo ?_
  refine vnt ?_
  refine vc_seq' ?_
  refine vc_sr ?_
  refine vo ?_
  refine voc c_spec_RingOk rfl rfl ?_
  iterate 2 refine vo ?_
  refine vsp (fun g1 => ?_) (fun g1 => ?_)
  · iterate 3 refine vof ?_
    refine vo ?_
    refine vnt ?_
    refine vc_then ?_
    refine vc_sr ?_
    iterate 5 refine vo ?_
    refine vnt ?_
    refine vc_ret ?_
    refine thn_r ?_
    have hh := tx_0 (l := l) (ps := ps) (d := d) (b := b) (s := s) (h := h) (t := t) (.inl g1)
    refine fin_i [(0, some 184)] rfl (fz ?_) (fz ?_)
    · rw [hh]; first | exact ⟨rfl, rfl⟩ | exact rfl
    · rw [hh]; first | exact rfl
  · have hs0 := (ringOk_facts g1).1
    refine von ?_
    refine vocn c_spec_RingUsed rfl rfl ?_
    refine von ?_
    refine vo ?_
    refine vnt ?_
    refine vc_if (fun g2 => ?_) (fun g2 => ?_)
    · refine vc_sr ?_
      iterate 5 refine vo ?_
      refine vnt ?_
      refine vc_ret ?_
      refine thn_r ?_
      have hh := tx_0 (l := l) (ps := ps) (d := d) (b := b) (s := s) (h := h) (t := t) (.inr g2)
      refine fin_i [(0, some 184)] rfl (fz ?_) (fz ?_)
      · rw [hh]; first | exact ⟨rfl, rfl⟩ | exact rfl
      · rw [hh]; first | exact rfl
    · refine vc_skip ?_
      refine thn ?_
      refine vc_sr ?_
      iterate 4 refine vo ?_
      refine voc c_spec_TakeChain rfl rfl ?_
      iterate 8 refine vo ?_
      refine vnt ?_
      refine vc_sr ?_
      refine vo ?_
      refine voc c_spec_PiecesOfDescs rfl rfl ?_
      iterate 9 refine vo ?_
      refine vnt ?_
      refine vc_seq' ?_
      refine vc_sr ?_
      iterate 3 refine vo ?_
      refine vsp (fun g3 => ?_) (fun g3 => ?_)
      · iterate 2 refine vof ?_
        refine vo ?_
        refine vnt ?_
        refine vc_then ?_
        refine vc_sr ?_
        iterate 5 refine vo ?_
        refine vnt ?_
        refine vc_ret ?_
        refine thn_r ?_
        have hh := tx_2 g1 g2 (show txB l ps d b s h t = false by unfold txB; rw [g3]; rfl)
        refine fin_i [(0, some 184)] rfl (fz ?_) (fz ?_)
        · rw [hh]; first | exact ⟨rfl, rfl⟩ | exact rfl
        · rw [hh]; first | exact rfl
      · iterate 2 refine von ?_
        refine vo ?_
        refine vnt ?_
        refine vc_if (fun g4 => ?_) (fun g4 => ?_)
        · refine vc_sr ?_
          iterate 5 refine vo ?_
          refine vnt ?_
          refine vc_ret ?_
          refine thn_r ?_
          have hh := tx_2 g1 g2 (show txB l ps d b s h t = false by unfold txB; rw [g4]; simp)
          refine fin_i [(0, some 184)] rfl (fz ?_) (fz ?_)
          · rw [hh]; first | exact ⟨rfl, rfl⟩ | exact rfl
          · rw [hh]; first | exact rfl
        · rw [podF_y g4]
          have hb : ∀ x ∈ podL (tcF l ps d b s h t).1, x.1 ≤ 9223372036854775807 := fun x hx => by have := (pod_at g4).2 x hx; omega
          have hpn := podL_len (tcF l ps d b s h t).1
          refine vc_skip ?_
          refine thn ?_
          refine vc_sr ?_
          iterate 4 refine vo ?_
          refine voc c_spec_GatherPieces rfl rfl ?_
          iterate 5 refine vo ?_
          refine vnt ?_
          refine vc_sr ?_
          refine vo ?_
          have zg : (gathF l ps d (podL (tcF l ps d b s h t).1)).1.size ≤ 1099511627776 := Nat.le_trans (gathF_sz ..) (by decide)
          refine voc c_spec_FillSums rfl rfl ?_
          iterate 5 refine vo ?_
          refine vnt ?_
          refine vc_sr ?_
          refine vo ?_
          have zf : (fsF (gathF l ps d (podL (tcF l ps d b s h t).1)).1).size ≤ 1099511627776 := Nat.le_trans (fsF_sz _) (by decide)
          refine voc c_spec_ReadImage rfl rfl ?_
          iterate 6 refine vo ?_
          refine vnt ?_
          refine vc_seq' ?_
          refine vc_sr ?_
          iterate 3 refine vo ?_
          refine vsp (fun g5 => ?_) (fun g5 => ?_)
          · iterate 2 refine vof ?_
            iterate 2 refine vo ?_
            iterate 2 refine vof ?_
            refine vo ?_
            refine vnt ?_
            refine vc_then ?_
            refine vc_sr ?_
            iterate 5 refine vo ?_
            refine vnt ?_
            refine vc_ret ?_
            refine thn_r ?_
            have hh := tx_2 g1 g2 (show txB l ps d b s h t = false by unfold txB; rw [g5]; simp)
            refine fin_i [(0, some 184)] rfl (fz ?_) (fz ?_)
            · rw [hh]; first | exact ⟨rfl, rfl⟩ | exact rfl
            · rw [hh]; first | exact rfl
          · iterate 2 refine von ?_
            iterate 2 refine vo ?_
            refine vsp (fun g6 => ?_) (fun g6 => ?_)
            · iterate 2 refine vof ?_
              refine vo ?_
              refine vnt ?_
              refine vc_then ?_
              refine vc_sr ?_
              iterate 5 refine vo ?_
              refine vnt ?_
              refine vc_ret ?_
              refine thn_r ?_
              have hh := tx_2 g1 g2 (show txB l ps d b s h t = false by unfold txB; rw [g6]; simp)
              refine fin_i [(0, some 184)] rfl (fz ?_) (fz ?_)
              · rw [hh]; first | exact ⟨rfl, rfl⟩ | exact rfl
              · rw [hh]; first | exact rfl
            · iterate 2 refine von ?_
              refine vo ?_
              refine vnt ?_
              refine vc_if (fun g7 => ?_) (fun g7 => ?_)
              · refine vc_sr ?_
                iterate 5 refine vo ?_
                refine vnt ?_
                refine vc_ret ?_
                refine thn_r ?_
                have hh := tx_2 g1 g2 (show txB l ps d b s h t = false by unfold txB; rw [decide_eq_false (p := rdC (txI l ps d b s h t) = 0) g7]; simp)
                refine fin_i [(0, some 184)] rfl (fz ?_) (fz ?_)
                · rw [hh]; first | exact ⟨rfl, rfl⟩ | exact rfl
                · rw [hh]; first | exact rfl
              · have zr : (rdF (fsF (gathF l ps d (podL (tcF l ps d b s h t).1)).1)).body.size ≤ 1099511627776 := Nat.le_trans (rdF_sz _) (by decide)
                refine vc_skip ?_
                refine thn ?_
                refine vc_sr ?_
                iterate 3 refine vo ?_
                refine voc c_spec_SendFrames rfl rfl ?_
                iterate 3 refine vo ?_
                refine vnt ?_
                refine vc_ret ?_
                have hh := tx_1 g1 g2 (show txB l ps d b s h t = true by unfold txB; rw [g3, g4, g5, g6, decide_eq_true (p := rdC (txI l ps d b s h t) = 0) g7]; rfl)
                refine fin_i [(0, some 728)] rfl (fz ?_) (fz ?_)
                · rw [hh]; first | exact ⟨rfl, rfl⟩ | exact rfl
                · rw [hh]; first | exact rfl
theorem vc_lp5 {P : Program} [TyEnv P] {n : Nat} {K : Post} {t t0 : Tm} {H H0 : Hp} {c : Code} {A B1 C D E : Type} (live keep : List Nat) (ov : A → B1 → C → D → E → Tm) (gv : A → B1 → C → D → E → Hp) (I : A → B1 → C → D → E → Prop) (μ : A → B1 → C → D → E → Nat) (x10 : A) (x20 : B1) (x30 : C) (x40 : D) (x50 : E) (ht : keepF t live = some t0) (hH : keepH H keep = some H0) (hs : Sub t H (ov x10 x20 x30 x40 x50 ++ t0) (gv x10 x20 x30 x40 x50 ++ H0)) (h0 : I x10 x20 x30 x40 x50)
    (h : ∀ x1 x2 x3 x4 x5, I x1 x2 x3 x4 x5 → VC P n c (thenP (fun t H => ∃ x1' x2' x3' x4' x5', I x1' x2' x3' x4' x5' ∧ μ x1' x2' x3' x4' x5' < μ x1 x2 x3 x4 x5 ∧ Sub t H (ov x1' x2' x3' x4' x5' ++ t0) (gv x1' x2' x3' x4' x5' ++ H0)) K) (ov x1 x2 x3 x4 x5 ++ t0) (gv x1 x2 x3 x4 x5 ++ H0)) : VC P n (.loop c) K t H :=
  vc_lp (σ := A × B1 × C × D × E) live keep (fun s => ov s.1 s.2.1 s.2.2.1 s.2.2.2.1 s.2.2.2.2) (fun s => gv s.1 s.2.1 s.2.2.1 s.2.2.2.1 s.2.2.2.2) (fun s => I s.1 s.2.1 s.2.2.1 s.2.2.2.1 s.2.2.2.2) (fun s => μ s.1 s.2.1 s.2.2.1 s.2.2.2.1 s.2.2.2.2) (x10, x20, x30, x40, x50) ht hH hs h0 fun s hi => vc_mono (h s.1 s.2.1 s.2.2.1 s.2.2.2.1 s.2.2.2.2 hi) fun e t H hk => by
    cases e <;> first | exact hk | (obtain ⟨x1', x2', x3', x4', x5', h1, h2, h3⟩ := hk; exact ⟨(x1', x2', x3', x4', x5'), h1, h2, h3⟩)
set_option maxHeartbeats 4000000 in
theorem c_impl_TransmitAll {l : List Mp} {ps : Pg} {d b s h t : Int} (hl : l.length ≤ 1099511627776 := by first | with_reducible assumption | omega) (hp : ps.length ≤ 1099511627776 := by first | with_reducible assumption | omega) : Con0 Tryz.prog 22 [.one (.sl 4 (l.map mpE)), .agg [.sl 1 (ps.map strE)], I d, .agg [V b, V s, V h, V t]] (.tup [.agg [V b, V s, V (txAF l ps d b s h t).1, V t], .one (.hs 0), I (txAF l ps d b s h t).2.2.1, I (txAF l ps d b s h t).2.2.2]) [(0, .arr 9 1 ((txAF l ps d b s h t).2.1.map strE))] := by
  refine con_i Tryz.func22 Tryz.ntmps22 (t := [(0, .one (.sl 4 (l.map mpE))), (1, .agg [.sl 1 (ps.map strE)]), (2, I d), (3, .agg [V b, V s, V h, V t])]) rfl ?_
  refine vc_sr ?_
  iterate 6 refine vo ?_
  refine vnt ?_
  refine vc_sr ?_
  iterate 2 refine vo ?_
  refine vnt ?_
  refine vc_sr ?_
  iterate 2 refine vo ?_
  refine vnt ?_
  refine vc_block ?_
  refine vc_lp5 [0, 2, 5, 7, 8] [40] (fun (n : Nat) (h1 : Int) (q : List ByteArray) (x : Int) (y : Int) => [(12, .one (.hs 7)), (13, I x), (14, I y)]) (fun (n : Nat) (h1 : Int) (q : List ByteArray) (x : Int) (y : Int) => [(7, .arr 9 1 (q.map strE)), (56, .row 30 [V b, V s, V h1, V t]), (64, .row 30 [V 0, V 0, V 0, V 0])]) (fun (n : Nat) (h1 : Int) (q : List ByteArray) (x : Int) (y : Int) => txAF l ps d b s h t = txAll l ps d b s t n h1 q x y ∧ usedB b s h1 t < n ∧ q.length + 320 * n ≤ 320 * 17 ∧ (0 ≤ x ∧ 0 ≤ y ∧ x + n ≤ 17 ∧ y + n ≤ 17)) (fun (n : Nat) (h1 : Int) (q : List ByteArray) (x : Int) (y : Int) => n) 17 h [] 0 0 rfl rfl (sub_i [(56, some 56), (64, some 64), (7, some 144)] (fz ?_) (fz ?_)) ?_ fun n h1 q x y hI => ?_
  · first | trivial | rfl
  · first | trivial | rfl | exact ⟨rfl, rfl⟩
  · exact ⟨rfl, by have := usedB_le b s h t; omega, by simp, by omega⟩
  refine vc_nf rfl rfl ?_
  have hdc : ¬ (txF l ps d b s h1 t).2.2 = 0 → _ := fun hc => tx_dec hc
  refine vc_block ?_
  refine vc_sr ?_
  iterate 4 refine vo ?_
  refine voc c_impl_TransmitNext rfl rfl ?_
  iterate 8 refine vo ?_
  refine vnt ?_
  refine vc_sr ?_
  iterate 2 refine vo ?_
  refine vnt ?_
  refine vc_seq' ?_
  refine vc_sr ?_
  refine vo ?_
  refine vnt ?_
  refine vc_block ?_
  refine vc_sr ?_
  iterate 2 refine vo ?_
  refine vnt ?_
  refine vc_if (fun g1 => ?_) (fun g1 => ?_)
  · refine vc_sr ?_
    iterate 8 refine vo ?_
    refine vnt ?_
    refine vc_ret ?_
    refine inB_r ?_
    refine thn_r ?_
    refine inB_r ?_
    refine thn_r ?_
    refine inB_r ?_
    have hh : txAF l ps d b s h t = (h1, q, x, y) := by rw [hI.1, txA_end g1]
    have hi := tx_idle g1
    refine fin_i [(0, some 7)] rfl (fz ?_) (fz ?_)
    · first | (rw [hh, hi]; trivial) | (rw [hh]; trivial)
    · rw [hh]
  · have gc : ¬ (txF l ps d b s h1 t).2.2 = 0 := g1
    have hd2 := hdc gc
    have hd3 := hd2.2
    refine vc_sr ?_
    iterate 2 refine vo ?_
    refine vnt ?_
    refine vc_if (fun g2 => ?_) (fun g2 => ?_)
    · refine vc_region ?_
      iterate 2 refine vo ?_
      try refine vwr ?_
      refine vo ?_
      refine vnil ?_
      refine inB_n ?_
      refine thn ?_
      refine vc_region ?_
      iterate 4 refine vo ?_
      refine vnil ?_
      refine inB_n ?_
      refine thn ?_
      refine ⟨n - 1, (txF l ps d b s h1 t).1, q ++ (txF l ps d b s h1 t).2.1, x + 1, y, ?_, ?_, sub_i [(56, some 56), (64, some 64), (7, some 352)] (fz ?_) (fz ?_)⟩
      · exact ⟨by rw [hI.1, txA_go (by omega) gc]; rw [if_pos (by omega), if_pos (by omega)], by omega, by rw [List.length_append]; omega, by omega⟩
      · omega
      · first | trivial | rfl | exact ⟨rfl, rfl⟩ | (refine ⟨?_, ?_, ?_⟩ <;> first | rfl | omega)
      · first | trivial | rfl | (refine ⟨?_, ?_⟩ <;> first | rfl | simp) | simp | trace_state
    · refine vc_region ?_
      iterate 2 refine vo ?_
      try refine vwr ?_
      refine vo ?_
      refine vnil ?_
      refine inB_n ?_
      refine thn ?_
      refine vc_region ?_
      iterate 4 refine vo ?_
      refine vnil ?_
      refine inB_n ?_
      refine thn ?_
      refine ⟨n - 1, (txF l ps d b s h1 t).1, q ++ (txF l ps d b s h1 t).2.1, x, y + 1, ?_, ?_, sub_i [(56, some 56), (64, some 64), (7, some 352)] (fz ?_) (fz ?_)⟩
      · exact ⟨by rw [hI.1, txA_go (by omega) gc]; rw [if_neg (by omega), if_neg (by omega)], by omega, by rw [List.length_append]; omega, by omega⟩
      · omega
      · first | trivial | rfl | exact ⟨rfl, rfl⟩ | (refine ⟨?_, ?_, ?_⟩ <;> first | rfl | omega)
      · first | trivial | rfl | (refine ⟨?_, ?_⟩ <;> first | rfl | simp) | simp | trace_state
set_option maxHeartbeats 4000000 in
theorem c_spec_TransmitAll {l : List Mp} {ps : Pg} {d b s h t : Int} (hl : l.length ≤ 1099511627776 := by first | with_reducible assumption | omega) (hp : ps.length ≤ 1099511627776 := by first | with_reducible assumption | omega) : Con0 Tryz.prog 21 [.one (.sl 4 (l.map mpE)), .agg [.sl 1 (ps.map strE)], I d, .agg [V b, V s, V h, V t]] (.tup [.agg [V b, V s, V (txAF l ps d b s h t).1, V t], .one (.hs 0), I (txAF l ps d b s h t).2.2.1, I (txAF l ps d b s h t).2.2.2]) [(0, .arr 9 1 ((txAF l ps d b s h t).2.1.map strE))] := by
  refine con_i Tryz.func21 Tryz.ntmps21 (t := [(0, .one (.sl 4 (l.map mpE))), (1, .agg [.sl 1 (ps.map strE)]), (2, I d), (3, .agg [V b, V s, V h, V t])]) rfl ?_
  refine vc_sr ?_
  iterate 6 refine vo ?_
  refine vnt ?_
  refine vc_sr ?_
  iterate 2 refine vo ?_
  refine vnt ?_
  refine vc_sr ?_
  refine vo ?_
  refine vnt ?_
  refine vc_sr ?_
  refine vo ?_
  refine vnt ?_
  refine vc_block ?_
  refine vc_lp5 [0, 2, 5, 7, 8] [40] (fun (n : Nat) (h1 : Int) (q : List ByteArray) (x : Int) (y : Int) => [(12, .one (.hs 7)), (13, I x), (14, I y)]) (fun (n : Nat) (h1 : Int) (q : List ByteArray) (x : Int) (y : Int) => [(7, .arr 9 1 (q.map strE)), (56, .row 30 [V b, V s, V h1, V t]), (64, .row 30 [V 0, V 0, V 0, V 0])]) (fun (n : Nat) (h1 : Int) (q : List ByteArray) (x : Int) (y : Int) => txAF l ps d b s h t = txAll l ps d b s t n h1 q x y ∧ usedB b s h1 t < n ∧ q.length + 320 * n ≤ 320 * 17 ∧ (0 ≤ x ∧ 0 ≤ y ∧ x + n ≤ 17 ∧ y + n ≤ 17)) (fun (n : Nat) (h1 : Int) (q : List ByteArray) (x : Int) (y : Int) => n) 17 h [] 0 0 rfl rfl (sub_i [(56, some 56), (64, some 64), (7, some 144)] (fz ?_) (fz ?_)) ?_ fun n h1 q x y hI => ?_
  · first | trivial | rfl
  · first | trivial | rfl | exact ⟨rfl, rfl⟩
  · exact ⟨rfl, by have := usedB_le b s h t; omega, by simp, by omega⟩
  refine vc_nf rfl rfl ?_
  have hdc : ¬ (txF l ps d b s h1 t).2.2 = 0 → _ := fun hc => tx_dec hc
  refine vc_block ?_
  refine vc_sr ?_
  iterate 4 refine vo ?_
  refine voc c_spec_TransmitNext rfl rfl ?_
  iterate 8 refine vo ?_
  refine vnt ?_
  refine vc_seq' ?_
  refine vc_sr ?_
  iterate 2 refine vo ?_
  refine vnt ?_
  refine vc_if (fun g1 => ?_) (fun g1 => ?_)
  · refine vc_sr ?_
    iterate 8 refine vo ?_
    refine vnt ?_
    refine vc_ret ?_
    refine thn_r ?_
    refine inB_r ?_
    refine thn_r ?_
    refine inB_r ?_
    have hh : txAF l ps d b s h t = (h1, q, x, y) := by rw [hI.1, txA_end g1]
    have hi := tx_idle g1
    refine fin_i [(0, some 7)] rfl (fz ?_) (fz ?_)
    · first | (rw [hh, hi]; trivial) | (rw [hh]; trivial)
    · rw [hh]
  · have gc : ¬ (txF l ps d b s h1 t).2.2 = 0 := g1
    have hd2 := hdc gc
    have hd3 := hd2.2
    refine vc_skip ?_
    refine thn ?_
    refine vc_sr ?_
    iterate 2 refine vo ?_
    refine vnt ?_
    refine vc_sr ?_
    iterate 4 refine vo ?_
    refine vnt ?_
    refine vc_sr ?_
    iterate 2 refine vo ?_
    refine vnt ?_
    refine vc_if (fun g2 => ?_) (fun g2 => ?_)
    · refine vc_region ?_
      iterate 2 refine vo ?_
      try refine vwr ?_
      refine vo ?_
      refine vnil ?_
      refine inB_n ?_
      refine thn ?_
      refine ⟨n - 1, (txF l ps d b s h1 t).1, q ++ (txF l ps d b s h1 t).2.1, x + 1, y, ?_, ?_, sub_i [(56, some 56), (64, some 64), (7, some 296)] (fz ?_) (fz ?_)⟩
      · exact ⟨by rw [hI.1, txA_go (by omega) gc]; rw [if_pos (by omega), if_pos (by omega)], by omega, by rw [List.length_append]; omega, by omega⟩
      · omega
      · first | trivial | rfl | exact ⟨rfl, rfl⟩ | (refine ⟨?_, ?_, ?_⟩ <;> first | rfl | omega)
      · first | trivial | rfl | (refine ⟨?_, ?_⟩ <;> first | rfl | simp) | simp | trace_state
    · refine vc_region ?_
      iterate 2 refine vo ?_
      try refine vwr ?_
      refine vo ?_
      refine vnil ?_
      refine inB_n ?_
      refine thn ?_
      refine ⟨n - 1, (txF l ps d b s h1 t).1, q ++ (txF l ps d b s h1 t).2.1, x, y + 1, ?_, ?_, sub_i [(56, some 56), (64, some 64), (7, some 296)] (fz ?_) (fz ?_)⟩
      · exact ⟨by rw [hI.1, txA_go (by omega) gc]; rw [if_neg (by omega), if_neg (by omega)], by omega, by rw [List.length_append]; omega, by omega⟩
      · omega
      · first | trivial | rfl | exact ⟨rfl, rfl⟩ | (refine ⟨?_, ?_, ?_⟩ <;> first | rfl | omega)
      · first | trivial | rfl | (refine ⟨?_, ?_⟩ <;> first | rfl | simp) | simp | trace_state
end Go.Proofs.YtgbjkojgjhcabaaGreat
end
section
namespace Go.Proofs.YtgbjkojgjhcabaaGreat
open Go.RowKit
set_option linter.unusedVariables false
set_option linter.unusedSimpArgs false
theorem markMappingS_i {w0 w : World} {Js : List Asn} {v : Value} {l : List Mp} (q : Nat) {k : Int} (HS : St w0 w (ownA l [v] :: Js)) (h1 : q + 4 * l.length ≤ 4611686018427386000) (hk : k = (q : Int)) :
    Calls Tryz.prog 17 #[v, .int .i64 k] w (fun e w' => e = .returned (.int .i64 ((q + 4 * l.length : Nat) : Int)) ∧ St w0 w' (ownA (markMp l.length q) [v] :: Js)) := hk ▸ markMappingS_st v l q w HS h1
theorem markMemory_i {w0 w : World} {Js : List Asn} {v : Value} {ps : Pg} (q : Nat) {k : Int} (HS : St w0 w (ownA ps [v] :: Js)) (h0 : 0 < q) (h1 : q + ps.length ≤ 4611686018427387903) (hk : k = (q : Int)) :
    Calls Tryz.prog 18 #[.agg #[v], .int .i64 k] w (fun e w' => e = .returned (.int .i64 ((q + ps.length : Nat) : Int)) ∧ St w0 w' (ownA (mtexts ps.length q) [v] :: Js)) := hk ▸ markMemory_st v ps q w HS h0 h1
theorem markStringS_i {w0 w : World} {Js : List Asn} {v : Value} {ps : Pg} (q : Nat) {k : Int} (HS : St w0 w (ownA ps [v] :: Js)) (h0 : 0 < q) (h1 : q + ps.length ≤ 4611686018427387903) (hk : k = (q : Int)) :
    Calls Tryz.prog 19 #[v, .int .i64 k] w (fun e w' => e = .returned (.int .i64 ((q + ps.length : Nat) : Int)) ∧ St w0 w' (ownA (mtexts ps.length q) [v] :: Js)) := hk ▸ markStringS_st v ps q w HS h0 h1
theorem heldStringS_i {w : World} {v : Value} (n q : Nat) {k : Int} (k1 : Holds w (mtexts n q) [v]) (h0 : 0 < q) (h1 : q + n ≤ 4611686018427387903) (hk : k = (q : Int)) :
    Calls Tryz.prog 20 #[v, .int .i64 k] w fun e w' => e = .returned (.int .i64 ((q + n : Nat) : Int)) ∧ Ex w w' := hk ▸ heldStringS_any v n q w k1 h0 h1
theorem frF_sz (p : Pk) : (frF p).size ≤ 1004 := by
  unfold frF
  split
  · rename_i h
    unfold Pk.ok at h
    rw [Bool.and_eq_true] at h
    have := (im_sz h.1).1
    unfold fcsF
    rw [ByteArray.size_append, strOfNums_size]
    simp only [List.length_cons, List.length_nil]
    omega
  · exact Nat.zero_le _
theorem frames_sz (l : List Pk) : ∀ x ∈ framesF l, x.size ≤ 1004 := by
  intro x hx
  unfold framesF at hx
  obtain ⟨p, _, rfl⟩ := List.mem_map.1 hx
  exact frF_sz p
theorem tx_fr (l : List Mp) (ps : Pg) (d b s h t : Int) : (txF l ps d b s h t).2.1.length ≤ 320 ∧ ∀ x ∈ (txF l ps d b s h t).2.1, x.size ≤ maxLen := by
  by_cases q : ringOkB b s h t = true
  · by_cases hu : usedF s h t = 0
    · rw [tx_0 (.inr hu)]; exact ⟨by simp, fun x hx => by cases hx⟩
    · by_cases g : txB l ps d b s h t = true
      · rw [tx_1 q hu g]
        refine ⟨Nat.le_trans (frames_le _) (split_le _ _), fun x hx => ?_⟩
        have := frames_sz _ x hx
        unfold maxLen; omega
      · rw [tx_2 q hu (by simpa using g)]; exact ⟨by simp, fun x hx => by cases hx⟩
  · rw [tx_0 (.inl (by simpa using q))]; exact ⟨by simp, fun x hx => by cases hx⟩
theorem txAll_fr {l : List Mp} {ps : Pg} {d b s t : Int} : ∀ (n : Nat) (h : Int) (o : List ByteArray) (x y : Int) (M : Nat), o.length ≤ M → (∀ z ∈ o, z.size ≤ maxLen) → (txAll l ps d b s t n h o x y).2.1.length ≤ M + 320 * n ∧ ∀ z ∈ (txAll l ps d b s t n h o x y).2.1, z.size ≤ maxLen
  | 0, h, o, x, y, M, h1, h2 => ⟨by simp only [txAll]; omega, h2⟩
  | n + 1, h, o, x, y, M, h1, h2 => by
    simp only [txAll]
    split
    · exact ⟨by simp only; omega, h2⟩
    · have hf := tx_fr l ps d b s h t
      have := txAll_fr (l := l) (ps := ps) (d := d) (b := b) (s := s) (t := t) n (txF l ps d b s h t).1 (o ++ (txF l ps d b s h t).2.1) (if (txF l ps d b s h t).2.2 = 1 then x + 1 else x) (if (txF l ps d b s h t).2.2 = 1 then y else y + 1) (M + 320) (by rw [List.length_append]; omega) fun z hz => (List.mem_append.1 hz).elim (h2 z) (hf.2 z)
      exact ⟨by omega, this.2⟩
theorem txA_fr (l : List Mp) (ps : Pg) (d b s h t : Int) : (txAF l ps d b s h t).2.1.length ≤ 1048576 ∧ ∀ x ∈ (txAF l ps d b s h t).2.1, x.size ≤ maxLen := by
  have := txAll_fr (l := l) (ps := ps) (d := d) (b := b) (s := s) (t := t) 17 h [] 0 0 0 (Nat.le_refl _) fun z hz => by cases hz
  unfold txAF
  exact ⟨by omega, this.2⟩
section
open Go.Vc
theorem both_TransmitAll (aListD : List Mp) (aMD : Pg) (aDomain : Int) (aR_Base aR_Size aR_Head aR_Tail : Int) (hl : aListD.length ≤ 1099511627776) (hp : aMD.length ≤ 1099511627776) : ∃ (fs : Pg) (h9 c9 e9 : Int), fs.length ≤ 1048576 ∧ (∀ (w : World) (v1 v2 : Value), Holds w aListD [v1] → Holds w aMD [v2] → Calls Tryz.prog 22 #[v1, .agg #[v2], .int .i64 aDomain, .agg #[.int .i64 aR_Base, .int .i64 aR_Size, .int .i64 aR_Head, .int .i64 aR_Tail]] w fun e w' => ∃ a c, e = .returned (.tuple #[.agg #[.int .i64 aR_Base, .int .i64 aR_Size, .int .i64 h9, .int .i64 aR_Tail], .slice a fs.length c, .int .i64 c9, .int .i64 e9]) ∧ Owns w.heap.size w' fs [.slice a fs.length c] ∧ Ex w w') ∧ (∀ (w : World) (v1 v2 : Value), Holds w aListD [v1] → Holds w aMD [v2] → Calls Tryz.prog 21 #[v1, .agg #[v2], .int .i64 aDomain, .agg #[.int .i64 aR_Base, .int .i64 aR_Size, .int .i64 aR_Head, .int .i64 aR_Tail]] w fun e w' => ∃ a c, e = .returned (.tuple #[.agg #[.int .i64 aR_Base, .int .i64 aR_Size, .int .i64 h9, .int .i64 aR_Tail], .slice a fs.length c, .int .i64 c9, .int .i64 e9]) ∧ Owns w.heap.size w' fs [.slice a fs.length c] ∧ Ex w w') := by
  refine ⟨_, _, _, _, ?_, fun w v1 v2 h1 h2 => old_tx (cs := [_, _, _, _]) (xs := [.int .i64 _, .int .i64 _]) c_impl_TransmitAll (.cons (ab_mps h1) (.cons (ab_mem h2) (.cons ⟨rfl, rfl⟩ (.cons (ab_agg [.int .i64 aR_Base, .int .i64 aR_Size, .int .i64 aR_Head, .int .i64 aR_Tail] rfl) .nil)))) ?_, fun w v1 v2 h1 h2 => old_tx (cs := [_, _, _, _]) (xs := [.int .i64 _, .int .i64 _]) c_spec_TransmitAll (.cons (ab_mps h1) (.cons (ab_mem h2) (.cons ⟨rfl, rfl⟩ (.cons (ab_agg [.int .i64 aR_Base, .int .i64 aR_Size, .int .i64 aR_Head, .int .i64 aR_Tail] rfl) .nil)))) ?_⟩
  · exact (txA_fr ..).1
  all_goals exact (txA_fr ..).2
end
set_option maxRecDepth 100000 in
set_option maxHeartbeats 16000000 in
theorem walk_FnExactTransmitAll (w : World) (aList : Value) (aListD : List (Int × Int × Int × Bool)) (haList : Holds w aListD [aList]) (aM : Array Value) (aMD : List ByteArray) (haM : Holds w aMD aM.toList) (aDomain : Int) (haDomain : i64ok aDomain) (aR_Base : Int) (haR_Base : i64ok aR_Base) (aR_Size : Int) (haR_Size : i64ok aR_Size) (aR_Head : Int) (haR_Head : i64ok aR_Head) (aR_Tail : Int) (haR_Tail : i64ok aR_Tail) :
    Calls Tryz.prog 4 #[aList, .agg aM, .int .i64 aDomain, .agg #[.int .i64 aR_Base, .int .i64 aR_Size, .int .i64 aR_Head, .int .i64 aR_Tail]] w fun e w' => e = .returned (.bool true) ∧ Ex w w' := by
  obtain ⟨AA, cap, rfl, z1, z2⟩ := haList.fl
  unfold maxLen at z2
  obtain ⟨vM, rfl⟩ : ∃ v, aM = #[v] := by
    obtain ⟨bs, a, c, hv, _⟩ := haM
    exact ⟨_, Array.toList_inj.1 hv⟩
  have k2 : Holds w aMD [vM] := haM
  have k1 := haList
  obtain ⟨BB, cap2, rfl, y1, y2⟩ := k2.fl
  unfold maxLen at y2
  clear haM haList
  by_cases hb0 : (1048576 : Int) < aListD.length
  case pos =>
    have HS := St.start w
    go_enter Tryz.func4, Tryz.ntmps4
    go_wp2_with (first
          | (go_at_call 6; (with_reducible refine (szMappingS_gt _ aListD _ _ (k1.ex HS.ex) (by omega) (by omega) (by omega)).mono ?_); rintro e w' ⟨rfl, hx⟩; replace HS := HS.grow hx; clear hx)
          | ((with_reducible (show wpList _ _ _ (Oper.mk (some 5) (Op.box _ _) _ _ _ _ :: _) _ _)); refine wpList_box_st (o := ⟨some 5, .box _ _, _, _, _, _⟩) rfl _ _ rfl (v := .agg (List.toArray _)) rfl HS ?_; clear HS; intro w5 b5 hb5 HS; simp only [Value.cells] at HS)
          | ((with_reducible (show wpList _ _ _ (Oper.mk (some 5) (Op.box _ _) _ _ _ _ :: _) _ _)); refine wpList_box_st (o := ⟨some 5, .box _ _, _, _, _, _⟩) rfl _ _ rfl (v := .agg _) rfl HS ?_; clear HS; intro w5 b5 hb5 HS; simp only [Value.cells] at HS)
          | ((with_reducible (show wpList _ _ _ (Oper.mk (some 7) (Op.box _ _) _ _ _ _ :: _) _ _)); refine wpList_box_st (o := ⟨some 7, .box _ _, _, _, _, _⟩) rfl _ _ rfl (v := .agg (List.toArray _)) rfl HS ?_; clear HS; intro w7 b7 hb7 HS; simp only [Value.cells] at HS)
          | ((with_reducible (show wpList _ _ _ (Oper.mk (some 7) (Op.box _ _) _ _ _ _ :: _) _ _)); refine wpList_box_st (o := ⟨some 7, .box _ _, _, _, _, _⟩) rfl _ _ rfl (v := .agg _) rfl HS ?_; clear HS; intro w7 b7 hb7 HS; simp only [Value.cells] at HS)
          | ((with_reducible (show wpList _ _ _ (Oper.mk (some 32) (Op.load _ _) _ _ _ _ :: _) _ _)); refine wpList_loadA_st (o := ⟨some 32, .load _ _, _, _, _, _⟩) rfl _ _ rfl rfl HS tk ag_laws_Memory lit rfl ?_)
          | ((with_reducible (show wpList _ _ _ (Oper.mk (some 52) (Op.load _ _) _ _ _ _ :: _) _ _)); refine wpList_loadA_st (o := ⟨some 52, .load _ _, _, _, _, _⟩) rfl _ _ rfl rfl HS tk ag_laws_Memory lit rfl ?_)
          | ((with_reducible (show wpList _ _ _ (Oper.mk (some 15) (Op.alloc _) _ _ _ _ :: _) _ _)); refine wpList_alloc_st (o := ⟨some 15, .alloc _, _, _, _, _⟩) rfl _ rfl zc_impl_Memory HS ?_; clear HS; intro w15 b15 hb15 HS)
          | ((with_reducible (show wpList _ _ _ (Oper.mk none (Op.store _ (.tmp 15) _) _ _ _ _ :: _) _ _)); refine wpList_store_st (o := ⟨none, .store _ (.tmp 15) _, _, _, _, _⟩) rfl _ _ _ rfl rfl (v := .agg (List.toArray _)) rfl HS tk sz_impl_Memory vcs rfx rfx (by simp) ?_ rfl; clear HS; intro w10_3 hz10_3 HS; simp only [nicL, Value.cells, List.append_nil] at HS)
          | ((with_reducible (show wpList _ _ _ (Oper.mk none (Op.store _ (.tmp 15) _) _ _ _ _ :: _) _ _)); refine wpList_store_st (o := ⟨none, .store _ (.tmp 15) _, _, _, _, _⟩) rfl _ _ _ rfl rfl (v := .agg _) rfl HS tk sz_impl_Memory vcs rfx rfx (by simp) ?_ rfl; clear HS; intro w10_3 hz10_3 HS; simp only [nicL, Value.cells, List.append_nil] at HS)
          | ((with_reducible (show wpList _ _ _ (Oper.mk (some 65) (Op.load _ _) _ _ _ _ :: _) _ _)); refine wpList_loadA_st (o := ⟨some 65, .load _ _, _, _, _, _⟩) rfl _ _ rfl rfl HS tk ag_impl_Ring lit rfl ?_)
          | ((with_reducible (show wpList _ _ _ (Oper.mk (some 66) (Op.load _ _) _ _ _ _ :: _) _ _)); refine wpList_loadA_st (o := ⟨some 66, .load _ _, _, _, _, _⟩) rfl _ _ rfl rfl HS tk ag_impl_Ring lit rfl ?_)
          | ((with_reducible (show wpList _ _ _ (Oper.mk (some 98) (Op.load _ _) _ _ _ _ :: _) _ _)); refine wpList_loadA_st (o := ⟨some 98, .load _ _, _, _, _, _⟩) rfl _ _ rfl rfl HS tk ag_impl_Memory lit rfl ?_)
          | ((with_reducible (show wpList _ _ _ (Oper.mk (some 104) (Op.load _ _) _ _ _ _ :: _) _ _)); refine wpList_loadA_st (o := ⟨some 104, .load _ _, _, _, _, _⟩) rfl _ _ rfl rfl HS tk ag_impl_Ring lit rfl ?_)
          | ((with_reducible (show wpList _ _ _ (Oper.mk (some 105) (Op.load _ _) _ _ _ _ :: _) _ _)); refine wpList_loadA_st (o := ⟨some 105, .load _ _, _, _, _, _⟩) rfl _ _ rfl rfl HS tk ag_impl_Ring lit rfl ?_)
          | ((with_reducible (show wpList _ _ _ (Oper.mk (some 149) (Op.load _ _) _ _ _ _ :: _) _ _)); refine wpList_loadA_st (o := ⟨some 149, .load _ _, _, _, _, _⟩) rfl _ _ rfl rfl HS tk ag_impl_Ring lit rfl ?_)
          | ((with_reducible (show wpList _ _ _ (Oper.mk (some 150) (Op.load _ _) _ _ _ _ :: _) _ _)); refine wpList_loadA_st (o := ⟨some 150, .load _ _, _, _, _, _⟩) rfl _ _ rfl rfl HS tk ag_impl_Ring lit rfl ?_))
    go_ret
    exact ⟨rfl, HS.ex⟩
  case neg =>
  by_cases hb1 : (1048576 : Int) - aListD.length < ((aMD.length + totS aMD : Nat) : Int)
  case pos =>
    have HS := St.start w
    go_enter Tryz.func4, Tryz.ntmps4
    go_wp2_with (first
          | (go_at_call 6; (with_reducible refine (szMappingS_le _ aListD _ _ (k1.ex HS.ex) (by omega) (by omega)).mono ?_); rintro e w' ⟨rfl, hx⟩; replace HS := HS.grow hx; clear hx)
          | (go_at_call 7; (with_reducible refine (szMemory_gt _ aMD _ _ (k2.ex HS.ex) (by omega) (by omega) (by omega)).mono ?_); rintro e w' ⟨rfl, hx⟩; replace HS := HS.grow hx; clear hx)
          | ((with_reducible (show wpList _ _ _ (Oper.mk (some 5) (Op.box _ _) _ _ _ _ :: _) _ _)); refine wpList_box_st (o := ⟨some 5, .box _ _, _, _, _, _⟩) rfl _ _ rfl (v := .agg (List.toArray _)) rfl HS ?_; clear HS; intro w5 b5 hb5 HS; simp only [Value.cells] at HS)
          | ((with_reducible (show wpList _ _ _ (Oper.mk (some 5) (Op.box _ _) _ _ _ _ :: _) _ _)); refine wpList_box_st (o := ⟨some 5, .box _ _, _, _, _, _⟩) rfl _ _ rfl (v := .agg _) rfl HS ?_; clear HS; intro w5 b5 hb5 HS; simp only [Value.cells] at HS)
          | ((with_reducible (show wpList _ _ _ (Oper.mk (some 7) (Op.box _ _) _ _ _ _ :: _) _ _)); refine wpList_box_st (o := ⟨some 7, .box _ _, _, _, _, _⟩) rfl _ _ rfl (v := .agg (List.toArray _)) rfl HS ?_; clear HS; intro w7 b7 hb7 HS; simp only [Value.cells] at HS)
          | ((with_reducible (show wpList _ _ _ (Oper.mk (some 7) (Op.box _ _) _ _ _ _ :: _) _ _)); refine wpList_box_st (o := ⟨some 7, .box _ _, _, _, _, _⟩) rfl _ _ rfl (v := .agg _) rfl HS ?_; clear HS; intro w7 b7 hb7 HS; simp only [Value.cells] at HS)
          | ((with_reducible (show wpList _ _ _ (Oper.mk (some 32) (Op.load _ _) _ _ _ _ :: _) _ _)); refine wpList_loadA_st (o := ⟨some 32, .load _ _, _, _, _, _⟩) rfl _ _ rfl rfl HS tk ag_laws_Memory lit rfl ?_)
          | ((with_reducible (show wpList _ _ _ (Oper.mk (some 52) (Op.load _ _) _ _ _ _ :: _) _ _)); refine wpList_loadA_st (o := ⟨some 52, .load _ _, _, _, _, _⟩) rfl _ _ rfl rfl HS tk ag_laws_Memory lit rfl ?_)
          | ((with_reducible (show wpList _ _ _ (Oper.mk (some 15) (Op.alloc _) _ _ _ _ :: _) _ _)); refine wpList_alloc_st (o := ⟨some 15, .alloc _, _, _, _, _⟩) rfl _ rfl zc_impl_Memory HS ?_; clear HS; intro w15 b15 hb15 HS)
          | ((with_reducible (show wpList _ _ _ (Oper.mk none (Op.store _ (.tmp 15) _) _ _ _ _ :: _) _ _)); refine wpList_store_st (o := ⟨none, .store _ (.tmp 15) _, _, _, _, _⟩) rfl _ _ _ rfl rfl (v := .agg (List.toArray _)) rfl HS tk sz_impl_Memory vcs rfx rfx (by simp) ?_ rfl; clear HS; intro w10_3 hz10_3 HS; simp only [nicL, Value.cells, List.append_nil] at HS)
          | ((with_reducible (show wpList _ _ _ (Oper.mk none (Op.store _ (.tmp 15) _) _ _ _ _ :: _) _ _)); refine wpList_store_st (o := ⟨none, .store _ (.tmp 15) _, _, _, _, _⟩) rfl _ _ _ rfl rfl (v := .agg _) rfl HS tk sz_impl_Memory vcs rfx rfx (by simp) ?_ rfl; clear HS; intro w10_3 hz10_3 HS; simp only [nicL, Value.cells, List.append_nil] at HS)
          | ((with_reducible (show wpList _ _ _ (Oper.mk (some 65) (Op.load _ _) _ _ _ _ :: _) _ _)); refine wpList_loadA_st (o := ⟨some 65, .load _ _, _, _, _, _⟩) rfl _ _ rfl rfl HS tk ag_impl_Ring lit rfl ?_)
          | ((with_reducible (show wpList _ _ _ (Oper.mk (some 66) (Op.load _ _) _ _ _ _ :: _) _ _)); refine wpList_loadA_st (o := ⟨some 66, .load _ _, _, _, _, _⟩) rfl _ _ rfl rfl HS tk ag_impl_Ring lit rfl ?_)
          | ((with_reducible (show wpList _ _ _ (Oper.mk (some 98) (Op.load _ _) _ _ _ _ :: _) _ _)); refine wpList_loadA_st (o := ⟨some 98, .load _ _, _, _, _, _⟩) rfl _ _ rfl rfl HS tk ag_impl_Memory lit rfl ?_)
          | ((with_reducible (show wpList _ _ _ (Oper.mk (some 104) (Op.load _ _) _ _ _ _ :: _) _ _)); refine wpList_loadA_st (o := ⟨some 104, .load _ _, _, _, _, _⟩) rfl _ _ rfl rfl HS tk ag_impl_Ring lit rfl ?_)
          | ((with_reducible (show wpList _ _ _ (Oper.mk (some 105) (Op.load _ _) _ _ _ _ :: _) _ _)); refine wpList_loadA_st (o := ⟨some 105, .load _ _, _, _, _, _⟩) rfl _ _ rfl rfl HS tk ag_impl_Ring lit rfl ?_)
          | ((with_reducible (show wpList _ _ _ (Oper.mk (some 149) (Op.load _ _) _ _ _ _ :: _) _ _)); refine wpList_loadA_st (o := ⟨some 149, .load _ _, _, _, _, _⟩) rfl _ _ rfl rfl HS tk ag_impl_Ring lit rfl ?_)
          | ((with_reducible (show wpList _ _ _ (Oper.mk (some 150) (Op.load _ _) _ _ _ _ :: _) _ _)); refine wpList_loadA_st (o := ⟨some 150, .load _ _, _, _, _, _⟩) rfl _ _ rfl rfl HS tk ag_impl_Ring lit rfl ?_))
    go_ret
    exact ⟨rfl, HS.ex⟩
  case neg =>
  have hlm : aMD.length ≤ 1099511627776 := by omega
  obtain ⟨fs, h9, c9, e9, hql2, HI, HP⟩ := both_TransmitAll aListD aMD aDomain aR_Base aR_Size aR_Head aR_Tail (by omega) hlm
  replace HI := hid HI
  replace HP := hid HP
  have HS := St.start w
  go_enter Tryz.func4, Tryz.ntmps4
  go_wp2_with (first
        | (go_at_call 6; (with_reducible refine (szMappingS_le _ aListD _ _ (k1.ex HS.ex) (by omega) (by omega)).mono ?_); rintro e w' ⟨rfl, hx⟩; replace HS := HS.grow hx; clear hx)
        | (go_at_call 7; (with_reducible refine (szMemory_le _ aMD _ _ (k2.ex HS.ex) (by omega) (by omega)).mono ?_); rintro e w' ⟨rfl, hx⟩; replace HS := HS.grow hx; clear hx)
        | ((with_reducible (show wpList _ _ _ (Oper.mk (some 5) (Op.box _ _) _ _ _ _ :: _) _ _)); refine wpList_box_st (o := ⟨some 5, .box _ _, _, _, _, _⟩) rfl _ _ rfl (v := .agg (List.toArray _)) rfl HS ?_; clear HS; intro w5 b5 hb5 HS; simp only [Value.cells] at HS)
        | ((with_reducible (show wpList _ _ _ (Oper.mk (some 5) (Op.box _ _) _ _ _ _ :: _) _ _)); refine wpList_box_st (o := ⟨some 5, .box _ _, _, _, _, _⟩) rfl _ _ rfl (v := .agg _) rfl HS ?_; clear HS; intro w5 b5 hb5 HS; simp only [Value.cells] at HS)
        | ((with_reducible (show wpList _ _ _ (Oper.mk (some 7) (Op.box _ _) _ _ _ _ :: _) _ _)); refine wpList_box_st (o := ⟨some 7, .box _ _, _, _, _, _⟩) rfl _ _ rfl (v := .agg (List.toArray _)) rfl HS ?_; clear HS; intro w7 b7 hb7 HS; simp only [Value.cells] at HS)
        | ((with_reducible (show wpList _ _ _ (Oper.mk (some 7) (Op.box _ _) _ _ _ _ :: _) _ _)); refine wpList_box_st (o := ⟨some 7, .box _ _, _, _, _, _⟩) rfl _ _ rfl (v := .agg _) rfl HS ?_; clear HS; intro w7 b7 hb7 HS; simp only [Value.cells] at HS)
        | ((with_reducible (show wpList _ _ _ (Oper.mk (some 32) (Op.load _ _) _ _ _ _ :: _) _ _)); refine wpList_loadA_st (o := ⟨some 32, .load _ _, _, _, _, _⟩) rfl _ _ rfl rfl HS tk ag_laws_Memory lit rfl ?_)
        | ((with_reducible (show wpList _ _ _ (Oper.mk (some 52) (Op.load _ _) _ _ _ _ :: _) _ _)); refine wpList_loadA_st (o := ⟨some 52, .load _ _, _, _, _, _⟩) rfl _ _ rfl rfl HS tk ag_laws_Memory lit rfl ?_)
        | ((with_reducible (show wpList _ _ _ (Oper.mk (some 15) (Op.alloc _) _ _ _ _ :: _) _ _)); refine wpList_alloc_st (o := ⟨some 15, .alloc _, _, _, _, _⟩) rfl _ rfl zc_impl_Memory HS ?_; clear HS; intro w15 b15 hb15 HS)
        | ((with_reducible (show wpList _ _ _ (Oper.mk none (Op.store _ (.tmp 15) _) _ _ _ _ :: _) _ _)); refine wpList_store_st (o := ⟨none, .store _ (.tmp 15) _, _, _, _, _⟩) rfl _ _ _ rfl rfl (v := .agg (List.toArray _)) rfl HS tk sz_impl_Memory vcs rfx rfx (by simp) ?_ rfl; clear HS; intro w10_3 hz10_3 HS; simp only [nicL, Value.cells, List.append_nil] at HS)
        | ((with_reducible (show wpList _ _ _ (Oper.mk none (Op.store _ (.tmp 15) _) _ _ _ _ :: _) _ _)); refine wpList_store_st (o := ⟨none, .store _ (.tmp 15) _, _, _, _, _⟩) rfl _ _ _ rfl rfl (v := .agg _) rfl HS tk sz_impl_Memory vcs rfx rfx (by simp) ?_ rfl; clear HS; intro w10_3 hz10_3 HS; simp only [nicL, Value.cells, List.append_nil] at HS)
        | ((with_reducible (show wpList _ _ _ (Oper.mk (some 65) (Op.load _ _) _ _ _ _ :: _) _ _)); refine wpList_loadA_st (o := ⟨some 65, .load _ _, _, _, _, _⟩) rfl _ _ rfl rfl HS tk ag_impl_Ring lit rfl ?_)
        | ((with_reducible (show wpList _ _ _ (Oper.mk (some 66) (Op.load _ _) _ _ _ _ :: _) _ _)); refine wpList_loadA_st (o := ⟨some 66, .load _ _, _, _, _, _⟩) rfl _ _ rfl rfl HS tk ag_impl_Ring lit rfl ?_)
        | ((with_reducible (show wpList _ _ _ (Oper.mk (some 98) (Op.load _ _) _ _ _ _ :: _) _ _)); refine wpList_loadA_st (o := ⟨some 98, .load _ _, _, _, _, _⟩) rfl _ _ rfl rfl HS tk ag_impl_Memory lit rfl ?_)
        | ((with_reducible (show wpList _ _ _ (Oper.mk (some 104) (Op.load _ _) _ _ _ _ :: _) _ _)); refine wpList_loadA_st (o := ⟨some 104, .load _ _, _, _, _, _⟩) rfl _ _ rfl rfl HS tk ag_impl_Ring lit rfl ?_)
        | ((with_reducible (show wpList _ _ _ (Oper.mk (some 105) (Op.load _ _) _ _ _ _ :: _) _ _)); refine wpList_loadA_st (o := ⟨some 105, .load _ _, _, _, _, _⟩) rfl _ _ rfl rfl HS tk ag_impl_Ring lit rfl ?_)
        | ((with_reducible (show wpList _ _ _ (Oper.mk (some 149) (Op.load _ _) _ _ _ _ :: _) _ _)); refine wpList_loadA_st (o := ⟨some 149, .load _ _, _, _, _, _⟩) rfl _ _ rfl rfl HS tk ag_impl_Ring lit rfl ?_)
        | ((with_reducible (show wpList _ _ _ (Oper.mk (some 150) (Op.load _ _) _ _ _ _ :: _) _ _)); refine wpList_loadA_st (o := ⟨some 150, .load _ _, _, _, _, _⟩) rfl _ _ rfl rfl HS tk ag_impl_Ring lit rfl ?_))
  refine wp_region_fl HS (show Arr _ [rowA b5 _ _, rowA b7 _ _] from ary) (.early 0 (.early 2 (.early 4 (.early 5 (.forced 1 1 (.forced 3 1 (.forced 6 1 (.forced 7 1 (.pure 8 (.pure 9 (.pure 10 (.pure 11 (.pure 12 (.land 13 (.forced 14 2 (.pure 15 (.pure 16 (.pure 17 .done)))))))))))))))))) [13] (by kernel_rfl) (by as_aux_lemma => kernel_rfl) ?_
  intro hne
  clear HS
  try go_simp
  repeat' (first
    | (with_reducible refine wpF_forced ?_)
    | ((with_reducible (first | (show wpF _ _ _ _ _ (.early 0 _) _ _) | (show wpF _ _ _ _ _ (.early 4 _) _ _))); (first | (refine wpF_skipE rfl rfl ?_; (try go_simp)) | (refine wpF_early rfl rfl ?_; intro K hK; (first | go_big_quiet_op); (first | go_big_quiet_on | (refine ⟨_, fun _ => rfl, ?_⟩; go_big_quiet_on)))))
    | ((with_reducible ((show wpF _ _ _ _ _ (.early 2 _) _ _))); (first | (refine wpF_skipE rfl rfl ?_; (try go_simp)) | (refine wpF_early rfl rfl ?_; intro K hK; (first | ((refine quiet_loadA_st  _ _ rfl rfl tk ag_laws_Memory lit rfl ?_); (try go_simp)) | go_big_quiet_op); (first | go_big_quiet_on | (refine ⟨_, fun _ => rfl, ?_⟩; go_big_quiet_on)))))
    | ((with_reducible ((show wpF _ _ _ _ _ (.early 5 _) _ _))); (first | (refine wpF_skipE rfl rfl ?_; (try go_simp)) | (refine wpF_early rfl rfl ?_; intro K hK; (first | ((refine quiet_loadA_st  _ _ rfl rfl tk ag_laws_Ring lit rfl ?_); (try go_simp)) | go_big_quiet_op); (first | go_big_quiet_on | (refine ⟨_, fun _ => rfl, ?_⟩; go_big_quiet_on)))))
    | ((with_reducible ((show OneF _ _ _ _ _ 1 1 _ _ _))); (first | (refine oneF_skip rfl rfl ?_; (try go_simp)) | (refine oneF_1 rfl rfl ?_; intro wq Fq HS K hK; go_simp; (first | (go_at_call 9; (with_reducible refine (toMappingS_any _ aListD _ (k1.ex HS.ex) (by omega)).mono ?_); rintro e w' ⟨A39, c39, rfl, ho, hx⟩; replace HS := HS.own ho hx; clear ho hx)); (try go_simp); refine hK _ _ _ ?_ (HS.take tk) ?_; (focus (exact stw HS)); clear HS hK K)))
    | ((with_reducible ((show OneF _ _ _ _ _ 3 1 _ _ _))); (first | (refine oneF_skip rfl rfl ?_; (try go_simp)) | (refine oneF_1 rfl rfl ?_; intro wq Fq HS K hK; go_simp; (first | (go_at_call 10; (with_reducible refine (toMemory_any _ aMD _ (k2.ex HS.ex) (by omega)).mono ?_); rintro e w' ⟨A41, c41, rfl, ho, hx⟩; replace HS := HS.own ho hx; clear ho hx)); (try go_simp); refine hK _ _ _ ?_ (HS.take tk) ?_; (focus (exact stw HS)); clear HS hK K)))
    | ((with_reducible ((show OneF _ _ _ _ _ 6 1 _ _ _))); (first | (refine oneF_skip rfl rfl ?_; (try go_simp)) | (refine oneF_1 rfl rfl ?_; intro wq Fq HS K hK; go_simp; (first | (go_at_call 11; (with_reducible refine (toRing_w aR_Base aR_Size aR_Head aR_Tail _).mono ?_); rintro e w' ⟨rfl, hx⟩; replace HS := HS.grow hx; clear hx)); (try go_simp); refine hK _ _ _ ?_ (HS.take tk) ?_; (focus (exact stw HS)); clear HS hK K)))
    | ((with_reducible ((show OneF _ _ _ _ _ 7 1 _ _ _))); (first | (refine oneF_skip rfl rfl ?_; (try go_simp)) | (refine oneF_1 rfl rfl ?_; intro wq Fq HS K hK; go_simp; (first | (go_at_call 21; (with_reducible refine (HP.out _ _ _ (HS.holds tk) (HS.holds tk)).mono ?_); rintro e w' ⟨A45, c45, rfl, ho, hx⟩; replace HS := HS.own ho hx; clear ho hx)); (try go_simp); refine hK _ _ _ ?_ (HS.take tk) ?_; (focus (exact stw HS)); clear HS hK K)))
    | ((with_reducible ((show wpF _ _ _ _ _ (.pure _ _) _ _))); (first | (refine wpF_skipP rfl rfl ?_; (try go_simp)) | (refine wpF_pure rfl rfl ?_; intro K hK; go_big_quiet_op; (first | go_big_quiet_on | (refine ⟨_, fun _ => rfl, ?_⟩; go_big_quiet_on)))))
    | ((with_reducible ((show wpF _ _ _ _ _ (.land 13 _) _ _))); (refine wpF_land rfl rfl zc_impl_Ring ?_; intro b10; (try go_simp)))
    | ((with_reducible ((show OneF _ _ _ _ _ 14 2 _ _ _))); (first | (refine oneF_skip rfl rfl ?_; (try go_simp)) | (refine oneF_2 rfl rfl ?_; intro wq Fq HS K hK; (first | (refine wp_store_st  _ _ _ rfl rfl (v := .agg (List.toArray _)) rfl HS tk sz_impl_Ring vcs rfx rfx (by simp) ?_ rfl; clear HS; intro w8_14 hz8_14 HS; simp only [nicL, Value.cells, List.append_nil] at HS) | (refine wp_store_st  _ _ _ rfl rfl (v := .agg _) rfl HS tk sz_impl_Ring vcs rfx rfx (by simp) ?_ rfl; clear HS; intro w8_14 hz8_14 HS; simp only [nicL, Value.cells, List.append_nil] at HS)); (try go_simp); refine hK _ _ _ (HS.take tk) ?_; clear HS hK K)))
    | (with_reducible refine wpF_done ?_))
  all_goals intro w9 HS
  go_wp2_with (first
        | (go_at_call 9; (with_reducible refine (toMappingS_any _ aListD _ (k1.ex HS.ex) (by omega)).mono ?_); rintro e w' ⟨A51, c51, rfl, ho, hx⟩; replace HS := HS.own ho hx; clear ho hx)
        | (go_at_call 10; (with_reducible refine (toMemory_any _ aMD _ (k2.ex HS.ex) (by omega)).mono ?_); rintro e w' ⟨A53, c53, rfl, ho, hx⟩; replace HS := HS.own ho hx; clear ho hx)
        | ((with_reducible (show wpList _ _ _ (Oper.mk (some 5) (Op.box _ _) _ _ _ _ :: _) _ _)); refine wpList_box_st (o := ⟨some 5, .box _ _, _, _, _, _⟩) rfl _ _ rfl (v := .agg (List.toArray _)) rfl HS ?_; clear HS; intro w5 b5 hb5 HS; simp only [Value.cells] at HS)
        | ((with_reducible (show wpList _ _ _ (Oper.mk (some 5) (Op.box _ _) _ _ _ _ :: _) _ _)); refine wpList_box_st (o := ⟨some 5, .box _ _, _, _, _, _⟩) rfl _ _ rfl (v := .agg _) rfl HS ?_; clear HS; intro w5 b5 hb5 HS; simp only [Value.cells] at HS)
        | ((with_reducible (show wpList _ _ _ (Oper.mk (some 7) (Op.box _ _) _ _ _ _ :: _) _ _)); refine wpList_box_st (o := ⟨some 7, .box _ _, _, _, _, _⟩) rfl _ _ rfl (v := .agg (List.toArray _)) rfl HS ?_; clear HS; intro w7 b7 hb7 HS; simp only [Value.cells] at HS)
        | ((with_reducible (show wpList _ _ _ (Oper.mk (some 7) (Op.box _ _) _ _ _ _ :: _) _ _)); refine wpList_box_st (o := ⟨some 7, .box _ _, _, _, _, _⟩) rfl _ _ rfl (v := .agg _) rfl HS ?_; clear HS; intro w7 b7 hb7 HS; simp only [Value.cells] at HS)
        | ((with_reducible (show wpList _ _ _ (Oper.mk (some 32) (Op.load _ _) _ _ _ _ :: _) _ _)); refine wpList_loadA_st (o := ⟨some 32, .load _ _, _, _, _, _⟩) rfl _ _ rfl rfl HS tk ag_laws_Memory lit rfl ?_)
        | ((with_reducible (show wpList _ _ _ (Oper.mk (some 52) (Op.load _ _) _ _ _ _ :: _) _ _)); refine wpList_loadA_st (o := ⟨some 52, .load _ _, _, _, _, _⟩) rfl _ _ rfl rfl HS tk ag_laws_Memory lit rfl ?_)
        | ((with_reducible (show wpList _ _ _ (Oper.mk (some 15) (Op.alloc _) _ _ _ _ :: _) _ _)); refine wpList_alloc_st (o := ⟨some 15, .alloc _, _, _, _, _⟩) rfl _ rfl zc_impl_Memory HS ?_; clear HS; intro w15 b15 hb15 HS)
        | ((with_reducible (show wpList _ _ _ (Oper.mk none (Op.store _ (.tmp 15) _) _ _ _ _ :: _) _ _)); refine wpList_store_st (o := ⟨none, .store _ (.tmp 15) _, _, _, _, _⟩) rfl _ _ _ rfl rfl (v := .agg (List.toArray _)) rfl HS tk sz_impl_Memory vcs rfx rfx (by simp) ?_ rfl; clear HS; intro w10_3 hz10_3 HS; simp only [nicL, Value.cells, List.append_nil] at HS)
        | ((with_reducible (show wpList _ _ _ (Oper.mk none (Op.store _ (.tmp 15) _) _ _ _ _ :: _) _ _)); refine wpList_store_st (o := ⟨none, .store _ (.tmp 15) _, _, _, _, _⟩) rfl _ _ _ rfl rfl (v := .agg _) rfl HS tk sz_impl_Memory vcs rfx rfx (by simp) ?_ rfl; clear HS; intro w10_3 hz10_3 HS; simp only [nicL, Value.cells, List.append_nil] at HS)
        | ((with_reducible (show wpList _ _ _ (Oper.mk (some 65) (Op.load _ _) _ _ _ _ :: _) _ _)); refine wpList_loadA_st (o := ⟨some 65, .load _ _, _, _, _, _⟩) rfl _ _ rfl rfl HS tk ag_impl_Ring lit rfl ?_)
        | ((with_reducible (show wpList _ _ _ (Oper.mk (some 66) (Op.load _ _) _ _ _ _ :: _) _ _)); refine wpList_loadA_st (o := ⟨some 66, .load _ _, _, _, _, _⟩) rfl _ _ rfl rfl HS tk ag_impl_Ring lit rfl ?_)
        | ((with_reducible (show wpList _ _ _ (Oper.mk (some 98) (Op.load _ _) _ _ _ _ :: _) _ _)); refine wpList_loadA_st (o := ⟨some 98, .load _ _, _, _, _, _⟩) rfl _ _ rfl rfl HS tk ag_impl_Memory lit rfl ?_)
        | ((with_reducible (show wpList _ _ _ (Oper.mk (some 104) (Op.load _ _) _ _ _ _ :: _) _ _)); refine wpList_loadA_st (o := ⟨some 104, .load _ _, _, _, _, _⟩) rfl _ _ rfl rfl HS tk ag_impl_Ring lit rfl ?_)
        | ((with_reducible (show wpList _ _ _ (Oper.mk (some 105) (Op.load _ _) _ _ _ _ :: _) _ _)); refine wpList_loadA_st (o := ⟨some 105, .load _ _, _, _, _, _⟩) rfl _ _ rfl rfl HS tk ag_impl_Ring lit rfl ?_)
        | ((with_reducible (show wpList _ _ _ (Oper.mk (some 149) (Op.load _ _) _ _ _ _ :: _) _ _)); refine wpList_loadA_st (o := ⟨some 149, .load _ _, _, _, _, _⟩) rfl _ _ rfl rfl HS tk ag_impl_Ring lit rfl ?_)
        | ((with_reducible (show wpList _ _ _ (Oper.mk (some 150) (Op.load _ _) _ _ _ _ :: _) _ _)); refine wpList_loadA_st (o := ⟨some 150, .load _ _, _, _, _, _⟩) rfl _ _ rfl rfl HS tk ag_impl_Ring lit rfl ?_))
  refine wp_region_fl HS (show Arr _ [rowA b15 _ _, rowA b7 _ _] from ary) (.early 0 (.early 1 (.early 2 (.early 3 (.forced 4 1 (.forced 5 1 (.pure 6 (.pure 7 (.pure 8 (.pure 9 (.pure 10 (.land 11 (.forced 12 2 (.pure 13 (.pure 14 (.pure 15 .done)))))))))))))))) [11] (by kernel_rfl) (by as_aux_lemma => kernel_rfl) ?_
  intro hne
  clear HS
  try go_simp
  repeat' (first
    | (with_reducible refine wpF_forced ?_)
    | ((with_reducible (first | (show wpF _ _ _ _ _ (.early 0 _) _ _) | (show wpF _ _ _ _ _ (.early 2 _) _ _))); (first | (refine wpF_skipE rfl rfl ?_; (try go_simp)) | (refine wpF_early rfl rfl ?_; intro K hK; (first | go_big_quiet_op); (first | go_big_quiet_on | (refine ⟨_, fun _ => rfl, ?_⟩; go_big_quiet_on)))))
    | ((with_reducible ((show wpF _ _ _ _ _ (.early 1 _) _ _))); (first | (refine wpF_skipE rfl rfl ?_; (try go_simp)) | (refine wpF_early rfl rfl ?_; intro K hK; (first | ((refine quiet_loadA_st  _ _ rfl rfl tk ag_impl_Memory lit rfl ?_); (try go_simp)) | go_big_quiet_op); (first | go_big_quiet_on | (refine ⟨_, fun _ => rfl, ?_⟩; go_big_quiet_on)))))
    | ((with_reducible ((show wpF _ _ _ _ _ (.early 3 _) _ _))); (first | (refine wpF_skipE rfl rfl ?_; (try go_simp)) | (refine wpF_early rfl rfl ?_; intro K hK; (first | ((refine quiet_loadA_st  _ _ rfl rfl tk ag_laws_Ring lit rfl ?_); (try go_simp)) | go_big_quiet_op); (first | go_big_quiet_on | (refine ⟨_, fun _ => rfl, ?_⟩; go_big_quiet_on)))))
    | ((with_reducible ((show OneF _ _ _ _ _ 4 1 _ _ _))); (first | (refine oneF_skip rfl rfl ?_; (try go_simp)) | (refine oneF_1 rfl rfl ?_; intro wq Fq HS K hK; go_simp; (first | (go_at_call 11; (with_reducible refine (toRing_w aR_Base aR_Size aR_Head aR_Tail _).mono ?_); rintro e w' ⟨rfl, hx⟩; replace HS := HS.grow hx; clear hx)); (try go_simp); refine hK _ _ _ ?_ (HS.take tk) ?_; (focus (exact stw HS)); clear HS hK K)))
    | ((with_reducible ((show OneF _ _ _ _ _ 5 1 _ _ _))); (first | (refine oneF_skip rfl rfl ?_; (try go_simp)) | (refine oneF_1 rfl rfl ?_; intro wq Fq HS K hK; go_simp; (first | (go_at_call 22; (with_reducible refine (HI.out _ _ _ (HS.holds tk) (HS.holds tk)).mono ?_); rintro e w' ⟨A60, c60, rfl, ho, hx⟩; replace HS := HS.own ho hx; clear ho hx)); (try go_simp); refine hK _ _ _ ?_ (HS.take tk) ?_; (focus (exact stw HS)); clear HS hK K)))
    | ((with_reducible ((show wpF _ _ _ _ _ (.pure _ _) _ _))); (first | (refine wpF_skipP rfl rfl ?_; (try go_simp)) | (refine wpF_pure rfl rfl ?_; intro K hK; go_big_quiet_op; (first | go_big_quiet_on | (refine ⟨_, fun _ => rfl, ?_⟩; go_big_quiet_on)))))
    | ((with_reducible ((show wpF _ _ _ _ _ (.land 11 _) _ _))); (refine wpF_land rfl rfl zc_impl_Ring ?_; intro b16; (try go_simp)))
    | ((with_reducible ((show OneF _ _ _ _ _ 12 2 _ _ _))); (first | (refine oneF_skip rfl rfl ?_; (try go_simp)) | (refine oneF_2 rfl rfl ?_; intro wq Fq HS K hK; (first | (refine wp_store_st  _ _ _ rfl rfl (v := .agg (List.toArray _)) rfl HS tk sz_impl_Ring vcs rfx rfx (by simp) ?_ rfl; clear HS; intro w11_12 hz11_12 HS; simp only [nicL, Value.cells, List.append_nil] at HS) | (refine wp_store_st  _ _ _ rfl rfl (v := .agg _) rfl HS tk sz_impl_Ring vcs rfx rfx (by simp) ?_ rfl; clear HS; intro w11_12 hz11_12 HS; simp only [nicL, Value.cells, List.append_nil] at HS)); (try go_simp); refine hK _ _ _ (HS.take tk) ?_; clear HS hK K)))
    | (with_reducible refine wpF_done ?_))
  all_goals intro w9 HS
  go_wp2_with (first
        | (go_at_call 14; (with_reducible refine (eqStringS_same _ _ fs _ (HS.holds tk) (HS.holds tk)).mono ?_); rintro e w' ⟨rfl, hx⟩; replace HS := HS.grow hx; clear hx)
        | (go_at_call 13; (with_reducible refine (eqRing_w aR_Base aR_Size h9 aR_Tail _).mono ?_); rintro e w' ⟨rfl, hx⟩; replace HS := HS.grow hx; clear hx)
        | (go_at_call 9; (with_reducible refine (toMappingS_any _ aListD _ (k1.ex HS.ex) (by omega)).mono ?_); rintro e w' ⟨A87, c87, rfl, ho, hx⟩; replace HS := HS.own ho hx; clear ho hx)
        | (go_at_call 15; (with_reducible refine (eqMappingS_same _ _ aListD _ (HS.holds tk) (HS.holds tk)).mono ?_); rintro e w' ⟨rfl, hx⟩; replace HS := HS.grow hx; clear hx)
        | ((with_reducible (show wpList _ _ _ (Oper.mk (some 5) (Op.box _ _) _ _ _ _ :: _) _ _)); refine wpList_box_st (o := ⟨some 5, .box _ _, _, _, _, _⟩) rfl _ _ rfl (v := .agg (List.toArray _)) rfl HS ?_; clear HS; intro w5 b5 hb5 HS; simp only [Value.cells] at HS)
        | ((with_reducible (show wpList _ _ _ (Oper.mk (some 5) (Op.box _ _) _ _ _ _ :: _) _ _)); refine wpList_box_st (o := ⟨some 5, .box _ _, _, _, _, _⟩) rfl _ _ rfl (v := .agg _) rfl HS ?_; clear HS; intro w5 b5 hb5 HS; simp only [Value.cells] at HS)
        | ((with_reducible (show wpList _ _ _ (Oper.mk (some 7) (Op.box _ _) _ _ _ _ :: _) _ _)); refine wpList_box_st (o := ⟨some 7, .box _ _, _, _, _, _⟩) rfl _ _ rfl (v := .agg (List.toArray _)) rfl HS ?_; clear HS; intro w7 b7 hb7 HS; simp only [Value.cells] at HS)
        | ((with_reducible (show wpList _ _ _ (Oper.mk (some 7) (Op.box _ _) _ _ _ _ :: _) _ _)); refine wpList_box_st (o := ⟨some 7, .box _ _, _, _, _, _⟩) rfl _ _ rfl (v := .agg _) rfl HS ?_; clear HS; intro w7 b7 hb7 HS; simp only [Value.cells] at HS)
        | ((with_reducible (show wpList _ _ _ (Oper.mk (some 32) (Op.load _ _) _ _ _ _ :: _) _ _)); refine wpList_loadA_st (o := ⟨some 32, .load _ _, _, _, _, _⟩) rfl _ _ rfl rfl HS tk ag_laws_Memory lit rfl ?_)
        | ((with_reducible (show wpList _ _ _ (Oper.mk (some 52) (Op.load _ _) _ _ _ _ :: _) _ _)); refine wpList_loadA_st (o := ⟨some 52, .load _ _, _, _, _, _⟩) rfl _ _ rfl rfl HS tk ag_laws_Memory lit rfl ?_)
        | ((with_reducible (show wpList _ _ _ (Oper.mk (some 15) (Op.alloc _) _ _ _ _ :: _) _ _)); refine wpList_alloc_st (o := ⟨some 15, .alloc _, _, _, _, _⟩) rfl _ rfl zc_impl_Memory HS ?_; clear HS; intro w15 b15 hb15 HS)
        | ((with_reducible (show wpList _ _ _ (Oper.mk none (Op.store _ (.tmp 15) _) _ _ _ _ :: _) _ _)); refine wpList_store_st (o := ⟨none, .store _ (.tmp 15) _, _, _, _, _⟩) rfl _ _ _ rfl rfl (v := .agg (List.toArray _)) rfl HS tk sz_impl_Memory vcs rfx rfx (by simp) ?_ rfl; clear HS; intro w10_3 hz10_3 HS; simp only [nicL, Value.cells, List.append_nil] at HS)
        | ((with_reducible (show wpList _ _ _ (Oper.mk none (Op.store _ (.tmp 15) _) _ _ _ _ :: _) _ _)); refine wpList_store_st (o := ⟨none, .store _ (.tmp 15) _, _, _, _, _⟩) rfl _ _ _ rfl rfl (v := .agg _) rfl HS tk sz_impl_Memory vcs rfx rfx (by simp) ?_ rfl; clear HS; intro w10_3 hz10_3 HS; simp only [nicL, Value.cells, List.append_nil] at HS)
        | ((with_reducible (show wpList _ _ _ (Oper.mk (some 65) (Op.load _ _) _ _ _ _ :: _) _ _)); refine wpList_loadA_st (o := ⟨some 65, .load _ _, _, _, _, _⟩) rfl _ _ rfl rfl HS tk ag_impl_Ring lit rfl ?_)
        | ((with_reducible (show wpList _ _ _ (Oper.mk (some 66) (Op.load _ _) _ _ _ _ :: _) _ _)); refine wpList_loadA_st (o := ⟨some 66, .load _ _, _, _, _, _⟩) rfl _ _ rfl rfl HS tk ag_impl_Ring lit rfl ?_)
        | ((with_reducible (show wpList _ _ _ (Oper.mk (some 98) (Op.load _ _) _ _ _ _ :: _) _ _)); refine wpList_loadA_st (o := ⟨some 98, .load _ _, _, _, _, _⟩) rfl _ _ rfl rfl HS tk ag_impl_Memory lit rfl ?_)
        | ((with_reducible (show wpList _ _ _ (Oper.mk (some 104) (Op.load _ _) _ _ _ _ :: _) _ _)); refine wpList_loadA_st (o := ⟨some 104, .load _ _, _, _, _, _⟩) rfl _ _ rfl rfl HS tk ag_impl_Ring lit rfl ?_)
        | ((with_reducible (show wpList _ _ _ (Oper.mk (some 105) (Op.load _ _) _ _ _ _ :: _) _ _)); refine wpList_loadA_st (o := ⟨some 105, .load _ _, _, _, _, _⟩) rfl _ _ rfl rfl HS tk ag_impl_Ring lit rfl ?_)
        | ((with_reducible (show wpList _ _ _ (Oper.mk (some 149) (Op.load _ _) _ _ _ _ :: _) _ _)); refine wpList_loadA_st (o := ⟨some 149, .load _ _, _, _, _, _⟩) rfl _ _ rfl rfl HS tk ag_impl_Ring lit rfl ?_)
        | ((with_reducible (show wpList _ _ _ (Oper.mk (some 150) (Op.load _ _) _ _ _ _ :: _) _ _)); refine wpList_loadA_st (o := ⟨some 150, .load _ _, _, _, _, _⟩) rfl _ _ rfl rfl HS tk ag_impl_Ring lit rfl ?_))
  refine wp_region_fl HS (take_all _) (.early 0 (.early 1 (.forced 2 1 (.forced 3 2 (.pure 4 .done))))) [] (by kernel_rfl) (by as_aux_lemma => kernel_rfl) ?_
  intro hne
  clear HS
  try go_simp
  repeat' (first
    | (with_reducible refine wpF_forced ?_)
    | ((with_reducible ((show wpF _ _ _ _ _ (.early 0 _) _ _))); (first | (refine wpF_skipE rfl rfl ?_; (try go_simp)) | (refine wpF_early rfl rfl ?_; intro K hK; (first | ((refine quiet_loadA_st  _ _ rfl rfl tk ag_impl_Memory lit rfl ?_); (try go_simp)) | go_big_quiet_op); (first | go_big_quiet_on | (refine ⟨_, fun _ => rfl, ?_⟩; go_big_quiet_on)))))
    | ((with_reducible ((show wpF _ _ _ _ _ (.early 1 _) _ _))); (first | (refine wpF_skipE rfl rfl ?_; (try go_simp)) | (refine wpF_early rfl rfl ?_; intro K hK; (first | ((refine quiet_loadA_st  _ _ rfl rfl tk ag_laws_Memory lit rfl ?_); (try go_simp)) | go_big_quiet_op); (first | go_big_quiet_on | (refine ⟨_, fun _ => rfl, ?_⟩; go_big_quiet_on)))))
    | ((with_reducible ((show OneF _ _ _ _ _ 2 1 _ _ _))); (first | (refine oneF_skip rfl rfl ?_; (try go_simp)) | (refine oneF_1 rfl rfl ?_; intro wq Fq HS K hK; go_simp; (first | (go_at_call 10; (with_reducible refine (toMemory_any _ aMD _ (k2.ex HS.ex) (by omega)).mono ?_); rintro e w' ⟨A92, c92, rfl, ho, hx⟩; replace HS := HS.own ho hx; clear ho hx)); (try go_simp); refine hK _ _ _ ?_ (HS.take tk) ?_; (focus (exact stw HS)); clear HS hK K)))
    | ((with_reducible ((show OneF _ _ _ _ _ 3 2 _ _ _))); (first | (refine oneF_skip rfl rfl ?_; (try go_simp)) | (refine oneF_2 rfl rfl ?_; intro wq Fq HS K hK; go_simp; (first | (go_at_call 16; (with_reducible refine (eqMemory_same _ _ _ _ (HS.holds tk) (HS.holds tk)).mono ?_); rintro e w' ⟨rfl, hx⟩; replace HS := HS.grow hx; clear hx)); (try go_simp); refine hK _ _ _ (HS.take tk) ?_; clear HS hK K)))
    | ((with_reducible ((show wpF _ _ _ _ _ (.pure _ _) _ _))); (first | (refine wpF_skipP rfl rfl ?_; (try go_simp)) | (refine wpF_pure rfl rfl ?_; intro K hK; go_big_quiet_op; (first | go_big_quiet_on | (refine ⟨_, fun _ => rfl, ?_⟩; go_big_quiet_on)))))
    | (with_reducible refine wpF_done ?_))
  all_goals intro w9 HS
  go_wp2_with (first
        | (go_at_call 16; (with_reducible refine (eqMemory_same _ _ _ _ (HS.holds tk) (HS.holds tk)).mono ?_); rintro e w' ⟨rfl, hx⟩; replace HS := HS.grow hx; clear hx)
        | (go_at_call 14; (with_reducible refine (eqStringS_same _ _ fs _ (HS.holds tk) (HS.holds tk)).mono ?_); rintro e w' ⟨rfl, hx⟩; replace HS := HS.grow hx; clear hx)
        | (go_at_call 13; (with_reducible refine (eqRing_w aR_Base aR_Size h9 aR_Tail _).mono ?_); rintro e w' ⟨rfl, hx⟩; replace HS := HS.grow hx; clear hx)
        | (go_at_call 17; (with_reducible refine (markMappingS_i 1 (HS.take tk) (by omega) (by omega)).mono ?_); rintro e w' ⟨rfl, HS9⟩; clear HS; have HS := HS9; clear HS9)
        | (go_at_call 18; (with_reducible refine (markMemory_i (ps := aMD) (1 + 4 * aListD.length) (HS.take tk) (by omega) (by omega) (by omega)).mono ?_); rintro e w' ⟨rfl, HS9⟩; clear HS; have HS := HS9; clear HS9)
        | ((with_reducible (show wpList _ _ _ (Oper.mk (some 5) (Op.box _ _) _ _ _ _ :: _) _ _)); refine wpList_box_st (o := ⟨some 5, .box _ _, _, _, _, _⟩) rfl _ _ rfl (v := .agg (List.toArray _)) rfl HS ?_; clear HS; intro w5 b5 hb5 HS; simp only [Value.cells] at HS)
        | ((with_reducible (show wpList _ _ _ (Oper.mk (some 5) (Op.box _ _) _ _ _ _ :: _) _ _)); refine wpList_box_st (o := ⟨some 5, .box _ _, _, _, _, _⟩) rfl _ _ rfl (v := .agg _) rfl HS ?_; clear HS; intro w5 b5 hb5 HS; simp only [Value.cells] at HS)
        | ((with_reducible (show wpList _ _ _ (Oper.mk (some 7) (Op.box _ _) _ _ _ _ :: _) _ _)); refine wpList_box_st (o := ⟨some 7, .box _ _, _, _, _, _⟩) rfl _ _ rfl (v := .agg (List.toArray _)) rfl HS ?_; clear HS; intro w7 b7 hb7 HS; simp only [Value.cells] at HS)
        | ((with_reducible (show wpList _ _ _ (Oper.mk (some 7) (Op.box _ _) _ _ _ _ :: _) _ _)); refine wpList_box_st (o := ⟨some 7, .box _ _, _, _, _, _⟩) rfl _ _ rfl (v := .agg _) rfl HS ?_; clear HS; intro w7 b7 hb7 HS; simp only [Value.cells] at HS)
        | ((with_reducible (show wpList _ _ _ (Oper.mk (some 32) (Op.load _ _) _ _ _ _ :: _) _ _)); refine wpList_loadA_st (o := ⟨some 32, .load _ _, _, _, _, _⟩) rfl _ _ rfl rfl HS tk ag_laws_Memory lit rfl ?_)
        | ((with_reducible (show wpList _ _ _ (Oper.mk (some 52) (Op.load _ _) _ _ _ _ :: _) _ _)); refine wpList_loadA_st (o := ⟨some 52, .load _ _, _, _, _, _⟩) rfl _ _ rfl rfl HS tk ag_laws_Memory lit rfl ?_)
        | ((with_reducible (show wpList _ _ _ (Oper.mk (some 15) (Op.alloc _) _ _ _ _ :: _) _ _)); refine wpList_alloc_st (o := ⟨some 15, .alloc _, _, _, _, _⟩) rfl _ rfl zc_impl_Memory HS ?_; clear HS; intro w15 b15 hb15 HS)
        | ((with_reducible (show wpList _ _ _ (Oper.mk none (Op.store _ (.tmp 15) _) _ _ _ _ :: _) _ _)); refine wpList_store_st (o := ⟨none, .store _ (.tmp 15) _, _, _, _, _⟩) rfl _ _ _ rfl rfl (v := .agg (List.toArray _)) rfl HS tk sz_impl_Memory vcs rfx rfx (by simp) ?_ rfl; clear HS; intro w10_3 hz10_3 HS; simp only [nicL, Value.cells, List.append_nil] at HS)
        | ((with_reducible (show wpList _ _ _ (Oper.mk none (Op.store _ (.tmp 15) _) _ _ _ _ :: _) _ _)); refine wpList_store_st (o := ⟨none, .store _ (.tmp 15) _, _, _, _, _⟩) rfl _ _ _ rfl rfl (v := .agg _) rfl HS tk sz_impl_Memory vcs rfx rfx (by simp) ?_ rfl; clear HS; intro w10_3 hz10_3 HS; simp only [nicL, Value.cells, List.append_nil] at HS)
        | ((with_reducible (show wpList _ _ _ (Oper.mk (some 65) (Op.load _ _) _ _ _ _ :: _) _ _)); refine wpList_loadA_st (o := ⟨some 65, .load _ _, _, _, _, _⟩) rfl _ _ rfl rfl HS tk ag_impl_Ring lit rfl ?_)
        | ((with_reducible (show wpList _ _ _ (Oper.mk (some 66) (Op.load _ _) _ _ _ _ :: _) _ _)); refine wpList_loadA_st (o := ⟨some 66, .load _ _, _, _, _, _⟩) rfl _ _ rfl rfl HS tk ag_impl_Ring lit rfl ?_)
        | ((with_reducible (show wpList _ _ _ (Oper.mk (some 98) (Op.load _ _) _ _ _ _ :: _) _ _)); refine wpList_loadA_st (o := ⟨some 98, .load _ _, _, _, _, _⟩) rfl _ _ rfl rfl HS tk ag_impl_Memory lit rfl ?_)
        | ((with_reducible (show wpList _ _ _ (Oper.mk (some 104) (Op.load _ _) _ _ _ _ :: _) _ _)); refine wpList_loadA_st (o := ⟨some 104, .load _ _, _, _, _, _⟩) rfl _ _ rfl rfl HS tk ag_impl_Ring lit rfl ?_)
        | ((with_reducible (show wpList _ _ _ (Oper.mk (some 105) (Op.load _ _) _ _ _ _ :: _) _ _)); refine wpList_loadA_st (o := ⟨some 105, .load _ _, _, _, _, _⟩) rfl _ _ rfl rfl HS tk ag_impl_Ring lit rfl ?_)
        | ((with_reducible (show wpList _ _ _ (Oper.mk (some 149) (Op.load _ _) _ _ _ _ :: _) _ _)); refine wpList_loadA_st (o := ⟨some 149, .load _ _, _, _, _, _⟩) rfl _ _ rfl rfl HS tk ag_impl_Ring lit rfl ?_)
        | ((with_reducible (show wpList _ _ _ (Oper.mk (some 150) (Op.load _ _) _ _ _ _ :: _) _ _)); refine wpList_loadA_st (o := ⟨some 150, .load _ _, _, _, _, _⟩) rfl _ _ rfl rfl HS tk ag_impl_Ring lit rfl ?_))
  go_wp2_with (first
        | (go_at_call 14; (with_reducible refine (eqStringS_same _ _ fs _ (HS.holds tk) (HS.holds tk)).mono ?_); rintro e w' ⟨rfl, hx⟩; replace HS := HS.grow hx; clear hx)
        | (go_at_call 13; (with_reducible refine (eqRing_w aR_Base aR_Size h9 aR_Tail _).mono ?_); rintro e w' ⟨rfl, hx⟩; replace HS := HS.grow hx; clear hx)
        | (go_at_call 19; (with_reducible refine (markStringS_i (ps := fs) 1 (HS.take tk) (by omega) (by omega) (by omega)).mono ?_); rintro e w' ⟨rfl, HS9⟩; clear HS; have HS := HS9; clear HS9)
        | (go_at_call 20; (with_reducible refine (heldStringS_i fs.length 1 (HS.holds tk) (by omega) (by omega) (by omega)).mono ?_); rintro e w' ⟨rfl, hx⟩; replace HS := HS.grow hx; clear hx)
        | ((with_reducible (show wpList _ _ _ (Oper.mk (some 5) (Op.box _ _) _ _ _ _ :: _) _ _)); refine wpList_box_st (o := ⟨some 5, .box _ _, _, _, _, _⟩) rfl _ _ rfl (v := .agg (List.toArray _)) rfl HS ?_; clear HS; intro w5 b5 hb5 HS; simp only [Value.cells] at HS)
        | ((with_reducible (show wpList _ _ _ (Oper.mk (some 5) (Op.box _ _) _ _ _ _ :: _) _ _)); refine wpList_box_st (o := ⟨some 5, .box _ _, _, _, _, _⟩) rfl _ _ rfl (v := .agg _) rfl HS ?_; clear HS; intro w5 b5 hb5 HS; simp only [Value.cells] at HS)
        | ((with_reducible (show wpList _ _ _ (Oper.mk (some 7) (Op.box _ _) _ _ _ _ :: _) _ _)); refine wpList_box_st (o := ⟨some 7, .box _ _, _, _, _, _⟩) rfl _ _ rfl (v := .agg (List.toArray _)) rfl HS ?_; clear HS; intro w7 b7 hb7 HS; simp only [Value.cells] at HS)
        | ((with_reducible (show wpList _ _ _ (Oper.mk (some 7) (Op.box _ _) _ _ _ _ :: _) _ _)); refine wpList_box_st (o := ⟨some 7, .box _ _, _, _, _, _⟩) rfl _ _ rfl (v := .agg _) rfl HS ?_; clear HS; intro w7 b7 hb7 HS; simp only [Value.cells] at HS)
        | ((with_reducible (show wpList _ _ _ (Oper.mk (some 32) (Op.load _ _) _ _ _ _ :: _) _ _)); refine wpList_loadA_st (o := ⟨some 32, .load _ _, _, _, _, _⟩) rfl _ _ rfl rfl HS tk ag_laws_Memory lit rfl ?_)
        | ((with_reducible (show wpList _ _ _ (Oper.mk (some 52) (Op.load _ _) _ _ _ _ :: _) _ _)); refine wpList_loadA_st (o := ⟨some 52, .load _ _, _, _, _, _⟩) rfl _ _ rfl rfl HS tk ag_laws_Memory lit rfl ?_)
        | ((with_reducible (show wpList _ _ _ (Oper.mk (some 15) (Op.alloc _) _ _ _ _ :: _) _ _)); refine wpList_alloc_st (o := ⟨some 15, .alloc _, _, _, _, _⟩) rfl _ rfl zc_impl_Memory HS ?_; clear HS; intro w15 b15 hb15 HS)
        | ((with_reducible (show wpList _ _ _ (Oper.mk none (Op.store _ (.tmp 15) _) _ _ _ _ :: _) _ _)); refine wpList_store_st (o := ⟨none, .store _ (.tmp 15) _, _, _, _, _⟩) rfl _ _ _ rfl rfl (v := .agg (List.toArray _)) rfl HS tk sz_impl_Memory vcs rfx rfx (by simp) ?_ rfl; clear HS; intro w10_3 hz10_3 HS; simp only [nicL, Value.cells, List.append_nil] at HS)
        | ((with_reducible (show wpList _ _ _ (Oper.mk none (Op.store _ (.tmp 15) _) _ _ _ _ :: _) _ _)); refine wpList_store_st (o := ⟨none, .store _ (.tmp 15) _, _, _, _, _⟩) rfl _ _ _ rfl rfl (v := .agg _) rfl HS tk sz_impl_Memory vcs rfx rfx (by simp) ?_ rfl; clear HS; intro w10_3 hz10_3 HS; simp only [nicL, Value.cells, List.append_nil] at HS)
        | ((with_reducible (show wpList _ _ _ (Oper.mk (some 65) (Op.load _ _) _ _ _ _ :: _) _ _)); refine wpList_loadA_st (o := ⟨some 65, .load _ _, _, _, _, _⟩) rfl _ _ rfl rfl HS tk ag_impl_Ring lit rfl ?_)
        | ((with_reducible (show wpList _ _ _ (Oper.mk (some 66) (Op.load _ _) _ _ _ _ :: _) _ _)); refine wpList_loadA_st (o := ⟨some 66, .load _ _, _, _, _, _⟩) rfl _ _ rfl rfl HS tk ag_impl_Ring lit rfl ?_)
        | ((with_reducible (show wpList _ _ _ (Oper.mk (some 98) (Op.load _ _) _ _ _ _ :: _) _ _)); refine wpList_loadA_st (o := ⟨some 98, .load _ _, _, _, _, _⟩) rfl _ _ rfl rfl HS tk ag_impl_Memory lit rfl ?_)
        | ((with_reducible (show wpList _ _ _ (Oper.mk (some 104) (Op.load _ _) _ _ _ _ :: _) _ _)); refine wpList_loadA_st (o := ⟨some 104, .load _ _, _, _, _, _⟩) rfl _ _ rfl rfl HS tk ag_impl_Ring lit rfl ?_)
        | ((with_reducible (show wpList _ _ _ (Oper.mk (some 105) (Op.load _ _) _ _ _ _ :: _) _ _)); refine wpList_loadA_st (o := ⟨some 105, .load _ _, _, _, _, _⟩) rfl _ _ rfl rfl HS tk ag_impl_Ring lit rfl ?_)
        | ((with_reducible (show wpList _ _ _ (Oper.mk (some 149) (Op.load _ _) _ _ _ _ :: _) _ _)); refine wpList_loadA_st (o := ⟨some 149, .load _ _, _, _, _, _⟩) rfl _ _ rfl rfl HS tk ag_impl_Ring lit rfl ?_)
        | ((with_reducible (show wpList _ _ _ (Oper.mk (some 150) (Op.load _ _) _ _ _ _ :: _) _ _)); refine wpList_loadA_st (o := ⟨some 150, .load _ _, _, _, _, _⟩) rfl _ _ rfl rfl HS tk ag_impl_Ring lit rfl ?_))
  refine wp_region_fl HS (show Arr _ [rowA b5 _ _, rowA b7 _ _] from ary) (.early 0 (.early 2 (.early 4 (.early 5 (.forced 1 1 (.forced 3 1 (.forced 6 1 (.forced 7 1 (.pure 8 (.pure 9 (.pure 10 (.pure 11 (.pure 12 (.land 13 (.forced 14 2 (.pure 15 (.pure 16 (.pure 17 .done)))))))))))))))))) [13] (by kernel_rfl) (by as_aux_lemma => kernel_rfl) ?_
  intro hne
  clear HS
  try go_simp
  repeat' (first
    | (with_reducible refine wpF_forced ?_)
    | ((with_reducible (first | (show wpF _ _ _ _ _ (.early 0 _) _ _) | (show wpF _ _ _ _ _ (.early 4 _) _ _))); (first | (refine wpF_skipE rfl rfl ?_; (try go_simp)) | (refine wpF_early rfl rfl ?_; intro K hK; (first | go_big_quiet_op); (first | go_big_quiet_on | (refine ⟨_, fun _ => rfl, ?_⟩; go_big_quiet_on)))))
    | ((with_reducible ((show wpF _ _ _ _ _ (.early 2 _) _ _))); (first | (refine wpF_skipE rfl rfl ?_; (try go_simp)) | (refine wpF_early rfl rfl ?_; intro K hK; (first | ((refine quiet_loadA_st  _ _ rfl rfl tk ag_laws_Memory lit rfl ?_); (try go_simp)) | go_big_quiet_op); (first | go_big_quiet_on | (refine ⟨_, fun _ => rfl, ?_⟩; go_big_quiet_on)))))
    | ((with_reducible ((show wpF _ _ _ _ _ (.early 5 _) _ _))); (first | (refine wpF_skipE rfl rfl ?_; (try go_simp)) | (refine wpF_early rfl rfl ?_; intro K hK; (first | ((refine quiet_loadA_st  _ _ rfl rfl tk ag_laws_Ring lit rfl ?_); (try go_simp)) | go_big_quiet_op); (first | go_big_quiet_on | (refine ⟨_, fun _ => rfl, ?_⟩; go_big_quiet_on)))))
    | ((with_reducible ((show OneF _ _ _ _ _ 1 1 _ _ _))); (first | (refine oneF_skip rfl rfl ?_; (try go_simp)) | (refine oneF_1 rfl rfl ?_; intro wq Fq HS K hK; go_simp; (first | (go_at_call 9; (with_reducible refine (toMappingS_any _ aListD _ (k1.ex HS.ex) (by omega)).mono ?_); rintro e w' ⟨A138, c138, rfl, ho, hx⟩; replace HS := HS.own ho hx; clear ho hx)); (try go_simp); refine hK _ _ _ ?_ (HS.take tk) ?_; (focus (exact stw HS)); clear HS hK K)))
    | ((with_reducible ((show OneF _ _ _ _ _ 3 1 _ _ _))); (first | (refine oneF_skip rfl rfl ?_; (try go_simp)) | (refine oneF_1 rfl rfl ?_; intro wq Fq HS K hK; go_simp; (first | (go_at_call 10; (with_reducible refine (toMemory_any _ aMD _ (k2.ex HS.ex) (by omega)).mono ?_); rintro e w' ⟨A140, c140, rfl, ho, hx⟩; replace HS := HS.own ho hx; clear ho hx)); (try go_simp); refine hK _ _ _ ?_ (HS.take tk) ?_; (focus (exact stw HS)); clear HS hK K)))
    | ((with_reducible ((show OneF _ _ _ _ _ 6 1 _ _ _))); (first | (refine oneF_skip rfl rfl ?_; (try go_simp)) | (refine oneF_1 rfl rfl ?_; intro wq Fq HS K hK; go_simp; (first | (go_at_call 11; (with_reducible refine (toRing_w aR_Base aR_Size aR_Head aR_Tail _).mono ?_); rintro e w' ⟨rfl, hx⟩; replace HS := HS.grow hx; clear hx)); (try go_simp); refine hK _ _ _ ?_ (HS.take tk) ?_; (focus (exact stw HS)); clear HS hK K)))
    | ((with_reducible ((show OneF _ _ _ _ _ 7 1 _ _ _))); (first | (refine oneF_skip rfl rfl ?_; (try go_simp)) | (refine oneF_1 rfl rfl ?_; intro wq Fq HS K hK; go_simp; (first | (go_at_call 22; (with_reducible refine (HI.out _ _ _ (HS.holds tk) (HS.holds tk)).mono ?_); rintro e w' ⟨A144, c144, rfl, ho, hx⟩; replace HS := HS.own ho hx; clear ho hx)); (try go_simp); refine hK _ _ _ ?_ (HS.take tk) ?_; (focus (exact stw HS)); clear HS hK K)))
    | ((with_reducible ((show wpF _ _ _ _ _ (.pure _ _) _ _))); (first | (refine wpF_skipP rfl rfl ?_; (try go_simp)) | (refine wpF_pure rfl rfl ?_; intro K hK; go_big_quiet_op; (first | go_big_quiet_on | (refine ⟨_, fun _ => rfl, ?_⟩; go_big_quiet_on)))))
    | ((with_reducible ((show wpF _ _ _ _ _ (.land 13 _) _ _))); (refine wpF_land rfl rfl zc_impl_Ring ?_; intro b23; (try go_simp)))
    | ((with_reducible ((show OneF _ _ _ _ _ 14 2 _ _ _))); (first | (refine oneF_skip rfl rfl ?_; (try go_simp)) | (refine oneF_2 rfl rfl ?_; intro wq Fq HS K hK; (first | (refine wp_store_st  _ _ _ rfl rfl (v := .agg (List.toArray _)) rfl HS tk sz_impl_Ring vcs rfx rfx (by simp) ?_ rfl; clear HS; intro w31_14 hz31_14 HS; simp only [nicL, Value.cells, List.append_nil] at HS) | (refine wp_store_st  _ _ _ rfl rfl (v := .agg _) rfl HS tk sz_impl_Ring vcs rfx rfx (by simp) ?_ rfl; clear HS; intro w31_14 hz31_14 HS; simp only [nicL, Value.cells, List.append_nil] at HS)); (try go_simp); refine hK _ _ _ (HS.take tk) ?_; clear HS hK K)))
    | (with_reducible refine wpF_done ?_))
  all_goals intro w9 HS
  go_wp2_with (first
        | (go_at_call 14; (with_reducible refine (eqStringS_same _ _ fs _ (HS.holds tk) (HS.holds tk)).mono ?_); rintro e w' ⟨rfl, hx⟩; replace HS := HS.grow hx; clear hx)
        | (go_at_call 13; (with_reducible refine (eqRing_w aR_Base aR_Size h9 aR_Tail _).mono ?_); rintro e w' ⟨rfl, hx⟩; replace HS := HS.grow hx; clear hx)
        | (go_at_call 20; (with_reducible refine (heldStringS_i fs.length 1 (HS.holds tk) (by omega) (by omega) (by omega)).mono ?_); rintro e w' ⟨rfl, hx⟩; replace HS := HS.grow hx; clear hx)
        | ((with_reducible (show wpList _ _ _ (Oper.mk (some 5) (Op.box _ _) _ _ _ _ :: _) _ _)); refine wpList_box_st (o := ⟨some 5, .box _ _, _, _, _, _⟩) rfl _ _ rfl (v := .agg (List.toArray _)) rfl HS ?_; clear HS; intro w5 b5 hb5 HS; simp only [Value.cells] at HS)
        | ((with_reducible (show wpList _ _ _ (Oper.mk (some 5) (Op.box _ _) _ _ _ _ :: _) _ _)); refine wpList_box_st (o := ⟨some 5, .box _ _, _, _, _, _⟩) rfl _ _ rfl (v := .agg _) rfl HS ?_; clear HS; intro w5 b5 hb5 HS; simp only [Value.cells] at HS)
        | ((with_reducible (show wpList _ _ _ (Oper.mk (some 7) (Op.box _ _) _ _ _ _ :: _) _ _)); refine wpList_box_st (o := ⟨some 7, .box _ _, _, _, _, _⟩) rfl _ _ rfl (v := .agg (List.toArray _)) rfl HS ?_; clear HS; intro w7 b7 hb7 HS; simp only [Value.cells] at HS)
        | ((with_reducible (show wpList _ _ _ (Oper.mk (some 7) (Op.box _ _) _ _ _ _ :: _) _ _)); refine wpList_box_st (o := ⟨some 7, .box _ _, _, _, _, _⟩) rfl _ _ rfl (v := .agg _) rfl HS ?_; clear HS; intro w7 b7 hb7 HS; simp only [Value.cells] at HS)
        | ((with_reducible (show wpList _ _ _ (Oper.mk (some 32) (Op.load _ _) _ _ _ _ :: _) _ _)); refine wpList_loadA_st (o := ⟨some 32, .load _ _, _, _, _, _⟩) rfl _ _ rfl rfl HS tk ag_laws_Memory lit rfl ?_)
        | ((with_reducible (show wpList _ _ _ (Oper.mk (some 52) (Op.load _ _) _ _ _ _ :: _) _ _)); refine wpList_loadA_st (o := ⟨some 52, .load _ _, _, _, _, _⟩) rfl _ _ rfl rfl HS tk ag_laws_Memory lit rfl ?_)
        | ((with_reducible (show wpList _ _ _ (Oper.mk (some 15) (Op.alloc _) _ _ _ _ :: _) _ _)); refine wpList_alloc_st (o := ⟨some 15, .alloc _, _, _, _, _⟩) rfl _ rfl zc_impl_Memory HS ?_; clear HS; intro w15 b15 hb15 HS)
        | ((with_reducible (show wpList _ _ _ (Oper.mk none (Op.store _ (.tmp 15) _) _ _ _ _ :: _) _ _)); refine wpList_store_st (o := ⟨none, .store _ (.tmp 15) _, _, _, _, _⟩) rfl _ _ _ rfl rfl (v := .agg (List.toArray _)) rfl HS tk sz_impl_Memory vcs rfx rfx (by simp) ?_ rfl; clear HS; intro w10_3 hz10_3 HS; simp only [nicL, Value.cells, List.append_nil] at HS)
        | ((with_reducible (show wpList _ _ _ (Oper.mk none (Op.store _ (.tmp 15) _) _ _ _ _ :: _) _ _)); refine wpList_store_st (o := ⟨none, .store _ (.tmp 15) _, _, _, _, _⟩) rfl _ _ _ rfl rfl (v := .agg _) rfl HS tk sz_impl_Memory vcs rfx rfx (by simp) ?_ rfl; clear HS; intro w10_3 hz10_3 HS; simp only [nicL, Value.cells, List.append_nil] at HS)
        | ((with_reducible (show wpList _ _ _ (Oper.mk (some 65) (Op.load _ _) _ _ _ _ :: _) _ _)); refine wpList_loadA_st (o := ⟨some 65, .load _ _, _, _, _, _⟩) rfl _ _ rfl rfl HS tk ag_impl_Ring lit rfl ?_)
        | ((with_reducible (show wpList _ _ _ (Oper.mk (some 66) (Op.load _ _) _ _ _ _ :: _) _ _)); refine wpList_loadA_st (o := ⟨some 66, .load _ _, _, _, _, _⟩) rfl _ _ rfl rfl HS tk ag_impl_Ring lit rfl ?_)
        | ((with_reducible (show wpList _ _ _ (Oper.mk (some 98) (Op.load _ _) _ _ _ _ :: _) _ _)); refine wpList_loadA_st (o := ⟨some 98, .load _ _, _, _, _, _⟩) rfl _ _ rfl rfl HS tk ag_impl_Memory lit rfl ?_)
        | ((with_reducible (show wpList _ _ _ (Oper.mk (some 104) (Op.load _ _) _ _ _ _ :: _) _ _)); refine wpList_loadA_st (o := ⟨some 104, .load _ _, _, _, _, _⟩) rfl _ _ rfl rfl HS tk ag_impl_Ring lit rfl ?_)
        | ((with_reducible (show wpList _ _ _ (Oper.mk (some 105) (Op.load _ _) _ _ _ _ :: _) _ _)); refine wpList_loadA_st (o := ⟨some 105, .load _ _, _, _, _, _⟩) rfl _ _ rfl rfl HS tk ag_impl_Ring lit rfl ?_)
        | ((with_reducible (show wpList _ _ _ (Oper.mk (some 149) (Op.load _ _) _ _ _ _ :: _) _ _)); refine wpList_loadA_st (o := ⟨some 149, .load _ _, _, _, _, _⟩) rfl _ _ rfl rfl HS tk ag_impl_Ring lit rfl ?_)
        | ((with_reducible (show wpList _ _ _ (Oper.mk (some 150) (Op.load _ _) _ _ _ _ :: _) _ _)); refine wpList_loadA_st (o := ⟨some 150, .load _ _, _, _, _, _⟩) rfl _ _ rfl rfl HS tk ag_impl_Ring lit rfl ?_))
  go_ret
  exact ⟨rfl, HS.ex⟩
end Go.Proofs.YtgbjkojgjhcabaaGreat
end

/- Part 6 of what the proof of FnSentInOrder rests on: an idealised machine, contracts of functions, and the walk of the law. No condition. -/
import Derived.Test.YtbdcaacpemkloaaGreatMFnSentInOrdere
section
namespace Go.Vc
open Go Go.RowKit
set_option linter.unusedVariables false
set_option linter.unusedSectionVars false
theorem tri_lenO {P : Program} [TyEnv P] {o : Oper} {rd : Nat → AV} {T e : TypeId} {i : TyI} {j : Nat} {x : Operand} {E E' : TypeId} {xs : List Snt} (ho : o.op = .call { callee := .builtin .len, args := #[x], argTypes := #[T] }) (hi : TyEnv.ti P T = some i) (hk : i.k = .slice e) (hx : evo rd x = .one (.hs j)) : Tri P o rd [(j, .own (sntOw E E' xs))] (.one (.v (.int .i64 xs.length))) [] := by
  intro w0 w ρ n t H a Q hr ht hrs hfr hd
  obtain ⟨A, Js, hA, h2, _⟩ := hr.focus (hrs j _ (List.mem_cons_self ..))
  have hA' : A = (sntOw E E' xs).A (ρ j) := hA
  subst hA'
  have hx' := hr.ev x
  rw [evo_of (by simp [ho, Op.operands, Call.operands]) ht, hx] at hx'
  obtain ⟨hD, hx', _⟩ := hx'
  obtain ⟨F, hF⟩ := h2.head
  obtain ⟨es, ⟨B, c, g1, _⟩, g2⟩ : (snQ xs).P w (ρ j) := (sntOw E E' xs).rd hF
  have hu := ty_slice hi hk
  have hrun := run_len_slice (P := P) w T o.type B es.length c (by rw [elem_of hu]; exact hu)
  unfold Oper.wp
  rw [show (execOp a.eval o).run P w = .ok (.value (.int .i64 xs.length)) w by rw [g2.len]; simp [execOp, ho, resolve, invoke, builtin, hx', g1, hrun, goInt]]
  exact ⟨ρ, hr.put (v := .one (.v (.int .i64 xs.length))) (ar_v rfl) hd⟩
section
variable {P : Program} [TyEnv P] {o : Oper} {rd : Nat → AV} {T e : TypeId} {i ei : TyI} {x y : Operand} {xs : List Snt} {n : Int}
theorem tri_cutQlo (ho : o.op = .slice T x (some y) none none) (hi : TyEnv.ti P T = some i) (hk : i.k = .slice e) (he : TyEnv.ti P e = some ei) (hsz : ei.size = 3) (hx : evo rd x = .one (.rd (snQ xs))) (hy : evo rd y = .one (.v (.int .i64 n))) (h0 : 0 ≤ n ∧ n ≤ xs.length) : Tri P o rd [] (.one (.rd (snQ (xs.drop n.toNat)))) [] := by
  refine tri_pure fun w0 w D ρ ac hh hex => ?_
  have h1 := hh x (by simp [ho, Op.operands])
  have h2 := hh y (by simp [ho, Op.operands])
  rw [hx] at h1; rw [hy] at h2
  obtain ⟨es, ⟨A, cap, e1, q1, q2, q3⟩, hF⟩ := h1
  have hl := hF.len
  have hy' : ac.eval y = .int .i64 (n.toNat : Int) := by rw [show (n.toNat : Int) = n by omega]; exact h2.1
  obtain ⟨z, hz, _⟩ := ty_info he
  rw [← hsz] at q3
  refine ⟨_, pure_cutLo T x y ho e (ty_slice hi hk) hz e1 hy' (by omega) w, ⟨es.drop n.toNat, ⟨cutA A n.toNat cap ei.size, cap - n.toNat, ?_, ?_, by omega, by have := cel_cut (l := n.toNat) q3 q1; rwa [hsz] at this ⊢⟩, hF.drop _⟩⟩
  · rw [List.length_drop]
  · rw [List.length_drop]; omega
theorem tri_cutQhi (ho : o.op = .slice T x none (some y) none) (hi : TyEnv.ti P T = some i) (hk : i.k = .slice e) (he : TyEnv.ti P e = some ei) (hsz : ei.size = 3) (hx : evo rd x = .one (.rd (snQ xs))) (hy : evo rd y = .one (.v (.int .i64 n))) (h0 : 0 ≤ n ∧ n ≤ xs.length) : Tri P o rd [] (.one (.rd (snQ (xs.take n.toNat)))) [] := by
  refine tri_pure fun w0 w D ρ ac hh hex => ?_
  have h1 := hh x (by simp [ho, Op.operands])
  have h2 := hh y (by simp [ho, Op.operands])
  rw [hx] at h1; rw [hy] at h2
  obtain ⟨es, ⟨A, cap, e1, q1, q2, q3⟩, hF⟩ := h1
  have hl := hF.len
  have hy' : ac.eval y = .int .i64 (n.toNat : Int) := by rw [show (n.toNat : Int) = n by omega]; exact h2.1
  obtain ⟨z, hz, _⟩ := ty_info he
  rw [← hsz] at q3
  have q4 : Cel w0 (cutA A 0 cap ei.size) 3 (es.take n.toNat) := by
    have := cel_cut (l := 0) q3 q1
    rw [List.drop_zero] at this
    have := cel_take (m := n.toNat) this
    rwa [hsz] at this ⊢
  refine ⟨_, pure_cutHi T x y ho e (ty_slice hi hk) hz e1 hy' (by omega) w, ⟨es.take n.toNat, ⟨cutA A 0 cap ei.size, cap - 0, ?_, ?_, by omega, q4⟩, hF.take _⟩⟩
  · rw [List.length_take, Nat.min_eq_left (by omega)]; rfl
  · rw [List.length_take]; omega
end
section
variable {P : Program} [TyEnv P] {n : Nat} {ops os : List Oper} {K : Tm → Hp → Prop} {t t' : Tm} {H H' : Hp} {o : Oper} {k1 k2 : List Nat} {dr : Bool} {fp : List Fp} {T e : TypeId} {i ei : TyI} {x y : Operand} {ws : List Sn} {m : Int}
theorem vqcl (h : Vd P n ops dr K os t' H' ((k1, k2) :: fp)) (hd : dstB o.dst n = true := by rfl) (hg : o.guard = none := by rfl) (ho : o.op = .slice T x (some y) none none := by rfl) (hi : TyEnv.ti P T = some i := by rfl) (hk : i.k = .slice e := by rfl) (he : TyEnv.ti P e = some ei := by rfl) (hz : ei.size = 3 := by rfl) (hx : evo (gt t) x = .one (.rd (snQ (ws.map snE))) := by rfl) (hy : evo (gt t) y = .one (.v (.int .i64 m)) := by rfl)
    (ht : stF o.dst (.one (.rd (snQ ((ws.drop m.toNat).map snE)))) [] [] t H = some (t', H', k1, k2) := by rfl) (hs : 0 ≤ m ∧ m ≤ ws.length := by omega) : Vd P n ops dr K (o :: os) t H fp := vd_plain hd hg (good0 (by have := tri_cutQlo ho hi hk he hz hx hy (by rw [List.length_map]; exact hs); rwa [← List.map_drop] at this)) ht h
theorem vqch (h : Vd P n ops dr K os t' H' ((k1, k2) :: fp)) (hd : dstB o.dst n = true := by rfl) (hg : o.guard = none := by rfl) (ho : o.op = .slice T x none (some y) none := by rfl) (hi : TyEnv.ti P T = some i := by rfl) (hk : i.k = .slice e := by rfl) (he : TyEnv.ti P e = some ei := by rfl) (hz : ei.size = 3 := by rfl) (hx : evo (gt t) x = .one (.rd (snQ (ws.map snE))) := by rfl) (hy : evo (gt t) y = .one (.v (.int .i64 m)) := by rfl)
    (ht : stF o.dst (.one (.rd (snQ ((ws.take m.toNat).map snE)))) [] [] t H = some (t', H', k1, k2) := by rfl) (hs : 0 ≤ m ∧ m ≤ ws.length := by omega) : Vd P n ops dr K (o :: os) t H fp := vd_plain hd hg (good0 (by have := tri_cutQhi ho hi hk he hz hx hy (by rw [List.length_map]; exact hs); rwa [← List.map_take] at this)) ht h
end
section
variable {P : Program} [TyEnv P] {n : Nat} {ops os : List Oper} {K : Tm → Hp → Prop} {t t' : Tm} {H H' : Hp} {o : Oper} {k1 k2 : List Nat} {dr : Bool} {fp : List Fp} {T e : TypeId} {i : TyI} {j : Nat} {x : Operand} {E E' : TypeId} {xs : List Snt}
theorem vqlon {g : Nat} {want : Bool} (h : Vd P n ops dr K os t' H' ((k1, k2) :: fp)) (hd : dstB o.dst n = true := by rfl) (hg : o.guard = some (g, want) := by rfl) (hw : gBF ops (gt t) want g = some true := by rfl) (ho : o.op = .call { callee := .builtin .len, args := #[x], argTypes := #[T] } := by rfl) (hi : TyEnv.ti P T = some i := by rfl) (hk : i.k = .slice e := by rfl) (hx : evo (gt t) x = .one (.hs j) := by rfl) (hj : lk H j = some (.own (sntOw E E' xs)) := by rfl)
    (ht : stF o.dst (.one (.v (.int .i64 xs.length))) [] [(j, .own (sntOw E E' xs))] t H = some (t', H', k1, k2) := by rfl) : Vd P n ops dr K (o :: os) t H fp := vd_on hd hg hw (goodr (tri_lenO ho hi hk hx) hj) ht h
end
end Go.Vc
end
section
namespace Go.Proofs.YtbdcaacpemkloaaGreat
open Go Go.RowKit Go.Vc
set_option linter.unusedVariables false
set_option linter.unusedSimpArgs false
set_option linter.unnecessarySimpa false
def cpF (pb pz pc : Int) (fr : List Int) (ws : List Sn) : List Int := ws.foldl (fun f x => giveF pb pz pc f x.2.2) fr
theorem cp_stp {pb pz pc : Int} {fr : List Int} {ws : List Sn} {i : Nat} (h : i < ws.length) : giveF pb pz pc (cpF pb pz pc fr (ws.take i)) (at' ws i).2.2 = cpF pb pz pc fr (ws.take (i + 1)) := by
  rw [List.take_succ_eq_append_getElem h, ← atp_eq h]
  unfold cpF
  rw [List.foldl_append]; rfl
theorem cp_le (pb pz pc : Int) : ∀ (ws : List Sn) (fr : List Int), (cpF pb pz pc fr ws).length ≤ fr.length + (bufsF ws).length
  | [], fr => Nat.le_refl _
  | x :: ws, fr => by
    have h1 := cp_le pb pz pc ws (giveF pb pz pc fr x.2.2)
    have h2 : (giveF pb pz pc fr x.2.2).length ≤ fr.length + x.2.2.length := by
      unfold giveF
      split
      · rw [List.length_append]; exact Nat.le_refl _
      · omega
    have h3 : (bufsF (x :: ws)).length = x.2.2.length + (bufsF ws).length := by
      show (List.flatMap _ (x :: ws)).length = _
      rw [List.flatMap_cons, List.length_append]; rfl
    have h4 : cpF pb pz pc fr (x :: ws) = cpF pb pz pc (giveF pb pz pc fr x.2.2) ws := rfl
    rw [h4]; omega
theorem ck_stp {ws : List Sn} {i : Nat} (h : i < ws.length) : ((ws.take i).map (·.1)).map intE ++ [[.int .i64 (at' ws i).1]] = ((ws.take (i + 1)).map (·.1)).map intE := by
  rw [List.take_succ_eq_append_getElem h, ← atp_eq h, List.map_append, List.map_append]; rfl
theorem smI_len {a b : List Int} (h : ¬ (a.length : Int) = b.length) : decide (a = b) = false := decide_eq_false fun e => h (by rw [e])
theorem smI_at {a b : List Int} {i : Nat} (h : ¬ at' a i = at' b i) : decide (a = b) = false := decide_eq_false fun e => h (by rw [e])
theorem smI_y {a b : List Int} {i : Nat} (hl : (a.length : Int) = b.length) (hi : ¬ i < a.length) (h : ∀ j, j < i → at' a j = at' b j) : decide (a = b) = true := by
  refine decide_eq_true (List.ext_getElem (by omega) fun j h1 h2 => ?_)
  have := h j (by omega)
  rwa [atp_eq h1, atp_eq h2] at this
set_option maxHeartbeats 4000000 in
theorem c_laws_sameInts {a b : List Int} (ha : a.length ≤ 1099511627776 := by first | with_reducible assumption | omega) (hb : b.length ≤ 1099511627776 := by first | with_reducible assumption | omega) : Con0 Tryz.prog 38 [.one (.sl 1 (a.map intE)), .one (.sl 1 (b.map intE))] (B (decide (a = b))) [] := by
  refine con_i Tryz.func38 Tryz.ntmps38 (t := [(0, .one (.sl 1 (a.map intE))), (1, .one (.sl 1 (b.map intE)))]) rfl ?_
  refine vc_sr ?_
  refine vo ?_
  refine vnt ?_
  refine vc_seq' ?_
  refine vc_sr ?_
  iterate 2 refine vo ?_
  try first | refine vlb ?_ | refine vln ?_
  iterate 2 refine vo ?_
  try first | refine vlb ?_ | refine vln ?_
  refine vo ?_
  refine vnt ?_
  refine vc_if (fun g1 => ?_) (fun g1 => ?_)
  · refine vc_sr ?_
    refine vo ?_
    refine vnt ?_
    refine vc_ret ?_
    refine thn_r ?_
    have hh := smI_len g1
    rw [hh]
    refine fin_i [] rfl (fz ?_) (fz ?_) <;> first | trivial | rfl
  · refine vc_skip ?_
    refine thn ?_
    refine vc_seq' ?_
    refine vc_sr ?_
    refine vo ?_
    refine vnt ?_
    refine vc_block ?_
    refine vc_lp (σ := Nat) [0, 1] [] (fun i => [(5, I (i : Nat))]) (fun i => []) (fun i => i ≤ a.length ∧ ∀ j, j < i → at' a j = at' b j) (fun i => a.length - i) 0 rfl rfl (sub_i [] (fz ?_) (fz ?_)) ?_ fun i hI => ?_
    · first | trivial | simp
    · first | trivial | simp
    · exact ⟨Nat.zero_le _, fun j h => nomatch h⟩
    refine vc_nf rfl rfl ?_
    refine vc_seq' ?_
    refine vc_sr ?_
    iterate 3 refine vo ?_
    try first | refine vlb ?_ | refine vln ?_
    refine vo ?_
    refine vnt ?_
    refine vc_if (fun g2 => ?_) (fun g2 => ?_)
    · refine vc_skip ?_
      refine thn ?_
      refine vc_seq' ?_
      refine vc_block ?_
      refine vc_sr ?_
      iterate 3 refine vo ?_
      try with_reducible (first | refine vep ?_ | refine vpt ?_)
      iterate 4 refine vo ?_
      try with_reducible (first | refine vep ?_ | refine vpt ?_)
      iterate 2 refine vo ?_
      refine vnt ?_
      refine vc_if (fun g3 => ?_) (fun g3 => ?_)
      · refine vc_sr ?_
        refine vo ?_
        refine vnt ?_
        refine vc_ret ?_
        refine inB_r ?_
        refine thn_r ?_
        refine thn_r ?_
        refine inB_r ?_
        refine thn_r ?_
        have hh := smI_at g3
        rw [hh]
        refine fin_i [] rfl (fz ?_) (fz ?_) <;> first | trivial | rfl
      · refine vc_skip ?_
        refine inB_n ?_
        refine thn ?_
        refine vc_region ?_
        iterate 2 refine vo ?_
        try refine vwr ?_
        refine vo ?_
        refine vnt ?_
        refine ⟨i + 1, ?_, ?_, sub_i [] (fz ?_) (fz ?_)⟩
        · exact ⟨by omega, fun j hj => by rcases (show j < i ∨ j = i by omega) with h | h <;> first | exact hI.2 j h | (subst h; exact g3)⟩
        · omega
        all_goals first | trivial | rfl | omega | simp
    · refine vc_exit ?_
      refine thn_x ?_
      refine thn_x ?_
      refine inB_x ?_
      refine thn ?_
      refine vc_sr ?_
      refine vo ?_
      refine vnt ?_
      refine vc_ret ?_
      have hh := smI_y g1 (by omega) hI.2
      rw [hh]
      refine fin_i [] rfl (fz ?_) (fz ?_) <;> first | trivial | rfl
set_option maxHeartbeats 4000000 in
theorem c_impl_CompletePackets {b s h t pb pz pc nx : Int} {fr : List Int} (hl_fr : fr.length ≤ 100000000 := by first | with_reducible assumption | omega) {ws : List Sn} (hl_ws : ws.length ≤ 100000000 := by first | with_reducible assumption | omega) (hz_ws : (bufsF ws).length ≤ 100000000 := by first | with_reducible assumption | omega) (h1 : txOkB b s h t pb pz pc fr ws nx = true) : Con0 Tryz.prog 37 [.agg [V b, V s, V h, V t, V pb, V pz, V pc, .sl 1 (fr.map intE), .rd (snQ (ws.map snE)), V nx], I (ws.length : Int)] (.tup [.agg [V b, V s, V h, V t, V pb, V pz, V pc, .hs 0, .hs 1, V nx], .one (.hs 2)]) [(0, .arr 3 1 ((cpF pb pz pc fr ws).map intE)), (1, .own (sntOw 140 3 (([] : List Sn).map snE))), (2, .arr 3 1 ((ws.map (·.1)).map intE))] := by
  refine con_i Tryz.func37 Tryz.ntmps37 (t := [(0, .agg [V b, V s, V h, V t, V pb, V pz, V pc, .sl 1 (fr.map intE), .rd (snQ (ws.map snE)), V nx]), (1, I (ws.length : Int))]) rfl ?_
  refine vc_sr ?_
  iterate 3 refine vo ?_
  refine vnt ?_
  refine vc_sr ?_
  refine vo ?_
  refine voc c_impl_copyTx rfl rfl ?_
  iterate 2 refine vo ?_
  refine vnt ?_
  refine vc_seq' ?_
  refine vc_sr ?_
  refine vo ?_
  refine voc c_impl_TxOk rfl rfl ?_
  iterate 2 refine vo ?_
  refine vsp (fun g1 => ?_) (fun g1 => ?_)
  · rw [h1] at g1; cases g1
  · iterate 3 refine von ?_
    first | (refine vqln ?_; refine vlnS ?_) | refine von ?_
    try first | refine vlb ?_ | refine vln ?_
    refine vocn c_impl_between rfl rfl ?_
    refine von ?_
    refine vo ?_
    refine vnt ?_
    refine vc_if (fun g2 => ?_) (fun g2 => ?_)
    · rw [inB_iff.2 (show 0 ≤ (ws.length : Int) ∧ (ws.length : Int) ≤ ws.length by omega)] at g2; cases g2
    · refine vc_skip ?_
      refine thn ?_
      refine vc_sr ?_
      iterate 2 refine vo ?_
      refine vnt ?_
      refine vc_seq' ?_
      refine vc_sr ?_
      iterate 3 refine vo ?_
      refine vqch ?_
      try first | refine vdr ?_ | refine vtk ?_
      rw [Int.toNat_natCast, List.take_length]
      first | (refine vql ?_; refine vlnS ?_) | refine vo ?_
      try first | refine vlb ?_ | refine vln ?_
      refine vo ?_
      refine vnt ?_
      refine vc_block ?_
      refine vc_lp (σ := Nat) [1, 2, 4, 6, 28, 29] [16, 32, 89] (fun i => [(7, .one (.hs 7)), (30, I (i : Nat))]) (fun i => [(7, .arr 3 1 (((ws.take i).map (·.1)).map intE)), (9, .arr 3 1 ((cpF pb pz pc fr (ws.take i)).map intE)), (48, .row 35 [V b, V s, V h, V t, V pb, V pz, V pc, .hs 9, .hs 89, V nx])]) (fun i => i ≤ ws.length) (fun i => ws.length - i) 0 rfl rfl (sub_i [(48, some 48), (7, some 192), (9, some 88)] (fz ?_) (fz ?_)) ?_ fun i hI => ?_
      · first | trivial | rfl | exact ⟨rfl, rfl⟩ | exact ⟨rfl, rfl, rfl⟩ | trace_state
      · first | trivial | rfl | exact ⟨rfl, rfl⟩ | exact ⟨rfl, rfl, rfl⟩ | trace_state
      · omega
      refine vc_nf rfl rfl ?_
      have hcl := cp_le pb pz pc (ws.take i) fr
      have hbl := bufs_le ws i
      have htl : ((ws.take i).map (·.1)).length ≤ i := by rw [List.length_map, List.length_take]; omega
      refine vc_sr ?_
      refine vo ?_
      refine vnt ?_
      refine vc_seq' ?_
      refine vc_if (fun g3 => ?_) (fun g3 => ?_)
      · have hzi := buf_le g3
        refine vc_skip ?_
        refine thn ?_
        refine vc_seq' ?_
        refine vc_block ?_
        refine vc_sr ?_
        refine vqx ?_
        refine vepS ?_
        try with_reducible (first | refine vep ?_ | refine vpt ?_)
        refine vqd ?_
        iterate 2 refine vo ?_
        refine vnt ?_
        refine vc_sr ?_
        iterate 4 refine vo ?_
        refine voc c_impl_GiveBuffers rfl rfl ?_
        iterate 5 refine vo ?_
        refine vnt ?_
        refine vc_region ?_
        iterate 6 refine vo ?_
        refine vnil ?_
        refine inB_n ?_
        refine thn ?_
        refine vc_region ?_
        refine vo ?_
        try refine vwr ?_
        refine vo ?_
        refine vnt ?_
        refine ⟨i + 1, by omega, by omega, sub_i [(48, some 48), (7, some 376), (9, some 312)] (fz ?_) (fz ?_)⟩
        · omega
        · exact ⟨(ck_stp g3).symm, by rw [cp_stp g3]⟩
      · have hi : i = ws.length := by omega
        subst hi
        rw [List.take_length] at *
        refine vc_exit ?_
        refine thn_x ?_
        refine thn_x ?_
        refine inB_x ?_
        refine thn ?_
        refine vc_sr ?_
        iterate 3 refine vo ?_
        refine vqcl ?_
        try first | refine vdr ?_ | refine vtk ?_
        rw [Int.toNat_natCast, List.drop_length]
        refine voc (c_impl_copySent (ws := []) (hl_ws := Nat.zero_le _) (hz_ws := Nat.zero_le _)) rfl rfl ?_
        iterate 2 refine vo ?_
        refine vnt ?_
        refine vc_sr ?_
        iterate 4 refine vo ?_
        refine vnt ?_
        refine vc_ret ?_
        refine fin_i [(0, some 9), (1, some 424), (2, some 7)] rfl (fz ?_) (fz ?_) <;> first | trivial | rfl | exact ⟨rfl, rfl⟩ | exact ⟨rfl, rfl, rfl⟩ | trace_state
end Go.Proofs.YtbdcaacpemkloaaGreat
end
section
namespace Go.Proofs.YtbdcaacpemkloaaGreat
open Go Go.RowKit Go.Vc
set_option linter.unusedVariables false
set_option linter.unusedSimpArgs false
set_option linter.unnecessarySimpa false
theorem fs_same {ps qs : Pg} {a : Int} {n : Nat} (h : ∀ i : Nat, i < n → fb 12 qs (a + i) = fb 12 ps (a + i)) : fs 12 qs a n = fs 12 ps a n := by
  refine ba_ext (by rw [fs_size, fs_size]) fun i hi => ?_
  rw [fs_size] at hi
  rw [fs_at hi, fs_at hi, h i hi]
theorem catP_same {ps qs : Pg} : ∀ {pcs : List Pc}, (∀ q ∈ pcs, ∀ i : Nat, (i : Int) < q.2 → fb 12 qs (q.1 + i) = fb 12 ps (q.1 + i)) → catP qs pcs = catP ps pcs
  | [], _ => rfl
  | q :: r, h => by
    simp only [catP]
    rw [catP_same fun y hy => h y (List.mem_cons_of_mem _ hy), fs_same fun i hi => h q (List.mem_cons_self ..) i (by omega)]
theorem Lies.same {s a size ck : Int} {ps qs : Pg} {pcs : List Pc} {T : ByteArray} (L : Lies s ps a pcs size ck T) (h1 : ∀ j : Nat, j < pcs.length + 1 → ∀ i : Nat, i < 16 → fb 12 qs ((a + j) % s * 16 + i) = fb 12 ps ((a + j) % s * 16 + i)) (h2 : ∀ q ∈ pcs, ∀ i : Nat, (i : Int) < q.2 → fb 12 qs (q.1 + i) = fb 12 ps (q.1 + i)) : Lies s qs a pcs size ck T where
  db := L.db
  pb := L.pb
  sl := fun j hj => by rw [← L.sl j hj]; exact fs_same fun i hi => h1 j hj i hi
  tx := by rw [← L.tx]; exact catP_same h2
structure Chn where
  (p : Pk)
  (ck : Int)
  (pcs : List Pc)
  (ks : List Int)
def Chn.at (c : Chn) (s : Int) (ps : Pg) (size a : Int) : Prop := c.p.sup = true ∧ Lies s ps a c.pcs size c.ck c.p.tm ∧ ∀ q ∈ c.pcs, ∃ k ∈ c.ks, q.1 = 256 + k * 128 ∧ 0 ≤ q.2 ∧ q.2 ≤ 128
def Chains (s : Int) (ps : Pg) (size h : Int) : Nat → List Chn → Prop
  | _, [] => True
  | m, c :: C => c.at s ps size (pos s h m) ∧ Chains s ps size h (m + (c.pcs.length + 1)) C
def entN : List Chn → Nat
  | [] => 0
  | c :: C => (c.pcs.length + 1) + entN C
def ksL (C : List Chn) : List Int := C.flatMap (·.ks)
def wantF (size : Int) (C : List Chn) : List ByteArray := C.flatMap fun c => framesF (splitF c.p size)
theorem entN_app : ∀ (C : List Chn) (c : Chn), entN (C ++ [c]) = entN C + (c.pcs.length + 1)
  | [], c => by simp [entN]
  | d :: C, c => by
    show _ + entN (C ++ [c]) = _ + entN C + _
    rw [entN_app C c]; omega
theorem ksL_app (C : List Chn) (c : Chn) : ksL (C ++ [c]) = ksL C ++ c.ks := by unfold ksL; simp
theorem want_app (size : Int) (C : List Chn) (c : Chn) : wantF size (C ++ [c]) = wantF size C ++ framesF (splitF c.p size) := by unfold wantF; simp
theorem pos_add {s h : Int} (hs : sizeB s = true) (m j : Nat) : (pos s h m + j) % s = (h + ((m + j : Nat) : Int)) % s := by
  unfold pos
  rcases sizeB_cases hs with rfl | rfl | rfl | rfl <;> omega
theorem pos_pos {s h : Int} (hs : sizeB s = true) (m j : Nat) : pos s (pos s h m) j = pos s h (m + j) := by
  unfold pos
  rcases sizeB_cases hs with rfl | rfl | rfl | rfl <;> omega
theorem Chains.app {s size h : Int} {ps : Pg} : ∀ {C : List Chn} {m : Nat} {c : Chn}, Chains s ps size h m C → c.at s ps size (pos s h (m + entN C)) → Chains s ps size h m (C ++ [c])
  | [], m, c, _, h => ⟨h, trivial⟩
  | d :: C, m, c, ⟨h1, h2⟩, h => ⟨h1, Chains.app h2 (by rw [Nat.add_assoc]; exact h)⟩
theorem Chains.same {s size h : Int} {ps qs : Pg} (hs : sizeB s = true) : ∀ {C : List Chn} {m : Nat}, Chains s ps size h m C → (∀ j : Nat, j < entN C → ∀ i : Nat, i < 16 → fb 12 qs ((h + ((m + j : Nat) : Int)) % s * 16 + i) = fb 12 ps ((h + ((m + j : Nat) : Int)) % s * 16 + i)) → (∀ k ∈ ksL C, ∀ i : Nat, i < 128 → fb 12 qs (256 + k * 128 + i) = fb 12 ps (256 + k * 128 + i)) → Chains s qs size h m C
  | [], _, _, _, _ => trivial
  | c :: C, m, ⟨⟨g1, g2, g3⟩, g4⟩, h1, h2 => by
    refine ⟨⟨g1, g2.same (fun j hj i hi => ?_) fun q hq i hi => ?_, g3⟩, Chains.same hs g4 (fun j hj i hi => ?_) fun k hk i hi => h2 k ?_ i hi⟩
    · rw [pos_add hs]
      exact h1 j (by simp only [entN]; omega) i hi
    · obtain ⟨k, hk, e1, e2, e3⟩ := g3 q hq
      rw [e1]
      refine h2 k ?_ i (by omega)
      unfold ksL
      rw [List.flatMap_cons]
      exact List.mem_append_left _ hk
    · have := h1 (c.pcs.length + 1 + j) (by simp only [entN]; omega) i hi
      rw [show m + (c.pcs.length + 1) + j = m + (c.pcs.length + 1 + j) by omega]
      exact this
    · unfold ksL at hk ⊢
      rw [List.flatMap_cons]
      exact List.mem_append_right _ hk
theorem poolB_iff {fr : List Int} : poolB 256 128 10 fr = true ↔ (∀ k ∈ fr, 0 ≤ k ∧ k ≤ 9) ∧ fr.Pairwise (· ≠ ·) := by
  unfold poolB
  simp only [Bool.and_eq_true, decide_eq_true_eq, List.all_eq_true, inB_iff]
  constructor
  · rintro ⟨⟨_, h1⟩, h2⟩
    exact ⟨fun k hk => by have := h1 k hk; omega, h2⟩
  · rintro ⟨h1, h2⟩
    exact ⟨⟨by decide, fun k hk => by have := h1 k hk; omega⟩, h2⟩
theorem poolB_perm {a b : List Int} (h : a.Perm b) (k : poolB 256 128 10 a = true) : poolB 256 128 10 b = true := by
  rw [poolB_iff] at *
  exact ⟨fun x hx => k.1 x (h.symm.subset hx), (h.pairwise_iff (fun {x y} hxy => hxy.symm)).1 k.2⟩
theorem poolB_sub {a b : List Int} (h : a.Sublist b) (k : poolB 256 128 10 b = true) : poolB 256 128 10 a = true := by
  rw [poolB_iff] at *
  exact ⟨fun x hx => k.1 x (h.subset hx), k.2.sublist h⟩
theorem bufs_app (ws : List Sn) (x : Sn) : bufsF (ws ++ [x]) = bufsF ws ++ x.2.2 := by unfold bufsF; simp
theorem cp_all : ∀ (ws : List Sn) (fr : List Int), poolB 256 128 10 (fr ++ bufsF ws) = true → cpF 256 128 10 fr ws = fr ++ bufsF ws
  | [], fr, _ => (List.append_nil fr).symm
  | x :: ws, fr, h => by
    have e : bufsF (x :: ws) = x.2.2 ++ bufsF ws := by unfold bufsF; rw [List.flatMap_cons]
    rw [e] at h ⊢
    rw [← List.append_assoc] at h ⊢
    have h2 := poolB_sub (List.sublist_append_left _ _) h
    have h1 := poolB_sub (List.sublist_append_left _ _) h2
    have hg : giveF 256 128 10 fr x.2.2 = fr ++ x.2.2 := (give_y h1 h2).1
    show cpF 256 128 10 (giveF 256 128 10 fr x.2.2) ws = _
    rw [hg]
    exact cp_all ws _ h
theorem all_lies {l : List Mp} {ps : Pg} {s h t size : Int} (ht : Turned 12 12 l 0 false) (hm : MemOk ps) (hl : ps.length = 12) (q : ringOkB 0 s h t = true) {N : Nat} (hu : usedF s h t = N) (hN : t = pos s h N) : ∀ (C : List Chn) (m n : Nat) (o : List ByteArray) (y : Int), Chains s ps size h m C → m + entN C = N → C.length < n → txAll l ps 0 0 s t n (pos s h m) o y 0 = (t, o ++ wantF size C, y + C.length, 0)
  | [], m, n, o, y, _, hm', _ => by
    have e : m = N := by simpa [entN] using hm'
    subst e
    rw [← hN, txA_end (by rw [tx_0 (.inr (ring_tt q).2)])]
    simp [wantF]
  | c :: C, m, n, o, y, ⟨⟨g1, g2, g3⟩, g4⟩, hm', hn => by
    obtain ⟨hs, _⟩ := ringOk_facts q
    simp only [entN] at hm'
    obtain ⟨p1, p2⟩ := pos_ok (i := m) q (by omega)
    have htx := tx_lies ht hm hl p1 g1 g2 (by omega)
    have h3 : (txF l ps 0 0 s (pos s h m) t).2.2 = 1 := by rw [htx]
    rw [txA_go (by omega) (by rw [h3]; decide), if_pos h3, if_pos h3, htx]
    simp only
    rw [pos_pos hs, all_lies ht hm hl q hu hN C _ (n - 1) _ _ g4 (by omega) (by simp only [List.length_cons] at hn; omega)]
    refine Prod.ext rfl (Prod.ext ?_ (Prod.ext ?_ rfl))
    · show o ++ _ ++ wantF size C = o ++ wantF size (c :: C)
      unfold wantF
      rw [List.flatMap_cons, List.append_assoc]
    · simp only [List.length_cons]; omega
end Go.Proofs.YtbdcaacpemkloaaGreat
end
section
namespace Go.Proofs.YtbdcaacpemkloaaGreat
open Go Go.RowKit Go.Vc
set_option linter.unusedVariables false
set_option linter.unusedSimpArgs false
set_option linter.unnecessarySimpa false
structure Sio where
  (k : Nat)
  (ps : Pg)
  (t : Int)
  (fr : List Int)
  (ws : List Sn)
  (nx id : Int)
  (C : List Chn)
structure Sio.ok (x : DSx) (S : Sio) : Prop where
  mem : MemOk S.ps
  len : S.ps.length = 12
  ring : ringOkB 0 x.w.s x.w.h S.t = true
  tail : S.t = pos x.w.s x.w.h (entN S.C)
  used : usedF x.w.s x.w.h S.t = entN S.C
  ch : Chains x.w.s S.ps x.size x.w.h 0 S.C
  ksm : ∀ k ∈ ksL S.C, k ∈ bufsF S.ws
  pl : poolB 256 128 10 (S.fr ++ bufsF S.ws) = true
  tot : S.fr.length + (bufsF S.ws).length = 10
  cnt : S.ws.length = S.C.length
  le : S.C.length ≤ S.k
  sn : S.ws.all snOk = true
  slots : slotsF S.ws = entN S.C
  nx : 0 ≤ S.nx ∧ S.nx ≤ 65535
  id : 0 ≤ S.id ∧ S.id ≤ 65535
theorem Sio.ok.tx {x : DSx} {S : Sio} (I : S.ok x) {h : Int} (hr : ringOkB 0 x.w.s h S.t = true) : txOkB 0 x.w.s h S.t 256 128 10 S.fr S.ws S.nx = true := by
  obtain ⟨hs, b0, b1, s0, s1, h0, h1, t0, t1, u1, u0⟩ := ringOk_facts I.ring
  have hu := I.used
  have hsl := I.slots
  unfold usedF at hu
  unfold txOkB txS giveB
  rw [hr, poolB_sub (List.sublist_append_left _ _) I.pl, inB_iff.2 I.nx, I.sn, I.pl, decide_eq_true (show slotsF S.ws ≤ x.w.s by omega)]
  rfl
def pkI (p : Pk) (y : Int) : Pk := { p with id := y }
theorem pkI_sup {p : Pk} {y : Int} (h : p.sup = true) (h0 : 0 ≤ y ∧ y ≤ 65535) : (pkI p y).sup = true := by
  have h' : superOkB p.dm p.sm p.vl p.tos p.id p.ttl p.si p.di p.kind p.sp p.dp p.seq p.ack p.fl p.win p.body.size = true := h
  show superOkB p.dm p.sm p.vl p.tos y p.ttl p.si p.di p.kind p.sp p.dp p.seq p.ack p.fl p.win p.body.size = true
  unfold superOkB at *
  simp only [Bool.and_eq_true] at *
  obtain ⟨a, b, c, d, e, f, g⟩ := h'
  exact ⟨a, b, c, d, e, inB_iff.2 h0, g⟩
theorem sio_0 {x : DSx} (hx : x.ok) : (⟨0, ps0, x.w.h, tenF 10, [], x.w.nx, x.p.id, []⟩ : Sio).ok x := by
  obtain ⟨⟨w1, w2, w3, w4, w5⟩, hsup, hsz, hcut⟩ := hx
  have hring := ring_0 w3 w4
  obtain ⟨hs, b0, b1, s0, s1, h0, h1, t0, t1, u1, u0⟩ := ringOk_facts hring
  have hid : inB x.p.id 0 65535 = true := by
    have h' : superOkB x.p.dm x.p.sm x.p.vl x.p.tos x.p.id x.p.ttl x.p.si x.p.di x.p.kind x.p.sp x.p.dp x.p.seq x.p.ack x.p.fl x.p.win x.p.body.size = true := hsup
    unfold superOkB at h'
    simp only [Bool.and_eq_true] at h'
    exact h'.2.2.2.2.2.1
  exact {
    mem := ps0_ok
    len := by simp [ps0]
    ring := hring
    tail := (pos_zero h0 (by omega)).symm
    used := (ring_tt hring).2
    ch := trivial
    ksm := fun k hk => by simp [ksL] at hk
    pl := by rw [show bufsF ([] : List Sn) = [] from rfl, List.append_nil]; exact ten_ok
    tot := by rw [show bufsF ([] : List Sn) = [] from rfl]; simp [tenF]
    cnt := rfl
    le := Nat.le_refl _
    sn := rfl
    slots := rfl
    nx := by simp only; omega
    id := inB_iff.1 hid }
set_option maxHeartbeats 1000000 in
theorem sio_step {x : DSx} (hx : x.ok) {S : Sio} (I : S.ok x) {r : TxR} (hr : sdF x.w.l S.ps 0 0 x.w.s x.w.h S.t 256 128 10 S.fr S.ws S.nx (pkI x.p ((S.id + S.k) % 65536)) x.size x.cut = r) :
    ∃ C', (⟨S.k + 1, r.1, r.2.1, r.2.2.1, r.2.2.2.1, r.2.2.2.2.1, (S.id + S.k) % 65536, C'⟩ : Sio).ok x ∧ (r.2.2.2.2.2 = true → wantF x.size C' = wantF x.size S.C ++ framesF (splitF (pkI x.p ((S.id + S.k) % 65536)) x.size) ∧ r.2.2.2.1.map (·.1) = S.ws.map (·.1) ++ [S.nx]) ∧ (r.2.2.2.2.2 = false → C' = S.C ∧ r.2.2.2.1 = S.ws) := by
  obtain ⟨⟨w1, w2, w3, w4, w5⟩, hsup, hsz, hcut⟩ := hx
  have hid2 : 0 ≤ (S.id + S.k) % 65536 ∧ (S.id + S.k) % 65536 ≤ 65535 := by omega
  cases hok : r.2.2.2.2.2 with
  | false =>
    have hb : sdB x.w.l S.ps 0 0 x.w.s x.w.h S.t 256 128 10 S.fr S.ws S.nx (pkI x.p ((S.id + S.k) % 65536)) x.size x.cut = false := by
      cases hb : sdB x.w.l S.ps 0 0 x.w.s x.w.h S.t 256 128 10 S.fr S.ws S.nx (pkI x.p ((S.id + S.k) % 65536)) x.size x.cut with
      | false => rfl
      | true =>
        unfold sdF at hr
        rw [if_pos hb] at hr
        subst hr
        cases hok
    rw [sd_no hb] at hr
    subst hr
    refine ⟨S.C, ?_, (fun h => nomatch h), fun _ => ⟨rfl, rfl⟩⟩
    exact { mem := I.mem, len := I.len, ring := I.ring, tail := I.tail, used := I.used, ch := I.ch, ksm := I.ksm, pl := I.pl, tot := I.tot, cnt := I.cnt, le := by have := I.le; show S.C.length ≤ S.k + 1; omega, sn := I.sn, slots := I.slots, nx := I.nx, id := hid2 }
  | true =>
    obtain ⟨n, pcs, T⟩ := snd_lies w1 w2 I.mem I.len hr hok
    obtain ⟨hs, b0, b1, s0, s1, h0, h1, t0, t1, u1, u0⟩ := ringOk_facts I.ring
    have hsup2 := pkI_sup (y := (S.id + S.k) % 65536) hsup hid2
    have hpl := T.pcl
    have hun := T.used
    have hun2 := T.used'
    have hus := I.used
    have hnl := T.nle
    have hpo := poolB_iff.1 I.pl
    have hks : sizeB x.w.s = true := hs
    have hat : (⟨pkI x.p ((S.id + S.k) % 65536), S.nx, pcs, S.fr.take n⟩ : Chn).at x.w.s r.1 x.size (pos x.w.s x.w.h (0 + entN S.C)) := by
      refine ⟨hsup2, ?_, T.bufs⟩
      rw [Nat.zero_add, ← I.tail]
      exact T.lies
    have hbuf : bufsF r.2.2.2.1 = bufsF S.ws ++ S.fr.take n := by rw [T.ws', bufs_app]
    have hslot : ∀ j : Nat, 0 ≤ (S.t + j) % x.w.s * 16 ∧ (S.t + j) % x.w.s * 16 + 16 ≤ 256 := fun j => by
      have m0 := Int.emod_nonneg (S.t + j) (show x.w.s ≠ 0 by omega)
      have m1 := Int.emod_lt_of_pos (S.t + j) (show 0 < x.w.s by omega)
      omega
    have hslot2 : ∀ j : Nat, 0 ≤ (x.w.h + j) % x.w.s * 16 ∧ (x.w.h + j) % x.w.s * 16 + 16 ≤ 256 := fun j => by
      have m0 := Int.emod_nonneg (x.w.h + j) (show x.w.s ≠ 0 by omega)
      have m1 := Int.emod_lt_of_pos (x.w.h + j) (show 0 < x.w.s by omega)
      omega
    have hold : Chains x.w.s r.1 x.size x.w.h 0 S.C := by
      refine Chains.same hks I.ch (fun j hj i hi => ?_) fun k hk i hi => ?_
      · rw [Nat.zero_add]
        have hsj := hslot2 j
        refine T.same _ (by omega) (by omega) (fun j' hj' => ?_) fun k hk => ?_
        · have e : (S.t + j') % x.w.s = (x.w.h + ((entN S.C + j' : Nat) : Int)) % x.w.s := by rw [I.tail, pos_add hks]
          have hne := slot_ne (s := x.w.s) (t := x.w.h) hks (i := j) (j := entN S.C + j') (by omega) (by omega) (by omega)
          rw [e]; omega
        · have := hpo.1 k (List.mem_append_left _ (List.mem_of_mem_take hk))
          omega
      · have hkw := I.ksm k hk
        have hk9 := hpo.1 k (List.mem_append_right _ hkw)
        refine T.same _ (by omega) (by omega) (fun j' hj' => .inr (by have := hslot j'; omega)) fun k' hk' => ?_
        have hk9' := hpo.1 k' (List.mem_append_left _ (List.mem_of_mem_take hk'))
        have hne := (List.pairwise_append.1 hpo.2).2.2 k' (List.mem_of_mem_take hk') k hkw
        omega
    refine ⟨S.C ++ [⟨pkI x.p ((S.id + S.k) % 65536), S.nx, pcs, S.fr.take n⟩], ?_, fun _ => ⟨want_app .., by rw [T.ws']; simp⟩, (fun h => nomatch h)⟩
    have hent : entN (S.C ++ [⟨pkI x.p ((S.id + S.k) % 65536), S.nx, pcs, S.fr.take n⟩]) = entN S.C + (n + 1) := by rw [entN_app]; simp only; rw [hpl]
    exact {
      mem := T.mem
      len := T.len
      ring := T.ring
      tail := by
        show r.2.1 = pos x.w.s x.w.h (entN (S.C ++ [_]))
        rw [hent, T.tail, ← pos_pos hks (entN S.C) (n + 1), ← I.tail]
      used := by
        show usedF x.w.s x.w.h r.2.1 = entN (S.C ++ [_])
        rw [hent, hun2]; omega
      ch := Chains.app hold hat
      ksm := fun k hk => by
        show k ∈ bufsF r.2.2.2.1
        rw [hbuf]
        have hk : k ∈ ksL (S.C ++ [_]) := hk
        rw [ksL_app] at hk
        rcases List.mem_append.1 hk with h | h
        · exact List.mem_append_left _ (I.ksm k h)
        · exact List.mem_append_right _ h
      pl := by
        show poolB 256 128 10 (r.2.2.1 ++ bufsF r.2.2.2.1) = true
        rw [hbuf, T.fre]
        refine poolB_perm ?_ I.pl
        have h1 : (S.fr ++ bufsF S.ws).Perm ((S.fr.take n ++ S.fr.drop n) ++ bufsF S.ws) := by rw [List.take_append_drop]
        refine h1.trans ?_
        rw [List.append_assoc]
        refine List.perm_append_comm.trans ?_
        rw [List.append_assoc]
      tot := by
        show r.2.2.1.length + (bufsF r.2.2.2.1).length = 10
        have := I.tot
        rw [hbuf, T.fre, List.length_drop, List.length_append, List.length_take]; omega
      cnt := by
        show r.2.2.2.1.length = (S.C ++ [_]).length
        rw [T.ws', List.length_append, List.length_append, I.cnt]; rfl
      le := by
        show (S.C ++ [_]).length ≤ S.k + 1
        rw [List.length_append]
        have := I.le
        simp only [List.length_cons, List.length_nil]; omega
      sn := by
        show r.2.2.2.1.all snOk = true
        rw [T.ws', List.all_append, I.sn]
        simp only [List.all_cons, List.all_nil, Bool.and_true, Bool.true_and]
        exact snOk_iff.2 ⟨by simp only; omega, inB_iff.2 I.nx⟩
      slots := by
        show slotsF r.2.2.2.1 = entN (S.C ++ [_])
        rw [hent, T.ws', slots_app, I.slots]
        unfold slotsF
        simp only [List.map_cons, List.map_nil, List.sum_cons, List.sum_nil]; omega
      nx := by
        show 0 ≤ r.2.2.2.2.1 ∧ r.2.2.2.2.1 ≤ 65535
        rw [T.nx']; omega
      id := hid2 }
theorem sio_all {x : DSx} (hx : x.ok) {S : Sio} (I : S.ok x) (hk : S.k ≤ 3) : txAF x.w.l S.ps 0 0 x.w.s x.w.h S.t = (S.t, wantF x.size S.C, (S.C.length : Int), 0) ∧ txOkB 0 x.w.s S.t S.t 256 128 10 S.fr S.ws S.nx = true ∧
    (cpF 256 128 10 S.fr S.ws).length = 10 ∧ txOkB 0 x.w.s S.t S.t 256 128 10 (cpF 256 128 10 S.fr S.ws) [] S.nx = true ∧ (wantF x.size S.C).length ≤ 960 := by
  obtain ⟨⟨w1, w2, w3, w4, w5⟩, hsup, hsz, hcut⟩ := hx
  obtain ⟨hs, b0, b1, s0, s1, h0, h1, t0, t1, u1, u0⟩ := ringOk_facts I.ring
  have hle := I.le
  have hcp := cp_all S.ws S.fr I.pl
  have htt := (ring_tt I.ring).1
  refine ⟨?_, I.tx htt, ?_, ?_, ?_⟩
  · have := all_lies (wl_all w1 w2) I.mem I.len I.ring I.used I.tail S.C 0 17 [] 0 I.ch (by omega) (by omega)
    rw [pos_zero h0 (by omega)] at this
    unfold txAF
    rw [this, List.nil_append, Int.zero_add]
  · rw [hcp, List.length_append]; exact I.tot
  · rw [hcp]
    unfold txOkB txS giveB
    rw [htt, I.pl, inB_iff.2 I.nx, show bufsF ([] : List Sn) = [] from rfl, List.append_nil, I.pl, decide_eq_true (show slotsF [] ≤ x.w.s by unfold slotsF; simp; omega)]
    rfl
  · have key : ∀ C : List Chn, (wantF x.size C).length ≤ 320 * C.length := fun C => by
      induction C with
      | nil => exact Nat.le_refl _
      | cons c C ih =>
        have e : (wantF x.size (c :: C)).length = (framesF (splitF c.p x.size)).length + (wantF x.size C).length := by unfold wantF; rw [List.flatMap_cons, List.length_append]
        have h2 : (framesF (splitF c.p x.size)).length ≤ 320 := Nat.le_trans (frames_le _) (split_le _ _)
        rw [e, List.length_cons]; omega
    have := key S.C
    omega
end Go.Proofs.YtbdcaacpemkloaaGreat
end
section
namespace Go.Proofs.YtbdcaacpemkloaaGreat
open Go Go.RowKit Go.Vc
set_option linter.unusedVariables false
set_option linter.unusedSimpArgs false
set_option linter.unnecessarySimpa false
theorem u32_nat {n : Nat} (h : n < 4294967296) : (BitVec.ofInt 32 (n : Int)).toNat = n := by
  rw [BitVec.ofInt_natCast, BitVec.toNat_ofNat]; exact Nat.mod_eq_of_lt (by omega)
theorem u32_wr {n : Int} (h0 : 0 ≤ n) (h : n < 4294967296) : IntKind.u32.wrap n = n := by
  exact IntWalk.u32_in _ ⟨h0, by omega⟩
theorem ux_eq {a b : Nat} (ha : a < 4294967296) (hb : b < 4294967296) : Go.bits .xor .u32 (a : Int) (b : Int) = ((a ^^^ b : Nat) : Int) := by
  have hx : a ^^^ b < 2 ^ 32 := Nat.xor_lt_two_pow (by omega) (by omega)
  show IntKind.u32.wrap ((BitVec.ofInt 32 (a : Int) ^^^ BitVec.ofInt 32 (b : Int)).toNat : Int) = _
  rw [BitVec.toNat_xor, u32_nat ha, u32_nat hb, u32_wr (by omega) (by omega)]
theorem ua_eq {a : Nat} (ha : a < 4294967296) : Go.bits .and .u32 (a : Int) 1 = ((a % 2 : Nat) : Int) := by
  show IntKind.u32.wrap ((BitVec.ofInt 32 (a : Int) &&& BitVec.ofInt 32 ((1 : Nat) : Int)).toNat : Int) = _
  rw [BitVec.toNat_and, u32_nat ha, u32_nat (by omega), Nat.and_one_is_mod, u32_wr (by omega) (by omega)]
theorem uc_eq {a : Nat} (ha : a < 4294967296) : Go.bits .xor .u32 4294967295 (a : Int) = 4294967295 - (a : Int) := by
  have e : BitVec.ofInt 32 4294967295 = BitVec.allOnes 32 := by decide
  show IntKind.u32.wrap ((BitVec.ofInt 32 4294967295 ^^^ BitVec.ofInt 32 (a : Int)).toNat : Int) = _
  rw [e, BitVec.xor_comm, BitVec.xor_allOnes, BitVec.toNat_not, u32_nat ha, u32_wr (by omega) (by omega)]
  omega
theorem xi_eq {a b : Nat} (ha : a < 4294967296) (hb : b < 4294967296) : xorI (a : Int) (b : Int) = ((a ^^^ b : Nat) : Int) := by
  have hx : a ^^^ b < 2 ^ 32 := Nat.xor_lt_two_pow (by omega) (by omega)
  have e : ∀ n : Nat, n < 4294967296 → (BitVec.ofInt 64 (n : Int)).toNat = n := fun n hn => by
    rw [BitVec.ofInt_natCast, BitVec.toNat_ofNat]; exact Nat.mod_eq_of_lt (by omega)
  show IntKind.i64.wrap ((BitVec.ofInt 64 (a : Int) ^^^ BitVec.ofInt 64 (b : Int)).toNat : Int) = _
  rw [BitVec.toNat_xor, e a ha, e b hb, IntWalk.i64_in _ (by omega)]
theorem st_odd {c : Nat} (h : c % 2 = 1) : stepN c = (c / 2) ^^^ 3988292384 := if_pos h
theorem st_evn {c : Nat} (h : ¬ c % 2 = 1) : stepN c = c / 2 := if_neg h
theorem fcs_eq (s : ByteArray) : strOfNums [IntKind.u8.wrap (crcF s), IntKind.u8.wrap (crcF s / 2 ^ Int.toNat 8), IntKind.u8.wrap (crcF s / 2 ^ Int.toNat 16), IntKind.u8.wrap (crcF s / 2 ^ Int.toNat 24)] = strOfNums [crcF s % 256, crcF s / 256 % 256, crcF s / 65536 % 256, crcF s / 16777216 % 256] := by
  have h := crcF_bd s
  have e8 : (2 : Int) ^ Int.toNat 8 = 256 := by decide
  have e16 : (2 : Int) ^ Int.toNat 16 = 65536 := by decide
  have e24 : (2 : Int) ^ Int.toNat 24 = 16777216 := by decide
  rw [e8, e16, e24]
  simp only [IntKind.wrap_u8]
end Go.Proofs.YtbdcaacpemkloaaGreat
end
section
namespace Go.Proofs.YtbdcaacpemkloaaGreat
open Go Go.RowKit Go.Vc
set_option linter.unusedVariables false
set_option linter.unusedSimpArgs false
set_option linter.unnecessarySimpa false
section
variable {P : Program} [TyEnv P] {n : Nat} {ops os : List Oper} {dr : Bool} {K : Tm → Hp → Prop} {t : Tm} {H : Hp} {fp : List Fp} {d : Nat}
theorem vequ {x y : Int} (hw : x = y) (h : Vd P n ops dr K os ((d, .one (.v (.int .u32 y))) :: t) H fp) : Vd P n ops dr K os ((d, .one (.v (.int .u32 x))) :: t) H fp := by
  rw [hw]; exact h
end
theorem u32_byt (s : ByteArray) (i : Nat) : IntKind.u32.wrap (bytI s (i : Int)) = ((bAt s i : Nat) : Int) := by
  have := bAt_lt s i
  rw [bytI_nat, Int.toNat_natCast, u32_wr (by omega) (by omega)]
theorem ux_c {a : Nat} (ha : a < 4294967296) : Go.bits .xor .u32 (a : Int) 3988292384 = ((a ^^^ 3988292384 : Nat) : Int) := ux_eq ha (by decide)
theorem xi_c {a : Nat} (ha : a < 4294967296) : xorI (a : Int) 3988292384 = ((a ^^^ 3988292384 : Nat) : Int) := xi_eq ha (by decide)
theorem xi_b {a : Nat} (ha : a < 4294967296) (s : ByteArray) (i : Nat) : xorI (a : Int) ((bAt s (Int.toNat (i : Nat)) : Nat) : Int) = ((a ^^^ bAt s i : Nat) : Int) := xi_eq ha (by have := bAt_lt s i; show bAt s i < _; omega)
theorem sh1 (a : Nat) : (a : Int) / 2 ^ Int.toNat 1 = ((a / 2 : Nat) : Int) := by
  rw [show (2 : Int) ^ Int.toNat 1 = 2 by decide]; omega
theorem an1 (a : Nat) : andI (a : Int) 1 = ((a % 2 : Nat) : Int) := by
  rw [andI_eq]
  have := and_mask_i64 (a : Int) 1 (by decide)
  rw [show (2 : Int) ^ 1 - 1 = 1 by decide] at this
  rw [this]; rfl
theorem st_s (c k : Nat) : stepK c (k + 1) = stepN (stepK c k) := rfl
set_option maxHeartbeats 4000000 in
theorem c_impl_Crc32 {s : ByteArray} (hs_s : s.size ≤ 1099511627776 := by first | assumption | omega | (simp only [ByteArray.size_append, ByteArray.size_extract, strOfNums_size, List.length_cons, List.length_nil]; omega)) : Con0 Tryz.prog 266 [Z s] (I (crcF s)) [] := by
  refine con_i Tryz.func266 Tryz.ntmps266 (t := [(0, Z s)]) rfl ?_
  refine vc_sr ?_
  refine vo ?_
  refine vnt ?_
  refine vc_sr ?_
  refine vo ?_
  refine vnt ?_
  refine vc_seq' ?_
  refine vc_sr ?_
  refine vo ?_
  refine vnt ?_
  refine vc_block ?_
  refine vc_lp (σ := Nat) [0] [] (fun i => [(3, .one (.v (.int .u32 (crcN s i : Nat)))), (4, I (i : Nat))]) (fun i => []) (fun i => i ≤ s.size) (fun i => s.size - i) 0 rfl rfl (sub_i [] (fz ?_) (fz ?_)) ?_ fun i hI => ?_
  · first | trivial | rfl | exact ⟨rfl, rfl⟩
  · first | trivial | rfl
  · exact Nat.zero_le _
  refine vc_nf rfl rfl ?_
  have hc := crcN_lt s i
  have hb := bAt_lt s i
  refine vc_seq' ?_
  refine vc_sr ?_
  iterate 4 refine vo ?_
  refine vnt ?_
  refine vc_if (fun g1 => ?_) (fun g1 => ?_)
  · refine vc_skip ?_
    refine thn ?_
    refine vc_seq' ?_
    refine vc_block ?_
    refine vc_sr ?_
    iterate 5 refine vo ?_
    try refine veq (i64_byt _ _) ?_
    refine vequ (u32_byt s i) ?_
    refine vo ?_
    refine vequ (ux_eq hc (by omega)) ?_
    refine vo ?_
    refine vnt ?_
    refine vc_sr ?_
    refine vo ?_
    refine vnt ?_
    refine vc_block ?_
    refine vc_lp (σ := Nat) [0, 4] [] (fun k => [(3, .one (.v (.int .u32 (stepK (crcN s i ^^^ bAt s i) k : Nat)))), (5, I (k : Nat))]) (fun k => []) (fun k => k ≤ 8) (fun k => 8 - k) 0 rfl rfl (sub_i [] (fz ?_) (fz ?_)) ?_ fun k hK => ?_
    · first | trivial | rfl | exact ⟨rfl, rfl⟩
    · first | trivial | rfl
    · exact Nat.zero_le _
    refine vc_nf rfl rfl ?_
    have hx : stepK (crcN s i ^^^ bAt s i) k < 4294967296 := stepK_lt (Nat.xor_lt_two_pow (n := 32) hc (by omega)) k
    refine vc_seq' ?_
    refine vc_sr ?_
    iterate 2 refine vo ?_
    refine vnt ?_
    refine vc_if (fun g2 => ?_) (fun g2 => ?_)
    · refine vc_skip ?_
      refine thn ?_
      refine vc_seq' ?_
      refine vc_block ?_
      refine vc_sr ?_
      iterate 2 refine vo ?_
      refine vequ (ua_eq hx) ?_
      iterate 2 refine vo ?_
      refine vnt ?_
      refine vc_sr ?_
      iterate 2 refine vo ?_
      refine vequ (sh1 _) ?_
      refine vo ?_
      refine vnt ?_
      refine vc_sr ?_
      refine vo ?_
      refine vnt ?_
      refine vc_if (fun g3 => ?_) (fun g3 => ?_)
      · refine vc_region ?_
        iterate 2 refine vo ?_
        refine vequ (ux_c (by omega)) ?_
        refine vo ?_
        refine vnil ?_
        refine inB_n ?_
        refine thn ?_
        refine vc_region ?_
        iterate 2 refine vo ?_
        try refine vwr ?_
        refine vo ?_
        refine vnt ?_
        refine ⟨k + 1, ?_, ?_, sub_i [] (fz ?_) (fz ?_)⟩
        · omega
        · omega
        · refine ⟨?_, ?_⟩ <;> first | rfl | (rw [st_s, st_odd (by omega)]) | omega
        · first | trivial | rfl
      · refine vc_skip ?_
        refine inB_n ?_
        refine thn ?_
        refine vc_region ?_
        iterate 2 refine vo ?_
        try refine vwr ?_
        refine vo ?_
        refine vnt ?_
        refine ⟨k + 1, ?_, ?_, sub_i [] (fz ?_) (fz ?_)⟩
        · omega
        · omega
        · refine ⟨?_, ?_⟩ <;> first | rfl | (rw [st_s, st_evn (by omega)]) | omega
        · first | trivial | rfl
    · refine vc_exit ?_
      refine thn_x ?_
      refine thn_x ?_
      refine inB_x ?_
      refine inB_n ?_
      refine thn ?_
      refine vc_region ?_
      iterate 2 refine vo ?_
      try refine vwr ?_
      refine vo ?_
      refine vnt ?_
      refine ⟨i + 1, ?_, ?_, sub_i [] (fz ?_) (fz ?_)⟩
      · omega
      · omega
      · refine ⟨?_, ?_⟩ <;> first | rfl | omega | (rw [show k = 8 by omega]; rfl)
      · first | trivial | rfl
  · refine vc_exit ?_
    refine thn_x ?_
    refine thn_x ?_
    refine inB_x ?_
    refine thn ?_
    refine vc_sr ?_
    iterate 2 refine vo ?_
    refine vequ (uc_eq hc) ?_
    refine vo ?_
    try refine veq (i64_byt _ _) ?_
    refine veq (IntWalk.i64_in _ (by omega)) ?_
    refine vo ?_
    refine vnt ?_
    refine vc_ret ?_
    refine fin_i [] rfl (fz ?_) trivial
    rw [crcF, show s.size = i by omega]
set_option maxHeartbeats 4000000 in
theorem c_impl_WithFcs {s : ByteArray} (hs_s : s.size ≤ 1099511627776 := by first | assumption | omega | (simp only [ByteArray.size_append, ByteArray.size_extract, strOfNums_size, List.length_cons, List.length_nil]; omega)) : Con0 Tryz.prog 260 [Z s] (Z (fcsF s)) [] := by
  refine con_i Tryz.func260 Tryz.ntmps260 (t := [(0, Z s)]) rfl ?_
  refine vc_sr ?_
  refine vo ?_
  refine vnt ?_
  refine vc_sr ?_
  refine vo ?_
  refine voc c_impl_Crc32 rfl rfl ?_
  refine vo ?_
  refine vnt ?_
  refine vc_sr ?_
  iterate 14 refine vo ?_
  refine vs4 ?_
  iterate 2 refine vo ?_
  refine vnt ?_
  refine vc_ret ?_
  refine fin_i [] rfl (fz ?_) trivial
  unfold fcsF; rw [fcs_eq]
set_option maxHeartbeats 4000000 in
theorem c_impl_BuildFrame {p : Pk} (hz_p : p.body.size ≤ 1099511627776 := by first | assumption | omega) : Con0 Tryz.prog 235 [.agg [V (p).dm, V (p).sm, V (p).vl, V (p).tos, V (p).id, V (p).ttl, V (p).si, V (p).di, V (p).kind, V (p).sp, V (p).dp, V (p).seq, V (p).ack, V (p).fl, V (p).win, VS (p).body]] (.tup [Z (frF p), B p.ok]) [] := by
  refine con_i Tryz.func235 Tryz.ntmps235 (t := [(0, .agg [V (p).dm, V (p).sm, V (p).vl, V (p).tos, V (p).id, V (p).ttl, V (p).si, V (p).di, V (p).kind, V (p).sp, V (p).dp, V (p).seq, V (p).ack, V (p).fl, V (p).win, VS (p).body])]) rfl ?_
  refine vc_sr ?_
  iterate 3 refine vo ?_
  refine vnt ?_
  refine vc_seq' ?_
  refine vc_sr ?_
  refine vo ?_
  refine voc c_impl_PacketOk rfl rfl ?_
  refine vo ?_
  refine vnt ?_
  refine vc_if (fun g1 => ?_) (fun g1 => ?_)
  · have g1 : p.ok = false := by first | exact g1 | (unfold Pk.ok Pk.sup; simpa using g1)
    refine vc_sr ?_
    iterate 2 refine vo ?_
    refine vnt ?_
    refine vc_ret ?_
    refine thn_r ?_
    refine fin_i [] rfl (fz ?_) trivial
    have hk : p.ok = false := g1
    rw [frF, hk]
    trivial
  · have hk : p.ok = true := by first | exact g1 | (unfold Pk.ok Pk.sup; simpa using g1)
    have hs : p.sup = true := by unfold Pk.ok at hk; rw [Bool.and_eq_true] at hk; exact hk.1
    have hi := sup_img hs
    have hi2 : (imgR p.dm p.sm p.vl p.tos p.id p.ttl p.si p.di p.kind p.sp p.dp p.seq p.ack p.fl p.win p.body).size ≤ 1000 := hi.2
    refine vc_skip ?_
    refine thn ?_
    refine vc_sr ?_
    refine vo ?_
    refine voc c_impl_BuildImage rfl rfl ?_
    iterate 5 refine vo ?_
    refine vnt ?_
    refine vc_seq' ?_
    refine vc_sr ?_
    iterate 2 refine vo ?_
    refine vnt ?_
    refine vc_if (fun g2 => ?_) (fun g2 => ?_)
    · rw [hi.1] at g2; cases g2
    · refine vc_skip ?_
      refine thn ?_
      refine vc_sr ?_
      refine vo ?_
      refine voc c_impl_WithFcs rfl rfl ?_
      iterate 2 refine vo ?_
      refine vnt ?_
      refine vc_ret ?_
      refine fin_i [] rfl (fz ?_) trivial
      rw [frF, hk]
      trivial
set_option maxHeartbeats 4000000 in
theorem c_spec_Crc32 {s : ByteArray} (hs_s : s.size ≤ 1099511627776 := by first | assumption | omega | (simp only [ByteArray.size_append, ByteArray.size_extract, strOfNums_size, List.length_cons, List.length_nil]; omega)) : Con0 Tryz.prog 261 [Z s] (I (crcF s)) [] := by
  refine con_i Tryz.func261 Tryz.ntmps261 (t := [(0, Z s)]) rfl ?_
  refine vc_sr ?_
  refine vo ?_
  refine vnt ?_
  refine vc_sr ?_
  refine vo ?_
  refine vnt ?_
  refine vc_seq' ?_
  refine vc_sr ?_
  refine vo ?_
  refine vnt ?_
  refine vc_block ?_
  refine vc_lp (σ := Nat) [0] [] (fun i => [(3, I (crcN s i : Nat)), (4, I (i : Nat))]) (fun i => []) (fun i => i ≤ s.size) (fun i => s.size - i) 0 rfl rfl (sub_i [] (fz ?_) (fz ?_)) ?_ fun i hI => ?_
  · first | trivial | rfl | exact ⟨rfl, rfl⟩
  · first | trivial | rfl
  · exact Nat.zero_le _
  refine vc_nf rfl rfl ?_
  have hc := crcN_lt s i
  have hb := bAt_lt s i
  refine vc_seq' ?_
  refine vc_sr ?_
  iterate 4 refine vo ?_
  refine vnt ?_
  refine vc_if (fun g1 => ?_) (fun g1 => ?_)
  · refine vc_skip ?_
    refine thn ?_
    refine vc_seq' ?_
    refine vc_block ?_
    refine vc_sr ?_
    iterate 5 refine vo ?_
    try refine veq (i64_byt _ _) ?_
    refine vo ?_
    refine veq (xi_b hc s i) ?_
    refine vo ?_
    refine vnt ?_
    refine vc_sr ?_
    refine vo ?_
    refine vnt ?_
    refine vc_block ?_
    refine vc_lp (σ := Nat) [0, 4] [] (fun k => [(3, I (stepK (crcN s i ^^^ bAt s i) k : Nat)), (5, I (k : Nat))]) (fun k => []) (fun k => k ≤ 8) (fun k => 8 - k) 0 rfl rfl (sub_i [] (fz ?_) (fz ?_)) ?_ fun k hK => ?_
    · first | trivial | rfl | exact ⟨rfl, rfl⟩
    · first | trivial | rfl
    · exact Nat.zero_le _
    refine vc_nf rfl rfl ?_
    have hx : stepK (crcN s i ^^^ bAt s i) k < 4294967296 := stepK_lt (Nat.xor_lt_two_pow (n := 32) hc (by omega)) k
    refine vc_seq' ?_
    refine vc_sr ?_
    iterate 2 refine vo ?_
    refine vnt ?_
    refine vc_if (fun g2 => ?_) (fun g2 => ?_)
    · refine vc_skip ?_
      refine thn ?_
      refine vc_seq' ?_
      refine vc_block ?_
      refine vc_sr ?_
      iterate 2 refine vo ?_
      refine veq (an1 _) ?_
      refine vo ?_
      refine vnt ?_
      refine vc_if (fun g3 => ?_) (fun g3 => ?_)
      · refine vc_region ?_
        iterate 2 refine vo ?_
        refine veq (sh1 _) ?_
        refine vo ?_
        refine veq (xi_c (by omega)) ?_
        refine vo ?_
        refine vnil ?_
        refine inB_n ?_
        refine thn ?_
        refine vc_region ?_
        iterate 2 refine vo ?_
        try refine vwr ?_
        refine vo ?_
        refine vnt ?_
        refine ⟨k + 1, ?_, ?_, sub_i [] (fz ?_) (fz ?_)⟩
        · omega
        · omega
        · refine ⟨?_, ?_⟩ <;> first | rfl | (rw [st_s, st_odd (by omega)]) | omega
        · first | trivial | rfl
      · refine vc_region ?_
        iterate 2 refine vo ?_
        refine veq (sh1 _) ?_
        refine vo ?_
        refine vnil ?_
        refine inB_n ?_
        refine thn ?_
        refine vc_region ?_
        iterate 2 refine vo ?_
        try refine vwr ?_
        refine vo ?_
        refine vnt ?_
        refine ⟨k + 1, ?_, ?_, sub_i [] (fz ?_) (fz ?_)⟩
        · omega
        · omega
        · refine ⟨?_, ?_⟩ <;> first | rfl | (rw [st_s, st_evn (by omega)]) | omega
        · first | trivial | rfl
    · refine vc_exit ?_
      refine thn_x ?_
      refine thn_x ?_
      refine inB_x ?_
      refine inB_n ?_
      refine thn ?_
      refine vc_region ?_
      iterate 2 refine vo ?_
      try refine vwr ?_
      refine vo ?_
      refine vnt ?_
      refine ⟨i + 1, ?_, ?_, sub_i [] (fz ?_) (fz ?_)⟩
      · omega
      · omega
      · refine ⟨?_, ?_⟩ <;> first | rfl | omega | (rw [show k = 8 by omega]; rfl)
      · first | trivial | rfl
  · refine vc_exit ?_
    refine thn_x ?_
    refine thn_x ?_
    refine inB_x ?_
    refine thn ?_
    refine vc_sr ?_
    iterate 2 refine vo ?_
    try refine vwr ?_
    refine vo ?_
    refine vnt ?_
    refine vc_ret ?_
    refine fin_i [] rfl (fz ?_) trivial
    rw [crcF, show s.size = i by omega]
set_option maxHeartbeats 4000000 in
theorem c_spec_WithFcs {s : ByteArray} (hs_s : s.size ≤ 1099511627776 := by first | assumption | omega | (simp only [ByteArray.size_append, ByteArray.size_extract, strOfNums_size, List.length_cons, List.length_nil]; omega)) : Con0 Tryz.prog 237 [Z s] (Z (fcsF s)) [] := by
  refine con_i Tryz.func237 Tryz.ntmps237 (t := [(0, Z s)]) rfl ?_
  refine vc_sr ?_
  refine vo ?_
  refine vnt ?_
  refine vc_sr ?_
  refine vo ?_
  refine voc c_spec_Crc32 rfl rfl ?_
  refine vo ?_
  refine vnt ?_
  refine vc_sr ?_
  iterate 14 refine vo ?_
  refine vs4 ?_
  iterate 2 refine vo ?_
  refine vnt ?_
  refine vc_ret ?_
  refine fin_i [] rfl (fz ?_) trivial
  unfold fcsF; rw [fcs_eq]
set_option maxHeartbeats 4000000 in
theorem c_spec_BuildFrame {p : Pk} (hz_p : p.body.size ≤ 1099511627776 := by first | assumption | omega) : Con0 Tryz.prog 188 [.agg [V (p).dm, V (p).sm, V (p).vl, V (p).tos, V (p).id, V (p).ttl, V (p).si, V (p).di, V (p).kind, V (p).sp, V (p).dp, V (p).seq, V (p).ack, V (p).fl, V (p).win, VS (p).body]] (.tup [Z (frF p), B p.ok]) [] := by
  refine con_i Tryz.func188 Tryz.ntmps188 (t := [(0, .agg [V (p).dm, V (p).sm, V (p).vl, V (p).tos, V (p).id, V (p).ttl, V (p).si, V (p).di, V (p).kind, V (p).sp, V (p).dp, V (p).seq, V (p).ack, V (p).fl, V (p).win, VS (p).body])]) rfl ?_
  refine vc_sr ?_
  iterate 3 refine vo ?_
  refine vnt ?_
  refine vc_seq' ?_
  refine vc_sr ?_
  refine vo ?_
  refine voc c_spec_PacketOk rfl rfl ?_
  refine vo ?_
  refine vnt ?_
  refine vc_if (fun g1 => ?_) (fun g1 => ?_)
  · have g1 : p.ok = false := by first | exact g1 | (unfold Pk.ok Pk.sup; simpa using g1)
    refine vc_sr ?_
    iterate 2 refine vo ?_
    refine vnt ?_
    refine vc_ret ?_
    refine thn_r ?_
    refine fin_i [] rfl (fz ?_) trivial
    have hk : p.ok = false := g1
    rw [frF, hk]
    trivial
  · have hk : p.ok = true := by first | exact g1 | (unfold Pk.ok Pk.sup; simpa using g1)
    have hs : p.sup = true := by unfold Pk.ok at hk; rw [Bool.and_eq_true] at hk; exact hk.1
    have hi := sup_img hs
    have hi2 : (imgR p.dm p.sm p.vl p.tos p.id p.ttl p.si p.di p.kind p.sp p.dp p.seq p.ack p.fl p.win p.body).size ≤ 1000 := hi.2
    refine vc_skip ?_
    refine thn ?_
    refine vc_sr ?_
    refine vo ?_
    refine voc c_spec_BuildImage rfl rfl ?_
    iterate 5 refine vo ?_
    refine vnt ?_
    refine vc_sr ?_
    refine vo ?_
    refine voc c_spec_WithFcs rfl rfl ?_
    iterate 2 refine vo ?_
    refine vnt ?_
    refine vc_ret ?_
    refine fin_i [] rfl (fz ?_) trivial
    rw [frF, hk]
    trivial
theorem at'_mem {α : Type} [Inhabited α] {l : List α} {i : Nat} (h : i < l.length) : at' l i ∈ l := by rw [atq_eq h]; exact List.getElem_mem h
set_option maxHeartbeats 4000000 in
theorem c_impl_FrameAll {ps : List Pk} (hl : ps.length ≤ 1099511627776 := by first | assumption | omega) (hz : ∀ p ∈ ps, p.body.size ≤ 1099511627776 := by assumption) : Con0 Tryz.prog 186 [.one (.sl 16 (ps.map pkE))] (.one (.hs 0)) [(0, .arr 9 1 ((framesF ps).map strE))] := by
  refine con_i Tryz.func186 Tryz.ntmps186 (t := [(0, .one (.sl 16 (ps.map pkE)))]) rfl ?_
  refine vc_sr ?_
  refine vo ?_
  refine vnt ?_
  refine vc_sr ?_
  iterate 2 refine vo ?_
  refine vnt ?_
  refine vc_seq' ?_
  refine vc_sr ?_
  iterate 2 refine vo ?_
  try first | refine vlb ?_ | refine vln ?_
  refine vo ?_
  refine vnt ?_
  refine vc_block ?_
  refine vc_lp (σ := Nat) [9, 10] [] (fun i => [(3, .one (.hs 7)), (11, I (i : Nat))]) (fun i => [(7, .arr 9 1 ((framesF (ps.take i)).map strE))]) (fun i => i ≤ ps.length) (fun i => ps.length - i) 0 rfl rfl (sub_i [(7, some 64)] (fz ?_) (fz ?_)) ?_ fun i hI => ?_
  · first | trivial | rfl
  · first | trivial | rfl
  · exact Nat.zero_le _
  refine vc_nf rfl rfl ?_
  have hzi : i < ps.length → (at' ps i).body.size ≤ 1099511627776 := fun h => hz _ (at'_mem h)
  have hfl : (framesF (ps.take i)).length ≤ i := Nat.le_trans (frames_le _) (by rw [List.length_take]; omega)
  refine vc_sr ?_
  refine vo ?_
  refine vnt ?_
  refine vc_seq' ?_
  refine vc_if (fun g1 => ?_) (fun g1 => ?_)
  · refine vc_skip ?_
    refine thn ?_
    refine vc_seq' ?_
    refine vc_block ?_
    refine vc_sr ?_
    refine vo ?_
    try with_reducible (first | refine vep ?_ | refine vpt ?_)
    iterate 3 refine vo ?_
    refine vnt ?_
    refine vc_sr ?_
    refine vo ?_
    refine voc c_impl_BuildFrame rfl rfl ?_
    iterate 5 refine vo ?_
    refine vnt ?_
    refine vc_sr ?_
    refine vo ?_
    refine vnt ?_
    refine vc_if (fun g2 => ?_) (fun g2 => ?_)
    · refine vc_region ?_
      iterate 5 refine vo ?_
      refine vnil ?_
      refine inB_n ?_
      refine thn ?_
      refine vc_region ?_
      refine vo ?_
      try refine vwr ?_
      refine vo ?_
      refine vnt ?_
      refine ⟨i + 1, ?_, ?_, sub_i [(7, some 192)] (fz ?_) (fz ?_)⟩
      · omega
      · omega
      · first | trivial | rfl | exact ⟨rfl, rfl⟩
      · rw [← frames_y (l := ps) (i := i) g1 (by assumption)]; simp [strE]
    · refine vc_skip ?_
      refine inB_n ?_
      refine thn ?_
      refine vc_region ?_
      refine vo ?_
      try refine vwr ?_
      refine vo ?_
      refine vnt ?_
      refine ⟨i + 1, ?_, ?_, sub_i [(7, some 7)] (fz ?_) (fz ?_)⟩
      · omega
      · omega
      · first | trivial | rfl | exact ⟨rfl, rfl⟩
      · rw [← frames_n (l := ps) (i := i) g1 (by assumption)]
  · refine vc_exit ?_
    refine thn_x ?_
    refine thn_x ?_
    refine inB_x ?_
    refine thn ?_
    refine vc_sr ?_
    iterate 2 refine vo ?_
    refine vnt ?_
    refine vc_ret ?_
    refine fin_i [(0, some 7)] rfl (fz ?_) (fz ?_)
    · trivial
    · rw [frames_end (by omega)]
set_option maxHeartbeats 4000000 in
theorem c_spec_FrameAll {ps : List Pk} (hl : ps.length ≤ 1099511627776 := by first | assumption | omega) (hz : ∀ p ∈ ps, p.body.size ≤ 1099511627776 := by assumption) : Con0 Tryz.prog 90 [.one (.sl 16 (ps.map pkE))] (.one (.hs 0)) [(0, .arr 9 1 ((framesF ps).map strE))] := by
  refine con_i Tryz.func90 Tryz.ntmps90 (t := [(0, .one (.sl 16 (ps.map pkE)))]) rfl ?_
  refine vc_sr ?_
  refine vo ?_
  refine vnt ?_
  refine vc_sr ?_
  iterate 2 refine vo ?_
  refine vnt ?_
  refine vc_seq' ?_
  refine vc_sr ?_
  refine vo ?_
  refine vnt ?_
  refine vc_block ?_
  refine vc_lp (σ := Nat) [0] [] (fun i => [(3, .one (.hs 7)), (4, I (i : Nat))]) (fun i => [(7, .arr 9 1 ((framesF (ps.take i)).map strE))]) (fun i => i ≤ ps.length) (fun i => ps.length - i) 0 rfl rfl (sub_i [(7, some 56)] (fz ?_) (fz ?_)) ?_ fun i hI => ?_
  · first | trivial | rfl
  · first | trivial | rfl
  · exact Nat.zero_le _
  refine vc_nf rfl rfl ?_
  have hzi : i < ps.length → (at' ps i).body.size ≤ 1099511627776 := fun h => hz _ (at'_mem h)
  have hfl : (framesF (ps.take i)).length ≤ i := Nat.le_trans (frames_le _) (by rw [List.length_take]; omega)
  refine vc_seq' ?_
  refine vc_sr ?_
  iterate 3 refine vo ?_
  try first | refine vlb ?_ | refine vln ?_
  refine vo ?_
  refine vnt ?_
  refine vc_if (fun g1 => ?_) (fun g1 => ?_)
  · refine vc_skip ?_
    refine thn ?_
    refine vc_seq' ?_
    refine vc_block ?_
    refine vc_sr ?_
    iterate 3 refine vo ?_
    try with_reducible (first | refine vep ?_ | refine vpt ?_)
    refine vo ?_
    refine voc c_spec_BuildFrame rfl rfl ?_
    iterate 5 refine vo ?_
    refine vnt ?_
    refine vc_sr ?_
    refine vo ?_
    refine vnt ?_
    refine vc_if (fun g2 => ?_) (fun g2 => ?_)
    · refine vc_region ?_
      iterate 5 refine vo ?_
      refine vnil ?_
      refine inB_n ?_
      refine thn ?_
      refine vc_region ?_
      iterate 2 refine vo ?_
      try refine vwr ?_
      refine vo ?_
      refine vnt ?_
      refine ⟨i + 1, ?_, ?_, sub_i [(7, some 208)] (fz ?_) (fz ?_)⟩
      · omega
      · omega
      · first | trivial | rfl | exact ⟨rfl, rfl⟩
      · rw [← frames_y (l := ps) (i := i) g1 (by assumption)]; simp [strE]
    · refine vc_skip ?_
      refine inB_n ?_
      refine thn ?_
      refine vc_region ?_
      iterate 2 refine vo ?_
      try refine vwr ?_
      refine vo ?_
      refine vnt ?_
      refine ⟨i + 1, ?_, ?_, sub_i [(7, some 7)] (fz ?_) (fz ?_)⟩
      · omega
      · omega
      · first | trivial | rfl | exact ⟨rfl, rfl⟩
      · rw [← frames_n (l := ps) (i := i) g1 (by assumption)]
  · refine vc_exit ?_
    refine thn_x ?_
    refine thn_x ?_
    refine inB_x ?_
    refine thn ?_
    refine vc_sr ?_
    iterate 2 refine vo ?_
    refine vnt ?_
    refine vc_ret ?_
    refine fin_i [(0, some 7)] rfl (fz ?_) (fz ?_)
    · trivial
    · rw [frames_end (by omega)]
theorem mul_s (k : Nat) (size : Int) : ((k : Int) + 1) * size = (k : Int) * size + size := by rw [Int.add_mul, Int.one_mul]
theorem mul_nn {k : Nat} {size : Int} (h : 0 ≤ size) : 0 ≤ (k : Int) * size := Int.mul_nonneg (by omega) h
theorem mul_b2 {k : Nat} {size : Int} (h1 : k ≤ 320) (h2 : 0 ≤ size) (h3 : size ≤ 128) : (k : Int) * size ≤ 40960 := by
  have := Int.mul_le_mul (show (k : Int) ≤ 320 by omega) h3 h2 (by omega)
  omega
theorem mul_lt {k : Nat} {n : Nat} {size : Int} (h1 : 1 ≤ size) (h2 : (k : Int) * size < n) : k < n := by
  have : (k : Int) * 1 ≤ (k : Int) * size := Int.mul_le_mul_of_nonneg_left h1 (by omega)
  omega
theorem sup_pk {p : Pk} (h : p.sup = true) : p.body.size ≤ 320 ∧ (0 ≤ p.seq ∧ p.seq ≤ 4294967295) ∧ (0 ≤ p.id ∧ p.id ≤ 65535) := by
  have h0 := sup_len h
  unfold Pk.sup at h
  simp only [superOkB, segOkB, Bool.and_eq_true, Bool.or_eq_true, inB_iff, Bool.not_eq_true', decide_eq_false_iff_not, beq_iff_eq] at h
  obtain ⟨_, _, _, _, _, h1, _, _, ⟨h2, h3⟩, _⟩ := h
  refine ⟨h0, ?_, h1⟩
  rcases h3 with ⟨_, a, _, b, _⟩ | ⟨_, _, a, _, b, _⟩
  · exact a
  · omega
set_option maxHeartbeats 4000000 in
theorem c_impl_Split {p : Pk} {size : Int} (hz_p : p.body.size ≤ 1099511627776 := by first | assumption | omega) : Con0 Tryz.prog 187 [.agg [V (p).dm, V (p).sm, V (p).vl, V (p).tos, V (p).id, V (p).ttl, V (p).si, V (p).di, V (p).kind, V (p).sp, V (p).dp, V (p).seq, V (p).ack, V (p).fl, V (p).win, VS (p).body], I size] (.one (.hs 0)) [(0, .arr 39 16 ((splitF p size).map pkE))] := by
  refine con_i Tryz.func187 Tryz.ntmps187 (t := [(0, .agg [V (p).dm, V (p).sm, V (p).vl, V (p).tos, V (p).id, V (p).ttl, V (p).si, V (p).di, V (p).kind, V (p).sp, V (p).dp, V (p).seq, V (p).ack, V (p).fl, V (p).win, VS (p).body]), (1, I size)]) rfl ?_
  refine vc_sr ?_
  iterate 2 refine vo ?_
  refine vnt ?_
  refine vc_seq' ?_
  refine vc_sr ?_
  refine vo ?_
  refine voc c_impl_SuperOk rfl rfl ?_
  iterate 2 refine vo ?_
  refine vsp (fun g1 => ?_) (fun g1 => ?_)
  · iterate 3 refine vof ?_
    refine vo ?_
    refine vnt ?_
    refine vc_then ?_
    refine vc_sr ?_
    refine vo ?_
    refine vnt ?_
    refine vc_ret ?_
    refine thn_r ?_
    refine fin_i [(0, none)] rfl (fz ?_) (fz ?_)
    · trivial
    · rw [split_0 (.inl g1)]; rfl
  · have hs : p.sup = true := g1
    refine von ?_
    refine vocn c_impl_between rfl rfl ?_
    refine von ?_
    refine vo ?_
    refine vnt ?_
    refine vc_if (fun g2 => ?_) (fun g2 => ?_)
    · refine vc_sr ?_
      refine vo ?_
      refine vnt ?_
      refine vc_ret ?_
      refine thn_r ?_
      refine fin_i [(0, none)] rfl (fz ?_) (fz ?_)
      · trivial
      · rw [split_0 (.inr g2)]; rfl
    · have hz2 := inB_iff.1 g2
      obtain ⟨hbz, hsq, hid⟩ := sup_pk hs
      refine vc_skip ?_
      refine thn ?_
      refine vc_sr ?_
      iterate 4 refine vo ?_
      refine vnt ?_
      refine vc_seq' ?_
      refine vc_sr ?_
      iterate 5 refine vo ?_
      refine vsp (fun g3 => ?_) (fun g3 => ?_)
      · iterate 4 refine vof ?_
        refine vo ?_
        refine vnt ?_
        refine vc_then ?_
        refine vc_sr ?_
        iterate 3 refine vo ?_
        refine vnt ?_
        refine vc_ret ?_
        refine thn_r ?_
        refine fin_i [(0, some 256)] rfl (fz ?_) (fz ?_)
        · trivial
        · rw [split_1 hs g2 (.inl g3)]; rfl
      · iterate 4 refine von ?_
        refine vo ?_
        refine vnt ?_
        refine vc_if (fun g4 => ?_) (fun g4 => ?_)
        · refine vc_sr ?_
          iterate 3 refine vo ?_
          refine vnt ?_
          refine vc_ret ?_
          refine thn_r ?_
          refine fin_i [(0, some 256)] rfl (fz ?_) (fz ?_)
          · trivial
          · rw [split_1 hs g2 (.inr g4)]; rfl
        · refine vc_skip ?_
          refine thn ?_
          refine vc_sr ?_
          iterate 2 refine vo ?_
          refine vnt ?_
          refine vc_seq' ?_
          refine vc_sr ?_
          refine vo ?_
          refine vnt ?_
          refine vc_block ?_
          refine vc_lp (σ := Nat) [1, 2, 5] [16] (fun k => [(6, .one (.hs 7)), (7, I (k : Nat))]) (fun k => [(7, .arr 39 16 (((List.range k).map (p.part size)).map pkE))]) (fun k => k ≤ p.body.size ∧ (0 < k → ((k : Int) - 1) * size < p.body.size)) (fun k => p.body.size - k) 0 rfl rfl (sub_i [(7, some 264)] (fz ?_) (fz ?_)) ?_ fun k hI => ?_
          · first | trivial | rfl
          · first | trivial | rfl
          · exact ⟨Nat.zero_le _, fun h => by omega⟩
          refine vc_nf rfl rfl ?_
          have hlr : (List.range k).length = k := List.length_range
          have hmb := mul_b2 (k := k) (size := size) (by omega) (by omega) (by omega)
          have hm := mul_s k size
          have hn := mul_nn (k := k) (show 0 ≤ size by omega)
          refine vc_seq' ?_
          refine vc_sr ?_
          iterate 3 refine vo ?_
          try refine vwr ?_
          iterate 3 refine vo ?_
          refine vnt ?_
          refine vc_if (fun g5 => ?_) (fun g5 => ?_)
          · have hlt : (k : Int) * size < p.body.size := g5
            have hkn := mul_lt (by omega) hlt
            refine vc_skip ?_
            refine thn ?_
            refine vc_seq' ?_
            refine vc_block ?_
            refine vc_sr ?_
            iterate 3 refine vo ?_
            refine vnt ?_
            refine vc_sr ?_
            iterate 2 refine vo ?_
            try refine vwr ?_
            iterate 2 refine vo ?_
            try refine vwr ?_
            refine vo ?_
            refine vnt ?_
            refine vc_seq' ?_
            refine vc_sr ?_
            iterate 4 refine vo ?_
            refine vnt ?_
            refine vc_if (fun g6 => ?_) (fun g6 => ?_)
            · have hfl : (if ((k : Int) + 1) * size < (p.body.size : Int) then andNotI p.fl 9 else p.fl) = andNotI p.fl 9 := if_pos g6
              refine vc_region ?_
              iterate 7 refine vo ?_
              refine vnt ?_
              refine vc_sr ?_
              iterate 4 refine vo ?_
              try refine vwr ?_
              iterate 2 refine vo ?_
              try first | refine vdr ?_ | refine vtk ?_
              iterate 3 refine vo ?_
              refine vnt ?_
              refine vc_sr ?_
              iterate 6 refine vo ?_
              try refine vwr ?_
              refine vo ?_
              try refine vwr ?_
              refine vo ?_
              try refine veq (Int.tmod_eq_emod_of_nonneg (by omega)) ?_
              iterate 3 refine vo ?_
              refine vnt ?_
              refine vc_sr ?_
              iterate 4 refine vo ?_
              try refine vwr ?_
              refine vo ?_
              try refine veq (Int.tmod_eq_emod_of_nonneg (by omega)) ?_
              iterate 2 refine vo ?_
              refine vnt ?_
              refine vc_region ?_
              iterate 5 refine vo ?_
              refine vnil ?_
              refine inB_n ?_
              refine thn ?_
              refine vc_region ?_
              iterate 2 refine vo ?_
              try refine vwr ?_
              refine vo ?_
              refine vnt ?_
              refine ⟨k + 1, ?_, ?_, sub_i [(7, some 688)] (fz ?_) (fz ?_)⟩
              · refine ⟨by omega, fun _ => ?_⟩; rw [show ((k + 1 : Nat) : Int) - 1 = k by omega]; exact hlt
              · omega
              · first | trivial | rfl | exact ⟨rfl, rfl⟩
              · rw [← part_stp]; simp [pkE, Pk.part, hfl, Int.tmod_eq_emod_of_nonneg]; try (congr 1; omega)
            · have hfl : (if ((k : Int) + 1) * size < (p.body.size : Int) then andNotI p.fl 9 else p.fl) = p.fl := if_neg (by omega)
              refine vc_region ?_
              iterate 3 refine vo ?_
              refine vnt ?_
              refine vc_sr ?_
              iterate 4 refine vo ?_
              try refine vwr ?_
              iterate 2 refine vo ?_
              try first | refine vdr ?_ | refine vtk ?_
              iterate 3 refine vo ?_
              refine vnt ?_
              refine vc_sr ?_
              iterate 6 refine vo ?_
              try refine vwr ?_
              refine vo ?_
              try refine vwr ?_
              refine vo ?_
              try refine veq (Int.tmod_eq_emod_of_nonneg (by omega)) ?_
              iterate 3 refine vo ?_
              refine vnt ?_
              refine vc_sr ?_
              iterate 4 refine vo ?_
              try refine vwr ?_
              refine vo ?_
              try refine veq (Int.tmod_eq_emod_of_nonneg (by omega)) ?_
              iterate 2 refine vo ?_
              refine vnt ?_
              refine vc_region ?_
              iterate 5 refine vo ?_
              refine vnil ?_
              refine inB_n ?_
              refine thn ?_
              refine vc_region ?_
              iterate 2 refine vo ?_
              try refine vwr ?_
              refine vo ?_
              refine vnt ?_
              refine ⟨k + 1, ?_, ?_, sub_i [(7, some 688)] (fz ?_) (fz ?_)⟩
              · refine ⟨by omega, fun _ => ?_⟩; rw [show ((k + 1 : Nat) : Int) - 1 = k by omega]; exact hlt
              · omega
              · first | trivial | rfl | exact ⟨rfl, rfl⟩
              · rw [← part_stp]; simp [pkE, Pk.part, hfl, Int.tmod_eq_emod_of_nonneg]; try (congr 1; omega)
          · refine vc_exit ?_
            refine thn_x ?_
            refine thn_x ?_
            refine inB_x ?_
            refine thn ?_
            refine vc_sr ?_
            iterate 2 refine vo ?_
            refine vnt ?_
            refine vc_ret ?_
            refine fin_i [(0, some 7)] rfl (fz ?_) (fz ?_)
            · trivial
            · rw [split_n hs g2 (by omega) (by omega) (by omega) hI.2]
set_option maxHeartbeats 4000000 in
theorem c_spec_Split {p : Pk} {size : Int} (hz_p : p.body.size ≤ 1099511627776 := by first | assumption | omega) : Con0 Tryz.prog 91 [.agg [V (p).dm, V (p).sm, V (p).vl, V (p).tos, V (p).id, V (p).ttl, V (p).si, V (p).di, V (p).kind, V (p).sp, V (p).dp, V (p).seq, V (p).ack, V (p).fl, V (p).win, VS (p).body], I size] (.one (.hs 0)) [(0, .arr 39 16 ((splitF p size).map pkE))] := by
  refine con_i Tryz.func91 Tryz.ntmps91 (t := [(0, .agg [V (p).dm, V (p).sm, V (p).vl, V (p).tos, V (p).id, V (p).ttl, V (p).si, V (p).di, V (p).kind, V (p).sp, V (p).dp, V (p).seq, V (p).ack, V (p).fl, V (p).win, VS (p).body]), (1, I size)]) rfl ?_
  refine vc_sr ?_
  iterate 2 refine vo ?_
  refine vnt ?_
  refine vc_sr ?_
  iterate 2 refine vo ?_
  refine vnt ?_
  refine vc_seq' ?_
  refine vc_sr ?_
  refine vo ?_
  refine voc c_spec_SuperOk rfl rfl ?_
  iterate 2 refine vo ?_
  refine vsp (fun g1 => ?_) (fun g1 => ?_)
  · iterate 3 refine vof ?_
    refine vo ?_
    refine vnt ?_
    refine vc_then ?_
    refine vc_sr ?_
    iterate 2 refine vo ?_
    refine vnt ?_
    refine vc_ret ?_
    refine thn_r ?_
    refine fin_i [(0, some 72)] rfl (fz ?_) (fz ?_)
    · trivial
    · rw [split_0 (.inl g1)]; rfl
  · have hs : p.sup = true := g1
    refine von ?_
    refine vocn c_spec_l01In rfl rfl ?_
    refine von ?_
    refine vo ?_
    refine vnt ?_
    refine vc_if (fun g2 => ?_) (fun g2 => ?_)
    · refine vc_sr ?_
      iterate 2 refine vo ?_
      refine vnt ?_
      refine vc_ret ?_
      refine thn_r ?_
      refine fin_i [(0, some 72)] rfl (fz ?_) (fz ?_)
      · trivial
      · rw [split_0 (.inr g2)]; rfl
    · have hz2 := inB_iff.1 g2
      obtain ⟨hbz, hsq, hid⟩ := sup_pk hs
      refine vc_skip ?_
      refine thn ?_
      refine vc_sr ?_
      iterate 5 refine vo ?_
      refine vnt ?_
      refine vc_seq' ?_
      refine vc_sr ?_
      iterate 5 refine vo ?_
      refine vsp (fun g3 => ?_) (fun g3 => ?_)
      · iterate 3 refine vof ?_
        refine vo ?_
        refine vnt ?_
        refine vc_then ?_
        refine vc_sr ?_
        iterate 5 refine vo ?_
        refine vnt ?_
        refine vc_ret ?_
        refine thn_r ?_
        refine fin_i [(0, some 280)] rfl (fz ?_) (fz ?_)
        · trivial
        · rw [split_1 hs g2 (.inl g3)]; rfl
      · iterate 3 refine von ?_
        refine vo ?_
        refine vnt ?_
        refine vc_if (fun g4 => ?_) (fun g4 => ?_)
        · refine vc_sr ?_
          iterate 5 refine vo ?_
          refine vnt ?_
          refine vc_ret ?_
          refine thn_r ?_
          refine fin_i [(0, some 280)] rfl (fz ?_) (fz ?_)
          · trivial
          · rw [split_1 hs g2 (.inr g4)]; rfl
        · refine vc_skip ?_
          refine thn ?_
          refine vc_seq' ?_
          refine vc_sr ?_
          refine vo ?_
          refine vnt ?_
          refine vc_block ?_
          refine vc_lp (σ := Nat) [1, 2, 6] [16] (fun k => [(5, .one (.hs 7)), (7, I (k : Nat))]) (fun k => [(7, .arr 39 16 (((List.range k).map (p.part size)).map pkE))]) (fun k => k ≤ p.body.size ∧ (0 < k → ((k : Int) - 1) * size < p.body.size)) (fun k => p.body.size - k) 0 rfl rfl (sub_i [(7, some 72)] (fz ?_) (fz ?_)) ?_ fun k hI => ?_
          · first | trivial | rfl
          · first | trivial | rfl
          · exact ⟨Nat.zero_le _, fun h => by omega⟩
          refine vc_nf rfl rfl ?_
          have hlr : (List.range k).length = k := List.length_range
          have hmb := mul_b2 (k := k) (size := size) (by omega) (by omega) (by omega)
          have hm := mul_s k size
          have hn := mul_nn (k := k) (show 0 ≤ size by omega)
          refine vc_seq' ?_
          refine vc_sr ?_
          iterate 3 refine vo ?_
          try refine vwr ?_
          iterate 2 refine vo ?_
          refine vnt ?_
          refine vc_if (fun g5 => ?_) (fun g5 => ?_)
          · have hlt : (k : Int) * size < p.body.size := g5
            have hkn := mul_lt (by omega) hlt
            refine vc_skip ?_
            refine thn ?_
            refine vc_seq' ?_
            refine vc_block ?_
            refine vc_sr ?_
            iterate 3 refine vo ?_
            refine vnt ?_
            refine vc_sr ?_
            iterate 6 refine vo ?_
            try refine vwr ?_
            iterate 3 refine vo ?_
            try refine vwr ?_
            iterate 2 refine vo ?_
            try refine vwr ?_
            iterate 2 refine vo ?_
            try first | refine vdr ?_ | refine vtk ?_
            iterate 3 refine vo ?_
            refine vnt ?_
            refine vc_sr ?_
            iterate 6 refine vo ?_
            try refine vwr ?_
            refine vo ?_
            try refine vwr ?_
            refine vo ?_
            try refine veq (Int.tmod_eq_emod_of_nonneg (by omega)) ?_
            iterate 3 refine vo ?_
            refine vnt ?_
            refine vc_sr ?_
            iterate 4 refine vo ?_
            try refine vwr ?_
            refine vo ?_
            try refine veq (Int.tmod_eq_emod_of_nonneg (by omega)) ?_
            iterate 2 refine vo ?_
            refine vnt ?_
            refine vc_seq' ?_
            refine vc_sr ?_
            iterate 2 refine vo ?_
            try refine vwr ?_
            iterate 2 refine vo ?_
            try refine vwr ?_
            iterate 2 refine vo ?_
            refine vnt ?_
            refine vc_if (fun g6 => ?_) (fun g6 => ?_)
            · have hfl : (if ((k : Int) + 1) * size < (p.body.size : Int) then andNotI p.fl 9 else p.fl) = andNotI p.fl 9 := if_pos g6
              refine vc_region ?_
              iterate 7 refine vo ?_
              refine vnt ?_
              refine vc_region ?_
              iterate 5 refine vo ?_
              refine vnil ?_
              refine inB_n ?_
              refine thn ?_
              refine vc_region ?_
              iterate 2 refine vo ?_
              try refine vwr ?_
              refine vo ?_
              refine vnt ?_
              refine ⟨k + 1, ?_, ?_, sub_i [(7, some 720)] (fz ?_) (fz ?_)⟩
              · refine ⟨by omega, fun _ => ?_⟩; rw [show ((k + 1 : Nat) : Int) - 1 = k by omega]; exact hlt
              · omega
              · first | trivial | rfl | exact ⟨rfl, rfl⟩
              · rw [← part_stp]; simp [pkE, Pk.part, hfl, Int.tmod_eq_emod_of_nonneg]; try (congr 1; omega)
            · have hfl : (if ((k : Int) + 1) * size < (p.body.size : Int) then andNotI p.fl 9 else p.fl) = p.fl := if_neg (by omega)
              refine vc_skip ?_
              refine thn ?_
              refine vc_region ?_
              iterate 5 refine vo ?_
              refine vnil ?_
              refine inB_n ?_
              refine thn ?_
              refine vc_region ?_
              iterate 2 refine vo ?_
              try refine vwr ?_
              refine vo ?_
              refine vnt ?_
              refine ⟨k + 1, ?_, ?_, sub_i [(7, some 720)] (fz ?_) (fz ?_)⟩
              · refine ⟨by omega, fun _ => ?_⟩; rw [show ((k + 1 : Nat) : Int) - 1 = k by omega]; exact hlt
              · omega
              · first | trivial | rfl | exact ⟨rfl, rfl⟩
              · rw [← part_stp]; simp [pkE, Pk.part, hfl, Int.tmod_eq_emod_of_nonneg]; try (congr 1; omega)
          · refine vc_exit ?_
            refine thn_x ?_
            refine thn_x ?_
            refine inB_x ?_
            refine thn ?_
            refine vc_sr ?_
            iterate 2 refine vo ?_
            refine vnt ?_
            refine vc_ret ?_
            refine fin_i [(0, some 7)] rfl (fz ?_) (fz ?_)
            · trivial
            · rw [split_n hs g2 (by omega) (by omega) (by omega) hI.2]
end Go.Proofs.YtbdcaacpemkloaaGreat
end
section
namespace Go.Proofs.YtbdcaacpemkloaaGreat
open Go Go.RowKit Go.Vc
set_option linter.unusedVariables false
set_option linter.unusedSimpArgs false
set_option linter.unnecessarySimpa false
theorem split_sz {p : Pk} {size : Int} {M : Nat} (hp : p.body.size ≤ M) : ∀ q ∈ splitF p size, q.body.size ≤ M := by
  intro q hq
  unfold splitF at hq
  split at hq
  · split at hq
    · obtain ⟨k, _, rfl⟩ := List.mem_map.1 hq
      unfold Pk.part
      simp only [ByteArray.size_extract]
      omega
    · rw [List.mem_singleton.1 hq]; exact hp
  · cases hq
theorem podF_y {l : List Dsc} (h : podB l = true) : podF l = podL l := if_pos h
theorem gath_sz {l : List Mp} {ps : Pg} {d : Int} : ∀ (pcs : List Pc) (o : ByteArray), (∀ p ∈ pcs, p.2 ≤ 4096) → (gath l ps d pcs o).1.size ≤ o.size + 4096 * pcs.length
  | [], o, h => by simp [gath]
  | p :: r, o, h => by
    simp only [gath]
    split
    · have h1 := gath_sz (l := l) (ps := ps) (d := d) r (o ++ (dmaRF l ps d p.1 p.2).1) fun q hq => h q (List.mem_cons_of_mem _ hq)
      have h2 := dmaRF_le l ps d p.1 p.2 (h p (List.mem_cons_self ..))
      rw [ByteArray.size_append] at h1
      simp only [List.length_cons]
      omega
    · exact Nat.zero_le _
theorem gathF_sz (l : List Mp) (ps : Pg) (d : Int) (pcs : List Pc) : (gathF l ps d pcs).1.size ≤ 65536 := by
  by_cases h : pcsOk pcs = true
  · obtain ⟨h1, h2⟩ := pcsOk_iff.1 h
    rw [gathF_y h]
    have := gath_sz (l := l) (ps := ps) (d := d) pcs ⟨#[]⟩ fun p hp => by
      obtain ⟨i, hi, rfl⟩ := List.getElem_of_mem hp
      have := (h1 i hi).2.2
      rwa [atq_eq hi] at this
    have e : (⟨#[]⟩ : ByteArray).size = 0 := rfl
    omega
  · rw [gathF_n (by simpa using h)]; exact Nat.zero_le _
theorem fsF_sz (t : ByteArray) : (fsF t).size ≤ 1000 := by
  unfold fsF
  split
  · rename_i h
    exact (sup_img (rdC_sup (fs_facts h).2.1)).2
  · exact Nat.zero_le _
theorem rdF_sz (s : ByteArray) : (rdF s).body.size ≤ 320 := by
  by_cases h : rdC s = 0
  · exact sup_len (rdC_sup h)
  · rw [rdF, if_neg h]; exact Nat.zero_le _
theorem tx_idle {l : List Mp} {ps : Pg} {d b s h t : Int} (hc : (txF l ps d b s h t).2.2 = 0) : (txF l ps d b s h t).1 = h := by
  by_cases q : ringOkB b s h t = true
  · by_cases hu : usedF s h t = 0
    · rw [tx_0 (.inr hu)]
    · by_cases g : txB l ps d b s h t = true
      · rw [tx_1 q hu g] at hc; simp at hc
      · rw [tx_2 q hu (by simpa using g)] at hc; simp at hc
  · rw [tx_0 (.inl (by simpa using q))]
set_option maxHeartbeats 4000000 in
theorem c_impl_SendFrames {p : Pk} {size : Int} (hz_p : p.body.size ≤ 1099511627776 := by first | assumption | omega) : Con0 Tryz.prog 89 [.agg [V (p).dm, V (p).sm, V (p).vl, V (p).tos, V (p).id, V (p).ttl, V (p).si, V (p).di, V (p).kind, V (p).sp, V (p).dp, V (p).seq, V (p).ack, V (p).fl, V (p).win, VS (p).body], I size] (.one (.hs 0)) [(0, .arr 9 1 ((framesF (splitF p size)).map strE))] := by
  have hsl := split_le p size
  have hz := split_sz (size := size) hz_p
  refine con_i Tryz.func89 Tryz.ntmps89 (t := [(0, .agg [V (p).dm, V (p).sm, V (p).vl, V (p).tos, V (p).id, V (p).ttl, V (p).si, V (p).di, V (p).kind, V (p).sp, V (p).dp, V (p).seq, V (p).ack, V (p).fl, V (p).win, VS (p).body]), (1, I size)]) rfl ?_
  refine vc_sr ?_
  iterate 2 refine vo ?_
  refine vnt ?_
  refine vc_sr ?_
  iterate 2 refine vo ?_
  refine voc c_impl_Split rfl rfl ?_
  refine voc c_impl_FrameAll rfl rfl ?_
  refine vo ?_
  refine vnt ?_
  refine vc_ret ?_
  refine fin_i [(0, some 64)] rfl (fz ?_) (fz ?_) <;> trivial
set_option maxHeartbeats 4000000 in
theorem c_spec_SendFrames {p : Pk} {size : Int} (hz_p : p.body.size ≤ 1099511627776 := by first | assumption | omega) : Con0 Tryz.prog 15 [.agg [V (p).dm, V (p).sm, V (p).vl, V (p).tos, V (p).id, V (p).ttl, V (p).si, V (p).di, V (p).kind, V (p).sp, V (p).dp, V (p).seq, V (p).ack, V (p).fl, V (p).win, VS (p).body], I size] (.one (.hs 0)) [(0, .arr 9 1 ((framesF (splitF p size)).map strE))] := by
  have hsl := split_le p size
  have hz := split_sz (size := size) hz_p
  refine con_i Tryz.func15 Tryz.ntmps15 (t := [(0, .agg [V (p).dm, V (p).sm, V (p).vl, V (p).tos, V (p).id, V (p).ttl, V (p).si, V (p).di, V (p).kind, V (p).sp, V (p).dp, V (p).seq, V (p).ack, V (p).fl, V (p).win, VS (p).body]), (1, I size)]) rfl ?_
  refine vc_sr ?_
  iterate 2 refine vo ?_
  refine vnt ?_
  refine vc_sr ?_
  iterate 2 refine vo ?_
  refine voc c_spec_Split rfl rfl ?_
  refine voc c_spec_FrameAll rfl rfl ?_
  refine vo ?_
  refine vnt ?_
  refine vc_ret ?_
  refine fin_i [(0, some 64)] rfl (fz ?_) (fz ?_) <;> trivial
set_option maxHeartbeats 4000000 in
theorem c_impl_TransmitNext {l : List Mp} {ps : Pg} {d b s h t : Int} (hl : l.length ≤ 1099511627776 := by first | with_reducible assumption | omega) (hp : ps.length ≤ 1099511627776 := by first | with_reducible assumption | omega) : Con0 Tryz.prog 13 [.one (.sl 4 (l.map mpE)), .agg [.sl 1 (ps.map strE)], I d, .agg [V b, V s, V h, V t]] (.tup [.agg [V b, V s, V (txF l ps d b s h t).1, V t], .one (.hs 0), I (txF l ps d b s h t).2.2]) [(0, .arr 9 1 ((txF l ps d b s h t).2.1.map strE))] := by
  have htl := tc_len l ps d b s h t
  refine con_i Tryz.func13 Tryz.ntmps13 (t := [(0, .one (.sl 4 (l.map mpE))), (1, .agg [.sl 1 (ps.map strE)]), (2, I d), (3, .agg [V b, V s, V h, V t])]) rfl ?_
  refine vc_sr ?_
  iterate 5 refine vo ?_
  refine vnt ?_
  refine vc_seq' ?_
  refine vc_sr ?_
  refine vo ?_
  refine voc c_impl_RingOk rfl rfl ?_
  iterate 2 refine vo ?_
  refine vsp (fun g1 => ?_) (fun g1 => ?_)
  · iterate 3 refine vof ?_
    refine vo ?_
    refine vnt ?_
    refine vc_then ?_
    refine vc_sr ?_
    iterate 4 refine vo ?_
    refine vnt ?_
    refine vc_ret ?_
    refine thn_r ?_
    have hh := tx_0 (l := l) (ps := ps) (d := d) (b := b) (s := s) (h := h) (t := t) (.inl g1)
    refine fin_i [(0, none)] rfl (fz ?_) (fz ?_)
    · rw [hh]; first | exact ⟨rfl, rfl⟩ | exact rfl
    · rw [hh]; first | exact rfl
  · have hs0 := (ringOk_facts g1).1
    refine von ?_
    refine vocn c_impl_RingUsed rfl rfl ?_
    refine von ?_
    refine vo ?_
    refine vnt ?_
    refine vc_if (fun g2 => ?_) (fun g2 => ?_)
    · refine vc_sr ?_
      iterate 4 refine vo ?_
      refine vnt ?_
      refine vc_ret ?_
      refine thn_r ?_
      have hh := tx_0 (l := l) (ps := ps) (d := d) (b := b) (s := s) (h := h) (t := t) (.inr g2)
      refine fin_i [(0, none)] rfl (fz ?_) (fz ?_)
      · rw [hh]; first | exact ⟨rfl, rfl⟩ | exact rfl
      · rw [hh]; first | exact rfl
    · refine vc_skip ?_
      refine thn ?_
      refine vc_sr ?_
      iterate 4 refine vo ?_
      refine voc c_impl_TakeChain rfl rfl ?_
      iterate 8 refine vo ?_
      refine vnt ?_
      refine vc_seq' ?_
      refine vc_sr ?_
      iterate 2 refine vo ?_
      refine vnt ?_
      refine vc_if (fun g3 => ?_) (fun g3 => ?_)
      · refine vc_sr ?_
        iterate 4 refine vo ?_
        refine vnt ?_
        refine vc_ret ?_
        refine thn_r ?_
        have hh := tx_2 g1 g2 (show txB l ps d b s h t = false by unfold txB; rw [g3]; rfl)
        refine fin_i [(0, none)] rfl (fz ?_) (fz ?_)
        · rw [hh]; first | exact ⟨rfl, rfl⟩ | exact rfl
        · rw [hh]; first | exact rfl
      · refine vc_skip ?_
        refine thn ?_
        refine vc_sr ?_
        refine vo ?_
        refine voc c_impl_PiecesOfDescs rfl rfl ?_
        iterate 9 refine vo ?_
        refine vnt ?_
        refine vc_seq' ?_
        refine vc_sr ?_
        iterate 2 refine vo ?_
        refine vnt ?_
        refine vc_if (fun g4 => ?_) (fun g4 => ?_)
        · refine vc_sr ?_
          iterate 4 refine vo ?_
          refine vnt ?_
          refine vc_ret ?_
          refine thn_r ?_
          have hh := tx_2 g1 g2 (show txB l ps d b s h t = false by unfold txB; rw [g4]; simp)
          refine fin_i [(0, none)] rfl (fz ?_) (fz ?_)
          · rw [hh]; first | exact ⟨rfl, rfl⟩ | exact rfl
          · rw [hh]; first | exact rfl
        · rw [podF_y g4]
          have hb : ∀ x ∈ podL (tcF l ps d b s h t).1, x.1 ≤ 9223372036854775807 := fun x hx => by have := (pod_at g4).2 x hx; omega
          have hpn := podL_len (tcF l ps d b s h t).1
          refine vc_skip ?_
          refine thn ?_
          refine vc_sr ?_
          iterate 4 refine vo ?_
          refine voc c_impl_GatherPieces rfl rfl ?_
          iterate 5 refine vo ?_
          refine vnt ?_
          refine vc_seq' ?_
          refine vc_sr ?_
          iterate 2 refine vo ?_
          refine vnt ?_
          refine vc_if (fun g5 => ?_) (fun g5 => ?_)
          · refine vc_sr ?_
            iterate 4 refine vo ?_
            refine vnt ?_
            refine vc_ret ?_
            refine thn_r ?_
            have hh := tx_2 g1 g2 (show txB l ps d b s h t = false by unfold txB; rw [g5]; simp)
            refine fin_i [(0, none)] rfl (fz ?_) (fz ?_)
            · rw [hh]; first | exact ⟨rfl, rfl⟩ | exact rfl
            · rw [hh]; first | exact rfl
          · refine vc_skip ?_
            refine thn ?_
            refine vc_sr ?_
            refine vo ?_
            have zg : (gathF l ps d (podL (tcF l ps d b s h t).1)).1.size ≤ 1099511627776 := Nat.le_trans (gathF_sz ..) (by decide)
            refine voc c_impl_FillSums rfl rfl ?_
            iterate 5 refine vo ?_
            refine vnt ?_
            refine vc_seq' ?_
            refine vc_sr ?_
            iterate 2 refine vo ?_
            refine vnt ?_
            refine vc_if (fun g6 => ?_) (fun g6 => ?_)
            · refine vc_sr ?_
              iterate 4 refine vo ?_
              refine vnt ?_
              refine vc_ret ?_
              refine thn_r ?_
              have hh := tx_2 g1 g2 (show txB l ps d b s h t = false by unfold txB; rw [g6]; simp)
              refine fin_i [(0, none)] rfl (fz ?_) (fz ?_)
              · rw [hh]; first | exact ⟨rfl, rfl⟩ | exact rfl
              · rw [hh]; first | exact rfl
            · refine vc_skip ?_
              refine thn ?_
              refine vc_sr ?_
              refine vo ?_
              have zf : (fsF (gathF l ps d (podL (tcF l ps d b s h t).1)).1).size ≤ 1099511627776 := Nat.le_trans (fsF_sz _) (by decide)
              refine voc c_impl_ReadImage rfl rfl ?_
              iterate 6 refine vo ?_
              refine vnt ?_
              refine vc_seq' ?_
              refine vc_sr ?_
              iterate 2 refine vo ?_
              refine vnt ?_
              refine vc_if (fun g7 => ?_) (fun g7 => ?_)
              · refine vc_sr ?_
                iterate 4 refine vo ?_
                refine vnt ?_
                refine vc_ret ?_
                refine thn_r ?_
                have hh := tx_2 g1 g2 (show txB l ps d b s h t = false by unfold txB; rw [decide_eq_false (p := rdC (txI l ps d b s h t) = 0) g7]; simp)
                refine fin_i [(0, none)] rfl (fz ?_) (fz ?_)
                · rw [hh]; first | exact ⟨rfl, rfl⟩ | exact rfl
                · rw [hh]; first | exact rfl
              · have zr : (rdF (fsF (gathF l ps d (podL (tcF l ps d b s h t).1)).1)).body.size ≤ 1099511627776 := Nat.le_trans (rdF_sz _) (by decide)
                refine vc_skip ?_
                refine thn ?_
                refine vc_sr ?_
                iterate 3 refine vo ?_
                refine voc c_impl_SendFrames rfl rfl ?_
                iterate 3 refine vo ?_
                refine vnt ?_
                refine vc_ret ?_
                have hh := tx_1 g1 g2 (show txB l ps d b s h t = true by unfold txB; rw [g3, g4, g5, g6, decide_eq_true (p := rdC (txI l ps d b s h t) = 0) g7]; rfl)
                refine fin_i [(0, some 656)] rfl (fz ?_) (fz ?_)
                · rw [hh]; first | exact ⟨rfl, rfl⟩ | exact rfl
                · rw [hh]; first | exact rfl
theorem vc_lp5 {P : Program} [TyEnv P] {n : Nat} {K : Post} {t t0 : Tm} {H H0 : Hp} {c : Code} {A B1 C D E : Type} (live keep : List Nat) (ov : A → B1 → C → D → E → Tm) (gv : A → B1 → C → D → E → Hp) (I : A → B1 → C → D → E → Prop) (μ : A → B1 → C → D → E → Nat) (x10 : A) (x20 : B1) (x30 : C) (x40 : D) (x50 : E) (ht : keepF t live = some t0) (hH : keepH H keep = some H0) (hs : Sub t H (ov x10 x20 x30 x40 x50 ++ t0) (gv x10 x20 x30 x40 x50 ++ H0)) (h0 : I x10 x20 x30 x40 x50)
    (h : ∀ x1 x2 x3 x4 x5, I x1 x2 x3 x4 x5 → VC P n c (thenP (fun t H => ∃ x1' x2' x3' x4' x5', I x1' x2' x3' x4' x5' ∧ μ x1' x2' x3' x4' x5' < μ x1 x2 x3 x4 x5 ∧ Sub t H (ov x1' x2' x3' x4' x5' ++ t0) (gv x1' x2' x3' x4' x5' ++ H0)) K) (ov x1 x2 x3 x4 x5 ++ t0) (gv x1 x2 x3 x4 x5 ++ H0)) : VC P n (.loop c) K t H :=
  vc_lp (σ := A × B1 × C × D × E) live keep (fun s => ov s.1 s.2.1 s.2.2.1 s.2.2.2.1 s.2.2.2.2) (fun s => gv s.1 s.2.1 s.2.2.1 s.2.2.2.1 s.2.2.2.2) (fun s => I s.1 s.2.1 s.2.2.1 s.2.2.2.1 s.2.2.2.2) (fun s => μ s.1 s.2.1 s.2.2.1 s.2.2.2.1 s.2.2.2.2) (x10, x20, x30, x40, x50) ht hH hs h0 fun s hi => vc_mono (h s.1 s.2.1 s.2.2.1 s.2.2.2.1 s.2.2.2.2 hi) fun e t H hk => by
    cases e <;> first | exact hk | (obtain ⟨x1', x2', x3', x4', x5', h1, h2, h3⟩ := hk; exact ⟨(x1', x2', x3', x4', x5'), h1, h2, h3⟩)
set_option maxHeartbeats 4000000 in
theorem c_impl_TransmitAll {l : List Mp} {ps : Pg} {d b s h t : Int} (hl : l.length ≤ 1099511627776 := by first | with_reducible assumption | omega) (hp : ps.length ≤ 1099511627776 := by first | with_reducible assumption | omega) : Con0 Tryz.prog 36 [.one (.sl 4 (l.map mpE)), .agg [.sl 1 (ps.map strE)], I d, .agg [V b, V s, V h, V t]] (.tup [.agg [V b, V s, V (txAF l ps d b s h t).1, V t], .one (.hs 0), I (txAF l ps d b s h t).2.2.1, I (txAF l ps d b s h t).2.2.2]) [(0, .arr 9 1 ((txAF l ps d b s h t).2.1.map strE))] := by
  refine con_i Tryz.func36 Tryz.ntmps36 (t := [(0, .one (.sl 4 (l.map mpE))), (1, .agg [.sl 1 (ps.map strE)]), (2, I d), (3, .agg [V b, V s, V h, V t])]) rfl ?_
  refine vc_sr ?_
  iterate 6 refine vo ?_
  refine vnt ?_
  refine vc_sr ?_
  iterate 2 refine vo ?_
  refine vnt ?_
  refine vc_sr ?_
  iterate 2 refine vo ?_
  refine vnt ?_
  refine vc_block ?_
  refine vc_lp5 [0, 2, 5, 7, 8] [40] (fun (n : Nat) (h1 : Int) (q : List ByteArray) (x : Int) (y : Int) => [(12, .one (.hs 7)), (13, I x), (14, I y)]) (fun (n : Nat) (h1 : Int) (q : List ByteArray) (x : Int) (y : Int) => [(7, .arr 9 1 (q.map strE)), (56, .row 29 [V b, V s, V h1, V t]), (64, .row 29 [V 0, V 0, V 0, V 0])]) (fun (n : Nat) (h1 : Int) (q : List ByteArray) (x : Int) (y : Int) => txAF l ps d b s h t = txAll l ps d b s t n h1 q x y ∧ usedB b s h1 t < n ∧ q.length + 320 * n ≤ 320 * 17 ∧ (0 ≤ x ∧ 0 ≤ y ∧ x + n ≤ 17 ∧ y + n ≤ 17)) (fun (n : Nat) (h1 : Int) (q : List ByteArray) (x : Int) (y : Int) => n) 17 h [] 0 0 rfl rfl (sub_i [(56, some 56), (64, some 64), (7, some 144)] (fz ?_) (fz ?_)) ?_ fun n h1 q x y hI => ?_
  · first | trivial | rfl
  · first | trivial | rfl | exact ⟨rfl, rfl⟩
  · exact ⟨rfl, by have := usedB_le b s h t; omega, by simp, by omega⟩
  refine vc_nf rfl rfl ?_
  have hdc : ¬ (txF l ps d b s h1 t).2.2 = 0 → _ := fun hc => tx_dec hc
  refine vc_block ?_
  refine vc_sr ?_
  iterate 4 refine vo ?_
  refine voc c_impl_TransmitNext rfl rfl ?_
  iterate 8 refine vo ?_
  refine vnt ?_
  refine vc_sr ?_
  iterate 2 refine vo ?_
  refine vnt ?_
  refine vc_seq' ?_
  refine vc_sr ?_
  refine vo ?_
  refine vnt ?_
  refine vc_block ?_
  refine vc_sr ?_
  iterate 2 refine vo ?_
  refine vnt ?_
  refine vc_if (fun g1 => ?_) (fun g1 => ?_)
  · refine vc_sr ?_
    iterate 8 refine vo ?_
    refine vnt ?_
    refine vc_ret ?_
    refine inB_r ?_
    refine thn_r ?_
    refine inB_r ?_
    refine thn_r ?_
    refine inB_r ?_
    have hh : txAF l ps d b s h t = (h1, q, x, y) := by rw [hI.1, txA_end g1]
    have hi := tx_idle g1
    refine fin_i [(0, some 7)] rfl (fz ?_) (fz ?_)
    · first | (rw [hh, hi]; trivial) | (rw [hh]; trivial)
    · rw [hh]
  · have gc : ¬ (txF l ps d b s h1 t).2.2 = 0 := g1
    have hd2 := hdc gc
    have hd3 := hd2.2
    refine vc_sr ?_
    iterate 2 refine vo ?_
    refine vnt ?_
    refine vc_if (fun g2 => ?_) (fun g2 => ?_)
    · refine vc_region ?_
      iterate 2 refine vo ?_
      try refine vwr ?_
      refine vo ?_
      refine vnil ?_
      refine inB_n ?_
      refine thn ?_
      refine vc_region ?_
      iterate 4 refine vo ?_
      refine vnil ?_
      refine inB_n ?_
      refine thn ?_
      refine ⟨n - 1, (txF l ps d b s h1 t).1, q ++ (txF l ps d b s h1 t).2.1, x + 1, y, ?_, ?_, sub_i [(56, some 56), (64, some 64), (7, some 352)] (fz ?_) (fz ?_)⟩
      · exact ⟨by rw [hI.1, txA_go (by omega) gc]; rw [if_pos (by omega), if_pos (by omega)], by omega, by rw [List.length_append]; omega, by omega⟩
      · omega
      · first | trivial | rfl | exact ⟨rfl, rfl⟩ | (refine ⟨?_, ?_, ?_⟩ <;> first | rfl | omega)
      · first | trivial | rfl | (refine ⟨?_, ?_⟩ <;> first | rfl | simp) | simp | trace_state
    · refine vc_region ?_
      iterate 2 refine vo ?_
      try refine vwr ?_
      refine vo ?_
      refine vnil ?_
      refine inB_n ?_
      refine thn ?_
      refine vc_region ?_
      iterate 4 refine vo ?_
      refine vnil ?_
      refine inB_n ?_
      refine thn ?_
      refine ⟨n - 1, (txF l ps d b s h1 t).1, q ++ (txF l ps d b s h1 t).2.1, x, y + 1, ?_, ?_, sub_i [(56, some 56), (64, some 64), (7, some 352)] (fz ?_) (fz ?_)⟩
      · exact ⟨by rw [hI.1, txA_go (by omega) gc]; rw [if_neg (by omega), if_neg (by omega)], by omega, by rw [List.length_append]; omega, by omega⟩
      · omega
      · first | trivial | rfl | exact ⟨rfl, rfl⟩ | (refine ⟨?_, ?_, ?_⟩ <;> first | rfl | omega)
      · first | trivial | rfl | (refine ⟨?_, ?_⟩ <;> first | rfl | simp) | simp | trace_state
end Go.Proofs.YtbdcaacpemkloaaGreat
end
section
namespace Go.Proofs.YtbdcaacpemkloaaGreat
open Go Go.RowKit Go.Vc
set_option linter.unusedVariables false
set_option linter.unusedSimpArgs false
set_option linter.unnecessarySimpa false
set_option maxHeartbeats 4000000 in
theorem c_laws_FnSentInOrder {v : Value} {code : List UInt8} (hv : v.oneCell' = true)  : ConV Tryz.prog 6 v code (α := Unit) (fun _ => True) (fun _ => .one (.v (.bool true))) (fun _ => []) := by
  refine conv_i Tryz.func6 Tryz.ntmps6 (fun L => ?_) hv
  refine vc_nf rfl rfl ?_
  refine vc_sr ?_
  refine vo ?_
  refine vnt ?_
  refine vc_seq' ?_
  refine vc_sr ?_
  refine vo ?_
  refine voc c_laws_big rfl rfl ?_
  refine vnt ?_
  refine vc_if (fun g1 => ?_) (fun g1 => ?_)
  · refine vc_sr ?_
    refine vo ?_
    refine vnt ?_
    refine vc_ret ?_
    refine thn_r ?_
    refine fin_g (()) (trivial) [(1000003, some 1000003)] rfl (fz ?_) (fz ?_) <;> first | trivial | rfl | trace_state
  · refine vc_skip ?_
    refine thn ?_
    refine vc_seq' ?_
    refine vc_sv ?_
    refine svo ?_
    refine svv (c_spec_DrawSending hv) (fun x hx => ?_)
    have hl12 : x.w.l.length = 12 := hx.1.2.1
    have hp12 : ps0.length = 12 := by simp [ps0]
    have ht10 : (tenF 10).length = 10 := tenF_len 10
    have hbd : x.p.body.size ≤ 320 := sup_len hx.2.1
    refine svo ?_
    refine svo ?_
    refine svo ?_
    refine svo ?_
    refine svo ?_
    refine svo ?_
    refine svo ?_
    refine svo ?_
    refine svo ?_
    refine svo ?_
    refine svo ?_
    refine svo ?_
    refine svo ?_
    refine svo ?_
    refine svo ?_
    refine svo ?_
    refine svnil ?_
    refine thn ?_
    refine vc_sr ?_
    iterate 2 refine vo ?_
    refine vnt ?_
    refine vc_sr ?_
    iterate 2 refine vo ?_
    refine vnt ?_
    refine vc_sr ?_
    iterate 4 refine vo ?_
    try first | refine vlb ?_ | refine vln ?_
    refine vo ?_
    refine vnt ?_
    refine vc_seq' ?_
    refine vc_sr ?_
    refine vo ?_
    refine vnt ?_
    refine vc_block ?_
    refine vc_lp (σ := Sio) [3, 4, 5, 6, 7, 8, 11] [232, 1000003] (fun S => [(9, .one (.hs 11)), (10, .one (.hs 12)), (12, I (S.k : Int))]) (fun S => [(7, .arr 9 1 (S.ps.map strE)), (9, .arr 3 1 (S.fr.map intE)), (10, .own (sntOw 140 3 (S.ws.map snE))), (11, .arr 9 1 ((wantF x.size S.C).map strE)), (12, .arr 3 1 ((S.ws.map (·.1)).map intE)), (32, .row 27 [.hs 7]), (40, .row 35 [V 0, V x.w.s, V x.w.h, V S.t, V 256, V 128, V 10, .hs 9, .hs 10, V S.nx]), (48, .row 39 [V x.p.dm, V x.p.sm, V x.p.vl, V x.p.tos, V S.id, V x.p.ttl, V x.p.si, V x.p.di, V x.p.kind, V x.p.sp, V x.p.dp, V x.p.seq, V x.p.ack, V x.p.fl, V x.p.win, VS x.p.body])]) (fun S => S.k ≤ 3 ∧ S.ok x) (fun S => 3 - S.k) ⟨0, ps0, x.w.h, tenF 10, [], x.w.nx, x.p.id, []⟩ rfl rfl (sub_i [(32, some 32), (40, some 40), (48, some 48), (7, some 233), (9, some 234), (10, some 235), (11, some 288), (12, some 296)] (fz ?_) (fz ?_)) ?_ fun S hI => ?_
    · first | trivial | rfl | exact ⟨rfl, rfl⟩ | exact ⟨rfl, rfl, rfl⟩ | trace_state
    · first | trivial | rfl | exact ⟨rfl, rfl⟩ | exact ⟨rfl, rfl, rfl⟩ | trace_state
    · exact ⟨Nat.zero_le _, sio_0 hx⟩
    refine vc_nf rfl rfl ?_
    obtain ⟨r, hr⟩ : ∃ r, sdF x.w.l S.ps 0 0 x.w.s x.w.h S.t 256 128 10 S.fr S.ws S.nx (pkI x.p ((S.id + S.k) % 65536)) x.size x.cut = r := ⟨_, rfl⟩
    obtain ⟨C9, st1, st2, st3⟩ := sio_step hx hI.2 hr
    have hk3 := hI.1
    have sl := hI.2.len
    have s1 := hI.2.tot
    have s2 := hI.2.cnt
    have s3 := hI.2.le
    have s4 := hI.2.id
    have r1 : r.1.length = 12 := st1.len
    have r2 : r.2.2.1.length + (bufsF r.2.2.2.1).length = 10 := st1.tot
    have r3 : r.2.2.2.1.length = C9.length := st1.cnt
    have r4 : C9.length ≤ S.k + 1 := st1.le
    have hbd2 : (pkI x.p ((S.id + S.k) % 65536)).body.size ≤ 320 := hbd
    obtain ⟨ta1, ta2, ta3, ta4, ta5⟩ := sio_all hx hI.2 hI.1
    have hcl : (S.ws.map (·.1)).length = S.ws.length := List.length_map ..
    have hfl : (framesF (splitF (pkI x.p ((S.id + S.k) % 65536)) x.size)).length ≤ 320 := Nat.le_trans (frames_le _) (split_le _ _)
    refine vc_seq' ?_
    refine vc_sr ?_
    iterate 2 refine vo ?_
    refine vnt ?_
    refine vc_if (fun g2 => ?_) (fun g2 => ?_)
    · refine vc_skip ?_
      refine thn ?_
      refine vc_seq' ?_
      refine vc_block ?_
      refine vc_sr ?_
      iterate 4 refine vo ?_
      try refine vwr ?_
      refine vo ?_
      try refine veq (Int.tmod_eq_emod_of_nonneg (by omega)) ?_
      iterate 2 refine vo ?_
      refine vnt ?_
      refine vc_sr ?_
      iterate 6 refine vo ?_
      refine voc (c_spec_SendPacket (hr := hr)) rfl rfl ?_
      iterate 9 refine vo ?_
      refine vnt ?_
      refine vc_sr ?_
      iterate 6 refine vo ?_
      refine voc (c_impl_SendPacket (hr := hr)) rfl rfl ?_
      iterate 9 refine vo ?_
      refine vnt ?_
      refine vc_seq' ?_
      refine vc_sr ?_
      iterate 3 refine vo ?_
      refine vnt ?_
      refine vc_if (fun g3 => ?_) (fun g3 => ?_)
      · rw [bne_self_eq_false] at g3; cases g3
      · refine vc_skip ?_
        refine thn ?_
        refine vc_seq' ?_
        refine vc_sr ?_
        refine vo ?_
        refine vnt ?_
        refine vc_if (fun g4 => ?_) (fun g4 => ?_)
        · refine vc_sr ?_
          iterate 3 refine vo ?_
          refine voc (c_spec_SendFrames (p := (pkI x.p ((S.id + S.k) % 65536)))) rfl rfl ?_
          iterate 2 refine vo ?_
          refine vnt ?_
          refine vc_region ?_
          iterate 6 refine vo ?_
          refine vnt ?_
          refine vc_sr ?_
          iterate 2 refine vo ?_
          refine vnt ?_
          refine vc_region ?_
          iterate 2 refine vo ?_
          refine vnil ?_
          refine inB_n ?_
          refine thn ?_
          refine vc_region ?_
          iterate 2 refine vo ?_
          try refine vwr ?_
          refine vo ?_
          refine vnt ?_
          obtain ⟨wa, wb⟩ := st2 g4
          refine ⟨⟨S.k + 1, r.1, r.2.1, r.2.2.1, r.2.2.2.1, r.2.2.2.2.1, (S.id + S.k) % 65536, C9⟩, ⟨by show S.k + 1 ≤ 3; omega, st1⟩, by show 3 - (S.k + 1) < 3 - S.k; omega, sub_i [(32, some 32), (40, some 40), (48, some 48), (7, some 560), (9, some 561), (10, some 562), (11, some 656), (12, some 696)] (fz ?_) (fz ?_)⟩
          · omega
          · exact ⟨by rw [wa, List.map_append], by rw [wb, List.map_append]; rfl⟩
        · refine vc_skip ?_
          refine thn ?_
          refine vc_sr ?_
          iterate 2 refine vo ?_
          refine vnt ?_
          refine vc_region ?_
          iterate 2 refine vo ?_
          refine vnil ?_
          refine inB_n ?_
          refine thn ?_
          refine vc_region ?_
          iterate 2 refine vo ?_
          try refine vwr ?_
          refine vo ?_
          refine vnt ?_
          obtain ⟨wa, wb⟩ := st3 g4
          refine ⟨⟨S.k + 1, r.1, r.2.1, r.2.2.1, r.2.2.2.1, r.2.2.2.2.1, (S.id + S.k) % 65536, C9⟩, ⟨by show S.k + 1 ≤ 3; omega, st1⟩, by show 3 - (S.k + 1) < 3 - S.k; omega, sub_i [(32, some 32), (40, some 40), (48, some 48), (7, some 560), (9, some 561), (10, some 562), (11, some 11), (12, some 12)] (fz ?_) (fz ?_)⟩
          · omega
          · exact ⟨by rw [wa], by rw [wb]⟩
    · have hc1 : (txAF x.w.l S.ps 0 0 x.w.s x.w.h S.t).1 = S.t := by rw [ta1]
      have hc2 : (txAF x.w.l S.ps 0 0 x.w.s x.w.h S.t).2.1 = wantF x.size S.C := by rw [ta1]
      have hc3 : (txAF x.w.l S.ps 0 0 x.w.s x.w.h S.t).2.2.1 = S.C.length := by rw [ta1]
      have hc4 : (txAF x.w.l S.ps 0 0 x.w.s x.w.h S.t).2.2.2 = 0 := by rw [ta1]
      have hc5 : (txAF x.w.l S.ps 0 0 x.w.s x.w.h S.t).2.1.length ≤ 960 := by rw [hc2]; exact ta5
      refine vc_exit ?_
      refine thn_x ?_
      refine thn_x ?_
      refine inB_x ?_
      refine thn ?_
      refine vc_sr ?_
      iterate 4 refine vo ?_
      refine voc (c_impl_TransmitAll (ps := S.ps)) rfl rfl ?_
      iterate 10 refine vo ?_
      refine vnt ?_
      refine vc_sr ?_
      iterate 3 refine vo ?_
      refine vnt ?_
      refine vc_sr ?_
      iterate 4 refine vo ?_
      try refine vwr ?_
      refine veq (show _ = (S.ws.length : Int) by omega) ?_
      refine voc (c_impl_CompletePackets (ws := S.ws) (hl_ws := by omega) (hl_fr := by omega) (hz_ws := by omega) (h1 := by rw [hc1]; exact ta2)) rfl rfl ?_
      iterate 6 refine vo ?_
      refine vnt ?_
      refine vc_sr ?_
      iterate 2 refine vo ?_
      refine voc c_laws_sameTexts rfl rfl ?_
      refine vo ?_
      refine vsp (fun g5 => ?_) (fun g5 => ?_)
      · iterate 2 refine von ?_
        iterate 2 refine vo ?_
        refine vsp (fun g6 => ?_) (fun g6 => ?_)
        · iterate 3 refine von ?_
          try first | refine vlb ?_ | refine vln ?_
          refine von ?_
          iterate 2 refine vo ?_
          refine vsp (fun g7 => ?_) (fun g7 => ?_)
          · iterate 2 refine von ?_
            refine vocn c_laws_sameInts rfl rfl ?_
            iterate 2 refine vo ?_
            refine vsp (fun g8 => ?_) (fun g8 => ?_)
            · iterate 2 refine von ?_
              first | (refine vqln ?_; refine vlnS ?_) | (refine vqlon ?_; refine vlnS ?_) | refine von ?_
              try first | refine vlb ?_ | refine vln ?_
              refine von ?_
              iterate 2 refine vo ?_
              refine vsp (fun g9 => ?_) (fun g9 => ?_)
              · iterate 4 refine von ?_
                try first | refine vlb ?_ | refine vln ?_
                iterate 2 refine von ?_
                iterate 2 refine vo ?_
                refine vsp (fun g10 => ?_) (fun g10 => ?_)
                · refine von ?_
                  refine vocn (c_impl_TxOk (ws := []) (hl_ws := Nat.zero_le _) (hl_fr := by omega) (hz_ws := Nat.zero_le _)) rfl rfl ?_
                  iterate 2 refine vo ?_
                  refine vnt ?_
                  refine vc_ret ?_
                  rw [hc1, ta4]
                  refine fin_g (()) (trivial) [(1000003, some 1000003)] rfl (fz ?_) (fz ?_) <;> first | trivial | rfl | trace_state
                · iterate 2 refine vof ?_
                  iterate 2 refine vo ?_
                  refine vnt ?_
                  refine vc_ret ?_
                  exfalso
                  exact g10 (by rw [ta3, ht10])
              · iterate 6 refine vof ?_
                iterate 2 refine vo ?_
                iterate 2 refine vof ?_
                iterate 2 refine vo ?_
                refine vnt ?_
                refine vc_ret ?_
                exfalso
                exact g9 rfl
            · iterate 4 refine vof ?_
              iterate 2 refine vo ?_
              iterate 6 refine vof ?_
              iterate 2 refine vo ?_
              iterate 2 refine vof ?_
              iterate 2 refine vo ?_
              refine vnt ?_
              refine vc_ret ?_
              exfalso
              exact g8 trivial
          · iterate 3 refine vof ?_
            iterate 2 refine vo ?_
            iterate 4 refine vof ?_
            iterate 2 refine vo ?_
            iterate 6 refine vof ?_
            iterate 2 refine vo ?_
            iterate 2 refine vof ?_
            iterate 2 refine vo ?_
            refine vnt ?_
            refine vc_ret ?_
            exfalso
            exact g7 (by rw [hc3]; omega)
        · iterate 4 refine vof ?_
          iterate 2 refine vo ?_
          iterate 3 refine vof ?_
          iterate 2 refine vo ?_
          iterate 4 refine vof ?_
          iterate 2 refine vo ?_
          iterate 6 refine vof ?_
          iterate 2 refine vo ?_
          iterate 2 refine vof ?_
          iterate 2 refine vo ?_
          refine vnt ?_
          refine vc_ret ?_
          exfalso
          exact g6 hc4
      · iterate 2 refine vof ?_
        iterate 2 refine vo ?_
        iterate 4 refine vof ?_
        iterate 2 refine vo ?_
        iterate 3 refine vof ?_
        iterate 2 refine vo ?_
        iterate 4 refine vof ?_
        iterate 2 refine vo ?_
        iterate 6 refine vof ?_
        iterate 2 refine vo ?_
        iterate 2 refine vof ?_
        iterate 2 refine vo ?_
        refine vnt ?_
        refine vc_ret ?_
        exfalso
        rw [hc2, show smT (wantF x.size S.C) (wantF x.size S.C) = true from decide_eq_true rfl] at g5
        cases g5
end Go.Proofs.YtbdcaacpemkloaaGreat
end
section
namespace Go.Vc
open Go Go.RowKit
theorem walk_of {P : Program} {f : FuncId} {w : World} {v : Value} {code : List UInt8} (h : v.oneCell' = true → ConV P f v code (α := Unit) (fun _ => True) (fun _ => .one (.v (.bool true))) (fun _ => [])) (hc : Holds w code [v]) :
    Calls P f #[v] w fun e w' => e = .returned (.bool true) ∧ Ex w w' := by
  have hv : v.oneCell' = true := by
    obtain ⟨a, cap, hv, _⟩ := hc.bytes
    simp only [List.cons.injEq, and_true] at hv
    subst hv; rfl
  refine ((h hv).2 w w [] (St.start w) hc 0).mono fun e w' hq => ?_
  obtain ⟨_, _, u, ρ, rfl, h1, _, As, h2, h3⟩ := hq
  cases h2
  have hu : u = .bool true := h1.1
  subst hu
  exact ⟨rfl, h3.ex⟩
end Go.Vc
end
section
namespace Go.Proofs.YtbdcaacpemkloaaGreat
open Go Go.RowKit Go.Vc
theorem walk_FnSentInOrder (w : World) (code : Value) (codeD : List UInt8) (hcode : Holds w codeD [code]) :
    Calls Tryz.prog 6 #[code] w fun e w' => e = .returned (.bool true) ∧ Ex w w' := walk_of c_laws_FnSentInOrder hcode
end Go.Proofs.YtbdcaacpemkloaaGreat
end

/- Part 6 of what the proof of FnSentAsSoftware rests on: an idealised machine, contracts of functions, and the walk of the law. No condition. -/
import Derived.Test.YtbdcaacpemkloaaGreatMFnSentAsSoftwaree
section
namespace Go.Proofs.YtbdcaacpemkloaaGreat
open Go Go.RowKit Go.Vc
set_option linter.unusedVariables false
set_option linter.unusedSimpArgs false
set_option linter.unnecessarySimpa false
theorem sdP_cut {T : ByteArray} {cut : Int} (h : 1 ≤ cut) (k : Nat) : ((sdP T cut k).size : Int) ≤ cut := by
  unfold sdP
  rw [ByteArray.size_extract, suc_mul]
  have := mul_nnI (a := (k : Int)) (b := cut) (by omega) (by omega)
  generalize (k : Int) * cut = y at *
  omega
theorem bufA_10 {fr : List Int} {k : Int} (hp : poolB 256 128 10 fr = true) (h : 0 ≤ k ∧ k ≤ 9) : bufA 256 128 10 fr k = 256 + k * 128 := by
  unfold bufA
  rw [hp, inB_iff.2 (show 0 ≤ k ∧ k ≤ 10 - 1 by omega)]; rfl
theorem sdW_fb {l : List Mp} {fr : List Int} {T : ByteArray} {cut : Int} (ht : Turned 12 12 l 0 false) (hp : poolB 256 128 10 fr = true) (hc : 1 ≤ cut ∧ cut ≤ 128) : ∀ (ks : List Int) (i : Nat) (ps : Pg), MemOk ps → ps.length = 12 → (∀ k ∈ ks, 0 ≤ k ∧ k ≤ 9) → ks.Pairwise (· ≠ ·) →
    MemOk (sdW l 0 256 128 10 fr T cut ks i ps).1 ∧ (sdW l 0 256 128 10 fr T cut ks i ps).1.length = 12 ∧
    (∀ j : Nat, j < ks.length → ∀ m : Nat, m < (sdP T cut (i + j)).size → fb 12 (sdW l 0 256 128 10 fr T cut ks i ps).1 (256 + at' ks j * 128 + m) = bAt (sdP T cut (i + j)) m) ∧
    (∀ x : Int, 0 ≤ x → x < 1536 → (∀ k ∈ ks, x < 256 + k * 128 ∨ 256 + k * 128 + 128 ≤ x) → fb 12 (sdW l 0 256 128 10 fr T cut ks i ps).1 x = fb 12 ps x)
  | [], i, ps, hm, hl, _, _ => ⟨hm, hl, (fun j h => nomatch h), fun _ _ _ _ => rfl⟩
  | k :: r, i, ps, hm, hl, hk, hd => by
    have hk0 := hk k (List.mem_cons_self ..)
    have hsz := sdP_cut (T := T) hc.1 i
    obtain ⟨qs, w1, w2, w3, w4⟩ := dmaW_fb (a := bufA 256 128 10 fr k) (s := sdP T cut i) ht hm hl (by rw [bufA_10 hp hk0]; omega) (by omega) (by rw [bufA_10 hp hk0]; omega)
    rw [bufA_10 hp hk0] at w4
    have hst : sdW l 0 256 128 10 fr T cut (k :: r) i ps = sdW l 0 256 128 10 fr T cut r (i + 1) qs := by
      simp only [sdW]
      rw [w1, if_pos rfl]
    rw [hst]
    rw [List.pairwise_cons] at hd
    obtain ⟨i1, i2, i3, i4⟩ := sdW_fb ht hp hc r (i + 1) qs w2 w3 (fun y hy => hk y (List.mem_cons_of_mem _ hy)) hd.2
    refine ⟨i1, i2, fun j hj m hm' => ?_, fun x x0 x1 hx => ?_⟩
    · cases j with
      | zero =>
        rw [Nat.add_zero] at hm' ⊢
        have e : at' (k :: r) 0 = k := rfl
        rw [e, i4 _ (by omega) (by omega) fun y hy => ?_, w4 _ (by omega) (by omega), if_pos (by omega)]
        · congr 1; omega
        · have h1 := hd.1 y hy
          have h2 := hk y (List.mem_cons_of_mem _ hy)
          omega
      | succ j =>
        have e : at' (k :: r) (j + 1) = at' r j := rfl
        rw [e]
        have := i3 j (by simpa using hj) m (by rw [show i + 1 + j = i + (j + 1) by omega]; exact hm')
        rw [show i + 1 + j = i + (j + 1) by omega] at this
        exact this
    · have h0 := hx k (List.mem_cons_self ..)
      rw [i4 x x0 x1 (fun y hy => hx y (List.mem_cons_of_mem _ hy)), w4 x x0 (by omega), if_neg (by omega)]
theorem catP_app (ps : Pg) : ∀ (a : List Pc) (p : Pc), catP ps (a ++ [p]) = catP ps a ++ fs 12 ps p.1 p.2.toNat
  | [], p => by show fs 12 ps p.1 p.2.toNat ++ ⟨#[]⟩ = ⟨#[]⟩ ++ fs 12 ps p.1 p.2.toNat; rw [ba_append_nil, ba_empty]
  | q :: a, p => by
    show _ ++ catP ps (a ++ [p]) = _ ++ catP ps a ++ _
    rw [catP_app ps a p, ByteArray.append_assoc]
theorem ext_join (T : ByteArray) {a b : Nat} (h : a ≤ b) : T.extract 0 a ++ T.extract a b = T.extract 0 b := by
  refine ba_ext (by simp only [ByteArray.size_append, ByteArray.size_extract]; omega) fun i hi => ?_
  simp only [ByteArray.size_append, ByteArray.size_extract] at hi
  rw [bAt_append, ByteArray.size_extract]
  by_cases hc : i < min a T.size - 0
  · rw [if_pos hc, bAt_extract, if_pos (by omega), bAt_extract, if_pos (by omega)]
  · rw [if_neg hc, bAt_extract, if_pos (by omega), bAt_extract, if_pos (by omega)]
    congr 1; omega
theorem cat_parts {ps : Pg} {T : ByteArray} {cut : Int} (hc : 1 ≤ cut) (f : Nat → Int) : ∀ n : Nat, (∀ i, i < n → fs 12 ps (f i) (sdP T cut i).size = sdP T cut i) → catP ps ((List.range n).map fun i => (f i, ((sdP T cut i).size : Int))) = T.extract 0 (min (T.size : Int) ((n : Int) * cut)).toNat
  | 0, _ => by
    show (⟨#[]⟩ : ByteArray) = _
    refine ba_ext (by rw [ByteArray.size_extract, show ((0 : Nat) : Int) = 0 from rfl, Int.zero_mul]; show 0 = _; omega) fun i hi => nomatch hi
  | n + 1, h => by
    rw [List.range_succ, List.map_append]
    show catP ps (_ ++ [_]) = _
    rw [catP_app, cat_parts hc f n fun i hi => h i (by omega)]
    simp only [Int.toNat_natCast]
    rw [h n (by omega)]
    have h0 := mul_nnI (a := (n : Int)) (b := cut) (by omega) (by omega)
    have h1 : ((n + 1 : Nat) : Int) * cut = (n : Int) * cut + cut := by rw [← suc_mul]; rfl
    have e : sdP T cut n = T.extract (min (T.size : Int) ((n : Int) * cut)).toNat (min (T.size : Int) (((n + 1 : Nat) : Int) * cut)).toNat := by
      unfold sdP
      rw [h1, suc_mul]
      by_cases hcc : (n : Int) * cut ≤ T.size
      · congr 1; omega
      · exact ext_none T (by omega) (by omega)
    rw [e, ext_join T (by omega)]
structure Sent1 (s h : Int) (ps : Pg) (t : Int) (fr : List Int) (ws : List Sn) (nx : Int) (p : Pk) (size cut : Int) (r : TxR) (n : Nat) (pcs : List Pc) : Prop where
  mem : MemOk r.1
  len : r.1.length = 12
  ring : ringOkB 0 s h r.2.1 = true
  tail : r.2.1 = pos s t (n + 1)
  used : usedF s h t + ((n : Int) + 1) ≤ s
  used' : usedF s h r.2.1 = usedF s h t + ((n : Int) + 1)
  fre : r.2.2.1 = fr.drop n
  nle : n ≤ fr.length
  ws' : r.2.2.2.1 = ws ++ [(nx, (n : Int) + 1, fr.take n)]
  nx' : r.2.2.2.2.1 = (nx + 1) % 65536
  pcl : pcs.length = n
  lies : Lies s r.1 t pcs size nx p.tm
  bufs : ∀ q ∈ pcs, ∃ k ∈ fr.take n, q.1 = 256 + k * 128 ∧ 0 ≤ q.2 ∧ q.2 ≤ 128
  same : ∀ x : Int, 0 ≤ x → x < 1536 → (∀ j : Nat, j < n + 1 → x < (t + j) % s * 16 ∨ (t + j) % s * 16 + 16 ≤ x) → (∀ k ∈ fr.take n, x < 256 + k * 128 ∨ 256 + k * 128 + 128 ≤ x) → fb 12 r.1 x = fb 12 ps x
theorem snd_lies {l : List Mp} {ps : Pg} {s h t nx size cut : Int} {fr : List Int} {ws : List Sn} {p : Pk} {r : TxR} (w : WL l) (hn : l.length = 12) (hm : MemOk ps) (hl : ps.length = 12) (hr : sdF l ps 0 0 s h t 256 128 10 fr ws nx p size cut = r) (hok : r.2.2.2.2.2 = true) : ∃ n pcs, Sent1 s h ps t fr ws nx p size cut r n pcs := by
  cases hb : sdB l ps 0 0 s h t 256 128 10 fr ws nx p size cut with
  | false => rw [sd_no hb] at hr; subst hr; cases hok
  | true =>
    have hb' := hb
    unfold sdB at hb'
    simp only [Bool.and_eq_true, decide_eq_true_eq] at hb'
    obtain ⟨⟨hto, hsup, hcu, hsz⟩, ⟨hn16, hfree, hslots, htake⟩, hwr, hd, hg⟩ := hb'
    have hr2 := hr
    unfold sdF at hr2
    rw [if_pos hb] at hr2
    subst hr2
    clear hr hok
    obtain ⟨tx1, tx2, tx3, tx4, tx5⟩ := txOk_facts hto
    obtain ⟨g1, g2⟩ := rpaF_y hg
    have e : sdRg l ps 0 0 s h t 256 128 10 fr nx p.tm size cut = _ := g2
    have hcu' := inB_iff.1 hcu
    obtain ⟨tz0, tz1⟩ := tm_sz hsup
    obtain ⟨nb0, nb1, nb2, nb3⟩ := sdN_bd (T := p.tm) (cut := cut) (by omega) (by omega)
    obtain ⟨n, hnn⟩ := Int.eq_ofNat_of_zero_le (show 0 ≤ sdN p.tm cut by omega)
    have hks : sdKs 256 128 10 fr p.tm cut = fr.take n := by
      unfold sdKs takeL
      rw [if_pos htake, hnn]; rfl
    have hre : takeR 256 128 10 fr (sdN p.tm cut) = fr.drop n := by
      unfold takeR
      rw [if_pos htake, hnn]; rfl
    have hnle : n ≤ fr.length := by
      unfold takeB at htake
      rw [Bool.and_eq_true] at htake
      have := inB_iff.1 htake.2
      omega
    have hkl : (fr.take n).length = n := by rw [List.length_take]; omega
    -- the pool
    have hpo := tx2
    unfold poolB at hpo
    simp only [Bool.and_eq_true, decide_eq_true_eq] at hpo
    have hkb : ∀ k ∈ fr.take n, 0 ≤ k ∧ k ≤ 9 := fun k hk => by
      have := inB_iff.1 (List.all_eq_true.1 hpo.1.2 k (List.mem_of_mem_take hk))
      omega
    have hkd : (fr.take n).Pairwise (· ≠ ·) := hpo.2.sublist (List.take_sublist _ _)
    obtain ⟨m1, m2, m3, m4⟩ := sdW_fb (T := p.tm) (wl_all w hn) tx2 hcu' (fr.take n) 0 ps hm hl hkb hkd
    have hwe : sdWr l ps 0 256 128 10 fr p.tm cut = sdW l 0 256 128 10 fr p.tm cut (fr.take n) 0 ps := by unfold sdWr; rw [hks]
    have hpe : sdPc 256 128 10 fr p.tm cut = (List.range n).map fun i => (256 + at' (fr.take n) i * 128, ((sdP p.tm cut i).size : Int)) := by
      unfold sdPc sdQ
      rw [hks, hkl]
      refine List.map_congr_left fun i hi => ?_
      rw [bufA_10 tx2 (hkb _ (atp_mem (by rw [hkl]; exact List.mem_range.1 hi)))]
    have hdl := descr_len hd
    have hDe : descrF (sdPc 256 128 10 fr p.tm cut) size nx = dsF (sdPc 256 128 10 fr p.tm cut) size nx ((sdPc 256 128 10 fr p.tm cut).length + 1) := if_pos hd
    generalize hP : sdPc 256 128 10 fr p.tm cut = pcs at *
    have hpl : pcs.length = n := by rw [hpe, List.length_map, List.length_range]
    rw [hwe] at g1 g2 e
    generalize hD : descrF pcs size nx = D at *
    obtain ⟨q1, q2, q3, q4, q5, q6, q7, q8⟩ := rpa_fb (wl_two w hn) (encL D) _ t m1 m2 tx1 g1
    have hel : (encL D).length = n + 1 := by rw [encL_len, hdl, hpl]
    obtain ⟨hs, b0, b1, s0, s1, h0, h1, t0, t1, u1, u0⟩ := ringOk_facts tx1
    have hdk : ∀ j, j < pcs.length + 1 → dOk (dAt pcs size nx j) = true := fun j hj => by
      have hdd := hd
      unfold descrB at hdd
      simp only [Bool.and_eq_true] at hdd
      have := List.all_eq_true.1 hdd.2.2.2 (at' (dsF pcs size nx (pcs.length + 1)) j) (atp_mem (by rw [dsF_len]; exact hj))
      rwa [dsF_at hj] at this
    have hdj : ∀ j, j < pcs.length + 1 → at' (encL D) j = encT (dAt pcs size nx j) := fun j hj => by
      have ha : at' D j = dAt pcs size nx j := by rw [hDe, dsF_at hj]
      rw [encL_at (by rw [hdl]; exact hj), ha]
      exact if_pos (hdk j hj)
    generalize hR : rpa l 0 0 s h (encL D) (sdW l 0 256 128 10 fr p.tm cut (fr.take n) 0 ps).1 t = R at *
    have hslot : ∀ j : Nat, 0 ≤ (t + j) % s * 16 ∧ (t + j) % s * 16 + 16 ≤ 256 := fun j => by
      have m0 := Int.emod_nonneg (t + j) (show s ≠ 0 by omega)
      have m1 := Int.emod_lt_of_pos (t + j) (show 0 < s by omega)
      omega
    have hbuf : ∀ x : Int, 256 ≤ x → x < 1536 → fb 12 R.1 x = fb 12 (sdW l 0 256 128 10 fr p.tm cut (fr.take n) 0 ps).1 x := fun x x0 x1 => q8 x (by omega) x1 fun j _ => .inr (by have := hslot j; omega)
    have hki : ∀ i, i < n → at' (fr.take n) i ∈ fr.take n := fun i hi => atp_mem (by rw [hkl]; exact hi)
    have hpm : ∀ q ∈ pcs, ∃ i, i < n ∧ q = (256 + at' (fr.take n) i * 128, ((sdP p.tm cut i).size : Int)) := fun q hq => by
      rw [hpe] at hq
      obtain ⟨i, hi, rfl⟩ := List.mem_map.1 hq
      exact ⟨i, List.mem_range.1 hi, rfl⟩
    rw [e, hre, hks]
    refine ⟨n, pcs, ⟨q1, q2, q3, ?_, by omega, ?_, rfl, hnle, by rw [hnn], rfl, hpl, ⟨hd, fun j hj => ?_, fun q hq => ?_, ?_⟩, fun q hq => ?_, fun x x0 x1 hx hk => ?_⟩⟩
    · show R.2.1 = _
      rw [q4, hel]; rfl
    · show usedF s h R.2.1 = _
      rw [q4, hel]
      rw [hel] at q5
      unfold usedF at *
      rcases sizeB_cases hs with rfl | rfl | rfl | rfl <;> omega
    · refine ba_ext (by rw [fs_size, encT_sz (hdk j hj)]) fun i hi => ?_
      rw [fs_size] at hi
      rw [fs_at hi, ← hdj j hj]
      exact q7 j (by rw [hel]; omega) i hi
    · obtain ⟨i, hi, rfl⟩ := hpm q hq
      have := hkb _ (hki i hi)
      have := sdP_cut (T := p.tm) hcu'.1 i
      simp only; omega
    · rw [hpe, cat_parts hcu'.1 _ n fun i hi => ?_]
      · rw [hnn] at nb3
        rw [show (min (p.tm.size : Int) ((n : Int) * cut)).toNat = p.tm.size by omega, ByteArray.extract_zero_size]
      · refine ba_ext (fs_size ..) fun m hm' => ?_
        rw [fs_size] at hm'
        have hk9 := hkb _ (hki i hi)
        have hsc := sdP_cut (T := p.tm) hcu'.1 i
        rw [fs_at hm', hbuf _ (by omega) (by omega)]
        have := m3 i (by rw [hkl]; exact hi) m (by rw [Nat.zero_add]; exact hm')
        rw [Nat.zero_add] at this
        exact this
    · obtain ⟨i, hi, rfl⟩ := hpm q hq
      have := sdP_cut (T := p.tm) hcu'.1 i
      exact ⟨_, hki i hi, rfl, by simp only; omega, by simp only; omega⟩
    · show fb 12 R.1 x = _
      rw [q8 x x0 x1 fun j hj => hx j (by rw [hel] at hj; exact hj)]
      exact m4 x x0 x1 hk
end Go.Proofs.YtbdcaacpemkloaaGreat
end
section
namespace Go.Proofs.YtbdcaacpemkloaaGreat
open Go Go.RowKit Go.Vc
set_option linter.unusedVariables false
set_option linter.unusedSimpArgs false
set_option linter.unnecessarySimpa false
theorem ten_take : ∀ n : Fin 11, poolB 256 128 10 ((tenF 10).drop n.val) = true ∧ giveB 256 128 10 ((tenF 10).drop n.val) ((tenF 10).take n.val) = true := by decide +kernel
theorem soft_plain {x : DSx} (hx : x.ok) {r : TxR} (hr : sdF x.w.l ps0 0 0 x.w.s x.w.h x.w.h 256 128 10 (tenF 10) [] x.w.nx x.p x.size x.cut = r) :
    (r.2.2.2.2.2 = true → txF x.w.l r.1 0 0 x.w.s x.w.h r.2.1 = (r.2.1, framesF (splitF x.p x.size), 1) ∧ usedF x.w.s r.2.1 r.2.1 = 0 ∧ txOkB 0 x.w.s x.w.h r.2.1 256 128 10 r.2.2.1 r.2.2.2.1 r.2.2.2.2.1 = true) ∧
    (r.2.2.2.2.2 = false → r.2.2.2.1 = []) ∧ r.2.2.1.length ≤ 10 ∧ r.2.2.2.1.length ≤ 1 ∧ (bufsF r.2.2.2.1).length ≤ 10 := by
  cases hok : r.2.2.2.2.2 with
  | false =>
    have hb : sdB x.w.l ps0 0 0 x.w.s x.w.h x.w.h 256 128 10 (tenF 10) [] x.w.nx x.p x.size x.cut = false := by
      cases hb : sdB x.w.l ps0 0 0 x.w.s x.w.h x.w.h 256 128 10 (tenF 10) [] x.w.nx x.p x.size x.cut with
      | false => rfl
      | true =>
        unfold sdF at hr
        rw [if_pos hb] at hr
        subst hr
        cases hok
    rw [sd_no hb] at hr
    subst hr
    refine ⟨(fun h => nomatch h), fun _ => rfl, ?_, Nat.zero_le _, Nat.zero_le _⟩
    show (tenF 10).length ≤ 10
    rw [tenF_len]; decide
  | true =>
    obtain ⟨⟨w1, w2, w3, w4, w5⟩, hsup, hsz, hcut⟩ := hx
    obtain ⟨n, pcs, S⟩ := snd_lies w1 w2 ps0_ok (by simp [ps0]) hr hok
    have hring := ring_0 w3 w4
    obtain ⟨hs, b0, b1, s0, s1, h0, h1, t0, t1, u1, u0⟩ := ringOk_facts S.ring
    have hn := S.nle
    rw [tenF_len] at hn
    have hu0 : usedF x.w.s x.w.h x.w.h = 0 := by unfold usedF; rw [Int.sub_self, Int.zero_emod]
    have hul := S.used
    have hu2 := S.used'
    rw [hu0] at hul hu2
    have hpl := S.pcl
    obtain ⟨k1, k2⟩ := ten_take ⟨n, by omega⟩
    simp only at k1 k2
    have hbf : bufsF r.2.2.2.1 = (tenF 10).take n := by rw [S.ws']; show List.flatMap _ [_] = _; simp
    refine ⟨fun _ => ⟨?_, ?_, ?_⟩, (fun h => nomatch h), ?_, ?_, ?_⟩
    · have := tx_lies (wl_all w1 w2) S.mem S.len S.ring hsup S.lies (by omega)
      rw [this, hpl, S.tail]
    · unfold usedF; rw [Int.sub_self, Int.zero_emod]
    · unfold txOkB
      rw [S.ring, S.fre, k1, S.nx', inB_iff.2 (show 0 ≤ (x.w.nx + 1) % 65536 ∧ (x.w.nx + 1) % 65536 ≤ 65535 by omega), hbf, k2]
      have hts : txS x.w.s r.2.2.2.1 = true := by
        rw [S.ws']
        unfold txS
        rw [Bool.and_eq_true, decide_eq_true_eq]
        refine ⟨?_, ?_⟩
        · show List.all [_] snOk = true
          simp only [List.all_cons, List.all_nil, Bool.and_true]
          exact snOk_iff.2 ⟨by simp only; omega, inB_iff.2 (by simp only; omega)⟩
        · show slotsF [_] ≤ _
          unfold slotsF
          simp only [List.map_cons, List.map_nil, List.sum_cons, List.sum_nil]; omega
      rw [hts]; rfl
    · rw [S.fre, List.length_drop, tenF_len]; omega
    · rw [S.ws']; exact Nat.le_refl 1
    · rw [hbf, List.length_take, tenF_len]; omega
end Go.Proofs.YtbdcaacpemkloaaGreat
end
section
namespace Go.Proofs.YtbdcaacpemkloaaGreat
open Go Go.RowKit Go.Vc
set_option linter.unusedVariables false
set_option linter.unusedSimpArgs false
set_option linter.unnecessarySimpa false
theorem u32_nat {n : Nat} (h : n < 4294967296) : (BitVec.ofInt 32 (n : Int)).toNat = n := by
  rw [BitVec.ofInt_natCast, BitVec.toNat_ofNat]; exact Nat.mod_eq_of_lt (by omega)
theorem u32_wr {n : Int} (h0 : 0 ≤ n) (h : n < 4294967296) : IntKind.u32.wrap n = n := by
  exact IntWalk.u32_in _ ⟨h0, by omega⟩
theorem ux_eq {a b : Nat} (ha : a < 4294967296) (hb : b < 4294967296) : Go.bits .xor .u32 (a : Int) (b : Int) = ((a ^^^ b : Nat) : Int) := by
  have hx : a ^^^ b < 2 ^ 32 := Nat.xor_lt_two_pow (by omega) (by omega)
  show IntKind.u32.wrap ((BitVec.ofInt 32 (a : Int) ^^^ BitVec.ofInt 32 (b : Int)).toNat : Int) = _
  rw [BitVec.toNat_xor, u32_nat ha, u32_nat hb, u32_wr (by omega) (by omega)]
theorem ua_eq {a : Nat} (ha : a < 4294967296) : Go.bits .and .u32 (a : Int) 1 = ((a % 2 : Nat) : Int) := by
  show IntKind.u32.wrap ((BitVec.ofInt 32 (a : Int) &&& BitVec.ofInt 32 ((1 : Nat) : Int)).toNat : Int) = _
  rw [BitVec.toNat_and, u32_nat ha, u32_nat (by omega), Nat.and_one_is_mod, u32_wr (by omega) (by omega)]
theorem uc_eq {a : Nat} (ha : a < 4294967296) : Go.bits .xor .u32 4294967295 (a : Int) = 4294967295 - (a : Int) := by
  have e : BitVec.ofInt 32 4294967295 = BitVec.allOnes 32 := by decide
  show IntKind.u32.wrap ((BitVec.ofInt 32 4294967295 ^^^ BitVec.ofInt 32 (a : Int)).toNat : Int) = _
  rw [e, BitVec.xor_comm, BitVec.xor_allOnes, BitVec.toNat_not, u32_nat ha, u32_wr (by omega) (by omega)]
  omega
theorem xi_eq {a b : Nat} (ha : a < 4294967296) (hb : b < 4294967296) : xorI (a : Int) (b : Int) = ((a ^^^ b : Nat) : Int) := by
  have hx : a ^^^ b < 2 ^ 32 := Nat.xor_lt_two_pow (by omega) (by omega)
  have e : ∀ n : Nat, n < 4294967296 → (BitVec.ofInt 64 (n : Int)).toNat = n := fun n hn => by
    rw [BitVec.ofInt_natCast, BitVec.toNat_ofNat]; exact Nat.mod_eq_of_lt (by omega)
  show IntKind.i64.wrap ((BitVec.ofInt 64 (a : Int) ^^^ BitVec.ofInt 64 (b : Int)).toNat : Int) = _
  rw [BitVec.toNat_xor, e a ha, e b hb, IntWalk.i64_in _ (by omega)]
theorem st_odd {c : Nat} (h : c % 2 = 1) : stepN c = (c / 2) ^^^ 3988292384 := if_pos h
theorem st_evn {c : Nat} (h : ¬ c % 2 = 1) : stepN c = c / 2 := if_neg h
theorem fcs_eq (s : ByteArray) : strOfNums [IntKind.u8.wrap (crcF s), IntKind.u8.wrap (crcF s / 2 ^ Int.toNat 8), IntKind.u8.wrap (crcF s / 2 ^ Int.toNat 16), IntKind.u8.wrap (crcF s / 2 ^ Int.toNat 24)] = strOfNums [crcF s % 256, crcF s / 256 % 256, crcF s / 65536 % 256, crcF s / 16777216 % 256] := by
  have h := crcF_bd s
  have e8 : (2 : Int) ^ Int.toNat 8 = 256 := by decide
  have e16 : (2 : Int) ^ Int.toNat 16 = 65536 := by decide
  have e24 : (2 : Int) ^ Int.toNat 24 = 16777216 := by decide
  rw [e8, e16, e24]
  simp only [IntKind.wrap_u8]
end Go.Proofs.YtbdcaacpemkloaaGreat
end
section
namespace Go.Proofs.YtbdcaacpemkloaaGreat
open Go Go.RowKit Go.Vc
set_option linter.unusedVariables false
set_option linter.unusedSimpArgs false
set_option linter.unnecessarySimpa false
section
variable {P : Program} [TyEnv P] {n : Nat} {ops os : List Oper} {dr : Bool} {K : Tm → Hp → Prop} {t : Tm} {H : Hp} {fp : List Fp} {d : Nat}
theorem vequ {x y : Int} (hw : x = y) (h : Vd P n ops dr K os ((d, .one (.v (.int .u32 y))) :: t) H fp) : Vd P n ops dr K os ((d, .one (.v (.int .u32 x))) :: t) H fp := by
  rw [hw]; exact h
end
theorem u32_byt (s : ByteArray) (i : Nat) : IntKind.u32.wrap (bytI s (i : Int)) = ((bAt s i : Nat) : Int) := by
  have := bAt_lt s i
  rw [bytI_nat, Int.toNat_natCast, u32_wr (by omega) (by omega)]
theorem ux_c {a : Nat} (ha : a < 4294967296) : Go.bits .xor .u32 (a : Int) 3988292384 = ((a ^^^ 3988292384 : Nat) : Int) := ux_eq ha (by decide)
theorem xi_c {a : Nat} (ha : a < 4294967296) : xorI (a : Int) 3988292384 = ((a ^^^ 3988292384 : Nat) : Int) := xi_eq ha (by decide)
theorem xi_b {a : Nat} (ha : a < 4294967296) (s : ByteArray) (i : Nat) : xorI (a : Int) ((bAt s (Int.toNat (i : Nat)) : Nat) : Int) = ((a ^^^ bAt s i : Nat) : Int) := xi_eq ha (by have := bAt_lt s i; show bAt s i < _; omega)
theorem sh1 (a : Nat) : (a : Int) / 2 ^ Int.toNat 1 = ((a / 2 : Nat) : Int) := by
  rw [show (2 : Int) ^ Int.toNat 1 = 2 by decide]; omega
theorem an1 (a : Nat) : andI (a : Int) 1 = ((a % 2 : Nat) : Int) := by
  rw [andI_eq]
  have := and_mask_i64 (a : Int) 1 (by decide)
  rw [show (2 : Int) ^ 1 - 1 = 1 by decide] at this
  rw [this]; rfl
theorem st_s (c k : Nat) : stepK c (k + 1) = stepN (stepK c k) := rfl
set_option maxHeartbeats 4000000 in
theorem c_impl_Crc32 {s : ByteArray} (hs_s : s.size ≤ 1099511627776 := by first | assumption | omega | (simp only [ByteArray.size_append, ByteArray.size_extract, strOfNums_size, List.length_cons, List.length_nil]; omega)) : Con0 Tryz.prog 266 [Z s] (I (crcF s)) [] := by
  refine con_i Tryz.func266 Tryz.ntmps266 (t := [(0, Z s)]) rfl ?_
  refine vc_sr ?_
  refine vo ?_
  refine vnt ?_
  refine vc_sr ?_
  refine vo ?_
  refine vnt ?_
  refine vc_seq' ?_
  refine vc_sr ?_
  refine vo ?_
  refine vnt ?_
  refine vc_block ?_
  refine vc_lp (σ := Nat) [0] [] (fun i => [(3, .one (.v (.int .u32 (crcN s i : Nat)))), (4, I (i : Nat))]) (fun i => []) (fun i => i ≤ s.size) (fun i => s.size - i) 0 rfl rfl (sub_i [] (fz ?_) (fz ?_)) ?_ fun i hI => ?_
  · first | trivial | rfl | exact ⟨rfl, rfl⟩
  · first | trivial | rfl
  · exact Nat.zero_le _
  refine vc_nf rfl rfl ?_
  have hc := crcN_lt s i
  have hb := bAt_lt s i
  refine vc_seq' ?_
  refine vc_sr ?_
  iterate 4 refine vo ?_
  refine vnt ?_
  refine vc_if (fun g1 => ?_) (fun g1 => ?_)
  · refine vc_skip ?_
    refine thn ?_
    refine vc_seq' ?_
    refine vc_block ?_
    refine vc_sr ?_
    iterate 5 refine vo ?_
    try refine veq (i64_byt _ _) ?_
    refine vequ (u32_byt s i) ?_
    refine vo ?_
    refine vequ (ux_eq hc (by omega)) ?_
    refine vo ?_
    refine vnt ?_
    refine vc_sr ?_
    refine vo ?_
    refine vnt ?_
    refine vc_block ?_
    refine vc_lp (σ := Nat) [0, 4] [] (fun k => [(3, .one (.v (.int .u32 (stepK (crcN s i ^^^ bAt s i) k : Nat)))), (5, I (k : Nat))]) (fun k => []) (fun k => k ≤ 8) (fun k => 8 - k) 0 rfl rfl (sub_i [] (fz ?_) (fz ?_)) ?_ fun k hK => ?_
    · first | trivial | rfl | exact ⟨rfl, rfl⟩
    · first | trivial | rfl
    · exact Nat.zero_le _
    refine vc_nf rfl rfl ?_
    have hx : stepK (crcN s i ^^^ bAt s i) k < 4294967296 := stepK_lt (Nat.xor_lt_two_pow (n := 32) hc (by omega)) k
    refine vc_seq' ?_
    refine vc_sr ?_
    iterate 2 refine vo ?_
    refine vnt ?_
    refine vc_if (fun g2 => ?_) (fun g2 => ?_)
    · refine vc_skip ?_
      refine thn ?_
      refine vc_seq' ?_
      refine vc_block ?_
      refine vc_sr ?_
      iterate 2 refine vo ?_
      refine vequ (ua_eq hx) ?_
      iterate 2 refine vo ?_
      refine vnt ?_
      refine vc_sr ?_
      iterate 2 refine vo ?_
      refine vequ (sh1 _) ?_
      refine vo ?_
      refine vnt ?_
      refine vc_sr ?_
      refine vo ?_
      refine vnt ?_
      refine vc_if (fun g3 => ?_) (fun g3 => ?_)
      · refine vc_region ?_
        iterate 2 refine vo ?_
        refine vequ (ux_c (by omega)) ?_
        refine vo ?_
        refine vnil ?_
        refine inB_n ?_
        refine thn ?_
        refine vc_region ?_
        iterate 2 refine vo ?_
        try refine vwr ?_
        refine vo ?_
        refine vnt ?_
        refine ⟨k + 1, ?_, ?_, sub_i [] (fz ?_) (fz ?_)⟩
        · omega
        · omega
        · refine ⟨?_, ?_⟩ <;> first | rfl | (rw [st_s, st_odd (by omega)]) | omega
        · first | trivial | rfl
      · refine vc_skip ?_
        refine inB_n ?_
        refine thn ?_
        refine vc_region ?_
        iterate 2 refine vo ?_
        try refine vwr ?_
        refine vo ?_
        refine vnt ?_
        refine ⟨k + 1, ?_, ?_, sub_i [] (fz ?_) (fz ?_)⟩
        · omega
        · omega
        · refine ⟨?_, ?_⟩ <;> first | rfl | (rw [st_s, st_evn (by omega)]) | omega
        · first | trivial | rfl
    · refine vc_exit ?_
      refine thn_x ?_
      refine thn_x ?_
      refine inB_x ?_
      refine inB_n ?_
      refine thn ?_
      refine vc_region ?_
      iterate 2 refine vo ?_
      try refine vwr ?_
      refine vo ?_
      refine vnt ?_
      refine ⟨i + 1, ?_, ?_, sub_i [] (fz ?_) (fz ?_)⟩
      · omega
      · omega
      · refine ⟨?_, ?_⟩ <;> first | rfl | omega | (rw [show k = 8 by omega]; rfl)
      · first | trivial | rfl
  · refine vc_exit ?_
    refine thn_x ?_
    refine thn_x ?_
    refine inB_x ?_
    refine thn ?_
    refine vc_sr ?_
    iterate 2 refine vo ?_
    refine vequ (uc_eq hc) ?_
    refine vo ?_
    try refine veq (i64_byt _ _) ?_
    refine veq (IntWalk.i64_in _ (by omega)) ?_
    refine vo ?_
    refine vnt ?_
    refine vc_ret ?_
    refine fin_i [] rfl (fz ?_) trivial
    rw [crcF, show s.size = i by omega]
set_option maxHeartbeats 4000000 in
theorem c_impl_WithFcs {s : ByteArray} (hs_s : s.size ≤ 1099511627776 := by first | assumption | omega | (simp only [ByteArray.size_append, ByteArray.size_extract, strOfNums_size, List.length_cons, List.length_nil]; omega)) : Con0 Tryz.prog 260 [Z s] (Z (fcsF s)) [] := by
  refine con_i Tryz.func260 Tryz.ntmps260 (t := [(0, Z s)]) rfl ?_
  refine vc_sr ?_
  refine vo ?_
  refine vnt ?_
  refine vc_sr ?_
  refine vo ?_
  refine voc c_impl_Crc32 rfl rfl ?_
  refine vo ?_
  refine vnt ?_
  refine vc_sr ?_
  iterate 14 refine vo ?_
  refine vs4 ?_
  iterate 2 refine vo ?_
  refine vnt ?_
  refine vc_ret ?_
  refine fin_i [] rfl (fz ?_) trivial
  unfold fcsF; rw [fcs_eq]
set_option maxHeartbeats 4000000 in
theorem c_impl_BuildFrame {p : Pk} (hz_p : p.body.size ≤ 1099511627776 := by first | assumption | omega) : Con0 Tryz.prog 235 [.agg [V (p).dm, V (p).sm, V (p).vl, V (p).tos, V (p).id, V (p).ttl, V (p).si, V (p).di, V (p).kind, V (p).sp, V (p).dp, V (p).seq, V (p).ack, V (p).fl, V (p).win, VS (p).body]] (.tup [Z (frF p), B p.ok]) [] := by
  refine con_i Tryz.func235 Tryz.ntmps235 (t := [(0, .agg [V (p).dm, V (p).sm, V (p).vl, V (p).tos, V (p).id, V (p).ttl, V (p).si, V (p).di, V (p).kind, V (p).sp, V (p).dp, V (p).seq, V (p).ack, V (p).fl, V (p).win, VS (p).body])]) rfl ?_
  refine vc_sr ?_
  iterate 3 refine vo ?_
  refine vnt ?_
  refine vc_seq' ?_
  refine vc_sr ?_
  refine vo ?_
  refine voc c_impl_PacketOk rfl rfl ?_
  refine vo ?_
  refine vnt ?_
  refine vc_if (fun g1 => ?_) (fun g1 => ?_)
  · have g1 : p.ok = false := by first | exact g1 | (unfold Pk.ok Pk.sup; simpa using g1)
    refine vc_sr ?_
    iterate 2 refine vo ?_
    refine vnt ?_
    refine vc_ret ?_
    refine thn_r ?_
    refine fin_i [] rfl (fz ?_) trivial
    have hk : p.ok = false := g1
    rw [frF, hk]
    trivial
  · have hk : p.ok = true := by first | exact g1 | (unfold Pk.ok Pk.sup; simpa using g1)
    have hs : p.sup = true := by unfold Pk.ok at hk; rw [Bool.and_eq_true] at hk; exact hk.1
    have hi := sup_img hs
    have hi2 : (imgR p.dm p.sm p.vl p.tos p.id p.ttl p.si p.di p.kind p.sp p.dp p.seq p.ack p.fl p.win p.body).size ≤ 1000 := hi.2
    refine vc_skip ?_
    refine thn ?_
    refine vc_sr ?_
    refine vo ?_
    refine voc c_impl_BuildImage rfl rfl ?_
    iterate 5 refine vo ?_
    refine vnt ?_
    refine vc_seq' ?_
    refine vc_sr ?_
    iterate 2 refine vo ?_
    refine vnt ?_
    refine vc_if (fun g2 => ?_) (fun g2 => ?_)
    · rw [hi.1] at g2; cases g2
    · refine vc_skip ?_
      refine thn ?_
      refine vc_sr ?_
      refine vo ?_
      refine voc c_impl_WithFcs rfl rfl ?_
      iterate 2 refine vo ?_
      refine vnt ?_
      refine vc_ret ?_
      refine fin_i [] rfl (fz ?_) trivial
      rw [frF, hk]
      trivial
set_option maxHeartbeats 4000000 in
theorem c_spec_Crc32 {s : ByteArray} (hs_s : s.size ≤ 1099511627776 := by first | assumption | omega | (simp only [ByteArray.size_append, ByteArray.size_extract, strOfNums_size, List.length_cons, List.length_nil]; omega)) : Con0 Tryz.prog 261 [Z s] (I (crcF s)) [] := by
  refine con_i Tryz.func261 Tryz.ntmps261 (t := [(0, Z s)]) rfl ?_
  refine vc_sr ?_
  refine vo ?_
  refine vnt ?_
  refine vc_sr ?_
  refine vo ?_
  refine vnt ?_
  refine vc_seq' ?_
  refine vc_sr ?_
  refine vo ?_
  refine vnt ?_
  refine vc_block ?_
  refine vc_lp (σ := Nat) [0] [] (fun i => [(3, I (crcN s i : Nat)), (4, I (i : Nat))]) (fun i => []) (fun i => i ≤ s.size) (fun i => s.size - i) 0 rfl rfl (sub_i [] (fz ?_) (fz ?_)) ?_ fun i hI => ?_
  · first | trivial | rfl | exact ⟨rfl, rfl⟩
  · first | trivial | rfl
  · exact Nat.zero_le _
  refine vc_nf rfl rfl ?_
  have hc := crcN_lt s i
  have hb := bAt_lt s i
  refine vc_seq' ?_
  refine vc_sr ?_
  iterate 4 refine vo ?_
  refine vnt ?_
  refine vc_if (fun g1 => ?_) (fun g1 => ?_)
  · refine vc_skip ?_
    refine thn ?_
    refine vc_seq' ?_
    refine vc_block ?_
    refine vc_sr ?_
    iterate 5 refine vo ?_
    try refine veq (i64_byt _ _) ?_
    refine vo ?_
    refine veq (xi_b hc s i) ?_
    refine vo ?_
    refine vnt ?_
    refine vc_sr ?_
    refine vo ?_
    refine vnt ?_
    refine vc_block ?_
    refine vc_lp (σ := Nat) [0, 4] [] (fun k => [(3, I (stepK (crcN s i ^^^ bAt s i) k : Nat)), (5, I (k : Nat))]) (fun k => []) (fun k => k ≤ 8) (fun k => 8 - k) 0 rfl rfl (sub_i [] (fz ?_) (fz ?_)) ?_ fun k hK => ?_
    · first | trivial | rfl | exact ⟨rfl, rfl⟩
    · first | trivial | rfl
    · exact Nat.zero_le _
    refine vc_nf rfl rfl ?_
    have hx : stepK (crcN s i ^^^ bAt s i) k < 4294967296 := stepK_lt (Nat.xor_lt_two_pow (n := 32) hc (by omega)) k
    refine vc_seq' ?_
    refine vc_sr ?_
    iterate 2 refine vo ?_
    refine vnt ?_
    refine vc_if (fun g2 => ?_) (fun g2 => ?_)
    · refine vc_skip ?_
      refine thn ?_
      refine vc_seq' ?_
      refine vc_block ?_
      refine vc_sr ?_
      iterate 2 refine vo ?_
      refine veq (an1 _) ?_
      refine vo ?_
      refine vnt ?_
      refine vc_if (fun g3 => ?_) (fun g3 => ?_)
      · refine vc_region ?_
        iterate 2 refine vo ?_
        refine veq (sh1 _) ?_
        refine vo ?_
        refine veq (xi_c (by omega)) ?_
        refine vo ?_
        refine vnil ?_
        refine inB_n ?_
        refine thn ?_
        refine vc_region ?_
        iterate 2 refine vo ?_
        try refine vwr ?_
        refine vo ?_
        refine vnt ?_
        refine ⟨k + 1, ?_, ?_, sub_i [] (fz ?_) (fz ?_)⟩
        · omega
        · omega
        · refine ⟨?_, ?_⟩ <;> first | rfl | (rw [st_s, st_odd (by omega)]) | omega
        · first | trivial | rfl
      · refine vc_region ?_
        iterate 2 refine vo ?_
        refine veq (sh1 _) ?_
        refine vo ?_
        refine vnil ?_
        refine inB_n ?_
        refine thn ?_
        refine vc_region ?_
        iterate 2 refine vo ?_
        try refine vwr ?_
        refine vo ?_
        refine vnt ?_
        refine ⟨k + 1, ?_, ?_, sub_i [] (fz ?_) (fz ?_)⟩
        · omega
        · omega
        · refine ⟨?_, ?_⟩ <;> first | rfl | (rw [st_s, st_evn (by omega)]) | omega
        · first | trivial | rfl
    · refine vc_exit ?_
      refine thn_x ?_
      refine thn_x ?_
      refine inB_x ?_
      refine inB_n ?_
      refine thn ?_
      refine vc_region ?_
      iterate 2 refine vo ?_
      try refine vwr ?_
      refine vo ?_
      refine vnt ?_
      refine ⟨i + 1, ?_, ?_, sub_i [] (fz ?_) (fz ?_)⟩
      · omega
      · omega
      · refine ⟨?_, ?_⟩ <;> first | rfl | omega | (rw [show k = 8 by omega]; rfl)
      · first | trivial | rfl
  · refine vc_exit ?_
    refine thn_x ?_
    refine thn_x ?_
    refine inB_x ?_
    refine thn ?_
    refine vc_sr ?_
    iterate 2 refine vo ?_
    try refine vwr ?_
    refine vo ?_
    refine vnt ?_
    refine vc_ret ?_
    refine fin_i [] rfl (fz ?_) trivial
    rw [crcF, show s.size = i by omega]
set_option maxHeartbeats 4000000 in
theorem c_spec_WithFcs {s : ByteArray} (hs_s : s.size ≤ 1099511627776 := by first | assumption | omega | (simp only [ByteArray.size_append, ByteArray.size_extract, strOfNums_size, List.length_cons, List.length_nil]; omega)) : Con0 Tryz.prog 237 [Z s] (Z (fcsF s)) [] := by
  refine con_i Tryz.func237 Tryz.ntmps237 (t := [(0, Z s)]) rfl ?_
  refine vc_sr ?_
  refine vo ?_
  refine vnt ?_
  refine vc_sr ?_
  refine vo ?_
  refine voc c_spec_Crc32 rfl rfl ?_
  refine vo ?_
  refine vnt ?_
  refine vc_sr ?_
  iterate 14 refine vo ?_
  refine vs4 ?_
  iterate 2 refine vo ?_
  refine vnt ?_
  refine vc_ret ?_
  refine fin_i [] rfl (fz ?_) trivial
  unfold fcsF; rw [fcs_eq]
set_option maxHeartbeats 4000000 in
theorem c_spec_BuildFrame {p : Pk} (hz_p : p.body.size ≤ 1099511627776 := by first | assumption | omega) : Con0 Tryz.prog 188 [.agg [V (p).dm, V (p).sm, V (p).vl, V (p).tos, V (p).id, V (p).ttl, V (p).si, V (p).di, V (p).kind, V (p).sp, V (p).dp, V (p).seq, V (p).ack, V (p).fl, V (p).win, VS (p).body]] (.tup [Z (frF p), B p.ok]) [] := by
  refine con_i Tryz.func188 Tryz.ntmps188 (t := [(0, .agg [V (p).dm, V (p).sm, V (p).vl, V (p).tos, V (p).id, V (p).ttl, V (p).si, V (p).di, V (p).kind, V (p).sp, V (p).dp, V (p).seq, V (p).ack, V (p).fl, V (p).win, VS (p).body])]) rfl ?_
  refine vc_sr ?_
  iterate 3 refine vo ?_
  refine vnt ?_
  refine vc_seq' ?_
  refine vc_sr ?_
  refine vo ?_
  refine voc c_spec_PacketOk rfl rfl ?_
  refine vo ?_
  refine vnt ?_
  refine vc_if (fun g1 => ?_) (fun g1 => ?_)
  · have g1 : p.ok = false := by first | exact g1 | (unfold Pk.ok Pk.sup; simpa using g1)
    refine vc_sr ?_
    iterate 2 refine vo ?_
    refine vnt ?_
    refine vc_ret ?_
    refine thn_r ?_
    refine fin_i [] rfl (fz ?_) trivial
    have hk : p.ok = false := g1
    rw [frF, hk]
    trivial
  · have hk : p.ok = true := by first | exact g1 | (unfold Pk.ok Pk.sup; simpa using g1)
    have hs : p.sup = true := by unfold Pk.ok at hk; rw [Bool.and_eq_true] at hk; exact hk.1
    have hi := sup_img hs
    have hi2 : (imgR p.dm p.sm p.vl p.tos p.id p.ttl p.si p.di p.kind p.sp p.dp p.seq p.ack p.fl p.win p.body).size ≤ 1000 := hi.2
    refine vc_skip ?_
    refine thn ?_
    refine vc_sr ?_
    refine vo ?_
    refine voc c_spec_BuildImage rfl rfl ?_
    iterate 5 refine vo ?_
    refine vnt ?_
    refine vc_sr ?_
    refine vo ?_
    refine voc c_spec_WithFcs rfl rfl ?_
    iterate 2 refine vo ?_
    refine vnt ?_
    refine vc_ret ?_
    refine fin_i [] rfl (fz ?_) trivial
    rw [frF, hk]
    trivial
theorem at'_mem {α : Type} [Inhabited α] {l : List α} {i : Nat} (h : i < l.length) : at' l i ∈ l := by rw [atq_eq h]; exact List.getElem_mem h
set_option maxHeartbeats 4000000 in
theorem c_impl_FrameAll {ps : List Pk} (hl : ps.length ≤ 1099511627776 := by first | assumption | omega) (hz : ∀ p ∈ ps, p.body.size ≤ 1099511627776 := by assumption) : Con0 Tryz.prog 186 [.one (.sl 16 (ps.map pkE))] (.one (.hs 0)) [(0, .arr 9 1 ((framesF ps).map strE))] := by
  refine con_i Tryz.func186 Tryz.ntmps186 (t := [(0, .one (.sl 16 (ps.map pkE)))]) rfl ?_
  refine vc_sr ?_
  refine vo ?_
  refine vnt ?_
  refine vc_sr ?_
  iterate 2 refine vo ?_
  refine vnt ?_
  refine vc_seq' ?_
  refine vc_sr ?_
  iterate 2 refine vo ?_
  try first | refine vlb ?_ | refine vln ?_
  refine vo ?_
  refine vnt ?_
  refine vc_block ?_
  refine vc_lp (σ := Nat) [9, 10] [] (fun i => [(3, .one (.hs 7)), (11, I (i : Nat))]) (fun i => [(7, .arr 9 1 ((framesF (ps.take i)).map strE))]) (fun i => i ≤ ps.length) (fun i => ps.length - i) 0 rfl rfl (sub_i [(7, some 64)] (fz ?_) (fz ?_)) ?_ fun i hI => ?_
  · first | trivial | rfl
  · first | trivial | rfl
  · exact Nat.zero_le _
  refine vc_nf rfl rfl ?_
  have hzi : i < ps.length → (at' ps i).body.size ≤ 1099511627776 := fun h => hz _ (at'_mem h)
  have hfl : (framesF (ps.take i)).length ≤ i := Nat.le_trans (frames_le _) (by rw [List.length_take]; omega)
  refine vc_sr ?_
  refine vo ?_
  refine vnt ?_
  refine vc_seq' ?_
  refine vc_if (fun g1 => ?_) (fun g1 => ?_)
  · refine vc_skip ?_
    refine thn ?_
    refine vc_seq' ?_
    refine vc_block ?_
    refine vc_sr ?_
    refine vo ?_
    try with_reducible (first | refine vep ?_ | refine vpt ?_)
    iterate 3 refine vo ?_
    refine vnt ?_
    refine vc_sr ?_
    refine vo ?_
    refine voc c_impl_BuildFrame rfl rfl ?_
    iterate 5 refine vo ?_
    refine vnt ?_
    refine vc_sr ?_
    refine vo ?_
    refine vnt ?_
    refine vc_if (fun g2 => ?_) (fun g2 => ?_)
    · refine vc_region ?_
      iterate 5 refine vo ?_
      refine vnil ?_
      refine inB_n ?_
      refine thn ?_
      refine vc_region ?_
      refine vo ?_
      try refine vwr ?_
      refine vo ?_
      refine vnt ?_
      refine ⟨i + 1, ?_, ?_, sub_i [(7, some 192)] (fz ?_) (fz ?_)⟩
      · omega
      · omega
      · first | trivial | rfl | exact ⟨rfl, rfl⟩
      · rw [← frames_y (l := ps) (i := i) g1 (by assumption)]; simp [strE]
    · refine vc_skip ?_
      refine inB_n ?_
      refine thn ?_
      refine vc_region ?_
      refine vo ?_
      try refine vwr ?_
      refine vo ?_
      refine vnt ?_
      refine ⟨i + 1, ?_, ?_, sub_i [(7, some 7)] (fz ?_) (fz ?_)⟩
      · omega
      · omega
      · first | trivial | rfl | exact ⟨rfl, rfl⟩
      · rw [← frames_n (l := ps) (i := i) g1 (by assumption)]
  · refine vc_exit ?_
    refine thn_x ?_
    refine thn_x ?_
    refine inB_x ?_
    refine thn ?_
    refine vc_sr ?_
    iterate 2 refine vo ?_
    refine vnt ?_
    refine vc_ret ?_
    refine fin_i [(0, some 7)] rfl (fz ?_) (fz ?_)
    · trivial
    · rw [frames_end (by omega)]
set_option maxHeartbeats 4000000 in
theorem c_spec_FrameAll {ps : List Pk} (hl : ps.length ≤ 1099511627776 := by first | assumption | omega) (hz : ∀ p ∈ ps, p.body.size ≤ 1099511627776 := by assumption) : Con0 Tryz.prog 90 [.one (.sl 16 (ps.map pkE))] (.one (.hs 0)) [(0, .arr 9 1 ((framesF ps).map strE))] := by
  refine con_i Tryz.func90 Tryz.ntmps90 (t := [(0, .one (.sl 16 (ps.map pkE)))]) rfl ?_
  refine vc_sr ?_
  refine vo ?_
  refine vnt ?_
  refine vc_sr ?_
  iterate 2 refine vo ?_
  refine vnt ?_
  refine vc_seq' ?_
  refine vc_sr ?_
  refine vo ?_
  refine vnt ?_
  refine vc_block ?_
  refine vc_lp (σ := Nat) [0] [] (fun i => [(3, .one (.hs 7)), (4, I (i : Nat))]) (fun i => [(7, .arr 9 1 ((framesF (ps.take i)).map strE))]) (fun i => i ≤ ps.length) (fun i => ps.length - i) 0 rfl rfl (sub_i [(7, some 56)] (fz ?_) (fz ?_)) ?_ fun i hI => ?_
  · first | trivial | rfl
  · first | trivial | rfl
  · exact Nat.zero_le _
  refine vc_nf rfl rfl ?_
  have hzi : i < ps.length → (at' ps i).body.size ≤ 1099511627776 := fun h => hz _ (at'_mem h)
  have hfl : (framesF (ps.take i)).length ≤ i := Nat.le_trans (frames_le _) (by rw [List.length_take]; omega)
  refine vc_seq' ?_
  refine vc_sr ?_
  iterate 3 refine vo ?_
  try first | refine vlb ?_ | refine vln ?_
  refine vo ?_
  refine vnt ?_
  refine vc_if (fun g1 => ?_) (fun g1 => ?_)
  · refine vc_skip ?_
    refine thn ?_
    refine vc_seq' ?_
    refine vc_block ?_
    refine vc_sr ?_
    iterate 3 refine vo ?_
    try with_reducible (first | refine vep ?_ | refine vpt ?_)
    refine vo ?_
    refine voc c_spec_BuildFrame rfl rfl ?_
    iterate 5 refine vo ?_
    refine vnt ?_
    refine vc_sr ?_
    refine vo ?_
    refine vnt ?_
    refine vc_if (fun g2 => ?_) (fun g2 => ?_)
    · refine vc_region ?_
      iterate 5 refine vo ?_
      refine vnil ?_
      refine inB_n ?_
      refine thn ?_
      refine vc_region ?_
      iterate 2 refine vo ?_
      try refine vwr ?_
      refine vo ?_
      refine vnt ?_
      refine ⟨i + 1, ?_, ?_, sub_i [(7, some 208)] (fz ?_) (fz ?_)⟩
      · omega
      · omega
      · first | trivial | rfl | exact ⟨rfl, rfl⟩
      · rw [← frames_y (l := ps) (i := i) g1 (by assumption)]; simp [strE]
    · refine vc_skip ?_
      refine inB_n ?_
      refine thn ?_
      refine vc_region ?_
      iterate 2 refine vo ?_
      try refine vwr ?_
      refine vo ?_
      refine vnt ?_
      refine ⟨i + 1, ?_, ?_, sub_i [(7, some 7)] (fz ?_) (fz ?_)⟩
      · omega
      · omega
      · first | trivial | rfl | exact ⟨rfl, rfl⟩
      · rw [← frames_n (l := ps) (i := i) g1 (by assumption)]
  · refine vc_exit ?_
    refine thn_x ?_
    refine thn_x ?_
    refine inB_x ?_
    refine thn ?_
    refine vc_sr ?_
    iterate 2 refine vo ?_
    refine vnt ?_
    refine vc_ret ?_
    refine fin_i [(0, some 7)] rfl (fz ?_) (fz ?_)
    · trivial
    · rw [frames_end (by omega)]
theorem mul_s (k : Nat) (size : Int) : ((k : Int) + 1) * size = (k : Int) * size + size := by rw [Int.add_mul, Int.one_mul]
theorem mul_nn {k : Nat} {size : Int} (h : 0 ≤ size) : 0 ≤ (k : Int) * size := Int.mul_nonneg (by omega) h
theorem mul_b2 {k : Nat} {size : Int} (h1 : k ≤ 320) (h2 : 0 ≤ size) (h3 : size ≤ 128) : (k : Int) * size ≤ 40960 := by
  have := Int.mul_le_mul (show (k : Int) ≤ 320 by omega) h3 h2 (by omega)
  omega
theorem mul_lt {k : Nat} {n : Nat} {size : Int} (h1 : 1 ≤ size) (h2 : (k : Int) * size < n) : k < n := by
  have : (k : Int) * 1 ≤ (k : Int) * size := Int.mul_le_mul_of_nonneg_left h1 (by omega)
  omega
theorem sup_pk {p : Pk} (h : p.sup = true) : p.body.size ≤ 320 ∧ (0 ≤ p.seq ∧ p.seq ≤ 4294967295) ∧ (0 ≤ p.id ∧ p.id ≤ 65535) := by
  have h0 := sup_len h
  unfold Pk.sup at h
  simp only [superOkB, segOkB, Bool.and_eq_true, Bool.or_eq_true, inB_iff, Bool.not_eq_true', decide_eq_false_iff_not, beq_iff_eq] at h
  obtain ⟨_, _, _, _, _, h1, _, _, ⟨h2, h3⟩, _⟩ := h
  refine ⟨h0, ?_, h1⟩
  rcases h3 with ⟨_, a, _, b, _⟩ | ⟨_, _, a, _, b, _⟩
  · exact a
  · omega
set_option maxHeartbeats 4000000 in
theorem c_impl_Split {p : Pk} {size : Int} (hz_p : p.body.size ≤ 1099511627776 := by first | assumption | omega) : Con0 Tryz.prog 187 [.agg [V (p).dm, V (p).sm, V (p).vl, V (p).tos, V (p).id, V (p).ttl, V (p).si, V (p).di, V (p).kind, V (p).sp, V (p).dp, V (p).seq, V (p).ack, V (p).fl, V (p).win, VS (p).body], I size] (.one (.hs 0)) [(0, .arr 39 16 ((splitF p size).map pkE))] := by
  refine con_i Tryz.func187 Tryz.ntmps187 (t := [(0, .agg [V (p).dm, V (p).sm, V (p).vl, V (p).tos, V (p).id, V (p).ttl, V (p).si, V (p).di, V (p).kind, V (p).sp, V (p).dp, V (p).seq, V (p).ack, V (p).fl, V (p).win, VS (p).body]), (1, I size)]) rfl ?_
  refine vc_sr ?_
  iterate 2 refine vo ?_
  refine vnt ?_
  refine vc_seq' ?_
  refine vc_sr ?_
  refine vo ?_
  refine voc c_impl_SuperOk rfl rfl ?_
  iterate 2 refine vo ?_
  refine vsp (fun g1 => ?_) (fun g1 => ?_)
  · iterate 3 refine vof ?_
    refine vo ?_
    refine vnt ?_
    refine vc_then ?_
    refine vc_sr ?_
    refine vo ?_
    refine vnt ?_
    refine vc_ret ?_
    refine thn_r ?_
    refine fin_i [(0, none)] rfl (fz ?_) (fz ?_)
    · trivial
    · rw [split_0 (.inl g1)]; rfl
  · have hs : p.sup = true := g1
    refine von ?_
    refine vocn c_impl_between rfl rfl ?_
    refine von ?_
    refine vo ?_
    refine vnt ?_
    refine vc_if (fun g2 => ?_) (fun g2 => ?_)
    · refine vc_sr ?_
      refine vo ?_
      refine vnt ?_
      refine vc_ret ?_
      refine thn_r ?_
      refine fin_i [(0, none)] rfl (fz ?_) (fz ?_)
      · trivial
      · rw [split_0 (.inr g2)]; rfl
    · have hz2 := inB_iff.1 g2
      obtain ⟨hbz, hsq, hid⟩ := sup_pk hs
      refine vc_skip ?_
      refine thn ?_
      refine vc_sr ?_
      iterate 4 refine vo ?_
      refine vnt ?_
      refine vc_seq' ?_
      refine vc_sr ?_
      iterate 5 refine vo ?_
      refine vsp (fun g3 => ?_) (fun g3 => ?_)
      · iterate 4 refine vof ?_
        refine vo ?_
        refine vnt ?_
        refine vc_then ?_
        refine vc_sr ?_
        iterate 3 refine vo ?_
        refine vnt ?_
        refine vc_ret ?_
        refine thn_r ?_
        refine fin_i [(0, some 256)] rfl (fz ?_) (fz ?_)
        · trivial
        · rw [split_1 hs g2 (.inl g3)]; rfl
      · iterate 4 refine von ?_
        refine vo ?_
        refine vnt ?_
        refine vc_if (fun g4 => ?_) (fun g4 => ?_)
        · refine vc_sr ?_
          iterate 3 refine vo ?_
          refine vnt ?_
          refine vc_ret ?_
          refine thn_r ?_
          refine fin_i [(0, some 256)] rfl (fz ?_) (fz ?_)
          · trivial
          · rw [split_1 hs g2 (.inr g4)]; rfl
        · refine vc_skip ?_
          refine thn ?_
          refine vc_sr ?_
          iterate 2 refine vo ?_
          refine vnt ?_
          refine vc_seq' ?_
          refine vc_sr ?_
          refine vo ?_
          refine vnt ?_
          refine vc_block ?_
          refine vc_lp (σ := Nat) [1, 2, 5] [16] (fun k => [(6, .one (.hs 7)), (7, I (k : Nat))]) (fun k => [(7, .arr 39 16 (((List.range k).map (p.part size)).map pkE))]) (fun k => k ≤ p.body.size ∧ (0 < k → ((k : Int) - 1) * size < p.body.size)) (fun k => p.body.size - k) 0 rfl rfl (sub_i [(7, some 264)] (fz ?_) (fz ?_)) ?_ fun k hI => ?_
          · first | trivial | rfl
          · first | trivial | rfl
          · exact ⟨Nat.zero_le _, fun h => by omega⟩
          refine vc_nf rfl rfl ?_
          have hlr : (List.range k).length = k := List.length_range
          have hmb := mul_b2 (k := k) (size := size) (by omega) (by omega) (by omega)
          have hm := mul_s k size
          have hn := mul_nn (k := k) (show 0 ≤ size by omega)
          refine vc_seq' ?_
          refine vc_sr ?_
          iterate 3 refine vo ?_
          try refine vwr ?_
          iterate 3 refine vo ?_
          refine vnt ?_
          refine vc_if (fun g5 => ?_) (fun g5 => ?_)
          · have hlt : (k : Int) * size < p.body.size := g5
            have hkn := mul_lt (by omega) hlt
            refine vc_skip ?_
            refine thn ?_
            refine vc_seq' ?_
            refine vc_block ?_
            refine vc_sr ?_
            iterate 3 refine vo ?_
            refine vnt ?_
            refine vc_sr ?_
            iterate 2 refine vo ?_
            try refine vwr ?_
            iterate 2 refine vo ?_
            try refine vwr ?_
            refine vo ?_
            refine vnt ?_
            refine vc_seq' ?_
            refine vc_sr ?_
            iterate 4 refine vo ?_
            refine vnt ?_
            refine vc_if (fun g6 => ?_) (fun g6 => ?_)
            · have hfl : (if ((k : Int) + 1) * size < (p.body.size : Int) then andNotI p.fl 9 else p.fl) = andNotI p.fl 9 := if_pos g6
              refine vc_region ?_
              iterate 7 refine vo ?_
              refine vnt ?_
              refine vc_sr ?_
              iterate 4 refine vo ?_
              try refine vwr ?_
              iterate 2 refine vo ?_
              try first | refine vdr ?_ | refine vtk ?_
              iterate 3 refine vo ?_
              refine vnt ?_
              refine vc_sr ?_
              iterate 6 refine vo ?_
              try refine vwr ?_
              refine vo ?_
              try refine vwr ?_
              refine vo ?_
              try refine veq (Int.tmod_eq_emod_of_nonneg (by omega)) ?_
              iterate 3 refine vo ?_
              refine vnt ?_
              refine vc_sr ?_
              iterate 4 refine vo ?_
              try refine vwr ?_
              refine vo ?_
              try refine veq (Int.tmod_eq_emod_of_nonneg (by omega)) ?_
              iterate 2 refine vo ?_
              refine vnt ?_
              refine vc_region ?_
              iterate 5 refine vo ?_
              refine vnil ?_
              refine inB_n ?_
              refine thn ?_
              refine vc_region ?_
              iterate 2 refine vo ?_
              try refine vwr ?_
              refine vo ?_
              refine vnt ?_
              refine ⟨k + 1, ?_, ?_, sub_i [(7, some 688)] (fz ?_) (fz ?_)⟩
              · refine ⟨by omega, fun _ => ?_⟩; rw [show ((k + 1 : Nat) : Int) - 1 = k by omega]; exact hlt
              · omega
              · first | trivial | rfl | exact ⟨rfl, rfl⟩
              · rw [← part_stp]; simp [pkE, Pk.part, hfl, Int.tmod_eq_emod_of_nonneg]; try (congr 1; omega)
            · have hfl : (if ((k : Int) + 1) * size < (p.body.size : Int) then andNotI p.fl 9 else p.fl) = p.fl := if_neg (by omega)
              refine vc_region ?_
              iterate 3 refine vo ?_
              refine vnt ?_
              refine vc_sr ?_
              iterate 4 refine vo ?_
              try refine vwr ?_
              iterate 2 refine vo ?_
              try first | refine vdr ?_ | refine vtk ?_
              iterate 3 refine vo ?_
              refine vnt ?_
              refine vc_sr ?_
              iterate 6 refine vo ?_
              try refine vwr ?_
              refine vo ?_
              try refine vwr ?_
              refine vo ?_
              try refine veq (Int.tmod_eq_emod_of_nonneg (by omega)) ?_
              iterate 3 refine vo ?_
              refine vnt ?_
              refine vc_sr ?_
              iterate 4 refine vo ?_
              try refine vwr ?_
              refine vo ?_
              try refine veq (Int.tmod_eq_emod_of_nonneg (by omega)) ?_
              iterate 2 refine vo ?_
              refine vnt ?_
              refine vc_region ?_
              iterate 5 refine vo ?_
              refine vnil ?_
              refine inB_n ?_
              refine thn ?_
              refine vc_region ?_
              iterate 2 refine vo ?_
              try refine vwr ?_
              refine vo ?_
              refine vnt ?_
              refine ⟨k + 1, ?_, ?_, sub_i [(7, some 688)] (fz ?_) (fz ?_)⟩
              · refine ⟨by omega, fun _ => ?_⟩; rw [show ((k + 1 : Nat) : Int) - 1 = k by omega]; exact hlt
              · omega
              · first | trivial | rfl | exact ⟨rfl, rfl⟩
              · rw [← part_stp]; simp [pkE, Pk.part, hfl, Int.tmod_eq_emod_of_nonneg]; try (congr 1; omega)
          · refine vc_exit ?_
            refine thn_x ?_
            refine thn_x ?_
            refine inB_x ?_
            refine thn ?_
            refine vc_sr ?_
            iterate 2 refine vo ?_
            refine vnt ?_
            refine vc_ret ?_
            refine fin_i [(0, some 7)] rfl (fz ?_) (fz ?_)
            · trivial
            · rw [split_n hs g2 (by omega) (by omega) (by omega) hI.2]
set_option maxHeartbeats 4000000 in
theorem c_spec_Split {p : Pk} {size : Int} (hz_p : p.body.size ≤ 1099511627776 := by first | assumption | omega) : Con0 Tryz.prog 91 [.agg [V (p).dm, V (p).sm, V (p).vl, V (p).tos, V (p).id, V (p).ttl, V (p).si, V (p).di, V (p).kind, V (p).sp, V (p).dp, V (p).seq, V (p).ack, V (p).fl, V (p).win, VS (p).body], I size] (.one (.hs 0)) [(0, .arr 39 16 ((splitF p size).map pkE))] := by
  refine con_i Tryz.func91 Tryz.ntmps91 (t := [(0, .agg [V (p).dm, V (p).sm, V (p).vl, V (p).tos, V (p).id, V (p).ttl, V (p).si, V (p).di, V (p).kind, V (p).sp, V (p).dp, V (p).seq, V (p).ack, V (p).fl, V (p).win, VS (p).body]), (1, I size)]) rfl ?_
  refine vc_sr ?_
  iterate 2 refine vo ?_
  refine vnt ?_
  refine vc_sr ?_
  iterate 2 refine vo ?_
  refine vnt ?_
  refine vc_seq' ?_
  refine vc_sr ?_
  refine vo ?_
  refine voc c_spec_SuperOk rfl rfl ?_
  iterate 2 refine vo ?_
  refine vsp (fun g1 => ?_) (fun g1 => ?_)
  · iterate 3 refine vof ?_
    refine vo ?_
    refine vnt ?_
    refine vc_then ?_
    refine vc_sr ?_
    iterate 2 refine vo ?_
    refine vnt ?_
    refine vc_ret ?_
    refine thn_r ?_
    refine fin_i [(0, some 72)] rfl (fz ?_) (fz ?_)
    · trivial
    · rw [split_0 (.inl g1)]; rfl
  · have hs : p.sup = true := g1
    refine von ?_
    refine vocn c_spec_l01In rfl rfl ?_
    refine von ?_
    refine vo ?_
    refine vnt ?_
    refine vc_if (fun g2 => ?_) (fun g2 => ?_)
    · refine vc_sr ?_
      iterate 2 refine vo ?_
      refine vnt ?_
      refine vc_ret ?_
      refine thn_r ?_
      refine fin_i [(0, some 72)] rfl (fz ?_) (fz ?_)
      · trivial
      · rw [split_0 (.inr g2)]; rfl
    · have hz2 := inB_iff.1 g2
      obtain ⟨hbz, hsq, hid⟩ := sup_pk hs
      refine vc_skip ?_
      refine thn ?_
      refine vc_sr ?_
      iterate 5 refine vo ?_
      refine vnt ?_
      refine vc_seq' ?_
      refine vc_sr ?_
      iterate 5 refine vo ?_
      refine vsp (fun g3 => ?_) (fun g3 => ?_)
      · iterate 3 refine vof ?_
        refine vo ?_
        refine vnt ?_
        refine vc_then ?_
        refine vc_sr ?_
        iterate 5 refine vo ?_
        refine vnt ?_
        refine vc_ret ?_
        refine thn_r ?_
        refine fin_i [(0, some 280)] rfl (fz ?_) (fz ?_)
        · trivial
        · rw [split_1 hs g2 (.inl g3)]; rfl
      · iterate 3 refine von ?_
        refine vo ?_
        refine vnt ?_
        refine vc_if (fun g4 => ?_) (fun g4 => ?_)
        · refine vc_sr ?_
          iterate 5 refine vo ?_
          refine vnt ?_
          refine vc_ret ?_
          refine thn_r ?_
          refine fin_i [(0, some 280)] rfl (fz ?_) (fz ?_)
          · trivial
          · rw [split_1 hs g2 (.inr g4)]; rfl
        · refine vc_skip ?_
          refine thn ?_
          refine vc_seq' ?_
          refine vc_sr ?_
          refine vo ?_
          refine vnt ?_
          refine vc_block ?_
          refine vc_lp (σ := Nat) [1, 2, 6] [16] (fun k => [(5, .one (.hs 7)), (7, I (k : Nat))]) (fun k => [(7, .arr 39 16 (((List.range k).map (p.part size)).map pkE))]) (fun k => k ≤ p.body.size ∧ (0 < k → ((k : Int) - 1) * size < p.body.size)) (fun k => p.body.size - k) 0 rfl rfl (sub_i [(7, some 72)] (fz ?_) (fz ?_)) ?_ fun k hI => ?_
          · first | trivial | rfl
          · first | trivial | rfl
          · exact ⟨Nat.zero_le _, fun h => by omega⟩
          refine vc_nf rfl rfl ?_
          have hlr : (List.range k).length = k := List.length_range
          have hmb := mul_b2 (k := k) (size := size) (by omega) (by omega) (by omega)
          have hm := mul_s k size
          have hn := mul_nn (k := k) (show 0 ≤ size by omega)
          refine vc_seq' ?_
          refine vc_sr ?_
          iterate 3 refine vo ?_
          try refine vwr ?_
          iterate 2 refine vo ?_
          refine vnt ?_
          refine vc_if (fun g5 => ?_) (fun g5 => ?_)
          · have hlt : (k : Int) * size < p.body.size := g5
            have hkn := mul_lt (by omega) hlt
            refine vc_skip ?_
            refine thn ?_
            refine vc_seq' ?_
            refine vc_block ?_
            refine vc_sr ?_
            iterate 3 refine vo ?_
            refine vnt ?_
            refine vc_sr ?_
            iterate 6 refine vo ?_
            try refine vwr ?_
            iterate 3 refine vo ?_
            try refine vwr ?_
            iterate 2 refine vo ?_
            try refine vwr ?_
            iterate 2 refine vo ?_
            try first | refine vdr ?_ | refine vtk ?_
            iterate 3 refine vo ?_
            refine vnt ?_
            refine vc_sr ?_
            iterate 6 refine vo ?_
            try refine vwr ?_
            refine vo ?_
            try refine vwr ?_
            refine vo ?_
            try refine veq (Int.tmod_eq_emod_of_nonneg (by omega)) ?_
            iterate 3 refine vo ?_
            refine vnt ?_
            refine vc_sr ?_
            iterate 4 refine vo ?_
            try refine vwr ?_
            refine vo ?_
            try refine veq (Int.tmod_eq_emod_of_nonneg (by omega)) ?_
            iterate 2 refine vo ?_
            refine vnt ?_
            refine vc_seq' ?_
            refine vc_sr ?_
            iterate 2 refine vo ?_
            try refine vwr ?_
            iterate 2 refine vo ?_
            try refine vwr ?_
            iterate 2 refine vo ?_
            refine vnt ?_
            refine vc_if (fun g6 => ?_) (fun g6 => ?_)
            · have hfl : (if ((k : Int) + 1) * size < (p.body.size : Int) then andNotI p.fl 9 else p.fl) = andNotI p.fl 9 := if_pos g6
              refine vc_region ?_
              iterate 7 refine vo ?_
              refine vnt ?_
              refine vc_region ?_
              iterate 5 refine vo ?_
              refine vnil ?_
              refine inB_n ?_
              refine thn ?_
              refine vc_region ?_
              iterate 2 refine vo ?_
              try refine vwr ?_
              refine vo ?_
              refine vnt ?_
              refine ⟨k + 1, ?_, ?_, sub_i [(7, some 720)] (fz ?_) (fz ?_)⟩
              · refine ⟨by omega, fun _ => ?_⟩; rw [show ((k + 1 : Nat) : Int) - 1 = k by omega]; exact hlt
              · omega
              · first | trivial | rfl | exact ⟨rfl, rfl⟩
              · rw [← part_stp]; simp [pkE, Pk.part, hfl, Int.tmod_eq_emod_of_nonneg]; try (congr 1; omega)
            · have hfl : (if ((k : Int) + 1) * size < (p.body.size : Int) then andNotI p.fl 9 else p.fl) = p.fl := if_neg (by omega)
              refine vc_skip ?_
              refine thn ?_
              refine vc_region ?_
              iterate 5 refine vo ?_
              refine vnil ?_
              refine inB_n ?_
              refine thn ?_
              refine vc_region ?_
              iterate 2 refine vo ?_
              try refine vwr ?_
              refine vo ?_
              refine vnt ?_
              refine ⟨k + 1, ?_, ?_, sub_i [(7, some 720)] (fz ?_) (fz ?_)⟩
              · refine ⟨by omega, fun _ => ?_⟩; rw [show ((k + 1 : Nat) : Int) - 1 = k by omega]; exact hlt
              · omega
              · first | trivial | rfl | exact ⟨rfl, rfl⟩
              · rw [← part_stp]; simp [pkE, Pk.part, hfl, Int.tmod_eq_emod_of_nonneg]; try (congr 1; omega)
          · refine vc_exit ?_
            refine thn_x ?_
            refine thn_x ?_
            refine inB_x ?_
            refine thn ?_
            refine vc_sr ?_
            iterate 2 refine vo ?_
            refine vnt ?_
            refine vc_ret ?_
            refine fin_i [(0, some 7)] rfl (fz ?_) (fz ?_)
            · trivial
            · rw [split_n hs g2 (by omega) (by omega) (by omega) hI.2]
end Go.Proofs.YtbdcaacpemkloaaGreat
end
section
namespace Go.Proofs.YtbdcaacpemkloaaGreat
open Go Go.RowKit Go.Vc
set_option linter.unusedVariables false
set_option linter.unusedSimpArgs false
set_option linter.unnecessarySimpa false
theorem split_sz {p : Pk} {size : Int} {M : Nat} (hp : p.body.size ≤ M) : ∀ q ∈ splitF p size, q.body.size ≤ M := by
  intro q hq
  unfold splitF at hq
  split at hq
  · split at hq
    · obtain ⟨k, _, rfl⟩ := List.mem_map.1 hq
      unfold Pk.part
      simp only [ByteArray.size_extract]
      omega
    · rw [List.mem_singleton.1 hq]; exact hp
  · cases hq
theorem podF_y {l : List Dsc} (h : podB l = true) : podF l = podL l := if_pos h
theorem gath_sz {l : List Mp} {ps : Pg} {d : Int} : ∀ (pcs : List Pc) (o : ByteArray), (∀ p ∈ pcs, p.2 ≤ 4096) → (gath l ps d pcs o).1.size ≤ o.size + 4096 * pcs.length
  | [], o, h => by simp [gath]
  | p :: r, o, h => by
    simp only [gath]
    split
    · have h1 := gath_sz (l := l) (ps := ps) (d := d) r (o ++ (dmaRF l ps d p.1 p.2).1) fun q hq => h q (List.mem_cons_of_mem _ hq)
      have h2 := dmaRF_le l ps d p.1 p.2 (h p (List.mem_cons_self ..))
      rw [ByteArray.size_append] at h1
      simp only [List.length_cons]
      omega
    · exact Nat.zero_le _
theorem gathF_sz (l : List Mp) (ps : Pg) (d : Int) (pcs : List Pc) : (gathF l ps d pcs).1.size ≤ 65536 := by
  by_cases h : pcsOk pcs = true
  · obtain ⟨h1, h2⟩ := pcsOk_iff.1 h
    rw [gathF_y h]
    have := gath_sz (l := l) (ps := ps) (d := d) pcs ⟨#[]⟩ fun p hp => by
      obtain ⟨i, hi, rfl⟩ := List.getElem_of_mem hp
      have := (h1 i hi).2.2
      rwa [atq_eq hi] at this
    have e : (⟨#[]⟩ : ByteArray).size = 0 := rfl
    omega
  · rw [gathF_n (by simpa using h)]; exact Nat.zero_le _
theorem fsF_sz (t : ByteArray) : (fsF t).size ≤ 1000 := by
  unfold fsF
  split
  · rename_i h
    exact (sup_img (rdC_sup (fs_facts h).2.1)).2
  · exact Nat.zero_le _
theorem rdF_sz (s : ByteArray) : (rdF s).body.size ≤ 320 := by
  by_cases h : rdC s = 0
  · exact sup_len (rdC_sup h)
  · rw [rdF, if_neg h]; exact Nat.zero_le _
set_option maxHeartbeats 4000000 in
theorem c_impl_SendFrames {p : Pk} {size : Int} (hz_p : p.body.size ≤ 1099511627776 := by first | assumption | omega) : Con0 Tryz.prog 89 [.agg [V (p).dm, V (p).sm, V (p).vl, V (p).tos, V (p).id, V (p).ttl, V (p).si, V (p).di, V (p).kind, V (p).sp, V (p).dp, V (p).seq, V (p).ack, V (p).fl, V (p).win, VS (p).body], I size] (.one (.hs 0)) [(0, .arr 9 1 ((framesF (splitF p size)).map strE))] := by
  have hsl := split_le p size
  have hz := split_sz (size := size) hz_p
  refine con_i Tryz.func89 Tryz.ntmps89 (t := [(0, .agg [V (p).dm, V (p).sm, V (p).vl, V (p).tos, V (p).id, V (p).ttl, V (p).si, V (p).di, V (p).kind, V (p).sp, V (p).dp, V (p).seq, V (p).ack, V (p).fl, V (p).win, VS (p).body]), (1, I size)]) rfl ?_
  refine vc_sr ?_
  iterate 2 refine vo ?_
  refine vnt ?_
  refine vc_sr ?_
  iterate 2 refine vo ?_
  refine voc c_impl_Split rfl rfl ?_
  refine voc c_impl_FrameAll rfl rfl ?_
  refine vo ?_
  refine vnt ?_
  refine vc_ret ?_
  refine fin_i [(0, some 64)] rfl (fz ?_) (fz ?_) <;> trivial
set_option maxHeartbeats 4000000 in
theorem c_spec_SendFrames {p : Pk} {size : Int} (hz_p : p.body.size ≤ 1099511627776 := by first | assumption | omega) : Con0 Tryz.prog 15 [.agg [V (p).dm, V (p).sm, V (p).vl, V (p).tos, V (p).id, V (p).ttl, V (p).si, V (p).di, V (p).kind, V (p).sp, V (p).dp, V (p).seq, V (p).ack, V (p).fl, V (p).win, VS (p).body], I size] (.one (.hs 0)) [(0, .arr 9 1 ((framesF (splitF p size)).map strE))] := by
  have hsl := split_le p size
  have hz := split_sz (size := size) hz_p
  refine con_i Tryz.func15 Tryz.ntmps15 (t := [(0, .agg [V (p).dm, V (p).sm, V (p).vl, V (p).tos, V (p).id, V (p).ttl, V (p).si, V (p).di, V (p).kind, V (p).sp, V (p).dp, V (p).seq, V (p).ack, V (p).fl, V (p).win, VS (p).body]), (1, I size)]) rfl ?_
  refine vc_sr ?_
  iterate 2 refine vo ?_
  refine vnt ?_
  refine vc_sr ?_
  iterate 2 refine vo ?_
  refine voc c_spec_Split rfl rfl ?_
  refine voc c_spec_FrameAll rfl rfl ?_
  refine vo ?_
  refine vnt ?_
  refine vc_ret ?_
  refine fin_i [(0, some 64)] rfl (fz ?_) (fz ?_) <;> trivial
set_option maxHeartbeats 4000000 in
theorem c_impl_TransmitNext {l : List Mp} {ps : Pg} {d b s h t : Int} (hl : l.length ≤ 1099511627776 := by first | with_reducible assumption | omega) (hp : ps.length ≤ 1099511627776 := by first | with_reducible assumption | omega) : Con0 Tryz.prog 13 [.one (.sl 4 (l.map mpE)), .agg [.sl 1 (ps.map strE)], I d, .agg [V b, V s, V h, V t]] (.tup [.agg [V b, V s, V (txF l ps d b s h t).1, V t], .one (.hs 0), I (txF l ps d b s h t).2.2]) [(0, .arr 9 1 ((txF l ps d b s h t).2.1.map strE))] := by
  have htl := tc_len l ps d b s h t
  refine con_i Tryz.func13 Tryz.ntmps13 (t := [(0, .one (.sl 4 (l.map mpE))), (1, .agg [.sl 1 (ps.map strE)]), (2, I d), (3, .agg [V b, V s, V h, V t])]) rfl ?_
  refine vc_sr ?_
  iterate 5 refine vo ?_
  refine vnt ?_
  refine vc_seq' ?_
  refine vc_sr ?_
  refine vo ?_
  refine voc c_impl_RingOk rfl rfl ?_
  iterate 2 refine vo ?_
  refine vsp (fun g1 => ?_) (fun g1 => ?_)
  · iterate 3 refine vof ?_
    refine vo ?_
    refine vnt ?_
    refine vc_then ?_
    refine vc_sr ?_
    iterate 4 refine vo ?_
    refine vnt ?_
    refine vc_ret ?_
    refine thn_r ?_
    have hh := tx_0 (l := l) (ps := ps) (d := d) (b := b) (s := s) (h := h) (t := t) (.inl g1)
    refine fin_i [(0, none)] rfl (fz ?_) (fz ?_)
    · rw [hh]; first | exact ⟨rfl, rfl⟩ | exact rfl
    · rw [hh]; first | exact rfl
  · have hs0 := (ringOk_facts g1).1
    refine von ?_
    refine vocn c_impl_RingUsed rfl rfl ?_
    refine von ?_
    refine vo ?_
    refine vnt ?_
    refine vc_if (fun g2 => ?_) (fun g2 => ?_)
    · refine vc_sr ?_
      iterate 4 refine vo ?_
      refine vnt ?_
      refine vc_ret ?_
      refine thn_r ?_
      have hh := tx_0 (l := l) (ps := ps) (d := d) (b := b) (s := s) (h := h) (t := t) (.inr g2)
      refine fin_i [(0, none)] rfl (fz ?_) (fz ?_)
      · rw [hh]; first | exact ⟨rfl, rfl⟩ | exact rfl
      · rw [hh]; first | exact rfl
    · refine vc_skip ?_
      refine thn ?_
      refine vc_sr ?_
      iterate 4 refine vo ?_
      refine voc c_impl_TakeChain rfl rfl ?_
      iterate 8 refine vo ?_
      refine vnt ?_
      refine vc_seq' ?_
      refine vc_sr ?_
      iterate 2 refine vo ?_
      refine vnt ?_
      refine vc_if (fun g3 => ?_) (fun g3 => ?_)
      · refine vc_sr ?_
        iterate 4 refine vo ?_
        refine vnt ?_
        refine vc_ret ?_
        refine thn_r ?_
        have hh := tx_2 g1 g2 (show txB l ps d b s h t = false by unfold txB; rw [g3]; rfl)
        refine fin_i [(0, none)] rfl (fz ?_) (fz ?_)
        · rw [hh]; first | exact ⟨rfl, rfl⟩ | exact rfl
        · rw [hh]; first | exact rfl
      · refine vc_skip ?_
        refine thn ?_
        refine vc_sr ?_
        refine vo ?_
        refine voc c_impl_PiecesOfDescs rfl rfl ?_
        iterate 9 refine vo ?_
        refine vnt ?_
        refine vc_seq' ?_
        refine vc_sr ?_
        iterate 2 refine vo ?_
        refine vnt ?_
        refine vc_if (fun g4 => ?_) (fun g4 => ?_)
        · refine vc_sr ?_
          iterate 4 refine vo ?_
          refine vnt ?_
          refine vc_ret ?_
          refine thn_r ?_
          have hh := tx_2 g1 g2 (show txB l ps d b s h t = false by unfold txB; rw [g4]; simp)
          refine fin_i [(0, none)] rfl (fz ?_) (fz ?_)
          · rw [hh]; first | exact ⟨rfl, rfl⟩ | exact rfl
          · rw [hh]; first | exact rfl
        · rw [podF_y g4]
          have hb : ∀ x ∈ podL (tcF l ps d b s h t).1, x.1 ≤ 9223372036854775807 := fun x hx => by have := (pod_at g4).2 x hx; omega
          have hpn := podL_len (tcF l ps d b s h t).1
          refine vc_skip ?_
          refine thn ?_
          refine vc_sr ?_
          iterate 4 refine vo ?_
          refine voc c_impl_GatherPieces rfl rfl ?_
          iterate 5 refine vo ?_
          refine vnt ?_
          refine vc_seq' ?_
          refine vc_sr ?_
          iterate 2 refine vo ?_
          refine vnt ?_
          refine vc_if (fun g5 => ?_) (fun g5 => ?_)
          · refine vc_sr ?_
            iterate 4 refine vo ?_
            refine vnt ?_
            refine vc_ret ?_
            refine thn_r ?_
            have hh := tx_2 g1 g2 (show txB l ps d b s h t = false by unfold txB; rw [g5]; simp)
            refine fin_i [(0, none)] rfl (fz ?_) (fz ?_)
            · rw [hh]; first | exact ⟨rfl, rfl⟩ | exact rfl
            · rw [hh]; first | exact rfl
          · refine vc_skip ?_
            refine thn ?_
            refine vc_sr ?_
            refine vo ?_
            have zg : (gathF l ps d (podL (tcF l ps d b s h t).1)).1.size ≤ 1099511627776 := Nat.le_trans (gathF_sz ..) (by decide)
            refine voc c_impl_FillSums rfl rfl ?_
            iterate 5 refine vo ?_
            refine vnt ?_
            refine vc_seq' ?_
            refine vc_sr ?_
            iterate 2 refine vo ?_
            refine vnt ?_
            refine vc_if (fun g6 => ?_) (fun g6 => ?_)
            · refine vc_sr ?_
              iterate 4 refine vo ?_
              refine vnt ?_
              refine vc_ret ?_
              refine thn_r ?_
              have hh := tx_2 g1 g2 (show txB l ps d b s h t = false by unfold txB; rw [g6]; simp)
              refine fin_i [(0, none)] rfl (fz ?_) (fz ?_)
              · rw [hh]; first | exact ⟨rfl, rfl⟩ | exact rfl
              · rw [hh]; first | exact rfl
            · refine vc_skip ?_
              refine thn ?_
              refine vc_sr ?_
              refine vo ?_
              have zf : (fsF (gathF l ps d (podL (tcF l ps d b s h t).1)).1).size ≤ 1099511627776 := Nat.le_trans (fsF_sz _) (by decide)
              refine voc c_impl_ReadImage rfl rfl ?_
              iterate 6 refine vo ?_
              refine vnt ?_
              refine vc_seq' ?_
              refine vc_sr ?_
              iterate 2 refine vo ?_
              refine vnt ?_
              refine vc_if (fun g7 => ?_) (fun g7 => ?_)
              · refine vc_sr ?_
                iterate 4 refine vo ?_
                refine vnt ?_
                refine vc_ret ?_
                refine thn_r ?_
                have hh := tx_2 g1 g2 (show txB l ps d b s h t = false by unfold txB; rw [decide_eq_false (p := rdC (txI l ps d b s h t) = 0) g7]; simp)
                refine fin_i [(0, none)] rfl (fz ?_) (fz ?_)
                · rw [hh]; first | exact ⟨rfl, rfl⟩ | exact rfl
                · rw [hh]; first | exact rfl
              · have zr : (rdF (fsF (gathF l ps d (podL (tcF l ps d b s h t).1)).1)).body.size ≤ 1099511627776 := Nat.le_trans (rdF_sz _) (by decide)
                refine vc_skip ?_
                refine thn ?_
                refine vc_sr ?_
                iterate 3 refine vo ?_
                refine voc c_impl_SendFrames rfl rfl ?_
                iterate 3 refine vo ?_
                refine vnt ?_
                refine vc_ret ?_
                have hh := tx_1 g1 g2 (show txB l ps d b s h t = true by unfold txB; rw [g3, g4, g5, g6, decide_eq_true (p := rdC (txI l ps d b s h t) = 0) g7]; rfl)
                refine fin_i [(0, some 656)] rfl (fz ?_) (fz ?_)
                · rw [hh]; first | exact ⟨rfl, rfl⟩ | exact rfl
                · rw [hh]; first | exact rfl
end Go.Proofs.YtbdcaacpemkloaaGreat
end
section
namespace Go.Vc
open Go Go.RowKit
set_option linter.unusedVariables false
set_option linter.unusedSectionVars false
theorem tri_lenO {P : Program} [TyEnv P] {o : Oper} {rd : Nat → AV} {T e : TypeId} {i : TyI} {j : Nat} {x : Operand} {E E' : TypeId} {xs : List Snt} (ho : o.op = .call { callee := .builtin .len, args := #[x], argTypes := #[T] }) (hi : TyEnv.ti P T = some i) (hk : i.k = .slice e) (hx : evo rd x = .one (.hs j)) : Tri P o rd [(j, .own (sntOw E E' xs))] (.one (.v (.int .i64 xs.length))) [] := by
  intro w0 w ρ n t H a Q hr ht hrs hfr hd
  obtain ⟨A, Js, hA, h2, _⟩ := hr.focus (hrs j _ (List.mem_cons_self ..))
  have hA' : A = (sntOw E E' xs).A (ρ j) := hA
  subst hA'
  have hx' := hr.ev x
  rw [evo_of (by simp [ho, Op.operands, Call.operands]) ht, hx] at hx'
  obtain ⟨hD, hx', _⟩ := hx'
  obtain ⟨F, hF⟩ := h2.head
  obtain ⟨es, ⟨B, c, g1, _⟩, g2⟩ : (snQ xs).P w (ρ j) := (sntOw E E' xs).rd hF
  have hu := ty_slice hi hk
  have hrun := run_len_slice (P := P) w T o.type B es.length c (by rw [elem_of hu]; exact hu)
  unfold Oper.wp
  rw [show (execOp a.eval o).run P w = .ok (.value (.int .i64 xs.length)) w by rw [g2.len]; simp [execOp, ho, resolve, invoke, builtin, hx', g1, hrun, goInt]]
  exact ⟨ρ, hr.put (v := .one (.v (.int .i64 xs.length))) (ar_v rfl) hd⟩
section
variable {P : Program} [TyEnv P] {n : Nat} {ops os : List Oper} {K : Tm → Hp → Prop} {t t' : Tm} {H H' : Hp} {o : Oper} {k1 k2 : List Nat} {dr : Bool} {fp : List Fp} {T e : TypeId} {i : TyI} {j : Nat} {x : Operand} {E E' : TypeId} {xs : List Snt}
theorem vqlo (h : Vd P n ops dr K os t' H' ((k1, k2) :: fp)) (hd : dstB o.dst n = true := by rfl) (hg : o.guard = none := by rfl) (ho : o.op = .call { callee := .builtin .len, args := #[x], argTypes := #[T] } := by rfl) (hi : TyEnv.ti P T = some i := by rfl) (hk : i.k = .slice e := by rfl) (hx : evo (gt t) x = .one (.hs j) := by rfl) (hj : lk H j = some (.own (sntOw E E' xs)) := by rfl)
    (ht : stF o.dst (.one (.v (.int .i64 xs.length))) [] [(j, .own (sntOw E E' xs))] t H = some (t', H', k1, k2) := by rfl) : Vd P n ops dr K (o :: os) t H fp := vd_plain hd hg (goodr (tri_lenO ho hi hk hx) hj) ht h
end
end Go.Vc
end
section
namespace Go.Proofs.YtbdcaacpemkloaaGreat
open Go Go.RowKit Go.Vc
set_option linter.unusedVariables false
set_option linter.unusedSimpArgs false
set_option linter.unnecessarySimpa false
set_option maxHeartbeats 4000000 in
theorem c_laws_FnSentAsSoftware {v : Value} {code : List UInt8} (hv : v.oneCell' = true)  : ConV Tryz.prog 3 v code (α := Unit) (fun _ => True) (fun _ => .one (.v (.bool true))) (fun _ => []) := by
  refine conv_i Tryz.func3 Tryz.ntmps3 (fun L => ?_) hv
  refine vc_nf rfl rfl ?_
  refine vc_sr ?_
  refine vo ?_
  refine vnt ?_
  refine vc_seq' ?_
  refine vc_sr ?_
  refine vo ?_
  refine voc c_laws_big rfl rfl ?_
  refine vnt ?_
  refine vc_if (fun g1 => ?_) (fun g1 => ?_)
  · refine vc_sr ?_
    refine vo ?_
    refine vnt ?_
    refine vc_ret ?_
    refine thn_r ?_
    refine fin_g (()) (trivial) [(1000003, some 1000003)] rfl (fz ?_) (fz ?_) <;> first | trivial | rfl | trace_state
  · refine vc_skip ?_
    refine thn ?_
    refine vc_seq' ?_
    refine vc_sv ?_
    refine svo ?_
    refine svv (c_spec_DrawSending hv) (fun x hx => ?_)
    obtain ⟨r, hr⟩ : ∃ r, sdF x.w.l ps0 0 0 x.w.s x.w.h x.w.h 256 128 10 (tenF 10) [] x.w.nx x.p x.size x.cut = r := ⟨_, rfl⟩
    obtain ⟨pl1, pl2, pl3⟩ := snd_plain hx hr
    obtain ⟨sp1, sp2, sp3, sp4, sp5⟩ := soft_plain hx hr
    have hl12 : x.w.l.length = 12 := hx.1.2.1
    have hp12 : ps0.length = 12 := by simp [ps0]
    have ht10 : (tenF 10).length = 10 := tenF_len 10
    have hbd : x.p.body.size ≤ 320 := sup_len hx.2.1
    have hcl := ch_le ps0 r.1 r.1.length
    have hch : (chF ps0 r.1 r.1.length) = chF ps0 r.1 12 := by rw [pl1]
    have hsz16 : sizeB x.w.s = true := (ringOk_facts pl2).1
    refine svo ?_
    refine svo ?_
    refine svo ?_
    refine svo ?_
    refine svo ?_
    refine svo ?_
    refine svo ?_
    refine svo ?_
    refine svo ?_
    refine svo ?_
    refine svo ?_
    refine svo ?_
    refine svo ?_
    refine svo ?_
    refine svo ?_
    refine svo ?_
    refine svnil ?_
    refine thn ?_
    refine vc_sr ?_
    iterate 6 refine vo ?_
    refine voc (c_spec_SendPacket (hr := hr) (hl_ws := Nat.zero_le _) (hz_ws := Nat.zero_le _)) rfl rfl ?_
    iterate 9 refine vo ?_
    refine vnt ?_
    refine vc_sr ?_
    iterate 6 refine vo ?_
    refine voc (c_impl_SendPacket (hr := hr) (hl_ws := Nat.zero_le _) (hz_ws := Nat.zero_le _)) rfl rfl ?_
    iterate 9 refine vo ?_
    refine vnt ?_
    refine vc_seq' ?_
    refine vc_sr ?_
    iterate 3 refine vo ?_
    refine vnt ?_
    refine vc_if (fun g2 => ?_) (fun g2 => ?_)
    · rw [bne_self_eq_false] at g2; cases g2
    · refine vc_skip ?_
      refine thn ?_
      refine vc_seq' ?_
      refine vc_sr ?_
      iterate 2 refine vo ?_
      refine vnt ?_
      refine vc_if (fun g3 => ?_) (fun g3 => ?_)
      · refine vc_sr ?_
        iterate 2 refine vo ?_
        first | (refine vql ?_; refine vlnS ?_) | (refine vqlo ?_; refine vlnS ?_) | refine vo ?_
        try first | refine vlb ?_ | refine vln ?_
        iterate 2 refine vo ?_
        first | (refine vql ?_; refine vlnS ?_) | (refine vqlo ?_; refine vlnS ?_) | refine vo ?_
        try first | refine vlb ?_ | refine vln ?_
        iterate 2 refine vo ?_
        refine vsp (fun g4 => ?_) (fun g4 => ?_)
        · iterate 2 refine von ?_
          refine vocn (c_impl_ChangedPages (a := ps0) (b := r.1)) rfl rfl ?_
          refine von ?_
          try first | refine vlb ?_ | refine vln ?_
          refine von ?_
          iterate 2 refine vo ?_
          refine vnt ?_
          refine vc_ret ?_
          refine thn_r ?_
          have hz : (chF ps0 r.1 r.1.length).length = 0 := by rw [hch]; rw [g3] at pl3; have := of_decide_eq_false pl3; omega
          have hz2 : decide (((chF ps0 r.1 r.1.length).length : Int) = 0) = true := decide_eq_true (by omega)
          rw [hz2]
          refine fin_g (()) (trivial) [(1000003, some 1000003)] rfl (fz ?_) (fz ?_) <;> first | trivial | rfl | trace_state
        · iterate 5 refine vof ?_
          iterate 2 refine vo ?_
          refine vnt ?_
          refine vc_ret ?_
          refine thn_r ?_
          exfalso
          exact g4 (by rw [sp2 g3]; rfl)
      · obtain ⟨t1, t2, t3⟩ := sp1 g3
        have hc1 : (txF x.w.l r.1 0 0 x.w.s x.w.h r.2.1).2.2 = 1 := by rw [t1]
        have hf1 : (txF x.w.l r.1 0 0 x.w.s x.w.h r.2.1).2.1 = framesF (splitF x.p x.size) := by rw [t1]
        have hf2 : (txF x.w.l r.1 0 0 x.w.s x.w.h r.2.1).1 = r.2.1 := by rw [t1]
        have hfl : (framesF (splitF x.p x.size)).length ≤ 320 := by unfold framesF; rw [List.length_map]; exact Nat.le_trans (List.length_filter_le _ _) (split_le _ _)
        have hfl1 : (txF x.w.l r.1 0 0 x.w.s x.w.h r.2.1).2.1.length ≤ 320 := by rw [hf1]; exact hfl
        refine vc_skip ?_
        refine thn ?_
        refine vc_sr ?_
        iterate 4 refine vo ?_
        refine voc (c_impl_TransmitNext (ps := r.1)) rfl rfl ?_
        iterate 8 refine vo ?_
        refine vnt ?_
        refine vc_sr ?_
        iterate 3 refine vo ?_
        refine vsp (fun g5 => ?_) (fun g5 => ?_)
        · iterate 3 refine von ?_
          refine vocn c_spec_SendFrames rfl rfl ?_
          refine vocn c_laws_sameTexts rfl rfl ?_
          iterate 2 refine vo ?_
          refine vsp (fun g6 => ?_) (fun g6 => ?_)
          · refine von ?_
            refine vocn c_impl_RingUsed rfl rfl ?_
            refine von ?_
            iterate 2 refine vo ?_
            refine vsp (fun g7 => ?_) (fun g7 => ?_)
            · refine von ?_
              refine vocn (c_impl_TxOk (ws := r.2.2.2.1) (hl_ws := by omega) (hl_fr := by omega) (hz_ws := by omega)) rfl rfl ?_
              iterate 2 refine vo ?_
              refine vnt ?_
              refine vc_ret ?_
              rw [t3]
              refine fin_g (()) (trivial) [(1000003, some 1000003)] rfl (fz ?_) (fz ?_) <;> first | trivial | rfl | trace_state
            · iterate 2 refine vof ?_
              iterate 2 refine vo ?_
              refine vnt ?_
              refine vc_ret ?_
              exfalso
              exact g7 (by rw [hf2]; exact t2)
          · iterate 3 refine vof ?_
            iterate 2 refine vo ?_
            iterate 2 refine vof ?_
            iterate 2 refine vo ?_
            refine vnt ?_
            refine vc_ret ?_
            exfalso
            rw [hf1, show smT (framesF (splitF x.p x.size)) (framesF (splitF x.p x.size)) = true from decide_eq_true rfl] at g6
            cases g6
        · iterate 5 refine vof ?_
          iterate 2 refine vo ?_
          iterate 3 refine vof ?_
          iterate 2 refine vo ?_
          iterate 2 refine vof ?_
          iterate 2 refine vo ?_
          refine vnt ?_
          refine vc_ret ?_
          exfalso
          exact g5 hc1
end Go.Proofs.YtbdcaacpemkloaaGreat
end
section
namespace Go.Vc
open Go Go.RowKit
theorem walk_of {P : Program} {f : FuncId} {w : World} {v : Value} {code : List UInt8} (h : v.oneCell' = true → ConV P f v code (α := Unit) (fun _ => True) (fun _ => .one (.v (.bool true))) (fun _ => [])) (hc : Holds w code [v]) :
    Calls P f #[v] w fun e w' => e = .returned (.bool true) ∧ Ex w w' := by
  have hv : v.oneCell' = true := by
    obtain ⟨a, cap, hv, _⟩ := hc.bytes
    simp only [List.cons.injEq, and_true] at hv
    subst hv; rfl
  refine ((h hv).2 w w [] (St.start w) hc 0).mono fun e w' hq => ?_
  obtain ⟨_, _, u, ρ, rfl, h1, _, As, h2, h3⟩ := hq
  cases h2
  have hu : u = .bool true := h1.1
  subst hu
  exact ⟨rfl, h3.ex⟩
end Go.Vc
end
section
namespace Go.Proofs.YtbdcaacpemkloaaGreat
open Go Go.RowKit Go.Vc
theorem walk_FnSentAsSoftware (w : World) (code : Value) (codeD : List UInt8) (hcode : Holds w codeD [code]) :
    Calls Tryz.prog 3 #[code] w fun e w' => e = .returned (.bool true) ∧ Ex w w' := walk_of c_laws_FnSentAsSoftware hcode
end Go.Proofs.YtbdcaacpemkloaaGreat
end

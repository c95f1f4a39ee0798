/- FillRing: the program and the reference. -/
import Derived.Test.YtelkplponnfkpaaRows
import Derived.Test.YtelkplponnfkpaaPool
import Derived.Test.YtelkplponnfkpaaDesc2
import Derived.Test.YtelkplponnfkpaaCut
import Derived.Test.YtelkplponnfkpaaFl
import Derived.Test.YtelkplponnfkpaaTk
namespace Go.Proofs.Ytelkplponnfkpaa
open Go.RowKit
set_option linter.unusedVariables false
set_option linter.unusedSimpArgs false

theorem use_key3 {G : Prop} {T0 T1 T2 : Type} (R P : T0 → T1 → T2 → Prop) (h : (∀ x0 x1 x2, R x0 x1 x2 → P x0 x1 x2) → G) (k : ∀ x0 x1 x2, R x0 x1 x2 → P x0 x1 x2) : G := h k
theorem use_key4 {G : Prop} {T0 T1 T2 T3 : Type} (R P : T0 → T1 → T2 → T3 → Prop) (h : (∀ x0 x1 x2 x3, R x0 x1 x2 x3 → P x0 x1 x2 x3) → G) (k : ∀ x0 x1 x2 x3, R x0 x1 x2 x3 → P x0 x1 x2 x3) : G := h k
theorem use_key5 {G : Prop} {T0 T1 T2 T3 T4 : Type} (R P : T0 → T1 → T2 → T3 → T4 → Prop) (h : (∀ x0 x1 x2 x3 x4, R x0 x1 x2 x3 x4 → P x0 x1 x2 x3 x4) → G) (k : ∀ x0 x1 x2 x3 x4, R x0 x1 x2 x3 x4 → P x0 x1 x2 x3 x4) : G := h k
theorem use_key6 {G : Prop} {T0 T1 T2 T3 T4 T5 : Type} (R P : T0 → T1 → T2 → T3 → T4 → T5 → Prop) (h : (∀ x0 x1 x2 x3 x4 x5, R x0 x1 x2 x3 x4 x5 → P x0 x1 x2 x3 x4 x5) → G) (k : ∀ x0 x1 x2 x3 x4 x5, R x0 x1 x2 x3 x4 x5 → P x0 x1 x2 x3 x4 x5) : G := h k
theorem use_key7 {G : Prop} {T0 T1 T2 T3 T4 T5 T6 : Type} (R P : T0 → T1 → T2 → T3 → T4 → T5 → T6 → Prop) (h : (∀ x0 x1 x2 x3 x4 x5 x6, R x0 x1 x2 x3 x4 x5 x6 → P x0 x1 x2 x3 x4 x5 x6) → G) (k : ∀ x0 x1 x2 x3 x4 x5 x6, R x0 x1 x2 x3 x4 x5 x6 → P x0 x1 x2 x3 x4 x5 x6) : G := h k
theorem use_key8 {G : Prop} {T0 T1 T2 T3 T4 T5 T6 T7 : Type} (R P : T0 → T1 → T2 → T3 → T4 → T5 → T6 → T7 → Prop) (h : (∀ x0 x1 x2 x3 x4 x5 x6 x7, R x0 x1 x2 x3 x4 x5 x6 x7 → P x0 x1 x2 x3 x4 x5 x6 x7) → G) (k : ∀ x0 x1 x2 x3 x4 x5 x6 x7, R x0 x1 x2 x3 x4 x5 x6 x7 → P x0 x1 x2 x3 x4 x5 x6 x7) : G := h k
theorem use_key9 {G : Prop} {T0 T1 T2 T3 T4 T5 T6 T7 T8 : Type} (R P : T0 → T1 → T2 → T3 → T4 → T5 → T6 → T7 → T8 → Prop) (h : (∀ x0 x1 x2 x3 x4 x5 x6 x7 x8, R x0 x1 x2 x3 x4 x5 x6 x7 x8 → P x0 x1 x2 x3 x4 x5 x6 x7 x8) → G) (k : ∀ x0 x1 x2 x3 x4 x5 x6 x7 x8, R x0 x1 x2 x3 x4 x5 x6 x7 x8 → P x0 x1 x2 x3 x4 x5 x6 x7 x8) : G := h k
theorem use_key10 {G : Prop} {T0 T1 T2 T3 T4 T5 T6 T7 T8 T9 : Type} (R P : T0 → T1 → T2 → T3 → T4 → T5 → T6 → T7 → T8 → T9 → Prop) (h : (∀ x0 x1 x2 x3 x4 x5 x6 x7 x8 x9, R x0 x1 x2 x3 x4 x5 x6 x7 x8 x9 → P x0 x1 x2 x3 x4 x5 x6 x7 x8 x9) → G) (k : ∀ x0 x1 x2 x3 x4 x5 x6 x7 x8 x9, R x0 x1 x2 x3 x4 x5 x6 x7 x8 x9 → P x0 x1 x2 x3 x4 x5 x6 x7 x8 x9) : G := h k
theorem use_key11 {G : Prop} {T0 T1 T2 T3 T4 T5 T6 T7 T8 T9 T10 : Type} (R P : T0 → T1 → T2 → T3 → T4 → T5 → T6 → T7 → T8 → T9 → T10 → Prop) (h : (∀ x0 x1 x2 x3 x4 x5 x6 x7 x8 x9 x10, R x0 x1 x2 x3 x4 x5 x6 x7 x8 x9 x10 → P x0 x1 x2 x3 x4 x5 x6 x7 x8 x9 x10) → G) (k : ∀ x0 x1 x2 x3 x4 x5 x6 x7 x8 x9 x10, R x0 x1 x2 x3 x4 x5 x6 x7 x8 x9 x10 → P x0 x1 x2 x3 x4 x5 x6 x7 x8 x9 x10) : G := h k
theorem use_key12 {G : Prop} {T0 T1 T2 T3 T4 T5 T6 T7 T8 T9 T10 T11 : Type} (R P : T0 → T1 → T2 → T3 → T4 → T5 → T6 → T7 → T8 → T9 → T10 → T11 → Prop) (h : (∀ x0 x1 x2 x3 x4 x5 x6 x7 x8 x9 x10 x11, R x0 x1 x2 x3 x4 x5 x6 x7 x8 x9 x10 x11 → P x0 x1 x2 x3 x4 x5 x6 x7 x8 x9 x10 x11) → G) (k : ∀ x0 x1 x2 x3 x4 x5 x6 x7 x8 x9 x10 x11, R x0 x1 x2 x3 x4 x5 x6 x7 x8 x9 x10 x11 → P x0 x1 x2 x3 x4 x5 x6 x7 x8 x9 x10 x11) : G := h k

theorem _root_.Go.Holds.cutLo {w : World} {xs : List Int} {A : Option Addr} {n cap l : Nat} (h : Holds w xs [.slice A n cap]) (h1 : l ≤ n) : Holds w (xs.drop l) [.slice (cutA A l cap 1) (n - l) (cap - l)] := by
  have hn : n = xs.length := by
    obtain ⟨bs, a, cap', hv, _⟩ := h
    simp only [List.cons.injEq, Value.slice.injEq, and_true] at hv
    exact hv.2.1
  have := h.cut (hh := n) h1 (Nat.le_refl _) (sz := 1) rfl
  rwa [List.take_of_length_le (by omega)] at this
def fillG (l : List Mp) (d b s h pb pz : Int) : List Int → Pg → Int → Nat → Pg × Int × Nat
  | [], ps, t, n => (ps, t, n)
  | k :: ks, ps, t, n => match rputF l ps d b s h t (encDF 3 0 pz (pb + k * pz) 0 k) with
    | (qs, t2, true) => fillG l d b s h pb pz ks qs t2 (n + 1)
    | (_, _, false) => (ps, t, n)
def fillRF (l : List Mp) (ps : Pg) (d b s h t pb pz pc : Int) (fr : List Int) : Pg × Int × List Int × Nat :=
  if ringOkB b s h t && poolB pb pz pc fr then ((fillG l d b s h pb pz fr ps t 0).1, (fillG l d b s h pb pz fr ps t 0).2.1, fr.drop (fillG l d b s h pb pz fr ps t 0).2.2, (fillG l d b s h pb pz fr ps t 0).2.2) else (ps, t, fr, 0)
theorem dmaWF_ln {l : List Mp} {ps qs : Pg} {d a : Int} {s : ByteArray} {wt ok : Bool} (h : (qs, ok) = dmaWF l ps d a s wt) : qs.length = ps.length := by
  unfold dmaWF at h
  split at h
  · rename_i hq; simp only [Prod.mk.injEq] at h; rw [h.1]; exact (dmaW_ok hq).2.1
  · simp only [Prod.mk.injEq] at h; rw [h.1]
theorem rputF_len {l : List Mp} {ps qs : Pg} {d b s h t t2 : Int} {e : ByteArray} {ok : Bool} (hr : (qs, t2, ok) = rputF l ps d b s h t e) : qs.length = ps.length := by
  unfold rputF at hr
  split at hr
  · simp only [Prod.mk.injEq] at hr; rw [hr.1]
  · split at hr
    · split at hr
      · rename_i hq; simp only [Prod.mk.injEq] at hr; rw [hr.1]; exact dmaWF_ln hq.symm
      · simp only [Prod.mk.injEq] at hr; rw [hr.1]
    · simp only [Prod.mk.injEq] at hr; rw [hr.1]
theorem rputF_t {l : List Mp} {ps qs : Pg} {d b s h t t2 : Int} {e : ByteArray} (hr : (qs, t2, true) = rputF l ps d b s h t e) : ¬ freeF b s h t = 0 ∧ ringOkB b s h t2 = true := by
  unfold rputF at hr
  split at hr
  · cases hr
  · rename_i hf
    have q := freeF_ok hf
    refine ⟨hf, ?_⟩
    obtain ⟨hs, b0, b1, s0, s1, h0, h1, t0, t1, u1, u0⟩ := ringOk_facts q
    split at hr
    · split at hr
      · simp only [Prod.mk.injEq, and_true] at hr
        obtain ⟨_, rfl⟩ := hr
        unfold freeF at hf
        rw [q, if_pos rfl] at hf
        have hsz := sizeB_cases hs
        have key : 0 ≤ (t + 1) % (2 * s) ∧ (t + 1) % (2 * s) ≤ 2 * s - 1 ∧ ((t + 1) % (2 * s) - h) % (2 * s) ≤ s := by
          rcases hsz with rfl | rfl | rfl | rfl <;> omega
        obtain ⟨k1, k2, k3⟩ := key
        simp only [ringOkB, Bool.and_eq_true, inB_iff, decide_eq_true_eq, rnext]
        exact ⟨⟨⟨⟨⟨b0, b1⟩, hs⟩, h0, h1⟩, k1, k2⟩, decide_eq_true k3⟩
      · cases hr
    · cases hr
theorem rputF_full {l : List Mp} {ps : Pg} {d b s h t : Int} {e : ByteArray} (hf : freeF b s h t = 0) : rputF l ps d b s h t e = (ps, t, false) := by unfold rputF; rw [if_pos hf]
theorem fillG_full {l : List Mp} {ps : Pg} {d b s h t pb pz : Int} {n : Nat} (hf : freeF b s h t = 0) : ∀ ks, fillG l d b s h pb pz ks ps t n = (ps, t, n)
  | [] => rfl
  | k :: ks => by rw [fillG, rputF_full hf]
theorem encDF_le (op fl ln at_ sz ck : Int) : (encDF op fl ln at_ sz ck).size ≤ 9223372036854775807 := by
  unfold encDF
  split
  · rename_i h; have := encD_size h; omega
  · decide
def RetFill (w : World) (qs : Pg) (b s h t pb pz pc : Int) (fr : List Int) (n : Nat) (e : Ending) (w' : World) : Prop := ∃ A k A2 k2, e = .returned (.tuple #[.agg #[.slice A qs.length k], .agg #[.int .i64 b, .int .i64 s, .int .i64 h, .int .i64 t], .agg #[.int .i64 pb, .int .i64 pz, .int .i64 pc, .slice A2 fr.length k2], .int .i64 (n : Int)]) ∧ Owns w.heap.size w' (qs, fr) ([.slice A qs.length k] ++ [.slice A2 fr.length k2]) ∧ Ex w w'
theorem retFill {w0 w : World} {Is J1 J2 : List Asn} {qs : Pg} {v v2 : Value} {b s h t pb pz pc : Int} {fr : List Int} {n : Nat} (hh : St w0 w Is) (tt : Take Is (ownA qs [v]) J1) (t2 : Take J1 (ownA fr [v2]) J2) : RetFill w0 qs b s h t pb pz pc fr n (.returned (.tuple #[.agg #[v], .agg #[.int .i64 b, .int .i64 s, .int .i64 h, .int .i64 t], .agg #[.int .i64 pb, .int .i64 pz, .int .i64 pc, v2], .int .i64 (n : Int)])) w := by
  have h2 := hh.arr (.cons tt (.cons t2 .nil))
  obtain ⟨a, c, rfl⟩ := ownA.form h2 .head
  obtain ⟨a2, c2, rfl⟩ := ownA.form h2 (.tail .head)
  exact ⟨a, c, a2, c2, rfl, h2.join.owns .head, h2.ex⟩

theorem freeF_nn (b s h t : Int) : 0 ≤ freeF b s h t := by
  unfold freeF
  split
  · rename_i q; obtain ⟨_, _, _, _, _, _, _, _, _, u1, u0⟩ := ringOk_facts q; omega
  · exact Int.le_refl _

set_option maxRecDepth 100000 in
set_option maxHeartbeats 4000000 in
theorem fillRing_any (v1 v2 v3 : Value) (l : List Mp) (ps : Pg) (fr : List Int) (d b s h t pb pz pc : Int) (w : World) (k1 : Holds w l [v1]) (k2 : Holds w ps [v2]) (k3 : Holds w fr [v3]) (hl : ps.length ≤ 1099511627776) (hlf : fr.length ≤ 1099511627776) (hd : i64ok d) {qs : Pg} {t2 : Int} {fr2 : List Int} {n : Nat} (hr : (qs, t2, fr2, n) = fillRF l ps d b s h t pb pz pc fr) :
    Calls Try.prog 45 #[v1, .agg #[v2], .int .i64 d, .agg #[.int .i64 b, .int .i64 s, .int .i64 h, .int .i64 t], .agg #[.int .i64 pb, .int .i64 pz, .int .i64 pc, v3]] w (RetFill w qs b s h t2 pb pz pc fr2 n) := by
  obtain ⟨AA, cap, rfl, z1, z2⟩ := k1.fl
  unfold maxLen at z2
  obtain ⟨BB, cap2, rfl, y1, y2⟩ := k2.fl
  unfold maxLen at y2
  obtain ⟨CC, cap3, rfl, x1, x2⟩ := k3.fl
  unfold maxLen at x2
  replace hd := hid hd
  obtain ⟨q1, hq⟩ : ∃ q, ringOkB b s h t = q := ⟨_, rfl⟩
  obtain ⟨p1, hp⟩ : ∃ q, poolB pb pz pc fr = q := ⟨_, rfl⟩
  have HQ := hid hq
  have HP := hid hp
  have HS := St.start w
  go_enter Try.func45, Try.ntmps45
  go_wp2_with (first
        | ((with_reducible (show wpList _ _ _ (Oper.mk (some 6) (Op.box _ _) _ _ _ _ :: _) _ _)); refine wpList_box_st (o := ⟨some 6, .box _ _, _, _, _, _⟩) rfl _ _ rfl (v := .agg (List.toArray _)) rfl HS ?_; clear HS; intro w6 b6 hb6 HS; simp only [Value.cells] at HS)
        | ((with_reducible (show wpList _ _ _ (Oper.mk (some 8) (Op.box _ _) _ _ _ _ :: _) _ _)); refine wpList_box_st (o := ⟨some 8, .box _ _, _, _, _, _⟩) rfl _ _ rfl (v := .agg (List.toArray _)) rfl HS ?_; clear HS; intro w8 b8 hb8 HS; simp only [Value.cells] at HS)
        | ((with_reducible (show wpList _ _ _ (Oper.mk (some 9) (Op.box _ _) _ _ _ _ :: _) _ _)); refine wpList_box_st (o := ⟨some 9, .box _ _, _, _, _, _⟩) rfl _ _ rfl (v := .agg (List.toArray _)) rfl HS ?_; clear HS; intro w9 b9 hb9 HS; simp only [Value.cells] at HS)
        | ((with_reducible (show wpList _ _ _ (Oper.mk (some 10) (Op.alloc _) _ _ _ _ :: _) _ _)); refine wpList_alloc_st (o := ⟨some 10, .alloc _, _, _, _, _⟩) rfl _ rfl zc_impl_Memory HS ?_; clear HS; intro w10 b10 hb10 HS)
        | ((with_reducible (show wpList _ _ _ (Oper.mk (some 11) (Op.alloc _) _ _ _ _ :: _) _ _)); refine wpList_alloc_st (o := ⟨some 11, .alloc _, _, _, _, _⟩) rfl _ rfl zc_impl_Ring HS ?_; clear HS; intro w11 b11 hb11 HS)
        | ((with_reducible (show wpList _ _ _ (Oper.mk (some 12) (Op.alloc _) _ _ _ _ :: _) _ _)); refine wpList_alloc_st (o := ⟨some 12, .alloc _, _, _, _, _⟩) rfl _ rfl zc_impl_Pool HS ?_; clear HS; intro w12 b12 hb12 HS))
  refine wp_region_fl HS (show Arr _ [rowA b6 _ _, rowA b9 _ _] from ary) (.early 0 (.early 2 (.forced 1 1 (.forced 3 1 (.land 4 (.land 5 (.forced 6 2 (.forced 7 2 .done)))))))) [4, 5] (by kernel_rfl) (by as_aux_lemma => kernel_rfl) ?_
  intro hne
  clear HS
  try go_simp
  repeat' (first
    | (with_reducible refine wpF_forced ?_)
    | ((with_reducible ((show wpF _ _ _ _ _ (.early 0 _) _ _))); (first | (refine wpF_skipE rfl rfl ?_; (try go_simp)) | (refine wpF_early rfl rfl ?_; intro K hK; (first | ((refine quiet_loadA_st  _ _ rfl rfl tk ag_impl_Memory lit rfl ?_); (try go_simp)) | go_big_quiet_op); (first | go_big_quiet_on | (refine ⟨_, fun _ => rfl, ?_⟩; go_big_quiet_on)))))
    | ((with_reducible ((show wpF _ _ _ _ _ (.early 2 _) _ _))); (first | (refine wpF_skipE rfl rfl ?_; (try go_simp)) | (refine wpF_early rfl rfl ?_; intro K hK; (first | ((refine quiet_loadA_st  _ _ rfl rfl tk ag_impl_Pool lit rfl ?_); (try go_simp)) | go_big_quiet_op); (first | go_big_quiet_on | (refine ⟨_, fun _ => rfl, ?_⟩; go_big_quiet_on)))))
    | ((with_reducible ((show OneF _ _ _ _ _ 1 1 _ _ _))); (first | (refine oneF_skip rfl rfl ?_; (try go_simp)) | (refine oneF_1 rfl rfl ?_; intro wq Fq HS K hK; go_simp; (first | (go_at_call 55; (with_reducible refine (copyMemory_any _ ps _ (k2.ex HS.ex) hl).mono ?_); rintro e w' ⟨A1, c1, rfl, ho, hx⟩; replace HS := HS.own ho hx; clear ho hx)); (try go_simp); refine hK _ _ _ ?_ (HS.take tk) ?_; (focus (exact stw HS)); clear HS hK K)))
    | ((with_reducible ((show OneF _ _ _ _ _ 3 1 _ _ _))); (first | (refine oneF_skip rfl rfl ?_; (try go_simp)) | (refine oneF_1 rfl rfl ?_; intro wq Fq HS K hK; go_simp; (first | (go_at_call 100; (with_reducible refine (copyPool_any _ fr pb pz pc _ (k3.ex HS.ex) hlf).mono ?_); rintro e w' ⟨A2, c2, rfl, ho, hx⟩; replace HS := HS.own ho hx; clear ho hx)); (try go_simp); refine hK _ _ _ ?_ (HS.take tk) ?_; (focus (exact stw HS)); clear HS hK K)))
    | ((with_reducible ((show wpF _ _ _ _ _ (.land 4 _) _ _))); (refine wpF_land rfl rfl zc_impl_Memory ?_; intro b14; (try go_simp)))
    | ((with_reducible ((show wpF _ _ _ _ _ (.land 5 _) _ _))); (refine wpF_land rfl rfl zc_impl_Pool ?_; intro b15; (try go_simp)))
    | ((with_reducible ((show OneF _ _ _ _ _ 6 2 _ _ _))); (first | (refine oneF_skip rfl rfl ?_; (try go_simp)) | (refine oneF_2 rfl rfl ?_; intro wq Fq HS K hK; (first | (refine wp_store_st  _ _ _ rfl rfl (v := .agg (List.toArray _)) rfl HS tk sz_impl_Memory vcs rfx rfx (by simp) ?_ rfl; clear HS; intro w1_6 hz1_6 HS; simp only [nicL, Value.cells, List.append_nil] at HS) | (refine wp_store_st  _ _ _ rfl rfl (v := .agg _) rfl HS tk sz_impl_Memory vcs rfx rfx (by simp) ?_ rfl; clear HS; intro w1_6 hz1_6 HS; simp only [nicL, Value.cells, List.append_nil] at HS)); (try go_simp); refine hK _ _ _ (HS.take tk) ?_; clear HS hK K)))
    | ((with_reducible ((show OneF _ _ _ _ _ 7 2 _ _ _))); (first | (refine oneF_skip rfl rfl ?_; (try go_simp)) | (refine oneF_2 rfl rfl ?_; intro wq Fq HS K hK; (first | (refine wp_store_st  _ _ _ rfl rfl (v := .agg (List.toArray _)) rfl HS tk sz_impl_Pool vcs rfx rfx (by simp) ?_ rfl; clear HS; intro w1_7 hz1_7 HS; simp only [nicL, Value.cells, List.append_nil] at HS) | (refine wp_store_st  _ _ _ rfl rfl (v := .agg _) rfl HS tk sz_impl_Pool vcs rfx rfx (by simp) ?_ rfl; clear HS; intro w1_7 hz1_7 HS; simp only [nicL, Value.cells, List.append_nil] at HS)); (try go_simp); refine hK _ _ _ (HS.take tk) ?_; clear HS hK K)))
    | (with_reducible refine wpF_done ?_))
  intro w9 HS
  cases q1
  case false =>
    unfold fillRF at hr
    rw [hq, Bool.false_and] at hr
    rw [if_neg (by decide)] at hr
    simp only [Prod.mk.injEq] at hr
    obtain ⟨e1, e2, e3, rfl⟩ := hr
    replace e1 := e1.symm
    subst e1
    replace e2 := e2.symm
    subst e2
    replace e3 := e3.symm
    subst e3
    clear hq hp
    go_wp2_with (first
          | (go_at_call 87; (with_reducible refine (ringOk_any b s h t _).mono ?_); rintro e w' ⟨rfl, hx⟩; rw [HQ.out]; replace HS := HS.grow hx; clear hx)
          | ((with_reducible (show wpList _ _ _ (Oper.mk (some 27) (Op.load _ _) _ _ _ _ :: _) _ _)); refine wpList_loadA_st (o := ⟨some 27, .load _ _, _, _, _, _⟩) rfl _ _ rfl rfl HS tk ag_impl_Ring lit rfl ?_))
    refine wp_region_plan_st (HS.arr (show Arr _ [rowA b14 _ _, rowA b8 _ _, rowA b15 _ _] from ary)) (.early 0 (.early 1 (.early 2 (.forced 3 1 (.forced 4 1 (.forced 5 2 (.forced 6 2 .done))))))) (by kernel_rfl) (by as_aux_lemma => kernel_rfl) ?_
    intro hne
    replace HS := HS.drew
    try go_simp
    repeat' (first
      | (with_reducible refine wpPlan_forced ?_)
      | ((with_reducible ((show wpPlan _ _ _ _ (.early 0 _) _ _))); (first | (refine wpPlan_skipE rfl rfl ?_; (try go_simp)) | (refine wpPlan_early rfl rfl ?_; intro K hK; (first | ((refine quiet_loadA_st  _ _ rfl rfl tk ag_impl_Memory lit rfl ?_); (try go_simp)) | go_big_quiet_op); (first | go_big_quiet_on | (refine ⟨_, fun _ => rfl, ?_⟩; go_big_quiet_on)))))
      | ((with_reducible ((show wpPlan _ _ _ _ (.early 1 _) _ _))); (first | (refine wpPlan_skipE rfl rfl ?_; (try go_simp)) | (refine wpPlan_early rfl rfl ?_; intro K hK; (first | ((refine quiet_loadA_st  _ _ rfl rfl tk ag_impl_Ring lit rfl ?_); (try go_simp)) | go_big_quiet_op); (first | go_big_quiet_on | (refine ⟨_, fun _ => rfl, ?_⟩; go_big_quiet_on)))))
      | ((with_reducible ((show wpPlan _ _ _ _ (.early 2 _) _ _))); (first | (refine wpPlan_skipE rfl rfl ?_; (try go_simp)) | (refine wpPlan_early rfl rfl ?_; intro K hK; (first | ((refine quiet_loadA_st  _ _ rfl rfl tk ag_impl_Pool lit rfl ?_); (try go_simp)) | go_big_quiet_op); (first | go_big_quiet_on | (refine ⟨_, fun _ => rfl, ?_⟩; go_big_quiet_on)))))
      | ((with_reducible ((show wpOne _ _ _ _ 3 1 _ _ _))); (first | (refine wpOne_skip rfl rfl ?_; (try go_simp)) | (refine wpOne_1 rfl rfl ?_; intro K hK; (first | (refine wp_store_st  _ _ _ rfl rfl (v := .agg (List.toArray _)) rfl HS tk sz_impl_Memory vcs rfx rfx (by simp) ?_ rfl; clear HS; intro w3_3 hz3_3 HS; simp only [nicL, Value.cells, List.append_nil] at HS) | (refine wp_store_st  _ _ _ rfl rfl (v := .agg _) rfl HS tk sz_impl_Memory vcs rfx rfx (by simp) ?_ rfl; clear HS; intro w3_3 hz3_3 HS; simp only [nicL, Value.cells, List.append_nil] at HS)); (try go_simp); refine hK _ _ ?_ ?_; (focus (exact stw HS)); clear hK K)))
      | ((with_reducible ((show wpOne _ _ _ _ 4 1 _ _ _))); (first | (refine wpOne_skip rfl rfl ?_; (try go_simp)) | (refine wpOne_1 rfl rfl ?_; intro K hK; (first | (refine wp_store_st  _ _ _ rfl rfl (v := .agg (List.toArray _)) rfl HS tk sz_impl_Ring vcs rfx rfx (by simp) ?_ rfl; clear HS; intro w3_4 hz3_4 HS; simp only [nicL, Value.cells, List.append_nil] at HS) | (refine wp_store_st  _ _ _ rfl rfl (v := .agg _) rfl HS tk sz_impl_Ring vcs rfx rfx (by simp) ?_ rfl; clear HS; intro w3_4 hz3_4 HS; simp only [nicL, Value.cells, List.append_nil] at HS)); (try go_simp); refine hK _ _ ?_ ?_; (focus (exact stw HS)); clear hK K)))
      | ((with_reducible ((show wpOne _ _ _ _ 5 2 _ _ _))); (first | (refine wpOne_skip rfl rfl ?_; (try go_simp)) | (refine wpOne_2 rfl rfl ?_; intro K hK; (first | (refine wp_store_st  _ _ _ rfl rfl (v := .agg (List.toArray _)) rfl HS tk sz_impl_Pool vcs rfx rfx (by simp) ?_ rfl; clear HS; intro w3_5 hz3_5 HS; simp only [nicL, Value.cells, List.append_nil] at HS) | (refine wp_store_st  _ _ _ rfl rfl (v := .agg _) rfl HS tk sz_impl_Pool vcs rfx rfx (by simp) ?_ rfl; clear HS; intro w3_5 hz3_5 HS; simp only [nicL, Value.cells, List.append_nil] at HS)); (try go_simp); refine hK _ _ ?_; clear hK K)))
      | ((with_reducible ((show wpOne _ _ _ _ 6 2 _ _ _))); (first | (refine wpOne_skip rfl rfl ?_; (try go_simp)) | (refine wpOne_2 rfl rfl ?_; intro K hK; go_simp; refine hK _ _ ?_; clear hK K)))
      | (with_reducible refine wpPlan_done ?_))
    all_goals
      go_wp2
      refine bodyPost_rets rfx (RVs.cell rfx HS tk ag_impl_Memory rfx (RVs.cell rfx HS tk ag_impl_Ring rfx (RVs.cell rfx HS tk ag_impl_Pool rfx (RVs.tmp rfx RVs.nil)))) (by simp) rfx ?_
      exact retFill HS tk tk
  case true =>
  cases p1
  case false =>
    unfold fillRF at hr
    rw [hq, hp, Bool.and_false] at hr
    rw [if_neg (by decide)] at hr
    simp only [Prod.mk.injEq] at hr
    obtain ⟨e1, e2, e3, rfl⟩ := hr
    replace e1 := e1.symm
    subst e1
    replace e2 := e2.symm
    subst e2
    replace e3 := e3.symm
    subst e3
    clear hq hp
    go_wp2_with (first
          | (go_at_call 87; (with_reducible refine (ringOk_any b s h t _).mono ?_); rintro e w' ⟨rfl, hx⟩; rw [HQ.out]; replace HS := HS.grow hx; clear hx)
          | (go_at_call 101; (with_reducible refine (poolOk_any _ fr pb pz pc _ (k3.ex HS.ex)).mono ?_); rintro e w' ⟨rfl, hx⟩; rw [HP.out]; replace HS := HS.grow hx; clear hx)
          | ((with_reducible (show wpList _ _ _ (Oper.mk (some 27) (Op.load _ _) _ _ _ _ :: _) _ _)); refine wpList_loadA_st (o := ⟨some 27, .load _ _, _, _, _, _⟩) rfl _ _ rfl rfl HS tk ag_impl_Ring lit rfl ?_)
          | ((with_reducible (show wpList _ _ _ (Oper.mk (some 31) (Op.load _ _) _ _ _ _ :: _) _ _)); refine wpList_loadA_st (o := ⟨some 31, .load _ _, _, _, _, _⟩) rfl _ _ rfl rfl HS tk ag_impl_Pool lit rfl ?_))
    refine wp_region_plan_st (HS.arr (show Arr _ [rowA b14 _ _, rowA b8 _ _, rowA b15 _ _] from ary)) (.early 0 (.early 1 (.early 2 (.forced 3 1 (.forced 4 1 (.forced 5 2 (.forced 6 2 .done))))))) (by kernel_rfl) (by as_aux_lemma => kernel_rfl) ?_
    intro hne
    replace HS := HS.drew
    try go_simp
    repeat' (first
      | (with_reducible refine wpPlan_forced ?_)
      | ((with_reducible ((show wpPlan _ _ _ _ (.early 0 _) _ _))); (first | (refine wpPlan_skipE rfl rfl ?_; (try go_simp)) | (refine wpPlan_early rfl rfl ?_; intro K hK; (first | ((refine quiet_loadA_st  _ _ rfl rfl tk ag_impl_Memory lit rfl ?_); (try go_simp)) | go_big_quiet_op); (first | go_big_quiet_on | (refine ⟨_, fun _ => rfl, ?_⟩; go_big_quiet_on)))))
      | ((with_reducible ((show wpPlan _ _ _ _ (.early 1 _) _ _))); (first | (refine wpPlan_skipE rfl rfl ?_; (try go_simp)) | (refine wpPlan_early rfl rfl ?_; intro K hK; (first | ((refine quiet_loadA_st  _ _ rfl rfl tk ag_impl_Ring lit rfl ?_); (try go_simp)) | go_big_quiet_op); (first | go_big_quiet_on | (refine ⟨_, fun _ => rfl, ?_⟩; go_big_quiet_on)))))
      | ((with_reducible ((show wpPlan _ _ _ _ (.early 2 _) _ _))); (first | (refine wpPlan_skipE rfl rfl ?_; (try go_simp)) | (refine wpPlan_early rfl rfl ?_; intro K hK; (first | ((refine quiet_loadA_st  _ _ rfl rfl tk ag_impl_Pool lit rfl ?_); (try go_simp)) | go_big_quiet_op); (first | go_big_quiet_on | (refine ⟨_, fun _ => rfl, ?_⟩; go_big_quiet_on)))))
      | ((with_reducible ((show wpOne _ _ _ _ 3 1 _ _ _))); (first | (refine wpOne_skip rfl rfl ?_; (try go_simp)) | (refine wpOne_1 rfl rfl ?_; intro K hK; (first | (refine wp_store_st  _ _ _ rfl rfl (v := .agg (List.toArray _)) rfl HS tk sz_impl_Memory vcs rfx rfx (by simp) ?_ rfl; clear HS; intro w3_3 hz3_3 HS; simp only [nicL, Value.cells, List.append_nil] at HS) | (refine wp_store_st  _ _ _ rfl rfl (v := .agg _) rfl HS tk sz_impl_Memory vcs rfx rfx (by simp) ?_ rfl; clear HS; intro w3_3 hz3_3 HS; simp only [nicL, Value.cells, List.append_nil] at HS)); (try go_simp); refine hK _ _ ?_ ?_; (focus (exact stw HS)); clear hK K)))
      | ((with_reducible ((show wpOne _ _ _ _ 4 1 _ _ _))); (first | (refine wpOne_skip rfl rfl ?_; (try go_simp)) | (refine wpOne_1 rfl rfl ?_; intro K hK; (first | (refine wp_store_st  _ _ _ rfl rfl (v := .agg (List.toArray _)) rfl HS tk sz_impl_Ring vcs rfx rfx (by simp) ?_ rfl; clear HS; intro w3_4 hz3_4 HS; simp only [nicL, Value.cells, List.append_nil] at HS) | (refine wp_store_st  _ _ _ rfl rfl (v := .agg _) rfl HS tk sz_impl_Ring vcs rfx rfx (by simp) ?_ rfl; clear HS; intro w3_4 hz3_4 HS; simp only [nicL, Value.cells, List.append_nil] at HS)); (try go_simp); refine hK _ _ ?_ ?_; (focus (exact stw HS)); clear hK K)))
      | ((with_reducible ((show wpOne _ _ _ _ 5 2 _ _ _))); (first | (refine wpOne_skip rfl rfl ?_; (try go_simp)) | (refine wpOne_2 rfl rfl ?_; intro K hK; (first | (refine wp_store_st  _ _ _ rfl rfl (v := .agg (List.toArray _)) rfl HS tk sz_impl_Pool vcs rfx rfx (by simp) ?_ rfl; clear HS; intro w3_5 hz3_5 HS; simp only [nicL, Value.cells, List.append_nil] at HS) | (refine wp_store_st  _ _ _ rfl rfl (v := .agg _) rfl HS tk sz_impl_Pool vcs rfx rfx (by simp) ?_ rfl; clear HS; intro w3_5 hz3_5 HS; simp only [nicL, Value.cells, List.append_nil] at HS)); (try go_simp); refine hK _ _ ?_; clear hK K)))
      | ((with_reducible ((show wpOne _ _ _ _ 6 2 _ _ _))); (first | (refine wpOne_skip rfl rfl ?_; (try go_simp)) | (refine wpOne_2 rfl rfl ?_; intro K hK; go_simp; refine hK _ _ ?_; clear hK K)))
      | (with_reducible refine wpPlan_done ?_))
    all_goals
      go_wp2
      refine bodyPost_rets rfx (RVs.cell rfx HS tk ag_impl_Memory rfx (RVs.cell rfx HS tk ag_impl_Ring rfx (RVs.cell rfx HS tk ag_impl_Pool rfx (RVs.tmp rfx RVs.nil)))) (by simp) rfx ?_
      exact retFill HS tk tk
  case true =>
  have hfl := poolB_len hp
  unfold fillRF at hr
  rw [hq, hp, if_pos (by decide)] at hr
  obtain ⟨O, hO⟩ : ∃ O, O = fillG l d b s h pb pz fr ps t 0 := ⟨_, rfl⟩
  rw [← hO] at hr
  have HR := hid hr
  have HO0 := hid hO
  have HFR := hid (poolB_facts hp).2.2.2.2.2.2
  obtain ⟨-, -, pz0, pz1, pc0, pc1, -⟩ := poolB_facts hp
  clear hr hO hq hp
  go_wp2_with (first
        | (go_at_call 87; (with_reducible refine (ringOk_any b s h t _).mono ?_); rintro e w' ⟨rfl, hx⟩; rw [HQ.out]; replace HS := HS.grow hx; clear hx)
        | (go_at_call 101; (with_reducible refine (poolOk_any _ fr pb pz pc _ (k3.ex HS.ex)).mono ?_); rintro e w' ⟨rfl, hx⟩; rw [HP.out]; replace HS := HS.grow hx; clear hx)
        | ((with_reducible (show wpList _ _ _ (Oper.mk (some 27) (Op.load _ _) _ _ _ _ :: _) _ _)); refine wpList_loadA_st (o := ⟨some 27, .load _ _, _, _, _, _⟩) rfl _ _ rfl rfl HS tk ag_impl_Ring lit rfl ?_)
        | ((with_reducible (show wpList _ _ _ (Oper.mk (some 31) (Op.load _ _) _ _ _ _ :: _) _ _)); refine wpList_loadA_st (o := ⟨some 31, .load _ _, _, _, _, _⟩) rfl _ _ rfl rfl HS tk ag_impl_Pool lit rfl ?_)
        | ((with_reducible (show wpList _ _ _ (Oper.mk (some 39) (Op.load _ _) _ _ _ _ :: _) _ _)); refine wpList_loadS_st (o := ⟨some 39, .load _ _, _, _, _, _⟩) rfl _ _ rfl rfl HS tk sc_Sint rfx ?_))
  go_loopw [16, 41] (fun nv i wr => ∃ (k : Nat) (cur : Pg) (t1 : Int) (A : Option Addr) (c : Nat), k ≤ fr.length ∧ Hid (O = fillG l d b s h pb pz (fr.drop k) cur t1 k) ∧ Hid (cur.length = ps.length) ∧ nv = .int .i64 (k : Int) ∧ i = .int .i64 (k : Int) ∧ St w wr [rowA b14 [.slice A cur.length c] 27, ownA cur [.slice A cur.length c], rowA b8 [.int .i64 b, .int .i64 s, .int .i64 h, .int .i64 t1] 29, rowA b15 [.int .i64 pb, .int .i64 pz, .int .i64 pc, .slice A2 fr.length c2] 95, ownA fr [.slice A2 fr.length c2], rowA b6 [.slice BB ps.length cap2] 27, rowA b9 [.int .i64 pb, .int .i64 pz, .int .i64 pc, .slice CC fr.length cap3] 95, rowA b10 [.slice none 0 0] 27, rowA b11 [.int .i64 0, .int .i64 0, .int .i64 0, .int .i64 0] 29, rowA b12 [.int .i64 0, .int .i64 0, .int .i64 0, .slice none 0 0] 95]) (fun _ i _ => fr.length - (intOf i).toNat)
  case atStart => exact ⟨0, ps, t, A1, c1, Nat.zero_le _, HO0, hid rfl, rfl, rfl, (HS.arr (by repeat (first | exact Arr.nil | (with_reducible exact take_all _) | (refine Arr.cons tk ?_) | (refine arr_skip ?_))))⟩
  case round =>
    clear HS HO0
    obtain ⟨k, cur, t1, A, c, hkl, HOO, HCL, rfl, rfl, HS⟩ := hrel
    have hcl2 : cur.length ≤ 1099511627776 := by have := HCL.out; omega
    by_cases hlt : k < fr.length
    case neg =>
      have HD : Hid (O = (cur, t1, k)) := hid (by rw [HOO.out, List.drop_of_length_le (by omega), fillG])
      have hr2 := HR.out
      rw [HD.out] at hr2
      simp only [Prod.mk.injEq] at hr2
      obtain ⟨e1, e2, e3, e4⟩ := hr2
      replace e1 := e1.symm
      subst e1
      replace e2 := e2.symm
      subst e2
      replace e4 := e4.symm
      subst e4
      subst e3
      clear HOO HR
      go_wp2_with (first
            | (go_at_call 105; (with_reducible refine (copyInts_any _ (fr.drop k) _ (Holds.cutLo (k3.ex HS.ex) (by omega)) (by rw [List.length_drop]; omega)).mono ?_); rintro e w' ⟨A74, c74, rfl, ho, hx⟩; (try rw [List.length_drop] at ho ⊢); replace HS := HS.own ho hx; clear ho hx)
            | ((with_reducible (show wpList _ _ _ (Oper.mk (some 71) (Op.load _ _) _ _ _ _ :: _) _ _)); refine wpList_loadS_st (o := ⟨some 71, .load _ _, _, _, _, _⟩) rfl _ _ rfl rfl HS tk sc_Sint rfx ?_)
            | ((with_reducible (show wpList _ _ _ (Oper.mk (some 73) (Op.slice _ _ _ _ _) _ _ _ _ :: _) _ _)); refine wpList_pure (o := ⟨some 73, .slice _ _ _ _ _, _, _, _, _⟩) rfl (pure_cutLo _ _ _ rfl _ Try.underlying91 in_int rfl rfl (by omega)) ?_)
            | ((with_reducible (show wpList _ _ _ (Oper.mk none (Op.store _ (.tmp 75) _) _ _ _ _ :: _) _ _)); refine wpList_store_st (o := ⟨none, .store _ (.tmp 75) _, _, _, _, _⟩) rfl _ _ _ rfl rfl (v := .slice _ _ _) rfl HS tk sz_Sint vcs rfx rfx (by simp) ?_ rfl; clear HS; intro w14_6 hz14_6 HS; simp only [nicL, Value.cells, List.append_nil] at HS))
      refine wp_region_plan_st (HS.arr (show Arr _ [rowA b14 _ _, rowA b8 _ _, rowA b15 _ _] from ary)) (.early 0 (.early 1 (.early 2 (.early 3 (.forced 4 1 (.forced 5 1 (.forced 6 1 (.forced 7 2 .done)))))))) (by kernel_rfl) (by as_aux_lemma => kernel_rfl) ?_
      intro hne
      replace HS := HS.drew
      try go_simp
      repeat' (first
        | (with_reducible refine wpPlan_forced ?_)
        | ((with_reducible ((show wpPlan _ _ _ _ (.early 0 _) _ _))); (first | (refine wpPlan_skipE rfl rfl ?_; (try go_simp)) | (refine wpPlan_early rfl rfl ?_; intro K hK; (first | ((refine quiet_loadA_st  _ _ rfl rfl tk ag_impl_Memory lit rfl ?_); (try go_simp)) | go_big_quiet_op); (first | go_big_quiet_on | (refine ⟨_, fun _ => rfl, ?_⟩; go_big_quiet_on)))))
        | ((with_reducible ((show wpPlan _ _ _ _ (.early 1 _) _ _))); (first | (refine wpPlan_skipE rfl rfl ?_; (try go_simp)) | (refine wpPlan_early rfl rfl ?_; intro K hK; (first | ((refine quiet_loadA_st  _ _ rfl rfl tk ag_impl_Ring lit rfl ?_); (try go_simp)) | go_big_quiet_op); (first | go_big_quiet_on | (refine ⟨_, fun _ => rfl, ?_⟩; go_big_quiet_on)))))
        | ((with_reducible ((show wpPlan _ _ _ _ (.early 2 _) _ _))); (first | (refine wpPlan_skipE rfl rfl ?_; (try go_simp)) | (refine wpPlan_early rfl rfl ?_; intro K hK; (first | ((refine quiet_loadA_st  _ _ rfl rfl tk ag_impl_Pool lit rfl ?_); (try go_simp)) | go_big_quiet_op); (first | go_big_quiet_on | (refine ⟨_, fun _ => rfl, ?_⟩; go_big_quiet_on)))))
        | ((with_reducible ((show wpPlan _ _ _ _ (.early 3 _) _ _))); (first | (refine wpPlan_skipE rfl rfl ?_; (try go_simp)) | (refine wpPlan_early rfl rfl ?_; intro K hK; (first | go_big_quiet_op); (first | go_big_quiet_on | (refine ⟨_, fun _ => rfl, ?_⟩; go_big_quiet_on)))))
        | ((with_reducible ((show wpOne _ _ _ _ 4 1 _ _ _))); (first | (refine wpOne_skip rfl rfl ?_; (try go_simp)) | (refine wpOne_1 rfl rfl ?_; intro K hK; (first | (refine wp_store_st  _ _ _ rfl rfl (v := .agg (List.toArray _)) rfl HS tk sz_impl_Memory vcs rfx rfx (by simp) ?_ rfl; clear HS; intro w15_4 hz15_4 HS; simp only [nicL, Value.cells, List.append_nil] at HS) | (refine wp_store_st  _ _ _ rfl rfl (v := .agg _) rfl HS tk sz_impl_Memory vcs rfx rfx (by simp) ?_ rfl; clear HS; intro w15_4 hz15_4 HS; simp only [nicL, Value.cells, List.append_nil] at HS)); (try go_simp); refine hK _ _ ?_ ?_; (focus (exact stw HS)); clear hK K)))
        | ((with_reducible ((show wpOne _ _ _ _ 5 1 _ _ _))); (first | (refine wpOne_skip rfl rfl ?_; (try go_simp)) | (refine wpOne_1 rfl rfl ?_; intro K hK; (first | (refine wp_store_st  _ _ _ rfl rfl (v := .agg (List.toArray _)) rfl HS tk sz_impl_Ring vcs rfx rfx (by simp) ?_ rfl; clear HS; intro w15_5 hz15_5 HS; simp only [nicL, Value.cells, List.append_nil] at HS) | (refine wp_store_st  _ _ _ rfl rfl (v := .agg _) rfl HS tk sz_impl_Ring vcs rfx rfx (by simp) ?_ rfl; clear HS; intro w15_5 hz15_5 HS; simp only [nicL, Value.cells, List.append_nil] at HS)); (try go_simp); refine hK _ _ ?_ ?_; (focus (exact stw HS)); clear hK K)))
        | ((with_reducible ((show wpOne _ _ _ _ 6 1 _ _ _))); (first | (refine wpOne_skip rfl rfl ?_; (try go_simp)) | (refine wpOne_1 rfl rfl ?_; intro K hK; (first | (refine wp_store_st  _ _ _ rfl rfl (v := .agg (List.toArray _)) rfl HS tk sz_impl_Pool vcs rfx rfx (by simp) ?_ rfl; clear HS; intro w15_6 hz15_6 HS; simp only [nicL, Value.cells, List.append_nil] at HS) | (refine wp_store_st  _ _ _ rfl rfl (v := .agg _) rfl HS tk sz_impl_Pool vcs rfx rfx (by simp) ?_ rfl; clear HS; intro w15_6 hz15_6 HS; simp only [nicL, Value.cells, List.append_nil] at HS)); (try go_simp); refine hK _ _ ?_ ?_; (focus (exact stw HS)); clear hK K)))
        | ((with_reducible ((show wpOne _ _ _ _ 7 2 _ _ _))); (first | (refine wpOne_skip rfl rfl ?_; (try go_simp)) | (refine wpOne_2 rfl rfl ?_; intro K hK; go_simp; refine hK _ _ ?_; clear hK K)))
        | (with_reducible refine wpPlan_done ?_))
      all_goals
        go_wp2
        refine bodyPost_rets rfx (RVs.cell rfx HS tk ag_impl_Memory rfx (RVs.cell rfx HS tk ag_impl_Ring rfx (RVs.cell rfx HS tk ag_impl_Pool rfx (RVs.tmp rfx RVs.nil)))) (by simp) rfx ?_
        exact retFill HS tk tk
    case pos =>
      obtain ⟨bb, off, rfl⟩ := k3.flA (by omega)
      have HK := hid (List.getElem?_eq_getElem hlt)
      have hmem := List.getElem_mem hlt
      have hdrop := List.drop_eq_getElem_cons hlt
      generalize fr[k] = x at *
      have hx := HFR.out x (by exact hmem)
      obtain ⟨hx0, hx1⟩ := hx
      have HE : Hid ((encDF 3 0 pz (pb + x * pz) 0 x).size ≤ 9223372036854775807) := hid (encDF_le _ _ _ _ _ _)
      obtain ⟨⟨qs', t2', ok⟩, hT⟩ : ∃ r, r = rputF l cur d b s h t1 (encDF 3 0 pz (pb + x * pz) 0 x) := ⟨_, rfl⟩
      have HT := hid hT
      have HLN : Hid (qs'.length = ps.length) := hid ((rputF_len hT).trans HCL.out)
      cases ok
      case false =>
        have HD : Hid (O = (cur, t1, k)) := hid (by rw [HOO.out, hdrop, fillG, ← hT])
        have hr2 := HR.out
        rw [HD.out] at hr2
        simp only [Prod.mk.injEq] at hr2
        obtain ⟨e1, e2, e3, e4⟩ := hr2
        replace e1 := e1.symm
        subst e1
        replace e2 := e2.symm
        subst e2
        replace e4 := e4.symm
        subst e4
        subst e3
        clear HOO HR hT hdrop hmem
        go_wp2_with (first
              | ((with_reducible (show wpList _ _ _ (Oper.mk (some 44) (Op.load _ _) _ _ _ _ :: _) _ _)); refine wpList_loadHF (o := ⟨some 44, .load _ _, _, _, _, _⟩) rfl _ _ rfl rfl HS (fun _ hs => k3.ex hs.ex) HK.out 1 0 (by first | rfl | (simp; done) | omega) rfl (by decide) sc_int flt ?_))
        refine wp_region_plan_st HS (.early 0 (.early 1 (.early 2 (.early 3 (.early 5 (.forced 4 1 (.forced 6 2 (.forced 7 2 (.forced 8 2 .done))))))))) (by kernel_rfl) (by as_aux_lemma => kernel_rfl) ?_
        intro hne
        replace HS := HS.drew
        try go_simp
        repeat' (first
          | (with_reducible refine wpPlan_forced ?_)
          | ((with_reducible (first | (show wpPlan _ _ _ _ (.early 0 _) _ _) | (show wpPlan _ _ _ _ (.early 3 _) _ _) | (show wpPlan _ _ _ _ (.early 5 _) _ _))); (first | (refine wpPlan_skipE rfl rfl ?_; (try go_simp)) | (refine wpPlan_early rfl rfl ?_; intro K hK; (first | go_big_quiet_op); (first | go_big_quiet_on | (refine ⟨_, fun _ => rfl, ?_⟩; go_big_quiet_on)))))
          | ((with_reducible ((show wpPlan _ _ _ _ (.early 1 _) _ _))); (first | (refine wpPlan_skipE rfl rfl ?_; (try go_simp)) | (refine wpPlan_early rfl rfl ?_; intro K hK; (first | ((refine quiet_loadS_st  _ _ rfl rfl tk sc_int rfx ?_); (try go_simp)) | go_big_quiet_op); (first | go_big_quiet_on | (refine ⟨_, fun _ => rfl, ?_⟩; go_big_quiet_on)))))
          | ((with_reducible ((show wpPlan _ _ _ _ (.early 2 _) _ _))); (first | (refine wpPlan_skipE rfl rfl ?_; (try go_simp)) | (refine wpPlan_early rfl rfl ?_; intro K hK; (first | ((refine quiet_loadA_st  _ _ rfl rfl tk ag_impl_Pool lit rfl ?_); (try go_simp)) | go_big_quiet_op); (first | go_big_quiet_on | (refine ⟨_, fun _ => rfl, ?_⟩; go_big_quiet_on)))))
          | ((with_reducible ((show wpOne _ _ _ _ 4 1 _ _ _))); (first | (refine wpOne_skip rfl rfl ?_; (try go_simp)) | (refine wpOne_1 rfl rfl ?_; intro K hK; go_simp; (first | (go_at_call 103; (with_reducible refine (bufAddr_any _ fr pb pz pc x _ (k3.ex HS.ex) HP.out (by omega) (by omega)).mono ?_); rintro e w' ⟨rfl, hx⟩; replace HS := HS.grow hx; clear hx)); (try go_simp); refine hK _ _ ?_ ?_; (focus (exact stw HS)); clear hK K)))
          | ((with_reducible (first | (show wpOne _ _ _ _ 6 2 _ _ _) | (show wpOne _ _ _ _ 8 2 _ _ _))); (first | (refine wpOne_skip rfl rfl ?_; (try go_simp)) | (refine wpOne_2 rfl rfl ?_; intro K hK; go_simp; refine hK _ _ ?_; clear hK K)))
          | ((with_reducible ((show wpOne _ _ _ _ 7 2 _ _ _))); (first | (refine wpOne_skip rfl rfl ?_; (try go_simp)) | (refine wpOne_2 rfl rfl ?_; intro K hK; go_simp; (first | (go_at_call 102; (with_reducible refine (encodeDesc_any 3 0 pz (pb + x * pz) 0 x _).mono ?_); rintro e w' ⟨rfl, hx⟩; replace HS := HS.grow hx; clear hx)); (try go_simp); refine hK _ _ ?_; clear hK K)))
          | (with_reducible refine wpPlan_done ?_))
        go_wp2_with (first
              | (go_at_call 104; (with_reducible refine (ringPut_any _ _ l cur d b s h t1 _ _ (k1.ex HS.ex) (HS.holds tk) (by omega) hd.out HE.out HT.out).mono ?_); rintro e w' ⟨A59, c59, rfl, ho, hx⟩; replace HS := HS.own ho hx; clear ho hx)
              | ((with_reducible (show wpList _ _ _ (Oper.mk (some 55) (Op.load _ _) _ _ _ _ :: _) _ _)); refine wpList_loadA_st (o := ⟨some 55, .load _ _, _, _, _, _⟩) rfl _ _ rfl rfl HS tk ag_impl_Memory lit rfl ?_)
              | ((with_reducible (show wpList _ _ _ (Oper.mk (some 57) (Op.load _ _) _ _ _ _ :: _) _ _)); refine wpList_loadA_st (o := ⟨some 57, .load _ _, _, _, _, _⟩) rfl _ _ rfl rfl HS tk ag_impl_Ring lit rfl ?_)
              | ((with_reducible (show wpList _ _ _ (Oper.mk (some 20) (Op.alloc _) _ _ _ _ :: _) _ _)); refine wpList_alloc_st (o := ⟨some 20, .alloc _, _, _, _, _⟩) rfl _ rfl zc_impl_Memory HS ?_; clear HS; intro w20 b20 hb20 HS)
              | ((with_reducible (show wpList _ _ _ (Oper.mk (some 21) (Op.alloc _) _ _ _ _ :: _) _ _)); refine wpList_alloc_st (o := ⟨some 21, .alloc _, _, _, _, _⟩) rfl _ rfl zc_impl_Ring HS ?_; clear HS; intro w21 b21 hb21 HS)
              | ((with_reducible (show wpList _ _ _ (Oper.mk none (Op.store _ (.tmp 20) _) _ _ _ _ :: _) _ _)); refine wpList_store_st (o := ⟨none, .store _ (.tmp 20) _, _, _, _, _⟩) rfl _ _ _ rfl rfl (v := .agg (List.toArray _)) rfl HS tk sz_impl_Memory vcs rfx rfx (by simp) ?_ rfl; clear HS; intro w9_12 hz9_12 HS; simp only [nicL, Value.cells, List.append_nil] at HS)
              | ((with_reducible (show wpList _ _ _ (Oper.mk none (Op.store _ (.tmp 21) _) _ _ _ _ :: _) _ _)); refine wpList_store_st (o := ⟨none, .store _ (.tmp 21) _, _, _, _, _⟩) rfl _ _ _ rfl rfl (v := .agg (List.toArray _)) rfl HS tk sz_impl_Ring vcs rfx rfx (by simp) ?_ rfl; clear HS; intro w9_13 hz9_13 HS; simp only [nicL, Value.cells, List.append_nil] at HS)
              | ((with_reducible (show wpList _ _ _ (Oper.mk (some 71) (Op.load _ _) _ _ _ _ :: _) _ _)); refine wpList_loadS_st (o := ⟨some 71, .load _ _, _, _, _, _⟩) rfl _ _ rfl rfl HS tk sc_Sint rfx ?_)
              | ((with_reducible (show wpList _ _ _ (Oper.mk (some 73) (Op.slice _ _ _ _ _) _ _ _ _ :: _) _ _)); refine wpList_pure (o := ⟨some 73, .slice _ _ _ _ _, _, _, _, _⟩) rfl (pure_cutLo _ _ _ rfl _ Try.underlying91 in_int rfl rfl (by omega)) ?_))
        go_wp2_with (first
              | (go_at_call 105; (with_reducible refine (copyInts_any _ (fr.drop k) _ (Holds.cutLo (k3.ex HS.ex) (by omega)) (by rw [List.length_drop]; omega)).mono ?_); rintro e w' ⟨A74, c74, rfl, ho, hx⟩; (try rw [List.length_drop] at ho ⊢); replace HS := HS.own ho hx; clear ho hx)
              | ((with_reducible (show wpList _ _ _ (Oper.mk none (Op.store _ (.tmp 75) _) _ _ _ _ :: _) _ _)); refine wpList_store_st (o := ⟨none, .store _ (.tmp 75) _, _, _, _, _⟩) rfl _ _ _ rfl rfl (v := .slice _ _ _) rfl HS tk sz_Sint vcs rfx rfx (by simp) ?_ rfl; clear HS; intro w14_6 hz14_6 HS; simp only [nicL, Value.cells, List.append_nil] at HS))
        refine wp_region_plan_st (HS.arr (show Arr _ [rowA b14 _ _, rowA b8 _ _, rowA b15 _ _] from ary)) (.early 0 (.early 1 (.early 2 (.early 3 (.forced 4 1 (.forced 5 1 (.forced 6 1 (.forced 7 2 .done)))))))) (by kernel_rfl) (by as_aux_lemma => kernel_rfl) ?_
        intro hne
        replace HS := HS.drew
        try go_simp
        repeat' (first
          | (with_reducible refine wpPlan_forced ?_)
          | ((with_reducible ((show wpPlan _ _ _ _ (.early 0 _) _ _))); (first | (refine wpPlan_skipE rfl rfl ?_; (try go_simp)) | (refine wpPlan_early rfl rfl ?_; intro K hK; (first | ((refine quiet_loadA_st  _ _ rfl rfl tk ag_impl_Memory lit rfl ?_); (try go_simp)) | go_big_quiet_op); (first | go_big_quiet_on | (refine ⟨_, fun _ => rfl, ?_⟩; go_big_quiet_on)))))
          | ((with_reducible ((show wpPlan _ _ _ _ (.early 1 _) _ _))); (first | (refine wpPlan_skipE rfl rfl ?_; (try go_simp)) | (refine wpPlan_early rfl rfl ?_; intro K hK; (first | ((refine quiet_loadA_st  _ _ rfl rfl tk ag_impl_Ring lit rfl ?_); (try go_simp)) | go_big_quiet_op); (first | go_big_quiet_on | (refine ⟨_, fun _ => rfl, ?_⟩; go_big_quiet_on)))))
          | ((with_reducible ((show wpPlan _ _ _ _ (.early 2 _) _ _))); (first | (refine wpPlan_skipE rfl rfl ?_; (try go_simp)) | (refine wpPlan_early rfl rfl ?_; intro K hK; (first | ((refine quiet_loadA_st  _ _ rfl rfl tk ag_impl_Pool lit rfl ?_); (try go_simp)) | go_big_quiet_op); (first | go_big_quiet_on | (refine ⟨_, fun _ => rfl, ?_⟩; go_big_quiet_on)))))
          | ((with_reducible ((show wpPlan _ _ _ _ (.early 3 _) _ _))); (first | (refine wpPlan_skipE rfl rfl ?_; (try go_simp)) | (refine wpPlan_early rfl rfl ?_; intro K hK; (first | go_big_quiet_op); (first | go_big_quiet_on | (refine ⟨_, fun _ => rfl, ?_⟩; go_big_quiet_on)))))
          | ((with_reducible ((show wpOne _ _ _ _ 4 1 _ _ _))); (first | (refine wpOne_skip rfl rfl ?_; (try go_simp)) | (refine wpOne_1 rfl rfl ?_; intro K hK; (first | (refine wp_store_st  _ _ _ rfl rfl (v := .agg (List.toArray _)) rfl HS tk sz_impl_Memory vcs rfx rfx (by simp) ?_ rfl; clear HS; intro w15_4 hz15_4 HS; simp only [nicL, Value.cells, List.append_nil] at HS) | (refine wp_store_st  _ _ _ rfl rfl (v := .agg _) rfl HS tk sz_impl_Memory vcs rfx rfx (by simp) ?_ rfl; clear HS; intro w15_4 hz15_4 HS; simp only [nicL, Value.cells, List.append_nil] at HS)); (try go_simp); refine hK _ _ ?_ ?_; (focus (exact stw HS)); clear hK K)))
          | ((with_reducible ((show wpOne _ _ _ _ 5 1 _ _ _))); (first | (refine wpOne_skip rfl rfl ?_; (try go_simp)) | (refine wpOne_1 rfl rfl ?_; intro K hK; (first | (refine wp_store_st  _ _ _ rfl rfl (v := .agg (List.toArray _)) rfl HS tk sz_impl_Ring vcs rfx rfx (by simp) ?_ rfl; clear HS; intro w15_5 hz15_5 HS; simp only [nicL, Value.cells, List.append_nil] at HS) | (refine wp_store_st  _ _ _ rfl rfl (v := .agg _) rfl HS tk sz_impl_Ring vcs rfx rfx (by simp) ?_ rfl; clear HS; intro w15_5 hz15_5 HS; simp only [nicL, Value.cells, List.append_nil] at HS)); (try go_simp); refine hK _ _ ?_ ?_; (focus (exact stw HS)); clear hK K)))
          | ((with_reducible ((show wpOne _ _ _ _ 6 1 _ _ _))); (first | (refine wpOne_skip rfl rfl ?_; (try go_simp)) | (refine wpOne_1 rfl rfl ?_; intro K hK; (first | (refine wp_store_st  _ _ _ rfl rfl (v := .agg (List.toArray _)) rfl HS tk sz_impl_Pool vcs rfx rfx (by simp) ?_ rfl; clear HS; intro w15_6 hz15_6 HS; simp only [nicL, Value.cells, List.append_nil] at HS) | (refine wp_store_st  _ _ _ rfl rfl (v := .agg _) rfl HS tk sz_impl_Pool vcs rfx rfx (by simp) ?_ rfl; clear HS; intro w15_6 hz15_6 HS; simp only [nicL, Value.cells, List.append_nil] at HS)); (try go_simp); refine hK _ _ ?_ ?_; (focus (exact stw HS)); clear hK K)))
          | ((with_reducible ((show wpOne _ _ _ _ 7 2 _ _ _))); (first | (refine wpOne_skip rfl rfl ?_; (try go_simp)) | (refine wpOne_2 rfl rfl ?_; intro K hK; go_simp; refine hK _ _ ?_; clear hK K)))
          | (with_reducible refine wpPlan_done ?_))
        all_goals
          go_wp2
          refine bodyPost_rets rfx (RVs.cell rfx HS tk ag_impl_Memory rfx (RVs.cell rfx HS tk ag_impl_Ring rfx (RVs.cell rfx HS tk ag_impl_Pool rfx (RVs.tmp rfx RVs.nil)))) (by simp) rfx ?_
          exact retFill HS tk tk
      case true =>
        have HOO2 : Hid (O = fillG l d b s h pb pz (fr.drop (k + 1)) qs' t2' (k + 1)) := hid (by rw [HOO.out, hdrop, fillG, ← hT])
        clear HOO hT hdrop hmem
        go_wp2_with (first
              | ((with_reducible (show wpList _ _ _ (Oper.mk (some 44) (Op.load _ _) _ _ _ _ :: _) _ _)); refine wpList_loadHF (o := ⟨some 44, .load _ _, _, _, _, _⟩) rfl _ _ rfl rfl HS (fun _ hs => k3.ex hs.ex) HK.out 1 0 (by first | rfl | (simp; done) | omega) rfl (by decide) sc_int flt ?_))
        refine wp_region_plan_st HS (.early 0 (.early 1 (.early 2 (.early 3 (.early 5 (.forced 4 1 (.forced 6 2 (.forced 7 2 (.forced 8 2 .done))))))))) (by kernel_rfl) (by as_aux_lemma => kernel_rfl) ?_
        intro hne
        replace HS := HS.drew
        try go_simp
        repeat' (first
          | (with_reducible refine wpPlan_forced ?_)
          | ((with_reducible (first | (show wpPlan _ _ _ _ (.early 0 _) _ _) | (show wpPlan _ _ _ _ (.early 3 _) _ _) | (show wpPlan _ _ _ _ (.early 5 _) _ _))); (first | (refine wpPlan_skipE rfl rfl ?_; (try go_simp)) | (refine wpPlan_early rfl rfl ?_; intro K hK; (first | go_big_quiet_op); (first | go_big_quiet_on | (refine ⟨_, fun _ => rfl, ?_⟩; go_big_quiet_on)))))
          | ((with_reducible ((show wpPlan _ _ _ _ (.early 1 _) _ _))); (first | (refine wpPlan_skipE rfl rfl ?_; (try go_simp)) | (refine wpPlan_early rfl rfl ?_; intro K hK; (first | ((refine quiet_loadS_st  _ _ rfl rfl tk sc_int rfx ?_); (try go_simp)) | go_big_quiet_op); (first | go_big_quiet_on | (refine ⟨_, fun _ => rfl, ?_⟩; go_big_quiet_on)))))
          | ((with_reducible ((show wpPlan _ _ _ _ (.early 2 _) _ _))); (first | (refine wpPlan_skipE rfl rfl ?_; (try go_simp)) | (refine wpPlan_early rfl rfl ?_; intro K hK; (first | ((refine quiet_loadA_st  _ _ rfl rfl tk ag_impl_Pool lit rfl ?_); (try go_simp)) | go_big_quiet_op); (first | go_big_quiet_on | (refine ⟨_, fun _ => rfl, ?_⟩; go_big_quiet_on)))))
          | ((with_reducible ((show wpOne _ _ _ _ 4 1 _ _ _))); (first | (refine wpOne_skip rfl rfl ?_; (try go_simp)) | (refine wpOne_1 rfl rfl ?_; intro K hK; go_simp; (first | (go_at_call 103; (with_reducible refine (bufAddr_any _ fr pb pz pc x _ (k3.ex HS.ex) HP.out (by omega) (by omega)).mono ?_); rintro e w' ⟨rfl, hx⟩; replace HS := HS.grow hx; clear hx)); (try go_simp); refine hK _ _ ?_ ?_; (focus (exact stw HS)); clear hK K)))
          | ((with_reducible (first | (show wpOne _ _ _ _ 6 2 _ _ _) | (show wpOne _ _ _ _ 8 2 _ _ _))); (first | (refine wpOne_skip rfl rfl ?_; (try go_simp)) | (refine wpOne_2 rfl rfl ?_; intro K hK; go_simp; refine hK _ _ ?_; clear hK K)))
          | ((with_reducible ((show wpOne _ _ _ _ 7 2 _ _ _))); (first | (refine wpOne_skip rfl rfl ?_; (try go_simp)) | (refine wpOne_2 rfl rfl ?_; intro K hK; go_simp; (first | (go_at_call 102; (with_reducible refine (encodeDesc_any 3 0 pz (pb + x * pz) 0 x _).mono ?_); rintro e w' ⟨rfl, hx⟩; replace HS := HS.grow hx; clear hx)); (try go_simp); refine hK _ _ ?_; clear hK K)))
          | (with_reducible refine wpPlan_done ?_))
        go_wp2_with (first
              | (go_at_call 104; (with_reducible refine (ringPut_any _ _ l cur d b s h t1 _ _ (k1.ex HS.ex) (HS.holds tk) (by omega) hd.out HE.out HT.out).mono ?_); rintro e w' ⟨A59, c59, rfl, ho, hx⟩; replace HS := HS.own ho hx; clear ho hx)
              | ((with_reducible (show wpList _ _ _ (Oper.mk (some 55) (Op.load _ _) _ _ _ _ :: _) _ _)); refine wpList_loadA_st (o := ⟨some 55, .load _ _, _, _, _, _⟩) rfl _ _ rfl rfl HS tk ag_impl_Memory lit rfl ?_)
              | ((with_reducible (show wpList _ _ _ (Oper.mk (some 57) (Op.load _ _) _ _ _ _ :: _) _ _)); refine wpList_loadA_st (o := ⟨some 57, .load _ _, _, _, _, _⟩) rfl _ _ rfl rfl HS tk ag_impl_Ring lit rfl ?_)
              | ((with_reducible (show wpList _ _ _ (Oper.mk (some 20) (Op.alloc _) _ _ _ _ :: _) _ _)); refine wpList_alloc_st (o := ⟨some 20, .alloc _, _, _, _, _⟩) rfl _ rfl zc_impl_Memory HS ?_; clear HS; intro w20 b20 hb20 HS)
              | ((with_reducible (show wpList _ _ _ (Oper.mk (some 21) (Op.alloc _) _ _ _ _ :: _) _ _)); refine wpList_alloc_st (o := ⟨some 21, .alloc _, _, _, _, _⟩) rfl _ rfl zc_impl_Ring HS ?_; clear HS; intro w21 b21 hb21 HS)
              | ((with_reducible (show wpList _ _ _ (Oper.mk none (Op.store _ (.tmp 20) _) _ _ _ _ :: _) _ _)); refine wpList_store_st (o := ⟨none, .store _ (.tmp 20) _, _, _, _, _⟩) rfl _ _ _ rfl rfl (v := .agg (List.toArray _)) rfl HS tk sz_impl_Memory vcs rfx rfx (by simp) ?_ rfl; clear HS; intro w9_12 hz9_12 HS; simp only [nicL, Value.cells, List.append_nil] at HS)
              | ((with_reducible (show wpList _ _ _ (Oper.mk none (Op.store _ (.tmp 21) _) _ _ _ _ :: _) _ _)); refine wpList_store_st (o := ⟨none, .store _ (.tmp 21) _, _, _, _, _⟩) rfl _ _ _ rfl rfl (v := .agg (List.toArray _)) rfl HS tk sz_impl_Ring vcs rfx rfx (by simp) ?_ rfl; clear HS; intro w9_13 hz9_13 HS; simp only [nicL, Value.cells, List.append_nil] at HS))
        refine wp_region_plan_st (HS.arr (show Arr _ [rowA b20 _ _, rowA b21 _ _] from ary)) (.early 0 (.early 1 (.forced 2 1 (.forced 3 2 .done)))) (by kernel_rfl) (by as_aux_lemma => kernel_rfl) ?_
        intro hne
        replace HS := HS.drew
        try go_simp
        repeat' (first
          | (with_reducible refine wpPlan_forced ?_)
          | ((with_reducible ((show wpPlan _ _ _ _ (.early 0 _) _ _))); (first | (refine wpPlan_skipE rfl rfl ?_; (try go_simp)) | (refine wpPlan_early rfl rfl ?_; intro K hK; (first | ((refine quiet_loadA_st  _ _ rfl rfl tk ag_impl_Memory lit rfl ?_); (try go_simp)) | go_big_quiet_op); (first | go_big_quiet_on | (refine ⟨_, fun _ => rfl, ?_⟩; go_big_quiet_on)))))
          | ((with_reducible ((show wpPlan _ _ _ _ (.early 1 _) _ _))); (first | (refine wpPlan_skipE rfl rfl ?_; (try go_simp)) | (refine wpPlan_early rfl rfl ?_; intro K hK; (first | ((refine quiet_loadA_st  _ _ rfl rfl tk ag_impl_Ring lit rfl ?_); (try go_simp)) | go_big_quiet_op); (first | go_big_quiet_on | (refine ⟨_, fun _ => rfl, ?_⟩; go_big_quiet_on)))))
          | ((with_reducible ((show wpOne _ _ _ _ 2 1 _ _ _))); (first | (refine wpOne_skip rfl rfl ?_; (try go_simp)) | (refine wpOne_1 rfl rfl ?_; intro K hK; (first | (refine wp_store_st  _ _ _ rfl rfl (v := .agg (List.toArray _)) rfl HS tk sz_impl_Memory vcs rfx rfx (by simp) ?_ rfl; clear HS; intro w11_2 hz11_2 HS; simp only [nicL, Value.cells, List.append_nil] at HS) | (refine wp_store_st  _ _ _ rfl rfl (v := .agg _) rfl HS tk sz_impl_Memory vcs rfx rfx (by simp) ?_ rfl; clear HS; intro w11_2 hz11_2 HS; simp only [nicL, Value.cells, List.append_nil] at HS)); (try go_simp); refine hK _ _ ?_ ?_; (focus (exact stw HS)); clear hK K)))
          | ((with_reducible ((show wpOne _ _ _ _ 3 2 _ _ _))); (first | (refine wpOne_skip rfl rfl ?_; (try go_simp)) | (refine wpOne_2 rfl rfl ?_; intro K hK; (first | (refine wp_store_st  _ _ _ rfl rfl (v := .agg (List.toArray _)) rfl HS tk sz_impl_Ring vcs rfx rfx (by simp) ?_ rfl; clear HS; intro w11_3 hz11_3 HS; simp only [nicL, Value.cells, List.append_nil] at HS) | (refine wp_store_st  _ _ _ rfl rfl (v := .agg _) rfl HS tk sz_impl_Ring vcs rfx rfx (by simp) ?_ rfl; clear HS; intro w11_3 hz11_3 HS; simp only [nicL, Value.cells, List.append_nil] at HS)); (try go_simp); refine hK _ _ ?_; clear hK K)))
          | (with_reducible refine wpPlan_done ?_))
        go_wp2
        go_roundw
        case rel => exact ⟨k + 1, qs', t2', _, _, hlt, HOO2, HLN, by go_num, by go_num, (HS.arr (by repeat (first | exact Arr.nil | (with_reducible exact take_all _) | (refine Arr.cons tk ?_) | (refine arr_skip ?_))))⟩
        case measure => simp [intOf]; omega

set_option maxRecDepth 100000 in
set_option maxHeartbeats 4000000 in
theorem fillRingS_any (v1 v2 v3 : Value) (l : List Mp) (ps : Pg) (fr : List Int) (d b s h t pb pz pc : Int) (w : World) (k1 : Holds w l [v1]) (k2 : Holds w ps [v2]) (k3 : Holds w fr [v3]) (hl : ps.length ≤ 1099511627776) (hlf : fr.length ≤ 1099511627776) (hd : i64ok d) {qs : Pg} {t2 : Int} {fr2 : List Int} {n : Nat} (hr : (qs, t2, fr2, n) = fillRF l ps d b s h t pb pz pc fr) :
    Calls Try.prog 43 #[v1, .agg #[v2], .int .i64 d, .agg #[.int .i64 b, .int .i64 s, .int .i64 h, .int .i64 t], .agg #[.int .i64 pb, .int .i64 pz, .int .i64 pc, v3]] w (RetFill w qs b s h t2 pb pz pc fr2 n) := by
  obtain ⟨AA, cap, rfl, z1, z2⟩ := k1.fl
  unfold maxLen at z2
  obtain ⟨BB, cap2, rfl, y1, y2⟩ := k2.fl
  unfold maxLen at y2
  obtain ⟨CC, cap3, rfl, x1, x2⟩ := k3.fl
  unfold maxLen at x2
  replace hd := hid hd
  obtain ⟨q1, hq⟩ : ∃ q, ringOkB b s h t = q := ⟨_, rfl⟩
  obtain ⟨p1, hp⟩ : ∃ q, poolB pb pz pc fr = q := ⟨_, rfl⟩
  have HQ := hid hq
  have HP := hid hp

  cases q1
  case false =>
    unfold fillRF at hr
    rw [hq, Bool.false_and] at hr
    rw [if_neg (by decide)] at hr
    simp only [Prod.mk.injEq] at hr
    obtain ⟨e1, e2, e3, rfl⟩ := hr
    replace e1 := e1.symm
    subst e1
    replace e2 := e2.symm
    subst e2
    replace e3 := e3.symm
    subst e3
    clear hq hp
    have HS := St.start w
    go_enter Try.func43, Try.ntmps43
    go_wp2_with (first
          | (go_at_call 83; (with_reducible refine (ringOkS_any b s h t _).mono ?_); rintro e w' ⟨rfl, hx⟩; rw [HQ.out]; replace HS := HS.grow hx; clear hx)
          | (go_at_call 74; (with_reducible refine (l16CopyS_any _ ps _ (k2.ex HS.ex) hl).mono ?_); rintro e w' ⟨A1, c1, rfl, ho, hx⟩; replace HS := HS.own ho hx; clear ho hx)
          | (go_at_call 93; (with_reducible refine (l21Copy_any _ fr pb pz pc _ (k3.ex HS.ex) hlf).mono ?_); rintro e w' ⟨A2, c2, rfl, ho, hx⟩; replace HS := HS.own ho hx; clear ho hx)
          | ((with_reducible (show wpList _ _ _ (Oper.mk (some 6) (Op.box _ _) _ _ _ _ :: _) _ _)); refine wpList_box_st (o := ⟨some 6, .box _ _, _, _, _, _⟩) rfl _ _ rfl (v := .agg (List.toArray _)) rfl HS ?_; clear HS; intro w6 b6 hb6 HS; simp only [Value.cells] at HS)
          | ((with_reducible (show wpList _ _ _ (Oper.mk (some 8) (Op.box _ _) _ _ _ _ :: _) _ _)); refine wpList_box_st (o := ⟨some 8, .box _ _, _, _, _, _⟩) rfl _ _ rfl (v := .agg (List.toArray _)) rfl HS ?_; clear HS; intro w8 b8 hb8 HS; simp only [Value.cells] at HS)
          | ((with_reducible (show wpList _ _ _ (Oper.mk (some 9) (Op.box _ _) _ _ _ _ :: _) _ _)); refine wpList_box_st (o := ⟨some 9, .box _ _, _, _, _, _⟩) rfl _ _ rfl (v := .agg (List.toArray _)) rfl HS ?_; clear HS; intro w9 b9 hb9 HS; simp only [Value.cells] at HS)
          | ((with_reducible (show wpList _ _ _ (Oper.mk (some 10) (Op.alloc _) _ _ _ _ :: _) _ _)); refine wpList_alloc_st (o := ⟨some 10, .alloc _, _, _, _, _⟩) rfl _ rfl zc_impl_Memory HS ?_; clear HS; intro w10 b10 hb10 HS)
          | ((with_reducible (show wpList _ _ _ (Oper.mk (some 11) (Op.alloc _) _ _ _ _ :: _) _ _)); refine wpList_alloc_st (o := ⟨some 11, .alloc _, _, _, _, _⟩) rfl _ rfl zc_impl_Ring HS ?_; clear HS; intro w11 b11 hb11 HS)
          | ((with_reducible (show wpList _ _ _ (Oper.mk (some 12) (Op.alloc _) _ _ _ _ :: _) _ _)); refine wpList_alloc_st (o := ⟨some 12, .alloc _, _, _, _, _⟩) rfl _ rfl zc_impl_Pool HS ?_; clear HS; intro w12 b12 hb12 HS)
          | ((with_reducible (show wpList _ _ _ (Oper.mk (some 21) (Op.load _ _) _ _ _ _ :: _) _ _)); refine wpList_loadA_st (o := ⟨some 21, .load _ _, _, _, _, _⟩) rfl _ _ rfl rfl HS tk ag_impl_Memory lit rfl ?_)
          | ((with_reducible (show wpList _ _ _ (Oper.mk (some 14) (Op.alloc _) _ _ _ _ :: _) _ _)); refine wpList_alloc_st (o := ⟨some 14, .alloc _, _, _, _, _⟩) rfl _ rfl zc_impl_Memory HS ?_; clear HS; intro w14 b14 hb14 HS)
          | ((with_reducible (show wpList _ _ _ (Oper.mk none (Op.store _ (.tmp 14) _) _ _ _ _ :: _) _ _)); refine wpList_store_st (o := ⟨none, .store _ (.tmp 14) _, _, _, _, _⟩) rfl _ _ _ rfl rfl (v := .agg (List.toArray _)) rfl HS tk sz_impl_Memory vcs rfx rfx (by simp) ?_ rfl; clear HS; intro w1_3 hz1_3 HS; simp only [nicL, Value.cells, List.append_nil] at HS)
          | ((with_reducible (show wpList _ _ _ (Oper.mk (some 23) (Op.load _ _) _ _ _ _ :: _) _ _)); refine wpList_loadA_st (o := ⟨some 23, .load _ _, _, _, _, _⟩) rfl _ _ rfl rfl HS tk ag_impl_Pool lit rfl ?_)
          | ((with_reducible (show wpList _ _ _ (Oper.mk (some 15) (Op.alloc _) _ _ _ _ :: _) _ _)); refine wpList_alloc_st (o := ⟨some 15, .alloc _, _, _, _, _⟩) rfl _ rfl zc_impl_Pool HS ?_; clear HS; intro w15 b15 hb15 HS)
          | ((with_reducible (show wpList _ _ _ (Oper.mk none (Op.store _ (.tmp 15) _) _ _ _ _ :: _) _ _)); refine wpList_store_st (o := ⟨none, .store _ (.tmp 15) _, _, _, _, _⟩) rfl _ _ _ rfl rfl (v := .agg (List.toArray _)) rfl HS tk sz_impl_Pool vcs rfx rfx (by simp) ?_ rfl; clear HS; intro w2_3 hz2_3 HS; simp only [nicL, Value.cells, List.append_nil] at HS)
          | ((with_reducible (show wpList _ _ _ (Oper.mk (some 25) (Op.load _ _) _ _ _ _ :: _) _ _)); refine wpList_loadA_st (o := ⟨some 25, .load _ _, _, _, _, _⟩) rfl _ _ rfl rfl HS tk ag_impl_Ring lit rfl ?_))
    refine wp_region_plan_st (HS.arr (show Arr _ [rowA b14 _ _, rowA b8 _ _, rowA b15 _ _] from ary)) (.early 0 (.early 1 (.early 2 (.forced 3 1 (.forced 4 1 (.forced 5 2 (.forced 6 2 .done))))))) (by kernel_rfl) (by as_aux_lemma => kernel_rfl) ?_
    intro hne
    replace HS := HS.drew
    try go_simp
    repeat' (first
      | (with_reducible refine wpPlan_forced ?_)
      | ((with_reducible ((show wpPlan _ _ _ _ (.early 0 _) _ _))); (first | (refine wpPlan_skipE rfl rfl ?_; (try go_simp)) | (refine wpPlan_early rfl rfl ?_; intro K hK; (first | ((refine quiet_loadA_st  _ _ rfl rfl tk ag_impl_Memory lit rfl ?_); (try go_simp)) | go_big_quiet_op); (first | go_big_quiet_on | (refine ⟨_, fun _ => rfl, ?_⟩; go_big_quiet_on)))))
      | ((with_reducible ((show wpPlan _ _ _ _ (.early 1 _) _ _))); (first | (refine wpPlan_skipE rfl rfl ?_; (try go_simp)) | (refine wpPlan_early rfl rfl ?_; intro K hK; (first | ((refine quiet_loadA_st  _ _ rfl rfl tk ag_impl_Ring lit rfl ?_); (try go_simp)) | go_big_quiet_op); (first | go_big_quiet_on | (refine ⟨_, fun _ => rfl, ?_⟩; go_big_quiet_on)))))
      | ((with_reducible ((show wpPlan _ _ _ _ (.early 2 _) _ _))); (first | (refine wpPlan_skipE rfl rfl ?_; (try go_simp)) | (refine wpPlan_early rfl rfl ?_; intro K hK; (first | ((refine quiet_loadA_st  _ _ rfl rfl tk ag_impl_Pool lit rfl ?_); (try go_simp)) | go_big_quiet_op); (first | go_big_quiet_on | (refine ⟨_, fun _ => rfl, ?_⟩; go_big_quiet_on)))))
      | ((with_reducible ((show wpOne _ _ _ _ 3 1 _ _ _))); (first | (refine wpOne_skip rfl rfl ?_; (try go_simp)) | (refine wpOne_1 rfl rfl ?_; intro K hK; (first | (refine wp_store_st  _ _ _ rfl rfl (v := .agg (List.toArray _)) rfl HS tk sz_impl_Memory vcs rfx rfx (by simp) ?_ rfl; clear HS; intro w5_3 hz5_3 HS; simp only [nicL, Value.cells, List.append_nil] at HS) | (refine wp_store_st  _ _ _ rfl rfl (v := .agg _) rfl HS tk sz_impl_Memory vcs rfx rfx (by simp) ?_ rfl; clear HS; intro w5_3 hz5_3 HS; simp only [nicL, Value.cells, List.append_nil] at HS)); (try go_simp); refine hK _ _ ?_ ?_; (focus (exact stw HS)); clear hK K)))
      | ((with_reducible ((show wpOne _ _ _ _ 4 1 _ _ _))); (first | (refine wpOne_skip rfl rfl ?_; (try go_simp)) | (refine wpOne_1 rfl rfl ?_; intro K hK; (first | (refine wp_store_st  _ _ _ rfl rfl (v := .agg (List.toArray _)) rfl HS tk sz_impl_Ring vcs rfx rfx (by simp) ?_ rfl; clear HS; intro w5_4 hz5_4 HS; simp only [nicL, Value.cells, List.append_nil] at HS) | (refine wp_store_st  _ _ _ rfl rfl (v := .agg _) rfl HS tk sz_impl_Ring vcs rfx rfx (by simp) ?_ rfl; clear HS; intro w5_4 hz5_4 HS; simp only [nicL, Value.cells, List.append_nil] at HS)); (try go_simp); refine hK _ _ ?_ ?_; (focus (exact stw HS)); clear hK K)))
      | ((with_reducible ((show wpOne _ _ _ _ 5 2 _ _ _))); (first | (refine wpOne_skip rfl rfl ?_; (try go_simp)) | (refine wpOne_2 rfl rfl ?_; intro K hK; (first | (refine wp_store_st  _ _ _ rfl rfl (v := .agg (List.toArray _)) rfl HS tk sz_impl_Pool vcs rfx rfx (by simp) ?_ rfl; clear HS; intro w5_5 hz5_5 HS; simp only [nicL, Value.cells, List.append_nil] at HS) | (refine wp_store_st  _ _ _ rfl rfl (v := .agg _) rfl HS tk sz_impl_Pool vcs rfx rfx (by simp) ?_ rfl; clear HS; intro w5_5 hz5_5 HS; simp only [nicL, Value.cells, List.append_nil] at HS)); (try go_simp); refine hK _ _ ?_; clear hK K)))
      | ((with_reducible ((show wpOne _ _ _ _ 6 2 _ _ _))); (first | (refine wpOne_skip rfl rfl ?_; (try go_simp)) | (refine wpOne_2 rfl rfl ?_; intro K hK; go_simp; refine hK _ _ ?_; clear hK K)))
      | (with_reducible refine wpPlan_done ?_))
    all_goals
      go_wp2
      refine bodyPost_rets rfx (RVs.cell rfx HS tk ag_impl_Memory rfx (RVs.cell rfx HS tk ag_impl_Ring rfx (RVs.cell rfx HS tk ag_impl_Pool rfx (RVs.tmp rfx RVs.nil)))) (by simp) rfx ?_
      exact retFill HS tk tk
  case true =>
  cases p1
  case false =>
    unfold fillRF at hr
    rw [hq, hp, Bool.and_false] at hr
    rw [if_neg (by decide)] at hr
    simp only [Prod.mk.injEq] at hr
    obtain ⟨e1, e2, e3, rfl⟩ := hr
    replace e1 := e1.symm
    subst e1
    replace e2 := e2.symm
    subst e2
    replace e3 := e3.symm
    subst e3
    clear hq hp
    have HS := St.start w
    go_enter Try.func43, Try.ntmps43
    go_wp2_with (first
          | (go_at_call 83; (with_reducible refine (ringOkS_any b s h t _).mono ?_); rintro e w' ⟨rfl, hx⟩; rw [HQ.out]; replace HS := HS.grow hx; clear hx)
          | (go_at_call 94; (with_reducible refine (poolOkS_any _ fr pb pz pc _ (k3.ex HS.ex)).mono ?_); rintro e w' ⟨rfl, hx⟩; rw [HP.out]; replace HS := HS.grow hx; clear hx)
          | (go_at_call 74; (with_reducible refine (l16CopyS_any _ ps _ (k2.ex HS.ex) hl).mono ?_); rintro e w' ⟨A1, c1, rfl, ho, hx⟩; replace HS := HS.own ho hx; clear ho hx)
          | (go_at_call 93; (with_reducible refine (l21Copy_any _ fr pb pz pc _ (k3.ex HS.ex) hlf).mono ?_); rintro e w' ⟨A2, c2, rfl, ho, hx⟩; replace HS := HS.own ho hx; clear ho hx)
          | ((with_reducible (show wpList _ _ _ (Oper.mk (some 6) (Op.box _ _) _ _ _ _ :: _) _ _)); refine wpList_box_st (o := ⟨some 6, .box _ _, _, _, _, _⟩) rfl _ _ rfl (v := .agg (List.toArray _)) rfl HS ?_; clear HS; intro w6 b6 hb6 HS; simp only [Value.cells] at HS)
          | ((with_reducible (show wpList _ _ _ (Oper.mk (some 8) (Op.box _ _) _ _ _ _ :: _) _ _)); refine wpList_box_st (o := ⟨some 8, .box _ _, _, _, _, _⟩) rfl _ _ rfl (v := .agg (List.toArray _)) rfl HS ?_; clear HS; intro w8 b8 hb8 HS; simp only [Value.cells] at HS)
          | ((with_reducible (show wpList _ _ _ (Oper.mk (some 9) (Op.box _ _) _ _ _ _ :: _) _ _)); refine wpList_box_st (o := ⟨some 9, .box _ _, _, _, _, _⟩) rfl _ _ rfl (v := .agg (List.toArray _)) rfl HS ?_; clear HS; intro w9 b9 hb9 HS; simp only [Value.cells] at HS)
          | ((with_reducible (show wpList _ _ _ (Oper.mk (some 10) (Op.alloc _) _ _ _ _ :: _) _ _)); refine wpList_alloc_st (o := ⟨some 10, .alloc _, _, _, _, _⟩) rfl _ rfl zc_impl_Memory HS ?_; clear HS; intro w10 b10 hb10 HS)
          | ((with_reducible (show wpList _ _ _ (Oper.mk (some 11) (Op.alloc _) _ _ _ _ :: _) _ _)); refine wpList_alloc_st (o := ⟨some 11, .alloc _, _, _, _, _⟩) rfl _ rfl zc_impl_Ring HS ?_; clear HS; intro w11 b11 hb11 HS)
          | ((with_reducible (show wpList _ _ _ (Oper.mk (some 12) (Op.alloc _) _ _ _ _ :: _) _ _)); refine wpList_alloc_st (o := ⟨some 12, .alloc _, _, _, _, _⟩) rfl _ rfl zc_impl_Pool HS ?_; clear HS; intro w12 b12 hb12 HS)
          | ((with_reducible (show wpList _ _ _ (Oper.mk (some 21) (Op.load _ _) _ _ _ _ :: _) _ _)); refine wpList_loadA_st (o := ⟨some 21, .load _ _, _, _, _, _⟩) rfl _ _ rfl rfl HS tk ag_impl_Memory lit rfl ?_)
          | ((with_reducible (show wpList _ _ _ (Oper.mk (some 14) (Op.alloc _) _ _ _ _ :: _) _ _)); refine wpList_alloc_st (o := ⟨some 14, .alloc _, _, _, _, _⟩) rfl _ rfl zc_impl_Memory HS ?_; clear HS; intro w14 b14 hb14 HS)
          | ((with_reducible (show wpList _ _ _ (Oper.mk none (Op.store _ (.tmp 14) _) _ _ _ _ :: _) _ _)); refine wpList_store_st (o := ⟨none, .store _ (.tmp 14) _, _, _, _, _⟩) rfl _ _ _ rfl rfl (v := .agg (List.toArray _)) rfl HS tk sz_impl_Memory vcs rfx rfx (by simp) ?_ rfl; clear HS; intro w1_3 hz1_3 HS; simp only [nicL, Value.cells, List.append_nil] at HS)
          | ((with_reducible (show wpList _ _ _ (Oper.mk (some 23) (Op.load _ _) _ _ _ _ :: _) _ _)); refine wpList_loadA_st (o := ⟨some 23, .load _ _, _, _, _, _⟩) rfl _ _ rfl rfl HS tk ag_impl_Pool lit rfl ?_)
          | ((with_reducible (show wpList _ _ _ (Oper.mk (some 15) (Op.alloc _) _ _ _ _ :: _) _ _)); refine wpList_alloc_st (o := ⟨some 15, .alloc _, _, _, _, _⟩) rfl _ rfl zc_impl_Pool HS ?_; clear HS; intro w15 b15 hb15 HS)
          | ((with_reducible (show wpList _ _ _ (Oper.mk none (Op.store _ (.tmp 15) _) _ _ _ _ :: _) _ _)); refine wpList_store_st (o := ⟨none, .store _ (.tmp 15) _, _, _, _, _⟩) rfl _ _ _ rfl rfl (v := .agg (List.toArray _)) rfl HS tk sz_impl_Pool vcs rfx rfx (by simp) ?_ rfl; clear HS; intro w2_3 hz2_3 HS; simp only [nicL, Value.cells, List.append_nil] at HS)
          | ((with_reducible (show wpList _ _ _ (Oper.mk (some 25) (Op.load _ _) _ _ _ _ :: _) _ _)); refine wpList_loadA_st (o := ⟨some 25, .load _ _, _, _, _, _⟩) rfl _ _ rfl rfl HS tk ag_impl_Ring lit rfl ?_)
          | ((with_reducible (show wpList _ _ _ (Oper.mk (some 29) (Op.load _ _) _ _ _ _ :: _) _ _)); refine wpList_loadA_st (o := ⟨some 29, .load _ _, _, _, _, _⟩) rfl _ _ rfl rfl HS tk ag_impl_Pool lit rfl ?_))
    refine wp_region_plan_st (HS.arr (show Arr _ [rowA b14 _ _, rowA b8 _ _, rowA b15 _ _] from ary)) (.early 0 (.early 1 (.early 2 (.forced 3 1 (.forced 4 1 (.forced 5 2 (.forced 6 2 .done))))))) (by kernel_rfl) (by as_aux_lemma => kernel_rfl) ?_
    intro hne
    replace HS := HS.drew
    try go_simp
    repeat' (first
      | (with_reducible refine wpPlan_forced ?_)
      | ((with_reducible ((show wpPlan _ _ _ _ (.early 0 _) _ _))); (first | (refine wpPlan_skipE rfl rfl ?_; (try go_simp)) | (refine wpPlan_early rfl rfl ?_; intro K hK; (first | ((refine quiet_loadA_st  _ _ rfl rfl tk ag_impl_Memory lit rfl ?_); (try go_simp)) | go_big_quiet_op); (first | go_big_quiet_on | (refine ⟨_, fun _ => rfl, ?_⟩; go_big_quiet_on)))))
      | ((with_reducible ((show wpPlan _ _ _ _ (.early 1 _) _ _))); (first | (refine wpPlan_skipE rfl rfl ?_; (try go_simp)) | (refine wpPlan_early rfl rfl ?_; intro K hK; (first | ((refine quiet_loadA_st  _ _ rfl rfl tk ag_impl_Ring lit rfl ?_); (try go_simp)) | go_big_quiet_op); (first | go_big_quiet_on | (refine ⟨_, fun _ => rfl, ?_⟩; go_big_quiet_on)))))
      | ((with_reducible ((show wpPlan _ _ _ _ (.early 2 _) _ _))); (first | (refine wpPlan_skipE rfl rfl ?_; (try go_simp)) | (refine wpPlan_early rfl rfl ?_; intro K hK; (first | ((refine quiet_loadA_st  _ _ rfl rfl tk ag_impl_Pool lit rfl ?_); (try go_simp)) | go_big_quiet_op); (first | go_big_quiet_on | (refine ⟨_, fun _ => rfl, ?_⟩; go_big_quiet_on)))))
      | ((with_reducible ((show wpOne _ _ _ _ 3 1 _ _ _))); (first | (refine wpOne_skip rfl rfl ?_; (try go_simp)) | (refine wpOne_1 rfl rfl ?_; intro K hK; (first | (refine wp_store_st  _ _ _ rfl rfl (v := .agg (List.toArray _)) rfl HS tk sz_impl_Memory vcs rfx rfx (by simp) ?_ rfl; clear HS; intro w5_3 hz5_3 HS; simp only [nicL, Value.cells, List.append_nil] at HS) | (refine wp_store_st  _ _ _ rfl rfl (v := .agg _) rfl HS tk sz_impl_Memory vcs rfx rfx (by simp) ?_ rfl; clear HS; intro w5_3 hz5_3 HS; simp only [nicL, Value.cells, List.append_nil] at HS)); (try go_simp); refine hK _ _ ?_ ?_; (focus (exact stw HS)); clear hK K)))
      | ((with_reducible ((show wpOne _ _ _ _ 4 1 _ _ _))); (first | (refine wpOne_skip rfl rfl ?_; (try go_simp)) | (refine wpOne_1 rfl rfl ?_; intro K hK; (first | (refine wp_store_st  _ _ _ rfl rfl (v := .agg (List.toArray _)) rfl HS tk sz_impl_Ring vcs rfx rfx (by simp) ?_ rfl; clear HS; intro w5_4 hz5_4 HS; simp only [nicL, Value.cells, List.append_nil] at HS) | (refine wp_store_st  _ _ _ rfl rfl (v := .agg _) rfl HS tk sz_impl_Ring vcs rfx rfx (by simp) ?_ rfl; clear HS; intro w5_4 hz5_4 HS; simp only [nicL, Value.cells, List.append_nil] at HS)); (try go_simp); refine hK _ _ ?_ ?_; (focus (exact stw HS)); clear hK K)))
      | ((with_reducible ((show wpOne _ _ _ _ 5 2 _ _ _))); (first | (refine wpOne_skip rfl rfl ?_; (try go_simp)) | (refine wpOne_2 rfl rfl ?_; intro K hK; (first | (refine wp_store_st  _ _ _ rfl rfl (v := .agg (List.toArray _)) rfl HS tk sz_impl_Pool vcs rfx rfx (by simp) ?_ rfl; clear HS; intro w5_5 hz5_5 HS; simp only [nicL, Value.cells, List.append_nil] at HS) | (refine wp_store_st  _ _ _ rfl rfl (v := .agg _) rfl HS tk sz_impl_Pool vcs rfx rfx (by simp) ?_ rfl; clear HS; intro w5_5 hz5_5 HS; simp only [nicL, Value.cells, List.append_nil] at HS)); (try go_simp); refine hK _ _ ?_; clear hK K)))
      | ((with_reducible ((show wpOne _ _ _ _ 6 2 _ _ _))); (first | (refine wpOne_skip rfl rfl ?_; (try go_simp)) | (refine wpOne_2 rfl rfl ?_; intro K hK; go_simp; refine hK _ _ ?_; clear hK K)))
      | (with_reducible refine wpPlan_done ?_))
    all_goals
      go_wp2
      refine bodyPost_rets rfx (RVs.cell rfx HS tk ag_impl_Memory rfx (RVs.cell rfx HS tk ag_impl_Ring rfx (RVs.cell rfx HS tk ag_impl_Pool rfx (RVs.tmp rfx RVs.nil)))) (by simp) rfx ?_
      exact retFill HS tk tk
  case true =>
  have hfl := poolB_len hp
  unfold fillRF at hr
  rw [hq, hp, if_pos (by decide)] at hr
  obtain ⟨O, hO⟩ : ∃ O, O = fillG l d b s h pb pz fr ps t 0 := ⟨_, rfl⟩
  rw [← hO] at hr
  have HR := hid hr
  have HO0 := hid hO
  have HFR := hid (poolB_facts hp).2.2.2.2.2.2
  obtain ⟨-, -, pz0, pz1, pc0, pc1, -⟩ := poolB_facts hp
  clear hr hO hq hp
  have HS := St.start w
  go_enter Try.func43, Try.ntmps43
  go_wp2_with (first
        | (go_at_call 83; (with_reducible refine (ringOkS_any b s h t _).mono ?_); rintro e w' ⟨rfl, hx⟩; rw [HQ.out]; replace HS := HS.grow hx; clear hx)
        | (go_at_call 94; (with_reducible refine (poolOkS_any _ fr pb pz pc _ (k3.ex HS.ex)).mono ?_); rintro e w' ⟨rfl, hx⟩; rw [HP.out]; replace HS := HS.grow hx; clear hx)
        | (go_at_call 74; (with_reducible refine (l16CopyS_any _ ps _ (k2.ex HS.ex) hl).mono ?_); rintro e w' ⟨A1, c1, rfl, ho, hx⟩; replace HS := HS.own ho hx; clear ho hx)
        | (go_at_call 93; (with_reducible refine (l21Copy_any _ fr pb pz pc _ (k3.ex HS.ex) hlf).mono ?_); rintro e w' ⟨A2, c2, rfl, ho, hx⟩; replace HS := HS.own ho hx; clear ho hx)
        | ((with_reducible (show wpList _ _ _ (Oper.mk (some 6) (Op.box _ _) _ _ _ _ :: _) _ _)); refine wpList_box_st (o := ⟨some 6, .box _ _, _, _, _, _⟩) rfl _ _ rfl (v := .agg (List.toArray _)) rfl HS ?_; clear HS; intro w6 b6 hb6 HS; simp only [Value.cells] at HS)
        | ((with_reducible (show wpList _ _ _ (Oper.mk (some 8) (Op.box _ _) _ _ _ _ :: _) _ _)); refine wpList_box_st (o := ⟨some 8, .box _ _, _, _, _, _⟩) rfl _ _ rfl (v := .agg (List.toArray _)) rfl HS ?_; clear HS; intro w8 b8 hb8 HS; simp only [Value.cells] at HS)
        | ((with_reducible (show wpList _ _ _ (Oper.mk (some 9) (Op.box _ _) _ _ _ _ :: _) _ _)); refine wpList_box_st (o := ⟨some 9, .box _ _, _, _, _, _⟩) rfl _ _ rfl (v := .agg (List.toArray _)) rfl HS ?_; clear HS; intro w9 b9 hb9 HS; simp only [Value.cells] at HS)
        | ((with_reducible (show wpList _ _ _ (Oper.mk (some 10) (Op.alloc _) _ _ _ _ :: _) _ _)); refine wpList_alloc_st (o := ⟨some 10, .alloc _, _, _, _, _⟩) rfl _ rfl zc_impl_Memory HS ?_; clear HS; intro w10 b10 hb10 HS)
        | ((with_reducible (show wpList _ _ _ (Oper.mk (some 11) (Op.alloc _) _ _ _ _ :: _) _ _)); refine wpList_alloc_st (o := ⟨some 11, .alloc _, _, _, _, _⟩) rfl _ rfl zc_impl_Ring HS ?_; clear HS; intro w11 b11 hb11 HS)
        | ((with_reducible (show wpList _ _ _ (Oper.mk (some 12) (Op.alloc _) _ _ _ _ :: _) _ _)); refine wpList_alloc_st (o := ⟨some 12, .alloc _, _, _, _, _⟩) rfl _ rfl zc_impl_Pool HS ?_; clear HS; intro w12 b12 hb12 HS)
        | ((with_reducible (show wpList _ _ _ (Oper.mk (some 21) (Op.load _ _) _ _ _ _ :: _) _ _)); refine wpList_loadA_st (o := ⟨some 21, .load _ _, _, _, _, _⟩) rfl _ _ rfl rfl HS tk ag_impl_Memory lit rfl ?_)
        | ((with_reducible (show wpList _ _ _ (Oper.mk (some 14) (Op.alloc _) _ _ _ _ :: _) _ _)); refine wpList_alloc_st (o := ⟨some 14, .alloc _, _, _, _, _⟩) rfl _ rfl zc_impl_Memory HS ?_; clear HS; intro w14 b14 hb14 HS)
        | ((with_reducible (show wpList _ _ _ (Oper.mk none (Op.store _ (.tmp 14) _) _ _ _ _ :: _) _ _)); refine wpList_store_st (o := ⟨none, .store _ (.tmp 14) _, _, _, _, _⟩) rfl _ _ _ rfl rfl (v := .agg (List.toArray _)) rfl HS tk sz_impl_Memory vcs rfx rfx (by simp) ?_ rfl; clear HS; intro w1_3 hz1_3 HS; simp only [nicL, Value.cells, List.append_nil] at HS)
        | ((with_reducible (show wpList _ _ _ (Oper.mk (some 23) (Op.load _ _) _ _ _ _ :: _) _ _)); refine wpList_loadA_st (o := ⟨some 23, .load _ _, _, _, _, _⟩) rfl _ _ rfl rfl HS tk ag_impl_Pool lit rfl ?_)
        | ((with_reducible (show wpList _ _ _ (Oper.mk (some 15) (Op.alloc _) _ _ _ _ :: _) _ _)); refine wpList_alloc_st (o := ⟨some 15, .alloc _, _, _, _, _⟩) rfl _ rfl zc_impl_Pool HS ?_; clear HS; intro w15 b15 hb15 HS)
        | ((with_reducible (show wpList _ _ _ (Oper.mk none (Op.store _ (.tmp 15) _) _ _ _ _ :: _) _ _)); refine wpList_store_st (o := ⟨none, .store _ (.tmp 15) _, _, _, _, _⟩) rfl _ _ _ rfl rfl (v := .agg (List.toArray _)) rfl HS tk sz_impl_Pool vcs rfx rfx (by simp) ?_ rfl; clear HS; intro w2_3 hz2_3 HS; simp only [nicL, Value.cells, List.append_nil] at HS)
        | ((with_reducible (show wpList _ _ _ (Oper.mk (some 25) (Op.load _ _) _ _ _ _ :: _) _ _)); refine wpList_loadA_st (o := ⟨some 25, .load _ _, _, _, _, _⟩) rfl _ _ rfl rfl HS tk ag_impl_Ring lit rfl ?_)
        | ((with_reducible (show wpList _ _ _ (Oper.mk (some 29) (Op.load _ _) _ _ _ _ :: _) _ _)); refine wpList_loadA_st (o := ⟨some 29, .load _ _, _, _, _, _⟩) rfl _ _ rfl rfl HS tk ag_impl_Pool lit rfl ?_))
  go_loopw [16] (fun nv wr => ∃ (k : Nat) (rem : List Int) (cur : Pg) (t1 : Int) (A : Option Addr) (c : Nat) (A2 : Option Addr) (c2 : Nat), Hid (fr.drop k = rem) ∧ k + rem.length = fr.length ∧ Hid (O = fillG l d b s h pb pz rem cur t1 k) ∧ Hid (cur.length = ps.length) ∧ nv = .int .i64 (k : Int) ∧ St w wr [rowA b14 [.slice A cur.length c] 27, ownA cur [.slice A cur.length c], rowA b8 [.int .i64 b, .int .i64 s, .int .i64 h, .int .i64 t1] 29, rowA b15 [.int .i64 pb, .int .i64 pz, .int .i64 pc, .slice A2 rem.length c2] 95, ownA rem [.slice A2 rem.length c2], rowA b6 [.slice BB ps.length cap2] 27, rowA b9 [.int .i64 pb, .int .i64 pz, .int .i64 pc, .slice CC fr.length cap3] 95, rowA b10 [.slice none 0 0] 27, rowA b11 [.int .i64 0, .int .i64 0, .int .i64 0, .int .i64 0] 29, rowA b12 [.int .i64 0, .int .i64 0, .int .i64 0, .slice none 0 0] 95]) (fun nv _ => fr.length - (intOf nv).toNat)
  case atStart => exact ⟨0, fr, ps, t, A1, c1, A2, c2, hid rfl, by omega, HO0, hid rfl, rfl, (HS.arr (by repeat (first | exact Arr.nil | (with_reducible exact take_all _) | (refine Arr.cons tk ?_) | (refine arr_skip ?_))))⟩
  case round =>
    clear HS HO0
    obtain ⟨k, rem, cur, t1, A, c, A2, c2, HDR, hkl, HOO, HCL, rfl, HS⟩ := hrel
    have hcl2 : cur.length ≤ 1099511627776 := by have := HCL.out; omega
    obtain ⟨fv, hfv⟩ : ∃ v, freeF b s h t1 = v := ⟨_, rfl⟩
    have HF := hid hfv
    have hfn := freeF_nn b s h t1
    rw [hfv] at hfn
    by_cases hz : fv = 0
    case pos =>
      subst hz
      have HD : Hid (O = (cur, t1, k)) := hid (by rw [HOO.out, fillG_full hfv])
      have hr2 := HR.out
      rw [HD.out] at hr2
      simp only [Prod.mk.injEq] at hr2
      obtain ⟨e1, e2, e3, e4⟩ := hr2
      replace e1 := e1.symm
      subst e1
      replace e2 := e2.symm
      subst e2
      replace e4 := e4.symm
      subst e4
      subst e3
      clear HOO HR hfv
      go_wp2_with (first
            | (go_at_call 95; (with_reducible refine (ringFreeS_any b s h t1 _).mono ?_); rintro e w' ⟨rfl, hx⟩; rw [HF.out]; replace HS := HS.grow hx; clear hx)
            | ((with_reducible (show wpList _ _ _ (Oper.mk (some 36) (Op.load _ _) _ _ _ _ :: _) _ _)); refine wpList_loadA_st (o := ⟨some 36, .load _ _, _, _, _, _⟩) rfl _ _ rfl rfl HS tk ag_impl_Ring lit rfl ?_))
      refine wp_region_plan_st (HS.arr (show Arr _ [rowA b14 _ _, rowA b8 _ _, rowA b15 _ _] from ary)) (.early 0 (.early 1 (.early 2 (.early 3 (.forced 4 1 (.forced 5 1 (.forced 6 1 (.forced 7 2 .done)))))))) (by kernel_rfl) (by as_aux_lemma => kernel_rfl) ?_
      intro hne
      replace HS := HS.drew
      try go_simp
      repeat' (first
        | (with_reducible refine wpPlan_forced ?_)
        | ((with_reducible ((show wpPlan _ _ _ _ (.early 0 _) _ _))); (first | (refine wpPlan_skipE rfl rfl ?_; (try go_simp)) | (refine wpPlan_early rfl rfl ?_; intro K hK; (first | ((refine quiet_loadA_st  _ _ rfl rfl tk ag_impl_Memory lit rfl ?_); (try go_simp)) | go_big_quiet_op); (first | go_big_quiet_on | (refine ⟨_, fun _ => rfl, ?_⟩; go_big_quiet_on)))))
        | ((with_reducible ((show wpPlan _ _ _ _ (.early 1 _) _ _))); (first | (refine wpPlan_skipE rfl rfl ?_; (try go_simp)) | (refine wpPlan_early rfl rfl ?_; intro K hK; (first | ((refine quiet_loadA_st  _ _ rfl rfl tk ag_impl_Ring lit rfl ?_); (try go_simp)) | go_big_quiet_op); (first | go_big_quiet_on | (refine ⟨_, fun _ => rfl, ?_⟩; go_big_quiet_on)))))
        | ((with_reducible ((show wpPlan _ _ _ _ (.early 2 _) _ _))); (first | (refine wpPlan_skipE rfl rfl ?_; (try go_simp)) | (refine wpPlan_early rfl rfl ?_; intro K hK; (first | ((refine quiet_loadA_st  _ _ rfl rfl tk ag_impl_Pool lit rfl ?_); (try go_simp)) | go_big_quiet_op); (first | go_big_quiet_on | (refine ⟨_, fun _ => rfl, ?_⟩; go_big_quiet_on)))))
        | ((with_reducible ((show wpPlan _ _ _ _ (.early 3 _) _ _))); (first | (refine wpPlan_skipE rfl rfl ?_; (try go_simp)) | (refine wpPlan_early rfl rfl ?_; intro K hK; (first | go_big_quiet_op); (first | go_big_quiet_on | (refine ⟨_, fun _ => rfl, ?_⟩; go_big_quiet_on)))))
        | ((with_reducible ((show wpOne _ _ _ _ 4 1 _ _ _))); (first | (refine wpOne_skip rfl rfl ?_; (try go_simp)) | (refine wpOne_1 rfl rfl ?_; intro K hK; (first | (refine wp_store_st  _ _ _ rfl rfl (v := .agg (List.toArray _)) rfl HS tk sz_impl_Memory vcs rfx rfx (by simp) ?_ rfl; clear HS; intro w14_4 hz14_4 HS; simp only [nicL, Value.cells, List.append_nil] at HS) | (refine wp_store_st  _ _ _ rfl rfl (v := .agg _) rfl HS tk sz_impl_Memory vcs rfx rfx (by simp) ?_ rfl; clear HS; intro w14_4 hz14_4 HS; simp only [nicL, Value.cells, List.append_nil] at HS)); (try go_simp); refine hK _ _ ?_ ?_; (focus (exact stw HS)); clear hK K)))
        | ((with_reducible ((show wpOne _ _ _ _ 5 1 _ _ _))); (first | (refine wpOne_skip rfl rfl ?_; (try go_simp)) | (refine wpOne_1 rfl rfl ?_; intro K hK; (first | (refine wp_store_st  _ _ _ rfl rfl (v := .agg (List.toArray _)) rfl HS tk sz_impl_Ring vcs rfx rfx (by simp) ?_ rfl; clear HS; intro w14_5 hz14_5 HS; simp only [nicL, Value.cells, List.append_nil] at HS) | (refine wp_store_st  _ _ _ rfl rfl (v := .agg _) rfl HS tk sz_impl_Ring vcs rfx rfx (by simp) ?_ rfl; clear HS; intro w14_5 hz14_5 HS; simp only [nicL, Value.cells, List.append_nil] at HS)); (try go_simp); refine hK _ _ ?_ ?_; (focus (exact stw HS)); clear hK K)))
        | ((with_reducible ((show wpOne _ _ _ _ 6 1 _ _ _))); (first | (refine wpOne_skip rfl rfl ?_; (try go_simp)) | (refine wpOne_1 rfl rfl ?_; intro K hK; (first | (refine wp_store_st  _ _ _ rfl rfl (v := .agg (List.toArray _)) rfl HS tk sz_impl_Pool vcs rfx rfx (by simp) ?_ rfl; clear HS; intro w14_6 hz14_6 HS; simp only [nicL, Value.cells, List.append_nil] at HS) | (refine wp_store_st  _ _ _ rfl rfl (v := .agg _) rfl HS tk sz_impl_Pool vcs rfx rfx (by simp) ?_ rfl; clear HS; intro w14_6 hz14_6 HS; simp only [nicL, Value.cells, List.append_nil] at HS)); (try go_simp); refine hK _ _ ?_ ?_; (focus (exact stw HS)); clear hK K)))
        | ((with_reducible ((show wpOne _ _ _ _ 7 2 _ _ _))); (first | (refine wpOne_skip rfl rfl ?_; (try go_simp)) | (refine wpOne_2 rfl rfl ?_; intro K hK; go_simp; refine hK _ _ ?_; clear hK K)))
        | (with_reducible refine wpPlan_done ?_))
      all_goals
        go_wp2
        refine bodyPost_rets rfx (RVs.cell rfx HS tk ag_impl_Memory rfx (RVs.cell rfx HS tk ag_impl_Ring rfx (RVs.cell rfx HS tk ag_impl_Pool rfx (RVs.tmp rfx RVs.nil)))) (by simp) rfx ?_
        rw [HDR.out]
        exact retFill HS tk tk
    case neg =>
    have hz1 : 0 < fv := by omega
    clear hfv hz
    cases rem with
    | nil =>
      simp only [List.length_nil] at HS
      have HD : Hid (O = (cur, t1, k)) := hid (by rw [HOO.out, fillG])
      have hr2 := HR.out
      rw [HD.out] at hr2
      simp only [Prod.mk.injEq] at hr2
      obtain ⟨e1, e2, e3, e4⟩ := hr2
      replace e1 := e1.symm
      subst e1
      replace e2 := e2.symm
      subst e2
      replace e4 := e4.symm
      subst e4
      subst e3
      clear HOO HR
      go_wp2_with (first
            | (go_at_call 95; (with_reducible refine (ringFreeS_any b s h t1 _).mono ?_); rintro e w' ⟨rfl, hx⟩; rw [HF.out]; replace HS := HS.grow hx; clear hx)
            | ((with_reducible (show wpList _ _ _ (Oper.mk (some 36) (Op.load _ _) _ _ _ _ :: _) _ _)); refine wpList_loadA_st (o := ⟨some 36, .load _ _, _, _, _, _⟩) rfl _ _ rfl rfl HS tk ag_impl_Ring lit rfl ?_)
            | ((with_reducible (show wpList _ _ _ (Oper.mk (some 41) (Op.load _ _) _ _ _ _ :: _) _ _)); refine wpList_loadS_st (o := ⟨some 41, .load _ _, _, _, _, _⟩) rfl _ _ rfl rfl HS tk sc_Sint rfx ?_))
      refine wp_region_plan_st (HS.arr (show Arr _ [rowA b14 _ _, rowA b8 _ _, rowA b15 _ _] from ary)) (.early 0 (.early 1 (.early 2 (.early 3 (.forced 4 1 (.forced 5 1 (.forced 6 1 (.forced 7 2 .done)))))))) (by kernel_rfl) (by as_aux_lemma => kernel_rfl) ?_
      intro hne
      replace HS := HS.drew
      try go_simp
      repeat' (first
        | (with_reducible refine wpPlan_forced ?_)
        | ((with_reducible ((show wpPlan _ _ _ _ (.early 0 _) _ _))); (first | (refine wpPlan_skipE rfl rfl ?_; (try go_simp)) | (refine wpPlan_early rfl rfl ?_; intro K hK; (first | ((refine quiet_loadA_st  _ _ rfl rfl tk ag_impl_Memory lit rfl ?_); (try go_simp)) | go_big_quiet_op); (first | go_big_quiet_on | (refine ⟨_, fun _ => rfl, ?_⟩; go_big_quiet_on)))))
        | ((with_reducible ((show wpPlan _ _ _ _ (.early 1 _) _ _))); (first | (refine wpPlan_skipE rfl rfl ?_; (try go_simp)) | (refine wpPlan_early rfl rfl ?_; intro K hK; (first | ((refine quiet_loadA_st  _ _ rfl rfl tk ag_impl_Ring lit rfl ?_); (try go_simp)) | go_big_quiet_op); (first | go_big_quiet_on | (refine ⟨_, fun _ => rfl, ?_⟩; go_big_quiet_on)))))
        | ((with_reducible ((show wpPlan _ _ _ _ (.early 2 _) _ _))); (first | (refine wpPlan_skipE rfl rfl ?_; (try go_simp)) | (refine wpPlan_early rfl rfl ?_; intro K hK; (first | ((refine quiet_loadA_st  _ _ rfl rfl tk ag_impl_Pool lit rfl ?_); (try go_simp)) | go_big_quiet_op); (first | go_big_quiet_on | (refine ⟨_, fun _ => rfl, ?_⟩; go_big_quiet_on)))))
        | ((with_reducible ((show wpPlan _ _ _ _ (.early 3 _) _ _))); (first | (refine wpPlan_skipE rfl rfl ?_; (try go_simp)) | (refine wpPlan_early rfl rfl ?_; intro K hK; (first | go_big_quiet_op); (first | go_big_quiet_on | (refine ⟨_, fun _ => rfl, ?_⟩; go_big_quiet_on)))))
        | ((with_reducible ((show wpOne _ _ _ _ 4 1 _ _ _))); (first | (refine wpOne_skip rfl rfl ?_; (try go_simp)) | (refine wpOne_1 rfl rfl ?_; intro K hK; (first | (refine wp_store_st  _ _ _ rfl rfl (v := .agg (List.toArray _)) rfl HS tk sz_impl_Memory vcs rfx rfx (by simp) ?_ rfl; clear HS; intro w14_4 hz14_4 HS; simp only [nicL, Value.cells, List.append_nil] at HS) | (refine wp_store_st  _ _ _ rfl rfl (v := .agg _) rfl HS tk sz_impl_Memory vcs rfx rfx (by simp) ?_ rfl; clear HS; intro w14_4 hz14_4 HS; simp only [nicL, Value.cells, List.append_nil] at HS)); (try go_simp); refine hK _ _ ?_ ?_; (focus (exact stw HS)); clear hK K)))
        | ((with_reducible ((show wpOne _ _ _ _ 5 1 _ _ _))); (first | (refine wpOne_skip rfl rfl ?_; (try go_simp)) | (refine wpOne_1 rfl rfl ?_; intro K hK; (first | (refine wp_store_st  _ _ _ rfl rfl (v := .agg (List.toArray _)) rfl HS tk sz_impl_Ring vcs rfx rfx (by simp) ?_ rfl; clear HS; intro w14_5 hz14_5 HS; simp only [nicL, Value.cells, List.append_nil] at HS) | (refine wp_store_st  _ _ _ rfl rfl (v := .agg _) rfl HS tk sz_impl_Ring vcs rfx rfx (by simp) ?_ rfl; clear HS; intro w14_5 hz14_5 HS; simp only [nicL, Value.cells, List.append_nil] at HS)); (try go_simp); refine hK _ _ ?_ ?_; (focus (exact stw HS)); clear hK K)))
        | ((with_reducible ((show wpOne _ _ _ _ 6 1 _ _ _))); (first | (refine wpOne_skip rfl rfl ?_; (try go_simp)) | (refine wpOne_1 rfl rfl ?_; intro K hK; (first | (refine wp_store_st  _ _ _ rfl rfl (v := .agg (List.toArray _)) rfl HS tk sz_impl_Pool vcs rfx rfx (by simp) ?_ rfl; clear HS; intro w14_6 hz14_6 HS; simp only [nicL, Value.cells, List.append_nil] at HS) | (refine wp_store_st  _ _ _ rfl rfl (v := .agg _) rfl HS tk sz_impl_Pool vcs rfx rfx (by simp) ?_ rfl; clear HS; intro w14_6 hz14_6 HS; simp only [nicL, Value.cells, List.append_nil] at HS)); (try go_simp); refine hK _ _ ?_ ?_; (focus (exact stw HS)); clear hK K)))
        | ((with_reducible ((show wpOne _ _ _ _ 7 2 _ _ _))); (first | (refine wpOne_skip rfl rfl ?_; (try go_simp)) | (refine wpOne_2 rfl rfl ?_; intro K hK; go_simp; refine hK _ _ ?_; clear hK K)))
        | (with_reducible refine wpPlan_done ?_))
      all_goals
        go_wp2
        refine bodyPost_rets rfx (RVs.cell rfx HS tk ag_impl_Memory rfx (RVs.cell rfx HS tk ag_impl_Ring rfx (RVs.cell rfx HS tk ag_impl_Pool rfx (RVs.tmp rfx RVs.nil)))) (by simp) rfx ?_
        rw [HDR.out]
        exact retFill HS tk tk
    | cons x rem =>
      simp only [List.length_cons] at HS hkl
      have hmem : x ∈ fr := List.mem_of_mem_drop (by rw [HDR.out]; exact List.mem_cons_self ..)
      have HX0 : Hid ((x :: rem)[0]? = some x) := hid rfl
      obtain ⟨bb, off, cc, hv, -, -⟩ := ownA.addr HS (show Take _ (ownA (x :: rem) [.slice A2 _ _]) _ from tk) (by simp)
      simp only [Value.slice.injEq] at hv
      obtain ⟨rfl, -, rfl⟩ := hv
      have HFO : Hid (∀ y ∈ rem, Flat.ok y) := hid (fun y hy => (HS.holds (show Take _ (ownA (x :: rem) _) _ from tk)).flok (List.mem_cons_of_mem _ hy))
      have hx := HFR.out x (by exact hmem)
      obtain ⟨hx0, hx1⟩ := hx
      have HE : Hid ((encDF 3 0 pz (pb + x * pz) 0 x).size ≤ 9223372036854775807) := hid (encDF_le _ _ _ _ _ _)
      obtain ⟨⟨qs', t2', ok⟩, hT⟩ : ∃ r, r = rputF l cur d b s h t1 (encDF 3 0 pz (pb + x * pz) 0 x) := ⟨_, rfl⟩
      have HT := hid hT
      have HLN : Hid (qs'.length = ps.length) := hid ((rputF_len hT).trans HCL.out)
      cases ok
      case false =>
        have HD : Hid (O = (cur, t1, k)) := hid (by rw [HOO.out, fillG, ← hT])
        have hr2 := HR.out
        rw [HD.out] at hr2
        simp only [Prod.mk.injEq] at hr2
        obtain ⟨e1, e2, e3, e4⟩ := hr2
        replace e1 := e1.symm
        subst e1
        replace e2 := e2.symm
        subst e2
        replace e4 := e4.symm
        subst e4
        subst e3
        clear HOO HR hT hmem
        go_wp2_with (first
              | (go_at_call 95; (with_reducible refine (ringFreeS_any b s h t1 _).mono ?_); rintro e w' ⟨rfl, hx⟩; rw [HF.out]; replace HS := HS.grow hx; clear hx)
              | ((with_reducible (show wpList _ _ _ (Oper.mk (some 36) (Op.load _ _) _ _ _ _ :: _) _ _)); refine wpList_loadA_st (o := ⟨some 36, .load _ _, _, _, _, _⟩) rfl _ _ rfl rfl HS tk ag_impl_Ring lit rfl ?_)
              | ((with_reducible (show wpList _ _ _ (Oper.mk (some 41) (Op.load _ _) _ _ _ _ :: _) _ _)); refine wpList_loadS_st (o := ⟨some 41, .load _ _, _, _, _, _⟩) rfl _ _ rfl rfl HS tk sc_Sint rfx ?_)
              | ((with_reducible (show wpList _ _ _ (Oper.mk (some 46) (Op.load _ _) _ _ _ _ :: _) _ _)); refine wpList_loadS_st (o := ⟨some 46, .load _ _, _, _, _, _⟩) rfl _ _ rfl rfl HS tk sc_Sint rfx ?_)
              | ((with_reducible (show wpList _ _ _ (Oper.mk (some 48) (Op.load _ _) _ _ _ _ :: _) _ _)); refine wpList_loadC_st (o := ⟨some 48, .load _ _, _, _, _, _⟩) rfl _ _ rfl rfl HS sc_int (by first | exact St.cellI0 tk (HX0.out)) ?_))
        refine wp_region_fl HS (show Arr _ [rowA b14 _ _, rowA b8 _ _, rowA b9 _ _] from ary) (.early 0 (.early 1 (.early 2 (.early 3 (.early 4 (.early 5 (.early 6 (.early 7 (.early 9 (.forced 8 1 (.forced 10 1 (.forced 11 1 (.forced 12 1 (.pure 13 (.pure 14 (.pure 15 (.pure 16 (.land 17 (.land 18 (.forced 19 2 (.forced 20 2 (.pure 21 .done)))))))))))))))))))))) [17, 18] (by kernel_rfl) (by as_aux_lemma => kernel_rfl) ?_
        intro hne
        clear HS
        try go_simp
        repeat' (first
          | (with_reducible refine wpF_forced ?_)
          | ((with_reducible (first | (show wpF _ _ _ _ _ (.early 0 _) _ _) | (show wpF _ _ _ _ _ (.early 2 _) _ _) | (show wpF _ _ _ _ _ (.early 4 _) _ _) | (show wpF _ _ _ _ _ (.early 7 _) _ _) | (show wpF _ _ _ _ _ (.early 9 _) _ _))); (first | (refine wpF_skipE rfl rfl ?_; (try go_simp)) | (refine wpF_early rfl rfl ?_; intro K hK; (first | go_big_quiet_op); (first | go_big_quiet_on | (refine ⟨_, fun _ => rfl, ?_⟩; go_big_quiet_on)))))
          | ((with_reducible ((show wpF _ _ _ _ _ (.early 1 _) _ _))); (first | (refine wpF_skipE rfl rfl ?_; (try go_simp)) | (refine wpF_early rfl rfl ?_; intro K hK; (first | ((refine quiet_loadA_st  _ _ rfl rfl tk ag_impl_Memory lit rfl ?_); (try go_simp)) | go_big_quiet_op); (first | go_big_quiet_on | (refine ⟨_, fun _ => rfl, ?_⟩; go_big_quiet_on)))))
          | ((with_reducible ((show wpF _ _ _ _ _ (.early 3 _) _ _))); (first | (refine wpF_skipE rfl rfl ?_; (try go_simp)) | (refine wpF_early rfl rfl ?_; intro K hK; (first | ((refine quiet_loadA_st  _ _ rfl rfl tk ag_impl_Ring lit rfl ?_); (try go_simp)) | go_big_quiet_op); (first | go_big_quiet_on | (refine ⟨_, fun _ => rfl, ?_⟩; go_big_quiet_on)))))
          | ((with_reducible ((show wpF _ _ _ _ _ (.early 5 _) _ _))); (first | (refine wpF_skipE rfl rfl ?_; (try go_simp)) | (refine wpF_early rfl rfl ?_; intro K hK; (first | ((refine quiet_loadS_st  _ _ rfl rfl tk sc_int rfx ?_); (try go_simp)) | go_big_quiet_op); (first | go_big_quiet_on | (refine ⟨_, fun _ => rfl, ?_⟩; go_big_quiet_on)))))
          | ((with_reducible ((show wpF _ _ _ _ _ (.early 6 _) _ _))); (first | (refine wpF_skipE rfl rfl ?_; (try go_simp)) | (refine wpF_early rfl rfl ?_; intro K hK; (first | ((refine quiet_loadA_st  _ _ rfl rfl tk ag_impl_Pool lit rfl ?_); (try go_simp)) | go_big_quiet_op); (first | go_big_quiet_on | (refine ⟨_, fun _ => rfl, ?_⟩; go_big_quiet_on)))))
          | ((with_reducible ((show OneF _ _ _ _ _ 8 1 _ _ _))); (first | (refine oneF_skip rfl rfl ?_; (try go_simp)) | (refine oneF_1 rfl rfl ?_; intro wq Fq HS K hK; go_simp; (first | (go_at_call 98; (with_reducible refine (bufAddrS_any _ fr pb pz pc x _ (k3.ex HS.ex) HP.out (by omega) (by omega)).mono ?_); rintro e w' ⟨rfl, hx⟩; replace HS := HS.grow hx; clear hx)); (try go_simp); refine hK _ _ _ ?_ (HS.take tk) ?_; (focus (exact stw HS)); clear HS hK K)))
          | ((with_reducible ((show OneF _ _ _ _ _ 10 1 _ _ _))); (first | (refine oneF_skip rfl rfl ?_; (try go_simp)) | (refine oneF_1 rfl rfl ?_; intro wq Fq HS K hK; go_simp; refine hK _ _ _ ?_ (HS.take tk) ?_; (focus (exact stw HS)); clear HS hK K)))
          | ((with_reducible ((show OneF _ _ _ _ _ 11 1 _ _ _))); (first | (refine oneF_skip rfl rfl ?_; (try go_simp)) | (refine oneF_1 rfl rfl ?_; intro wq Fq HS K hK; go_simp; (first | (go_at_call 97; (with_reducible refine (encodeDescS_any 3 0 pz (pb + x * pz) 0 x _).mono ?_); rintro e w' ⟨rfl, hx⟩; replace HS := HS.grow hx; clear hx)); (try go_simp); refine hK _ _ _ ?_ (HS.take tk) ?_; (focus (exact stw HS)); clear HS hK K)))
          | ((with_reducible ((show OneF _ _ _ _ _ 12 1 _ _ _))); (first | (refine oneF_skip rfl rfl ?_; (try go_simp)) | (refine oneF_1 rfl rfl ?_; intro wq Fq HS K hK; go_simp; (first | (go_at_call 96; (with_reducible refine (ringPutS_any _ _ l cur d b s h t1 _ _ (k1.ex HS.ex) (HS.holds tk) (by omega) hd.out HE.out HT.out).mono ?_); rintro e w' ⟨A62, c62, rfl, ho, hx⟩; replace HS := HS.own ho hx; clear ho hx)); (try go_simp); refine hK _ _ _ ?_ (HS.take tk) ?_; (focus (exact stw HS)); clear HS hK K)))
          | ((with_reducible ((show wpF _ _ _ _ _ (.pure _ _) _ _))); (first | (refine wpF_skipP rfl rfl ?_; (try go_simp)) | (refine wpF_pure rfl rfl ?_; intro K hK; go_big_quiet_op; (first | go_big_quiet_on | (refine ⟨_, fun _ => rfl, ?_⟩; go_big_quiet_on)))))
          | ((with_reducible ((show wpF _ _ _ _ _ (.land 17 _) _ _))); (refine wpF_land rfl rfl zc_impl_Memory ?_; intro b18; (try go_simp)))
          | ((with_reducible ((show wpF _ _ _ _ _ (.land 18 _) _ _))); (refine wpF_land rfl rfl zc_impl_Ring ?_; intro b19; (try go_simp)))
          | ((with_reducible ((show OneF _ _ _ _ _ 19 2 _ _ _))); (first | (refine oneF_skip rfl rfl ?_; (try go_simp)) | (refine oneF_2 rfl rfl ?_; intro wq Fq HS K hK; (first | (refine wp_store_st  _ _ _ rfl rfl (v := .agg (List.toArray _)) rfl HS tk sz_impl_Memory vcs rfx rfx (by simp) ?_ rfl; clear HS; intro w8_19 hz8_19 HS; simp only [nicL, Value.cells, List.append_nil] at HS) | (refine wp_store_st  _ _ _ rfl rfl (v := .agg _) rfl HS tk sz_impl_Memory vcs rfx rfx (by simp) ?_ rfl; clear HS; intro w8_19 hz8_19 HS; simp only [nicL, Value.cells, List.append_nil] at HS)); (try go_simp); refine hK _ _ _ (HS.take tk) ?_; clear HS hK K)))
          | ((with_reducible ((show OneF _ _ _ _ _ 20 2 _ _ _))); (first | (refine oneF_skip rfl rfl ?_; (try go_simp)) | (refine oneF_2 rfl rfl ?_; intro wq Fq HS K hK; (first | (refine wp_store_st  _ _ _ rfl rfl (v := .agg (List.toArray _)) rfl HS tk sz_impl_Ring vcs rfx rfx (by simp) ?_ rfl; clear HS; intro w8_20 hz8_20 HS; simp only [nicL, Value.cells, List.append_nil] at HS) | (refine wp_store_st  _ _ _ rfl rfl (v := .agg _) rfl HS tk sz_impl_Ring vcs rfx rfx (by simp) ?_ rfl; clear HS; intro w8_20 hz8_20 HS; simp only [nicL, Value.cells, List.append_nil] at HS)); (try go_simp); refine hK _ _ _ (HS.take tk) ?_; clear HS hK K)))
          | (with_reducible refine wpF_done ?_))
        intro w9 HS
        go_wp2
        refine wp_region_plan_st (HS.arr (show Arr _ [rowA b14 _ _, rowA b8 _ _, rowA b15 _ _] from ary)) (.early 0 (.early 1 (.early 2 (.early 3 (.forced 4 1 (.forced 5 1 (.forced 6 1 (.forced 7 2 .done)))))))) (by kernel_rfl) (by as_aux_lemma => kernel_rfl) ?_
        intro hne
        replace HS := HS.drew
        try go_simp
        repeat' (first
          | (with_reducible refine wpPlan_forced ?_)
          | ((with_reducible ((show wpPlan _ _ _ _ (.early 0 _) _ _))); (first | (refine wpPlan_skipE rfl rfl ?_; (try go_simp)) | (refine wpPlan_early rfl rfl ?_; intro K hK; (first | ((refine quiet_loadA_st  _ _ rfl rfl tk ag_impl_Memory lit rfl ?_); (try go_simp)) | go_big_quiet_op); (first | go_big_quiet_on | (refine ⟨_, fun _ => rfl, ?_⟩; go_big_quiet_on)))))
          | ((with_reducible ((show wpPlan _ _ _ _ (.early 1 _) _ _))); (first | (refine wpPlan_skipE rfl rfl ?_; (try go_simp)) | (refine wpPlan_early rfl rfl ?_; intro K hK; (first | ((refine quiet_loadA_st  _ _ rfl rfl tk ag_impl_Ring lit rfl ?_); (try go_simp)) | go_big_quiet_op); (first | go_big_quiet_on | (refine ⟨_, fun _ => rfl, ?_⟩; go_big_quiet_on)))))
          | ((with_reducible ((show wpPlan _ _ _ _ (.early 2 _) _ _))); (first | (refine wpPlan_skipE rfl rfl ?_; (try go_simp)) | (refine wpPlan_early rfl rfl ?_; intro K hK; (first | ((refine quiet_loadA_st  _ _ rfl rfl tk ag_impl_Pool lit rfl ?_); (try go_simp)) | go_big_quiet_op); (first | go_big_quiet_on | (refine ⟨_, fun _ => rfl, ?_⟩; go_big_quiet_on)))))
          | ((with_reducible ((show wpPlan _ _ _ _ (.early 3 _) _ _))); (first | (refine wpPlan_skipE rfl rfl ?_; (try go_simp)) | (refine wpPlan_early rfl rfl ?_; intro K hK; (first | go_big_quiet_op); (first | go_big_quiet_on | (refine ⟨_, fun _ => rfl, ?_⟩; go_big_quiet_on)))))
          | ((with_reducible ((show wpOne _ _ _ _ 4 1 _ _ _))); (first | (refine wpOne_skip rfl rfl ?_; (try go_simp)) | (refine wpOne_1 rfl rfl ?_; intro K hK; (first | (refine wp_store_st  _ _ _ rfl rfl (v := .agg (List.toArray _)) rfl HS tk sz_impl_Memory vcs rfx rfx (by simp) ?_ rfl; clear HS; intro w14_4 hz14_4 HS; simp only [nicL, Value.cells, List.append_nil] at HS) | (refine wp_store_st  _ _ _ rfl rfl (v := .agg _) rfl HS tk sz_impl_Memory vcs rfx rfx (by simp) ?_ rfl; clear HS; intro w14_4 hz14_4 HS; simp only [nicL, Value.cells, List.append_nil] at HS)); (try go_simp); refine hK _ _ ?_ ?_; (focus (exact stw HS)); clear hK K)))
          | ((with_reducible ((show wpOne _ _ _ _ 5 1 _ _ _))); (first | (refine wpOne_skip rfl rfl ?_; (try go_simp)) | (refine wpOne_1 rfl rfl ?_; intro K hK; (first | (refine wp_store_st  _ _ _ rfl rfl (v := .agg (List.toArray _)) rfl HS tk sz_impl_Ring vcs rfx rfx (by simp) ?_ rfl; clear HS; intro w14_5 hz14_5 HS; simp only [nicL, Value.cells, List.append_nil] at HS) | (refine wp_store_st  _ _ _ rfl rfl (v := .agg _) rfl HS tk sz_impl_Ring vcs rfx rfx (by simp) ?_ rfl; clear HS; intro w14_5 hz14_5 HS; simp only [nicL, Value.cells, List.append_nil] at HS)); (try go_simp); refine hK _ _ ?_ ?_; (focus (exact stw HS)); clear hK K)))
          | ((with_reducible ((show wpOne _ _ _ _ 6 1 _ _ _))); (first | (refine wpOne_skip rfl rfl ?_; (try go_simp)) | (refine wpOne_1 rfl rfl ?_; intro K hK; (first | (refine wp_store_st  _ _ _ rfl rfl (v := .agg (List.toArray _)) rfl HS tk sz_impl_Pool vcs rfx rfx (by simp) ?_ rfl; clear HS; intro w14_6 hz14_6 HS; simp only [nicL, Value.cells, List.append_nil] at HS) | (refine wp_store_st  _ _ _ rfl rfl (v := .agg _) rfl HS tk sz_impl_Pool vcs rfx rfx (by simp) ?_ rfl; clear HS; intro w14_6 hz14_6 HS; simp only [nicL, Value.cells, List.append_nil] at HS)); (try go_simp); refine hK _ _ ?_ ?_; (focus (exact stw HS)); clear hK K)))
          | ((with_reducible ((show wpOne _ _ _ _ 7 2 _ _ _))); (first | (refine wpOne_skip rfl rfl ?_; (try go_simp)) | (refine wpOne_2 rfl rfl ?_; intro K hK; go_simp; refine hK _ _ ?_; clear hK K)))
          | (with_reducible refine wpPlan_done ?_))
        all_goals
          go_wp2
          refine bodyPost_rets rfx (RVs.cell rfx HS tk ag_impl_Memory rfx (RVs.cell rfx HS tk ag_impl_Ring rfx (RVs.cell rfx HS tk ag_impl_Pool rfx (RVs.tmp rfx RVs.nil)))) (by simp) rfx ?_
          rw [HDR.out]
          exact retFill HS tk tk
      case true =>
        have HOO2 : Hid (O = fillG l d b s h pb pz rem qs' t2' (k + 1)) := hid (by rw [HOO.out, fillG, ← hT])
        have HDR2 : Hid (fr.drop (k + 1) = rem) := hid (by rw [← List.drop_drop, HDR.out]; rfl)
        clear HOO hT hmem
        go_wp2_with (first
              | (go_at_call 95; (with_reducible refine (ringFreeS_any b s h t1 _).mono ?_); rintro e w' ⟨rfl, hx⟩; rw [HF.out]; replace HS := HS.grow hx; clear hx)
              | ((with_reducible (show wpList _ _ _ (Oper.mk (some 36) (Op.load _ _) _ _ _ _ :: _) _ _)); refine wpList_loadA_st (o := ⟨some 36, .load _ _, _, _, _, _⟩) rfl _ _ rfl rfl HS tk ag_impl_Ring lit rfl ?_)
              | ((with_reducible (show wpList _ _ _ (Oper.mk (some 41) (Op.load _ _) _ _ _ _ :: _) _ _)); refine wpList_loadS_st (o := ⟨some 41, .load _ _, _, _, _, _⟩) rfl _ _ rfl rfl HS tk sc_Sint rfx ?_)
              | ((with_reducible (show wpList _ _ _ (Oper.mk (some 46) (Op.load _ _) _ _ _ _ :: _) _ _)); refine wpList_loadS_st (o := ⟨some 46, .load _ _, _, _, _, _⟩) rfl _ _ rfl rfl HS tk sc_Sint rfx ?_)
              | ((with_reducible (show wpList _ _ _ (Oper.mk (some 48) (Op.load _ _) _ _ _ _ :: _) _ _)); refine wpList_loadC_st (o := ⟨some 48, .load _ _, _, _, _, _⟩) rfl _ _ rfl rfl HS sc_int (by first | exact St.cellI0 tk (HX0.out)) ?_))
        refine wp_region_fl HS (show Arr _ [rowA b14 _ _, rowA b8 _ _, rowA b9 _ _] from ary) (.early 0 (.early 1 (.early 2 (.early 3 (.early 4 (.early 5 (.early 6 (.early 7 (.early 9 (.forced 8 1 (.forced 10 1 (.forced 11 1 (.forced 12 1 (.pure 13 (.pure 14 (.pure 15 (.pure 16 (.land 17 (.land 18 (.forced 19 2 (.forced 20 2 (.pure 21 .done)))))))))))))))))))))) [17, 18] (by kernel_rfl) (by as_aux_lemma => kernel_rfl) ?_
        intro hne
        clear HS
        try go_simp
        repeat' (first
          | (with_reducible refine wpF_forced ?_)
          | ((with_reducible (first | (show wpF _ _ _ _ _ (.early 0 _) _ _) | (show wpF _ _ _ _ _ (.early 2 _) _ _) | (show wpF _ _ _ _ _ (.early 4 _) _ _) | (show wpF _ _ _ _ _ (.early 7 _) _ _) | (show wpF _ _ _ _ _ (.early 9 _) _ _))); (first | (refine wpF_skipE rfl rfl ?_; (try go_simp)) | (refine wpF_early rfl rfl ?_; intro K hK; (first | go_big_quiet_op); (first | go_big_quiet_on | (refine ⟨_, fun _ => rfl, ?_⟩; go_big_quiet_on)))))
          | ((with_reducible ((show wpF _ _ _ _ _ (.early 1 _) _ _))); (first | (refine wpF_skipE rfl rfl ?_; (try go_simp)) | (refine wpF_early rfl rfl ?_; intro K hK; (first | ((refine quiet_loadA_st  _ _ rfl rfl tk ag_impl_Memory lit rfl ?_); (try go_simp)) | go_big_quiet_op); (first | go_big_quiet_on | (refine ⟨_, fun _ => rfl, ?_⟩; go_big_quiet_on)))))
          | ((with_reducible ((show wpF _ _ _ _ _ (.early 3 _) _ _))); (first | (refine wpF_skipE rfl rfl ?_; (try go_simp)) | (refine wpF_early rfl rfl ?_; intro K hK; (first | ((refine quiet_loadA_st  _ _ rfl rfl tk ag_impl_Ring lit rfl ?_); (try go_simp)) | go_big_quiet_op); (first | go_big_quiet_on | (refine ⟨_, fun _ => rfl, ?_⟩; go_big_quiet_on)))))
          | ((with_reducible ((show wpF _ _ _ _ _ (.early 5 _) _ _))); (first | (refine wpF_skipE rfl rfl ?_; (try go_simp)) | (refine wpF_early rfl rfl ?_; intro K hK; (first | ((refine quiet_loadS_st  _ _ rfl rfl tk sc_int rfx ?_); (try go_simp)) | go_big_quiet_op); (first | go_big_quiet_on | (refine ⟨_, fun _ => rfl, ?_⟩; go_big_quiet_on)))))
          | ((with_reducible ((show wpF _ _ _ _ _ (.early 6 _) _ _))); (first | (refine wpF_skipE rfl rfl ?_; (try go_simp)) | (refine wpF_early rfl rfl ?_; intro K hK; (first | ((refine quiet_loadA_st  _ _ rfl rfl tk ag_impl_Pool lit rfl ?_); (try go_simp)) | go_big_quiet_op); (first | go_big_quiet_on | (refine ⟨_, fun _ => rfl, ?_⟩; go_big_quiet_on)))))
          | ((with_reducible ((show OneF _ _ _ _ _ 8 1 _ _ _))); (first | (refine oneF_skip rfl rfl ?_; (try go_simp)) | (refine oneF_1 rfl rfl ?_; intro wq Fq HS K hK; go_simp; (first | (go_at_call 98; (with_reducible refine (bufAddrS_any _ fr pb pz pc x _ (k3.ex HS.ex) HP.out (by omega) (by omega)).mono ?_); rintro e w' ⟨rfl, hx⟩; replace HS := HS.grow hx; clear hx)); (try go_simp); refine hK _ _ _ ?_ (HS.take tk) ?_; (focus (exact stw HS)); clear HS hK K)))
          | ((with_reducible ((show OneF _ _ _ _ _ 10 1 _ _ _))); (first | (refine oneF_skip rfl rfl ?_; (try go_simp)) | (refine oneF_1 rfl rfl ?_; intro wq Fq HS K hK; go_simp; refine hK _ _ _ ?_ (HS.take tk) ?_; (focus (exact stw HS)); clear HS hK K)))
          | ((with_reducible ((show OneF _ _ _ _ _ 11 1 _ _ _))); (first | (refine oneF_skip rfl rfl ?_; (try go_simp)) | (refine oneF_1 rfl rfl ?_; intro wq Fq HS K hK; go_simp; (first | (go_at_call 97; (with_reducible refine (encodeDescS_any 3 0 pz (pb + x * pz) 0 x _).mono ?_); rintro e w' ⟨rfl, hx⟩; replace HS := HS.grow hx; clear hx)); (try go_simp); refine hK _ _ _ ?_ (HS.take tk) ?_; (focus (exact stw HS)); clear HS hK K)))
          | ((with_reducible ((show OneF _ _ _ _ _ 12 1 _ _ _))); (first | (refine oneF_skip rfl rfl ?_; (try go_simp)) | (refine oneF_1 rfl rfl ?_; intro wq Fq HS K hK; go_simp; (first | (go_at_call 96; (with_reducible refine (ringPutS_any _ _ l cur d b s h t1 _ _ (k1.ex HS.ex) (HS.holds tk) (by omega) hd.out HE.out HT.out).mono ?_); rintro e w' ⟨A62, c62, rfl, ho, hx⟩; replace HS := HS.own ho hx; clear ho hx)); (try go_simp); refine hK _ _ _ ?_ (HS.take tk) ?_; (focus (exact stw HS)); clear HS hK K)))
          | ((with_reducible ((show wpF _ _ _ _ _ (.pure _ _) _ _))); (first | (refine wpF_skipP rfl rfl ?_; (try go_simp)) | (refine wpF_pure rfl rfl ?_; intro K hK; go_big_quiet_op; (first | go_big_quiet_on | (refine ⟨_, fun _ => rfl, ?_⟩; go_big_quiet_on)))))
          | ((with_reducible ((show wpF _ _ _ _ _ (.land 17 _) _ _))); (refine wpF_land rfl rfl zc_impl_Memory ?_; intro b18; (try go_simp)))
          | ((with_reducible ((show wpF _ _ _ _ _ (.land 18 _) _ _))); (refine wpF_land rfl rfl zc_impl_Ring ?_; intro b19; (try go_simp)))
          | ((with_reducible ((show OneF _ _ _ _ _ 19 2 _ _ _))); (first | (refine oneF_skip rfl rfl ?_; (try go_simp)) | (refine oneF_2 rfl rfl ?_; intro wq Fq HS K hK; (first | (refine wp_store_st  _ _ _ rfl rfl (v := .agg (List.toArray _)) rfl HS tk sz_impl_Memory vcs rfx rfx (by simp) ?_ rfl; clear HS; intro w8_19 hz8_19 HS; simp only [nicL, Value.cells, List.append_nil] at HS) | (refine wp_store_st  _ _ _ rfl rfl (v := .agg _) rfl HS tk sz_impl_Memory vcs rfx rfx (by simp) ?_ rfl; clear HS; intro w8_19 hz8_19 HS; simp only [nicL, Value.cells, List.append_nil] at HS)); (try go_simp); refine hK _ _ _ (HS.take tk) ?_; clear HS hK K)))
          | ((with_reducible ((show OneF _ _ _ _ _ 20 2 _ _ _))); (first | (refine oneF_skip rfl rfl ?_; (try go_simp)) | (refine oneF_2 rfl rfl ?_; intro wq Fq HS K hK; (first | (refine wp_store_st  _ _ _ rfl rfl (v := .agg (List.toArray _)) rfl HS tk sz_impl_Ring vcs rfx rfx (by simp) ?_ rfl; clear HS; intro w8_20 hz8_20 HS; simp only [nicL, Value.cells, List.append_nil] at HS) | (refine wp_store_st  _ _ _ rfl rfl (v := .agg _) rfl HS tk sz_impl_Ring vcs rfx rfx (by simp) ?_ rfl; clear HS; intro w8_20 hz8_20 HS; simp only [nicL, Value.cells, List.append_nil] at HS)); (try go_simp); refine hK _ _ _ (HS.take tk) ?_; clear HS hK K)))
          | (with_reducible refine wpF_done ?_))
        intro w9 HS
        go_wp2_with (first
              | ((with_reducible (show wpList _ _ _ (Oper.mk none (Op.store _ (.tmp 14) _) _ _ _ _ :: _) _ _)); refine wpList_store_st (o := ⟨none, .store _ (.tmp 14) _, _, _, _, _⟩) rfl _ _ _ rfl rfl (v := .agg (List.toArray _)) rfl HS tk sz_impl_Memory vcs rfx rfx (by simp) ?_ rfl; clear HS; intro w1_3 hz1_3 HS; simp only [nicL, Value.cells, List.append_nil] at HS)
              | ((with_reducible (show wpList _ _ _ (Oper.mk (some 68) (Op.load _ _) _ _ _ _ :: _) _ _)); refine wpList_loadA_st (o := ⟨some 68, .load _ _, _, _, _, _⟩) rfl _ _ rfl rfl HS tk ag_impl_Memory lit rfl ?_)
              | ((with_reducible (show wpList _ _ _ (Oper.mk (some 69) (Op.load _ _) _ _ _ _ :: _) _ _)); refine wpList_loadA_st (o := ⟨some 69, .load _ _, _, _, _, _⟩) rfl _ _ rfl rfl HS tk ag_impl_Ring lit rfl ?_)
              | ((with_reducible (show wpList _ _ _ (Oper.mk none (Op.store _ (.tmp 8) _) _ _ _ _ :: _) _ _)); refine wpList_store_st (o := ⟨none, .store _ (.tmp 8) _, _, _, _, _⟩) rfl _ _ _ rfl rfl (v := .agg (List.toArray _)) rfl HS tk sz_impl_Ring vcs rfx rfx (by simp) ?_ rfl; clear HS; intro w11_1 hz11_1 HS; simp only [nicL, Value.cells, List.append_nil] at HS)
              | ((with_reducible (show wpList _ _ _ (Oper.mk (some 70) (Op.buildSlice _ _ _) _ _ _ _ :: _) _ _)); refine wpList_bslice0_st (o := ⟨some 70, .buildSlice _ _ _, _, _, _, _⟩) rfl _ rfl _ Try.underlying91 in_int HS ?_; clear HS; intro w70 b70 hb70 HS; replace HS := HS.slotMade 1 tk)
              | ((with_reducible (show wpList _ _ _ (Oper.mk (some 72) (Op.load _ _) _ _ _ _ :: _) _ _)); refine wpList_loadS_st (o := ⟨some 72, .load _ _, _, _, _, _⟩) rfl _ _ rfl rfl HS tk sc_Sint rfx ?_)
              | ((with_reducible (show wpList _ _ _ (Oper.mk (some 73) (Op.slice _ _ _ _ _) _ _ _ _ :: _) _ _)); refine wpList_pure (o := ⟨some 73, .slice _ _ _ _ _, _, _, _, _⟩) rfl (pure_cutLo (l := 1) _ _ _ rfl _ Try.underlying91 in_int rfl rfl (by omega)) ?_)
              | ((with_reducible (show wpList _ _ _ (Oper.mk (some 74) (Op.call { callee := .builtin .append, args := _, argTypes := _ }) _ _ _ _ :: _) _ _)); refine wpList_app_st (o := ⟨some 74, .call { callee := .builtin .append, args := _, argTypes := _ }, _, _, _, _⟩) rfl _ _ _ _ rfl _ Try.underlying91 in_int rfl HS tk rfl ((Holds.cutLo (HS.holds (show Take _ (ownA (x :: rem) _) _ from tk)) (by simp)).srcFlat Try.underlying91) mxl (by omega) ?_; clear HS; intro a74 c74 w74 hb74 HS; (try simp only [Nat.zero_add, List.nil_append] at HS); (try simp only [Nat.zero_add]); replace HS := HS.shut (α := Int) (xs := rem) tk rfl (fun x hx => HFO.out x hx))
              | ((with_reducible (show wpList _ _ _ (Oper.mk none (Op.store _ (.tmp 75) _) _ _ _ _ :: _) _ _)); refine wpList_store_st (o := ⟨none, .store _ (.tmp 75) _, _, _, _, _⟩) rfl _ _ _ rfl rfl (v := .slice _ _ _) rfl HS tk sz_Sint vcs rfx rfx (by simp) ?_ rfl; clear HS; intro w12_6 hz12_6 HS; simp only [nicL, Value.cells, List.append_nil] at HS))
        go_roundw
        case rel => exact ⟨k + 1, rem, qs', t2', _, _, _, _, HDR2, by omega, HOO2, HLN, by go_num, (HS.arr (by repeat (first | exact Arr.nil | (with_reducible exact take_all _) | (refine Arr.cons tk ?_) | (refine arr_skip ?_))))⟩
        case measure => simp [intOf]; omega

end Go.Proofs.Ytelkplponnfkpaa

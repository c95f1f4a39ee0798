/- The walk of FnExactTakeChain. -/
import Derived.Test.YtelkplponnfkpaaRows
import Derived.Test.YtelkplponnfkpaaChain
import Derived.Test.YtelkplponnfkpaaMLaw4
import Derived.Test.YtelkplponnfkpaaLsDesc
import Derived.Test.YtelkplponnfkpaaTk
namespace Go.Proofs.Ytelkplponnfkpaa
open Go.RowKit
set_option linter.unusedVariables false
set_option linter.unusedSimpArgs false

theorem use_key3 {G : Prop} {T0 T1 T2 : Type} (R P : T0 → T1 → T2 → Prop) (h : (∀ x0 x1 x2, R x0 x1 x2 → P x0 x1 x2) → G) (k : ∀ x0 x1 x2, R x0 x1 x2 → P x0 x1 x2) : G := h k
theorem use_key4 {G : Prop} {T0 T1 T2 T3 : Type} (R P : T0 → T1 → T2 → T3 → Prop) (h : (∀ x0 x1 x2 x3, R x0 x1 x2 x3 → P x0 x1 x2 x3) → G) (k : ∀ x0 x1 x2 x3, R x0 x1 x2 x3 → P x0 x1 x2 x3) : G := h k
theorem use_key5 {G : Prop} {T0 T1 T2 T3 T4 : Type} (R P : T0 → T1 → T2 → T3 → T4 → Prop) (h : (∀ x0 x1 x2 x3 x4, R x0 x1 x2 x3 x4 → P x0 x1 x2 x3 x4) → G) (k : ∀ x0 x1 x2 x3 x4, R x0 x1 x2 x3 x4 → P x0 x1 x2 x3 x4) : G := h k
theorem use_key6 {G : Prop} {T0 T1 T2 T3 T4 T5 : Type} (R P : T0 → T1 → T2 → T3 → T4 → T5 → Prop) (h : (∀ x0 x1 x2 x3 x4 x5, R x0 x1 x2 x3 x4 x5 → P x0 x1 x2 x3 x4 x5) → G) (k : ∀ x0 x1 x2 x3 x4 x5, R x0 x1 x2 x3 x4 x5 → P x0 x1 x2 x3 x4 x5) : G := h k
theorem use_key7 {G : Prop} {T0 T1 T2 T3 T4 T5 T6 : Type} (R P : T0 → T1 → T2 → T3 → T4 → T5 → T6 → Prop) (h : (∀ x0 x1 x2 x3 x4 x5 x6, R x0 x1 x2 x3 x4 x5 x6 → P x0 x1 x2 x3 x4 x5 x6) → G) (k : ∀ x0 x1 x2 x3 x4 x5 x6, R x0 x1 x2 x3 x4 x5 x6 → P x0 x1 x2 x3 x4 x5 x6) : G := h k
theorem use_key8 {G : Prop} {T0 T1 T2 T3 T4 T5 T6 T7 : Type} (R P : T0 → T1 → T2 → T3 → T4 → T5 → T6 → T7 → Prop) (h : (∀ x0 x1 x2 x3 x4 x5 x6 x7, R x0 x1 x2 x3 x4 x5 x6 x7 → P x0 x1 x2 x3 x4 x5 x6 x7) → G) (k : ∀ x0 x1 x2 x3 x4 x5 x6 x7, R x0 x1 x2 x3 x4 x5 x6 x7 → P x0 x1 x2 x3 x4 x5 x6 x7) : G := h k
theorem use_key9 {G : Prop} {T0 T1 T2 T3 T4 T5 T6 T7 T8 : Type} (R P : T0 → T1 → T2 → T3 → T4 → T5 → T6 → T7 → T8 → Prop) (h : (∀ x0 x1 x2 x3 x4 x5 x6 x7 x8, R x0 x1 x2 x3 x4 x5 x6 x7 x8 → P x0 x1 x2 x3 x4 x5 x6 x7 x8) → G) (k : ∀ x0 x1 x2 x3 x4 x5 x6 x7 x8, R x0 x1 x2 x3 x4 x5 x6 x7 x8 → P x0 x1 x2 x3 x4 x5 x6 x7 x8) : G := h k
theorem use_key10 {G : Prop} {T0 T1 T2 T3 T4 T5 T6 T7 T8 T9 : Type} (R P : T0 → T1 → T2 → T3 → T4 → T5 → T6 → T7 → T8 → T9 → Prop) (h : (∀ x0 x1 x2 x3 x4 x5 x6 x7 x8 x9, R x0 x1 x2 x3 x4 x5 x6 x7 x8 x9 → P x0 x1 x2 x3 x4 x5 x6 x7 x8 x9) → G) (k : ∀ x0 x1 x2 x3 x4 x5 x6 x7 x8 x9, R x0 x1 x2 x3 x4 x5 x6 x7 x8 x9 → P x0 x1 x2 x3 x4 x5 x6 x7 x8 x9) : G := h k
theorem use_key11 {G : Prop} {T0 T1 T2 T3 T4 T5 T6 T7 T8 T9 T10 : Type} (R P : T0 → T1 → T2 → T3 → T4 → T5 → T6 → T7 → T8 → T9 → T10 → Prop) (h : (∀ x0 x1 x2 x3 x4 x5 x6 x7 x8 x9 x10, R x0 x1 x2 x3 x4 x5 x6 x7 x8 x9 x10 → P x0 x1 x2 x3 x4 x5 x6 x7 x8 x9 x10) → G) (k : ∀ x0 x1 x2 x3 x4 x5 x6 x7 x8 x9 x10, R x0 x1 x2 x3 x4 x5 x6 x7 x8 x9 x10 → P x0 x1 x2 x3 x4 x5 x6 x7 x8 x9 x10) : G := h k
theorem use_key12 {G : Prop} {T0 T1 T2 T3 T4 T5 T6 T7 T8 T9 T10 T11 : Type} (R P : T0 → T1 → T2 → T3 → T4 → T5 → T6 → T7 → T8 → T9 → T10 → T11 → Prop) (h : (∀ x0 x1 x2 x3 x4 x5 x6 x7 x8 x9 x10 x11, R x0 x1 x2 x3 x4 x5 x6 x7 x8 x9 x10 x11 → P x0 x1 x2 x3 x4 x5 x6 x7 x8 x9 x10 x11) → G) (k : ∀ x0 x1 x2 x3 x4 x5 x6 x7 x8 x9 x10 x11, R x0 x1 x2 x3 x4 x5 x6 x7 x8 x9 x10 x11 → P x0 x1 x2 x3 x4 x5 x6 x7 x8 x9 x10 x11) : G := h k

theorem markMappingS_i {w0 w : World} {Js : List Asn} {v : Value} {l : List Mp} (q : Nat) {k : Int} (HS : St w0 w (ownA l [v] :: Js)) (h1 : q + 4 * l.length ≤ 4611686018427386000) (hk : k = (q : Int)) :
    Calls Try.prog 28 #[v, .int .i64 k] w (fun e w' => e = .returned (.int .i64 ((q + 4 * l.length : Nat) : Int)) ∧ St w0 w' (ownA (markMp l.length q) [v] :: Js)) := hk ▸ markMappingS_st v l q w HS h1
theorem markMemory_i {w0 w : World} {Js : List Asn} {v : Value} {ps : Pg} (q : Nat) {k : Int} (HS : St w0 w (ownA ps [v] :: Js)) (h0 : 0 < q) (h1 : q + ps.length ≤ 4611686018427387903) (hk : k = (q : Int)) :
    Calls Try.prog 29 #[.agg #[v], .int .i64 k] w (fun e w' => e = .returned (.int .i64 ((q + ps.length : Nat) : Int)) ∧ St w0 w' (ownA (mtexts ps.length q) [v] :: Js)) := hk ▸ markMemory_st v ps q w HS h0 h1
theorem chainF_len {l : List Mp} {ps : Pg} {d b s t : Int} : ∀ (n : Nat) (h : Int) (out : List Dsc) {ds : List Dsc} {h2 : Int}, chainF l ps d b s t n h out = some (ds, h2) → ds.length ≤ out.length + n
  | 0, h, out, ds, h2, e => by
    simp only [chainF, Option.some.injEq, Prod.mk.injEq] at e
    rw [← e.1]; omega
  | n + 1, h, out, ds, h2, e => by
    rw [chainF] at e
    split at e
    · cases e
    · split at e
      · cases e
      · split at e
        · simp only [Option.some.injEq, Prod.mk.injEq] at e
          rw [← e.1, List.length_append]; simp
        · have := chainF_len n _ _ e
          rw [List.length_append] at this; simp at this; omega
theorem tchainF_len {l : List Mp} {ps : Pg} {d b s h t : Int} {ds : List Dsc} {h9 : Int} {ok : Bool} (hr : (ds, h9, ok) = tchainF l ps d b s h t) : ds.length ≤ 16 := by
  unfold tchainF at hr
  split at hr
  · rename_i q
    obtain ⟨_, _, _, s0, s1, _, _, _, _, u1, u0⟩ := ringOk_facts q
    split at hr
    · simp only [Prod.mk.injEq] at hr; rw [hr.1]; simp
    · split at hr
      · rename_i hc
        simp only [Prod.mk.injEq] at hr
        have := chainF_len _ _ _ hc
        rw [hr.1]; unfold usedF at this; simp at this; omega
      · simp only [Prod.mk.injEq] at hr; rw [hr.1]; simp
  · simp only [Prod.mk.injEq] at hr; rw [hr.1]; simp

set_option maxRecDepth 100000 in
set_option maxHeartbeats 16000000 in
theorem walk_FnExactTakeChain (w : World) (aList : Value) (aListD : List (Int × Int × Int × Bool)) (haList : Holds w aListD [aList]) (aM : Array Value) (aMD : List ByteArray) (haM : Holds w aMD aM.toList) (aDomain : Int) (haDomain : i64ok aDomain) (aR_Base : Int) (haR_Base : i64ok aR_Base) (aR_Size : Int) (haR_Size : i64ok aR_Size) (aR_Head : Int) (haR_Head : i64ok aR_Head) (aR_Tail : Int) (haR_Tail : i64ok aR_Tail) :
    Calls Try.prog 7 #[aList, .agg aM, .int .i64 aDomain, .agg #[.int .i64 aR_Base, .int .i64 aR_Size, .int .i64 aR_Head, .int .i64 aR_Tail]] w fun e w' => e = .returned (.bool true) ∧ Ex w w' := by
  obtain ⟨AA, cap, rfl, z1, z2⟩ := haList.fl
  unfold maxLen at z2
  obtain ⟨vM, rfl⟩ : ∃ v, aM = #[v] := by
    obtain ⟨bs, a, c, hv, _⟩ := haM
    exact ⟨_, Array.toList_inj.1 hv⟩
  have k2 : Holds w aMD [vM] := haM
  have k1 := haList
  obtain ⟨BB, cap2, rfl, y1, y2⟩ := k2.fl
  unfold maxLen at y2
  clear haM haList
  by_cases hb1 : (1048576 : Int) < aListD.length
  case pos =>
    have HS := St.start w
    go_enter Try.func7, Try.ntmps7
    go_wp2_with (first
          | (go_at_call 16; (with_reducible refine (szMappingS_gt _ aListD _ _ (k1.ex HS.ex) (by omega) (by omega) (by omega)).mono ?_); rintro e w' ⟨rfl, hx⟩; replace HS := HS.grow hx; clear hx)
          | ((with_reducible (show wpList _ _ _ (Oper.mk (some 5) (Op.box _ _) _ _ _ _ :: _) _ _)); refine wpList_box_st (o := ⟨some 5, .box _ _, _, _, _, _⟩) rfl _ _ rfl (v := .agg (List.toArray _)) rfl HS ?_; clear HS; intro w5 b5 hb5 HS; simp only [Value.cells] at HS)
          | ((with_reducible (show wpList _ _ _ (Oper.mk (some 5) (Op.box _ _) _ _ _ _ :: _) _ _)); refine wpList_box_st (o := ⟨some 5, .box _ _, _, _, _, _⟩) rfl _ _ rfl (v := .agg _) rfl HS ?_; clear HS; intro w5 b5 hb5 HS; simp only [Value.cells] at HS)
          | ((with_reducible (show wpList _ _ _ (Oper.mk (some 7) (Op.box _ _) _ _ _ _ :: _) _ _)); refine wpList_box_st (o := ⟨some 7, .box _ _, _, _, _, _⟩) rfl _ _ rfl (v := .agg (List.toArray _)) rfl HS ?_; clear HS; intro w7 b7 hb7 HS; simp only [Value.cells] at HS)
          | ((with_reducible (show wpList _ _ _ (Oper.mk (some 7) (Op.box _ _) _ _ _ _ :: _) _ _)); refine wpList_box_st (o := ⟨some 7, .box _ _, _, _, _, _⟩) rfl _ _ rfl (v := .agg _) rfl HS ?_; clear HS; intro w7 b7 hb7 HS; simp only [Value.cells] at HS)
          | ((with_reducible (show wpList _ _ _ (Oper.mk (some 29) (Op.load _ _) _ _ _ _ :: _) _ _)); refine wpList_loadA_st (o := ⟨some 29, .load _ _, _, _, _, _⟩) rfl _ _ rfl rfl HS tk ag_laws_Memory lit rfl ?_)
          | ((with_reducible (show wpList _ _ _ (Oper.mk (some 48) (Op.load _ _) _ _ _ _ :: _) _ _)); refine wpList_loadA_st (o := ⟨some 48, .load _ _, _, _, _, _⟩) rfl _ _ rfl rfl HS tk ag_laws_Memory lit rfl ?_)
          | ((with_reducible (show wpList _ _ _ (Oper.mk (some 14) (Op.alloc _) _ _ _ _ :: _) _ _)); refine wpList_alloc_st (o := ⟨some 14, .alloc _, _, _, _, _⟩) rfl _ rfl zc_impl_Memory HS ?_; clear HS; intro w14 b14 hb14 HS)
          | ((with_reducible (show wpList _ _ _ (Oper.mk none (Op.store _ (.tmp 14) _) _ _ _ _ :: _) _ _)); refine wpList_store_st (o := ⟨none, .store _ (.tmp 14) _, _, _, _, _⟩) rfl _ _ _ rfl rfl (v := .agg (List.toArray _)) rfl HS tk sz_impl_Memory vcs rfx rfx (by simp) ?_ rfl; clear HS; intro w10_3 hz10_3 HS; simp only [nicL, Value.cells, List.append_nil] at HS)
          | ((with_reducible (show wpList _ _ _ (Oper.mk none (Op.store _ (.tmp 14) _) _ _ _ _ :: _) _ _)); refine wpList_store_st (o := ⟨none, .store _ (.tmp 14) _, _, _, _, _⟩) rfl _ _ _ rfl rfl (v := .agg _) rfl HS tk sz_impl_Memory vcs rfx rfx (by simp) ?_ rfl; clear HS; intro w10_3 hz10_3 HS; simp only [nicL, Value.cells, List.append_nil] at HS)
          | ((with_reducible (show wpList _ _ _ (Oper.mk (some 65) (Op.load _ _) _ _ _ _ :: _) _ _)); refine wpList_loadA_st (o := ⟨some 65, .load _ _, _, _, _, _⟩) rfl _ _ rfl rfl HS tk ag_impl_Ring lit rfl ?_)
          | ((with_reducible (show wpList _ _ _ (Oper.mk (some 66) (Op.load _ _) _ _ _ _ :: _) _ _)); refine wpList_loadA_st (o := ⟨some 66, .load _ _, _, _, _, _⟩) rfl _ _ rfl rfl HS tk ag_impl_Ring lit rfl ?_)
          | ((with_reducible (show wpList _ _ _ (Oper.mk (some 88) (Op.load _ _) _ _ _ _ :: _) _ _)); refine wpList_loadA_st (o := ⟨some 88, .load _ _, _, _, _, _⟩) rfl _ _ rfl rfl HS tk ag_impl_Memory lit rfl ?_)
          | ((with_reducible (show wpList _ _ _ (Oper.mk (some 100) (Op.load _ _) _ _ _ _ :: _) _ _)); refine wpList_loadA_st (o := ⟨some 100, .load _ _, _, _, _, _⟩) rfl _ _ rfl rfl HS tk ag_impl_Ring lit rfl ?_)
          | ((with_reducible (show wpList _ _ _ (Oper.mk (some 101) (Op.load _ _) _ _ _ _ :: _) _ _)); refine wpList_loadA_st (o := ⟨some 101, .load _ _, _, _, _, _⟩) rfl _ _ rfl rfl HS tk ag_impl_Ring lit rfl ?_)
          | ((with_reducible (show wpList _ _ _ (Oper.mk (some 138) (Op.load _ _) _ _ _ _ :: _) _ _)); refine wpList_loadA_st (o := ⟨some 138, .load _ _, _, _, _, _⟩) rfl _ _ rfl rfl HS tk ag_impl_Ring lit rfl ?_)
          | ((with_reducible (show wpList _ _ _ (Oper.mk (some 139) (Op.load _ _) _ _ _ _ :: _) _ _)); refine wpList_loadA_st (o := ⟨some 139, .load _ _, _, _, _, _⟩) rfl _ _ rfl rfl HS tk ag_impl_Ring lit rfl ?_))
    go_ret
    exact ⟨rfl, HS.ex⟩
  case neg =>
  by_cases hb2 : (1048576 : Int) - aListD.length < ((aMD.length + totS aMD : Nat) : Int)
  case pos =>
    have HS := St.start w
    go_enter Try.func7, Try.ntmps7
    go_wp2_with (first
          | (go_at_call 16; (with_reducible refine (szMappingS_le _ aListD _ _ (k1.ex HS.ex) (by omega) (by omega)).mono ?_); rintro e w' ⟨rfl, hx⟩; replace HS := HS.grow hx; clear hx)
          | (go_at_call 17; (with_reducible refine (szMemory_gt _ aMD _ _ (k2.ex HS.ex) (by omega) (by omega) (by omega)).mono ?_); rintro e w' ⟨rfl, hx⟩; replace HS := HS.grow hx; clear hx)
          | ((with_reducible (show wpList _ _ _ (Oper.mk (some 5) (Op.box _ _) _ _ _ _ :: _) _ _)); refine wpList_box_st (o := ⟨some 5, .box _ _, _, _, _, _⟩) rfl _ _ rfl (v := .agg (List.toArray _)) rfl HS ?_; clear HS; intro w5 b5 hb5 HS; simp only [Value.cells] at HS)
          | ((with_reducible (show wpList _ _ _ (Oper.mk (some 5) (Op.box _ _) _ _ _ _ :: _) _ _)); refine wpList_box_st (o := ⟨some 5, .box _ _, _, _, _, _⟩) rfl _ _ rfl (v := .agg _) rfl HS ?_; clear HS; intro w5 b5 hb5 HS; simp only [Value.cells] at HS)
          | ((with_reducible (show wpList _ _ _ (Oper.mk (some 7) (Op.box _ _) _ _ _ _ :: _) _ _)); refine wpList_box_st (o := ⟨some 7, .box _ _, _, _, _, _⟩) rfl _ _ rfl (v := .agg (List.toArray _)) rfl HS ?_; clear HS; intro w7 b7 hb7 HS; simp only [Value.cells] at HS)
          | ((with_reducible (show wpList _ _ _ (Oper.mk (some 7) (Op.box _ _) _ _ _ _ :: _) _ _)); refine wpList_box_st (o := ⟨some 7, .box _ _, _, _, _, _⟩) rfl _ _ rfl (v := .agg _) rfl HS ?_; clear HS; intro w7 b7 hb7 HS; simp only [Value.cells] at HS)
          | ((with_reducible (show wpList _ _ _ (Oper.mk (some 29) (Op.load _ _) _ _ _ _ :: _) _ _)); refine wpList_loadA_st (o := ⟨some 29, .load _ _, _, _, _, _⟩) rfl _ _ rfl rfl HS tk ag_laws_Memory lit rfl ?_)
          | ((with_reducible (show wpList _ _ _ (Oper.mk (some 48) (Op.load _ _) _ _ _ _ :: _) _ _)); refine wpList_loadA_st (o := ⟨some 48, .load _ _, _, _, _, _⟩) rfl _ _ rfl rfl HS tk ag_laws_Memory lit rfl ?_)
          | ((with_reducible (show wpList _ _ _ (Oper.mk (some 14) (Op.alloc _) _ _ _ _ :: _) _ _)); refine wpList_alloc_st (o := ⟨some 14, .alloc _, _, _, _, _⟩) rfl _ rfl zc_impl_Memory HS ?_; clear HS; intro w14 b14 hb14 HS)
          | ((with_reducible (show wpList _ _ _ (Oper.mk none (Op.store _ (.tmp 14) _) _ _ _ _ :: _) _ _)); refine wpList_store_st (o := ⟨none, .store _ (.tmp 14) _, _, _, _, _⟩) rfl _ _ _ rfl rfl (v := .agg (List.toArray _)) rfl HS tk sz_impl_Memory vcs rfx rfx (by simp) ?_ rfl; clear HS; intro w10_3 hz10_3 HS; simp only [nicL, Value.cells, List.append_nil] at HS)
          | ((with_reducible (show wpList _ _ _ (Oper.mk none (Op.store _ (.tmp 14) _) _ _ _ _ :: _) _ _)); refine wpList_store_st (o := ⟨none, .store _ (.tmp 14) _, _, _, _, _⟩) rfl _ _ _ rfl rfl (v := .agg _) rfl HS tk sz_impl_Memory vcs rfx rfx (by simp) ?_ rfl; clear HS; intro w10_3 hz10_3 HS; simp only [nicL, Value.cells, List.append_nil] at HS)
          | ((with_reducible (show wpList _ _ _ (Oper.mk (some 65) (Op.load _ _) _ _ _ _ :: _) _ _)); refine wpList_loadA_st (o := ⟨some 65, .load _ _, _, _, _, _⟩) rfl _ _ rfl rfl HS tk ag_impl_Ring lit rfl ?_)
          | ((with_reducible (show wpList _ _ _ (Oper.mk (some 66) (Op.load _ _) _ _ _ _ :: _) _ _)); refine wpList_loadA_st (o := ⟨some 66, .load _ _, _, _, _, _⟩) rfl _ _ rfl rfl HS tk ag_impl_Ring lit rfl ?_)
          | ((with_reducible (show wpList _ _ _ (Oper.mk (some 88) (Op.load _ _) _ _ _ _ :: _) _ _)); refine wpList_loadA_st (o := ⟨some 88, .load _ _, _, _, _, _⟩) rfl _ _ rfl rfl HS tk ag_impl_Memory lit rfl ?_)
          | ((with_reducible (show wpList _ _ _ (Oper.mk (some 100) (Op.load _ _) _ _ _ _ :: _) _ _)); refine wpList_loadA_st (o := ⟨some 100, .load _ _, _, _, _, _⟩) rfl _ _ rfl rfl HS tk ag_impl_Ring lit rfl ?_)
          | ((with_reducible (show wpList _ _ _ (Oper.mk (some 101) (Op.load _ _) _ _ _ _ :: _) _ _)); refine wpList_loadA_st (o := ⟨some 101, .load _ _, _, _, _, _⟩) rfl _ _ rfl rfl HS tk ag_impl_Ring lit rfl ?_)
          | ((with_reducible (show wpList _ _ _ (Oper.mk (some 138) (Op.load _ _) _ _ _ _ :: _) _ _)); refine wpList_loadA_st (o := ⟨some 138, .load _ _, _, _, _, _⟩) rfl _ _ rfl rfl HS tk ag_impl_Ring lit rfl ?_)
          | ((with_reducible (show wpList _ _ _ (Oper.mk (some 139) (Op.load _ _) _ _ _ _ :: _) _ _)); refine wpList_loadA_st (o := ⟨some 139, .load _ _, _, _, _, _⟩) rfl _ _ rfl rfl HS tk ag_impl_Ring lit rfl ?_))
    go_ret
    exact ⟨rfl, HS.ex⟩
  case neg =>
  have hlm : aMD.length ≤ 1099511627776 := by omega
  obtain ⟨⟨ds, h9, ok⟩, hr⟩ : ∃ r, r = tchainF aListD aMD aDomain aR_Base aR_Size aR_Head aR_Tail := ⟨_, rfl⟩
  have HR := hid hr
  have hdl := tchainF_len hr
  clear hr
  have HS := St.start w
  go_enter Try.func7, Try.ntmps7
  go_wp2_with (first
        | (go_at_call 16; (with_reducible refine (szMappingS_le _ aListD _ _ (k1.ex HS.ex) (by omega) (by omega)).mono ?_); rintro e w' ⟨rfl, hx⟩; replace HS := HS.grow hx; clear hx)
        | (go_at_call 17; (with_reducible refine (szMemory_le _ aMD _ _ (k2.ex HS.ex) (by omega) (by omega)).mono ?_); rintro e w' ⟨rfl, hx⟩; replace HS := HS.grow hx; clear hx)
        | ((with_reducible (show wpList _ _ _ (Oper.mk (some 5) (Op.box _ _) _ _ _ _ :: _) _ _)); refine wpList_box_st (o := ⟨some 5, .box _ _, _, _, _, _⟩) rfl _ _ rfl (v := .agg (List.toArray _)) rfl HS ?_; clear HS; intro w5 b5 hb5 HS; simp only [Value.cells] at HS)
        | ((with_reducible (show wpList _ _ _ (Oper.mk (some 5) (Op.box _ _) _ _ _ _ :: _) _ _)); refine wpList_box_st (o := ⟨some 5, .box _ _, _, _, _, _⟩) rfl _ _ rfl (v := .agg _) rfl HS ?_; clear HS; intro w5 b5 hb5 HS; simp only [Value.cells] at HS)
        | ((with_reducible (show wpList _ _ _ (Oper.mk (some 7) (Op.box _ _) _ _ _ _ :: _) _ _)); refine wpList_box_st (o := ⟨some 7, .box _ _, _, _, _, _⟩) rfl _ _ rfl (v := .agg (List.toArray _)) rfl HS ?_; clear HS; intro w7 b7 hb7 HS; simp only [Value.cells] at HS)
        | ((with_reducible (show wpList _ _ _ (Oper.mk (some 7) (Op.box _ _) _ _ _ _ :: _) _ _)); refine wpList_box_st (o := ⟨some 7, .box _ _, _, _, _, _⟩) rfl _ _ rfl (v := .agg _) rfl HS ?_; clear HS; intro w7 b7 hb7 HS; simp only [Value.cells] at HS)
        | ((with_reducible (show wpList _ _ _ (Oper.mk (some 29) (Op.load _ _) _ _ _ _ :: _) _ _)); refine wpList_loadA_st (o := ⟨some 29, .load _ _, _, _, _, _⟩) rfl _ _ rfl rfl HS tk ag_laws_Memory lit rfl ?_)
        | ((with_reducible (show wpList _ _ _ (Oper.mk (some 48) (Op.load _ _) _ _ _ _ :: _) _ _)); refine wpList_loadA_st (o := ⟨some 48, .load _ _, _, _, _, _⟩) rfl _ _ rfl rfl HS tk ag_laws_Memory lit rfl ?_)
        | ((with_reducible (show wpList _ _ _ (Oper.mk (some 14) (Op.alloc _) _ _ _ _ :: _) _ _)); refine wpList_alloc_st (o := ⟨some 14, .alloc _, _, _, _, _⟩) rfl _ rfl zc_impl_Memory HS ?_; clear HS; intro w14 b14 hb14 HS)
        | ((with_reducible (show wpList _ _ _ (Oper.mk none (Op.store _ (.tmp 14) _) _ _ _ _ :: _) _ _)); refine wpList_store_st (o := ⟨none, .store _ (.tmp 14) _, _, _, _, _⟩) rfl _ _ _ rfl rfl (v := .agg (List.toArray _)) rfl HS tk sz_impl_Memory vcs rfx rfx (by simp) ?_ rfl; clear HS; intro w10_3 hz10_3 HS; simp only [nicL, Value.cells, List.append_nil] at HS)
        | ((with_reducible (show wpList _ _ _ (Oper.mk none (Op.store _ (.tmp 14) _) _ _ _ _ :: _) _ _)); refine wpList_store_st (o := ⟨none, .store _ (.tmp 14) _, _, _, _, _⟩) rfl _ _ _ rfl rfl (v := .agg _) rfl HS tk sz_impl_Memory vcs rfx rfx (by simp) ?_ rfl; clear HS; intro w10_3 hz10_3 HS; simp only [nicL, Value.cells, List.append_nil] at HS)
        | ((with_reducible (show wpList _ _ _ (Oper.mk (some 65) (Op.load _ _) _ _ _ _ :: _) _ _)); refine wpList_loadA_st (o := ⟨some 65, .load _ _, _, _, _, _⟩) rfl _ _ rfl rfl HS tk ag_impl_Ring lit rfl ?_)
        | ((with_reducible (show wpList _ _ _ (Oper.mk (some 66) (Op.load _ _) _ _ _ _ :: _) _ _)); refine wpList_loadA_st (o := ⟨some 66, .load _ _, _, _, _, _⟩) rfl _ _ rfl rfl HS tk ag_impl_Ring lit rfl ?_)
        | ((with_reducible (show wpList _ _ _ (Oper.mk (some 88) (Op.load _ _) _ _ _ _ :: _) _ _)); refine wpList_loadA_st (o := ⟨some 88, .load _ _, _, _, _, _⟩) rfl _ _ rfl rfl HS tk ag_impl_Memory lit rfl ?_)
        | ((with_reducible (show wpList _ _ _ (Oper.mk (some 100) (Op.load _ _) _ _ _ _ :: _) _ _)); refine wpList_loadA_st (o := ⟨some 100, .load _ _, _, _, _, _⟩) rfl _ _ rfl rfl HS tk ag_impl_Ring lit rfl ?_)
        | ((with_reducible (show wpList _ _ _ (Oper.mk (some 101) (Op.load _ _) _ _ _ _ :: _) _ _)); refine wpList_loadA_st (o := ⟨some 101, .load _ _, _, _, _, _⟩) rfl _ _ rfl rfl HS tk ag_impl_Ring lit rfl ?_)
        | ((with_reducible (show wpList _ _ _ (Oper.mk (some 138) (Op.load _ _) _ _ _ _ :: _) _ _)); refine wpList_loadA_st (o := ⟨some 138, .load _ _, _, _, _, _⟩) rfl _ _ rfl rfl HS tk ag_impl_Ring lit rfl ?_)
        | ((with_reducible (show wpList _ _ _ (Oper.mk (some 139) (Op.load _ _) _ _ _ _ :: _) _ _)); refine wpList_loadA_st (o := ⟨some 139, .load _ _, _, _, _, _⟩) rfl _ _ rfl rfl HS tk ag_impl_Ring lit rfl ?_))
  apply use_key8 (R := fun (w9 : World) (b11 : Nat) (A36 : Option Addr) (c36 : Nat) (A38 : Option Addr) (c38 : Nat) (A42 : Option Addr) (c42 : Nat) => St w w9 [rowA b11 [.int .i64 aR_Base, .int .i64 aR_Size, .int .i64 h9, .int .i64 aR_Tail] 29, ownA ds [.slice A42 ds.length c42], rowA b7 [.int .i64 aR_Base, .int .i64 aR_Size, .int .i64 aR_Head, .int .i64 aR_Tail] 63, rowA b5 [.slice BB aMD.length cap2] 46])
  case h =>
    intro KEY
    refine wp_region_plan_st (HS.arr (show Arr _ [rowA b5 _ _, rowA b7 _ _] from ary)) (.early 0 (.early 2 (.early 4 (.early 5 (.fork 1 1 (.fork 3 1 (.fork 6 1 (.fork 7 1 (.pure 8 (.pure 9 (.pure 10 (.pure 11 (.forced 12 1 (.forced 13 2 (.forced 14 2 (.forced 15 2 .done)))))))) 12 1 (.forced 7 2 (.forced 8 2 (.pure 9 (.pure 10 (.pure 11 (.forced 13 2 (.forced 14 2 (.forced 15 2 .done))))))))) 12 1 (.forced 6 1 (.forced 7 2 (.forced 8 2 (.pure 9 (.pure 10 (.pure 11 (.forced 13 2 (.forced 14 2 (.forced 15 2 .done)))))))))) 12 1 (.forced 3 1 (.forced 6 1 (.forced 7 2 (.forced 8 2 (.pure 9 (.pure 10 (.pure 11 (.forced 13 2 (.forced 14 2 (.forced 15 2 .done))))))))))) 12 1 (.forced 1 1 (.forced 3 1 (.forced 6 1 (.forced 7 2 (.forced 8 2 (.pure 9 (.pure 10 (.pure 11 (.forced 13 2 (.forced 14 2 (.forced 15 2 .done)))))))))))))))) (by kernel_rfl) (by as_aux_lemma => kernel_rfl) ?_
    intro hne
    replace HS := HS.drew
    try go_simp
    repeat' (first
      | (with_reducible refine wpPlan_fork ?_ ?_)
      | (with_reducible refine wpPlan_forced ?_)
      | ((with_reducible (first | (show wpPlan _ _ _ _ (.early 0 _) _ _) | (show wpPlan _ _ _ _ (.early 4 _) _ _))); (first | (refine wpPlan_skipE rfl rfl ?_; (try go_simp)) | (refine wpPlan_early rfl rfl ?_; intro K hK; (first | go_big_quiet_op); (first | go_big_quiet_on | (refine ⟨_, fun _ => rfl, ?_⟩; go_big_quiet_on)))))
      | ((with_reducible ((show wpPlan _ _ _ _ (.early 2 _) _ _))); (first | (refine wpPlan_skipE rfl rfl ?_; (try go_simp)) | (refine wpPlan_early rfl rfl ?_; intro K hK; (first | ((refine quiet_loadA_st  _ _ rfl rfl tk ag_laws_Memory lit rfl ?_); (try go_simp)) | go_big_quiet_op); (first | go_big_quiet_on | (refine ⟨_, fun _ => rfl, ?_⟩; go_big_quiet_on)))))
      | ((with_reducible ((show wpPlan _ _ _ _ (.early 5 _) _ _))); (first | (refine wpPlan_skipE rfl rfl ?_; (try go_simp)) | (refine wpPlan_early rfl rfl ?_; intro K hK; (first | ((refine quiet_loadA_st  _ _ rfl rfl tk ag_laws_Ring lit rfl ?_); (try go_simp)) | go_big_quiet_op); (first | go_big_quiet_on | (refine ⟨_, fun _ => rfl, ?_⟩; go_big_quiet_on)))))
      | ((with_reducible ((show wpOne _ _ _ _ 1 1 _ _ _))); (first | (refine wpOne_skip rfl rfl ?_; (try go_simp)) | (refine wpOne_1 rfl rfl ?_; intro K hK; go_simp; (first | (go_at_call 19; (with_reducible refine (toMappingS_any _ aListD _ (k1.ex HS.ex) (by omega)).mono ?_); rintro e w' ⟨A36, c36, rfl, ho, hx⟩; replace HS := HS.own ho hx; clear ho hx)); (try go_simp); refine hK _ _ ?_ ?_; (focus (exact stw HS)); clear hK K)))
      | ((with_reducible ((show wpOne _ _ _ _ 3 1 _ _ _))); (first | (refine wpOne_skip rfl rfl ?_; (try go_simp)) | (refine wpOne_1 rfl rfl ?_; intro K hK; go_simp; (first | (go_at_call 20; (with_reducible refine (toMemory_any _ aMD _ (k2.ex HS.ex) (by omega)).mono ?_); rintro e w' ⟨A38, c38, rfl, ho, hx⟩; replace HS := HS.own ho hx; clear ho hx)); (try go_simp); refine hK _ _ ?_ ?_; (focus (exact stw HS)); clear hK K)))
      | ((with_reducible ((show wpOne _ _ _ _ 6 1 _ _ _))); (first | (refine wpOne_skip rfl rfl ?_; (try go_simp)) | (refine wpOne_1 rfl rfl ?_; intro K hK; go_simp; (first | (go_at_call 36; (with_reducible refine (toRing_any aR_Base aR_Size aR_Head aR_Tail _).mono ?_); rintro e w' ⟨rfl, hx⟩; replace HS := HS.grow hx; clear hx)); (try go_simp); refine hK _ _ ?_ ?_; (focus (exact stw HS)); clear hK K)))
      | ((with_reducible ((show wpOne _ _ _ _ 7 1 _ _ _))); (first | (refine wpOne_skip rfl rfl ?_; (try go_simp)) | (refine wpOne_1 rfl rfl ?_; intro K hK; go_simp; (first | (go_at_call 35; (with_reducible refine (takeChainS_any _ _ aListD aMD aDomain aR_Base aR_Size aR_Head aR_Tail _ (HS.holds tk) (HS.holds tk) haDomain HR.out).mono ?_); rintro e w' ⟨A42, c42, rfl, ho, hx⟩; replace HS := HS.own ho hx; clear ho hx)); (try go_simp); refine hK _ _ ?_ ?_; (focus (exact stw HS)); clear hK K)))
      | ((with_reducible ((show wpPlan _ _ _ _ (.pure _ _) _ _))); (first | (refine wpPlan_skipP rfl rfl ?_; (try go_simp)) | (refine wpPlan_pure rfl rfl ?_; intro K hK; go_big_quiet_op; (first | go_big_quiet_on | (refine ⟨_, fun _ => rfl, ?_⟩; go_big_quiet_on)))))
      | ((with_reducible ((show wpOne _ _ _ _ 12 1 _ _ _))); (first | (refine wpOne_skip rfl rfl ?_; (try go_simp)) | (refine wpOne_1 rfl rfl ?_; intro K hK; (first | (refine wp_alloc_st  _ rfl zc_impl_Ring HS ?_; clear HS; intro w11 b11 hb11 HS)); (try go_simp); refine hK _ _ ?_ ?_; (focus (exact stw HS)); clear hK K)))
      | ((with_reducible (first | (show wpOne _ _ _ _ 13 2 _ _ _) | (show wpOne _ _ _ _ 15 2 _ _ _) | (show wpOne _ _ _ _ 8 2 _ _ _))); (first | (refine wpOne_skip rfl rfl ?_; (try go_simp)) | (refine wpOne_2 rfl rfl ?_; intro K hK; go_simp; refine hK _ _ ?_; clear hK K)))
      | ((with_reducible ((show wpOne _ _ _ _ 14 2 _ _ _))); (first | (refine wpOne_skip rfl rfl ?_; (try go_simp)) | (refine wpOne_2 rfl rfl ?_; intro K hK; (first | (refine wp_store_st  _ _ _ rfl rfl (v := .agg (List.toArray _)) rfl HS tk sz_impl_Ring vcs rfx rfx (by simp) ?_ rfl; clear HS; intro w8_14 hz8_14 HS; simp only [nicL, Value.cells, List.append_nil] at HS) | (refine wp_store_st  _ _ _ rfl rfl (v := .agg _) rfl HS tk sz_impl_Ring vcs rfx rfx (by simp) ?_ rfl; clear HS; intro w8_14 hz8_14 HS; simp only [nicL, Value.cells, List.append_nil] at HS)); (try go_simp); refine hK _ _ ?_; clear hK K)))
      | ((with_reducible ((show wpOne _ _ _ _ 7 2 _ _ _))); (first | (refine wpOne_skip rfl rfl ?_; (try go_simp)) | (refine wpOne_2 rfl rfl ?_; intro K hK; go_simp; (first | (go_at_call 35; (with_reducible refine (takeChainS_any _ _ aListD aMD aDomain aR_Base aR_Size aR_Head aR_Tail _ (HS.holds tk) (HS.holds tk) haDomain HR.out).mono ?_); rintro e w' ⟨A42, c42, rfl, ho, hx⟩; replace HS := HS.own ho hx; clear ho hx)); (try go_simp); refine hK _ _ ?_; clear hK K)))
      | (with_reducible refine wpPlan_done ?_))
    all_goals
      have HSz := HS.arr (show Arr _ [rowA b11 [.int .i64 aR_Base, .int .i64 aR_Size, .int .i64 h9, .int .i64 aR_Tail] 29, ownA ds [.slice A42 ds.length c42], rowA b7 [.int .i64 aR_Base, .int .i64 aR_Size, .int .i64 aR_Head, .int .i64 aR_Tail] 63, rowA b5 [.slice BB aMD.length cap2] 46] from ary)
      have hz := KEY _ b11 A36 c36 A38 c38 A42 c42 HSz
      exact hz
  case k =>
  clear HS
  intro w9 b11 A36 c36 A38 c38 A42 c42 HS

  go_wp2_with (first
        | (go_at_call 19; (with_reducible refine (toMappingS_any _ aListD _ (k1.ex HS.ex) (by omega)).mono ?_); rintro e w' ⟨A47, c47, rfl, ho, hx⟩; replace HS := HS.own ho hx; clear ho hx)
        | (go_at_call 20; (with_reducible refine (toMemory_any _ aMD _ (k2.ex HS.ex) (by omega)).mono ?_); rintro e w' ⟨A49, c49, rfl, ho, hx⟩; replace HS := HS.own ho hx; clear ho hx)
        | ((with_reducible (show wpList _ _ _ (Oper.mk (some 5) (Op.box _ _) _ _ _ _ :: _) _ _)); refine wpList_box_st (o := ⟨some 5, .box _ _, _, _, _, _⟩) rfl _ _ rfl (v := .agg (List.toArray _)) rfl HS ?_; clear HS; intro w5 b5 hb5 HS; simp only [Value.cells] at HS)
        | ((with_reducible (show wpList _ _ _ (Oper.mk (some 5) (Op.box _ _) _ _ _ _ :: _) _ _)); refine wpList_box_st (o := ⟨some 5, .box _ _, _, _, _, _⟩) rfl _ _ rfl (v := .agg _) rfl HS ?_; clear HS; intro w5 b5 hb5 HS; simp only [Value.cells] at HS)
        | ((with_reducible (show wpList _ _ _ (Oper.mk (some 7) (Op.box _ _) _ _ _ _ :: _) _ _)); refine wpList_box_st (o := ⟨some 7, .box _ _, _, _, _, _⟩) rfl _ _ rfl (v := .agg (List.toArray _)) rfl HS ?_; clear HS; intro w7 b7 hb7 HS; simp only [Value.cells] at HS)
        | ((with_reducible (show wpList _ _ _ (Oper.mk (some 7) (Op.box _ _) _ _ _ _ :: _) _ _)); refine wpList_box_st (o := ⟨some 7, .box _ _, _, _, _, _⟩) rfl _ _ rfl (v := .agg _) rfl HS ?_; clear HS; intro w7 b7 hb7 HS; simp only [Value.cells] at HS)
        | ((with_reducible (show wpList _ _ _ (Oper.mk (some 29) (Op.load _ _) _ _ _ _ :: _) _ _)); refine wpList_loadA_st (o := ⟨some 29, .load _ _, _, _, _, _⟩) rfl _ _ rfl rfl HS tk ag_laws_Memory lit rfl ?_)
        | ((with_reducible (show wpList _ _ _ (Oper.mk (some 48) (Op.load _ _) _ _ _ _ :: _) _ _)); refine wpList_loadA_st (o := ⟨some 48, .load _ _, _, _, _, _⟩) rfl _ _ rfl rfl HS tk ag_laws_Memory lit rfl ?_)
        | ((with_reducible (show wpList _ _ _ (Oper.mk (some 14) (Op.alloc _) _ _ _ _ :: _) _ _)); refine wpList_alloc_st (o := ⟨some 14, .alloc _, _, _, _, _⟩) rfl _ rfl zc_impl_Memory HS ?_; clear HS; intro w14 b14 hb14 HS)
        | ((with_reducible (show wpList _ _ _ (Oper.mk none (Op.store _ (.tmp 14) _) _ _ _ _ :: _) _ _)); refine wpList_store_st (o := ⟨none, .store _ (.tmp 14) _, _, _, _, _⟩) rfl _ _ _ rfl rfl (v := .agg (List.toArray _)) rfl HS tk sz_impl_Memory vcs rfx rfx (by simp) ?_ rfl; clear HS; intro w10_3 hz10_3 HS; simp only [nicL, Value.cells, List.append_nil] at HS)
        | ((with_reducible (show wpList _ _ _ (Oper.mk none (Op.store _ (.tmp 14) _) _ _ _ _ :: _) _ _)); refine wpList_store_st (o := ⟨none, .store _ (.tmp 14) _, _, _, _, _⟩) rfl _ _ _ rfl rfl (v := .agg _) rfl HS tk sz_impl_Memory vcs rfx rfx (by simp) ?_ rfl; clear HS; intro w10_3 hz10_3 HS; simp only [nicL, Value.cells, List.append_nil] at HS)
        | ((with_reducible (show wpList _ _ _ (Oper.mk (some 65) (Op.load _ _) _ _ _ _ :: _) _ _)); refine wpList_loadA_st (o := ⟨some 65, .load _ _, _, _, _, _⟩) rfl _ _ rfl rfl HS tk ag_impl_Ring lit rfl ?_)
        | ((with_reducible (show wpList _ _ _ (Oper.mk (some 66) (Op.load _ _) _ _ _ _ :: _) _ _)); refine wpList_loadA_st (o := ⟨some 66, .load _ _, _, _, _, _⟩) rfl _ _ rfl rfl HS tk ag_impl_Ring lit rfl ?_)
        | ((with_reducible (show wpList _ _ _ (Oper.mk (some 88) (Op.load _ _) _ _ _ _ :: _) _ _)); refine wpList_loadA_st (o := ⟨some 88, .load _ _, _, _, _, _⟩) rfl _ _ rfl rfl HS tk ag_impl_Memory lit rfl ?_)
        | ((with_reducible (show wpList _ _ _ (Oper.mk (some 100) (Op.load _ _) _ _ _ _ :: _) _ _)); refine wpList_loadA_st (o := ⟨some 100, .load _ _, _, _, _, _⟩) rfl _ _ rfl rfl HS tk ag_impl_Ring lit rfl ?_)
        | ((with_reducible (show wpList _ _ _ (Oper.mk (some 101) (Op.load _ _) _ _ _ _ :: _) _ _)); refine wpList_loadA_st (o := ⟨some 101, .load _ _, _, _, _, _⟩) rfl _ _ rfl rfl HS tk ag_impl_Ring lit rfl ?_)
        | ((with_reducible (show wpList _ _ _ (Oper.mk (some 138) (Op.load _ _) _ _ _ _ :: _) _ _)); refine wpList_loadA_st (o := ⟨some 138, .load _ _, _, _, _, _⟩) rfl _ _ rfl rfl HS tk ag_impl_Ring lit rfl ?_)
        | ((with_reducible (show wpList _ _ _ (Oper.mk (some 139) (Op.load _ _) _ _ _ _ :: _) _ _)); refine wpList_loadA_st (o := ⟨some 139, .load _ _, _, _, _, _⟩) rfl _ _ rfl rfl HS tk ag_impl_Ring lit rfl ?_))
  apply use_key4 (R := fun (w9 : World) (b16 : Nat) (A56 : Option Addr) (c56 : Nat) => St w w9 [rowA b16 [.int .i64 aR_Base, .int .i64 aR_Size, .int .i64 h9, .int .i64 aR_Tail] 29, ownA ds [.slice A56 ds.length c56], ownA aListD [.slice A47 aListD.length c47], rowA b14 [.slice A49 aMD.length c49] 27, ownA aMD [.slice A49 aMD.length c49], rowA b11 [.int .i64 aR_Base, .int .i64 aR_Size, .int .i64 h9, .int .i64 aR_Tail] 29, ownA ds [.slice A42 ds.length c42], rowA b7 [.int .i64 aR_Base, .int .i64 aR_Size, .int .i64 aR_Head, .int .i64 aR_Tail] 63, rowA b5 [.slice BB aMD.length cap2] 46])
  case h =>
    intro KEY
    refine wp_region_plan_st (HS.arr (show Arr _ [rowA b14 _ _, rowA b7 _ _] from ary)) (.early 0 (.early 1 (.early 2 (.early 3 (.fork 4 1 (.fork 5 1 (.pure 6 (.pure 7 (.pure 8 (.pure 9 (.forced 10 1 (.forced 11 2 (.forced 12 2 (.forced 13 2 .done)))))))) 10 1 (.forced 5 2 (.forced 6 2 (.pure 7 (.pure 8 (.pure 9 (.forced 11 2 (.forced 12 2 (.forced 13 2 .done))))))))) 10 1 (.forced 4 1 (.forced 5 2 (.forced 6 2 (.pure 7 (.pure 8 (.pure 9 (.forced 11 2 (.forced 12 2 (.forced 13 2 .done)))))))))))))) (by kernel_rfl) (by as_aux_lemma => kernel_rfl) ?_
    intro hne
    replace HS := HS.drew
    try go_simp
    repeat' (first
      | (with_reducible refine wpPlan_fork ?_ ?_)
      | (with_reducible refine wpPlan_forced ?_)
      | ((with_reducible (first | (show wpPlan _ _ _ _ (.early 0 _) _ _) | (show wpPlan _ _ _ _ (.early 2 _) _ _))); (first | (refine wpPlan_skipE rfl rfl ?_; (try go_simp)) | (refine wpPlan_early rfl rfl ?_; intro K hK; (first | go_big_quiet_op); (first | go_big_quiet_on | (refine ⟨_, fun _ => rfl, ?_⟩; go_big_quiet_on)))))
      | ((with_reducible ((show wpPlan _ _ _ _ (.early 1 _) _ _))); (first | (refine wpPlan_skipE rfl rfl ?_; (try go_simp)) | (refine wpPlan_early rfl rfl ?_; intro K hK; (first | ((refine quiet_loadA_st  _ _ rfl rfl tk ag_impl_Memory lit rfl ?_); (try go_simp)) | go_big_quiet_op); (first | go_big_quiet_on | (refine ⟨_, fun _ => rfl, ?_⟩; go_big_quiet_on)))))
      | ((with_reducible ((show wpPlan _ _ _ _ (.early 3 _) _ _))); (first | (refine wpPlan_skipE rfl rfl ?_; (try go_simp)) | (refine wpPlan_early rfl rfl ?_; intro K hK; (first | ((refine quiet_loadA_st  _ _ rfl rfl tk ag_laws_Ring lit rfl ?_); (try go_simp)) | go_big_quiet_op); (first | go_big_quiet_on | (refine ⟨_, fun _ => rfl, ?_⟩; go_big_quiet_on)))))
      | ((with_reducible ((show wpOne _ _ _ _ 4 1 _ _ _))); (first | (refine wpOne_skip rfl rfl ?_; (try go_simp)) | (refine wpOne_1 rfl rfl ?_; intro K hK; go_simp; (first | (go_at_call 36; (with_reducible refine (toRing_any aR_Base aR_Size aR_Head aR_Tail _).mono ?_); rintro e w' ⟨rfl, hx⟩; replace HS := HS.grow hx; clear hx)); (try go_simp); refine hK _ _ ?_ ?_; (focus (exact stw HS)); clear hK K)))
      | ((with_reducible ((show wpOne _ _ _ _ 5 1 _ _ _))); (first | (refine wpOne_skip rfl rfl ?_; (try go_simp)) | (refine wpOne_1 rfl rfl ?_; intro K hK; go_simp; (first | (go_at_call 37; (with_reducible refine (takeChain_any _ _ aListD aMD aDomain aR_Base aR_Size aR_Head aR_Tail _ (HS.holds tk) (HS.holds tk) haDomain HR.out).mono ?_); rintro e w' ⟨A56, c56, rfl, ho, hx⟩; replace HS := HS.own ho hx; clear ho hx)); (try go_simp); refine hK _ _ ?_ ?_; (focus (exact stw HS)); clear hK K)))
      | ((with_reducible ((show wpPlan _ _ _ _ (.pure _ _) _ _))); (first | (refine wpPlan_skipP rfl rfl ?_; (try go_simp)) | (refine wpPlan_pure rfl rfl ?_; intro K hK; go_big_quiet_op; (first | go_big_quiet_on | (refine ⟨_, fun _ => rfl, ?_⟩; go_big_quiet_on)))))
      | ((with_reducible ((show wpOne _ _ _ _ 10 1 _ _ _))); (first | (refine wpOne_skip rfl rfl ?_; (try go_simp)) | (refine wpOne_1 rfl rfl ?_; intro K hK; (first | (refine wp_alloc_st  _ rfl zc_impl_Ring HS ?_; clear HS; intro w16 b16 hb16 HS)); (try go_simp); refine hK _ _ ?_ ?_; (focus (exact stw HS)); clear hK K)))
      | ((with_reducible (first | (show wpOne _ _ _ _ 11 2 _ _ _) | (show wpOne _ _ _ _ 13 2 _ _ _) | (show wpOne _ _ _ _ 6 2 _ _ _))); (first | (refine wpOne_skip rfl rfl ?_; (try go_simp)) | (refine wpOne_2 rfl rfl ?_; intro K hK; go_simp; refine hK _ _ ?_; clear hK K)))
      | ((with_reducible ((show wpOne _ _ _ _ 12 2 _ _ _))); (first | (refine wpOne_skip rfl rfl ?_; (try go_simp)) | (refine wpOne_2 rfl rfl ?_; intro K hK; (first | (refine wp_store_st  _ _ _ rfl rfl (v := .agg (List.toArray _)) rfl HS tk sz_impl_Ring vcs rfx rfx (by simp) ?_ rfl; clear HS; intro w11_12 hz11_12 HS; simp only [nicL, Value.cells, List.append_nil] at HS) | (refine wp_store_st  _ _ _ rfl rfl (v := .agg _) rfl HS tk sz_impl_Ring vcs rfx rfx (by simp) ?_ rfl; clear HS; intro w11_12 hz11_12 HS; simp only [nicL, Value.cells, List.append_nil] at HS)); (try go_simp); refine hK _ _ ?_; clear hK K)))
      | ((with_reducible ((show wpOne _ _ _ _ 5 2 _ _ _))); (first | (refine wpOne_skip rfl rfl ?_; (try go_simp)) | (refine wpOne_2 rfl rfl ?_; intro K hK; go_simp; (first | (go_at_call 37; (with_reducible refine (takeChain_any _ _ aListD aMD aDomain aR_Base aR_Size aR_Head aR_Tail _ (HS.holds tk) (HS.holds tk) haDomain HR.out).mono ?_); rintro e w' ⟨A56, c56, rfl, ho, hx⟩; replace HS := HS.own ho hx; clear ho hx)); (try go_simp); refine hK _ _ ?_; clear hK K)))
      | (with_reducible refine wpPlan_done ?_))
    all_goals
      have HSz := HS.arr (show Arr _ [rowA b16 [.int .i64 aR_Base, .int .i64 aR_Size, .int .i64 h9, .int .i64 aR_Tail] 29, ownA ds [.slice A56 ds.length c56], ownA aListD [.slice A47 aListD.length c47], rowA b14 [.slice A49 aMD.length c49] 27, ownA aMD [.slice A49 aMD.length c49], rowA b11 [.int .i64 aR_Base, .int .i64 aR_Size, .int .i64 h9, .int .i64 aR_Tail] 29, ownA ds [.slice A42 ds.length c42], rowA b7 [.int .i64 aR_Base, .int .i64 aR_Size, .int .i64 aR_Head, .int .i64 aR_Tail] 63, rowA b5 [.slice BB aMD.length cap2] 46] from ary)
      have hz := KEY _ b16 A56 c56 HSz
      exact hz
  case k =>
  clear HS
  intro w9 b16 A56 c56 HS

  go_wp2_with (first
        | (go_at_call 19; (with_reducible refine (toMappingS_any _ aListD _ (k1.ex HS.ex) (by omega)).mono ?_); rintro e w' ⟨A77, c77, rfl, ho, hx⟩; replace HS := HS.own ho hx; clear ho hx)
        | (go_at_call 38; (with_reducible refine (eqDescS_same _ _ ds _ (HS.holds tk) (HS.holds tk)).mono ?_); rintro e w' ⟨rfl, hx⟩; replace HS := HS.grow hx; clear hx)
        | (go_at_call 39; (with_reducible refine (eqRing_same aR_Base aR_Size h9 aR_Tail _).mono ?_); rintro e w' ⟨rfl, hx⟩; replace HS := HS.grow hx; clear hx)
        | (go_at_call 24; (with_reducible refine (eqMappingS_same _ _ aListD _ (HS.holds tk) (HS.holds tk)).mono ?_); rintro e w' ⟨rfl, hx⟩; replace HS := HS.grow hx; clear hx)
        | ((with_reducible (show wpList _ _ _ (Oper.mk (some 5) (Op.box _ _) _ _ _ _ :: _) _ _)); refine wpList_box_st (o := ⟨some 5, .box _ _, _, _, _, _⟩) rfl _ _ rfl (v := .agg (List.toArray _)) rfl HS ?_; clear HS; intro w5 b5 hb5 HS; simp only [Value.cells] at HS)
        | ((with_reducible (show wpList _ _ _ (Oper.mk (some 5) (Op.box _ _) _ _ _ _ :: _) _ _)); refine wpList_box_st (o := ⟨some 5, .box _ _, _, _, _, _⟩) rfl _ _ rfl (v := .agg _) rfl HS ?_; clear HS; intro w5 b5 hb5 HS; simp only [Value.cells] at HS)
        | ((with_reducible (show wpList _ _ _ (Oper.mk (some 7) (Op.box _ _) _ _ _ _ :: _) _ _)); refine wpList_box_st (o := ⟨some 7, .box _ _, _, _, _, _⟩) rfl _ _ rfl (v := .agg (List.toArray _)) rfl HS ?_; clear HS; intro w7 b7 hb7 HS; simp only [Value.cells] at HS)
        | ((with_reducible (show wpList _ _ _ (Oper.mk (some 7) (Op.box _ _) _ _ _ _ :: _) _ _)); refine wpList_box_st (o := ⟨some 7, .box _ _, _, _, _, _⟩) rfl _ _ rfl (v := .agg _) rfl HS ?_; clear HS; intro w7 b7 hb7 HS; simp only [Value.cells] at HS)
        | ((with_reducible (show wpList _ _ _ (Oper.mk (some 29) (Op.load _ _) _ _ _ _ :: _) _ _)); refine wpList_loadA_st (o := ⟨some 29, .load _ _, _, _, _, _⟩) rfl _ _ rfl rfl HS tk ag_laws_Memory lit rfl ?_)
        | ((with_reducible (show wpList _ _ _ (Oper.mk (some 48) (Op.load _ _) _ _ _ _ :: _) _ _)); refine wpList_loadA_st (o := ⟨some 48, .load _ _, _, _, _, _⟩) rfl _ _ rfl rfl HS tk ag_laws_Memory lit rfl ?_)
        | ((with_reducible (show wpList _ _ _ (Oper.mk (some 14) (Op.alloc _) _ _ _ _ :: _) _ _)); refine wpList_alloc_st (o := ⟨some 14, .alloc _, _, _, _, _⟩) rfl _ rfl zc_impl_Memory HS ?_; clear HS; intro w14 b14 hb14 HS)
        | ((with_reducible (show wpList _ _ _ (Oper.mk none (Op.store _ (.tmp 14) _) _ _ _ _ :: _) _ _)); refine wpList_store_st (o := ⟨none, .store _ (.tmp 14) _, _, _, _, _⟩) rfl _ _ _ rfl rfl (v := .agg (List.toArray _)) rfl HS tk sz_impl_Memory vcs rfx rfx (by simp) ?_ rfl; clear HS; intro w10_3 hz10_3 HS; simp only [nicL, Value.cells, List.append_nil] at HS)
        | ((with_reducible (show wpList _ _ _ (Oper.mk none (Op.store _ (.tmp 14) _) _ _ _ _ :: _) _ _)); refine wpList_store_st (o := ⟨none, .store _ (.tmp 14) _, _, _, _, _⟩) rfl _ _ _ rfl rfl (v := .agg _) rfl HS tk sz_impl_Memory vcs rfx rfx (by simp) ?_ rfl; clear HS; intro w10_3 hz10_3 HS; simp only [nicL, Value.cells, List.append_nil] at HS)
        | ((with_reducible (show wpList _ _ _ (Oper.mk (some 65) (Op.load _ _) _ _ _ _ :: _) _ _)); refine wpList_loadA_st (o := ⟨some 65, .load _ _, _, _, _, _⟩) rfl _ _ rfl rfl HS tk ag_impl_Ring lit rfl ?_)
        | ((with_reducible (show wpList _ _ _ (Oper.mk (some 66) (Op.load _ _) _ _ _ _ :: _) _ _)); refine wpList_loadA_st (o := ⟨some 66, .load _ _, _, _, _, _⟩) rfl _ _ rfl rfl HS tk ag_impl_Ring lit rfl ?_)
        | ((with_reducible (show wpList _ _ _ (Oper.mk (some 88) (Op.load _ _) _ _ _ _ :: _) _ _)); refine wpList_loadA_st (o := ⟨some 88, .load _ _, _, _, _, _⟩) rfl _ _ rfl rfl HS tk ag_impl_Memory lit rfl ?_)
        | ((with_reducible (show wpList _ _ _ (Oper.mk (some 100) (Op.load _ _) _ _ _ _ :: _) _ _)); refine wpList_loadA_st (o := ⟨some 100, .load _ _, _, _, _, _⟩) rfl _ _ rfl rfl HS tk ag_impl_Ring lit rfl ?_)
        | ((with_reducible (show wpList _ _ _ (Oper.mk (some 101) (Op.load _ _) _ _ _ _ :: _) _ _)); refine wpList_loadA_st (o := ⟨some 101, .load _ _, _, _, _, _⟩) rfl _ _ rfl rfl HS tk ag_impl_Ring lit rfl ?_)
        | ((with_reducible (show wpList _ _ _ (Oper.mk (some 138) (Op.load _ _) _ _ _ _ :: _) _ _)); refine wpList_loadA_st (o := ⟨some 138, .load _ _, _, _, _, _⟩) rfl _ _ rfl rfl HS tk ag_impl_Ring lit rfl ?_)
        | ((with_reducible (show wpList _ _ _ (Oper.mk (some 139) (Op.load _ _) _ _ _ _ :: _) _ _)); refine wpList_loadA_st (o := ⟨some 139, .load _ _, _, _, _, _⟩) rfl _ _ rfl rfl HS tk ag_impl_Ring lit rfl ?_))
  refine wp_region_plan_st (HS.arr (show Arr _ [rowA b14 _ _, rowA b5 _ _] from ary)) (.early 0 (.forced 1 1 (.forced 2 1 (.forced 3 2 (.forced 4 2 .done))))) (by kernel_rfl) (by as_aux_lemma => kernel_rfl) ?_
  intro hne
  replace HS := HS.drew
  try go_simp
  repeat' (first
    | (with_reducible refine wpPlan_forced ?_)
    | ((with_reducible ((show wpPlan _ _ _ _ (.early 0 _) _ _))); (first | (refine wpPlan_skipE rfl rfl ?_; (try go_simp)) | (refine wpPlan_early rfl rfl ?_; intro K hK; (first | ((refine quiet_loadA_st  _ _ rfl rfl tk ag_impl_Memory lit rfl ?_); (try go_simp)) | go_big_quiet_op); (first | go_big_quiet_on | (refine ⟨_, fun _ => rfl, ?_⟩; go_big_quiet_on)))))
    | ((with_reducible ((show wpOne _ _ _ _ 1 1 _ _ _))); (first | (refine wpOne_skip rfl rfl ?_; (try go_simp)) | (refine wpOne_1 rfl rfl ?_; intro K hK; (first | (refine wp_loadA_st  _ _ rfl rfl HS tk ag_laws_Memory lit rfl ?_)); (try go_simp); refine hK _ _ ?_ ?_; (focus (exact stw HS)); clear hK K)))
    | ((with_reducible ((show wpOne _ _ _ _ 2 1 _ _ _))); (first | (refine wpOne_skip rfl rfl ?_; (try go_simp)) | (refine wpOne_1 rfl rfl ?_; intro K hK; go_simp; (first | (go_at_call 20; (with_reducible refine (toMemory_any _ aMD _ (k2.ex HS.ex) (by omega)).mono ?_); rintro e w' ⟨A82, c82, rfl, ho, hx⟩; replace HS := HS.own ho hx; clear ho hx)); (try go_simp); refine hK _ _ ?_ ?_; (focus (exact stw HS)); clear hK K)))
    | ((with_reducible ((show wpOne _ _ _ _ 3 2 _ _ _))); (first | (refine wpOne_skip rfl rfl ?_; (try go_simp)) | (refine wpOne_2 rfl rfl ?_; intro K hK; go_simp; (first | (go_at_call 25; (with_reducible refine (eqMemory_same _ _ _ _ (HS.holds tk) (HS.holds tk)).mono ?_); rintro e w' ⟨rfl, hx⟩; replace HS := HS.grow hx; clear hx)); (try go_simp); refine hK _ _ ?_; clear hK K)))
    | ((with_reducible ((show wpOne _ _ _ _ 4 2 _ _ _))); (first | (refine wpOne_skip rfl rfl ?_; (try go_simp)) | (refine wpOne_2 rfl rfl ?_; intro K hK; go_simp; refine hK _ _ ?_; clear hK K)))
    | (with_reducible refine wpPlan_done ?_))
  go_wp2_with (first
        | (go_at_call 25; (with_reducible refine (eqMemory_same _ _ _ _ (HS.holds tk) (HS.holds tk)).mono ?_); rintro e w' ⟨rfl, hx⟩; replace HS := HS.grow hx; clear hx)
        | (go_at_call 38; (with_reducible refine (eqDescS_same _ _ ds _ (HS.holds tk) (HS.holds tk)).mono ?_); rintro e w' ⟨rfl, hx⟩; replace HS := HS.grow hx; clear hx)
        | (go_at_call 39; (with_reducible refine (eqRing_same aR_Base aR_Size h9 aR_Tail _).mono ?_); rintro e w' ⟨rfl, hx⟩; replace HS := HS.grow hx; clear hx)
        | (go_at_call 28; (with_reducible refine (markMappingS_i 1 (HS.take tk) (by omega) (by omega)).mono ?_); rintro e w' ⟨rfl, HS9⟩; clear HS; have HS := HS9; clear HS9)
        | (go_at_call 29; (with_reducible refine (markMemory_i (ps := aMD) (1 + 4 * aListD.length) (HS.take tk) (by omega) (by omega) (by omega)).mono ?_); rintro e w' ⟨rfl, HS9⟩; clear HS; have HS := HS9; clear HS9)
        | (go_at_call 40; (with_reducible refine (markDescS_st _ ds 1 _ (HS.take tk) (by omega) (by omega) (by omega)).mono ?_); rintro e w' ⟨rfl, HS9⟩; clear HS; have HS := HS9; clear HS9)
        | (go_at_call 41; (with_reducible refine (heldDescS_any _ ds.length 1 _ (HS.holds tk) (by omega) (by omega) (by omega)).mono ?_); rintro e w' ⟨rfl, hx⟩; replace HS := HS.grow hx; clear hx)
        | ((with_reducible (show wpList _ _ _ (Oper.mk (some 5) (Op.box _ _) _ _ _ _ :: _) _ _)); refine wpList_box_st (o := ⟨some 5, .box _ _, _, _, _, _⟩) rfl _ _ rfl (v := .agg (List.toArray _)) rfl HS ?_; clear HS; intro w5 b5 hb5 HS; simp only [Value.cells] at HS)
        | ((with_reducible (show wpList _ _ _ (Oper.mk (some 5) (Op.box _ _) _ _ _ _ :: _) _ _)); refine wpList_box_st (o := ⟨some 5, .box _ _, _, _, _, _⟩) rfl _ _ rfl (v := .agg _) rfl HS ?_; clear HS; intro w5 b5 hb5 HS; simp only [Value.cells] at HS)
        | ((with_reducible (show wpList _ _ _ (Oper.mk (some 7) (Op.box _ _) _ _ _ _ :: _) _ _)); refine wpList_box_st (o := ⟨some 7, .box _ _, _, _, _, _⟩) rfl _ _ rfl (v := .agg (List.toArray _)) rfl HS ?_; clear HS; intro w7 b7 hb7 HS; simp only [Value.cells] at HS)
        | ((with_reducible (show wpList _ _ _ (Oper.mk (some 7) (Op.box _ _) _ _ _ _ :: _) _ _)); refine wpList_box_st (o := ⟨some 7, .box _ _, _, _, _, _⟩) rfl _ _ rfl (v := .agg _) rfl HS ?_; clear HS; intro w7 b7 hb7 HS; simp only [Value.cells] at HS)
        | ((with_reducible (show wpList _ _ _ (Oper.mk (some 29) (Op.load _ _) _ _ _ _ :: _) _ _)); refine wpList_loadA_st (o := ⟨some 29, .load _ _, _, _, _, _⟩) rfl _ _ rfl rfl HS tk ag_laws_Memory lit rfl ?_)
        | ((with_reducible (show wpList _ _ _ (Oper.mk (some 48) (Op.load _ _) _ _ _ _ :: _) _ _)); refine wpList_loadA_st (o := ⟨some 48, .load _ _, _, _, _, _⟩) rfl _ _ rfl rfl HS tk ag_laws_Memory lit rfl ?_)
        | ((with_reducible (show wpList _ _ _ (Oper.mk (some 14) (Op.alloc _) _ _ _ _ :: _) _ _)); refine wpList_alloc_st (o := ⟨some 14, .alloc _, _, _, _, _⟩) rfl _ rfl zc_impl_Memory HS ?_; clear HS; intro w14 b14 hb14 HS)
        | ((with_reducible (show wpList _ _ _ (Oper.mk none (Op.store _ (.tmp 14) _) _ _ _ _ :: _) _ _)); refine wpList_store_st (o := ⟨none, .store _ (.tmp 14) _, _, _, _, _⟩) rfl _ _ _ rfl rfl (v := .agg (List.toArray _)) rfl HS tk sz_impl_Memory vcs rfx rfx (by simp) ?_ rfl; clear HS; intro w10_3 hz10_3 HS; simp only [nicL, Value.cells, List.append_nil] at HS)
        | ((with_reducible (show wpList _ _ _ (Oper.mk none (Op.store _ (.tmp 14) _) _ _ _ _ :: _) _ _)); refine wpList_store_st (o := ⟨none, .store _ (.tmp 14) _, _, _, _, _⟩) rfl _ _ _ rfl rfl (v := .agg _) rfl HS tk sz_impl_Memory vcs rfx rfx (by simp) ?_ rfl; clear HS; intro w10_3 hz10_3 HS; simp only [nicL, Value.cells, List.append_nil] at HS)
        | ((with_reducible (show wpList _ _ _ (Oper.mk (some 65) (Op.load _ _) _ _ _ _ :: _) _ _)); refine wpList_loadA_st (o := ⟨some 65, .load _ _, _, _, _, _⟩) rfl _ _ rfl rfl HS tk ag_impl_Ring lit rfl ?_)
        | ((with_reducible (show wpList _ _ _ (Oper.mk (some 66) (Op.load _ _) _ _ _ _ :: _) _ _)); refine wpList_loadA_st (o := ⟨some 66, .load _ _, _, _, _, _⟩) rfl _ _ rfl rfl HS tk ag_impl_Ring lit rfl ?_)
        | ((with_reducible (show wpList _ _ _ (Oper.mk (some 88) (Op.load _ _) _ _ _ _ :: _) _ _)); refine wpList_loadA_st (o := ⟨some 88, .load _ _, _, _, _, _⟩) rfl _ _ rfl rfl HS tk ag_impl_Memory lit rfl ?_)
        | ((with_reducible (show wpList _ _ _ (Oper.mk (some 100) (Op.load _ _) _ _ _ _ :: _) _ _)); refine wpList_loadA_st (o := ⟨some 100, .load _ _, _, _, _, _⟩) rfl _ _ rfl rfl HS tk ag_impl_Ring lit rfl ?_)
        | ((with_reducible (show wpList _ _ _ (Oper.mk (some 101) (Op.load _ _) _ _ _ _ :: _) _ _)); refine wpList_loadA_st (o := ⟨some 101, .load _ _, _, _, _, _⟩) rfl _ _ rfl rfl HS tk ag_impl_Ring lit rfl ?_)
        | ((with_reducible (show wpList _ _ _ (Oper.mk (some 138) (Op.load _ _) _ _ _ _ :: _) _ _)); refine wpList_loadA_st (o := ⟨some 138, .load _ _, _, _, _, _⟩) rfl _ _ rfl rfl HS tk ag_impl_Ring lit rfl ?_)
        | ((with_reducible (show wpList _ _ _ (Oper.mk (some 139) (Op.load _ _) _ _ _ _ :: _) _ _)); refine wpList_loadA_st (o := ⟨some 139, .load _ _, _, _, _, _⟩) rfl _ _ rfl rfl HS tk ag_impl_Ring lit rfl ?_))
  apply use_key8 (R := fun (w9 : World) (b22 : Nat) (A123 : Option Addr) (c123 : Nat) (A125 : Option Addr) (c125 : Nat) (A129 : Option Addr) (c129 : Nat) => St w w9 [rowA b22 [.int .i64 aR_Base, .int .i64 aR_Size, .int .i64 h9, .int .i64 aR_Tail] 29, ownA ds [.slice A129 ds.length c129], rowA b16 [.int .i64 aR_Base, .int .i64 aR_Size, .int .i64 h9, .int .i64 aR_Tail] 29, ownA (mklDesc ds.length 1) [.slice A56 ds.length c56], rowA b11 [.int .i64 aR_Base, .int .i64 aR_Size, .int .i64 h9, .int .i64 aR_Tail] 29, ownA ds [.slice A42 ds.length c42], rowA b7 [.int .i64 aR_Base, .int .i64 aR_Size, .int .i64 aR_Head, .int .i64 aR_Tail] 63, rowA b5 [.slice BB aMD.length cap2] 46])
  case h =>
    intro KEY
    refine wp_region_plan_st (HS.arr (show Arr _ [rowA b5 _ _, rowA b7 _ _] from ary)) (.early 0 (.early 2 (.early 4 (.early 5 (.fork 1 1 (.fork 3 1 (.fork 6 1 (.fork 7 1 (.pure 8 (.pure 9 (.pure 10 (.pure 11 (.forced 12 1 (.forced 13 2 (.forced 14 2 (.forced 15 2 .done)))))))) 12 1 (.forced 7 2 (.forced 8 2 (.pure 9 (.pure 10 (.pure 11 (.forced 13 2 (.forced 14 2 (.forced 15 2 .done))))))))) 12 1 (.forced 6 1 (.forced 7 2 (.forced 8 2 (.pure 9 (.pure 10 (.pure 11 (.forced 13 2 (.forced 14 2 (.forced 15 2 .done)))))))))) 12 1 (.forced 3 1 (.forced 6 1 (.forced 7 2 (.forced 8 2 (.pure 9 (.pure 10 (.pure 11 (.forced 13 2 (.forced 14 2 (.forced 15 2 .done))))))))))) 12 1 (.forced 1 1 (.forced 3 1 (.forced 6 1 (.forced 7 2 (.forced 8 2 (.pure 9 (.pure 10 (.pure 11 (.forced 13 2 (.forced 14 2 (.forced 15 2 .done)))))))))))))))) (by kernel_rfl) (by as_aux_lemma => kernel_rfl) ?_
    intro hne
    replace HS := HS.drew
    try go_simp
    repeat' (first
      | (with_reducible refine wpPlan_fork ?_ ?_)
      | (with_reducible refine wpPlan_forced ?_)
      | ((with_reducible (first | (show wpPlan _ _ _ _ (.early 0 _) _ _) | (show wpPlan _ _ _ _ (.early 4 _) _ _))); (first | (refine wpPlan_skipE rfl rfl ?_; (try go_simp)) | (refine wpPlan_early rfl rfl ?_; intro K hK; (first | go_big_quiet_op); (first | go_big_quiet_on | (refine ⟨_, fun _ => rfl, ?_⟩; go_big_quiet_on)))))
      | ((with_reducible ((show wpPlan _ _ _ _ (.early 2 _) _ _))); (first | (refine wpPlan_skipE rfl rfl ?_; (try go_simp)) | (refine wpPlan_early rfl rfl ?_; intro K hK; (first | ((refine quiet_loadA_st  _ _ rfl rfl tk ag_laws_Memory lit rfl ?_); (try go_simp)) | go_big_quiet_op); (first | go_big_quiet_on | (refine ⟨_, fun _ => rfl, ?_⟩; go_big_quiet_on)))))
      | ((with_reducible ((show wpPlan _ _ _ _ (.early 5 _) _ _))); (first | (refine wpPlan_skipE rfl rfl ?_; (try go_simp)) | (refine wpPlan_early rfl rfl ?_; intro K hK; (first | ((refine quiet_loadA_st  _ _ rfl rfl tk ag_laws_Ring lit rfl ?_); (try go_simp)) | go_big_quiet_op); (first | go_big_quiet_on | (refine ⟨_, fun _ => rfl, ?_⟩; go_big_quiet_on)))))
      | ((with_reducible ((show wpOne _ _ _ _ 1 1 _ _ _))); (first | (refine wpOne_skip rfl rfl ?_; (try go_simp)) | (refine wpOne_1 rfl rfl ?_; intro K hK; go_simp; (first | (go_at_call 19; (with_reducible refine (toMappingS_any _ aListD _ (k1.ex HS.ex) (by omega)).mono ?_); rintro e w' ⟨A123, c123, rfl, ho, hx⟩; replace HS := HS.own ho hx; clear ho hx)); (try go_simp); refine hK _ _ ?_ ?_; (focus (exact stw HS)); clear hK K)))
      | ((with_reducible ((show wpOne _ _ _ _ 3 1 _ _ _))); (first | (refine wpOne_skip rfl rfl ?_; (try go_simp)) | (refine wpOne_1 rfl rfl ?_; intro K hK; go_simp; (first | (go_at_call 20; (with_reducible refine (toMemory_any _ aMD _ (k2.ex HS.ex) (by omega)).mono ?_); rintro e w' ⟨A125, c125, rfl, ho, hx⟩; replace HS := HS.own ho hx; clear ho hx)); (try go_simp); refine hK _ _ ?_ ?_; (focus (exact stw HS)); clear hK K)))
      | ((with_reducible ((show wpOne _ _ _ _ 6 1 _ _ _))); (first | (refine wpOne_skip rfl rfl ?_; (try go_simp)) | (refine wpOne_1 rfl rfl ?_; intro K hK; go_simp; (first | (go_at_call 36; (with_reducible refine (toRing_any aR_Base aR_Size aR_Head aR_Tail _).mono ?_); rintro e w' ⟨rfl, hx⟩; replace HS := HS.grow hx; clear hx)); (try go_simp); refine hK _ _ ?_ ?_; (focus (exact stw HS)); clear hK K)))
      | ((with_reducible ((show wpOne _ _ _ _ 7 1 _ _ _))); (first | (refine wpOne_skip rfl rfl ?_; (try go_simp)) | (refine wpOne_1 rfl rfl ?_; intro K hK; go_simp; (first | (go_at_call 37; (with_reducible refine (takeChain_any _ _ aListD aMD aDomain aR_Base aR_Size aR_Head aR_Tail _ (HS.holds tk) (HS.holds tk) haDomain HR.out).mono ?_); rintro e w' ⟨A129, c129, rfl, ho, hx⟩; replace HS := HS.own ho hx; clear ho hx)); (try go_simp); refine hK _ _ ?_ ?_; (focus (exact stw HS)); clear hK K)))
      | ((with_reducible ((show wpPlan _ _ _ _ (.pure _ _) _ _))); (first | (refine wpPlan_skipP rfl rfl ?_; (try go_simp)) | (refine wpPlan_pure rfl rfl ?_; intro K hK; go_big_quiet_op; (first | go_big_quiet_on | (refine ⟨_, fun _ => rfl, ?_⟩; go_big_quiet_on)))))
      | ((with_reducible ((show wpOne _ _ _ _ 12 1 _ _ _))); (first | (refine wpOne_skip rfl rfl ?_; (try go_simp)) | (refine wpOne_1 rfl rfl ?_; intro K hK; (first | (refine wp_alloc_st  _ rfl zc_impl_Ring HS ?_; clear HS; intro w22 b22 hb22 HS)); (try go_simp); refine hK _ _ ?_ ?_; (focus (exact stw HS)); clear hK K)))
      | ((with_reducible (first | (show wpOne _ _ _ _ 13 2 _ _ _) | (show wpOne _ _ _ _ 15 2 _ _ _) | (show wpOne _ _ _ _ 8 2 _ _ _))); (first | (refine wpOne_skip rfl rfl ?_; (try go_simp)) | (refine wpOne_2 rfl rfl ?_; intro K hK; go_simp; refine hK _ _ ?_; clear hK K)))
      | ((with_reducible ((show wpOne _ _ _ _ 14 2 _ _ _))); (first | (refine wpOne_skip rfl rfl ?_; (try go_simp)) | (refine wpOne_2 rfl rfl ?_; intro K hK; (first | (refine wp_store_st  _ _ _ rfl rfl (v := .agg (List.toArray _)) rfl HS tk sz_impl_Ring vcs rfx rfx (by simp) ?_ rfl; clear HS; intro w31_14 hz31_14 HS; simp only [nicL, Value.cells, List.append_nil] at HS) | (refine wp_store_st  _ _ _ rfl rfl (v := .agg _) rfl HS tk sz_impl_Ring vcs rfx rfx (by simp) ?_ rfl; clear HS; intro w31_14 hz31_14 HS; simp only [nicL, Value.cells, List.append_nil] at HS)); (try go_simp); refine hK _ _ ?_; clear hK K)))
      | ((with_reducible ((show wpOne _ _ _ _ 7 2 _ _ _))); (first | (refine wpOne_skip rfl rfl ?_; (try go_simp)) | (refine wpOne_2 rfl rfl ?_; intro K hK; go_simp; (first | (go_at_call 37; (with_reducible refine (takeChain_any _ _ aListD aMD aDomain aR_Base aR_Size aR_Head aR_Tail _ (HS.holds tk) (HS.holds tk) haDomain HR.out).mono ?_); rintro e w' ⟨A129, c129, rfl, ho, hx⟩; replace HS := HS.own ho hx; clear ho hx)); (try go_simp); refine hK _ _ ?_; clear hK K)))
      | (with_reducible refine wpPlan_done ?_))
    all_goals
      have HSz := HS.arr (show Arr _ [rowA b22 [.int .i64 aR_Base, .int .i64 aR_Size, .int .i64 h9, .int .i64 aR_Tail] 29, ownA ds [.slice A129 ds.length c129], rowA b16 [.int .i64 aR_Base, .int .i64 aR_Size, .int .i64 h9, .int .i64 aR_Tail] 29, ownA (mklDesc ds.length 1) [.slice A56 ds.length c56], rowA b11 [.int .i64 aR_Base, .int .i64 aR_Size, .int .i64 h9, .int .i64 aR_Tail] 29, ownA ds [.slice A42 ds.length c42], rowA b7 [.int .i64 aR_Base, .int .i64 aR_Size, .int .i64 aR_Head, .int .i64 aR_Tail] 63, rowA b5 [.slice BB aMD.length cap2] 46] from ary)
      have hz := KEY _ b22 A123 c123 A125 c125 A129 c129 HSz
      exact hz
  case k =>
  clear HS
  intro w9 b22 A123 c123 A125 c125 A129 c129 HS

  go_wp2_with (first
        | (go_at_call 38; (with_reducible refine (eqDescS_same _ _ ds _ (HS.holds tk) (HS.holds tk)).mono ?_); rintro e w' ⟨rfl, hx⟩; replace HS := HS.grow hx; clear hx)
        | (go_at_call 39; (with_reducible refine (eqRing_same aR_Base aR_Size h9 aR_Tail _).mono ?_); rintro e w' ⟨rfl, hx⟩; replace HS := HS.grow hx; clear hx)
        | (go_at_call 41; (with_reducible refine (heldDescS_any _ ds.length 1 _ (HS.holds tk) (by omega) (by omega) (by omega)).mono ?_); rintro e w' ⟨rfl, hx⟩; replace HS := HS.grow hx; clear hx)
        | ((with_reducible (show wpList _ _ _ (Oper.mk (some 5) (Op.box _ _) _ _ _ _ :: _) _ _)); refine wpList_box_st (o := ⟨some 5, .box _ _, _, _, _, _⟩) rfl _ _ rfl (v := .agg (List.toArray _)) rfl HS ?_; clear HS; intro w5 b5 hb5 HS; simp only [Value.cells] at HS)
        | ((with_reducible (show wpList _ _ _ (Oper.mk (some 5) (Op.box _ _) _ _ _ _ :: _) _ _)); refine wpList_box_st (o := ⟨some 5, .box _ _, _, _, _, _⟩) rfl _ _ rfl (v := .agg _) rfl HS ?_; clear HS; intro w5 b5 hb5 HS; simp only [Value.cells] at HS)
        | ((with_reducible (show wpList _ _ _ (Oper.mk (some 7) (Op.box _ _) _ _ _ _ :: _) _ _)); refine wpList_box_st (o := ⟨some 7, .box _ _, _, _, _, _⟩) rfl _ _ rfl (v := .agg (List.toArray _)) rfl HS ?_; clear HS; intro w7 b7 hb7 HS; simp only [Value.cells] at HS)
        | ((with_reducible (show wpList _ _ _ (Oper.mk (some 7) (Op.box _ _) _ _ _ _ :: _) _ _)); refine wpList_box_st (o := ⟨some 7, .box _ _, _, _, _, _⟩) rfl _ _ rfl (v := .agg _) rfl HS ?_; clear HS; intro w7 b7 hb7 HS; simp only [Value.cells] at HS)
        | ((with_reducible (show wpList _ _ _ (Oper.mk (some 29) (Op.load _ _) _ _ _ _ :: _) _ _)); refine wpList_loadA_st (o := ⟨some 29, .load _ _, _, _, _, _⟩) rfl _ _ rfl rfl HS tk ag_laws_Memory lit rfl ?_)
        | ((with_reducible (show wpList _ _ _ (Oper.mk (some 48) (Op.load _ _) _ _ _ _ :: _) _ _)); refine wpList_loadA_st (o := ⟨some 48, .load _ _, _, _, _, _⟩) rfl _ _ rfl rfl HS tk ag_laws_Memory lit rfl ?_)
        | ((with_reducible (show wpList _ _ _ (Oper.mk (some 14) (Op.alloc _) _ _ _ _ :: _) _ _)); refine wpList_alloc_st (o := ⟨some 14, .alloc _, _, _, _, _⟩) rfl _ rfl zc_impl_Memory HS ?_; clear HS; intro w14 b14 hb14 HS)
        | ((with_reducible (show wpList _ _ _ (Oper.mk none (Op.store _ (.tmp 14) _) _ _ _ _ :: _) _ _)); refine wpList_store_st (o := ⟨none, .store _ (.tmp 14) _, _, _, _, _⟩) rfl _ _ _ rfl rfl (v := .agg (List.toArray _)) rfl HS tk sz_impl_Memory vcs rfx rfx (by simp) ?_ rfl; clear HS; intro w10_3 hz10_3 HS; simp only [nicL, Value.cells, List.append_nil] at HS)
        | ((with_reducible (show wpList _ _ _ (Oper.mk none (Op.store _ (.tmp 14) _) _ _ _ _ :: _) _ _)); refine wpList_store_st (o := ⟨none, .store _ (.tmp 14) _, _, _, _, _⟩) rfl _ _ _ rfl rfl (v := .agg _) rfl HS tk sz_impl_Memory vcs rfx rfx (by simp) ?_ rfl; clear HS; intro w10_3 hz10_3 HS; simp only [nicL, Value.cells, List.append_nil] at HS)
        | ((with_reducible (show wpList _ _ _ (Oper.mk (some 65) (Op.load _ _) _ _ _ _ :: _) _ _)); refine wpList_loadA_st (o := ⟨some 65, .load _ _, _, _, _, _⟩) rfl _ _ rfl rfl HS tk ag_impl_Ring lit rfl ?_)
        | ((with_reducible (show wpList _ _ _ (Oper.mk (some 66) (Op.load _ _) _ _ _ _ :: _) _ _)); refine wpList_loadA_st (o := ⟨some 66, .load _ _, _, _, _, _⟩) rfl _ _ rfl rfl HS tk ag_impl_Ring lit rfl ?_)
        | ((with_reducible (show wpList _ _ _ (Oper.mk (some 88) (Op.load _ _) _ _ _ _ :: _) _ _)); refine wpList_loadA_st (o := ⟨some 88, .load _ _, _, _, _, _⟩) rfl _ _ rfl rfl HS tk ag_impl_Memory lit rfl ?_)
        | ((with_reducible (show wpList _ _ _ (Oper.mk (some 100) (Op.load _ _) _ _ _ _ :: _) _ _)); refine wpList_loadA_st (o := ⟨some 100, .load _ _, _, _, _, _⟩) rfl _ _ rfl rfl HS tk ag_impl_Ring lit rfl ?_)
        | ((with_reducible (show wpList _ _ _ (Oper.mk (some 101) (Op.load _ _) _ _ _ _ :: _) _ _)); refine wpList_loadA_st (o := ⟨some 101, .load _ _, _, _, _, _⟩) rfl _ _ rfl rfl HS tk ag_impl_Ring lit rfl ?_)
        | ((with_reducible (show wpList _ _ _ (Oper.mk (some 138) (Op.load _ _) _ _ _ _ :: _) _ _)); refine wpList_loadA_st (o := ⟨some 138, .load _ _, _, _, _, _⟩) rfl _ _ rfl rfl HS tk ag_impl_Ring lit rfl ?_)
        | ((with_reducible (show wpList _ _ _ (Oper.mk (some 139) (Op.load _ _) _ _ _ _ :: _) _ _)); refine wpList_loadA_st (o := ⟨some 139, .load _ _, _, _, _, _⟩) rfl _ _ rfl rfl HS tk ag_impl_Ring lit rfl ?_))
  go_ret
  exact ⟨rfl, HS.ex⟩

end Go.Proofs.Ytelkplponnfkpaa

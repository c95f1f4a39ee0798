/- The laws' helpers over slices of Desc. -/
import Derived.Test.YtelkplponnfkpaaRows
import Derived.Test.YtelkplponnfkpaaMLaw2
import Derived.Test.YtelkplponnfkpaaStc
import Derived.Test.YtelkplponnfkpaaElem
import Derived.Test.YtelkplponnfkpaaTk
namespace Go.Proofs.Ytelkplponnfkpaa
open Go.RowKit
set_option linter.unusedVariables false
set_option linter.unusedSimpArgs false

abbrev DtDesc := Int × Int × Int × Int × Int × Int
set_option maxRecDepth 100000 in
set_option maxHeartbeats 4000000 in
theorem eqDescS_same (v1 v2 : Value) (l : List DtDesc) (w : World) (k1 : Holds w l [v1]) (k2 : Holds w l [v2]) :
    Calls Try.prog 38 #[v1, v2] w fun e w' => e = .returned (.bool true) ∧ Ex w w' := by
  obtain ⟨AA, cap, rfl, z1, z2⟩ := k1.fl
  unfold maxLen at z2
  obtain ⟨BB, cap2, rfl, y1, y2⟩ := k2.fl
  unfold maxLen at y2
  have HS := St.start w
  go_enter Try.func38, Try.ntmps38
  go_wp2
  go_loopw [5] (fun i wr => ∃ k : Nat, k ≤ l.length ∧ i = .int .i64 k ∧ St w wr []) (fun i _ => l.length - (intOf i).toNat)
  case atStart => exact ⟨0, Nat.zero_le _, rfl, (HS.arr (by repeat (first | exact Arr.nil | (with_reducible exact take_all _) | (refine Arr.cons tk ?_) | (refine arr_skip ?_))))⟩
  case round =>
    clear HS
    obtain ⟨k, hkl, rfl, HS⟩ := hrel
    by_cases hlt : k < l.length
    case pos =>
      obtain ⟨b, off, rfl⟩ := k1.flA (by omega)
      obtain ⟨b', off', rfl⟩ := k2.flA (by omega)
      have HK := hid (List.getElem?_eq_getElem hlt)
      generalize l[k] = x at *
      obtain ⟨x_Op, x_Flags, x_Len, x_At, x_Size, x_Cookie⟩ := x
      go_wp2
      refine wp_region_plan_st HS (.early 0 (.early 1 (.early 2 (.early 3 (.early 4 (.forced 5 1 (.forced 6 1 (.forced 7 1 (.forced 8 2 (.forced 9 2 .done)))))))))) (by kernel_rfl) (by as_aux_lemma => kernel_rfl) ?_
      intro hne
      replace HS := HS.drew
      try go_simp
      repeat' (first
        | (with_reducible refine wpPlan_forced ?_)
        | ((with_reducible (first | (show wpPlan _ _ _ _ (.early 0 _) _ _) | (show wpPlan _ _ _ _ (.early 1 _) _ _) | (show wpPlan _ _ _ _ (.early 2 _) _ _) | (show wpPlan _ _ _ _ (.early 4 _) _ _))); (first | (refine wpPlan_skipE rfl rfl ?_; (try go_simp)) | (refine wpPlan_early rfl rfl ?_; intro K hK; (first | go_big_quiet_op); (first | go_big_quiet_on | (refine ⟨_, fun _ => rfl, ?_⟩; go_big_quiet_on)))))
        | ((with_reducible ((show wpPlan _ _ _ _ (.early 3 _) _ _))); (first | (refine wpPlan_skipE rfl rfl ?_; (try go_simp)) | (refine wpPlan_early rfl rfl ?_; intro K hK; (first | ((refine quiet_loadH  _ _ rfl rfl (fun _ hs => k1.ex hs.ex) HK.out (by first | rfl | (simp; done) | omega) ag_impl_Desc rfl flt ?_); (try go_simp)) | go_big_quiet_op); (first | go_big_quiet_on | (refine ⟨_, fun _ => rfl, ?_⟩; go_big_quiet_on)))))
        | ((with_reducible (first | (show wpOne _ _ _ _ 5 1 _ _ _) | (show wpOne _ _ _ _ 6 1 _ _ _))); (first | (refine wpOne_skip rfl rfl ?_; (try go_simp)) | (refine wpOne_1 rfl rfl ?_; intro K hK; go_simp; refine hK _ _ ?_ ?_; (focus (exact stw HS)); clear hK K)))
        | ((with_reducible ((show wpOne _ _ _ _ 7 1 _ _ _))); (first | (refine wpOne_skip rfl rfl ?_; (try go_simp)) | (refine wpOne_1 rfl rfl ?_; intro K hK; (first | (refine wp_loadH  _ _ rfl rfl HS (fun _ hs => k2.ex hs.ex) HK.out (by first | rfl | (simp; done) | omega) ag_impl_Desc rfl flt ?_)); (try go_simp); refine hK _ _ ?_ ?_; (focus (exact stw HS)); clear hK K)))
        | ((with_reducible ((show wpOne _ _ _ _ 8 2 _ _ _))); (first | (refine wpOne_skip rfl rfl ?_; (try go_simp)) | (refine wpOne_2 rfl rfl ?_; intro K hK; go_simp; (first | (go_at_call 91; (with_reducible refine (eqDesc_r x_Op x_Flags x_Len x_At x_Size x_Cookie _).mono ?_); rintro e w' ⟨rfl, hx⟩; replace HS := HS.grow hx; clear hx)); (try go_simp); refine hK _ _ ?_; clear hK K)))
        | ((with_reducible ((show wpOne _ _ _ _ 9 2 _ _ _))); (first | (refine wpOne_skip rfl rfl ?_; (try go_simp)) | (refine wpOne_2 rfl rfl ?_; intro K hK; go_simp; refine hK _ _ ?_; clear hK K)))
        | (with_reducible refine wpPlan_done ?_))
      go_wp2_with (first
            | (go_at_call 91; (with_reducible refine (eqDesc_r x_Op x_Flags x_Len x_At x_Size x_Cookie _).mono ?_); rintro e w' ⟨rfl, hx⟩; replace HS := HS.grow hx; clear hx))
      go_roundw
      case rel => exact ⟨k + 1, hlt, by go_num, (HS.arr (by repeat (first | exact Arr.nil | (with_reducible exact take_all _) | (refine Arr.cons tk ?_) | (refine arr_skip ?_))))⟩
      case measure => simp [intOf]; omega
    case neg =>
      obtain rfl : k = l.length := by omega
      go_wp2
      go_ret
      exact ⟨rfl, HS.ex⟩

def melDesc (q : Nat) : DtDesc := ((q : Int), (q : Int) + 1, (q : Int) + 2, (q : Int) + 3, (q : Int) + 4, (q : Int) + 5)
def mklDesc (n q : Nat) : List DtDesc := (List.range n).map fun i => melDesc (q + 6 * i)
theorem mklDesc_length (n q : Nat) : (mklDesc n q).length = n := by simp [mklDesc]
theorem mklDesc_get {n q i : Nat} (h : i < n) : (mklDesc n q)[i]? = some (melDesc (q + 6 * i)) := by simp [mklDesc, h]
theorem mklDesc_step {l : List DtDesc} {q i : Nat} (h : i < l.length) : (mklDesc i q ++ l.drop i).set i (melDesc (q + 6 * i)) = mklDesc (i + 1) q ++ l.drop (i + 1) := by
  rw [List.set_append_right _ _ (by rw [mklDesc_length]; exact Nat.le_refl _), mklDesc_length, Nat.sub_self, List.drop_eq_getElem_cons h, List.set_cons_zero]
  unfold mklDesc
  rw [List.range_succ, List.map_append, List.append_assoc]
  rfl
theorem mklDesc_at {l : List DtDesc} {q i : Nat} (h : i < l.length) : (mklDesc i q ++ l.drop i)[i]? = some l[i] := by
  rw [List.getElem?_append_right (by rw [mklDesc_length]; exact Nat.le_refl _), mklDesc_length, Nat.sub_self, List.drop_eq_getElem_cons h]; rfl

set_option maxRecDepth 100000 in
set_option maxHeartbeats 4000000 in
theorem markDescS_st {w0 : World} {Js : List Asn} (v : Value) (l : List DtDesc) (q0 : Nat) (w : World) (HS : St w0 w (ownA l [v] :: Js)) (h0 : 0 < q0) (h1 : q0 + 6 * l.length ≤ 4611686018427384904) {k : Int} (hk : k = (q0 : Int)) :
    Calls Try.prog 40 #[v, .int .i64 k] w (fun e w' => e = .returned (.int .i64 ((q0 + 6 * l.length : Nat) : Int)) ∧ St w0 w' (ownA (mklDesc l.length q0) [v] :: Js)) := by
  subst hk
  obtain ⟨A1, c1, rfl⟩ := ownA.form HS .head
  have hokl : ∀ x ∈ l, Flat.ok x := fun x hx => (HS.holds .head).flok hx
  replace hokl := hid hokl
  go_enter Try.func40, Try.ntmps40
  go_wp2_with (first
        | ((with_reducible (show wpList _ _ _ (Oper.mk none (Op.store _ (.tmp 16) _) _ _ _ _ :: _) _ _)); refine wpList_storeE_st (o := ⟨none, .store _ (.tmp 16) _, _, _, _, _⟩) rfl _ _ _ rfl rfl (v := .int .i64 _) rfl HS tk sz_int 6 0 rfl (by first | rfl | (simp; done) | omega) hfl vcs rfx rfx HK.out (el := ((q : Int), x_Flags, x_Len, x_At, x_Size, x_Cookie)) (show (i64ok ((q : Int)) ∧ i64ok (x_Flags) ∧ i64ok (x_Len) ∧ i64ok (x_At) ∧ i64ok (x_Size) ∧ i64ok (x_Cookie)) from ⟨MK0.out, HO1.out, HO2.out, HO3.out, HO4.out, HO5.out⟩) rfx (by simp) ?_ rfl; clear HS; intro w4_5 hz4_5 HS)
        | ((with_reducible (show wpList _ _ _ (Oper.mk none (Op.store _ (.tmp 23) _) _ _ _ _ :: _) _ _)); refine wpList_storeE_st (o := ⟨none, .store _ (.tmp 23) _, _, _, _, _⟩) rfl _ _ _ rfl rfl (v := .int .i64 _) rfl HS tk sz_int 6 1 rfl (by first | rfl | (simp; done) | omega) (by (try simp only [List.length_set]); exact hfl) vcs rfx rfx (List.getElem?_set_self (by (try simp only [List.length_set]); exact hfl)) (el := ((q : Int), (q : Int) + 1, x_Len, x_At, x_Size, x_Cookie)) (show (i64ok ((q : Int)) ∧ i64ok ((q : Int) + 1) ∧ i64ok (x_Len) ∧ i64ok (x_At) ∧ i64ok (x_Size) ∧ i64ok (x_Cookie)) from ⟨MK0.out, MK1.out, HO2.out, HO3.out, HO4.out, HO5.out⟩) rfx (by simp) ?_ rfl; clear HS; intro w6_5 hz6_5 HS)
        | ((with_reducible (show wpList _ _ _ (Oper.mk none (Op.store _ (.tmp 30) _) _ _ _ _ :: _) _ _)); refine wpList_storeE_st (o := ⟨none, .store _ (.tmp 30) _, _, _, _, _⟩) rfl _ _ _ rfl rfl (v := .int .i64 _) rfl HS tk sz_int 6 2 rfl (by first | rfl | (simp; done) | omega) (by (try simp only [List.length_set]); exact hfl) vcs rfx rfx (List.getElem?_set_self (by (try simp only [List.length_set]); exact hfl)) (el := ((q : Int), (q : Int) + 1, (q : Int) + 2, x_At, x_Size, x_Cookie)) (show (i64ok ((q : Int)) ∧ i64ok ((q : Int) + 1) ∧ i64ok ((q : Int) + 2) ∧ i64ok (x_At) ∧ i64ok (x_Size) ∧ i64ok (x_Cookie)) from ⟨MK0.out, MK1.out, MK2.out, HO3.out, HO4.out, HO5.out⟩) rfx (by simp) ?_ rfl; clear HS; intro w8_5 hz8_5 HS)
        | ((with_reducible (show wpList _ _ _ (Oper.mk none (Op.store _ (.tmp 37) _) _ _ _ _ :: _) _ _)); refine wpList_storeE_st (o := ⟨none, .store _ (.tmp 37) _, _, _, _, _⟩) rfl _ _ _ rfl rfl (v := .int .i64 _) rfl HS tk sz_int 6 3 rfl (by first | rfl | (simp; done) | omega) (by (try simp only [List.length_set]); exact hfl) vcs rfx rfx (List.getElem?_set_self (by (try simp only [List.length_set]); exact hfl)) (el := ((q : Int), (q : Int) + 1, (q : Int) + 2, (q : Int) + 3, x_Size, x_Cookie)) (show (i64ok ((q : Int)) ∧ i64ok ((q : Int) + 1) ∧ i64ok ((q : Int) + 2) ∧ i64ok ((q : Int) + 3) ∧ i64ok (x_Size) ∧ i64ok (x_Cookie)) from ⟨MK0.out, MK1.out, MK2.out, MK3.out, HO4.out, HO5.out⟩) rfx (by simp) ?_ rfl; clear HS; intro w10_5 hz10_5 HS)
        | ((with_reducible (show wpList _ _ _ (Oper.mk none (Op.store _ (.tmp 44) _) _ _ _ _ :: _) _ _)); refine wpList_storeE_st (o := ⟨none, .store _ (.tmp 44) _, _, _, _, _⟩) rfl _ _ _ rfl rfl (v := .int .i64 _) rfl HS tk sz_int 6 4 rfl (by first | rfl | (simp; done) | omega) (by (try simp only [List.length_set]); exact hfl) vcs rfx rfx (List.getElem?_set_self (by (try simp only [List.length_set]); exact hfl)) (el := ((q : Int), (q : Int) + 1, (q : Int) + 2, (q : Int) + 3, (q : Int) + 4, x_Cookie)) (show (i64ok ((q : Int)) ∧ i64ok ((q : Int) + 1) ∧ i64ok ((q : Int) + 2) ∧ i64ok ((q : Int) + 3) ∧ i64ok ((q : Int) + 4) ∧ i64ok (x_Cookie)) from ⟨MK0.out, MK1.out, MK2.out, MK3.out, MK4.out, HO5.out⟩) rfx (by simp) ?_ rfl; clear HS; intro w12_5 hz12_5 HS)
        | ((with_reducible (show wpList _ _ _ (Oper.mk none (Op.store _ (.tmp 51) _) _ _ _ _ :: _) _ _)); refine wpList_storeE_st (o := ⟨none, .store _ (.tmp 51) _, _, _, _, _⟩) rfl _ _ _ rfl rfl (v := .int .i64 _) rfl HS tk sz_int 6 5 rfl (by first | rfl | (simp; done) | omega) (by (try simp only [List.length_set]); exact hfl) vcs rfx rfx (List.getElem?_set_self (by (try simp only [List.length_set]); exact hfl)) (el := ((q : Int), (q : Int) + 1, (q : Int) + 2, (q : Int) + 3, (q : Int) + 4, (q : Int) + 5)) (show (i64ok ((q : Int)) ∧ i64ok ((q : Int) + 1) ∧ i64ok ((q : Int) + 2) ∧ i64ok ((q : Int) + 3) ∧ i64ok ((q : Int) + 4) ∧ i64ok ((q : Int) + 5)) from ⟨MK0.out, MK1.out, MK2.out, MK3.out, MK4.out, MK5.out⟩) rfx (by simp) ?_ rfl; clear HS; intro w14_5 hz14_5 HS))
  go_loopw [1, 5] (fun kv i wr => ∃ k q : Nat, k ≤ l.length ∧ q = q0 + 6 * k ∧ kv = .int .i64 (q : Int) ∧ i = .int .i64 k ∧ St w0 wr (ownA (mklDesc k q0 ++ l.drop k) [.slice A1 l.length c1] :: Js)) (fun _ i _ => l.length - (intOf i).toNat)
  case atStart => exact ⟨0, q0, Nat.zero_le _, rfl, rfl, rfl, by simpa [mklDesc] using HS⟩
  case round =>
    clear HS
    obtain ⟨k, q, hkl, hq, rfl, rfl, HS⟩ := hrel
    have HQ := hid hq
    by_cases hlt : k < l.length
    case pos =>
      have hfl : k < (mklDesc k q0 ++ l.drop k).length := by rw [List.length_append, mklDesc_length, List.length_drop]; omega
      have HST := mklDesc_step (l := l) (q := q0) hlt
      have hk9 := mklDesc_at (l := l) (q := q0) hlt
      have hok := hokl.out _ (List.getElem_mem hlt)
      rw [← hq] at HST
      replace HST := hid HST
      have hqb : q ≤ 4611686018427385904 := by omega
      have hq1 : 0 < q := by omega
      clear hq
      generalize l[k] = x at *
      obtain ⟨x_Op, x_Flags, x_Len, x_At, x_Size, x_Cookie⟩ := x
      have HK := hid hk9
      have HOKS : (i64ok (x_Op) ∧ i64ok (x_Flags) ∧ i64ok (x_Len) ∧ i64ok (x_At) ∧ i64ok (x_Size) ∧ i64ok (x_Cookie)) := hok
      obtain ⟨o0, o1, o2, o3, o4, o5⟩ := HOKS
      have HO0 := hid o0
      have HO1 := hid o1
      have HO2 := hid o2
      have HO3 := hid o3
      have HO4 := hid o4
      have HO5 := hid o5
      have MK0 : Hid (i64ok ((q : Int))) := hid (by unfold i64ok; omega)
      have MK1 : Hid (i64ok ((q : Int) + 1)) := hid (by unfold i64ok; omega)
      have MK2 : Hid (i64ok ((q : Int) + 2)) := hid (by unfold i64ok; omega)
      have MK3 : Hid (i64ok ((q : Int) + 3)) := hid (by unfold i64ok; omega)
      have MK4 : Hid (i64ok ((q : Int) + 4)) := hid (by unfold i64ok; omega)
      have MK5 : Hid (i64ok ((q : Int) + 5)) := hid (by unfold i64ok; omega)
      clear hk9 hok o0 o1 o2 o3 o4 o5
      obtain ⟨b, off, cc, hv, -, -⟩ := ownA.addr HS (show Take _ (ownA (mklDesc k q0 ++ l.drop k) [.slice A1 _ _]) _ from .head) (by omega)
      simp only [Value.slice.injEq] at hv
      obtain ⟨rfl, -, rfl⟩ := hv
      go_wp2_with (first
            | ((with_reducible (show wpList _ _ _ (Oper.mk none (Op.store _ (.tmp 16) _) _ _ _ _ :: _) _ _)); refine wpList_storeE_st (o := ⟨none, .store _ (.tmp 16) _, _, _, _, _⟩) rfl _ _ _ rfl rfl (v := .int .i64 _) rfl HS tk sz_int 6 0 rfl (by first | rfl | (simp; done) | omega) hfl vcs rfx rfx HK.out (el := ((q : Int), x_Flags, x_Len, x_At, x_Size, x_Cookie)) (show (i64ok ((q : Int)) ∧ i64ok (x_Flags) ∧ i64ok (x_Len) ∧ i64ok (x_At) ∧ i64ok (x_Size) ∧ i64ok (x_Cookie)) from ⟨MK0.out, HO1.out, HO2.out, HO3.out, HO4.out, HO5.out⟩) rfx (by simp) ?_ rfl; clear HS; intro w4_5 hz4_5 HS)
            | ((with_reducible (show wpList _ _ _ (Oper.mk none (Op.store _ (.tmp 23) _) _ _ _ _ :: _) _ _)); refine wpList_storeE_st (o := ⟨none, .store _ (.tmp 23) _, _, _, _, _⟩) rfl _ _ _ rfl rfl (v := .int .i64 _) rfl HS tk sz_int 6 1 rfl (by first | rfl | (simp; done) | omega) (by (try simp only [List.length_set]); exact hfl) vcs rfx rfx (List.getElem?_set_self (by (try simp only [List.length_set]); exact hfl)) (el := ((q : Int), (q : Int) + 1, x_Len, x_At, x_Size, x_Cookie)) (show (i64ok ((q : Int)) ∧ i64ok ((q : Int) + 1) ∧ i64ok (x_Len) ∧ i64ok (x_At) ∧ i64ok (x_Size) ∧ i64ok (x_Cookie)) from ⟨MK0.out, MK1.out, HO2.out, HO3.out, HO4.out, HO5.out⟩) rfx (by simp) ?_ rfl; clear HS; intro w6_5 hz6_5 HS)
            | ((with_reducible (show wpList _ _ _ (Oper.mk none (Op.store _ (.tmp 30) _) _ _ _ _ :: _) _ _)); refine wpList_storeE_st (o := ⟨none, .store _ (.tmp 30) _, _, _, _, _⟩) rfl _ _ _ rfl rfl (v := .int .i64 _) rfl HS tk sz_int 6 2 rfl (by first | rfl | (simp; done) | omega) (by (try simp only [List.length_set]); exact hfl) vcs rfx rfx (List.getElem?_set_self (by (try simp only [List.length_set]); exact hfl)) (el := ((q : Int), (q : Int) + 1, (q : Int) + 2, x_At, x_Size, x_Cookie)) (show (i64ok ((q : Int)) ∧ i64ok ((q : Int) + 1) ∧ i64ok ((q : Int) + 2) ∧ i64ok (x_At) ∧ i64ok (x_Size) ∧ i64ok (x_Cookie)) from ⟨MK0.out, MK1.out, MK2.out, HO3.out, HO4.out, HO5.out⟩) rfx (by simp) ?_ rfl; clear HS; intro w8_5 hz8_5 HS)
            | ((with_reducible (show wpList _ _ _ (Oper.mk none (Op.store _ (.tmp 37) _) _ _ _ _ :: _) _ _)); refine wpList_storeE_st (o := ⟨none, .store _ (.tmp 37) _, _, _, _, _⟩) rfl _ _ _ rfl rfl (v := .int .i64 _) rfl HS tk sz_int 6 3 rfl (by first | rfl | (simp; done) | omega) (by (try simp only [List.length_set]); exact hfl) vcs rfx rfx (List.getElem?_set_self (by (try simp only [List.length_set]); exact hfl)) (el := ((q : Int), (q : Int) + 1, (q : Int) + 2, (q : Int) + 3, x_Size, x_Cookie)) (show (i64ok ((q : Int)) ∧ i64ok ((q : Int) + 1) ∧ i64ok ((q : Int) + 2) ∧ i64ok ((q : Int) + 3) ∧ i64ok (x_Size) ∧ i64ok (x_Cookie)) from ⟨MK0.out, MK1.out, MK2.out, MK3.out, HO4.out, HO5.out⟩) rfx (by simp) ?_ rfl; clear HS; intro w10_5 hz10_5 HS)
            | ((with_reducible (show wpList _ _ _ (Oper.mk none (Op.store _ (.tmp 44) _) _ _ _ _ :: _) _ _)); refine wpList_storeE_st (o := ⟨none, .store _ (.tmp 44) _, _, _, _, _⟩) rfl _ _ _ rfl rfl (v := .int .i64 _) rfl HS tk sz_int 6 4 rfl (by first | rfl | (simp; done) | omega) (by (try simp only [List.length_set]); exact hfl) vcs rfx rfx (List.getElem?_set_self (by (try simp only [List.length_set]); exact hfl)) (el := ((q : Int), (q : Int) + 1, (q : Int) + 2, (q : Int) + 3, (q : Int) + 4, x_Cookie)) (show (i64ok ((q : Int)) ∧ i64ok ((q : Int) + 1) ∧ i64ok ((q : Int) + 2) ∧ i64ok ((q : Int) + 3) ∧ i64ok ((q : Int) + 4) ∧ i64ok (x_Cookie)) from ⟨MK0.out, MK1.out, MK2.out, MK3.out, MK4.out, HO5.out⟩) rfx (by simp) ?_ rfl; clear HS; intro w12_5 hz12_5 HS)
            | ((with_reducible (show wpList _ _ _ (Oper.mk none (Op.store _ (.tmp 51) _) _ _ _ _ :: _) _ _)); refine wpList_storeE_st (o := ⟨none, .store _ (.tmp 51) _, _, _, _, _⟩) rfl _ _ _ rfl rfl (v := .int .i64 _) rfl HS tk sz_int 6 5 rfl (by first | rfl | (simp; done) | omega) (by (try simp only [List.length_set]); exact hfl) vcs rfx rfx (List.getElem?_set_self (by (try simp only [List.length_set]); exact hfl)) (el := ((q : Int), (q : Int) + 1, (q : Int) + 2, (q : Int) + 3, (q : Int) + 4, (q : Int) + 5)) (show (i64ok ((q : Int)) ∧ i64ok ((q : Int) + 1) ∧ i64ok ((q : Int) + 2) ∧ i64ok ((q : Int) + 3) ∧ i64ok ((q : Int) + 4) ∧ i64ok ((q : Int) + 5)) from ⟨MK0.out, MK1.out, MK2.out, MK3.out, MK4.out, MK5.out⟩) rfx (by simp) ?_ rfl; clear HS; intro w14_5 hz14_5 HS))
      simp only [List.set_set] at HS
      go_roundw
      case rel => exact ⟨k + 1, q + 6, hlt, by rw [HQ.out]; omega, by first | rfl | (congr 1; omega), by go_num, by rw [← HST.out]; exact HS⟩
      case measure => simp [intOf]; omega
    case neg =>
      obtain rfl : k = l.length := by omega
      subst hq
      rw [List.drop_length, List.append_nil] at HS
      go_wp2_with (first
            | ((with_reducible (show wpList _ _ _ (Oper.mk none (Op.store _ (.tmp 16) _) _ _ _ _ :: _) _ _)); refine wpList_storeE_st (o := ⟨none, .store _ (.tmp 16) _, _, _, _, _⟩) rfl _ _ _ rfl rfl (v := .int .i64 _) rfl HS tk sz_int 6 0 rfl (by first | rfl | (simp; done) | omega) hfl vcs rfx rfx HK.out (el := ((q : Int), x_Flags, x_Len, x_At, x_Size, x_Cookie)) (show (i64ok ((q : Int)) ∧ i64ok (x_Flags) ∧ i64ok (x_Len) ∧ i64ok (x_At) ∧ i64ok (x_Size) ∧ i64ok (x_Cookie)) from ⟨MK0.out, HO1.out, HO2.out, HO3.out, HO4.out, HO5.out⟩) rfx (by simp) ?_ rfl; clear HS; intro w4_5 hz4_5 HS)
            | ((with_reducible (show wpList _ _ _ (Oper.mk none (Op.store _ (.tmp 23) _) _ _ _ _ :: _) _ _)); refine wpList_storeE_st (o := ⟨none, .store _ (.tmp 23) _, _, _, _, _⟩) rfl _ _ _ rfl rfl (v := .int .i64 _) rfl HS tk sz_int 6 1 rfl (by first | rfl | (simp; done) | omega) (by (try simp only [List.length_set]); exact hfl) vcs rfx rfx (List.getElem?_set_self (by (try simp only [List.length_set]); exact hfl)) (el := ((q : Int), (q : Int) + 1, x_Len, x_At, x_Size, x_Cookie)) (show (i64ok ((q : Int)) ∧ i64ok ((q : Int) + 1) ∧ i64ok (x_Len) ∧ i64ok (x_At) ∧ i64ok (x_Size) ∧ i64ok (x_Cookie)) from ⟨MK0.out, MK1.out, HO2.out, HO3.out, HO4.out, HO5.out⟩) rfx (by simp) ?_ rfl; clear HS; intro w6_5 hz6_5 HS)
            | ((with_reducible (show wpList _ _ _ (Oper.mk none (Op.store _ (.tmp 30) _) _ _ _ _ :: _) _ _)); refine wpList_storeE_st (o := ⟨none, .store _ (.tmp 30) _, _, _, _, _⟩) rfl _ _ _ rfl rfl (v := .int .i64 _) rfl HS tk sz_int 6 2 rfl (by first | rfl | (simp; done) | omega) (by (try simp only [List.length_set]); exact hfl) vcs rfx rfx (List.getElem?_set_self (by (try simp only [List.length_set]); exact hfl)) (el := ((q : Int), (q : Int) + 1, (q : Int) + 2, x_At, x_Size, x_Cookie)) (show (i64ok ((q : Int)) ∧ i64ok ((q : Int) + 1) ∧ i64ok ((q : Int) + 2) ∧ i64ok (x_At) ∧ i64ok (x_Size) ∧ i64ok (x_Cookie)) from ⟨MK0.out, MK1.out, MK2.out, HO3.out, HO4.out, HO5.out⟩) rfx (by simp) ?_ rfl; clear HS; intro w8_5 hz8_5 HS)
            | ((with_reducible (show wpList _ _ _ (Oper.mk none (Op.store _ (.tmp 37) _) _ _ _ _ :: _) _ _)); refine wpList_storeE_st (o := ⟨none, .store _ (.tmp 37) _, _, _, _, _⟩) rfl _ _ _ rfl rfl (v := .int .i64 _) rfl HS tk sz_int 6 3 rfl (by first | rfl | (simp; done) | omega) (by (try simp only [List.length_set]); exact hfl) vcs rfx rfx (List.getElem?_set_self (by (try simp only [List.length_set]); exact hfl)) (el := ((q : Int), (q : Int) + 1, (q : Int) + 2, (q : Int) + 3, x_Size, x_Cookie)) (show (i64ok ((q : Int)) ∧ i64ok ((q : Int) + 1) ∧ i64ok ((q : Int) + 2) ∧ i64ok ((q : Int) + 3) ∧ i64ok (x_Size) ∧ i64ok (x_Cookie)) from ⟨MK0.out, MK1.out, MK2.out, MK3.out, HO4.out, HO5.out⟩) rfx (by simp) ?_ rfl; clear HS; intro w10_5 hz10_5 HS)
            | ((with_reducible (show wpList _ _ _ (Oper.mk none (Op.store _ (.tmp 44) _) _ _ _ _ :: _) _ _)); refine wpList_storeE_st (o := ⟨none, .store _ (.tmp 44) _, _, _, _, _⟩) rfl _ _ _ rfl rfl (v := .int .i64 _) rfl HS tk sz_int 6 4 rfl (by first | rfl | (simp; done) | omega) (by (try simp only [List.length_set]); exact hfl) vcs rfx rfx (List.getElem?_set_self (by (try simp only [List.length_set]); exact hfl)) (el := ((q : Int), (q : Int) + 1, (q : Int) + 2, (q : Int) + 3, (q : Int) + 4, x_Cookie)) (show (i64ok ((q : Int)) ∧ i64ok ((q : Int) + 1) ∧ i64ok ((q : Int) + 2) ∧ i64ok ((q : Int) + 3) ∧ i64ok ((q : Int) + 4) ∧ i64ok (x_Cookie)) from ⟨MK0.out, MK1.out, MK2.out, MK3.out, MK4.out, HO5.out⟩) rfx (by simp) ?_ rfl; clear HS; intro w12_5 hz12_5 HS)
            | ((with_reducible (show wpList _ _ _ (Oper.mk none (Op.store _ (.tmp 51) _) _ _ _ _ :: _) _ _)); refine wpList_storeE_st (o := ⟨none, .store _ (.tmp 51) _, _, _, _, _⟩) rfl _ _ _ rfl rfl (v := .int .i64 _) rfl HS tk sz_int 6 5 rfl (by first | rfl | (simp; done) | omega) (by (try simp only [List.length_set]); exact hfl) vcs rfx rfx (List.getElem?_set_self (by (try simp only [List.length_set]); exact hfl)) (el := ((q : Int), (q : Int) + 1, (q : Int) + 2, (q : Int) + 3, (q : Int) + 4, (q : Int) + 5)) (show (i64ok ((q : Int)) ∧ i64ok ((q : Int) + 1) ∧ i64ok ((q : Int) + 2) ∧ i64ok ((q : Int) + 3) ∧ i64ok ((q : Int) + 4) ∧ i64ok ((q : Int) + 5)) from ⟨MK0.out, MK1.out, MK2.out, MK3.out, MK4.out, MK5.out⟩) rfx (by simp) ?_ rfl; clear HS; intro w14_5 hz14_5 HS))
      go_ret
      exact ⟨rfl, HS⟩

set_option maxRecDepth 100000 in
set_option maxHeartbeats 4000000 in
theorem heldDescS_any (v : Value) (n q0 : Nat) (w : World) (k1 : Holds w (mklDesc n q0) [v]) (h0 : 0 < q0) (h1 : q0 + 6 * n ≤ 4611686018427384904) {k : Int} (hk : k = (q0 : Int)) :
    Calls Try.prog 41 #[v, .int .i64 k] w fun e w' => e = .returned (.int .i64 ((q0 + 6 * n : Nat) : Int)) ∧ Ex w w' := by
  subst hk
  obtain ⟨AA, cap, rfl, z1, z2⟩ := k1.fl
  unfold maxLen at z2
  rw [mklDesc_length] at *
  have HS := St.start w
  go_enter Try.func41, Try.ntmps41
  go_wp2_with (first
        | ((with_reducible (show wpList _ _ _ (Oper.mk (some 16) (Op.load _ _) _ _ _ _ :: _) _ _)); refine wpList_loadHF (o := ⟨some 16, .load _ _, _, _, _, _⟩) rfl _ _ rfl rfl HS (fun _ hs => k1.ex hs.ex) HK.out 6 0 (by first | rfl | (simp; done) | omega) rfl (by decide) sc_int flt ?_)
        | ((with_reducible (show wpList _ _ _ (Oper.mk (some 25) (Op.load _ _) _ _ _ _ :: _) _ _)); refine wpList_loadHF (o := ⟨some 25, .load _ _, _, _, _, _⟩) rfl _ _ rfl rfl HS (fun _ hs => k1.ex hs.ex) HK.out 6 1 (by first | rfl | (simp; done) | omega) rfl (by decide) sc_int flt ?_)
        | ((with_reducible (show wpList _ _ _ (Oper.mk (some 34) (Op.load _ _) _ _ _ _ :: _) _ _)); refine wpList_loadHF (o := ⟨some 34, .load _ _, _, _, _, _⟩) rfl _ _ rfl rfl HS (fun _ hs => k1.ex hs.ex) HK.out 6 2 (by first | rfl | (simp; done) | omega) rfl (by decide) sc_int flt ?_)
        | ((with_reducible (show wpList _ _ _ (Oper.mk (some 43) (Op.load _ _) _ _ _ _ :: _) _ _)); refine wpList_loadHF (o := ⟨some 43, .load _ _, _, _, _, _⟩) rfl _ _ rfl rfl HS (fun _ hs => k1.ex hs.ex) HK.out 6 3 (by first | rfl | (simp; done) | omega) rfl (by decide) sc_int flt ?_)
        | ((with_reducible (show wpList _ _ _ (Oper.mk (some 52) (Op.load _ _) _ _ _ _ :: _) _ _)); refine wpList_loadHF (o := ⟨some 52, .load _ _, _, _, _, _⟩) rfl _ _ rfl rfl HS (fun _ hs => k1.ex hs.ex) HK.out 6 4 (by first | rfl | (simp; done) | omega) rfl (by decide) sc_int flt ?_)
        | ((with_reducible (show wpList _ _ _ (Oper.mk (some 61) (Op.load _ _) _ _ _ _ :: _) _ _)); refine wpList_loadHF (o := ⟨some 61, .load _ _, _, _, _, _⟩) rfl _ _ rfl rfl HS (fun _ hs => k1.ex hs.ex) HK.out 6 5 (by first | rfl | (simp; done) | omega) rfl (by decide) sc_int flt ?_))
  go_loopw [1, 5] (fun kv i wr => ∃ k q : Nat, k ≤ n ∧ q = q0 + 6 * k ∧ kv = .int .i64 (q : Int) ∧ i = .int .i64 k ∧ St w wr []) (fun _ i _ => n - (intOf i).toNat)
  case atStart => exact ⟨0, q0, Nat.zero_le _, rfl, rfl, rfl, (HS.arr (by repeat (first | exact Arr.nil | (with_reducible exact take_all _) | (refine Arr.cons tk ?_) | (refine arr_skip ?_))))⟩
  case round =>
    clear HS
    obtain ⟨k, q, hkl, hq, rfl, rfl, HS⟩ := hrel
    have HQ := hid hq
    by_cases hlt : k < n
    case pos =>
      obtain ⟨b, off, rfl⟩ := k1.flA (by rw [mklDesc_length]; omega)
      have hk9 := mklDesc_get (n := n) (q := q0) hlt
      rw [← hq] at hk9
      have HK : Hid ((mklDesc n q0)[k]? = some (((q : Int), (q : Int) + 1, (q : Int) + 2, (q : Int) + 3, (q : Int) + 4, (q : Int) + 5) : DtDesc)) := hid hk9
      clear hk9
      have hqb : q ≤ 4611686018427385904 := by omega
      have hq1 : 0 < q := by omega
      clear hq
      go_wp2_with (first
            | ((with_reducible (show wpList _ _ _ (Oper.mk (some 16) (Op.load _ _) _ _ _ _ :: _) _ _)); refine wpList_loadHF (o := ⟨some 16, .load _ _, _, _, _, _⟩) rfl _ _ rfl rfl HS (fun _ hs => k1.ex hs.ex) HK.out 6 0 (by first | rfl | (simp; done) | omega) rfl (by decide) sc_int flt ?_)
            | ((with_reducible (show wpList _ _ _ (Oper.mk (some 25) (Op.load _ _) _ _ _ _ :: _) _ _)); refine wpList_loadHF (o := ⟨some 25, .load _ _, _, _, _, _⟩) rfl _ _ rfl rfl HS (fun _ hs => k1.ex hs.ex) HK.out 6 1 (by first | rfl | (simp; done) | omega) rfl (by decide) sc_int flt ?_)
            | ((with_reducible (show wpList _ _ _ (Oper.mk (some 34) (Op.load _ _) _ _ _ _ :: _) _ _)); refine wpList_loadHF (o := ⟨some 34, .load _ _, _, _, _, _⟩) rfl _ _ rfl rfl HS (fun _ hs => k1.ex hs.ex) HK.out 6 2 (by first | rfl | (simp; done) | omega) rfl (by decide) sc_int flt ?_)
            | ((with_reducible (show wpList _ _ _ (Oper.mk (some 43) (Op.load _ _) _ _ _ _ :: _) _ _)); refine wpList_loadHF (o := ⟨some 43, .load _ _, _, _, _, _⟩) rfl _ _ rfl rfl HS (fun _ hs => k1.ex hs.ex) HK.out 6 3 (by first | rfl | (simp; done) | omega) rfl (by decide) sc_int flt ?_)
            | ((with_reducible (show wpList _ _ _ (Oper.mk (some 52) (Op.load _ _) _ _ _ _ :: _) _ _)); refine wpList_loadHF (o := ⟨some 52, .load _ _, _, _, _, _⟩) rfl _ _ rfl rfl HS (fun _ hs => k1.ex hs.ex) HK.out 6 4 (by first | rfl | (simp; done) | omega) rfl (by decide) sc_int flt ?_)
            | ((with_reducible (show wpList _ _ _ (Oper.mk (some 61) (Op.load _ _) _ _ _ _ :: _) _ _)); refine wpList_loadHF (o := ⟨some 61, .load _ _, _, _, _, _⟩) rfl _ _ rfl rfl HS (fun _ hs => k1.ex hs.ex) HK.out 6 5 (by first | rfl | (simp; done) | omega) rfl (by decide) sc_int flt ?_))
      go_roundw
      case rel => exact ⟨k + 1, q + 6, hlt, by rw [HQ.out]; omega, by first | rfl | (congr 1; omega), by go_num, (HS.arr (by repeat (first | exact Arr.nil | (with_reducible exact take_all _) | (refine Arr.cons tk ?_) | (refine arr_skip ?_))))⟩
      case measure => simp [intOf]; omega
    case neg =>
      obtain rfl : k = n := by omega
      subst hq
      go_wp2_with (first
            | ((with_reducible (show wpList _ _ _ (Oper.mk (some 16) (Op.load _ _) _ _ _ _ :: _) _ _)); refine wpList_loadHF (o := ⟨some 16, .load _ _, _, _, _, _⟩) rfl _ _ rfl rfl HS (fun _ hs => k1.ex hs.ex) HK.out 6 0 (by first | rfl | (simp; done) | omega) rfl (by decide) sc_int flt ?_)
            | ((with_reducible (show wpList _ _ _ (Oper.mk (some 25) (Op.load _ _) _ _ _ _ :: _) _ _)); refine wpList_loadHF (o := ⟨some 25, .load _ _, _, _, _, _⟩) rfl _ _ rfl rfl HS (fun _ hs => k1.ex hs.ex) HK.out 6 1 (by first | rfl | (simp; done) | omega) rfl (by decide) sc_int flt ?_)
            | ((with_reducible (show wpList _ _ _ (Oper.mk (some 34) (Op.load _ _) _ _ _ _ :: _) _ _)); refine wpList_loadHF (o := ⟨some 34, .load _ _, _, _, _, _⟩) rfl _ _ rfl rfl HS (fun _ hs => k1.ex hs.ex) HK.out 6 2 (by first | rfl | (simp; done) | omega) rfl (by decide) sc_int flt ?_)
            | ((with_reducible (show wpList _ _ _ (Oper.mk (some 43) (Op.load _ _) _ _ _ _ :: _) _ _)); refine wpList_loadHF (o := ⟨some 43, .load _ _, _, _, _, _⟩) rfl _ _ rfl rfl HS (fun _ hs => k1.ex hs.ex) HK.out 6 3 (by first | rfl | (simp; done) | omega) rfl (by decide) sc_int flt ?_)
            | ((with_reducible (show wpList _ _ _ (Oper.mk (some 52) (Op.load _ _) _ _ _ _ :: _) _ _)); refine wpList_loadHF (o := ⟨some 52, .load _ _, _, _, _, _⟩) rfl _ _ rfl rfl HS (fun _ hs => k1.ex hs.ex) HK.out 6 4 (by first | rfl | (simp; done) | omega) rfl (by decide) sc_int flt ?_)
            | ((with_reducible (show wpList _ _ _ (Oper.mk (some 61) (Op.load _ _) _ _ _ _ :: _) _ _)); refine wpList_loadHF (o := ⟨some 61, .load _ _, _, _, _, _⟩) rfl _ _ rfl rfl HS (fun _ hs => k1.ex hs.ex) HK.out 6 5 (by first | rfl | (simp; done) | omega) rfl (by decide) sc_int flt ?_))
      go_ret
      exact ⟨rfl, HS.ex⟩

end Go.Proofs.Ytelkplponnfkpaa

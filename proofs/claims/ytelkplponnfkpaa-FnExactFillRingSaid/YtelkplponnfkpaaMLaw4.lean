/- The marks of mappings. -/
import Derived.Test.YtelkplponnfkpaaRows
import Derived.Test.YtelkplponnfkpaaMLaw3
import Derived.Test.YtelkplponnfkpaaTk
namespace Go.Proofs.Ytelkplponnfkpaa
open Go.RowKit
set_option linter.unusedVariables false
set_option linter.unusedSimpArgs false

def markEl (q : Nat) : Mp := ((q : Int), (q : Int) + 1, (q : Int) + 2, ((q : Int) + 3) % 3 == 0)
def markMp (n q : Nat) : List Mp := (List.range n).map fun i => markEl (q + 4 * i)
theorem markMp_length (n q : Nat) : (markMp n q).length = n := by simp [markMp]
theorem markMp_step {l : List Mp} {q i : Nat} (h : i < l.length) : (markMp i q ++ l.drop i).set i (markEl (q + 4 * i)) = markMp (i + 1) q ++ l.drop (i + 1) := by
  rw [List.set_append_right _ _ (by rw [markMp_length]; exact Nat.le_refl _), markMp_length, Nat.sub_self, List.drop_eq_getElem_cons h, List.set_cons_zero]
  unfold markMp
  rw [List.range_succ, List.map_append, List.append_assoc]
  rfl
theorem markMp_at {l : List Mp} {q i : Nat} (h : i < l.length) : (markMp i q ++ l.drop i)[i]? = some l[i] := by
  rw [List.getElem?_append_right (by rw [markMp_length]; exact Nat.le_refl _), markMp_length, Nat.sub_self, List.drop_eq_getElem_cons h]; rfl

set_option maxRecDepth 100000 in
set_option maxHeartbeats 4000000 in
theorem markMappingS_st {w0 : World} {Js : List Asn} (v : Value) (l : List Mp) (q0 : Nat) (w : World) (HS : St w0 w (ownA l [v] :: Js)) (h1 : q0 + 4 * l.length ≤ 4611686018427386000) :
    Calls Try.prog 28 #[v, .int .i64 q0] w (fun e w' => e = .returned (.int .i64 ((q0 + 4 * l.length : Nat) : Int)) ∧ St w0 w' (ownA (markMp l.length q0) [v] :: Js)) := by
  obtain ⟨A1, c1, rfl⟩ := ownA.form HS .head
  have hokl : ∀ x ∈ l, Flat.ok x := fun x hx => (HS.holds .head).flok hx
  replace hokl := hid hokl
  go_enter Try.func28, Try.ntmps28
  go_wp2_with (first
        | ((with_reducible (show wpList _ _ _ (Oper.mk none (Op.store _ (.tmp 16) _) _ _ _ _ :: _) _ _)); refine wpList_storeE_st (o := ⟨none, .store _ (.tmp 16) _, _, _, _, _⟩) rfl _ _ _ rfl rfl (v := .int .i64 _) rfl HS tk sz_int 4 0 rfl (by first | rfl | (simp; done) | omega) hfl vcs rfx rfx HK.out (el := ((q : Int), xv, xp, xw)) (show i64ok ((q : Int)) ∧ i64ok (xv) ∧ i64ok (xp) ∧ True from by have := HO1.out; have := HO2.out; have := HO3.out; unfold i64ok at *; refine ⟨?_, ?_, ?_, trivial⟩ <;> omega) rfx (by simp) ?_ rfl; clear HS; intro w4_5 hz4_5 HS)
        | ((with_reducible (show wpList _ _ _ (Oper.mk none (Op.store _ (.tmp 23) _) _ _ _ _ :: _) _ _)); refine wpList_storeE_st (o := ⟨none, .store _ (.tmp 23) _, _, _, _, _⟩) rfl _ _ _ rfl rfl (v := .int .i64 _) rfl HS tk sz_int 4 1 rfl (by first | rfl | (simp; done) | omega) (by (try simp only [List.length_set]); exact hfl) vcs rfx rfx (List.getElem?_set_self (by (try simp only [List.length_set]); exact hfl)) (el := ((q : Int), (q : Int) + 1, xp, xw)) (show i64ok ((q : Int)) ∧ i64ok ((q : Int) + 1) ∧ i64ok (xp) ∧ True from by have := HO1.out; have := HO2.out; have := HO3.out; unfold i64ok at *; refine ⟨?_, ?_, ?_, trivial⟩ <;> omega) rfx (by simp) ?_ rfl; clear HS; intro w6_5 hz6_5 HS)
        | ((with_reducible (show wpList _ _ _ (Oper.mk none (Op.store _ (.tmp 30) _) _ _ _ _ :: _) _ _)); refine wpList_storeE_st (o := ⟨none, .store _ (.tmp 30) _, _, _, _, _⟩) rfl _ _ _ rfl rfl (v := .int .i64 _) rfl HS tk sz_int 4 2 rfl (by first | rfl | (simp; done) | omega) (by (try simp only [List.length_set]); exact hfl) vcs rfx rfx (List.getElem?_set_self (by (try simp only [List.length_set]); exact hfl)) (el := ((q : Int), (q : Int) + 1, (q : Int) + 2, xw)) (show i64ok ((q : Int)) ∧ i64ok ((q : Int) + 1) ∧ i64ok ((q : Int) + 2) ∧ True from by have := HO1.out; have := HO2.out; have := HO3.out; unfold i64ok at *; refine ⟨?_, ?_, ?_, trivial⟩ <;> omega) rfx (by simp) ?_ rfl; clear HS; intro w8_5 hz8_5 HS)
        | ((with_reducible (show wpList _ _ _ (Oper.mk none (Op.store _ (.tmp 39) _) _ _ _ _ :: _) _ _)); refine wpList_storeE_st (o := ⟨none, .store _ (.tmp 39) _, _, _, _, _⟩) rfl _ _ _ rfl rfl (v := .bool _) rfl HS tk sz_bool 4 3 rfl (by first | rfl | (simp; done) | omega) (by (try simp only [List.length_set]); exact hfl) vcs rfx rfx (List.getElem?_set_self (by (try simp only [List.length_set]); exact hfl)) (el := ((q : Int), (q : Int) + 1, (q : Int) + 2, ((q : Int) + 3) % 3 == 0)) (show i64ok ((q : Int)) ∧ i64ok ((q : Int) + 1) ∧ i64ok ((q : Int) + 2) ∧ True from by have := HO1.out; have := HO2.out; have := HO3.out; unfold i64ok at *; refine ⟨?_, ?_, ?_, trivial⟩ <;> omega) rfx (by simp) ?_ rfl; clear HS; intro w10_7 hz10_7 HS))
  go_loopw [1, 5] (fun kv i wr => ∃ k q : Nat, k ≤ l.length ∧ q = q0 + 4 * k ∧ kv = .int .i64 (q : Int) ∧ i = .int .i64 k ∧ St w0 wr (ownA (markMp k q0 ++ l.drop k) [.slice A1 l.length c1] :: Js)) (fun _ i _ => l.length - (intOf i).toNat)
  case atStart => exact ⟨0, q0, Nat.zero_le _, rfl, rfl, rfl, by simpa [markMp] using HS⟩
  case round =>
    clear HS
    obtain ⟨k, q, hkl, hq, rfl, rfl, HS⟩ := hrel
    have HQ := hid hq
    by_cases hlt : k < l.length
    case pos =>
      have hfl : k < (markMp k q0 ++ l.drop k).length := by rw [List.length_append, markMp_length, List.length_drop]; omega
      have HST := markMp_step (l := l) (q := q0) hlt
      have hk9 := markMp_at (l := l) (q := q0) hlt
      have hok := hokl.out _ (List.getElem_mem hlt)
      rw [← hq] at HST
      replace HST := hid HST
      have hqb : q ≤ 4611686018427387000 := by omega
      clear hq
      generalize l[k] = x at *
      obtain ⟨xd, xv, xp, xw⟩ := x
      have HK := hid hk9
      obtain ⟨o1, o2, o3, -⟩ : i64ok xd ∧ i64ok xv ∧ i64ok xp ∧ True := hok
      have HO1 := hid o1
      have HO2 := hid o2
      have HO3 := hid o3
      clear o1 o2 o3
      clear hk9
      obtain ⟨b, off, cc, hv, -, -⟩ := ownA.addr HS (show Take _ (ownA (markMp k q0 ++ l.drop k) [.slice A1 _ _]) _ from .head) (by omega)
      simp only [Value.slice.injEq] at hv
      obtain ⟨rfl, -, rfl⟩ := hv
      go_wp2_with (first
            | ((with_reducible (show wpList _ _ _ (Oper.mk none (Op.store _ (.tmp 16) _) _ _ _ _ :: _) _ _)); refine wpList_storeE_st (o := ⟨none, .store _ (.tmp 16) _, _, _, _, _⟩) rfl _ _ _ rfl rfl (v := .int .i64 _) rfl HS tk sz_int 4 0 rfl (by first | rfl | (simp; done) | omega) hfl vcs rfx rfx HK.out (el := ((q : Int), xv, xp, xw)) (show i64ok ((q : Int)) ∧ i64ok (xv) ∧ i64ok (xp) ∧ True from by have := HO1.out; have := HO2.out; have := HO3.out; unfold i64ok at *; refine ⟨?_, ?_, ?_, trivial⟩ <;> omega) rfx (by simp) ?_ rfl; clear HS; intro w4_5 hz4_5 HS)
            | ((with_reducible (show wpList _ _ _ (Oper.mk none (Op.store _ (.tmp 23) _) _ _ _ _ :: _) _ _)); refine wpList_storeE_st (o := ⟨none, .store _ (.tmp 23) _, _, _, _, _⟩) rfl _ _ _ rfl rfl (v := .int .i64 _) rfl HS tk sz_int 4 1 rfl (by first | rfl | (simp; done) | omega) (by (try simp only [List.length_set]); exact hfl) vcs rfx rfx (List.getElem?_set_self (by (try simp only [List.length_set]); exact hfl)) (el := ((q : Int), (q : Int) + 1, xp, xw)) (show i64ok ((q : Int)) ∧ i64ok ((q : Int) + 1) ∧ i64ok (xp) ∧ True from by have := HO1.out; have := HO2.out; have := HO3.out; unfold i64ok at *; refine ⟨?_, ?_, ?_, trivial⟩ <;> omega) rfx (by simp) ?_ rfl; clear HS; intro w6_5 hz6_5 HS)
            | ((with_reducible (show wpList _ _ _ (Oper.mk none (Op.store _ (.tmp 30) _) _ _ _ _ :: _) _ _)); refine wpList_storeE_st (o := ⟨none, .store _ (.tmp 30) _, _, _, _, _⟩) rfl _ _ _ rfl rfl (v := .int .i64 _) rfl HS tk sz_int 4 2 rfl (by first | rfl | (simp; done) | omega) (by (try simp only [List.length_set]); exact hfl) vcs rfx rfx (List.getElem?_set_self (by (try simp only [List.length_set]); exact hfl)) (el := ((q : Int), (q : Int) + 1, (q : Int) + 2, xw)) (show i64ok ((q : Int)) ∧ i64ok ((q : Int) + 1) ∧ i64ok ((q : Int) + 2) ∧ True from by have := HO1.out; have := HO2.out; have := HO3.out; unfold i64ok at *; refine ⟨?_, ?_, ?_, trivial⟩ <;> omega) rfx (by simp) ?_ rfl; clear HS; intro w8_5 hz8_5 HS)
            | ((with_reducible (show wpList _ _ _ (Oper.mk none (Op.store _ (.tmp 39) _) _ _ _ _ :: _) _ _)); refine wpList_storeE_st (o := ⟨none, .store _ (.tmp 39) _, _, _, _, _⟩) rfl _ _ _ rfl rfl (v := .bool _) rfl HS tk sz_bool 4 3 rfl (by first | rfl | (simp; done) | omega) (by (try simp only [List.length_set]); exact hfl) vcs rfx rfx (List.getElem?_set_self (by (try simp only [List.length_set]); exact hfl)) (el := ((q : Int), (q : Int) + 1, (q : Int) + 2, ((q : Int) + 3) % 3 == 0)) (show i64ok ((q : Int)) ∧ i64ok ((q : Int) + 1) ∧ i64ok ((q : Int) + 2) ∧ True from by have := HO1.out; have := HO2.out; have := HO3.out; unfold i64ok at *; refine ⟨?_, ?_, ?_, trivial⟩ <;> omega) rfx (by simp) ?_ rfl; clear HS; intro w10_7 hz10_7 HS))
      simp only [List.set_set] at HS
      go_roundw
      case rel => exact ⟨k + 1, q + 4, hlt, by rw [HQ.out]; omega, by first | rfl | (congr 1; omega), by go_num, by rw [← HST.out]; exact HS⟩
      case measure => simp [intOf]; omega
    case neg =>
      obtain rfl : k = l.length := by omega
      subst hq
      rw [List.drop_length, List.append_nil] at HS
      go_wp2_with (first
            | ((with_reducible (show wpList _ _ _ (Oper.mk none (Op.store _ (.tmp 16) _) _ _ _ _ :: _) _ _)); refine wpList_storeE_st (o := ⟨none, .store _ (.tmp 16) _, _, _, _, _⟩) rfl _ _ _ rfl rfl (v := .int .i64 _) rfl HS tk sz_int 4 0 rfl (by first | rfl | (simp; done) | omega) hfl vcs rfx rfx HK.out (el := ((q : Int), xv, xp, xw)) (show i64ok ((q : Int)) ∧ i64ok (xv) ∧ i64ok (xp) ∧ True from by have := HO1.out; have := HO2.out; have := HO3.out; unfold i64ok at *; refine ⟨?_, ?_, ?_, trivial⟩ <;> omega) rfx (by simp) ?_ rfl; clear HS; intro w4_5 hz4_5 HS)
            | ((with_reducible (show wpList _ _ _ (Oper.mk none (Op.store _ (.tmp 23) _) _ _ _ _ :: _) _ _)); refine wpList_storeE_st (o := ⟨none, .store _ (.tmp 23) _, _, _, _, _⟩) rfl _ _ _ rfl rfl (v := .int .i64 _) rfl HS tk sz_int 4 1 rfl (by first | rfl | (simp; done) | omega) (by (try simp only [List.length_set]); exact hfl) vcs rfx rfx (List.getElem?_set_self (by (try simp only [List.length_set]); exact hfl)) (el := ((q : Int), (q : Int) + 1, xp, xw)) (show i64ok ((q : Int)) ∧ i64ok ((q : Int) + 1) ∧ i64ok (xp) ∧ True from by have := HO1.out; have := HO2.out; have := HO3.out; unfold i64ok at *; refine ⟨?_, ?_, ?_, trivial⟩ <;> omega) rfx (by simp) ?_ rfl; clear HS; intro w6_5 hz6_5 HS)
            | ((with_reducible (show wpList _ _ _ (Oper.mk none (Op.store _ (.tmp 30) _) _ _ _ _ :: _) _ _)); refine wpList_storeE_st (o := ⟨none, .store _ (.tmp 30) _, _, _, _, _⟩) rfl _ _ _ rfl rfl (v := .int .i64 _) rfl HS tk sz_int 4 2 rfl (by first | rfl | (simp; done) | omega) (by (try simp only [List.length_set]); exact hfl) vcs rfx rfx (List.getElem?_set_self (by (try simp only [List.length_set]); exact hfl)) (el := ((q : Int), (q : Int) + 1, (q : Int) + 2, xw)) (show i64ok ((q : Int)) ∧ i64ok ((q : Int) + 1) ∧ i64ok ((q : Int) + 2) ∧ True from by have := HO1.out; have := HO2.out; have := HO3.out; unfold i64ok at *; refine ⟨?_, ?_, ?_, trivial⟩ <;> omega) rfx (by simp) ?_ rfl; clear HS; intro w8_5 hz8_5 HS)
            | ((with_reducible (show wpList _ _ _ (Oper.mk none (Op.store _ (.tmp 39) _) _ _ _ _ :: _) _ _)); refine wpList_storeE_st (o := ⟨none, .store _ (.tmp 39) _, _, _, _, _⟩) rfl _ _ _ rfl rfl (v := .bool _) rfl HS tk sz_bool 4 3 rfl (by first | rfl | (simp; done) | omega) (by (try simp only [List.length_set]); exact hfl) vcs rfx rfx (List.getElem?_set_self (by (try simp only [List.length_set]); exact hfl)) (el := ((q : Int), (q : Int) + 1, (q : Int) + 2, ((q : Int) + 3) % 3 == 0)) (show i64ok ((q : Int)) ∧ i64ok ((q : Int) + 1) ∧ i64ok ((q : Int) + 2) ∧ True from by have := HO1.out; have := HO2.out; have := HO3.out; unfold i64ok at *; refine ⟨?_, ?_, ?_, trivial⟩ <;> omega) rfx (by simp) ?_ rfl; clear HS; intro w10_7 hz10_7 HS))
      go_ret
      exact ⟨rfl, HS⟩

end Go.Proofs.Ytelkplponnfkpaa

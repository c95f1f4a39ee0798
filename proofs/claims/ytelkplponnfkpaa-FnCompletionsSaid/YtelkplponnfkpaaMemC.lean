/- The parts of a row of device addresses: the program and the reference. -/
import Derived.Test.YtelkplponnfkpaaRows
import Derived.Test.YtelkplponnfkpaaMemA
import Derived.Test.YtelkplponnfkpaaGapN
import Derived.Test.YtelkplponnfkpaaTk
namespace Go.Proofs.Ytelkplponnfkpaa
open Go.RowKit
set_option linter.unusedVariables false
set_option linter.unusedSimpArgs false

def RetRs (w : World) (rs : List (Int × Int)) (e : Ending) (w' : World) : Prop := ∃ a c, e = .returned (.tuple #[.slice a rs.length c, .bool true]) ∧ Owns w.heap.size w' rs [.slice a rs.length c] ∧ Ex w w'
def RetRs2 (w : World) (rs : List (Int × Int)) (e : Ending) (w' : World) : Prop := ∃ a c a2 c2, e = .returned (.tuple #[.slice a rs.length c, .slice a2 rs.length c2, .bool true]) ∧ Owns w.heap.size w' (rs.map (·.1), rs.map (·.2)) ([.slice a rs.length c] ++ [.slice a2 rs.length c2]) ∧ Ex w w'
def RetNo2 (w : World) (e : Ending) (w' : World) : Prop := ∃ x y, e = .returned (.tuple #[x, y, .bool false]) ∧ Ex w w'
def OutRs (w : World) (o : Option (List (Int × Int))) (e : Ending) (w' : World) : Prop := match o with
  | none => e = .returned (.tuple #[.slice none 0 0, .bool false]) ∧ Ex w w'
  | some rs => RetRs w rs e w'
def OutRs2 (w : World) (o : Option (List (Int × Int))) (e : Ending) (w' : World) : Prop := match o with
  | none => RetNo2 w e w'
  | some rs => RetRs2 w rs e w'
theorem runs_not {l : List Mp} {ps : Pg} {d a n : Int} {wt : Bool} (h : runsOk l ps n = false) : runs l ps d a n wt = none := by unfold runs; rw [h]; rfl
theorem runs_is {l : List Mp} {ps : Pg} {d a : Int} {n : Nat} {wt : Bool} (h : runsOk l ps n = true) : runs l ps d a n wt = parts l ps.length d wt a n := by unfold runs; rw [h]; rfl
theorem map_nil_append {α : Type} (o : Option (List α)) : o.map ([] ++ ·) = o := by cases o <;> rfl
theorem map_step {α : Type} (o : Option (List α)) (x : List α) (y : α) : (o.map (y :: ·)).map (x ++ ·) = o.map ((x ++ [y]) ++ ·) := by cases o <;> simp

theorem retRs {w0 w : World} {Is Js : List Asn} {rs : List (Int × Int)} {v : Value} (h : St w0 w Is) (t : Take Is (ownA rs [v]) Js) : RetRs w0 rs (.returned (.tuple #[v, .bool true])) w := by
  obtain ⟨a, c, rfl⟩ := ownA.form h t
  exact ⟨a, c, rfl, h.owns t, h.ex⟩

set_option maxRecDepth 100000 in
set_option maxHeartbeats 4000000 in
theorem runsOf_any (v1 v2 : Value) (l : List Mp) (ps : Pg) (d a n : Int) (wt : Bool) (w : World) (k1 : Holds w l [v1]) (k2 : Holds w ps [v2]) (hd : i64ok d) (ha : i64ok a) (hn : i64ok n) {O : Option (List (Int × Int))} (ho : runs l ps d a n wt = O) :
    Calls Try.prog 119 #[v1, .agg #[v2], .int .i64 d, .int .i64 a, .int .i64 n, .bool wt] w (OutRs w O) := by
  obtain ⟨AA, cap, rfl, z1, z2⟩ := k1.fl
  unfold maxLen at z2
  obtain ⟨BB, cap2, rfl, y1, y2⟩ := k2.fl
  unfold maxLen at y2
  unfold i64ok at ha hn
  have HD := hid hd
  clear hd
  cases hmo : mapsOk l
  case false =>
    have HMO := hid hmo
    clear hmo
    obtain rfl : none = O := by rw [← ho]; exact (runs_not (by simp [runsOk, HMO.out])).symm
    have HS := St.start w
    go_enter Try.func119, Try.ntmps119
    go_wp2_with (first
          | (go_at_call 147; (with_reducible refine (mappingsOk_any _ l _ (k1.ex HS.ex)).mono ?_); rintro e w' ⟨rfl, hx⟩; rw [HMO.out]; replace HS := HS.grow hx; clear hx)
          | ((with_reducible (show wpList _ _ _ (Oper.mk (some 7) (Op.box _ _) _ _ _ _ :: _) _ _)); refine wpList_box_st (o := ⟨some 7, .box _ _, _, _, _, _⟩) rfl _ _ rfl (v := .agg (List.toArray _)) rfl HS ?_; clear HS; intro w7 b7 hb7 HS; simp only [Value.cells] at HS))
    go_ret2
    exact ⟨rfl, HS.ex⟩
  case true =>
  have HMO := hid hmo
  have HMK := hid (mapsOk_iff.1 hmo)
  clear hmo
  cases hme : memOk ps
  case false =>
    have HME := hid hme
    clear hme
    obtain rfl : none = O := by rw [← ho]; exact (runs_not (by simp [runsOk, HME.out])).symm
    have HS := St.start w
    go_enter Try.func119, Try.ntmps119
    go_wp2_with (first
          | (go_at_call 147; (with_reducible refine (mappingsOk_any _ l _ (k1.ex HS.ex)).mono ?_); rintro e w' ⟨rfl, hx⟩; rw [HMO.out]; replace HS := HS.grow hx; clear hx)
          | (go_at_call 148; (with_reducible refine (memoryOk_any _ ps _ (k2.ex HS.ex)).mono ?_); rintro e w' ⟨rfl, hx⟩; rw [HME.out]; replace HS := HS.grow hx; clear hx)
          | ((with_reducible (show wpList _ _ _ (Oper.mk (some 7) (Op.box _ _) _ _ _ _ :: _) _ _)); refine wpList_box_st (o := ⟨some 7, .box _ _, _, _, _, _⟩) rfl _ _ rfl (v := .agg (List.toArray _)) rfl HS ?_; clear HS; intro w7 b7 hb7 HS; simp only [Value.cells] at HS)
          | ((with_reducible (show wpList _ _ _ (Oper.mk (some 21) (Op.load _ _) _ _ _ _ :: _) _ _)); refine wpList_loadA_st (o := ⟨some 21, .load _ _, _, _, _, _⟩) rfl _ _ rfl rfl HS tk ag_impl_Memory lit rfl ?_))
    go_ret2
    exact ⟨rfl, HS.ex⟩
  case true =>
  have HME := hid hme
  have hps := (memOk_iff.1 hme).1
  clear hme
  cases hb : inB n 0 4096
  case false =>
    have HB := hid hb
    clear hb
    obtain rfl : none = O := by rw [← ho]; exact (runs_not (by simp [runsOk, HB.out])).symm
    have HS := St.start w
    go_enter Try.func119, Try.ntmps119
    go_wp2_with (first
          | (go_at_call 147; (with_reducible refine (mappingsOk_any _ l _ (k1.ex HS.ex)).mono ?_); rintro e w' ⟨rfl, hx⟩; rw [HMO.out]; replace HS := HS.grow hx; clear hx)
          | (go_at_call 148; (with_reducible refine (memoryOk_any _ ps _ (k2.ex HS.ex)).mono ?_); rintro e w' ⟨rfl, hx⟩; rw [HME.out]; replace HS := HS.grow hx; clear hx)
          | (go_at_call 62; (first | (with_reducible refine (between_v HB.out _).mono ?_)); rintro e w' ⟨rfl, rfl⟩)
          | ((with_reducible (show wpList _ _ _ (Oper.mk (some 7) (Op.box _ _) _ _ _ _ :: _) _ _)); refine wpList_box_st (o := ⟨some 7, .box _ _, _, _, _, _⟩) rfl _ _ rfl (v := .agg (List.toArray _)) rfl HS ?_; clear HS; intro w7 b7 hb7 HS; simp only [Value.cells] at HS)
          | ((with_reducible (show wpList _ _ _ (Oper.mk (some 21) (Op.load _ _) _ _ _ _ :: _) _ _)); refine wpList_loadA_st (o := ⟨some 21, .load _ _, _, _, _, _⟩) rfl _ _ rfl rfl HS tk ag_impl_Memory lit rfl ?_))
    go_ret2
    exact ⟨rfl, HS.ex⟩
  case true =>
  have HB := hid hb
  obtain ⟨n0, n1⟩ := inB_iff.1 hb
  obtain ⟨N, rfl⟩ := Int.eq_ofNat_of_zero_le n0
  rw [runs_is (by simp [runsOk, HMO.out, HME.out, hb])] at ho
  replace ho := hid ho
  clear hb
  by_cases hn0 : N = 0
  case pos =>
    have hz : ((N : Int) == 0) = true := by simp [hn0]
    obtain rfl : some [] = O := by rw [← ho.out, hn0, parts_zero]
    have HN0 := hid hn0
    clear hn0
    have HS := St.start w
    go_enter Try.func119, Try.ntmps119
    go_wp2_with (first
          | (go_at_call 147; (with_reducible refine (mappingsOk_any _ l _ (k1.ex HS.ex)).mono ?_); rintro e w' ⟨rfl, hx⟩; rw [HMO.out]; replace HS := HS.grow hx; clear hx)
          | (go_at_call 148; (with_reducible refine (memoryOk_any _ ps _ (k2.ex HS.ex)).mono ?_); rintro e w' ⟨rfl, hx⟩; rw [HME.out]; replace HS := HS.grow hx; clear hx)
          | (go_at_call 62; (first | (with_reducible refine (between_v HB.out _).mono ?_)); rintro e w' ⟨rfl, rfl⟩)
          | ((with_reducible (show wpList _ _ _ (Oper.mk (some 7) (Op.box _ _) _ _ _ _ :: _) _ _)); refine wpList_box_st (o := ⟨some 7, .box _ _, _, _, _, _⟩) rfl _ _ rfl (v := .agg (List.toArray _)) rfl HS ?_; clear HS; intro w7 b7 hb7 HS; simp only [Value.cells] at HS)
          | ((with_reducible (show wpList _ _ _ (Oper.mk (some 21) (Op.load _ _) _ _ _ _ :: _) _ _)); refine wpList_loadA_st (o := ⟨some 21, .load _ _, _, _, _, _⟩) rfl _ _ rfl rfl HS tk ag_impl_Memory lit rfl ?_))
    replace HS := HS.empty (α := Int × Int) none
    refine bodyPost_rets rfx (RVs.tmp rfx (RVs.tmp rfx RVs.nil)) (by simp) rfx ?_
    exact retRs HS tk
  case neg =>
  have hz : ((N : Int) == 0) = false := by simp; omega
  by_cases ha0 : a < 0
  case pos =>
    obtain rfl : none = O := by rw [← ho.out, parts_neg (by omega) ha0]
    have HS := St.start w
    go_enter Try.func119, Try.ntmps119
    go_wp2_with (first
          | (go_at_call 147; (with_reducible refine (mappingsOk_any _ l _ (k1.ex HS.ex)).mono ?_); rintro e w' ⟨rfl, hx⟩; rw [HMO.out]; replace HS := HS.grow hx; clear hx)
          | (go_at_call 148; (with_reducible refine (memoryOk_any _ ps _ (k2.ex HS.ex)).mono ?_); rintro e w' ⟨rfl, hx⟩; rw [HME.out]; replace HS := HS.grow hx; clear hx)
          | (go_at_call 62; (first | (with_reducible refine (between_v HB.out _).mono ?_)); rintro e w' ⟨rfl, rfl⟩)
          | ((with_reducible (show wpList _ _ _ (Oper.mk (some 7) (Op.box _ _) _ _ _ _ :: _) _ _)); refine wpList_box_st (o := ⟨some 7, .box _ _, _, _, _, _⟩) rfl _ _ rfl (v := .agg (List.toArray _)) rfl HS ?_; clear HS; intro w7 b7 hb7 HS; simp only [Value.cells] at HS)
          | ((with_reducible (show wpList _ _ _ (Oper.mk (some 21) (Op.load _ _) _ _ _ _ :: _) _ _)); refine wpList_loadA_st (o := ⟨some 21, .load _ _, _, _, _, _⟩) rfl _ _ rfl rfl HS tk ag_impl_Memory lit rfl ?_))
    go_ret2
    exact ⟨rfl, HS.ex⟩
  case neg =>
  have HS := St.start w
  go_enter Try.func119, Try.ntmps119
  go_wp2_with (first
        | (go_at_call 147; (with_reducible refine (mappingsOk_any _ l _ (k1.ex HS.ex)).mono ?_); rintro e w' ⟨rfl, hx⟩; rw [HMO.out]; replace HS := HS.grow hx; clear hx)
        | (go_at_call 148; (with_reducible refine (memoryOk_any _ ps _ (k2.ex HS.ex)).mono ?_); rintro e w' ⟨rfl, hx⟩; rw [HME.out]; replace HS := HS.grow hx; clear hx)
        | (go_at_call 62; (first | (with_reducible refine (between_v HB.out _).mono ?_)); rintro e w' ⟨rfl, rfl⟩)
        | ((with_reducible (show wpList _ _ _ (Oper.mk (some 7) (Op.box _ _) _ _ _ _ :: _) _ _)); refine wpList_box_st (o := ⟨some 7, .box _ _, _, _, _, _⟩) rfl _ _ rfl (v := .agg (List.toArray _)) rfl HS ?_; clear HS; intro w7 b7 hb7 HS; simp only [Value.cells] at HS)
        | ((with_reducible (show wpList _ _ _ (Oper.mk (some 21) (Op.load _ _) _ _ _ _ :: _) _ _)); refine wpList_loadA_st (o := ⟨some 21, .load _ _, _, _, _, _⟩) rfl _ _ rfl rfl HS tk ag_impl_Memory lit rfl ?_)
        | ((with_reducible (show wpList _ _ _ (Oper.mk (some 34) (Op.buildSlice _ _ _) _ _ _ _ :: _) _ _)); refine wpList_bslice0_st (o := ⟨some 34, .buildSlice _ _ _, _, _, _, _⟩) rfl _ rfl _ Try.underlying158 in_impl_run HS ?_; clear HS; intro w34 b34 hb34 HS; replace HS := HS.slotMade 2 tk; replace HS := HS.shut (α := Int × Int) (xs := []) tk rfl (fun _ h => by cases h)))
  go_loopw [3, 4, 14] (fun i nv o1 wr => ∃ (x : Int) (m : Nat) (X : List (Int × Int)) (A1 : Option Addr) (c1 : Nat), 0 ≤ x ∧ x ≤ 9223372036854775807 ∧ m ≤ 4096 ∧ X.length + m ≤ 4096 ∧ i = .int .i64 x ∧ nv = .int .i64 m ∧ o1 = .slice A1 X.length c1 ∧ O = (parts l ps.length d wt x m).map (X ++ ·) ∧ St w wr [rowA b7 [.slice BB ps.length cap2] 27, ownA X [.slice A1 X.length c1]]) (fun _ nv _ _ => (intOf nv).toNat)
  case atStart => exact ⟨a, N, [], _, _, by omega, by omega, by omega, by simp; omega, rfl, rfl, rfl, by rw [← ho.out, map_nil_append], (HS.arr (by repeat (first | exact Arr.nil | (with_reducible exact take_all _) | (refine Arr.cons tk ?_) | (refine arr_skip ?_))))⟩
  case round =>
    clear HS
    obtain ⟨x, m, X, A1, c1, x0, x1, m1, mX, rfl, rfl, rfl, hO, HS⟩ := hrel
    have HOO := hid hO
    clear hO
    by_cases hm : m = 0
    case pos =>
      subst hm
      obtain rfl : some X = O := by rw [HOO.out, parts_zero]; simp
      go_wp2
      refine bodyPost_rets rfx (RVs.tmp rfx (RVs.tmp rfx RVs.nil)) (by simp) rfx ?_
      exact retRs HS tk
    case neg =>
    have hm0 : 0 < m := by omega
    clear hm
    skip
    obtain ⟨p, hp⟩ : ∃ p : Nat, (p : Int) = x / 128 := ⟨(x / 128).toNat, by omega⟩
    obtain ⟨r, hr⟩ : ∃ r : Nat, (r : Int) = x % 128 := ⟨(x % 128).toNat, by omega⟩
    obtain ⟨k0, hk0⟩ : ∃ k : Nat, (k : Int) = 128 - r := ⟨128 - r, by omega⟩
    have q1 : x.tdiv 128 = (p : Int) := by rw [Int.tdiv_eq_ediv_of_nonneg (by omega)]; omega
    have q2 : x.tmod 128 = (r : Int) := by rw [Int.tmod_eq_emod_of_nonneg (by omega)]; omega
    have q3 : x / 128 = (p : Int) := by omega
    have q4 : x % 128 = (r : Int) := by omega
    have q5 : (128 : Int) - r = k0 := by omega
    have hr1 : r ≤ 127 := by omega
    have hk1 : k0 ≤ 128 := by omega
    have hk2 : 1 ≤ k0 := by omega
    obtain ⟨pg, hpg⟩ : ∃ pg, mpPage l d p wt = pg := ⟨_, rfl⟩
    have hb1 := mpPage_bd HMK.out d p wt
    rw [hpg] at hb1
    have hb2 := hb1.1
    have hb3 := hb1.2
    have HPG := hid hpg
    by_cases hneg : pg < 0
    case pos =>
      have HPL : Hid (placeF l d x wt = -1) := hid (by unfold placeF; rw [q3, q4, HPG.out]; rw [if_pos (by omega)])
      have hpg1 : pg = -1 := by omega
      subst hpg1
      clear hr hp hk0 hpg hb1
      rcases (by omega : (m : Int) ≤ k0 ∨ (k0 : Int) < m) with hmk | hmk
      all_goals
        obtain rfl : none = O := by rw [HOO.out, parts_none hm0 (by rw [q3, HPG.out]; omega)]; rfl
        go_wp2_with (first
              | (go_at_call 149; (with_reducible refine (place_any _ l d x wt _ (k1.ex HS.ex) HMK.out (by unfold i64ok; omega) (by omega)).mono ?_); rintro e w' ⟨rfl, hx⟩; rw [HPL.out]; replace HS := HS.grow hx; clear hx))
        go_ret2
        exact ⟨rfl, HS.ex⟩
    case neg =>
    have hp1 := (mpPage_v HMK.out (d := d) (v := p) (wr := wt) (by rw [hpg]; omega)).2
    have hk3 : (r : Int) + k0 = 128 := by omega
    have h7 : (0 : Int) ≤ pg * 128 + r := by omega
    have h8 : (0 : Int) ≤ pg := by omega
    have h9 : decide (pg * 128 + (r : Int) < 0) = false := decide_eq_false (by omega)
    have h10 : decide (pg < 0) = false := decide_eq_false (by omega)
    clear hr hp hk0 hpg hb1
    have HPL : Hid (placeF l d x wt = pg * 128 + r) := hid (by unfold placeF; rw [q3, q4, HPG.out]; rw [if_neg (by omega)])
    by_cases hnp : (ps.length : Int) ≤ pg
    case pos =>
      rcases (by omega : (m : Int) ≤ k0 ∨ (k0 : Int) < m) with hmk | hmk
      · have HW : Hid (memInB ps (pg * 128 + r) m = false) := hid (by rw [Bool.eq_false_iff]; intro hc; rw [memInB_iff] at hc; omega)
        obtain rfl : none = O := by rw [HOO.out, parts_none hm0 (by rw [q3, HPG.out]; omega)]; rfl
        go_wp2_with (first
              | (go_at_call 149; (with_reducible refine (place_any _ l d x wt _ (k1.ex HS.ex) HMK.out (by unfold i64ok; omega) (by omega)).mono ?_); rintro e w' ⟨rfl, hx⟩; rw [HPL.out]; replace HS := HS.grow hx; clear hx)
              | (go_at_call 150; (with_reducible refine (memIn_any _ ps (pg * 128 + r) m _ (k2.ex HS.ex) (by omega) (by unfold i64ok; omega) (by unfold i64ok; omega)).mono ?_); rintro e w' ⟨rfl, hx⟩; rw [HW.out]; replace HS := HS.grow hx; clear hx)
              | ((with_reducible (show wpList _ _ _ (Oper.mk (some 50) (Op.load _ _) _ _ _ _ :: _) _ _)); refine wpList_loadA_st (o := ⟨some 50, .load _ _, _, _, _, _⟩) rfl _ _ rfl rfl HS tk ag_impl_Memory lit rfl ?_))
        go_ret2
        exact ⟨rfl, HS.ex⟩
      · have HW : Hid (memInB ps (pg * 128 + r) k0 = false) := hid (by rw [Bool.eq_false_iff]; intro hc; rw [memInB_iff] at hc; omega)
        obtain rfl : none = O := by rw [HOO.out, parts_none hm0 (by rw [q3, HPG.out]; omega)]; rfl
        go_wp2_with (first
              | (go_at_call 149; (with_reducible refine (place_any _ l d x wt _ (k1.ex HS.ex) HMK.out (by unfold i64ok; omega) (by omega)).mono ?_); rintro e w' ⟨rfl, hx⟩; rw [HPL.out]; replace HS := HS.grow hx; clear hx)
              | (go_at_call 150; (with_reducible refine (memIn_any _ ps (pg * 128 + r) k0 _ (k2.ex HS.ex) (by omega) (by unfold i64ok; omega) (by unfold i64ok; omega)).mono ?_); rintro e w' ⟨rfl, hx⟩; rw [HW.out]; replace HS := HS.grow hx; clear hx)
              | ((with_reducible (show wpList _ _ _ (Oper.mk (some 50) (Op.load _ _) _ _ _ _ :: _) _ _)); refine wpList_loadA_st (o := ⟨some 50, .load _ _, _, _, _, _⟩) rfl _ _ rfl rfl HS tk ag_impl_Memory lit rfl ?_))
        go_ret2
        exact ⟨rfl, HS.ex⟩
    case neg =>
    rcases (by omega : (m : Int) ≤ k0 ∨ (k0 : Int) < m) with hmk | hmk
    · have HPS : Hid (O = (parts l ps.length d wt (x + m) (m - m)).map ((X ++ [(pg * 128 + r, (m : Int))]) ++ ·)) := hid (by rw [HOO.out, parts_some hm0 (by omega) (by rw [q3, HPG.out]; omega) (by rw [q3, HPG.out]; omega) (k := m) (by rw [q4]; omega), q3, q4, HPG.out, map_step])
      have HW : Hid (memInB ps (pg * 128 + r) m = true) := hid (memInB_iff.2 ⟨memOk_iff.1 HME.out, by omega, by omega, by omega, by omega⟩)
      go_wp2_with (first
            | (go_at_call 149; (with_reducible refine (place_any _ l d x wt _ (k1.ex HS.ex) HMK.out (by unfold i64ok; omega) (by omega)).mono ?_); rintro e w' ⟨rfl, hx⟩; rw [HPL.out]; replace HS := HS.grow hx; clear hx)
            | (go_at_call 150; (with_reducible refine (memIn_any _ ps (pg * 128 + r) m _ (k2.ex HS.ex) (by omega) (by unfold i64ok; omega) (by unfold i64ok; omega)).mono ?_); rintro e w' ⟨rfl, hx⟩; rw [HW.out]; replace HS := HS.grow hx; clear hx)
            | ((with_reducible (show wpList _ _ _ (Oper.mk (some 50) (Op.load _ _) _ _ _ _ :: _) _ _)); refine wpList_loadA_st (o := ⟨some 50, .load _ _, _, _, _, _⟩) rfl _ _ rfl rfl HS tk ag_impl_Memory lit rfl ?_)
            | ((with_reducible (show wpList _ _ _ (Oper.mk (some 60) (Op.buildSlice _ _ _) _ _ _ _ :: _) _ _)); refine wpList_bslice1_st (o := ⟨some 60, .buildSlice _ _ _, _, _, _, _⟩) rfl _ _ rfl _ Try.underlying158 in_impl_run (by decide) (by decide) (x := .agg (List.toArray _)) rfl vcs rfx HS ?_; clear HS; intro w60 b60 hb60 HS)
            | ((with_reducible (show wpList _ _ _ (Oper.mk (some 61) (Op.call { callee := .builtin .append, args := _, argTypes := _ }) _ _ _ _ :: _) _ _)); refine wpList_appO_st (α := (Int × Int)) (el := (pg * 128 + r, m)) (o := ⟨some 61, .call { callee := .builtin .append, args := _, argTypes := _ }, _, _, _, _⟩) rfl _ _ _ _ rfl _ Try.underlying158 in_impl_run rfl rfl HS tk rfl (Src.row HS tk Try.underlying158 rfx rfx) rfl (show i64ok _ ∧ i64ok _ from ⟨by unfold i64ok; omega, by unfold i64ok; omega⟩) mxl (by omega) ?_; clear HS; intro a61 c61 w61 hb61 HS))
      go_roundw
      case rel => refine ⟨x + m, m - m, X ++ [(pg * 128 + r, (m : Int))], _, _, by omega, by omega, by omega, by simp; omega, (by first | rfl | (congr 1; omega)), (by first | rfl | (congr 1; omega) | (simp; omega)), (by rw [List.length_append]; rfl), HPS.out, by simp only [List.length_append, List.length_singleton, List.map_append, List.map_cons, List.map_nil]; exact (HS.arr (by repeat (first | exact Arr.nil | (with_reducible exact take_all _) | (refine Arr.cons tk ?_) | (refine arr_skip ?_))))⟩ <;> rfl
      case measure => simp [intOf]; omega
    · have HPS : Hid (O = (parts l ps.length d wt (x + k0) (m - k0)).map ((X ++ [(pg * 128 + r, (k0 : Int))]) ++ ·)) := hid (by rw [HOO.out, parts_some hm0 (by omega) (by rw [q3, HPG.out]; omega) (by rw [q3, HPG.out]; omega) (k := k0) (by rw [q4]; omega), q3, q4, HPG.out, map_step])
      have HW : Hid (memInB ps (pg * 128 + r) k0 = true) := hid (memInB_iff.2 ⟨memOk_iff.1 HME.out, by omega, by omega, by omega, by omega⟩)
      go_wp2_with (first
            | (go_at_call 149; (with_reducible refine (place_any _ l d x wt _ (k1.ex HS.ex) HMK.out (by unfold i64ok; omega) (by omega)).mono ?_); rintro e w' ⟨rfl, hx⟩; rw [HPL.out]; replace HS := HS.grow hx; clear hx)
            | (go_at_call 150; (with_reducible refine (memIn_any _ ps (pg * 128 + r) k0 _ (k2.ex HS.ex) (by omega) (by unfold i64ok; omega) (by unfold i64ok; omega)).mono ?_); rintro e w' ⟨rfl, hx⟩; rw [HW.out]; replace HS := HS.grow hx; clear hx)
            | ((with_reducible (show wpList _ _ _ (Oper.mk (some 50) (Op.load _ _) _ _ _ _ :: _) _ _)); refine wpList_loadA_st (o := ⟨some 50, .load _ _, _, _, _, _⟩) rfl _ _ rfl rfl HS tk ag_impl_Memory lit rfl ?_)
            | ((with_reducible (show wpList _ _ _ (Oper.mk (some 60) (Op.buildSlice _ _ _) _ _ _ _ :: _) _ _)); refine wpList_bslice1_st (o := ⟨some 60, .buildSlice _ _ _, _, _, _, _⟩) rfl _ _ rfl _ Try.underlying158 in_impl_run (by decide) (by decide) (x := .agg (List.toArray _)) rfl vcs rfx HS ?_; clear HS; intro w60 b60 hb60 HS)
            | ((with_reducible (show wpList _ _ _ (Oper.mk (some 61) (Op.call { callee := .builtin .append, args := _, argTypes := _ }) _ _ _ _ :: _) _ _)); refine wpList_appO_st (α := (Int × Int)) (el := (pg * 128 + r, k0)) (o := ⟨some 61, .call { callee := .builtin .append, args := _, argTypes := _ }, _, _, _, _⟩) rfl _ _ _ _ rfl _ Try.underlying158 in_impl_run rfl rfl HS tk rfl (Src.row HS tk Try.underlying158 rfx rfx) rfl (show i64ok _ ∧ i64ok _ from ⟨by unfold i64ok; omega, by unfold i64ok; omega⟩) mxl (by omega) ?_; clear HS; intro a61 c61 w61 hb61 HS))
      go_roundw
      case rel => refine ⟨x + k0, m - k0, X ++ [(pg * 128 + r, (k0 : Int))], _, _, by omega, by omega, by omega, by simp; omega, (by first | rfl | (congr 1; omega)), (by first | rfl | (congr 1; omega) | (simp; omega)), (by rw [List.length_append]; rfl), HPS.out, by simp only [List.length_append, List.length_singleton, List.map_append, List.map_cons, List.map_nil]; exact (HS.arr (by repeat (first | exact Arr.nil | (with_reducible exact take_all _) | (refine Arr.cons tk ?_) | (refine arr_skip ?_))))⟩ <;> rfl
      case measure => simp [intOf]; omega

end Go.Proofs.Ytelkplponnfkpaa

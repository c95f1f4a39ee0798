/- The parts of a row of device addresses: the reference. -/
import Derived.Test.YtelkplponnfkpaaRows
import Derived.Test.YtelkplponnfkpaaMemC
import Derived.Test.YtelkplponnfkpaaTk
namespace Go.Proofs.Ytelkplponnfkpaa
open Go.RowKit
set_option linter.unusedVariables false
set_option linter.unusedSimpArgs false

theorem retRs2 {w0 w : World} {Is J1 J2 : List Asn} {rs : List (Int × Int)} {v v2 : Value} (h : St w0 w Is) (t : Take Is (ownA (rs.map (·.1)) [v]) J1) (t2 : Take J1 (ownA (rs.map (·.2)) [v2]) J2) : RetRs2 w0 rs (.returned (.tuple #[v, v2, .bool true])) w := by
  have h2 := h.arr (.cons t (.cons t2 .nil))
  obtain ⟨a, c, rfl⟩ := ownA.form h2 .head
  obtain ⟨a2, c2, rfl⟩ := ownA.form h2 (.tail .head)
  simp only [List.length_map] at h2 ⊢
  exact ⟨a, c, a2, c2, rfl, h2.join.owns .head, h2.ex⟩

set_option maxRecDepth 100000 in
set_option maxHeartbeats 4000000 in
theorem l17Parts_any (v1 v2 : Value) (l : List Mp) (ps : Pg) (d a n : Int) (wt : Bool) (w : World) (k1 : Holds w l [v1]) (k2 : Holds w ps [v2]) (hd : i64ok d) (ha : i64ok a) (hn : i64ok n) {O : Option (List (Int × Int))} (ho : runs l ps d a n wt = O) :
    Calls Try.prog 125 #[v1, .agg #[v2], .int .i64 d, .int .i64 a, .int .i64 n, .bool wt] w (OutRs2 w O) := by
  obtain ⟨AA, cap, rfl, z1, z2⟩ := k1.fl
  unfold maxLen at z2
  obtain ⟨BB, cap2, rfl, y1, y2⟩ := k2.fl
  unfold maxLen at y2
  unfold i64ok at ha hn
  have HD := hid hd
  clear hd
  cases hmo : mapsOk l
  case false =>
    have HMO := hid hmo
    clear hmo
    obtain rfl : none = O := by rw [← ho]; exact (runs_not (by simp [runsOk, HMO.out])).symm
    have HS := St.start w
    go_enter Try.func125, Try.ntmps125
    go_wp2_with (first
          | (go_at_call 142; (with_reducible refine (mappingsOkS_any _ l _ (k1.ex HS.ex)).mono ?_); rintro e w' ⟨rfl, hx⟩; rw [HMO.out]; replace HS := HS.grow hx; clear hx)
          | ((with_reducible (show wpList _ _ _ (Oper.mk (some 7) (Op.box _ _) _ _ _ _ :: _) _ _)); refine wpList_box_st (o := ⟨some 7, .box _ _, _, _, _, _⟩) rfl _ _ rfl (v := .agg (List.toArray _)) rfl HS ?_; clear HS; intro w7 b7 hb7 HS; simp only [Value.cells] at HS)
          | ((with_reducible (show wpList _ _ _ (Oper.mk (some 20) (Op.buildSlice _ _ _) _ _ _ _ :: _) _ _)); refine wpList_bslice0_st (o := ⟨some 20, .buildSlice _ _ _, _, _, _, _⟩) rfl _ rfl _ Try.underlying91 in_int HS ?_; clear HS; intro w20 b20 hb20 HS; replace HS := HS.slotMade 1 tk; replace HS := HS.shut (α := Int) (xs := []) tk rfl (fun _ h => by cases h))
          | ((with_reducible (show wpList _ _ _ (Oper.mk (some 21) (Op.buildSlice _ _ _) _ _ _ _ :: _) _ _)); refine wpList_bslice0_st (o := ⟨some 21, .buildSlice _ _ _, _, _, _, _⟩) rfl _ rfl _ Try.underlying91 in_int HS ?_; clear HS; intro w21 b21 hb21 HS; replace HS := HS.slotMade 1 tk; replace HS := HS.shut (α := Int) (xs := []) tk rfl (fun _ h => by cases h)))
    refine bodyPost_rets rfx (RVs.tmp rfx (RVs.tmp rfx (RVs.tmp rfx RVs.nil))) (by simp) rfx ?_
    exact ⟨_, _, rfl, HS.ex⟩
  case true =>
  have HMO := hid hmo
  have HMK := hid (mapsOk_iff.1 hmo)
  clear hmo
  cases hme : memOk ps
  case false =>
    have HME := hid hme
    clear hme
    obtain rfl : none = O := by rw [← ho]; exact (runs_not (by simp [runsOk, HME.out])).symm
    have HS := St.start w
    go_enter Try.func125, Try.ntmps125
    go_wp2_with (first
          | (go_at_call 142; (with_reducible refine (mappingsOkS_any _ l _ (k1.ex HS.ex)).mono ?_); rintro e w' ⟨rfl, hx⟩; rw [HMO.out]; replace HS := HS.grow hx; clear hx)
          | (go_at_call 151; (with_reducible refine (memoryOkS_any _ ps _ (k2.ex HS.ex)).mono ?_); rintro e w' ⟨rfl, hx⟩; rw [HME.out]; replace HS := HS.grow hx; clear hx)
          | ((with_reducible (show wpList _ _ _ (Oper.mk (some 7) (Op.box _ _) _ _ _ _ :: _) _ _)); refine wpList_box_st (o := ⟨some 7, .box _ _, _, _, _, _⟩) rfl _ _ rfl (v := .agg (List.toArray _)) rfl HS ?_; clear HS; intro w7 b7 hb7 HS; simp only [Value.cells] at HS)
          | ((with_reducible (show wpList _ _ _ (Oper.mk (some 20) (Op.buildSlice _ _ _) _ _ _ _ :: _) _ _)); refine wpList_bslice0_st (o := ⟨some 20, .buildSlice _ _ _, _, _, _, _⟩) rfl _ rfl _ Try.underlying91 in_int HS ?_; clear HS; intro w20 b20 hb20 HS; replace HS := HS.slotMade 1 tk; replace HS := HS.shut (α := Int) (xs := []) tk rfl (fun _ h => by cases h))
          | ((with_reducible (show wpList _ _ _ (Oper.mk (some 21) (Op.buildSlice _ _ _) _ _ _ _ :: _) _ _)); refine wpList_bslice0_st (o := ⟨some 21, .buildSlice _ _ _, _, _, _, _⟩) rfl _ rfl _ Try.underlying91 in_int HS ?_; clear HS; intro w21 b21 hb21 HS; replace HS := HS.slotMade 1 tk; replace HS := HS.shut (α := Int) (xs := []) tk rfl (fun _ h => by cases h))
          | ((with_reducible (show wpList _ _ _ (Oper.mk (some 26) (Op.load _ _) _ _ _ _ :: _) _ _)); refine wpList_loadA_st (o := ⟨some 26, .load _ _, _, _, _, _⟩) rfl _ _ rfl rfl HS tk ag_impl_Memory lit rfl ?_))
    refine bodyPost_rets rfx (RVs.tmp rfx (RVs.tmp rfx (RVs.tmp rfx RVs.nil))) (by simp) rfx ?_
    exact ⟨_, _, rfl, HS.ex⟩
  case true =>
  have HME := hid hme
  have hps := (memOk_iff.1 hme).1
  clear hme
  cases hb : inB n 0 4096
  case false =>
    have HB := hid hb
    clear hb
    obtain rfl : none = O := by rw [← ho]; exact (runs_not (by simp [runsOk, HB.out])).symm
    have HS := St.start w
    go_enter Try.func125, Try.ntmps125
    go_wp2_with (first
          | (go_at_call 142; (with_reducible refine (mappingsOkS_any _ l _ (k1.ex HS.ex)).mono ?_); rintro e w' ⟨rfl, hx⟩; rw [HMO.out]; replace HS := HS.grow hx; clear hx)
          | (go_at_call 151; (with_reducible refine (memoryOkS_any _ ps _ (k2.ex HS.ex)).mono ?_); rintro e w' ⟨rfl, hx⟩; rw [HME.out]; replace HS := HS.grow hx; clear hx)
          | (go_at_call 123; (first | (with_reducible refine (l01In_v HB.out _).mono ?_)); rintro e w' ⟨rfl, rfl⟩)
          | ((with_reducible (show wpList _ _ _ (Oper.mk (some 7) (Op.box _ _) _ _ _ _ :: _) _ _)); refine wpList_box_st (o := ⟨some 7, .box _ _, _, _, _, _⟩) rfl _ _ rfl (v := .agg (List.toArray _)) rfl HS ?_; clear HS; intro w7 b7 hb7 HS; simp only [Value.cells] at HS)
          | ((with_reducible (show wpList _ _ _ (Oper.mk (some 20) (Op.buildSlice _ _ _) _ _ _ _ :: _) _ _)); refine wpList_bslice0_st (o := ⟨some 20, .buildSlice _ _ _, _, _, _, _⟩) rfl _ rfl _ Try.underlying91 in_int HS ?_; clear HS; intro w20 b20 hb20 HS; replace HS := HS.slotMade 1 tk; replace HS := HS.shut (α := Int) (xs := []) tk rfl (fun _ h => by cases h))
          | ((with_reducible (show wpList _ _ _ (Oper.mk (some 21) (Op.buildSlice _ _ _) _ _ _ _ :: _) _ _)); refine wpList_bslice0_st (o := ⟨some 21, .buildSlice _ _ _, _, _, _, _⟩) rfl _ rfl _ Try.underlying91 in_int HS ?_; clear HS; intro w21 b21 hb21 HS; replace HS := HS.slotMade 1 tk; replace HS := HS.shut (α := Int) (xs := []) tk rfl (fun _ h => by cases h))
          | ((with_reducible (show wpList _ _ _ (Oper.mk (some 26) (Op.load _ _) _ _ _ _ :: _) _ _)); refine wpList_loadA_st (o := ⟨some 26, .load _ _, _, _, _, _⟩) rfl _ _ rfl rfl HS tk ag_impl_Memory lit rfl ?_))
    refine bodyPost_rets rfx (RVs.tmp rfx (RVs.tmp rfx (RVs.tmp rfx RVs.nil))) (by simp) rfx ?_
    exact ⟨_, _, rfl, HS.ex⟩
  case true =>
  have HB := hid hb
  obtain ⟨n0, n1⟩ := inB_iff.1 hb
  obtain ⟨N, rfl⟩ := Int.eq_ofNat_of_zero_le n0
  rw [runs_is (by simp [runsOk, HMO.out, HME.out, hb])] at ho
  replace ho := hid ho
  clear hb
  have HS := St.start w
  go_enter Try.func125, Try.ntmps125
  go_wp2_with (first
        | (go_at_call 142; (with_reducible refine (mappingsOkS_any _ l _ (k1.ex HS.ex)).mono ?_); rintro e w' ⟨rfl, hx⟩; rw [HMO.out]; replace HS := HS.grow hx; clear hx)
        | (go_at_call 151; (with_reducible refine (memoryOkS_any _ ps _ (k2.ex HS.ex)).mono ?_); rintro e w' ⟨rfl, hx⟩; rw [HME.out]; replace HS := HS.grow hx; clear hx)
        | (go_at_call 123; (first | (with_reducible refine (l01In_v HB.out _).mono ?_)); rintro e w' ⟨rfl, rfl⟩)
        | ((with_reducible (show wpList _ _ _ (Oper.mk (some 7) (Op.box _ _) _ _ _ _ :: _) _ _)); refine wpList_box_st (o := ⟨some 7, .box _ _, _, _, _, _⟩) rfl _ _ rfl (v := .agg (List.toArray _)) rfl HS ?_; clear HS; intro w7 b7 hb7 HS; simp only [Value.cells] at HS)
        | ((with_reducible (show wpList _ _ _ (Oper.mk (some 20) (Op.buildSlice _ _ _) _ _ _ _ :: _) _ _)); refine wpList_bslice0_st (o := ⟨some 20, .buildSlice _ _ _, _, _, _, _⟩) rfl _ rfl _ Try.underlying91 in_int HS ?_; clear HS; intro w20 b20 hb20 HS; replace HS := HS.slotMade 1 tk; replace HS := HS.shut (α := Int) (xs := []) tk rfl (fun _ h => by cases h))
        | ((with_reducible (show wpList _ _ _ (Oper.mk (some 21) (Op.buildSlice _ _ _) _ _ _ _ :: _) _ _)); refine wpList_bslice0_st (o := ⟨some 21, .buildSlice _ _ _, _, _, _, _⟩) rfl _ rfl _ Try.underlying91 in_int HS ?_; clear HS; intro w21 b21 hb21 HS; replace HS := HS.slotMade 1 tk; replace HS := HS.shut (α := Int) (xs := []) tk rfl (fun _ h => by cases h))
        | ((with_reducible (show wpList _ _ _ (Oper.mk (some 26) (Op.load _ _) _ _ _ _ :: _) _ _)); refine wpList_loadA_st (o := ⟨some 26, .load _ _, _, _, _, _⟩) rfl _ _ rfl rfl HS tk ag_impl_Memory lit rfl ?_))
  go_loopw [3, 4, 15, 16] (fun i nv o1 o2 wr => ∃ (x : Int) (m : Nat) (X : List (Int × Int)) (A1 : Option Addr) (c1 : Nat) (A2 : Option Addr) (c2 : Nat), -9223372036854775808 ≤ x ∧ x ≤ 9223372036854775807 ∧ m ≤ 4096 ∧ X.length + m ≤ 4096 ∧ i = .int .i64 x ∧ nv = .int .i64 m ∧ o1 = .slice A1 X.length c1 ∧ o2 = .slice A2 X.length c2 ∧ O = (parts l ps.length d wt x m).map (X ++ ·) ∧ St w wr [rowA b7 [.slice BB ps.length cap2] 27, ownA (X.map (·.1)) [.slice A1 X.length c1], ownA (X.map (·.2)) [.slice A2 X.length c2]]) (fun _ nv _ _ _ => (intOf nv).toNat)
  case atStart => exact ⟨a, N, [], _, _, _, _, by omega, by omega, by omega, by simp; omega, rfl, rfl, rfl, rfl, by rw [← ho.out, map_nil_append], (HS.arr (by repeat (first | exact Arr.nil | (with_reducible exact take_all _) | (refine Arr.cons tk ?_) | (refine arr_skip ?_))))⟩
  case round =>
    clear HS
    obtain ⟨x, m, X, A1, c1, A2, c2, x0, x1, m1, mX, rfl, rfl, rfl, rfl, hO, HS⟩ := hrel
    have HOO := hid hO
    clear hO
    by_cases hm : m = 0
    case pos =>
      subst hm
      obtain rfl : some X = O := by rw [HOO.out, parts_zero]; simp
      go_wp2
      refine bodyPost_rets rfx (RVs.tmp rfx (RVs.tmp rfx (RVs.tmp rfx RVs.nil))) (by simp) rfx ?_
      exact retRs2 HS tk tk
    case neg =>
    have hm0 : 0 < m := by omega
    clear hm
    by_cases hxn : x < 0
    case pos =>
      obtain rfl : none = O := by rw [HOO.out, parts_neg hm0 hxn]; rfl
      go_wp2_with (first
            | ((with_reducible (show wpList _ _ _ (Oper.mk (some 58) (Op.buildSlice _ _ _) _ _ _ _ :: _) _ _)); refine wpList_bslice0_st (o := ⟨some 58, .buildSlice _ _ _, _, _, _, _⟩) rfl _ rfl _ Try.underlying91 in_int HS ?_; clear HS; intro w58 b58 hb58 HS)
            | ((with_reducible (show wpList _ _ _ (Oper.mk (some 59) (Op.buildSlice _ _ _) _ _ _ _ :: _) _ _)); refine wpList_bslice0_st (o := ⟨some 59, .buildSlice _ _ _, _, _, _, _⟩) rfl _ rfl _ Try.underlying91 in_int HS ?_; clear HS; intro w59 b59 hb59 HS))
      refine bodyPost_rets rfx (RVs.tmp rfx (RVs.tmp rfx (RVs.tmp rfx RVs.nil))) (by simp) rfx ?_
      exact ⟨_, _, rfl, HS.ex⟩
    case neg =>

    obtain ⟨p, hp⟩ : ∃ p : Nat, (p : Int) = x / 128 := ⟨(x / 128).toNat, by omega⟩
    obtain ⟨r, hr⟩ : ∃ r : Nat, (r : Int) = x % 128 := ⟨(x % 128).toNat, by omega⟩
    obtain ⟨k0, hk0⟩ : ∃ k : Nat, (k : Int) = 128 - r := ⟨128 - r, by omega⟩
    have q1 : x.tdiv 128 = (p : Int) := by rw [Int.tdiv_eq_ediv_of_nonneg (by omega)]; omega
    have q2 : x.tmod 128 = (r : Int) := by rw [Int.tmod_eq_emod_of_nonneg (by omega)]; omega
    have q3 : x / 128 = (p : Int) := by omega
    have q4 : x % 128 = (r : Int) := by omega
    have q5 : (128 : Int) - r = k0 := by omega
    have hr1 : r ≤ 127 := by omega
    have hk1 : k0 ≤ 128 := by omega
    have hk2 : 1 ≤ k0 := by omega
    obtain ⟨pg, hpg⟩ : ∃ pg, mpPage l d p wt = pg := ⟨_, rfl⟩
    have hb1 := mpPage_bd HMK.out d p wt
    rw [hpg] at hb1
    have hb2 := hb1.1
    have hb3 := hb1.2
    have HPG := hid hpg
    by_cases hneg : pg < 0
    case pos =>
      have hpg1 : pg = -1 := by omega
      subst hpg1
      clear hr hp hk0 hpg hb1
      rcases (by omega : (m : Int) ≤ k0 ∨ (k0 : Int) < m) with hmk | hmk
      all_goals
        obtain rfl : none = O := by rw [HOO.out, parts_none hm0 (by rw [q3, HPG.out]; omega)]; rfl
        go_wp2_with (first
              | (go_at_call 152; (with_reducible refine (l17Page_any _ l d p wt _ (k1.ex HS.ex) HMK.out).mono ?_); rintro e w' ⟨rfl, hx⟩; rw [HPG.out]; replace HS := HS.grow hx; clear hx)
              | ((with_reducible (show wpList _ _ _ (Oper.mk (some 58) (Op.buildSlice _ _ _) _ _ _ _ :: _) _ _)); refine wpList_bslice0_st (o := ⟨some 58, .buildSlice _ _ _, _, _, _, _⟩) rfl _ rfl _ Try.underlying91 in_int HS ?_; clear HS; intro w58 b58 hb58 HS)
              | ((with_reducible (show wpList _ _ _ (Oper.mk (some 59) (Op.buildSlice _ _ _) _ _ _ _ :: _) _ _)); refine wpList_bslice0_st (o := ⟨some 59, .buildSlice _ _ _, _, _, _, _⟩) rfl _ rfl _ Try.underlying91 in_int HS ?_; clear HS; intro w59 b59 hb59 HS))
        refine bodyPost_rets rfx (RVs.tmp rfx (RVs.tmp rfx (RVs.tmp rfx RVs.nil))) (by simp) rfx ?_
        exact ⟨_, _, rfl, HS.ex⟩
    case neg =>
    have hp1 := (mpPage_v HMK.out (d := d) (v := p) (wr := wt) (by rw [hpg]; omega)).2
    have hk3 : (r : Int) + k0 = 128 := by omega
    have h7 : (0 : Int) ≤ pg * 128 + r := by omega
    have h8 : (0 : Int) ≤ pg := by omega
    have h9 : decide (pg * 128 + (r : Int) < 0) = false := decide_eq_false (by omega)
    have h10 : decide (pg < 0) = false := decide_eq_false (by omega)
    clear hr hp hk0 hpg hb1
    by_cases hnp : (ps.length : Int) ≤ pg
    case pos =>
      have HW : Hid (memInB ps (pg * 128) 128 = false) := hid (by rw [Bool.eq_false_iff]; intro hc; rw [memInB_iff] at hc; omega)
      obtain rfl : none = O := by rw [HOO.out, parts_none hm0 (by rw [q3, HPG.out]; omega)]; rfl
      go_wp2_with (first
            | (go_at_call 152; (with_reducible refine (l17Page_any _ l d p wt _ (k1.ex HS.ex) HMK.out).mono ?_); rintro e w' ⟨rfl, hx⟩; rw [HPG.out]; replace HS := HS.grow hx; clear hx)
            | (go_at_call 143; (with_reducible refine (memInS_any _ ps (pg * 128) 128 _ (k2.ex HS.ex) (by omega) (by unfold i64ok; omega) (by unfold i64ok; omega)).mono ?_); rintro e w' ⟨rfl, hx⟩; rw [HW.out]; replace HS := HS.grow hx; clear hx)
            | ((with_reducible (show wpList _ _ _ (Oper.mk (some 52) (Op.load _ _) _ _ _ _ :: _) _ _)); refine wpList_loadA_st (o := ⟨some 52, .load _ _, _, _, _, _⟩) rfl _ _ rfl rfl HS tk ag_impl_Memory lit rfl ?_)
            | ((with_reducible (show wpList _ _ _ (Oper.mk (some 58) (Op.buildSlice _ _ _) _ _ _ _ :: _) _ _)); refine wpList_bslice0_st (o := ⟨some 58, .buildSlice _ _ _, _, _, _, _⟩) rfl _ rfl _ Try.underlying91 in_int HS ?_; clear HS; intro w58 b58 hb58 HS)
            | ((with_reducible (show wpList _ _ _ (Oper.mk (some 59) (Op.buildSlice _ _ _) _ _ _ _ :: _) _ _)); refine wpList_bslice0_st (o := ⟨some 59, .buildSlice _ _ _, _, _, _, _⟩) rfl _ rfl _ Try.underlying91 in_int HS ?_; clear HS; intro w59 b59 hb59 HS))
      refine bodyPost_rets rfx (RVs.tmp rfx (RVs.tmp rfx (RVs.tmp rfx RVs.nil))) (by simp) rfx ?_
      exact ⟨_, _, rfl, HS.ex⟩
    case neg =>
    rcases (by omega : (m : Int) ≤ k0 ∨ (k0 : Int) < m) with hmk | hmk
    · have HPS : Hid (O = (parts l ps.length d wt (x + m) (m - m)).map ((X ++ [(pg * 128 + r, (m : Int))]) ++ ·)) := hid (by rw [HOO.out, parts_some hm0 (by omega) (by rw [q3, HPG.out]; omega) (by rw [q3, HPG.out]; omega) (k := m) (by rw [q4]; omega), q3, q4, HPG.out, map_step])
      have HW : Hid (memInB ps (pg * 128) 128 = true) := hid (memInB_iff.2 ⟨memOk_iff.1 HME.out, by omega, by omega, by omega, by omega⟩)
      go_wp2_with (first
            | (go_at_call 152; (with_reducible refine (l17Page_any _ l d p wt _ (k1.ex HS.ex) HMK.out).mono ?_); rintro e w' ⟨rfl, hx⟩; rw [HPG.out]; replace HS := HS.grow hx; clear hx)
            | (go_at_call 143; (with_reducible refine (memInS_any _ ps (pg * 128) 128 _ (k2.ex HS.ex) (by omega) (by unfold i64ok; omega) (by unfold i64ok; omega)).mono ?_); rintro e w' ⟨rfl, hx⟩; rw [HW.out]; replace HS := HS.grow hx; clear hx)
            | ((with_reducible (show wpList _ _ _ (Oper.mk (some 52) (Op.load _ _) _ _ _ _ :: _) _ _)); refine wpList_loadA_st (o := ⟨some 52, .load _ _, _, _, _, _⟩) rfl _ _ rfl rfl HS tk ag_impl_Memory lit rfl ?_)
            | ((with_reducible (show wpList _ _ _ (Oper.mk (some 69) (Op.buildSlice _ _ _) _ _ _ _ :: _) _ _)); refine wpList_bslice1_st (o := ⟨some 69, .buildSlice _ _ _, _, _, _, _⟩) rfl _ _ rfl _ Try.underlying91 in_int (by decide) (by decide) (x := .int .i64 _) rfl vcs rfx HS ?_; clear HS; intro w69 b69 hb69 HS)
            | ((with_reducible (show wpList _ _ _ (Oper.mk (some 70) (Op.call { callee := .builtin .append, args := _, argTypes := _ }) _ _ _ _ :: _) _ _)); refine wpList_appON_st (α := Int) (N := (X.length + 1)) (el := pg * 128 + r) (o := ⟨some 70, .call { callee := .builtin .append, args := _, argTypes := _ }, _, _, _, _⟩) rfl _ _ _ _ rfl _ Try.underlying91 in_int rfl rfl HS tk rfl (Src.row HS tk Try.underlying91 rfx rfx) rfl (show i64ok _ from by unfold i64ok; omega) (by rw [List.length_map]) mxl (by omega) ?_; clear HS; intro a70 c70 w70 hb70 HS)
            | ((with_reducible (show wpList _ _ _ (Oper.mk (some 73) (Op.buildSlice _ _ _) _ _ _ _ :: _) _ _)); refine wpList_bslice1_st (o := ⟨some 73, .buildSlice _ _ _, _, _, _, _⟩) rfl _ _ rfl _ Try.underlying91 in_int (by decide) (by decide) (x := .int .i64 _) rfl vcs rfx HS ?_; clear HS; intro w73 b73 hb73 HS)
            | ((with_reducible (show wpList _ _ _ (Oper.mk (some 74) (Op.call { callee := .builtin .append, args := _, argTypes := _ }) _ _ _ _ :: _) _ _)); refine wpList_appON_st (α := Int) (N := (X.length + 1)) (el := m) (o := ⟨some 74, .call { callee := .builtin .append, args := _, argTypes := _ }, _, _, _, _⟩) rfl _ _ _ _ rfl _ Try.underlying91 in_int rfl rfl HS tk rfl (Src.row HS tk Try.underlying91 rfx rfx) rfl (show i64ok _ from by unfold i64ok; omega) (by rw [List.length_map]) mxl (by omega) ?_; clear HS; intro a74 c74 w74 hb74 HS))
      go_roundw
      case rel => refine ⟨x + m, m - m, X ++ [(pg * 128 + r, (m : Int))], _, _, _, _, by omega, by omega, by omega, by simp; omega, (by first | rfl | (congr 1; omega)), (by first | rfl | (congr 1; omega) | (simp; omega)), (by rw [List.length_append]; rfl), (by rw [List.length_append]; rfl), HPS.out, by simp only [List.length_append, List.length_singleton, List.map_append, List.map_cons, List.map_nil]; exact (HS.arr (by repeat (first | exact Arr.nil | (with_reducible exact take_all _) | (refine Arr.cons tk ?_) | (refine arr_skip ?_))))⟩ <;> rfl
      case measure => simp [intOf]; omega
    · have HPS : Hid (O = (parts l ps.length d wt (x + k0) (m - k0)).map ((X ++ [(pg * 128 + r, (k0 : Int))]) ++ ·)) := hid (by rw [HOO.out, parts_some hm0 (by omega) (by rw [q3, HPG.out]; omega) (by rw [q3, HPG.out]; omega) (k := k0) (by rw [q4]; omega), q3, q4, HPG.out, map_step])
      have HW : Hid (memInB ps (pg * 128) 128 = true) := hid (memInB_iff.2 ⟨memOk_iff.1 HME.out, by omega, by omega, by omega, by omega⟩)
      go_wp2_with (first
            | (go_at_call 152; (with_reducible refine (l17Page_any _ l d p wt _ (k1.ex HS.ex) HMK.out).mono ?_); rintro e w' ⟨rfl, hx⟩; rw [HPG.out]; replace HS := HS.grow hx; clear hx)
            | (go_at_call 143; (with_reducible refine (memInS_any _ ps (pg * 128) 128 _ (k2.ex HS.ex) (by omega) (by unfold i64ok; omega) (by unfold i64ok; omega)).mono ?_); rintro e w' ⟨rfl, hx⟩; rw [HW.out]; replace HS := HS.grow hx; clear hx)
            | ((with_reducible (show wpList _ _ _ (Oper.mk (some 52) (Op.load _ _) _ _ _ _ :: _) _ _)); refine wpList_loadA_st (o := ⟨some 52, .load _ _, _, _, _, _⟩) rfl _ _ rfl rfl HS tk ag_impl_Memory lit rfl ?_)
            | ((with_reducible (show wpList _ _ _ (Oper.mk (some 69) (Op.buildSlice _ _ _) _ _ _ _ :: _) _ _)); refine wpList_bslice1_st (o := ⟨some 69, .buildSlice _ _ _, _, _, _, _⟩) rfl _ _ rfl _ Try.underlying91 in_int (by decide) (by decide) (x := .int .i64 _) rfl vcs rfx HS ?_; clear HS; intro w69 b69 hb69 HS)
            | ((with_reducible (show wpList _ _ _ (Oper.mk (some 70) (Op.call { callee := .builtin .append, args := _, argTypes := _ }) _ _ _ _ :: _) _ _)); refine wpList_appON_st (α := Int) (N := (X.length + 1)) (el := pg * 128 + r) (o := ⟨some 70, .call { callee := .builtin .append, args := _, argTypes := _ }, _, _, _, _⟩) rfl _ _ _ _ rfl _ Try.underlying91 in_int rfl rfl HS tk rfl (Src.row HS tk Try.underlying91 rfx rfx) rfl (show i64ok _ from by unfold i64ok; omega) (by rw [List.length_map]) mxl (by omega) ?_; clear HS; intro a70 c70 w70 hb70 HS)
            | ((with_reducible (show wpList _ _ _ (Oper.mk (some 73) (Op.buildSlice _ _ _) _ _ _ _ :: _) _ _)); refine wpList_bslice1_st (o := ⟨some 73, .buildSlice _ _ _, _, _, _, _⟩) rfl _ _ rfl _ Try.underlying91 in_int (by decide) (by decide) (x := .int .i64 _) rfl vcs rfx HS ?_; clear HS; intro w73 b73 hb73 HS)
            | ((with_reducible (show wpList _ _ _ (Oper.mk (some 74) (Op.call { callee := .builtin .append, args := _, argTypes := _ }) _ _ _ _ :: _) _ _)); refine wpList_appON_st (α := Int) (N := (X.length + 1)) (el := k0) (o := ⟨some 74, .call { callee := .builtin .append, args := _, argTypes := _ }, _, _, _, _⟩) rfl _ _ _ _ rfl _ Try.underlying91 in_int rfl rfl HS tk rfl (Src.row HS tk Try.underlying91 rfx rfx) rfl (show i64ok _ from by unfold i64ok; omega) (by rw [List.length_map]) mxl (by omega) ?_; clear HS; intro a74 c74 w74 hb74 HS))
      go_roundw
      case rel => refine ⟨x + k0, m - k0, X ++ [(pg * 128 + r, (k0 : Int))], _, _, _, _, by omega, by omega, by omega, by simp; omega, (by first | rfl | (congr 1; omega)), (by first | rfl | (congr 1; omega) | (simp; omega)), (by rw [List.length_append]; rfl), (by rw [List.length_append]; rfl), HPS.out, by simp only [List.length_append, List.length_singleton, List.map_append, List.map_cons, List.map_nil]; exact (HS.arr (by repeat (first | exact Arr.nil | (with_reducible exact take_all _) | (refine Arr.cons tk ?_) | (refine arr_skip ?_))))⟩ <;> rfl
      case measure => simp [intOf]; omega

end Go.Proofs.Ytelkplponnfkpaa

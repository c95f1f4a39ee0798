/- The draws of rings. -/
import Derived.Test.YtelkplponnfkpaaRows
import Derived.Test.YtelkplponnfkpaaDraw
import Derived.Test.YtelkplponnfkpaaDraw2
import Derived.Test.YtelkplponnfkpaaTk
namespace Go.Proofs.Ytelkplponnfkpaa
open Go.RowKit
set_option linter.unusedVariables false
set_option linter.unusedSimpArgs false

set_option maxHeartbeats 1000000 in
theorem l01PickIn_any (B : Nat) (v : Value) (code : List UInt8) (lv : Value) (xs : List Int) (w0 w : World) (hcu : Cu 148 w0 B v code w) (k2 : Holds w xs [lv]) (hne : ∀ b ∈ lv.blk, b ≠ B) (h1 : 1 ≤ xs.length) (h2 : xs.length ≤ 1000000) :
    Calls Try.prog 114 #[.pointer (some ⟨B, 0, none⟩), lv] w fun e w' => ∃ r ∈ xs, DrawnN 148 B v code.length r r w e w' := by
  obtain ⟨a, cap, hv, m1, m2, m3, _⟩ := k2.ints
  simp only [List.cons.injEq, and_true] at hv
  subst hv
  unfold maxLen at m2
  have lB := hcu.lt
  have M3 := hid m3
  have HN := hid hne
  clear m3 hne k2
  go_enter Try.func114, Try.ntmps114
  go_wp2_with fail
  (with_reducible refine (l01Below_any B v code _ w0 _ hcu (by omega) (by omega)).mono ?_); rintro e w' ⟨r, i, h, g, r0, r1, i0, i1, rfl, rfl⟩
  obtain ⟨k, rfl⟩ := Int.eq_ofNat_of_zero_le r0
  have hk : k < xs.length := by omega
  obtain ⟨b, off, rfl, hc⟩ := M3.out k hk
  have hbB : b ≠ B := HN.out b (by simp [Value.blk])
  have lb : b < w.heap.size := World.block_lt_of_cell? _ _ hc
  have hx := hid (List.getElem_mem hk)
  generalize xs[k] = y at *
  go_wp2
  go_ret
  exact ⟨y, hx.out, y, i, h, g, Int.le_refl _, Int.le_refl _, i0, i1, rfl, rfl⟩
theorem l01PickIn_st {w0 w : World} {Is Js Ks : List Asn} (HS : St w0 w Is) {B b n : Nat} {v : Value} {code : List UInt8} {cs : List Value} {E : TypeId} (t : Take Is (rowA b cs E) Js) (t2 : Take Js (curA 148 B v code.length) Ks) (hc : Holds w0 code [v]) (xs : List Int) (hx : cs = xs.map (Value.int .i64)) (hn : n = xs.length)
    (h1 : 1 ≤ xs.length) (h2 : xs.length ≤ 1000000) (ho : ∀ x ∈ xs, i64ok x) :
    Calls Try.prog 114 #[.pointer (some ⟨B, 0, none⟩), .slice (some ⟨b, 0, none⟩) n n] w fun e w' => ∃ r ∈ xs, e = .returned (.int .i64 r) ∧ St w0 w' (curA 148 B v code.length :: Ks) := by
  have hs := (HS.take2 t t2).arr (.cons (.tail .head) (show Arr _ Ks from by
    have key2 : ∀ (A : Asn) (l : List Asn), Arr (A :: l) l := by
      intro A l
      induction l generalizing A with
      | nil => exact .nil
      | cons C l ih => exact .cons (.tail .head) (ih A)
    exact key2 _ _))
  refine (l01PickIn_any B v code _ xs w0 w (hs.cu .head hc) (holds_litN xs (HS.row t) (by rw [hx]) hn ho mxl) (by intro c hcb; simp [Value.blk] at hcb; subst hcb; exact HS.notCur t t2) h1 h2).mono fun e w' hd => ?_
  obtain ⟨r, hr, hd⟩ := hd
  obtain ⟨r', g1, g2, he, g3⟩ := hs.drawn .head hd
  obtain rfl : r' = r := by omega
  exact ⟨r', hr, he, g3⟩
def LWp (l : List Mp) (k : Nat) : Prop := l.length = k ∧ ∀ i (h : i < l.length), ∃ q, l[i] = (0, (i : Int), 4 - (i : Int), q)
theorem LWp.nil : LWp [] 0 := ⟨rfl, fun i h => by simp at h⟩
theorem LWp.app {l : List Mp} {k : Nat} (h : LWp l k) (q : Bool) : LWp (l ++ [(0, (k : Int), 4 - (k : Int), q)]) (k + 1) := by
  obtain ⟨h1, h2⟩ := h
  refine ⟨by rw [List.length_append, h1]; rfl, fun i hi => ?_⟩
  by_cases e : i < l.length
  · obtain ⟨q', hq⟩ := h2 i e
    exact ⟨q', by rw [List.getElem_append_left e]; exact hq⟩
  · have : i = k := by rw [List.length_append] at hi; simp at hi; omega
    subst this
    exact ⟨q, by rw [List.getElem_append_right (by omega)]; simp [h1]⟩
theorem LWp.ok {l : List Mp} {k : Nat} (h : LWp l k) (hk : k ≤ 5) : mapsOk l = true := by
  obtain ⟨h1, h2⟩ := h
  refine mapsOk_iff.2 ⟨by omega, fun i hi => ?_⟩
  obtain ⟨q, e⟩ := h2 i hi
  rw [e]
  refine ⟨⟨by simp, by simp; omega, by simp; omega⟩, fun j hj => ?_⟩
  obtain ⟨q', e'⟩ := h2 j (by omega)
  rw [e']
  simp; omega
theorem newMemory_q {n : Nat} {ps : Pg} (hps : ps = List.replicate n (zeroS 128)) (hn : n ≤ 64) {kk : Int} (hk : kk = (n : Int)) (w : World) : Calls Try.prog 11 #[.int .i64 kk] w (RetMem w ps) := hps ▸ newMemory_any n hn hk w

set_option maxRecDepth 100000 in
set_option maxHeartbeats 4000000 in
theorem l20World_st {w0 w : World} {Js : List Asn} {B : Nat} {v : Value} {code : List UInt8} (HS : St w0 w (curA 148 B v code.length :: Js)) (hc : Holds w0 code [v])  :
    Calls Try.prog 50 #[.pointer (some ⟨B, 0, none⟩)] w fun e w' => ∃ (l : List Mp) (qs : Pg) (A : Option Addr) (c : Nat) (A2 : Option Addr) (c2 : Nat), LWp l 5 ∧ qs.length ≤ 5 ∧ MemOk qs ∧ e = .returned (.tuple #[.slice A l.length c, .agg #[.slice A2 qs.length c2]]) ∧ St w0 w' (ownA l [.slice A l.length c] :: ownA qs [.slice A2 qs.length c2] :: curA 148 B v code.length :: Js) := by
  obtain ⟨p0, hp0⟩ : ∃ ps : Pg, ps = List.replicate 5 (zeroS 128) := ⟨_, rfl⟩
  have HP0 := hid hp0
  have hpl : p0.length ≤ 5 := by rw [hp0]; simp
  have hpl2 : 5 ≤ p0.length := by rw [hp0]; simp
  have HM0 : Hid (MemOk p0) := hid ⟨by rw [hp0]; simp, fun i hi => by subst hp0; rw [List.getElem_replicate]; exact zeroS_size 128⟩
  clear hp0
  go_enter Try.func50, Try.ntmps50
  go_wp2_with (first
        | ((with_reducible (show wpList _ _ _ (Oper.mk (some 3) (Op.alloc _) _ _ _ _ :: _) _ _)); refine wpList_alloc_st (o := ⟨some 3, .alloc _, _, _, _, _⟩) rfl _ rfl zc_impl_Memory HS ?_; clear HS; intro w3 b3 hb3 HS)
        | ((with_reducible (show wpList _ _ _ (Oper.mk (some 7) (Op.buildSlice _ _ _) _ _ _ _ :: _) _ _)); refine wpList_bslice0_st (o := ⟨some 7, .buildSlice _ _ _, _, _, _, _⟩) rfl _ rfl _ Try.underlying24 in_impl_Mapping HS ?_; clear HS; intro w7 b7 hb7 HS; replace HS := HS.slotMade 4 tk; replace HS := HS.shut (α := Mp) (xs := []) tk rfl (fun _ h => by cases h)))
  go_loopw [4, 5] (fun lv i wr => ∃ (k : Nat) (l : List Mp) (A1 : Option Addr) (c1 : Nat), k ≤ 5 ∧ Hid (LWp l k) ∧ l.length ≤ 5 ∧ i = .int .i64 (k : Int) ∧ lv = .slice A1 l.length c1 ∧ St w0 wr (ownA l [.slice A1 l.length c1] :: rowA b3 [.slice none 0 0] 27 :: curA 148 B v code.length :: Js)) (fun _ i _ => 5 - (intOf i).toNat)
  case atStart => exact ⟨0, [], _, _, by omega, hid LWp.nil, by simp, rfl, rfl, (HS.arr (by repeat (first | exact Arr.nil | (with_reducible exact take_all _) | (refine Arr.cons tk ?_) | (refine arr_skip ?_))))⟩
  case round =>
    clear HS
    obtain ⟨k, l, A1, c1, hk5, HL, hll, rfl, rfl, HS⟩ := hrel
    by_cases hlt : k < 5
    case pos =>
      have HO1 : Hid (mapsOk l = true) := hid (HL.out.ok (by omega))
      have HO2 : Hid (∀ q, mapsOk (l ++ [(0, (k : Int), 4 - (k : Int), !q)]) = true) := hid (fun q => (HL.out.app (!q)).ok (by omega))
      have HLL : Hid (l.length = k) := hid HL.out.1
      go_wp2_with (first
            | (go_at_call 110; (with_reducible refine (l01Once_st (HS.take tk) hc 10 (by omega) (by omega)).mono ?_); rintro e w' ⟨q1, rfl, HS1⟩; clear HS; have HS := HS1; clear HS1)
            | (go_at_call 109; (with_reducible refine (mapPage_yes _ l 0 k (4 - k) (!q1) _ (HS.holds tk) (by omega) (by unfold i64ok; omega) (by unfold i64ok; omega) (by unfold i64ok; omega) HO1.out (HO2.out q1)).mono ?_); rintro e w' ⟨A21, c21, rfl, ho, hx⟩; replace HS := HS.own ho hx; clear ho hx))
      go_roundw
      case rel => exact ⟨k + 1, l ++ [(0, (k : Int), 4 - (k : Int), !q1)], _, _, by omega, hid (HL.out.app (!q1)), by rw [List.length_append, HLL.out]; simp; omega, by go_num, by rw [List.length_append]; rfl, by exact (HS.arr (by repeat (first | exact Arr.nil | (with_reducible exact take_all _) | (refine Arr.cons tk ?_) | (refine arr_skip ?_))))⟩
      case measure => simp [intOf]; omega
    case neg =>
      obtain rfl : k = 5 := by omega
      go_wp2_with (first
            | (go_at_call 11; (with_reducible refine (newMemory_q (n := 5) HP0.out (by omega) (by omega) _).mono ?_); rintro e w' ⟨A24, c24, rfl, ho, hx⟩; replace HS := HS.own ho hx; clear ho hx)
            | ((with_reducible (show wpList _ _ _ (Oper.mk (some 6) (Op.alloc _) _ _ _ _ :: _) _ _)); refine wpList_alloc_st (o := ⟨some 6, .alloc _, _, _, _, _⟩) rfl _ rfl zc_impl_Memory HS ?_; clear HS; intro w6 b6 hb6 HS)
            | ((with_reducible (show wpList _ _ _ (Oper.mk none (Op.store _ (.tmp 6) _) _ _ _ _ :: _) _ _)); refine wpList_store_st (o := ⟨none, .store _ (.tmp 6) _, _, _, _, _⟩) rfl _ _ _ rfl rfl (v := .agg (List.toArray _)) rfl HS tk sz_impl_Memory vcs rfx rfx (by simp) ?_ rfl; clear HS; intro w6_2 hz6_2 HS; simp only [nicL, Value.cells, List.append_nil] at HS))
      refine wp_region_fl HS (show Arr _ [rowA b6 _ _] from ary) (.early 0 (.early 1 (.early 3 (.forced 2 1 (.forced 4 1 (.forced 5 2 (.pure 6 (.pure 7 (.pure 8 (.forced 9 2 .done)))))))))) [] (by kernel_rfl) (by as_aux_lemma => kernel_rfl) ?_
      intro hne
      clear HS
      try go_simp
      repeat' (first
        | (with_reducible refine wpF_forced ?_)
        | ((with_reducible ((show wpF _ _ _ _ _ (.early 0 _) _ _))); (first | (refine wpF_skipE rfl rfl ?_; (try go_simp)) | (refine wpF_early rfl rfl ?_; intro K hK; (first | ((refine quiet_loadA_st  _ _ rfl rfl tk ag_impl_Memory lit rfl ?_); (try go_simp)) | go_big_quiet_op); (first | go_big_quiet_on | (refine ⟨_, fun _ => rfl, ?_⟩; go_big_quiet_on)))))
        | ((with_reducible (first | (show wpF _ _ _ _ _ (.early 1 _) _ _) | (show wpF _ _ _ _ _ (.early 3 _) _ _))); (first | (refine wpF_skipE rfl rfl ?_; (try go_simp)) | (refine wpF_early rfl rfl ?_; intro K hK; (first | go_big_quiet_op); (first | go_big_quiet_on | (refine ⟨_, fun _ => rfl, ?_⟩; go_big_quiet_on)))))
        | ((with_reducible ((show OneF _ _ _ _ _ 2 1 _ _ _))); (first | (refine oneF_skip rfl rfl ?_; (try go_simp)) | (refine oneF_1 rfl rfl ?_; intro wq Fq HS K hK; go_simp; (first | (go_at_call 112; (with_reducible refine (l01Below_st HS tk hc 500 (by omega) (by omega)).mono ?_); rintro e w' ⟨r1, r1l, r1h, rfl, HS1⟩; clear HS; have HS := HS1; clear HS1)); (try go_simp); refine hK _ _ _ ?_ (HS.take tk) ?_; (focus (exact stw HS)); clear HS hK K)))
        | ((with_reducible ((show OneF _ _ _ _ _ 4 1 _ _ _))); (first | (refine oneF_skip rfl rfl ?_; (try go_simp)) | (refine oneF_1 rfl rfl ?_; intro wq Fq HS K hK; go_simp; (first | (go_at_call 113; (with_reducible refine (l01Text_st (HS.take tk) hc (n := 40) (by omega) (by omega)).mono ?_); rintro e w' ⟨s1, s1z, rfl, HS1⟩; clear HS; have HS := HS1; clear HS1; have s1y : s1.size ≤ 40 := (by rw [s1z]; decide))); (try go_simp); refine hK _ _ _ ?_ (HS.take tk) ?_; (focus (exact stw HS)); clear HS hK K)))
        | ((with_reducible ((show OneF _ _ _ _ _ 5 2 _ _ _))); (first | (refine oneF_skip rfl rfl ?_; (try go_simp)) | (refine oneF_2 rfl rfl ?_; intro wq Fq HS K hK; go_simp; (first | (go_at_call 111; (with_reducible refine (writeMemoryS_tot _ p0 r1 s1 _ (HS.holds tk) HM0.out (by omega) (by omega) (by omega)).mono ?_); rintro e w' ⟨qs, hql, hqm, A31, c31, rfl, ho, hx⟩; replace HS := HS.own ho hx; clear ho hx; have HQM := hid hqm; clear hqm)); (try go_simp); refine hK _ _ _ (HS.take tk) ?_; clear HS hK K)))
        | ((with_reducible ((show wpF _ _ _ _ _ (.pure _ _) _ _))); (first | (refine wpF_skipP rfl rfl ?_; (try go_simp)) | (refine wpF_pure rfl rfl ?_; intro K hK; go_big_quiet_op; (first | go_big_quiet_on | (refine ⟨_, fun _ => rfl, ?_⟩; go_big_quiet_on)))))
        | ((with_reducible ((show OneF _ _ _ _ _ 9 2 _ _ _))); (first | (refine oneF_skip rfl rfl ?_; (try go_simp)) | (refine oneF_2 rfl rfl ?_; intro wq Fq HS K hK; (first | (refine wp_store_st  _ _ _ rfl rfl (v := .agg (List.toArray _)) rfl HS tk sz_impl_Memory vcs rfx rfx (by simp) ?_ rfl; clear HS; intro w7_9 hz7_9 HS; simp only [nicL, Value.cells, List.append_nil] at HS) | (refine wp_store_st  _ _ _ rfl rfl (v := .agg _) rfl HS tk sz_impl_Memory vcs rfx rfx (by simp) ?_ rfl; clear HS; intro w7_9 hz7_9 HS; simp only [nicL, Value.cells, List.append_nil] at HS)); (try go_simp); refine hK _ _ _ (HS.take tk) ?_; clear HS hK K)))
        | (with_reducible refine wpF_done ?_))
      all_goals intro w9 HS
      go_wp2
      refine wp_region_fl HS (show Arr _ [rowA b6 _ _] from ary) (.early 0 (.early 1 (.early 2 (.forced 3 2 .done)))) [] (by kernel_rfl) (by as_aux_lemma => kernel_rfl) ?_
      intro hne
      clear HS
      try go_simp
      repeat' (first
        | (with_reducible refine wpF_forced ?_)
        | ((with_reducible (first | (show wpF _ _ _ _ _ (.early 0 _) _ _) | (show wpF _ _ _ _ _ (.early 2 _) _ _))); (first | (refine wpF_skipE rfl rfl ?_; (try go_simp)) | (refine wpF_early rfl rfl ?_; intro K hK; (first | go_big_quiet_op); (first | go_big_quiet_on | (refine ⟨_, fun _ => rfl, ?_⟩; go_big_quiet_on)))))
        | ((with_reducible ((show wpF _ _ _ _ _ (.early 1 _) _ _))); (first | (refine wpF_skipE rfl rfl ?_; (try go_simp)) | (refine wpF_early rfl rfl ?_; intro K hK; (first | ((refine quiet_loadA_st  _ _ rfl rfl tk ag_impl_Memory lit rfl ?_); (try go_simp)) | go_big_quiet_op); (first | go_big_quiet_on | (refine ⟨_, fun _ => rfl, ?_⟩; go_big_quiet_on)))))
        | ((with_reducible ((show OneF _ _ _ _ _ 3 2 _ _ _))); (first | (refine oneF_skip rfl rfl ?_; (try go_simp)) | (refine oneF_2 rfl rfl ?_; intro wq Fq HS K hK; (first | (refine wp_store_st  _ _ _ rfl rfl (v := .agg (List.toArray _)) rfl HS tk sz_impl_Memory vcs rfx rfx (by simp) ?_ rfl; clear HS; intro w8_3 hz8_3 HS; simp only [nicL, Value.cells, List.append_nil] at HS) | (refine wp_store_st  _ _ _ rfl rfl (v := .agg _) rfl HS tk sz_impl_Memory vcs rfx rfx (by simp) ?_ rfl; clear HS; intro w8_3 hz8_3 HS; simp only [nicL, Value.cells, List.append_nil] at HS)); (try go_simp); refine hK _ _ _ (HS.take tk) ?_; clear HS hK K)))
        | (with_reducible refine wpF_done ?_))
      all_goals intro w9 HS
      all_goals
        go_wp2
        refine bodyPost_rets rfx (RVs.tmp rfx (RVs.cell rfx HS tk ag_impl_Memory rfx RVs.nil)) (by simp) rfx ?_
        exact ⟨l, qs, _, _, _, _, HL.out, by omega, HQM.out, by rw [hql]; rfl, by rw [hql]; exact (HS.arr (by repeat (first | exact Arr.nil | (with_reducible exact take_all _) | (refine Arr.cons tk ?_) | (refine arr_skip ?_))))⟩

set_option maxRecDepth 100000 in
set_option maxHeartbeats 4000000 in
theorem l20Ring_st {w0 w : World} {Js : List Asn} {B : Nat} {v : Value} {code : List UInt8} (HS : St w0 w (curA 148 B v code.length :: Js)) (hc : Holds w0 code [v])  :
    Calls Try.prog 51 #[.pointer (some ⟨B, 0, none⟩)] w fun e w' => ∃ (b s h t : Int), (s = 2 ∨ s = 4 ∨ s = 8) ∧ e = .returned (.agg #[.int .i64 b, .int .i64 s, .int .i64 h, .int .i64 t]) ∧ St w0 w' (curA 148 B v code.length :: Js) := by
  go_enter Try.func51, Try.ntmps51
  go_wp2_with (first
        | (go_at_call 114; (with_reducible (show Calls _ _ #[_, .slice _ 4 _] _ _)); (with_reducible refine (l01PickIn_st HS tk tk hc [0, 64, 128, 256] (by simp only [List.map_cons, List.map_nil]) (by simp only [List.length_cons, List.length_nil]) (by simp) (by simp) (by intro x hx; simp at hx; unfold i64ok; omega)).mono ?_); rintro e w' ⟨r1, r1m, rfl, HS1⟩; clear HS; have HS := HS1; clear HS1; simp only [List.mem_cons, List.not_mem_nil, or_false] at r1m)
        | (go_at_call 114; (with_reducible (show Calls _ _ #[_, .slice _ 3 _] _ _)); (with_reducible refine (l01PickIn_st HS tk tk hc [2, 4, 8] (by simp only [List.map_cons, List.map_nil]) (by simp only [List.length_cons, List.length_nil]) (by simp) (by simp) (by intro x hx; simp at hx; unfold i64ok; omega)).mono ?_); rintro e w' ⟨r2, r2m, rfl, HS1⟩; clear HS; have HS := HS1; clear HS1; simp only [List.mem_cons, List.not_mem_nil, or_false] at r2m; have r2b : 2 ≤ r2 ∧ r2 ≤ 8 := (by omega); have r2m9 := hid r2m; clear r2m; rcases r2m9 with ⟨rfl | rfl | rfl⟩)
        | (go_at_call 112; (with_reducible refine (l01Below_st HS tk hc _ (by omega) (by omega)).mono ?_); rintro e w' ⟨h1, h1l, h1h, rfl, HS1⟩; clear HS; have HS := HS1; clear HS1)
        | ((with_reducible (show wpList _ _ _ (Oper.mk (some 2) (Op.alloc _) _ _ _ _ :: _) _ _)); refine wpList_alloc_st (o := ⟨some 2, .alloc _, _, _, _, _⟩) rfl _ rfl zc_impl_Ring HS ?_; clear HS; intro w2 b2 hb2 HS)
        | ((with_reducible (show wpList _ _ _ (Oper.mk (some 5) (Op.buildSlice _ _ _) _ _ _ _ :: _) _ _)); refine wpList_bsliceN_st (o := ⟨some 5, .buildSlice _ _ _, _, _, _, _⟩) rfl _ _ _ rfl _ Try.underlying91 in_int (by decide) [.const (.int .i64 0), .const (.int .i64 64), .const (.int .i64 128), .const (.int .i64 256)] rfl rfl (by decide) (by decide) (vs := [.int .i64 0, .int .i64 64, .int .i64 128, .int .i64 256]) rfl rfx (cs := [.int .i64 0, .int .i64 64, .int .i64 128, .int .i64 256]) rfx HS ?_; clear HS; intro w5 b5 hb5 HS)
        | ((with_reducible (show wpList _ _ _ (Oper.mk (some 8) (Op.buildSlice _ _ _) _ _ _ _ :: _) _ _)); refine wpList_bsliceN_st (o := ⟨some 8, .buildSlice _ _ _, _, _, _, _⟩) rfl _ _ _ rfl _ Try.underlying91 in_int (by decide) [.const (.int .i64 2), .const (.int .i64 4), .const (.int .i64 8)] rfl rfl (by decide) (by decide) (vs := [.int .i64 2, .int .i64 4, .int .i64 8]) rfl rfx (cs := [.int .i64 2, .int .i64 4, .int .i64 8]) rfx HS ?_; clear HS; intro w8 b8 hb8 HS)
        | ((with_reducible (show wpList _ _ _ (Oper.mk (some 3) (Op.alloc _) _ _ _ _ :: _) _ _)); refine wpList_alloc_st (o := ⟨some 3, .alloc _, _, _, _, _⟩) rfl _ rfl zc_impl_Ring HS ?_; clear HS; intro w3 b3 hb3 HS)
        | ((with_reducible (show wpList _ _ _ (Oper.mk none (Op.store _ (.tmp 3) _) _ _ _ _ :: _) _ _)); refine wpList_store_st (o := ⟨none, .store _ (.tmp 3) _, _, _, _, _⟩) rfl _ _ _ rfl rfl (v := .agg (List.toArray _)) rfl HS tk sz_impl_Ring vcs rfx rfx (by simp) ?_ rfl; clear HS; intro w1_8 hz1_8 HS; simp only [nicL, Value.cells, List.append_nil] at HS)
        | ((with_reducible (show wpList _ _ _ (Oper.mk (some 13) (Op.load _ _) _ _ _ _ :: _) _ _)); refine wpList_loadS_st (o := ⟨some 13, .load _ _, _, _, _, _⟩) rfl _ _ rfl rfl HS tk sc_int rfx ?_)
        | ((with_reducible (show wpList _ _ _ (Oper.mk none (Op.store _ (.tmp 16) _) _ _ _ _ :: _) _ _)); refine wpList_store_st (o := ⟨none, .store _ (.tmp 16) _, _, _, _, _⟩) rfl _ _ _ rfl rfl (v := .int .i64 _) rfl HS tk sz_int vcs rfx rfx (by simp) ?_ rfl; clear HS; intro w2_6 hz2_6 HS; simp only [nicL, Value.cells, List.append_nil] at HS))
  all_goals
    refine wp_region_fl HS (show Arr _ [rowA b3 _ _] from ary) (.early 0 (.early 1 (.early 2 (.early 3 (.early 4 (.early 5 (.early 8 (.early 9 (.early 10 (.forced 6 1 (.early 7 (.early 11 (.early 12 (.forced 13 2 .done)))))))))))))) [] (by kernel_rfl) (by as_aux_lemma => kernel_rfl) ?_
    intro hne
    clear HS
    try go_simp
    repeat' (first
      | (with_reducible refine wpF_forced ?_)
      | ((with_reducible (first | (show wpF _ _ _ _ _ (.early 0 _) _ _) | (show wpF _ _ _ _ _ (.early 2 _) _ _) | (show wpF _ _ _ _ _ (.early 3 _) _ _) | (show wpF _ _ _ _ _ (.early 5 _) _ _) | (show wpF _ _ _ _ _ (.early 8 _) _ _) | (show wpF _ _ _ _ _ (.early 10 _) _ _) | (show wpF _ _ _ _ _ (.early 7 _) _ _) | (show wpF _ _ _ _ _ (.early 11 _) _ _) | (show wpF _ _ _ _ _ (.early 12 _) _ _))); (first | (refine wpF_skipE rfl rfl ?_; (try go_simp)) | (refine wpF_early rfl rfl ?_; intro K hK; (first | go_big_quiet_op); (first | go_big_quiet_on | (refine ⟨_, fun _ => rfl, ?_⟩; go_big_quiet_on)))))
      | ((with_reducible (first | (show wpF _ _ _ _ _ (.early 1 _) _ _) | (show wpF _ _ _ _ _ (.early 4 _) _ _) | (show wpF _ _ _ _ _ (.early 9 _) _ _))); (first | (refine wpF_skipE rfl rfl ?_; (try go_simp)) | (refine wpF_early rfl rfl ?_; intro K hK; (first | ((refine quiet_loadS_st  _ _ rfl rfl tk sc_int rfx ?_); (try go_simp)) | go_big_quiet_op); (first | go_big_quiet_on | (refine ⟨_, fun _ => rfl, ?_⟩; go_big_quiet_on)))))
      | ((with_reducible ((show OneF _ _ _ _ _ 6 1 _ _ _))); (first | (refine oneF_skip rfl rfl ?_; (try go_simp)) | (refine oneF_1 rfl rfl ?_; intro wq Fq HS K hK; go_simp; (first | (go_at_call 112; (with_reducible refine (l01Below_st HS tk hc _ (by omega) (by omega)).mono ?_); rintro e w' ⟨d1, d1l, d1h, rfl, HS1⟩; clear HS; have HS := HS1; clear HS1)); (try go_simp); refine hK _ _ _ ?_ (HS.take tk) ?_; (focus (exact stw HS)); clear HS hK K)))
      | ((with_reducible ((show OneF _ _ _ _ _ 13 2 _ _ _))); (first | (refine oneF_skip rfl rfl ?_; (try go_simp)) | (refine oneF_2 rfl rfl ?_; intro wq Fq HS K hK; (first | (refine wp_store_st  _ _ _ rfl rfl (v := .int .i64 _) rfl HS tk sz_int vcs rfx rfx (by simp) ?_ rfl; clear HS; intro w3_13 hz3_13 HS; simp only [nicL, Value.cells, List.append_nil] at HS)); (try go_simp); refine hK _ _ _ (HS.take tk) ?_; clear HS hK K)))
      | (with_reducible refine wpF_done ?_))
    all_goals intro w9 HS
    all_goals
      go_wp2_with (first
            | ((with_reducible (show wpList _ _ _ (Oper.mk (some 30) (Op.load _ _) _ _ _ _ :: _) _ _)); refine wpList_loadA_st (o := ⟨some 30, .load _ _, _, _, _, _⟩) rfl _ _ rfl rfl HS tk ag_impl_Ring lit rfl ?_)
            | ((with_reducible (show wpList _ _ _ (Oper.mk none (Op.store _ (.tmp 2) _) _ _ _ _ :: _) _ _)); refine wpList_store_st (o := ⟨none, .store _ (.tmp 2) _, _, _, _, _⟩) rfl _ _ _ rfl rfl (v := .agg (List.toArray _)) rfl HS tk sz_impl_Ring vcs rfx rfx (by simp) ?_ rfl; clear HS; intro w4_1 hz4_1 HS; simp only [nicL, Value.cells, List.append_nil] at HS))
      refine bodyPost_retc rfx rfx HS tk ag_impl_Ring rfx rfx ?_
      exact ⟨_, _, _, _, by omega, rfl, (HS.arr (by repeat (first | exact Arr.nil | (with_reducible exact take_all _) | (refine Arr.cons tk ?_) | (refine arr_skip ?_))))⟩

set_option maxRecDepth 100000 in
set_option maxHeartbeats 4000000 in
theorem l20Entries_st {w0 w : World} {Js : List Asn} {B : Nat} {v : Value} {code : List UInt8} (HS : St w0 w (curA 148 B v code.length :: Js)) (hc : Holds w0 code [v])  :
    Calls Try.prog 52 #[.pointer (some ⟨B, 0, none⟩)] w fun e w' => ∃ v', e = .returned v' ∧ St w0 w' (curA 148 B v code.length :: Js) := by
  go_enter Try.func52, Try.ntmps52
  go_wp2_with (first
        | (go_at_call 112; (with_reducible refine (l01Below_st HS tk hc 6 (by omega) (by omega)).mono ?_); rintro e w' ⟨r1, r1l, r1h, rfl, HS1⟩; clear HS; have HS := HS1; clear HS1)
        | ((with_reducible (show wpList _ _ _ (Oper.mk (some 5) (Op.buildSlice _ _ _) _ _ _ _ :: _) _ _)); refine wpList_bslice0_st (o := ⟨some 5, .buildSlice _ _ _, _, _, _, _⟩) rfl _ rfl _ Try.underlying25 in_string HS ?_; clear HS; intro w5 b5 hb5 HS; replace HS := HS.slotMade 1 tk))
  go_loopw [3, 4] (fun ov i wr => ∃ (k : Nat) (j : Int) (cs : List Value) (A1 : Option Addr) (c1 : Nat), 0 ≤ j ∧ j + k ≤ 5 ∧ i = .int .i64 j ∧ ov = .slice A1 k c1 ∧ St w0 wr (slotA 9 1 (.slice A1 k c1) k cs :: curA 148 B v code.length :: Js)) (fun _ i _ => (intOf i).toNat)
  case atStart => exact ⟨0, r1, [], _, _, by omega, by simp; omega, rfl, rfl, (HS.arr (by repeat (first | exact Arr.nil | (with_reducible exact take_all _) | (refine Arr.cons tk ?_) | (refine arr_skip ?_))))⟩
  case round =>
    clear HS
    obtain ⟨k, j, cs, A1, c1, hj0, hj5, rfl, rfl, HS⟩ := hrel
    by_cases hlt : 0 < j
    case pos =>
      go_wp2_with (first
            | (go_at_call 113; (with_reducible refine (l01Text_st (HS.take tk) hc (n := 16) (by omega) (by omega)).mono ?_); rintro e w' ⟨s1, s1z, rfl, HS1⟩; clear HS; have HS := HS1; clear HS1)
            | ((with_reducible (show wpList _ _ _ (Oper.mk (some 15) (Op.buildSlice _ _ _) _ _ _ _ :: _) _ _)); refine wpList_bslice1_st (o := ⟨some 15, .buildSlice _ _ _, _, _, _, _⟩) rfl _ _ rfl _ Try.underlying25 in_string (by decide) (by decide) (x := .string _) rfl vcs rfx HS ?_; clear HS; intro w15 b15 hb15 HS)
            | ((with_reducible (show wpList _ _ _ (Oper.mk (some 16) (Op.call { callee := .builtin .append, args := _, argTypes := _ }) _ _ _ _ :: _) _ _)); refine wpList_appN_st (N := k + 1) (o := ⟨some 16, .call { callee := .builtin .append, args := _, argTypes := _ }, _, _, _, _⟩) rfl _ _ _ _ rfl _ Try.underlying25 in_string rfl HS tk rfl (Src.row HS tk Try.underlying25 rfx rfx) (by omega) mxl (by omega) ?_; clear HS; intro a16 c16 w16 hb16 HS))
      go_roundw
      case rel => exact ⟨k + 1, j - 1, _, _, _, by omega, by simp; omega, by go_num, rfl, (HS.arr (by repeat (first | exact Arr.nil | (with_reducible exact take_all _) | (refine Arr.cons tk ?_) | (refine arr_skip ?_))))⟩
      case measure => simp [intOf]; omega
    case neg =>
      go_wp2
      go_ret
      exact ⟨⟨_, rfl⟩, (HS.arr (by repeat (first | exact Arr.nil | (with_reducible exact take_all _) | (refine Arr.cons tk ?_) | (refine arr_skip ?_))))⟩

set_option maxRecDepth 100000 in
set_option maxHeartbeats 4000000 in
theorem DrawRing_st {w0 w : World} {Js : List Asn} (HS : St w0 w Js) {v : Value} {code : List UInt8} (hc : Holds w0 code [v]) :
    Calls Try.prog 10 #[v] w fun e w' => ∃ (l : List Mp) (qs : Pg) (b s h t : Int) (A : Option Addr) (c : Nat) (A2 : Option Addr) (c2 : Nat) (ve : Value), LWp l 5 ∧ qs.length ≤ 5 ∧ MemOk qs ∧ (s = 2 ∨ s = 4 ∨ s = 8) ∧ e = .returned (.tuple #[.slice A l.length c, .agg #[.slice A2 qs.length c2], .agg #[.int .i64 b, .int .i64 s, .int .i64 h, .int .i64 t], ve]) ∧ St w0 w' (ownA l [.slice A l.length c] :: ownA qs [.slice A2 qs.length c2] :: Js) := by
  go_enter Try.func10, Try.ntmps10
  go_wp2_with (first
        | (go_at_call 49; (with_reducible refine (l01New_st HS hc).mono ?_); rintro e w' ⟨B, rfl, HS1⟩; clear HS; have HS := HS1; clear HS1)
        | (go_at_call 50; (with_reducible refine (l20World_st (HS.take tk) hc).mono ?_); rintro e w' ⟨l, qs, A1, c1, A2, c2, hl1, hl2, hl3, rfl, HS1⟩; clear HS; have HS := HS1; clear HS1; have HL := hid hl1; have HQ := hid hl3; clear hl1 hl3)
        | (go_at_call 51; (with_reducible refine (l20Ring_st (HS.take tk) hc).mono ?_); rintro e w' ⟨rb, rs, rh, rt, hrs, rfl, HS1⟩; clear HS; have HS := HS1; clear HS1; have HR := hid hrs; clear hrs)
        | ((with_reducible (show wpList _ _ _ (Oper.mk (some 3) (Op.alloc _) _ _ _ _ :: _) _ _)); refine wpList_alloc_st (o := ⟨some 3, .alloc _, _, _, _, _⟩) rfl _ rfl zc_impl_Memory HS ?_; clear HS; intro w3 b3 hb3 HS)
        | ((with_reducible (show wpList _ _ _ (Oper.mk (some 4) (Op.alloc _) _ _ _ _ :: _) _ _)); refine wpList_alloc_st (o := ⟨some 4, .alloc _, _, _, _, _⟩) rfl _ rfl zc_impl_Ring HS ?_; clear HS; intro w4 b4 hb4 HS)
        | ((with_reducible (show wpList _ _ _ (Oper.mk (some 8) (Op.alloc _) _ _ _ _ :: _) _ _)); refine wpList_alloc_st (o := ⟨some 8, .alloc _, _, _, _, _⟩) rfl _ rfl zc_impl_Memory HS ?_; clear HS; intro w8 b8 hb8 HS)
        | ((with_reducible (show wpList _ _ _ (Oper.mk none (Op.store _ (.tmp 8) _) _ _ _ _ :: _) _ _)); refine wpList_store_st (o := ⟨none, .store _ (.tmp 8) _, _, _, _, _⟩) rfl _ _ _ rfl rfl (v := .agg (List.toArray _)) rfl HS tk sz_impl_Memory vcs rfx rfx (by simp) ?_ rfl; clear HS; intro w2_7 hz2_7 HS; simp only [nicL, Value.cells, List.append_nil] at HS)
        | ((with_reducible (show wpList _ _ _ (Oper.mk (some 9) (Op.alloc _) _ _ _ _ :: _) _ _)); refine wpList_alloc_st (o := ⟨some 9, .alloc _, _, _, _, _⟩) rfl _ rfl zc_impl_Ring HS ?_; clear HS; intro w9 b9 hb9 HS)
        | ((with_reducible (show wpList _ _ _ (Oper.mk none (Op.store _ (.tmp 9) _) _ _ _ _ :: _) _ _)); refine wpList_store_st (o := ⟨none, .store _ (.tmp 9) _, _, _, _, _⟩) rfl _ _ _ rfl rfl (v := .agg (List.toArray _)) rfl HS tk sz_impl_Ring vcs rfx rfx (by simp) ?_ rfl; clear HS; intro w3_3 hz3_3 HS; simp only [nicL, Value.cells, List.append_nil] at HS))
  refine wp_region_fl HS (show Arr _ [rowA b8 _ _, rowA b9 _ _] from ary) (.early 0 (.early 1 (.early 2 (.early 3 (.forced 4 1 (.early 5 (.forced 6 1 (.forced 7 2 (.pure 8 .done))))))))) [] (by kernel_rfl) (by as_aux_lemma => kernel_rfl) ?_
  intro hne
  clear HS
  try go_simp
  repeat' (first
    | (with_reducible refine wpF_forced ?_)
    | ((with_reducible (first | (show wpF _ _ _ _ _ (.early 0 _) _ _) | (show wpF _ _ _ _ _ (.early 3 _) _ _) | (show wpF _ _ _ _ _ (.early 5 _) _ _))); (first | (refine wpF_skipE rfl rfl ?_; (try go_simp)) | (refine wpF_early rfl rfl ?_; intro K hK; (first | go_big_quiet_op); (first | go_big_quiet_on | (refine ⟨_, fun _ => rfl, ?_⟩; go_big_quiet_on)))))
    | ((with_reducible ((show wpF _ _ _ _ _ (.early 1 _) _ _))); (first | (refine wpF_skipE rfl rfl ?_; (try go_simp)) | (refine wpF_early rfl rfl ?_; intro K hK; (first | ((refine quiet_loadA_st  _ _ rfl rfl tk ag_impl_Memory lit rfl ?_); (try go_simp)) | go_big_quiet_op); (first | go_big_quiet_on | (refine ⟨_, fun _ => rfl, ?_⟩; go_big_quiet_on)))))
    | ((with_reducible ((show wpF _ _ _ _ _ (.early 2 _) _ _))); (first | (refine wpF_skipE rfl rfl ?_; (try go_simp)) | (refine wpF_early rfl rfl ?_; intro K hK; (first | ((refine quiet_loadA_st  _ _ rfl rfl tk ag_impl_Ring lit rfl ?_); (try go_simp)) | go_big_quiet_op); (first | go_big_quiet_on | (refine ⟨_, fun _ => rfl, ?_⟩; go_big_quiet_on)))))
    | ((with_reducible ((show OneF _ _ _ _ _ 4 1 _ _ _))); (first | (refine oneF_skip rfl rfl ?_; (try go_simp)) | (refine oneF_1 rfl rfl ?_; intro wq Fq HS K hK; go_simp; (first | (go_at_call 52; (with_reducible refine (l20Entries_st (HS.take tk) hc).mono ?_); rintro e w' ⟨ve, rfl, HS1⟩; clear HS; have HS := HS1; clear HS1)); (try go_simp); refine hK _ _ _ ?_ (HS.take tk) ?_; (focus (exact stw HS)); clear HS hK K)))
    | ((with_reducible ((show OneF _ _ _ _ _ 6 1 _ _ _))); (first | (refine oneF_skip rfl rfl ?_; (try go_simp)) | (refine oneF_1 rfl rfl ?_; intro wq Fq HS K hK; (first | (refine wp_store_st  _ _ _ rfl rfl (v := .agg (List.toArray _)) rfl HS tk sz_impl_Memory vcs rfx rfx (by simp) ?_ rfl; clear HS; intro w4_6 hz4_6 HS; simp only [nicL, Value.cells, List.append_nil] at HS) | (refine wp_store_st  _ _ _ rfl rfl (v := .agg _) rfl HS tk sz_impl_Memory vcs rfx rfx (by simp) ?_ rfl; clear HS; intro w4_6 hz4_6 HS; simp only [nicL, Value.cells, List.append_nil] at HS)); (try go_simp); refine hK _ _ _ ?_ (HS.take tk) ?_; (focus (exact stw HS)); clear HS hK K)))
    | ((with_reducible ((show OneF _ _ _ _ _ 7 2 _ _ _))); (first | (refine oneF_skip rfl rfl ?_; (try go_simp)) | (refine oneF_2 rfl rfl ?_; intro wq Fq HS K hK; (first | (refine wp_store_st  _ _ _ rfl rfl (v := .agg (List.toArray _)) rfl HS tk sz_impl_Ring vcs rfx rfx (by simp) ?_ rfl; clear HS; intro w4_7 hz4_7 HS; simp only [nicL, Value.cells, List.append_nil] at HS) | (refine wp_store_st  _ _ _ rfl rfl (v := .agg _) rfl HS tk sz_impl_Ring vcs rfx rfx (by simp) ?_ rfl; clear HS; intro w4_7 hz4_7 HS; simp only [nicL, Value.cells, List.append_nil] at HS)); (try go_simp); refine hK _ _ _ (HS.take tk) ?_; clear HS hK K)))
    | ((with_reducible ((show wpF _ _ _ _ _ (.pure _ _) _ _))); (first | (refine wpF_skipP rfl rfl ?_; (try go_simp)) | (refine wpF_pure rfl rfl ?_; intro K hK; go_big_quiet_op; (first | go_big_quiet_on | (refine ⟨_, fun _ => rfl, ?_⟩; go_big_quiet_on)))))
    | (with_reducible refine wpF_done ?_))
  all_goals intro w9 HS
  all_goals
    go_wp2
    refine bodyPost_rets rfx (RVs.tmp rfx (RVs.cell rfx HS tk ag_impl_Memory rfx (RVs.cell rfx HS tk ag_impl_Ring rfx (RVs.tmp rfx RVs.nil)))) (by simp) rfx ?_
    exact ⟨l, qs, rb, rs, rh, rt, _, _, _, _, _, HL.out, hl2, HQ.out, HR.out, rfl, (HS.arr (by repeat (first | exact Arr.nil | (with_reducible exact take_all _) | (refine Arr.cons tk ?_) | (refine arr_skip ?_))))⟩

end Go.Proofs.Ytelkplponnfkpaa

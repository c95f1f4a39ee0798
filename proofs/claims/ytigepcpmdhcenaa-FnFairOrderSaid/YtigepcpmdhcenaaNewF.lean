/- NewFair of both. -/
import Derived.Test.YtigepcpmdhcenaaRows
import Derived.Test.YtigepcpmdhcenaaTy
import Derived.Test.YtigepcpmdhcenaaTi
import Derived.Test.YtigepcpmdhcenaaFairP
namespace Go.Proofs.Ytigepcpmdhcenaa
open Go.RowKit
set_option linter.unusedVariables false
set_option linter.unusedSimpArgs false

def newOk (n qu : Int) : Bool := inB n 1 8 && inB qu 1 2000
def RetFairB (w : World) (qs : List (List Int)) (ds : List Int) (q t : Int) (fr ok : Bool) (e : Ending) (w' : World) : Prop :=
  ∃ a1 c1 a2 c2, e = .returned (.tuple #[.agg #[.slice a1 qs.length c1, .slice a2 ds.length c2, .int .i64 q, .int .i64 t, .bool fr], .bool ok]) ∧ Owns w.heap.size w' (qs, ds) [.slice a1 qs.length c1, .slice a2 ds.length c2] ∧ Ex w w'
theorem retFair {w0 w : World} {Is Js Ks : List Asn} {qs : List (List Int)} {ds : List Int} {v1 v2 : Value} {q t : Int} {fr ok : Bool} (h : St w0 w Is) (t1 : Take Is (ownA qs [v1]) Js) (t2 : Take Js (ownA ds [v2]) Ks) :
    RetFairB w0 qs ds q t fr ok (.returned (.tuple #[.agg #[v1, v2, .int .i64 q, .int .i64 t, .bool fr], .bool ok])) w := by
  have h2 := h.take2 t1 t2
  obtain ⟨a1, c1, rfl⟩ := ownA.form h2 .head
  obtain ⟨a2, c2, rfl⟩ := ownA.form h2 (.tail .head)
  exact ⟨a1, c1, a2, c2, rfl, (h2.join).owns .head, h.ex⟩
theorem fair_new (n : Nat) (qu : Int) : fairOkB (List.replicate n []) (List.replicate n 0) qu 0 true = newOk n qu := by
  unfold fairOkB newOk
  have e : ((List.range (List.replicate n ([] : List Int)).length).all fun i => fairRowB qu 0 true i ((List.replicate n ([] : List Int)).getD i []) ((List.replicate n (0 : Int)).getD i 0)) = decide (n = 0 ∨ 0 ≤ 2000 + qu) := by
    rw [Bool.eq_iff_iff, List.all_eq_true]
    simp only [List.length_replicate, List.mem_range, decide_eq_true_eq]
    have key : ∀ i, i < n → fairRowB qu 0 true i ((List.replicate n ([] : List Int)).getD i []) ((List.replicate n (0 : Int)).getD i 0) = decide (0 ≤ 2000 + qu) := by
      intro i hi
      simp [List.getD, hi, fairRowB, inB]
    constructor
    · intro h
      rcases Nat.eq_zero_or_pos n with h0 | h0
      · exact .inl h0
      · have := h 0 h0; rw [key 0 h0] at this; exact .inr (by simpa using this)
    · rintro (h | h) i hi
      · omega
      · rw [key i hi]; simpa using h
  rw [e]
  simp only [List.length_replicate]
  rw [Bool.eq_iff_iff]
  constructor <;> intro h <;> simp [inB_iff] at h ⊢ <;> omega
theorem ints_flat (xs : List Int) : xs.flatMap Flat.cells = xs.map (Value.int .i64) := map_flat _ xs
theorem zeros_flat (n : Nat) : List.replicate n (Value.int .i64 0) = (List.replicate n (0 : Int)).flatMap Flat.cells := by rw [ints_flat, List.map_replicate]
theorem zeros_ok (n : Nat) : ∀ x ∈ List.replicate n (0 : Int), Flat.ok x := by
  intro x hx; rw [(List.mem_replicate.1 hx).2]; show i64ok 0; unfold i64ok; omega

theorem fairOk_q (v1 v2 : Value) (qs : List (List Int)) (ds : List Int) (qu tu : Int) (fr : Bool) (w : World) (k1 : Holds w qs [v1]) (k2 : Holds w ds [v2]) {q : Bool} (hq : q = fairOkB qs ds qu tu fr) :
    Calls Try.prog 9 #[.agg #[v1, v2, .int .i64 qu, .int .i64 tu, .bool fr]] w fun e w' => e = .returned (.bool q) ∧ Ex w w' := hq ▸ fairOk_any v1 v2 qs ds qu tu fr w k1 k2

theorem fairOkS_q (v1 v2 : Value) (qs : List (List Int)) (ds : List Int) (qu tu : Int) (fr : Bool) (w : World) (k1 : Holds w qs [v1]) (k2 : Holds w ds [v2]) {q : Bool} (hq : q = fairOkB qs ds qu tu fr) :
    Calls Try.prog 19 #[.agg #[v1, v2, .int .i64 qu, .int .i64 tu, .bool fr]] w fun e w' => e = .returned (.bool q) ∧ Ex w w' := hq ▸ fairOkS_any v1 v2 qs ds qu tu fr w k1 k2

set_option maxRecDepth 100000 in
set_option maxHeartbeats 4000000 in
theorem newFairS_any (n qu : Int) (w : World) {ok : Bool} (hok : ok = newOk n qu) {m : Nat} (hm : (m : Int) = if inB n 1 8 then n else 0) {qs : List (List Int)} (hqs : qs = if ok then List.replicate m [] else []) {ds : List Int} (hds : ds = if ok then List.replicate m 0 else []) {q2 : Int} (hq2 : q2 = if ok then qu else 0) :
    Calls Try.prog 12 #[.int .i64 n, .int .i64 qu] w (RetFairB w qs ds q2 0 ok ok) := by
  have hm8 : m ≤ 8 := by
    cases h : inB n 1 8
    · rw [h] at hm; simp at hm; omega
    · rw [h] at hm; have := inB_iff.1 h; simp at hm; omega
  have hok2 : ok = newOk m qu := by
    rw [hok]; unfold newOk
    cases h : inB n 1 8
    · rw [h] at hm; simp at hm; subst hm; simp [inB]
    · rw [h] at hm; simp at hm; rw [hm, h]
  have hgo : ∀ k : Nat, k ≤ m → (k < m ∧ (k : Int) < n ∧ n ≤ 8) ∨ (k = m ∧ (n ≤ (k : Int) ∨ 8 < n)) := by
    intro k hk
    cases h : inB n 1 8
    · rw [h] at hm
      have := inB_not.1 h
      simp at hm; omega
    · rw [h] at hm
      have := inB_iff.1 h
      simp at hm; omega
  have HOK := hid hok2
  have HQS := hid hqs
  have HDS := hid hds
  have HQ2 := hid hq2
  have HGO := hid hgo
  clear hm hok hok2 hqs hds hq2 hgo
  have HS := St.start w
  go_enter Try.func12, Try.ntmps12
  go_wp2_with (first
        | (refine wpList_alloc_st (o := ⟨some 4, .alloc _, _, _, _, _⟩) rfl _ rfl zc_impl_Fair HS ?_; clear HS; intro w4 b4 hb4 HS)
        | (refine wpList_alloc_st (o := ⟨some 6, .alloc _, _, _, _, _⟩) rfl _ rfl zc_impl_Fair HS ?_; clear HS; intro w6 b6 hb6 HS)
        | (refine wpList_store_st (o := ⟨none, .store _ (.tmp 6) _, _, _, _, _⟩) rfl _ _ _ rfl rfl (v := .agg (List.toArray _)) rfl HS (by repeat (first | exact Take.head | apply Take.tail)) sz_impl_Fair (by simp only [Value.cells]; rfl) (by rfl) (by rfl) (by simp) ?_ rfl; clear HS; intro w1_3 hz1_3 HS; simp only [nicL, Value.cells, List.append_nil] at HS)
        | (refine wpList_store_st (o := ⟨none, .store _ (.tmp 6) _, _, _, _, _⟩) rfl _ _ _ rfl rfl (v := .agg _) rfl HS (by repeat (first | exact Take.head | apply Take.tail)) sz_impl_Fair (by simp only [Value.cells]; rfl) (by rfl) (by rfl) (by simp) ?_ rfl; clear HS; intro w1_3 hz1_3 HS; simp only [nicL, Value.cells, List.append_nil] at HS)
        | (refine wpList_loadS_st (o := ⟨some 20, .load _ _, _, _, _, _⟩) rfl _ _ rfl rfl HS (by repeat (first | exact Take.head | apply Take.tail)) sc_SSint (by rfl) ?_)
        | (refine wpList_bslice0_st (o := ⟨some 21, .buildSlice _ _ _, _, _, _, _⟩) rfl _ rfl _ Try.underlying25 in_int HS ?_; clear HS; intro w21 b21 hb21 HS; replace HS := HS.empty (α := Int) (some ⟨b21, 0, none⟩))
        | (refine wpList_bslice1_st (o := ⟨some 22, .buildSlice _ _ _, _, _, _, _⟩) rfl _ _ rfl _ Try.underlying24 in_Sint (by decide) (by decide) (x := .slice _ _ _) rfl (by simp only [Value.cells]; rfl) (by rfl) HS ?_; clear HS; intro w22 b22 hb22 HS)
        | (refine wpList_bslice1_st (o := ⟨some 22, .buildSlice _ _ _, _, _, _, _⟩) rfl _ _ rfl _ Try.underlying24 in_Sint (by decide) (by decide) (x := _) rfl (by simp only [Value.cells]; rfl) (by rfl) HS ?_; clear HS; intro w22 b22 hb22 HS)
        | (refine wpList_appL_st (α := List Int) (o := ⟨some 23, .call { callee := .builtin .append, args := _, argTypes := _ }, _, _, _, _⟩) rfl _ _ _ _ rfl _ Try.underlying24 in_Sint rfl HS (by repeat (first | exact Take.head | apply Take.tail)) (by repeat (first | exact Take.head | apply Take.tail)) rfl (Src.row HS (by repeat (first | exact Take.head | apply Take.tail)) Try.underlying24 (by rfl) (by rfl)) List.length_replicate (by unfold maxLen; omega) (by omega) ?_; clear HS; intro a23 c23 w23 hb23 HS)
        | (refine wpList_store_st (o := ⟨none, .store _ (.tmp 24) _, _, _, _, _⟩) rfl _ _ _ rfl rfl (v := .slice _ _ _) rfl HS (by repeat (first | exact Take.head | apply Take.tail)) sz_SSint (by simp only [Value.cells]; rfl) (by rfl) (by rfl) (by simp) ?_ rfl; clear HS; intro w5_6 hz5_6 HS; simp only [nicL, Value.cells, List.append_nil] at HS)
        | (refine wpList_store_st (o := ⟨none, .store _ (.tmp 24) _, _, _, _, _⟩) rfl _ _ _ rfl rfl (v := _) rfl HS (by repeat (first | exact Take.head | apply Take.tail)) sz_SSint (by simp only [Value.cells]; rfl) (by rfl) (by rfl) (by simp) ?_ rfl; clear HS; intro w5_6 hz5_6 HS; simp only [nicL, Value.cells, List.append_nil] at HS)
        | (refine wpList_loadS_st (o := ⟨some 26, .load _ _, _, _, _, _⟩) rfl _ _ rfl rfl HS (by repeat (first | exact Take.head | apply Take.tail)) sc_Sint (by rfl) ?_)
        | (refine wpList_bslice1_st (o := ⟨some 27, .buildSlice _ _ _, _, _, _, _⟩) rfl _ _ rfl _ Try.underlying25 in_int (by decide) (by decide) (x := .int .i64 _) rfl (by simp only [Value.cells]; rfl) (by rfl) HS ?_; clear HS; intro w27 b27 hb27 HS)
        | (refine wpList_bslice1_st (o := ⟨some 27, .buildSlice _ _ _, _, _, _, _⟩) rfl _ _ rfl _ Try.underlying25 in_int (by decide) (by decide) (x := _) rfl (by simp only [Value.cells]; rfl) (by rfl) HS ?_; clear HS; intro w27 b27 hb27 HS)
        | (refine wpList_app_st (o := ⟨some 28, .call { callee := .builtin .append, args := _, argTypes := _ }, _, _, _, _⟩) rfl _ _ _ _ rfl _ Try.underlying25 in_int rfl HS (by repeat (first | exact Take.head | apply Take.tail)) rfl (Src.row HS (by repeat (first | exact Take.head | apply Take.tail)) Try.underlying25 (by rfl) (by rfl)) (by unfold maxLen; omega) (by omega) ?_; clear HS; intro a28 c28 w28 hb28 HS)
        | (refine wpList_store_st (o := ⟨none, .store _ (.tmp 29) _, _, _, _, _⟩) rfl _ _ _ rfl rfl (v := .slice _ _ _) rfl HS (by repeat (first | exact Take.head | apply Take.tail)) sz_Sint (by simp only [Value.cells]; rfl) (by rfl) (by rfl) (by simp) ?_ rfl; clear HS; intro w6_5 hz6_5 HS; simp only [nicL, Value.cells, List.append_nil] at HS)
        | (refine wpList_store_st (o := ⟨none, .store _ (.tmp 29) _, _, _, _, _⟩) rfl _ _ _ rfl rfl (v := _) rfl HS (by repeat (first | exact Take.head | apply Take.tail)) sz_Sint (by simp only [Value.cells]; rfl) (by rfl) (by rfl) (by simp) ?_ rfl; clear HS; intro w6_5 hz6_5 HS; simp only [nicL, Value.cells, List.append_nil] at HS)
        | (refine wpList_loadA_st (o := ⟨some 30, .load _ _, _, _, _, _⟩) rfl _ _ rfl rfl HS (by repeat (first | exact Take.head | apply Take.tail)) ag_impl_Fair (by simp only [List.drop_succ_cons, List.drop_zero, List.take_succ_cons, List.take_zero, List.take_nil]; rfl) rfl ?_)
        | (refine wpList_store_st (o := ⟨none, .store _ (.tmp 4) _, _, _, _, _⟩) rfl _ _ _ rfl rfl (v := .agg (List.toArray _)) rfl HS (by repeat (first | exact Take.head | apply Take.tail)) sz_impl_Fair (by simp only [Value.cells]; rfl) (by rfl) (by rfl) (by simp) ?_ rfl; clear HS; intro w8_1 hz8_1 HS; simp only [nicL, Value.cells, List.append_nil] at HS)
        | (refine wpList_store_st (o := ⟨none, .store _ (.tmp 4) _, _, _, _, _⟩) rfl _ _ _ rfl rfl (v := .agg _) rfl HS (by repeat (first | exact Take.head | apply Take.tail)) sz_impl_Fair (by simp only [Value.cells]; rfl) (by rfl) (by rfl) (by simp) ?_ rfl; clear HS; intro w8_1 hz8_1 HS; simp only [nicL, Value.cells, List.append_nil] at HS)
        | (refine wpList_loadA_st (o := ⟨some 34, .load _ _, _, _, _, _⟩) rfl _ _ rfl rfl HS (by repeat (first | exact Take.head | apply Take.tail)) ag_impl_Fair (by simp only [List.drop_succ_cons, List.drop_zero, List.take_succ_cons, List.take_zero, List.take_nil]; rfl) rfl ?_)
        | (refine wpList_store_st (o := ⟨none, .store _ (.tmp 4) _, _, _, _, _⟩) rfl _ _ _ rfl rfl (v := .agg (List.toArray _)) rfl HS (by repeat (first | exact Take.head | apply Take.tail)) sz_impl_Fair (by simp only [Value.cells]; rfl) (by rfl) (by rfl) (by simp) ?_ rfl; clear HS; intro w9_1 hz9_1 HS; simp only [nicL, Value.cells, List.append_nil] at HS)
        | (refine wpList_store_st (o := ⟨none, .store _ (.tmp 4) _, _, _, _, _⟩) rfl _ _ _ rfl rfl (v := .agg _) rfl HS (by repeat (first | exact Take.head | apply Take.tail)) sz_impl_Fair (by simp only [Value.cells]; rfl) (by rfl) (by rfl) (by simp) ?_ rfl; clear HS; intro w9_1 hz9_1 HS; simp only [nicL, Value.cells, List.append_nil] at HS))
  replace HS := (HS.slotNil 3 1).listNil (α := List Int) 25
  go_loopw [7] (fun i wr => ∃ (k : Nat) (a1 : Option Addr) (c1 : Nat) (a2 : Option Addr) (c2 : Nat) (vs : List Value), i = .int .i64 k ∧ k ≤ m ∧ St w wr [listA 25 (List.replicate k ([] : List Int)) (.slice a1 k c1) vs, slotA 3 1 (.slice a2 k c2) k (List.replicate k (.int .i64 0)), rowA b6 [.slice a1 k c1, .slice a2 k c2, .int .i64 qu, .int .i64 0, .bool true] 27, rowA b4 [.slice none 0 0, .slice none 0 0, .int .i64 0, .int .i64 0, .bool false] 27]) (fun i _ => m - (intOf i).toNat)
  case atStart => exact ⟨0, none, 0, none, 0, [], rfl, Nat.zero_le _, (HS.arr (by repeat (first | exact Arr.nil | (refine Arr.cons (by repeat (first | exact Take.head | apply Take.tail)) ?_))))⟩
  case round =>
    clear HS
    obtain ⟨k, a1, c1, a2, c2, vs, rfl, hk, HS⟩ := hrel
    have hlt := HGO.out k hk
    rcases hlt with ⟨h1, h2, h3⟩ | ⟨rfl, h2⟩
    case inl =>
      go_wp2_with (first
            | (refine wpList_alloc_st (o := ⟨some 4, .alloc _, _, _, _, _⟩) rfl _ rfl zc_impl_Fair HS ?_; clear HS; intro w4 b4 hb4 HS)
            | (refine wpList_alloc_st (o := ⟨some 6, .alloc _, _, _, _, _⟩) rfl _ rfl zc_impl_Fair HS ?_; clear HS; intro w6 b6 hb6 HS)
            | (refine wpList_store_st (o := ⟨none, .store _ (.tmp 6) _, _, _, _, _⟩) rfl _ _ _ rfl rfl (v := .agg (List.toArray _)) rfl HS (by repeat (first | exact Take.head | apply Take.tail)) sz_impl_Fair (by simp only [Value.cells]; rfl) (by rfl) (by rfl) (by simp) ?_ rfl; clear HS; intro w1_3 hz1_3 HS; simp only [nicL, Value.cells, List.append_nil] at HS)
            | (refine wpList_store_st (o := ⟨none, .store _ (.tmp 6) _, _, _, _, _⟩) rfl _ _ _ rfl rfl (v := .agg _) rfl HS (by repeat (first | exact Take.head | apply Take.tail)) sz_impl_Fair (by simp only [Value.cells]; rfl) (by rfl) (by rfl) (by simp) ?_ rfl; clear HS; intro w1_3 hz1_3 HS; simp only [nicL, Value.cells, List.append_nil] at HS)
            | (refine wpList_loadS_st (o := ⟨some 20, .load _ _, _, _, _, _⟩) rfl _ _ rfl rfl HS (by repeat (first | exact Take.head | apply Take.tail)) sc_SSint (by rfl) ?_)
            | (refine wpList_bslice0_st (o := ⟨some 21, .buildSlice _ _ _, _, _, _, _⟩) rfl _ rfl _ Try.underlying25 in_int HS ?_; clear HS; intro w21 b21 hb21 HS; replace HS := HS.empty (α := Int) (some ⟨b21, 0, none⟩))
            | (refine wpList_bslice1_st (o := ⟨some 22, .buildSlice _ _ _, _, _, _, _⟩) rfl _ _ rfl _ Try.underlying24 in_Sint (by decide) (by decide) (x := .slice _ _ _) rfl (by simp only [Value.cells]; rfl) (by rfl) HS ?_; clear HS; intro w22 b22 hb22 HS)
            | (refine wpList_bslice1_st (o := ⟨some 22, .buildSlice _ _ _, _, _, _, _⟩) rfl _ _ rfl _ Try.underlying24 in_Sint (by decide) (by decide) (x := _) rfl (by simp only [Value.cells]; rfl) (by rfl) HS ?_; clear HS; intro w22 b22 hb22 HS)
            | (refine wpList_appL_st (α := List Int) (o := ⟨some 23, .call { callee := .builtin .append, args := _, argTypes := _ }, _, _, _, _⟩) rfl _ _ _ _ rfl _ Try.underlying24 in_Sint rfl HS (by repeat (first | exact Take.head | apply Take.tail)) (by repeat (first | exact Take.head | apply Take.tail)) rfl (Src.row HS (by repeat (first | exact Take.head | apply Take.tail)) Try.underlying24 (by rfl) (by rfl)) List.length_replicate (by unfold maxLen; omega) (by omega) ?_; clear HS; intro a23 c23 w23 hb23 HS)
            | (refine wpList_store_st (o := ⟨none, .store _ (.tmp 24) _, _, _, _, _⟩) rfl _ _ _ rfl rfl (v := .slice _ _ _) rfl HS (by repeat (first | exact Take.head | apply Take.tail)) sz_SSint (by simp only [Value.cells]; rfl) (by rfl) (by rfl) (by simp) ?_ rfl; clear HS; intro w5_6 hz5_6 HS; simp only [nicL, Value.cells, List.append_nil] at HS)
            | (refine wpList_store_st (o := ⟨none, .store _ (.tmp 24) _, _, _, _, _⟩) rfl _ _ _ rfl rfl (v := _) rfl HS (by repeat (first | exact Take.head | apply Take.tail)) sz_SSint (by simp only [Value.cells]; rfl) (by rfl) (by rfl) (by simp) ?_ rfl; clear HS; intro w5_6 hz5_6 HS; simp only [nicL, Value.cells, List.append_nil] at HS)
            | (refine wpList_loadS_st (o := ⟨some 26, .load _ _, _, _, _, _⟩) rfl _ _ rfl rfl HS (by repeat (first | exact Take.head | apply Take.tail)) sc_Sint (by rfl) ?_)
            | (refine wpList_bslice1_st (o := ⟨some 27, .buildSlice _ _ _, _, _, _, _⟩) rfl _ _ rfl _ Try.underlying25 in_int (by decide) (by decide) (x := .int .i64 _) rfl (by simp only [Value.cells]; rfl) (by rfl) HS ?_; clear HS; intro w27 b27 hb27 HS)
            | (refine wpList_bslice1_st (o := ⟨some 27, .buildSlice _ _ _, _, _, _, _⟩) rfl _ _ rfl _ Try.underlying25 in_int (by decide) (by decide) (x := _) rfl (by simp only [Value.cells]; rfl) (by rfl) HS ?_; clear HS; intro w27 b27 hb27 HS)
            | (refine wpList_app_st (o := ⟨some 28, .call { callee := .builtin .append, args := _, argTypes := _ }, _, _, _, _⟩) rfl _ _ _ _ rfl _ Try.underlying25 in_int rfl HS (by repeat (first | exact Take.head | apply Take.tail)) rfl (Src.row HS (by repeat (first | exact Take.head | apply Take.tail)) Try.underlying25 (by rfl) (by rfl)) (by unfold maxLen; omega) (by omega) ?_; clear HS; intro a28 c28 w28 hb28 HS)
            | (refine wpList_store_st (o := ⟨none, .store _ (.tmp 29) _, _, _, _, _⟩) rfl _ _ _ rfl rfl (v := .slice _ _ _) rfl HS (by repeat (first | exact Take.head | apply Take.tail)) sz_Sint (by simp only [Value.cells]; rfl) (by rfl) (by rfl) (by simp) ?_ rfl; clear HS; intro w6_5 hz6_5 HS; simp only [nicL, Value.cells, List.append_nil] at HS)
            | (refine wpList_store_st (o := ⟨none, .store _ (.tmp 29) _, _, _, _, _⟩) rfl _ _ _ rfl rfl (v := _) rfl HS (by repeat (first | exact Take.head | apply Take.tail)) sz_Sint (by simp only [Value.cells]; rfl) (by rfl) (by rfl) (by simp) ?_ rfl; clear HS; intro w6_5 hz6_5 HS; simp only [nicL, Value.cells, List.append_nil] at HS)
            | (refine wpList_loadA_st (o := ⟨some 30, .load _ _, _, _, _, _⟩) rfl _ _ rfl rfl HS (by repeat (first | exact Take.head | apply Take.tail)) ag_impl_Fair (by simp only [List.drop_succ_cons, List.drop_zero, List.take_succ_cons, List.take_zero, List.take_nil]; rfl) rfl ?_)
            | (refine wpList_store_st (o := ⟨none, .store _ (.tmp 4) _, _, _, _, _⟩) rfl _ _ _ rfl rfl (v := .agg (List.toArray _)) rfl HS (by repeat (first | exact Take.head | apply Take.tail)) sz_impl_Fair (by simp only [Value.cells]; rfl) (by rfl) (by rfl) (by simp) ?_ rfl; clear HS; intro w8_1 hz8_1 HS; simp only [nicL, Value.cells, List.append_nil] at HS)
            | (refine wpList_store_st (o := ⟨none, .store _ (.tmp 4) _, _, _, _, _⟩) rfl _ _ _ rfl rfl (v := .agg _) rfl HS (by repeat (first | exact Take.head | apply Take.tail)) sz_impl_Fair (by simp only [Value.cells]; rfl) (by rfl) (by rfl) (by simp) ?_ rfl; clear HS; intro w8_1 hz8_1 HS; simp only [nicL, Value.cells, List.append_nil] at HS)
            | (refine wpList_loadA_st (o := ⟨some 34, .load _ _, _, _, _, _⟩) rfl _ _ rfl rfl HS (by repeat (first | exact Take.head | apply Take.tail)) ag_impl_Fair (by simp only [List.drop_succ_cons, List.drop_zero, List.take_succ_cons, List.take_zero, List.take_nil]; rfl) rfl ?_)
            | (refine wpList_store_st (o := ⟨none, .store _ (.tmp 4) _, _, _, _, _⟩) rfl _ _ _ rfl rfl (v := .agg (List.toArray _)) rfl HS (by repeat (first | exact Take.head | apply Take.tail)) sz_impl_Fair (by simp only [Value.cells]; rfl) (by rfl) (by rfl) (by simp) ?_ rfl; clear HS; intro w9_1 hz9_1 HS; simp only [nicL, Value.cells, List.append_nil] at HS)
            | (refine wpList_store_st (o := ⟨none, .store _ (.tmp 4) _, _, _, _, _⟩) rfl _ _ _ rfl rfl (v := .agg _) rfl HS (by repeat (first | exact Take.head | apply Take.tail)) sz_impl_Fair (by simp only [Value.cells]; rfl) (by rfl) (by rfl) (by simp) ?_ rfl; clear HS; intro w9_1 hz9_1 HS; simp only [nicL, Value.cells, List.append_nil] at HS))
      go_roundw
      case rel =>
        have e1 : List.replicate (k + 1) ([] : List Int) = List.replicate k [] ++ [[]] := List.replicate_succ'
        have e2 : List.replicate (k + 1) (Value.int .i64 0) = List.replicate k (.int .i64 0) ++ [.int .i64 0] := List.replicate_succ'
        exact ⟨k + 1, a23, c23, a28, c28, _, by go_num, by omega, by rw [e1, e2]; exact (HS.arr (by repeat (first | exact Arr.nil | (refine Arr.cons (by repeat (first | exact Take.head | apply Take.tail)) ?_))))⟩
      case measure => simp [intOf]; omega
    case inr =>
      have hok := HOK.out
      rw [← fair_new] at hok
      have HO := hid hok
      replace HS := (HS.shutL (by repeat (first | exact Take.head | apply Take.tail)) rfl).shut (α := Int) (xs := List.replicate k 0) (by repeat (first | exact Take.head | apply Take.tail)) (zeros_flat k) (zeros_ok k)
      clear hok HGO
      rcases h2 with h2 | h2
      all_goals
        cases ok
        all_goals
          go_wp2_with (first
                | (go_at_call 19; (with_reducible refine (fairOkS_q _ _ (List.replicate k []) (List.replicate k 0) qu 0 true _ (HS.holds (by repeat (first | exact Take.head | apply Take.tail))) (HS.holds (by repeat (first | exact Take.head | apply Take.tail))) HO.out).mono ?_); rintro e w' ⟨rfl, hx⟩; replace HS := HS.grow hx; clear hx)
                | (refine wpList_alloc_st (o := ⟨some 4, .alloc _, _, _, _, _⟩) rfl _ rfl zc_impl_Fair HS ?_; clear HS; intro w4 b4 hb4 HS)
                | (refine wpList_alloc_st (o := ⟨some 6, .alloc _, _, _, _, _⟩) rfl _ rfl zc_impl_Fair HS ?_; clear HS; intro w6 b6 hb6 HS)
                | (refine wpList_store_st (o := ⟨none, .store _ (.tmp 6) _, _, _, _, _⟩) rfl _ _ _ rfl rfl (v := .agg (List.toArray _)) rfl HS (by repeat (first | exact Take.head | apply Take.tail)) sz_impl_Fair (by simp only [Value.cells]; rfl) (by rfl) (by rfl) (by simp) ?_ rfl; clear HS; intro w1_3 hz1_3 HS; simp only [nicL, Value.cells, List.append_nil] at HS)
                | (refine wpList_store_st (o := ⟨none, .store _ (.tmp 6) _, _, _, _, _⟩) rfl _ _ _ rfl rfl (v := .agg _) rfl HS (by repeat (first | exact Take.head | apply Take.tail)) sz_impl_Fair (by simp only [Value.cells]; rfl) (by rfl) (by rfl) (by simp) ?_ rfl; clear HS; intro w1_3 hz1_3 HS; simp only [nicL, Value.cells, List.append_nil] at HS)
                | (refine wpList_loadS_st (o := ⟨some 20, .load _ _, _, _, _, _⟩) rfl _ _ rfl rfl HS (by repeat (first | exact Take.head | apply Take.tail)) sc_SSint (by rfl) ?_)
                | (refine wpList_bslice0_st (o := ⟨some 21, .buildSlice _ _ _, _, _, _, _⟩) rfl _ rfl _ Try.underlying25 in_int HS ?_; clear HS; intro w21 b21 hb21 HS; replace HS := HS.empty (α := Int) (some ⟨b21, 0, none⟩))
                | (refine wpList_bslice1_st (o := ⟨some 22, .buildSlice _ _ _, _, _, _, _⟩) rfl _ _ rfl _ Try.underlying24 in_Sint (by decide) (by decide) (x := .slice _ _ _) rfl (by simp only [Value.cells]; rfl) (by rfl) HS ?_; clear HS; intro w22 b22 hb22 HS)
                | (refine wpList_bslice1_st (o := ⟨some 22, .buildSlice _ _ _, _, _, _, _⟩) rfl _ _ rfl _ Try.underlying24 in_Sint (by decide) (by decide) (x := _) rfl (by simp only [Value.cells]; rfl) (by rfl) HS ?_; clear HS; intro w22 b22 hb22 HS)
                | (refine wpList_appL_st (α := List Int) (o := ⟨some 23, .call { callee := .builtin .append, args := _, argTypes := _ }, _, _, _, _⟩) rfl _ _ _ _ rfl _ Try.underlying24 in_Sint rfl HS (by repeat (first | exact Take.head | apply Take.tail)) (by repeat (first | exact Take.head | apply Take.tail)) rfl (Src.row HS (by repeat (first | exact Take.head | apply Take.tail)) Try.underlying24 (by rfl) (by rfl)) List.length_replicate (by unfold maxLen; omega) (by omega) ?_; clear HS; intro a23 c23 w23 hb23 HS)
                | (refine wpList_store_st (o := ⟨none, .store _ (.tmp 24) _, _, _, _, _⟩) rfl _ _ _ rfl rfl (v := .slice _ _ _) rfl HS (by repeat (first | exact Take.head | apply Take.tail)) sz_SSint (by simp only [Value.cells]; rfl) (by rfl) (by rfl) (by simp) ?_ rfl; clear HS; intro w5_6 hz5_6 HS; simp only [nicL, Value.cells, List.append_nil] at HS)
                | (refine wpList_store_st (o := ⟨none, .store _ (.tmp 24) _, _, _, _, _⟩) rfl _ _ _ rfl rfl (v := _) rfl HS (by repeat (first | exact Take.head | apply Take.tail)) sz_SSint (by simp only [Value.cells]; rfl) (by rfl) (by rfl) (by simp) ?_ rfl; clear HS; intro w5_6 hz5_6 HS; simp only [nicL, Value.cells, List.append_nil] at HS)
                | (refine wpList_loadS_st (o := ⟨some 26, .load _ _, _, _, _, _⟩) rfl _ _ rfl rfl HS (by repeat (first | exact Take.head | apply Take.tail)) sc_Sint (by rfl) ?_)
                | (refine wpList_bslice1_st (o := ⟨some 27, .buildSlice _ _ _, _, _, _, _⟩) rfl _ _ rfl _ Try.underlying25 in_int (by decide) (by decide) (x := .int .i64 _) rfl (by simp only [Value.cells]; rfl) (by rfl) HS ?_; clear HS; intro w27 b27 hb27 HS)
                | (refine wpList_bslice1_st (o := ⟨some 27, .buildSlice _ _ _, _, _, _, _⟩) rfl _ _ rfl _ Try.underlying25 in_int (by decide) (by decide) (x := _) rfl (by simp only [Value.cells]; rfl) (by rfl) HS ?_; clear HS; intro w27 b27 hb27 HS)
                | (refine wpList_app_st (o := ⟨some 28, .call { callee := .builtin .append, args := _, argTypes := _ }, _, _, _, _⟩) rfl _ _ _ _ rfl _ Try.underlying25 in_int rfl HS (by repeat (first | exact Take.head | apply Take.tail)) rfl (Src.row HS (by repeat (first | exact Take.head | apply Take.tail)) Try.underlying25 (by rfl) (by rfl)) (by unfold maxLen; omega) (by omega) ?_; clear HS; intro a28 c28 w28 hb28 HS)
                | (refine wpList_store_st (o := ⟨none, .store _ (.tmp 29) _, _, _, _, _⟩) rfl _ _ _ rfl rfl (v := .slice _ _ _) rfl HS (by repeat (first | exact Take.head | apply Take.tail)) sz_Sint (by simp only [Value.cells]; rfl) (by rfl) (by rfl) (by simp) ?_ rfl; clear HS; intro w6_5 hz6_5 HS; simp only [nicL, Value.cells, List.append_nil] at HS)
                | (refine wpList_store_st (o := ⟨none, .store _ (.tmp 29) _, _, _, _, _⟩) rfl _ _ _ rfl rfl (v := _) rfl HS (by repeat (first | exact Take.head | apply Take.tail)) sz_Sint (by simp only [Value.cells]; rfl) (by rfl) (by rfl) (by simp) ?_ rfl; clear HS; intro w6_5 hz6_5 HS; simp only [nicL, Value.cells, List.append_nil] at HS)
                | (refine wpList_loadA_st (o := ⟨some 30, .load _ _, _, _, _, _⟩) rfl _ _ rfl rfl HS (by repeat (first | exact Take.head | apply Take.tail)) ag_impl_Fair (by simp only [List.drop_succ_cons, List.drop_zero, List.take_succ_cons, List.take_zero, List.take_nil]; rfl) rfl ?_)
                | (refine wpList_store_st (o := ⟨none, .store _ (.tmp 4) _, _, _, _, _⟩) rfl _ _ _ rfl rfl (v := .agg (List.toArray _)) rfl HS (by repeat (first | exact Take.head | apply Take.tail)) sz_impl_Fair (by simp only [Value.cells]; rfl) (by rfl) (by rfl) (by simp) ?_ rfl; clear HS; intro w8_1 hz8_1 HS; simp only [nicL, Value.cells, List.append_nil] at HS)
                | (refine wpList_store_st (o := ⟨none, .store _ (.tmp 4) _, _, _, _, _⟩) rfl _ _ _ rfl rfl (v := .agg _) rfl HS (by repeat (first | exact Take.head | apply Take.tail)) sz_impl_Fair (by simp only [Value.cells]; rfl) (by rfl) (by rfl) (by simp) ?_ rfl; clear HS; intro w8_1 hz8_1 HS; simp only [nicL, Value.cells, List.append_nil] at HS)
                | (refine wpList_loadA_st (o := ⟨some 34, .load _ _, _, _, _, _⟩) rfl _ _ rfl rfl HS (by repeat (first | exact Take.head | apply Take.tail)) ag_impl_Fair (by simp only [List.drop_succ_cons, List.drop_zero, List.take_succ_cons, List.take_zero, List.take_nil]; rfl) rfl ?_)
                | (refine wpList_store_st (o := ⟨none, .store _ (.tmp 4) _, _, _, _, _⟩) rfl _ _ _ rfl rfl (v := .agg (List.toArray _)) rfl HS (by repeat (first | exact Take.head | apply Take.tail)) sz_impl_Fair (by simp only [Value.cells]; rfl) (by rfl) (by rfl) (by simp) ?_ rfl; clear HS; intro w9_1 hz9_1 HS; simp only [nicL, Value.cells, List.append_nil] at HS)
                | (refine wpList_store_st (o := ⟨none, .store _ (.tmp 4) _, _, _, _, _⟩) rfl _ _ _ rfl rfl (v := .agg _) rfl HS (by repeat (first | exact Take.head | apply Take.tail)) sz_impl_Fair (by simp only [Value.cells]; rfl) (by rfl) (by rfl) (by simp) ?_ rfl; clear HS; intro w9_1 hz9_1 HS; simp only [nicL, Value.cells, List.append_nil] at HS))
          refine bodyPost_rets (by rfl) (RVs.cell (by rfl) HS (by repeat (first | exact Take.head | apply Take.tail)) ag_impl_Fair (by rfl) (RVs.tmp (by rfl) RVs.nil)) (by simp) (by rfl) ?_
          rw [HQS.out, HDS.out, HQ2.out]
          first
            | exact retFair ((HS.empty (α := Int) none).empty (α := List Int) none) (by repeat (first | exact Take.head | apply Take.tail)) (by repeat (first | exact Take.head | apply Take.tail))
            | exact retFair HS (by repeat (first | exact Take.head | apply Take.tail)) (by repeat (first | exact Take.head | apply Take.tail))

end Go.Proofs.Ytigepcpmdhcenaa

/- Mappings: the first one of a page, the page's place, whether a list is valid: the program and the reference. -/
import Derived.Test.YtelkplponnfkpaaRows
import Derived.Test.YtelkplponnfkpaaArr
import Derived.Test.YtelkplponnfkpaaTy
import Derived.Test.YtelkplponnfkpaaTi
import Derived.Test.YtelkplponnfkpaaScal
import Derived.Test.YtelkplponnfkpaaTk
namespace Go.Proofs.Ytelkplponnfkpaa
open Go.RowKit
set_option linter.unusedVariables false
set_option linter.unusedSimpArgs false

set_option maxRecDepth 100000 in
set_option maxHeartbeats 4000000 in
theorem pageMapping_any (v : Value) (l : List Mp) (d vv : Int) (w : World) (k1 : Holds w l [v]) :
    Calls Try.prog 159 #[v, .int .i64 d, .int .i64 vv] w fun e w' => e = .returned (.int .i64 (mpIdx l d vv)) ∧ Ex w w' := by
  obtain ⟨AA, cap, rfl, z1, z2⟩ := k1.fl
  unfold maxLen at z2
  have HS := St.start w
  go_enter Try.func159, Try.ntmps159
  go_wp2
  go_loopw [11] (fun i wr => ∃ k : Nat, k ≤ l.length ∧ (∀ j (g : j < l.length), j < k → hit l[j] d vv = false) ∧ i = .int .i64 k ∧ St w wr []) (fun i _ => l.length - (intOf i).toNat)
  case atStart => exact ⟨0, Nat.zero_le _, fun j _ g => by omega, rfl, (HS.arr (by repeat (first | exact Arr.nil | (with_reducible exact take_all _) | (refine Arr.cons tk ?_) | (refine arr_skip ?_))))⟩
  case round =>
    clear HS
    obtain ⟨k, hkl, hno, rfl, HS⟩ := hrel
    replace hno := hid hno
    by_cases hlt : k < l.length
    case pos =>
      obtain ⟨b, off, rfl⟩ := k1.flA (by omega)
      have HK := hid (List.getElem?_eq_getElem hlt)
      generalize hx : l[k] = x at *
      obtain ⟨xd, xv, xp, xw⟩ := x
      have HX := hid hx
      clear hx
      cases hb : decide (xd = d ∧ xv = vv)
      all_goals have hb2 := hb
      all_goals simp only [decide_eq_true_eq, decide_eq_false_iff_not] at hb2
      case true =>
        obtain ⟨rfl, rfl⟩ := hb2
        clear hb
        have HM : Hid (mpIdx l xd xv = (k : Int)) := hid (mpIdx_at hlt (fun j g => hno.out j (by omega) g) (by rw [HX.out]; simp [hit]))
        go_wp2_with (first
              | ((with_reducible (show wpList _ _ _ (Oper.mk (some 15) (Op.load _ _) _ _ _ _ :: _) _ _)); refine wpList_loadH (o := ⟨some 15, .load _ _, _, _, _, _⟩) rfl _ _ rfl rfl HS (fun _ hs => k1.ex hs.ex) HK.out (by first | rfl | (simp; done) | omega) ag_impl_Mapping rfl flt ?_)
              | ((with_reducible (show wpList _ _ _ (Oper.mk (some 8) (Op.alloc _) _ _ _ _ :: _) _ _)); refine wpList_alloc_st (o := ⟨some 8, .alloc _, _, _, _, _⟩) rfl _ rfl zc_impl_Mapping HS ?_; clear HS; intro w8 b8 hb8 HS)
              | ((with_reducible (show wpList _ _ _ (Oper.mk none (Op.store _ (.tmp 8) _) _ _ _ _ :: _) _ _)); refine wpList_store_st (o := ⟨none, .store _ (.tmp 8) _, _, _, _, _⟩) rfl _ _ _ rfl rfl (v := .agg (List.toArray _)) rfl HS tk sz_impl_Mapping vcs rfx rfx (by simp) ?_ rfl; clear HS; intro w3_5 hz3_5 HS; simp only [nicL, Value.cells, List.append_nil] at HS)
              | ((with_reducible (show wpList _ _ _ (Oper.mk (some 17) (Op.load _ _) _ _ _ _ :: _) _ _)); refine wpList_loadS_st (o := ⟨some 17, .load _ _, _, _, _, _⟩) rfl _ _ rfl rfl HS tk sc_int rfx ?_)
              | ((with_reducible (show wpList _ _ _ (Oper.mk (some 22) (Op.load _ _) _ _ _ _ :: _) _ _)); refine wpList_loadS_st (o := ⟨some 22, .load _ _, _, _, _, _⟩) rfl _ _ rfl rfl HS tk sc_int rfx ?_))
        go_ret
        exact ⟨ret_int HM.out.symm, HS.ex⟩
      case false =>
        have hno2 : Hid (∀ j (g : j < l.length), j < k + 1 → hit l[j] d vv = false) := hid fun j g h => by
          rcases Nat.lt_or_ge j k with h2 | h2
          · exact hno.out j g h2
          · obtain rfl : j = k := by omega
            rw [HX.out]; exact hit_no.2 hb2
        clear hb
        by_cases e1 : xd = d
        case pos =>
          subst e1
          have e2 : ¬ xv = vv := fun h => hb2 ⟨rfl, h⟩
          have e3 : (xv == vv) = false := beq_eq_false_iff_ne.2 e2
          clear hb2 e2
          go_wp2_with (first
                | ((with_reducible (show wpList _ _ _ (Oper.mk (some 15) (Op.load _ _) _ _ _ _ :: _) _ _)); refine wpList_loadH (o := ⟨some 15, .load _ _, _, _, _, _⟩) rfl _ _ rfl rfl HS (fun _ hs => k1.ex hs.ex) HK.out (by first | rfl | (simp; done) | omega) ag_impl_Mapping rfl flt ?_)
                | ((with_reducible (show wpList _ _ _ (Oper.mk (some 8) (Op.alloc _) _ _ _ _ :: _) _ _)); refine wpList_alloc_st (o := ⟨some 8, .alloc _, _, _, _, _⟩) rfl _ rfl zc_impl_Mapping HS ?_; clear HS; intro w8 b8 hb8 HS)
                | ((with_reducible (show wpList _ _ _ (Oper.mk none (Op.store _ (.tmp 8) _) _ _ _ _ :: _) _ _)); refine wpList_store_st (o := ⟨none, .store _ (.tmp 8) _, _, _, _, _⟩) rfl _ _ _ rfl rfl (v := .agg (List.toArray _)) rfl HS tk sz_impl_Mapping vcs rfx rfx (by simp) ?_ rfl; clear HS; intro w3_5 hz3_5 HS; simp only [nicL, Value.cells, List.append_nil] at HS)
                | ((with_reducible (show wpList _ _ _ (Oper.mk (some 17) (Op.load _ _) _ _ _ _ :: _) _ _)); refine wpList_loadS_st (o := ⟨some 17, .load _ _, _, _, _, _⟩) rfl _ _ rfl rfl HS tk sc_int rfx ?_)
                | ((with_reducible (show wpList _ _ _ (Oper.mk (some 22) (Op.load _ _) _ _ _ _ :: _) _ _)); refine wpList_loadS_st (o := ⟨some 22, .load _ _, _, _, _, _⟩) rfl _ _ rfl rfl HS tk sc_int rfx ?_))
          go_roundw
          case rel => exact ⟨k + 1, hlt, hno2.out, by go_num, (HS.arr (by repeat (first | exact Arr.nil | (with_reducible exact take_all _) | (refine Arr.cons tk ?_) | (refine arr_skip ?_))))⟩
          case measure => simp [intOf]; omega
        case neg =>
          have e3 : (xd == d) = false := beq_eq_false_iff_ne.2 e1
          clear hb2 e1
          go_wp2_with (first
                | ((with_reducible (show wpList _ _ _ (Oper.mk (some 15) (Op.load _ _) _ _ _ _ :: _) _ _)); refine wpList_loadH (o := ⟨some 15, .load _ _, _, _, _, _⟩) rfl _ _ rfl rfl HS (fun _ hs => k1.ex hs.ex) HK.out (by first | rfl | (simp; done) | omega) ag_impl_Mapping rfl flt ?_)
                | ((with_reducible (show wpList _ _ _ (Oper.mk (some 8) (Op.alloc _) _ _ _ _ :: _) _ _)); refine wpList_alloc_st (o := ⟨some 8, .alloc _, _, _, _, _⟩) rfl _ rfl zc_impl_Mapping HS ?_; clear HS; intro w8 b8 hb8 HS)
                | ((with_reducible (show wpList _ _ _ (Oper.mk none (Op.store _ (.tmp 8) _) _ _ _ _ :: _) _ _)); refine wpList_store_st (o := ⟨none, .store _ (.tmp 8) _, _, _, _, _⟩) rfl _ _ _ rfl rfl (v := .agg (List.toArray _)) rfl HS tk sz_impl_Mapping vcs rfx rfx (by simp) ?_ rfl; clear HS; intro w3_5 hz3_5 HS; simp only [nicL, Value.cells, List.append_nil] at HS)
                | ((with_reducible (show wpList _ _ _ (Oper.mk (some 17) (Op.load _ _) _ _ _ _ :: _) _ _)); refine wpList_loadS_st (o := ⟨some 17, .load _ _, _, _, _, _⟩) rfl _ _ rfl rfl HS tk sc_int rfx ?_))
          go_roundw
          case rel => exact ⟨k + 1, hlt, hno2.out, by go_num, (HS.arr (by repeat (first | exact Arr.nil | (with_reducible exact take_all _) | (refine Arr.cons tk ?_) | (refine arr_skip ?_))))⟩
          case measure => simp [intOf]; omega
    case neg =>
      have HM : Hid (mpIdx l d vv = -1) := hid (mpIdx_no fun j g => hno.out j g (by omega))
      go_wp2
      go_ret
      exact ⟨ret_int HM.out.symm, HS.ex⟩

def mapGood (l : List Mp) (k : Nat) : Prop := ∀ h : k < l.length, MapFine l[k] ∧ ∀ j (g : j < k), ¬ ((l[j]'(by omega)).1 = l[k].1 ∧ (l[j]'(by omega)).2.1 = l[k].2.1)
theorem mapsOk_bad {l : List Mp} {k : Nat} (hk : k < l.length) (h : ¬ mapGood l k) : mapsOk l = false := mapsOk_not fun hh => h fun hk => hh.2 k hk
theorem mapsOk_all {l : List Mp} (h : ∀ k, k < l.length → mapGood l k) : mapsOk l = decide ((l.length : Int) ≤ 96) := by
  by_cases h9 : l.length ≤ 96
  · rw [mapsOk_iff.2 ⟨h9, fun i hi => h i hi hi⟩, decide_eq_true (by omega)]
  · rw [mapsOk_not (fun hh => h9 hh.1), decide_eq_false (by omega)]
theorem all_step {k : Nat} {Q : Nat → Prop} (h : ∀ j, j < k → Q j) (hk : Q k) : ∀ j, j < k + 1 → Q j := fun j g => by
  rcases Nat.lt_or_ge j k with h2 | h2
  · exact h j h2
  · obtain rfl : j = k := by omega
    exact hk
theorem all_stepG {n k : Nat} {Q : ∀ j, j < n → Prop} (h : ∀ j (g : j < n), j < k → Q j g) (hk : ∀ g : k < n, Q k g) : ∀ j (g : j < n), j < k + 1 → Q j g := fun j g g2 => by
  rcases Nat.lt_or_ge j k with h2 | h2
  · exact h j g h2
  · obtain rfl : j = k := by omega
    exact hk g
theorem mapsOk_long {l : List Mp} (h : 96 < l.length) : mapsOk l = false := mapsOk_not fun hh => by have := hh.1; omega
theorem mapGood_no1 {l : List Mp} {k : Nat} {a b c : Int} {e : Bool} (hk : k < l.length) (hx : l[k] = (a, b, c, e)) (h : inB a 0 7 = false ∨ inB b 0 1023 = false ∨ inB c 0 63 = false ∨ ∃ j, ∃ g : j < k, (l[j]'(by omega)).1 = a ∧ (l[j]'(by omega)).2.1 = b) : ¬ mapGood l k := by
  intro hg
  obtain ⟨⟨h1, h2, h3⟩, h4⟩ := hg hk
  rw [hx] at h1 h2 h3 h4
  rcases h with h | h | h | ⟨j, g, h⟩
  · rw [inB_not] at h; simp only at h1; omega
  · rw [inB_not] at h; simp only at h2; omega
  · rw [inB_not] at h; simp only at h3; omega
  · exact h4 j g h
theorem mapGood_yes {l : List Mp} {k : Nat} {a b c : Int} {e : Bool} (hk : k < l.length) (hx : l[k] = (a, b, c, e)) (h1 : inB a 0 7 = true) (h2 : inB b 0 1023 = true) (h3 : inB c 0 63 = true) (h4 : ∀ j (g : j < k), ¬ ((l[j]'(by omega)).1 = a ∧ (l[j]'(by omega)).2.1 = b)) : mapGood l k := by
  intro _
  rw [hx]
  exact ⟨⟨inB_iff.1 h1, inB_iff.1 h2, inB_iff.1 h3⟩, h4⟩
theorem mapGood_idx {l : List Mp} {k : Nat} {a b c : Int} {e : Bool} (hk : k < l.length) (hx : l[k] = (a, b, c, e)) : (mpIdx l a b != (k : Int)) = false ↔ ∀ j (g : j < k), ¬ ((l[j]'(by omega)).1 = a ∧ (l[j]'(by omega)).2.1 = b) := by
  have := mpIdx_self hk
  rw [hx] at this
  rw [← this]; simp

set_option maxRecDepth 100000 in
set_option maxHeartbeats 4000000 in
theorem mappingsOk_any (v : Value) (l : List Mp) (w : World) (k1 : Holds w l [v]) :
    Calls Try.prog 147 #[v] w fun e w' => e = .returned (.bool (mapsOk l)) ∧ Ex w w' := by
  obtain ⟨AA, cap, rfl, z1, z2⟩ := k1.fl
  unfold maxLen at z2
  have HS := St.start w
  go_enter Try.func147, Try.ntmps147
  go_wp2
  go_loopw [7] (fun i wr => ∃ k : Nat, k ≤ l.length ∧ (∀ j, j < k → mapGood l j) ∧ i = .int .i64 k ∧ St w wr []) (fun i _ => l.length - (intOf i).toNat)
  case atStart => exact ⟨0, Nat.zero_le _, fun j g => by omega, rfl, (HS.arr (by repeat (first | exact Arr.nil | (with_reducible exact take_all _) | (refine Arr.cons tk ?_) | (refine arr_skip ?_))))⟩
  case round =>
    clear HS
    obtain ⟨k, hkl, hno, rfl, HS⟩ := hrel
    replace hno := hid hno
    by_cases hlt : k < l.length
    case pos =>
      obtain ⟨b, off, rfl⟩ := k1.flA (by omega)
      have HK := hid (List.getElem?_eq_getElem hlt)
      generalize hx : l[k] = x at *
      obtain ⟨xd, xv, xp, xw⟩ := x
      have HX := hid hx
      clear hx
      cases h1 : inB xd 0 7
      case false =>
        have HM : Hid (mapsOk l = false) := hid (mapsOk_bad hlt (mapGood_no1 hlt HX.out (.inl h1)))
        have H1 := hid h1
        clear h1
        go_wp2_with (first
              | (go_at_call 62; (first | (with_reducible refine (between_v H1.out _).mono ?_) | (with_reducible refine (between_v H2.out _).mono ?_) | (with_reducible refine (between_v H3.out _).mono ?_)); rintro e w' ⟨rfl, rfl⟩)
              | ((with_reducible (show wpList _ _ _ (Oper.mk (some 11) (Op.load _ _) _ _ _ _ :: _) _ _)); refine wpList_loadH (o := ⟨some 11, .load _ _, _, _, _, _⟩) rfl _ _ rfl rfl HS (fun _ hs => k1.ex hs.ex) HK.out (by first | rfl | (simp; done) | omega) ag_impl_Mapping rfl flt ?_)
              | ((with_reducible (show wpList _ _ _ (Oper.mk (some 4) (Op.alloc _) _ _ _ _ :: _) _ _)); refine wpList_alloc_st (o := ⟨some 4, .alloc _, _, _, _, _⟩) rfl _ rfl zc_impl_Mapping HS ?_; clear HS; intro w4 b4 hb4 HS)
              | ((with_reducible (show wpList _ _ _ (Oper.mk none (Op.store _ (.tmp 4) _) _ _ _ _ :: _) _ _)); refine wpList_store_st (o := ⟨none, .store _ (.tmp 4) _, _, _, _, _⟩) rfl _ _ _ rfl rfl (v := .agg (List.toArray _)) rfl HS tk sz_impl_Mapping vcs rfx rfx (by simp) ?_ rfl; clear HS; intro w3_5 hz3_5 HS; simp only [nicL, Value.cells, List.append_nil] at HS)
              | ((with_reducible (show wpList _ _ _ (Oper.mk (some 13) (Op.load _ _) _ _ _ _ :: _) _ _)); refine wpList_loadS_st (o := ⟨some 13, .load _ _, _, _, _, _⟩) rfl _ _ rfl rfl HS tk sc_int rfx ?_))
        go_ret
        exact ⟨ret_bool HM.out.symm, HS.ex⟩
      case true =>
      cases h2 : inB xv 0 1023
      case false =>
        have HM : Hid (mapsOk l = false) := hid (mapsOk_bad hlt (mapGood_no1 hlt HX.out (.inr (.inl h2))))
        have H1 := hid h1
        have H2 := hid h2
        clear h1 h2
        go_wp2_with (first
              | (go_at_call 62; (first | (with_reducible refine (between_v H1.out _).mono ?_) | (with_reducible refine (between_v H2.out _).mono ?_) | (with_reducible refine (between_v H3.out _).mono ?_)); rintro e w' ⟨rfl, rfl⟩)
              | ((with_reducible (show wpList _ _ _ (Oper.mk (some 11) (Op.load _ _) _ _ _ _ :: _) _ _)); refine wpList_loadH (o := ⟨some 11, .load _ _, _, _, _, _⟩) rfl _ _ rfl rfl HS (fun _ hs => k1.ex hs.ex) HK.out (by first | rfl | (simp; done) | omega) ag_impl_Mapping rfl flt ?_)
              | ((with_reducible (show wpList _ _ _ (Oper.mk (some 4) (Op.alloc _) _ _ _ _ :: _) _ _)); refine wpList_alloc_st (o := ⟨some 4, .alloc _, _, _, _, _⟩) rfl _ rfl zc_impl_Mapping HS ?_; clear HS; intro w4 b4 hb4 HS)
              | ((with_reducible (show wpList _ _ _ (Oper.mk none (Op.store _ (.tmp 4) _) _ _ _ _ :: _) _ _)); refine wpList_store_st (o := ⟨none, .store _ (.tmp 4) _, _, _, _, _⟩) rfl _ _ _ rfl rfl (v := .agg (List.toArray _)) rfl HS tk sz_impl_Mapping vcs rfx rfx (by simp) ?_ rfl; clear HS; intro w3_5 hz3_5 HS; simp only [nicL, Value.cells, List.append_nil] at HS)
              | ((with_reducible (show wpList _ _ _ (Oper.mk (some 13) (Op.load _ _) _ _ _ _ :: _) _ _)); refine wpList_loadS_st (o := ⟨some 13, .load _ _, _, _, _, _⟩) rfl _ _ rfl rfl HS tk sc_int rfx ?_)
              | ((with_reducible (show wpList _ _ _ (Oper.mk (some 18) (Op.load _ _) _ _ _ _ :: _) _ _)); refine wpList_loadS_st (o := ⟨some 18, .load _ _, _, _, _, _⟩) rfl _ _ rfl rfl HS tk sc_int rfx ?_))
        go_ret
        exact ⟨ret_bool HM.out.symm, HS.ex⟩
      case true =>
      cases h3 : inB xp 0 63
      case false =>
        have HM : Hid (mapsOk l = false) := hid (mapsOk_bad hlt (mapGood_no1 hlt HX.out (.inr (.inr (.inl h3)))))
        have H1 := hid h1
        have H2 := hid h2
        have H3 := hid h3
        clear h1 h2 h3
        go_wp2_with (first
              | (go_at_call 62; (first | (with_reducible refine (between_v H1.out _).mono ?_) | (with_reducible refine (between_v H2.out _).mono ?_) | (with_reducible refine (between_v H3.out _).mono ?_)); rintro e w' ⟨rfl, rfl⟩)
              | ((with_reducible (show wpList _ _ _ (Oper.mk (some 11) (Op.load _ _) _ _ _ _ :: _) _ _)); refine wpList_loadH (o := ⟨some 11, .load _ _, _, _, _, _⟩) rfl _ _ rfl rfl HS (fun _ hs => k1.ex hs.ex) HK.out (by first | rfl | (simp; done) | omega) ag_impl_Mapping rfl flt ?_)
              | ((with_reducible (show wpList _ _ _ (Oper.mk (some 4) (Op.alloc _) _ _ _ _ :: _) _ _)); refine wpList_alloc_st (o := ⟨some 4, .alloc _, _, _, _, _⟩) rfl _ rfl zc_impl_Mapping HS ?_; clear HS; intro w4 b4 hb4 HS)
              | ((with_reducible (show wpList _ _ _ (Oper.mk none (Op.store _ (.tmp 4) _) _ _ _ _ :: _) _ _)); refine wpList_store_st (o := ⟨none, .store _ (.tmp 4) _, _, _, _, _⟩) rfl _ _ _ rfl rfl (v := .agg (List.toArray _)) rfl HS tk sz_impl_Mapping vcs rfx rfx (by simp) ?_ rfl; clear HS; intro w3_5 hz3_5 HS; simp only [nicL, Value.cells, List.append_nil] at HS)
              | ((with_reducible (show wpList _ _ _ (Oper.mk (some 13) (Op.load _ _) _ _ _ _ :: _) _ _)); refine wpList_loadS_st (o := ⟨some 13, .load _ _, _, _, _, _⟩) rfl _ _ rfl rfl HS tk sc_int rfx ?_)
              | ((with_reducible (show wpList _ _ _ (Oper.mk (some 18) (Op.load _ _) _ _ _ _ :: _) _ _)); refine wpList_loadS_st (o := ⟨some 18, .load _ _, _, _, _, _⟩) rfl _ _ rfl rfl HS tk sc_int rfx ?_)
              | ((with_reducible (show wpList _ _ _ (Oper.mk (some 24) (Op.load _ _) _ _ _ _ :: _) _ _)); refine wpList_loadS_st (o := ⟨some 24, .load _ _, _, _, _, _⟩) rfl _ _ rfl rfl HS tk sc_int rfx ?_))
        go_ret
        exact ⟨ret_bool HM.out.symm, HS.ex⟩
      case true =>
      cases h4 : (mpIdx l xd xv != (k : Int))
      case true =>
        have HM : Hid (mapsOk l = false) := hid (mapsOk_bad hlt (fun hg => by
          have := (mapGood_idx hlt HX.out).2 (fun j g hj => (hg hlt).2 j g (by rw [HX.out]; exact hj))
          rw [h4] at this; cases this))
        have H1 := hid h1
        have H2 := hid h2
        have H3 := hid h3
        clear h1 h2 h3
        go_wp2_with (first
              | (go_at_call 62; (first | (with_reducible refine (between_v H1.out _).mono ?_) | (with_reducible refine (between_v H2.out _).mono ?_) | (with_reducible refine (between_v H3.out _).mono ?_)); rintro e w' ⟨rfl, rfl⟩)
              | (go_at_call 159; (with_reducible refine (pageMapping_any _ l xd xv _ (k1.ex HS.ex)).mono ?_); rintro e w' ⟨rfl, hx⟩; replace HS := HS.grow hx; clear hx)
              | ((with_reducible (show wpList _ _ _ (Oper.mk (some 11) (Op.load _ _) _ _ _ _ :: _) _ _)); refine wpList_loadH (o := ⟨some 11, .load _ _, _, _, _, _⟩) rfl _ _ rfl rfl HS (fun _ hs => k1.ex hs.ex) HK.out (by first | rfl | (simp; done) | omega) ag_impl_Mapping rfl flt ?_)
              | ((with_reducible (show wpList _ _ _ (Oper.mk (some 4) (Op.alloc _) _ _ _ _ :: _) _ _)); refine wpList_alloc_st (o := ⟨some 4, .alloc _, _, _, _, _⟩) rfl _ rfl zc_impl_Mapping HS ?_; clear HS; intro w4 b4 hb4 HS)
              | ((with_reducible (show wpList _ _ _ (Oper.mk none (Op.store _ (.tmp 4) _) _ _ _ _ :: _) _ _)); refine wpList_store_st (o := ⟨none, .store _ (.tmp 4) _, _, _, _, _⟩) rfl _ _ _ rfl rfl (v := .agg (List.toArray _)) rfl HS tk sz_impl_Mapping vcs rfx rfx (by simp) ?_ rfl; clear HS; intro w3_5 hz3_5 HS; simp only [nicL, Value.cells, List.append_nil] at HS)
              | ((with_reducible (show wpList _ _ _ (Oper.mk (some 13) (Op.load _ _) _ _ _ _ :: _) _ _)); refine wpList_loadS_st (o := ⟨some 13, .load _ _, _, _, _, _⟩) rfl _ _ rfl rfl HS tk sc_int rfx ?_)
              | ((with_reducible (show wpList _ _ _ (Oper.mk (some 18) (Op.load _ _) _ _ _ _ :: _) _ _)); refine wpList_loadS_st (o := ⟨some 18, .load _ _, _, _, _, _⟩) rfl _ _ rfl rfl HS tk sc_int rfx ?_)
              | ((with_reducible (show wpList _ _ _ (Oper.mk (some 24) (Op.load _ _) _ _ _ _ :: _) _ _)); refine wpList_loadS_st (o := ⟨some 24, .load _ _, _, _, _, _⟩) rfl _ _ rfl rfl HS tk sc_int rfx ?_)
              | ((with_reducible (show wpList _ _ _ (Oper.mk (some 31) (Op.load _ _) _ _ _ _ :: _) _ _)); refine wpList_loadS_st (o := ⟨some 31, .load _ _, _, _, _, _⟩) rfl _ _ rfl rfl HS tk sc_int rfx ?_)
              | ((with_reducible (show wpList _ _ _ (Oper.mk (some 33) (Op.load _ _) _ _ _ _ :: _) _ _)); refine wpList_loadS_st (o := ⟨some 33, .load _ _, _, _, _, _⟩) rfl _ _ rfl rfl HS tk sc_int rfx ?_))
        go_ret
        exact ⟨ret_bool HM.out.symm, HS.ex⟩
      case false =>
        have HG : Hid (mapGood l k) := hid (mapGood_yes hlt HX.out h1 h2 h3 ((mapGood_idx hlt HX.out).1 h4))
        have H1 := hid h1
        have H2 := hid h2
        have H3 := hid h3
        clear h1 h2 h3
        go_wp2_with (first
              | (go_at_call 62; (first | (with_reducible refine (between_v H1.out _).mono ?_) | (with_reducible refine (between_v H2.out _).mono ?_) | (with_reducible refine (between_v H3.out _).mono ?_)); rintro e w' ⟨rfl, rfl⟩)
              | (go_at_call 159; (with_reducible refine (pageMapping_any _ l xd xv _ (k1.ex HS.ex)).mono ?_); rintro e w' ⟨rfl, hx⟩; replace HS := HS.grow hx; clear hx)
              | ((with_reducible (show wpList _ _ _ (Oper.mk (some 11) (Op.load _ _) _ _ _ _ :: _) _ _)); refine wpList_loadH (o := ⟨some 11, .load _ _, _, _, _, _⟩) rfl _ _ rfl rfl HS (fun _ hs => k1.ex hs.ex) HK.out (by first | rfl | (simp; done) | omega) ag_impl_Mapping rfl flt ?_)
              | ((with_reducible (show wpList _ _ _ (Oper.mk (some 4) (Op.alloc _) _ _ _ _ :: _) _ _)); refine wpList_alloc_st (o := ⟨some 4, .alloc _, _, _, _, _⟩) rfl _ rfl zc_impl_Mapping HS ?_; clear HS; intro w4 b4 hb4 HS)
              | ((with_reducible (show wpList _ _ _ (Oper.mk none (Op.store _ (.tmp 4) _) _ _ _ _ :: _) _ _)); refine wpList_store_st (o := ⟨none, .store _ (.tmp 4) _, _, _, _, _⟩) rfl _ _ _ rfl rfl (v := .agg (List.toArray _)) rfl HS tk sz_impl_Mapping vcs rfx rfx (by simp) ?_ rfl; clear HS; intro w3_5 hz3_5 HS; simp only [nicL, Value.cells, List.append_nil] at HS)
              | ((with_reducible (show wpList _ _ _ (Oper.mk (some 13) (Op.load _ _) _ _ _ _ :: _) _ _)); refine wpList_loadS_st (o := ⟨some 13, .load _ _, _, _, _, _⟩) rfl _ _ rfl rfl HS tk sc_int rfx ?_)
              | ((with_reducible (show wpList _ _ _ (Oper.mk (some 18) (Op.load _ _) _ _ _ _ :: _) _ _)); refine wpList_loadS_st (o := ⟨some 18, .load _ _, _, _, _, _⟩) rfl _ _ rfl rfl HS tk sc_int rfx ?_)
              | ((with_reducible (show wpList _ _ _ (Oper.mk (some 24) (Op.load _ _) _ _ _ _ :: _) _ _)); refine wpList_loadS_st (o := ⟨some 24, .load _ _, _, _, _, _⟩) rfl _ _ rfl rfl HS tk sc_int rfx ?_)
              | ((with_reducible (show wpList _ _ _ (Oper.mk (some 31) (Op.load _ _) _ _ _ _ :: _) _ _)); refine wpList_loadS_st (o := ⟨some 31, .load _ _, _, _, _, _⟩) rfl _ _ rfl rfl HS tk sc_int rfx ?_)
              | ((with_reducible (show wpList _ _ _ (Oper.mk (some 33) (Op.load _ _) _ _ _ _ :: _) _ _)); refine wpList_loadS_st (o := ⟨some 33, .load _ _, _, _, _, _⟩) rfl _ _ rfl rfl HS tk sc_int rfx ?_))
        go_roundw
        case rel => exact ⟨k + 1, hlt, all_step hno.out HG.out, by go_num, (HS.arr (by repeat (first | exact Arr.nil | (with_reducible exact take_all _) | (refine Arr.cons tk ?_) | (refine arr_skip ?_))))⟩
        case measure => simp [intOf]; omega
    case neg =>
      have HM : Hid (mapsOk l = decide ((l.length : Int) ≤ 96)) := hid (mapsOk_all fun j g => hno.out j (by omega))
      go_wp2
      go_ret
      exact ⟨ret_bool HM.out.symm, HS.ex⟩

def noUse (wt : Bool) (m : Mp) : Prop := wt = true ∧ m.2.2.2 = false

set_option maxRecDepth 100000 in
set_option maxHeartbeats 4000000 in
theorem l17Page_any (v : Value) (l : List Mp) (d vv : Int) (wt : Bool) (w : World) (k1 : Holds w l [v]) (hm : MapsOk l) :
    Calls Try.prog 152 #[v, .int .i64 d, .int .i64 vv, .bool wt] w fun e w' => e = .returned (.int .i64 (mpPage l d vv wt)) ∧ Ex w w' := by
  obtain ⟨AA, cap, rfl, z1, z2⟩ := k1.fl
  unfold maxLen at z2
  replace hm := hid hm
  have HS := St.start w
  go_enter Try.func152, Try.ntmps152
  go_wp2
  go_loopw [9] (fun i wr => ∃ k : Nat, k ≤ l.length ∧ (∀ j (g : j < l.length), j < k → hit l[j] d vv = true → noUse wt l[j]) ∧ i = .int .i64 k ∧ St w wr []) (fun i _ => l.length - (intOf i).toNat)
  case atStart => exact ⟨0, Nat.zero_le _, fun j _ g => by omega, rfl, (HS.arr (by repeat (first | exact Arr.nil | (with_reducible exact take_all _) | (refine Arr.cons tk ?_) | (refine arr_skip ?_))))⟩
  case round =>
    clear HS
    obtain ⟨k, hkl, hno, rfl, HS⟩ := hrel
    replace hno := hid hno
    by_cases hlt : k < l.length
    case pos =>
      obtain ⟨b, off, rfl⟩ := k1.flA (by omega)
      have HK := hid (List.getElem?_eq_getElem hlt)
      generalize hx : l[k] = x at *
      obtain ⟨xd, xv, xp, xw⟩ := x
      have HX := hid hx
      clear hx
      by_cases e1 : xd = d
      case neg =>
        have HE := hid e1
        have e3 : (xd == d) = false := beq_eq_false_iff_ne.2 e1
        clear e1
        go_wp2_with (first
              | ((with_reducible (show wpList _ _ _ (Oper.mk (some 20) (Op.load _ _) _ _ _ _ :: _) _ _)); refine wpList_loadHF (o := ⟨some 20, .load _ _, _, _, _, _⟩) rfl _ _ rfl rfl HS (fun _ hs => k1.ex hs.ex) HK.out 4 0 (by first | rfl | (simp; done) | omega) rfl (by decide) sc_int flt ?_))
        go_roundw
        case rel => exact ⟨k + 1, hlt, all_stepG hno.out (fun g hh => by rw [HX.out] at hh ⊢; exact absurd (hit_iff.1 hh).1 HE.out), by go_num, (HS.arr (by repeat (first | exact Arr.nil | (with_reducible exact take_all _) | (refine Arr.cons tk ?_) | (refine arr_skip ?_))))⟩
        case measure => simp [intOf]; omega
      case pos =>
      subst e1
      by_cases e2 : xv = vv
      case neg =>
        have HE := hid e2
        have e3 : (xv == vv) = false := beq_eq_false_iff_ne.2 e2
        clear e2
        go_wp2_with (first
              | ((with_reducible (show wpList _ _ _ (Oper.mk (some 20) (Op.load _ _) _ _ _ _ :: _) _ _)); refine wpList_loadHF (o := ⟨some 20, .load _ _, _, _, _, _⟩) rfl _ _ rfl rfl HS (fun _ hs => k1.ex hs.ex) HK.out 4 0 (by first | rfl | (simp; done) | omega) rfl (by decide) sc_int flt ?_)
              | ((with_reducible (show wpList _ _ _ (Oper.mk (some 28) (Op.load _ _) _ _ _ _ :: _) _ _)); refine wpList_loadHF (o := ⟨some 28, .load _ _, _, _, _, _⟩) rfl _ _ rfl rfl HS (fun _ hs => k1.ex hs.ex) HK.out 4 1 (by first | rfl | (simp; done) | omega) rfl (by decide) sc_int flt ?_))
        go_roundw
        case rel => exact ⟨k + 1, hlt, all_stepG hno.out (fun g hh => by rw [HX.out] at hh ⊢; exact absurd (hit_iff.1 hh).2 HE.out), by go_num, (HS.arr (by repeat (first | exact Arr.nil | (with_reducible exact take_all _) | (refine Arr.cons tk ?_) | (refine arr_skip ?_))))⟩
        case measure => simp [intOf]; omega
      case pos =>
      subst e2
      have HP : Hid (mpPage l xd xv wt = if wt && !xw then -1 else xp) := hid (by have := mpPage_unique hm.out hlt (d := xd) (v := xv) (by rw [HX.out]; simp [hit]) wt; rw [HX.out] at this; exact this)
      cases xw
      case true =>
        have HM : Hid (mpPage l xd xv wt = xp) := hid (by rw [HP.out]; simp)
        go_wp2_with (first
              | ((with_reducible (show wpList _ _ _ (Oper.mk (some 20) (Op.load _ _) _ _ _ _ :: _) _ _)); refine wpList_loadHF (o := ⟨some 20, .load _ _, _, _, _, _⟩) rfl _ _ rfl rfl HS (fun _ hs => k1.ex hs.ex) HK.out 4 0 (by first | rfl | (simp; done) | omega) rfl (by decide) sc_int flt ?_)
              | ((with_reducible (show wpList _ _ _ (Oper.mk (some 28) (Op.load _ _) _ _ _ _ :: _) _ _)); refine wpList_loadHF (o := ⟨some 28, .load _ _, _, _, _, _⟩) rfl _ _ rfl rfl HS (fun _ hs => k1.ex hs.ex) HK.out 4 1 (by first | rfl | (simp; done) | omega) rfl (by decide) sc_int flt ?_)
              | ((with_reducible (show wpList _ _ _ (Oper.mk (some 37) (Op.load _ _) _ _ _ _ :: _) _ _)); refine wpList_loadHF (o := ⟨some 37, .load _ _, _, _, _, _⟩) rfl _ _ rfl rfl HS (fun _ hs => k1.ex hs.ex) HK.out 4 3 (by first | rfl | (simp; done) | omega) rfl (by decide) sc_bool flt ?_)
              | ((with_reducible (show wpList _ _ _ (Oper.mk (some 47) (Op.load _ _) _ _ _ _ :: _) _ _)); refine wpList_loadHF (o := ⟨some 47, .load _ _, _, _, _, _⟩) rfl _ _ rfl rfl HS (fun _ hs => k1.ex hs.ex) HK.out 4 2 (by first | rfl | (simp; done) | omega) rfl (by decide) sc_int flt ?_))
        go_ret
        exact ⟨ret_int HM.out.symm, HS.ex⟩
      case false =>
      cases wt
      case false =>
        have HM : Hid (mpPage l xd xv false = xp) := hid (by rw [HP.out]; simp)
        go_wp2_with (first
              | ((with_reducible (show wpList _ _ _ (Oper.mk (some 20) (Op.load _ _) _ _ _ _ :: _) _ _)); refine wpList_loadHF (o := ⟨some 20, .load _ _, _, _, _, _⟩) rfl _ _ rfl rfl HS (fun _ hs => k1.ex hs.ex) HK.out 4 0 (by first | rfl | (simp; done) | omega) rfl (by decide) sc_int flt ?_)
              | ((with_reducible (show wpList _ _ _ (Oper.mk (some 28) (Op.load _ _) _ _ _ _ :: _) _ _)); refine wpList_loadHF (o := ⟨some 28, .load _ _, _, _, _, _⟩) rfl _ _ rfl rfl HS (fun _ hs => k1.ex hs.ex) HK.out 4 1 (by first | rfl | (simp; done) | omega) rfl (by decide) sc_int flt ?_)
              | ((with_reducible (show wpList _ _ _ (Oper.mk (some 37) (Op.load _ _) _ _ _ _ :: _) _ _)); refine wpList_loadHF (o := ⟨some 37, .load _ _, _, _, _, _⟩) rfl _ _ rfl rfl HS (fun _ hs => k1.ex hs.ex) HK.out 4 3 (by first | rfl | (simp; done) | omega) rfl (by decide) sc_bool flt ?_)
              | ((with_reducible (show wpList _ _ _ (Oper.mk (some 47) (Op.load _ _) _ _ _ _ :: _) _ _)); refine wpList_loadHF (o := ⟨some 47, .load _ _, _, _, _, _⟩) rfl _ _ rfl rfl HS (fun _ hs => k1.ex hs.ex) HK.out 4 2 (by first | rfl | (simp; done) | omega) rfl (by decide) sc_int flt ?_))
        go_ret
        exact ⟨ret_int HM.out.symm, HS.ex⟩
      case true =>
        go_wp2_with (first
              | ((with_reducible (show wpList _ _ _ (Oper.mk (some 20) (Op.load _ _) _ _ _ _ :: _) _ _)); refine wpList_loadHF (o := ⟨some 20, .load _ _, _, _, _, _⟩) rfl _ _ rfl rfl HS (fun _ hs => k1.ex hs.ex) HK.out 4 0 (by first | rfl | (simp; done) | omega) rfl (by decide) sc_int flt ?_)
              | ((with_reducible (show wpList _ _ _ (Oper.mk (some 28) (Op.load _ _) _ _ _ _ :: _) _ _)); refine wpList_loadHF (o := ⟨some 28, .load _ _, _, _, _, _⟩) rfl _ _ rfl rfl HS (fun _ hs => k1.ex hs.ex) HK.out 4 1 (by first | rfl | (simp; done) | omega) rfl (by decide) sc_int flt ?_)
              | ((with_reducible (show wpList _ _ _ (Oper.mk (some 37) (Op.load _ _) _ _ _ _ :: _) _ _)); refine wpList_loadHF (o := ⟨some 37, .load _ _, _, _, _, _⟩) rfl _ _ rfl rfl HS (fun _ hs => k1.ex hs.ex) HK.out 4 3 (by first | rfl | (simp; done) | omega) rfl (by decide) sc_bool flt ?_))
        go_roundw
        case rel => exact ⟨k + 1, hlt, all_stepG hno.out (fun g hh => by rw [HX.out] at hh ⊢; exact ⟨rfl, rfl⟩), by go_num, (HS.arr (by repeat (first | exact Arr.nil | (with_reducible exact take_all _) | (refine Arr.cons tk ?_) | (refine arr_skip ?_))))⟩
        case measure => simp [intOf]; omega
    case neg =>
      have HM : Hid (mpPage l d vv wt = -1) := hid (by
        rcases mp_first l d vv with h | ⟨i, hi, h1, h2⟩
        · exact mpPage_no h wt
        · have := hno.out i hi (by omega) h2
          rw [mpPage_at hi h1 h2, this.1, this.2]; rfl)
      go_wp2
      go_ret
      exact ⟨ret_int HM.out.symm, HS.ex⟩

set_option maxRecDepth 100000 in
set_option maxHeartbeats 4000000 in
theorem mappingsOkS_any (v : Value) (l : List Mp) (w : World) (k1 : Holds w l [v]) :
    Calls Try.prog 142 #[v] w fun e w' => e = .returned (.bool (mapsOk l)) ∧ Ex w w' := by
  obtain ⟨AA, cap, rfl, z1, z2⟩ := k1.fl
  unfold maxLen at z2
  by_cases h9 : 96 < l.length
  case pos =>
    have HM : Hid (mapsOk l = false) := hid (mapsOk_long h9)
    have HS := St.start w
    go_enter Try.func142, Try.ntmps142
    go_wp2
    go_ret
    exact ⟨ret_bool HM.out.symm, HS.ex⟩
  case neg =>
  have HS := St.start w
  go_enter Try.func142, Try.ntmps142
  go_wp2
  go_loopw [3] (fun i wr => ∃ k : Nat, k ≤ l.length ∧ (∀ j, j < k → mapGood l j) ∧ i = .int .i64 k ∧ St w wr []) (fun i _ => l.length - (intOf i).toNat)
  case atStart => exact ⟨0, Nat.zero_le _, fun j g => by omega, rfl, (HS.arr (by repeat (first | exact Arr.nil | (with_reducible exact take_all _) | (refine Arr.cons tk ?_) | (refine arr_skip ?_))))⟩
  case round =>
    clear HS
    obtain ⟨k, hkl, hno, rfl, HS⟩ := hrel
    replace hno := hid hno
    by_cases hlt : k < l.length
    case pos =>
      obtain ⟨b, off, rfl⟩ := k1.flA (by omega)
      have HK := hid (List.getElem?_eq_getElem hlt)
      generalize hx : l[k] = x at *
      obtain ⟨xd, xv, xp, xw⟩ := x
      have HX := hid hx
      clear hx
      cases h1 : inB xd 0 7
      case false =>
        have HM : Hid (mapsOk l = false) := hid (mapsOk_bad hlt (mapGood_no1 hlt HX.out (.inl h1)))
        have H1 := hid h1
        clear h1
        go_wp2_with (first
              | (go_at_call 123; (first | (with_reducible refine (l01In_v H1.out _).mono ?_) | (with_reducible refine (l01In_v H2.out _).mono ?_) | (with_reducible refine (l01In_v H3.out _).mono ?_)); rintro e w' ⟨rfl, rfl⟩)
              | ((with_reducible (show wpList _ _ _ (Oper.mk (some 18) (Op.load _ _) _ _ _ _ :: _) _ _)); refine wpList_loadH (o := ⟨some 18, .load _ _, _, _, _, _⟩) rfl _ _ rfl rfl HS (fun _ hs => k1.ex hs.ex) HK.out (by first | rfl | (simp; done) | omega) ag_impl_Mapping rfl flt ?_)
              | ((with_reducible (show wpList _ _ _ (Oper.mk (some 4) (Op.alloc _) _ _ _ _ :: _) _ _)); refine wpList_alloc_st (o := ⟨some 4, .alloc _, _, _, _, _⟩) rfl _ rfl zc_impl_Mapping HS ?_; clear HS; intro w4 b4 hb4 HS)
              | ((with_reducible (show wpList _ _ _ (Oper.mk none (Op.store _ (.tmp 4) _) _ _ _ _ :: _) _ _)); refine wpList_store_st (o := ⟨none, .store _ (.tmp 4) _, _, _, _, _⟩) rfl _ _ _ rfl rfl (v := .agg (List.toArray _)) rfl HS tk sz_impl_Mapping vcs rfx rfx (by simp) ?_ rfl; clear HS; intro w6_5 hz6_5 HS; simp only [nicL, Value.cells, List.append_nil] at HS)
              | ((with_reducible (show wpList _ _ _ (Oper.mk (some 20) (Op.load _ _) _ _ _ _ :: _) _ _)); refine wpList_loadS_st (o := ⟨some 20, .load _ _, _, _, _, _⟩) rfl _ _ rfl rfl HS tk sc_int rfx ?_))
        go_ret
        exact ⟨ret_bool HM.out.symm, HS.ex⟩
      case true =>
      cases h2 : inB xv 0 1023
      case false =>
        have HM : Hid (mapsOk l = false) := hid (mapsOk_bad hlt (mapGood_no1 hlt HX.out (.inr (.inl h2))))
        have H1 := hid h1
        have H2 := hid h2
        clear h1 h2
        go_wp2_with (first
              | (go_at_call 123; (first | (with_reducible refine (l01In_v H1.out _).mono ?_) | (with_reducible refine (l01In_v H2.out _).mono ?_) | (with_reducible refine (l01In_v H3.out _).mono ?_)); rintro e w' ⟨rfl, rfl⟩)
              | ((with_reducible (show wpList _ _ _ (Oper.mk (some 18) (Op.load _ _) _ _ _ _ :: _) _ _)); refine wpList_loadH (o := ⟨some 18, .load _ _, _, _, _, _⟩) rfl _ _ rfl rfl HS (fun _ hs => k1.ex hs.ex) HK.out (by first | rfl | (simp; done) | omega) ag_impl_Mapping rfl flt ?_)
              | ((with_reducible (show wpList _ _ _ (Oper.mk (some 4) (Op.alloc _) _ _ _ _ :: _) _ _)); refine wpList_alloc_st (o := ⟨some 4, .alloc _, _, _, _, _⟩) rfl _ rfl zc_impl_Mapping HS ?_; clear HS; intro w4 b4 hb4 HS)
              | ((with_reducible (show wpList _ _ _ (Oper.mk none (Op.store _ (.tmp 4) _) _ _ _ _ :: _) _ _)); refine wpList_store_st (o := ⟨none, .store _ (.tmp 4) _, _, _, _, _⟩) rfl _ _ _ rfl rfl (v := .agg (List.toArray _)) rfl HS tk sz_impl_Mapping vcs rfx rfx (by simp) ?_ rfl; clear HS; intro w6_5 hz6_5 HS; simp only [nicL, Value.cells, List.append_nil] at HS)
              | ((with_reducible (show wpList _ _ _ (Oper.mk (some 20) (Op.load _ _) _ _ _ _ :: _) _ _)); refine wpList_loadS_st (o := ⟨some 20, .load _ _, _, _, _, _⟩) rfl _ _ rfl rfl HS tk sc_int rfx ?_)
              | ((with_reducible (show wpList _ _ _ (Oper.mk (some 25) (Op.load _ _) _ _ _ _ :: _) _ _)); refine wpList_loadS_st (o := ⟨some 25, .load _ _, _, _, _, _⟩) rfl _ _ rfl rfl HS tk sc_int rfx ?_))
        go_ret
        exact ⟨ret_bool HM.out.symm, HS.ex⟩
      case true =>
      cases h3 : inB xp 0 63
      case false =>
        have HM : Hid (mapsOk l = false) := hid (mapsOk_bad hlt (mapGood_no1 hlt HX.out (.inr (.inr (.inl h3)))))
        have H1 := hid h1
        have H2 := hid h2
        have H3 := hid h3
        clear h1 h2 h3
        go_wp2_with (first
              | (go_at_call 123; (first | (with_reducible refine (l01In_v H1.out _).mono ?_) | (with_reducible refine (l01In_v H2.out _).mono ?_) | (with_reducible refine (l01In_v H3.out _).mono ?_)); rintro e w' ⟨rfl, rfl⟩)
              | ((with_reducible (show wpList _ _ _ (Oper.mk (some 18) (Op.load _ _) _ _ _ _ :: _) _ _)); refine wpList_loadH (o := ⟨some 18, .load _ _, _, _, _, _⟩) rfl _ _ rfl rfl HS (fun _ hs => k1.ex hs.ex) HK.out (by first | rfl | (simp; done) | omega) ag_impl_Mapping rfl flt ?_)
              | ((with_reducible (show wpList _ _ _ (Oper.mk (some 4) (Op.alloc _) _ _ _ _ :: _) _ _)); refine wpList_alloc_st (o := ⟨some 4, .alloc _, _, _, _, _⟩) rfl _ rfl zc_impl_Mapping HS ?_; clear HS; intro w4 b4 hb4 HS)
              | ((with_reducible (show wpList _ _ _ (Oper.mk none (Op.store _ (.tmp 4) _) _ _ _ _ :: _) _ _)); refine wpList_store_st (o := ⟨none, .store _ (.tmp 4) _, _, _, _, _⟩) rfl _ _ _ rfl rfl (v := .agg (List.toArray _)) rfl HS tk sz_impl_Mapping vcs rfx rfx (by simp) ?_ rfl; clear HS; intro w6_5 hz6_5 HS; simp only [nicL, Value.cells, List.append_nil] at HS)
              | ((with_reducible (show wpList _ _ _ (Oper.mk (some 20) (Op.load _ _) _ _ _ _ :: _) _ _)); refine wpList_loadS_st (o := ⟨some 20, .load _ _, _, _, _, _⟩) rfl _ _ rfl rfl HS tk sc_int rfx ?_)
              | ((with_reducible (show wpList _ _ _ (Oper.mk (some 25) (Op.load _ _) _ _ _ _ :: _) _ _)); refine wpList_loadS_st (o := ⟨some 25, .load _ _, _, _, _, _⟩) rfl _ _ rfl rfl HS tk sc_int rfx ?_)
              | ((with_reducible (show wpList _ _ _ (Oper.mk (some 31) (Op.load _ _) _ _ _ _ :: _) _ _)); refine wpList_loadS_st (o := ⟨some 31, .load _ _, _, _, _, _⟩) rfl _ _ rfl rfl HS tk sc_int rfx ?_))
        go_ret
        exact ⟨ret_bool HM.out.symm, HS.ex⟩
      case true =>
        have H1 := hid h1
        have H2 := hid h2
        have H3 := hid h3
        clear h1 h2 h3
        go_wp2_with (first
              | (go_at_call 123; (first | (with_reducible refine (l01In_v H1.out _).mono ?_) | (with_reducible refine (l01In_v H2.out _).mono ?_) | (with_reducible refine (l01In_v H3.out _).mono ?_)); rintro e w' ⟨rfl, rfl⟩)
              | ((with_reducible (show wpList _ _ _ (Oper.mk (some 18) (Op.load _ _) _ _ _ _ :: _) _ _)); refine wpList_loadH (o := ⟨some 18, .load _ _, _, _, _, _⟩) rfl _ _ rfl rfl HS (fun _ hs => k1.ex hs.ex) HK.out (by first | rfl | (simp; done) | omega) ag_impl_Mapping rfl flt ?_)
              | ((with_reducible (show wpList _ _ _ (Oper.mk (some 4) (Op.alloc _) _ _ _ _ :: _) _ _)); refine wpList_alloc_st (o := ⟨some 4, .alloc _, _, _, _, _⟩) rfl _ rfl zc_impl_Mapping HS ?_; clear HS; intro w4 b4 hb4 HS)
              | ((with_reducible (show wpList _ _ _ (Oper.mk none (Op.store _ (.tmp 4) _) _ _ _ _ :: _) _ _)); refine wpList_store_st (o := ⟨none, .store _ (.tmp 4) _, _, _, _, _⟩) rfl _ _ _ rfl rfl (v := .agg (List.toArray _)) rfl HS tk sz_impl_Mapping vcs rfx rfx (by simp) ?_ rfl; clear HS; intro w6_5 hz6_5 HS; simp only [nicL, Value.cells, List.append_nil] at HS)
              | ((with_reducible (show wpList _ _ _ (Oper.mk (some 20) (Op.load _ _) _ _ _ _ :: _) _ _)); refine wpList_loadS_st (o := ⟨some 20, .load _ _, _, _, _, _⟩) rfl _ _ rfl rfl HS tk sc_int rfx ?_)
              | ((with_reducible (show wpList _ _ _ (Oper.mk (some 25) (Op.load _ _) _ _ _ _ :: _) _ _)); refine wpList_loadS_st (o := ⟨some 25, .load _ _, _, _, _, _⟩) rfl _ _ rfl rfl HS tk sc_int rfx ?_)
              | ((with_reducible (show wpList _ _ _ (Oper.mk (some 31) (Op.load _ _) _ _ _ _ :: _) _ _)); refine wpList_loadS_st (o := ⟨some 31, .load _ _, _, _, _, _⟩) rfl _ _ rfl rfl HS tk sc_int rfx ?_))
        obtain ⟨wo, rfl⟩ : ∃ wo : World, wo = wr := ⟨_, rfl⟩
        go_loopw [5] (fun i wr => ∃ n : Nat, n ≤ k ∧ (∀ j (g : j < l.length), j < n → ¬ (l[j].1 = xd ∧ l[j].2.1 = xv)) ∧ i = .int .i64 n ∧ St w wr [rowA b4 [.int .i64 xd, .int .i64 xv, .int .i64 xp, .bool xw] 33]) (fun i _ => k - (intOf i).toNat)
        case atStart => exact ⟨0, Nat.zero_le _, fun j _ g => by omega, rfl, (HS.arr (by repeat (first | exact Arr.nil | (with_reducible exact take_all _) | (refine Arr.cons tk ?_) | (refine arr_skip ?_))))⟩
        case round =>
          clear HS
          obtain ⟨n, hnk, hn2, rfl, HS⟩ := hrel
          replace hn2 := hid hn2
          by_cases hln : n < k
          case pos =>
            have hnl : n < l.length := by omega
            have HK2 := hid (List.getElem?_eq_getElem hnl)
            generalize hy : l[n] = y at *
            obtain ⟨yd, yv, yp, yw⟩ := y
            have HY := hid hy
            clear hy
            by_cases e1 : yd = xd
            case neg =>
              have HE := hid e1
              have e3 : (yd == xd) = false := beq_eq_false_iff_ne.2 e1
              clear e1
              go_wp2
              refine wp_region_plan_st HS (.early 0 (.early 1 (.early 2 (.early 3 (.early 4 (.forced 5 1 (.forced 6 1 (.forced 7 1 (.forced 8 1 (.early 9 (.early 10 (.early 11 (.early 12 (.early 13 (.forced 14 1 (.forced 15 1 (.forced 16 2 (.forced 17 2 .done)))))))))))))))))) (by kernel_rfl) (by as_aux_lemma => kernel_rfl) ?_
              intro hne
              replace HS := HS.drew
              try go_simp
              repeat' (first
                | (with_reducible refine wpPlan_forced ?_)
                | ((with_reducible (first | (show wpPlan _ _ _ _ (.early 0 _) _ _) | (show wpPlan _ _ _ _ (.early 1 _) _ _) | (show wpPlan _ _ _ _ (.early 2 _) _ _) | (show wpPlan _ _ _ _ (.early 3 _) _ _) | (show wpPlan _ _ _ _ (.early 9 _) _ _) | (show wpPlan _ _ _ _ (.early 10 _) _ _) | (show wpPlan _ _ _ _ (.early 11 _) _ _) | (show wpPlan _ _ _ _ (.early 12 _) _ _))); (first | (refine wpPlan_skipE rfl rfl ?_; (try go_simp)) | (refine wpPlan_early rfl rfl ?_; intro K hK; (first | go_big_quiet_op); (first | go_big_quiet_on | (refine ⟨_, fun _ => rfl, ?_⟩; go_big_quiet_on)))))
                | ((with_reducible ((show wpPlan _ _ _ _ (.early 4 _) _ _))); (first | (refine wpPlan_skipE rfl rfl ?_; (try go_simp)) | (refine wpPlan_early rfl rfl ?_; intro K hK; (first | ((refine quiet_loadHF  _ _ rfl rfl (fun _ hs => k1.ex hs.ex) HK2.out 4 0 (by first | rfl | (simp; done) | omega) rfl (by decide) sc_int flt ?_); (try go_simp)) | go_big_quiet_op); (first | go_big_quiet_on | (refine ⟨_, fun _ => rfl, ?_⟩; go_big_quiet_on)))))
                | ((with_reducible (first | (show wpOne _ _ _ _ 5 1 _ _ _) | (show wpOne _ _ _ _ 7 1 _ _ _) | (show wpOne _ _ _ _ 8 1 _ _ _) | (show wpOne _ _ _ _ 14 1 _ _ _))); (first | (refine wpOne_skip rfl rfl ?_; (try go_simp)) | (refine wpOne_1 rfl rfl ?_; intro K hK; go_simp; refine hK _ _ ?_ ?_; (focus (exact stw HS)); clear hK K)))
                | ((with_reducible (first | (show wpOne _ _ _ _ 6 1 _ _ _) | (show wpOne _ _ _ _ 15 1 _ _ _))); (first | (refine wpOne_skip rfl rfl ?_; (try go_simp)) | (refine wpOne_1 rfl rfl ?_; intro K hK; (first | (refine wp_loadS_st  _ _ rfl rfl HS tk sc_int rfx ?_)); (try go_simp); refine hK _ _ ?_ ?_; (focus (exact stw HS)); clear hK K)))
                | ((with_reducible ((show wpPlan _ _ _ _ (.early 13 _) _ _))); (first | (refine wpPlan_skipE rfl rfl ?_; (try go_simp)) | (refine wpPlan_early rfl rfl ?_; intro K hK; (first | ((refine quiet_loadHF  _ _ rfl rfl (fun _ hs => k1.ex hs.ex) HK2.out 4 1 (by first | rfl | (simp; done) | omega) rfl (by decide) sc_int flt ?_); (try go_simp)) | go_big_quiet_op); (first | go_big_quiet_on | (refine ⟨_, fun _ => rfl, ?_⟩; go_big_quiet_on)))))
                | ((with_reducible (first | (show wpOne _ _ _ _ 16 2 _ _ _) | (show wpOne _ _ _ _ 17 2 _ _ _))); (first | (refine wpOne_skip rfl rfl ?_; (try go_simp)) | (refine wpOne_2 rfl rfl ?_; intro K hK; go_simp; refine hK _ _ ?_; clear hK K)))
                | (with_reducible refine wpPlan_done ?_))
              go_wp2
              go_roundw
              case rel => exact ⟨n + 1, hln, all_stepG hn2.out (fun g hh => by rw [HY.out] at hh; exact HE.out hh.1), by go_num, (HS.arr (by repeat (first | exact Arr.nil | (with_reducible exact take_all _) | (refine Arr.cons tk ?_) | (refine arr_skip ?_))))⟩
              case measure => simp [intOf]; omega
            case pos =>
            have e3 : (yd == xd) = true := beq_iff_eq.2 e1
            have HE1 := hid e1
            clear e1
            by_cases e2 : yv = xv
            case neg =>
              have HE := hid e2
              have e4 : (yv == xv) = false := beq_eq_false_iff_ne.2 e2
              clear e2
              go_wp2
              refine wp_region_plan_st HS (.early 0 (.early 1 (.early 2 (.early 3 (.early 4 (.forced 5 1 (.forced 6 1 (.forced 7 1 (.forced 8 1 (.early 9 (.early 10 (.early 11 (.early 12 (.early 13 (.forced 14 1 (.forced 15 1 (.forced 16 2 (.forced 17 2 .done)))))))))))))))))) (by kernel_rfl) (by as_aux_lemma => kernel_rfl) ?_
              intro hne
              replace HS := HS.drew
              try go_simp
              repeat' (first
                | (with_reducible refine wpPlan_forced ?_)
                | ((with_reducible (first | (show wpPlan _ _ _ _ (.early 0 _) _ _) | (show wpPlan _ _ _ _ (.early 1 _) _ _) | (show wpPlan _ _ _ _ (.early 2 _) _ _) | (show wpPlan _ _ _ _ (.early 3 _) _ _) | (show wpPlan _ _ _ _ (.early 9 _) _ _) | (show wpPlan _ _ _ _ (.early 10 _) _ _) | (show wpPlan _ _ _ _ (.early 11 _) _ _) | (show wpPlan _ _ _ _ (.early 12 _) _ _))); (first | (refine wpPlan_skipE rfl rfl ?_; (try go_simp)) | (refine wpPlan_early rfl rfl ?_; intro K hK; (first | go_big_quiet_op); (first | go_big_quiet_on | (refine ⟨_, fun _ => rfl, ?_⟩; go_big_quiet_on)))))
                | ((with_reducible ((show wpPlan _ _ _ _ (.early 4 _) _ _))); (first | (refine wpPlan_skipE rfl rfl ?_; (try go_simp)) | (refine wpPlan_early rfl rfl ?_; intro K hK; (first | ((refine quiet_loadHF  _ _ rfl rfl (fun _ hs => k1.ex hs.ex) HK2.out 4 0 (by first | rfl | (simp; done) | omega) rfl (by decide) sc_int flt ?_); (try go_simp)) | go_big_quiet_op); (first | go_big_quiet_on | (refine ⟨_, fun _ => rfl, ?_⟩; go_big_quiet_on)))))
                | ((with_reducible (first | (show wpOne _ _ _ _ 5 1 _ _ _) | (show wpOne _ _ _ _ 7 1 _ _ _) | (show wpOne _ _ _ _ 8 1 _ _ _) | (show wpOne _ _ _ _ 14 1 _ _ _))); (first | (refine wpOne_skip rfl rfl ?_; (try go_simp)) | (refine wpOne_1 rfl rfl ?_; intro K hK; go_simp; refine hK _ _ ?_ ?_; (focus (exact stw HS)); clear hK K)))
                | ((with_reducible (first | (show wpOne _ _ _ _ 6 1 _ _ _) | (show wpOne _ _ _ _ 15 1 _ _ _))); (first | (refine wpOne_skip rfl rfl ?_; (try go_simp)) | (refine wpOne_1 rfl rfl ?_; intro K hK; (first | (refine wp_loadS_st  _ _ rfl rfl HS tk sc_int rfx ?_)); (try go_simp); refine hK _ _ ?_ ?_; (focus (exact stw HS)); clear hK K)))
                | ((with_reducible ((show wpPlan _ _ _ _ (.early 13 _) _ _))); (first | (refine wpPlan_skipE rfl rfl ?_; (try go_simp)) | (refine wpPlan_early rfl rfl ?_; intro K hK; (first | ((refine quiet_loadHF  _ _ rfl rfl (fun _ hs => k1.ex hs.ex) HK2.out 4 1 (by first | rfl | (simp; done) | omega) rfl (by decide) sc_int flt ?_); (try go_simp)) | go_big_quiet_op); (first | go_big_quiet_on | (refine ⟨_, fun _ => rfl, ?_⟩; go_big_quiet_on)))))
                | ((with_reducible (first | (show wpOne _ _ _ _ 16 2 _ _ _) | (show wpOne _ _ _ _ 17 2 _ _ _))); (first | (refine wpOne_skip rfl rfl ?_; (try go_simp)) | (refine wpOne_2 rfl rfl ?_; intro K hK; go_simp; refine hK _ _ ?_; clear hK K)))
                | (with_reducible refine wpPlan_done ?_))
              go_wp2
              go_roundw
              case rel => exact ⟨n + 1, hln, all_stepG hn2.out (fun g hh => by rw [HY.out] at hh; exact HE.out hh.2), by go_num, (HS.arr (by repeat (first | exact Arr.nil | (with_reducible exact take_all _) | (refine Arr.cons tk ?_) | (refine arr_skip ?_))))⟩
              case measure => simp [intOf]; omega
            case pos =>
              have e4 : (yv == xv) = true := beq_iff_eq.2 e2
              have HM : Hid (mapsOk l = false) := hid (mapsOk_bad hlt (mapGood_no1 hlt HX.out (.inr (.inr (.inr ⟨n, hln, by rw [HY.out]; exact ⟨HE1.out, e2⟩⟩)))))
              clear e2
              go_wp2
              refine wp_region_plan_st HS (.early 0 (.early 1 (.early 2 (.early 3 (.early 4 (.forced 5 1 (.forced 6 1 (.forced 7 1 (.forced 8 1 (.early 9 (.early 10 (.early 11 (.early 12 (.early 13 (.forced 14 1 (.forced 15 1 (.forced 16 2 (.forced 17 2 .done)))))))))))))))))) (by kernel_rfl) (by as_aux_lemma => kernel_rfl) ?_
              intro hne
              replace HS := HS.drew
              try go_simp
              repeat' (first
                | (with_reducible refine wpPlan_forced ?_)
                | ((with_reducible (first | (show wpPlan _ _ _ _ (.early 0 _) _ _) | (show wpPlan _ _ _ _ (.early 1 _) _ _) | (show wpPlan _ _ _ _ (.early 2 _) _ _) | (show wpPlan _ _ _ _ (.early 3 _) _ _) | (show wpPlan _ _ _ _ (.early 9 _) _ _) | (show wpPlan _ _ _ _ (.early 10 _) _ _) | (show wpPlan _ _ _ _ (.early 11 _) _ _) | (show wpPlan _ _ _ _ (.early 12 _) _ _))); (first | (refine wpPlan_skipE rfl rfl ?_; (try go_simp)) | (refine wpPlan_early rfl rfl ?_; intro K hK; (first | go_big_quiet_op); (first | go_big_quiet_on | (refine ⟨_, fun _ => rfl, ?_⟩; go_big_quiet_on)))))
                | ((with_reducible ((show wpPlan _ _ _ _ (.early 4 _) _ _))); (first | (refine wpPlan_skipE rfl rfl ?_; (try go_simp)) | (refine wpPlan_early rfl rfl ?_; intro K hK; (first | ((refine quiet_loadHF  _ _ rfl rfl (fun _ hs => k1.ex hs.ex) HK2.out 4 0 (by first | rfl | (simp; done) | omega) rfl (by decide) sc_int flt ?_); (try go_simp)) | go_big_quiet_op); (first | go_big_quiet_on | (refine ⟨_, fun _ => rfl, ?_⟩; go_big_quiet_on)))))
                | ((with_reducible (first | (show wpOne _ _ _ _ 5 1 _ _ _) | (show wpOne _ _ _ _ 7 1 _ _ _) | (show wpOne _ _ _ _ 8 1 _ _ _) | (show wpOne _ _ _ _ 14 1 _ _ _))); (first | (refine wpOne_skip rfl rfl ?_; (try go_simp)) | (refine wpOne_1 rfl rfl ?_; intro K hK; go_simp; refine hK _ _ ?_ ?_; (focus (exact stw HS)); clear hK K)))
                | ((with_reducible (first | (show wpOne _ _ _ _ 6 1 _ _ _) | (show wpOne _ _ _ _ 15 1 _ _ _))); (first | (refine wpOne_skip rfl rfl ?_; (try go_simp)) | (refine wpOne_1 rfl rfl ?_; intro K hK; (first | (refine wp_loadS_st  _ _ rfl rfl HS tk sc_int rfx ?_)); (try go_simp); refine hK _ _ ?_ ?_; (focus (exact stw HS)); clear hK K)))
                | ((with_reducible ((show wpPlan _ _ _ _ (.early 13 _) _ _))); (first | (refine wpPlan_skipE rfl rfl ?_; (try go_simp)) | (refine wpPlan_early rfl rfl ?_; intro K hK; (first | ((refine quiet_loadHF  _ _ rfl rfl (fun _ hs => k1.ex hs.ex) HK2.out 4 1 (by first | rfl | (simp; done) | omega) rfl (by decide) sc_int flt ?_); (try go_simp)) | go_big_quiet_op); (first | go_big_quiet_on | (refine ⟨_, fun _ => rfl, ?_⟩; go_big_quiet_on)))))
                | ((with_reducible (first | (show wpOne _ _ _ _ 16 2 _ _ _) | (show wpOne _ _ _ _ 17 2 _ _ _))); (first | (refine wpOne_skip rfl rfl ?_; (try go_simp)) | (refine wpOne_2 rfl rfl ?_; intro K hK; go_simp; refine hK _ _ ?_; clear hK K)))
                | (with_reducible refine wpPlan_done ?_))
              go_wp2
              go_ret
              exact ⟨ret_bool HM.out.symm, HS.ex⟩
          case neg =>
            have HG : Hid (mapGood l k) := hid (mapGood_yes hlt HX.out H1.out H2.out H3.out (fun j g => hn2.out j (by omega) (by omega)))
            go_wp2
            go_roundw
            case rel => exact ⟨k + 1, hlt, all_step hno.out HG.out, by go_num, (HS.arr (by repeat (first | exact Arr.nil | (with_reducible exact take_all _) | (refine Arr.cons tk ?_) | (refine arr_skip ?_))))⟩
            case measure => simp [intOf]; omega
    case neg =>
      have HM : Hid (mapsOk l = true) := hid (by rw [mapsOk_all fun j g => hno.out j (by omega)]; exact decide_eq_true (by omega))
      go_wp2
      go_ret
      exact ⟨ret_bool HM.out.symm, HS.ex⟩

end Go.Proofs.Ytelkplponnfkpaa

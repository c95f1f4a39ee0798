/- The marks of a Fair. -/
import Derived.Test.YtpnhoallpaanoaaRows
import Derived.Test.YtpnhoallpaanoaaSepM
import Derived.Test.YtpnhoallpaanoaaFairP
import Derived.Test.YtpnhoallpaanoaaHeld
import Derived.Test.YtpnhoallpaanoaaTy
namespace Go.Proofs.Ytpnhoallpaanoaa
open Go.RowKit
set_option linter.unusedVariables false
set_option linter.unusedSimpArgs false


set_option maxRecDepth 100000 in
set_option maxHeartbeats 2000000 in
theorem markIntSS_any (v : Value) (xs : List (List Int)) (bs : List Nat) (k : Int) (w : World) (ht : Rep.tree w xs [v] bs) (hn : bs.Nodup) (hf : ∀ b ∈ bs, ∀ o, w.frozen? ⟨b, o, none⟩ = false) (k0 : 0 ≤ k) (k1 : k + totL xs ≤ 4611686018427387904) :
    Calls Try.prog 68 #[v, .int .i64 k] w (Marked w (markSS xs k) [v] bs (k + totL xs)) := by
  have HT0 := hid ht
  obtain ⟨a, cap, hv, h1, h2, h3⟩ := ht
  simp only [List.cons.injEq, and_true] at hv
  subst hv
  unfold maxLen at h2
  rcases h3 with ⟨rfl, rfl⟩ | ⟨b, off, cur, E, fr, ts, ds, rfl, hp, hb, hs, hbs, he⟩
  · have hxs : xs = [] := List.eq_nil_of_length_eq_zero (by omega)
    subst hxs
    go_enter Try.func68, Try.ntmps68
    go_wp2
    go_loop [1, 5] (fun q i => q = .int .i64 k ∧ i = .int .i64 0) (fun _ _ => 0)
    case atStart => exact ⟨rfl, rfl⟩
    case round =>
      obtain ⟨rfl, rfl⟩ := hrel
      go_wp2
      go_ret
      exact ⟨fun _ => default, ⟨#[], w.drawn⟩, ret_int (by simp [totL]), by rw [World.upd_self _ _ _ (fun b hb => by cases hb)]; exact w.self_is_plus, ⟨_, _, rfl, by simp [markSS], by decide, .inl ⟨rfl, rfl⟩⟩, fun b hb => by cases hb⟩
  · have HF := hid hf
    have HN := hid hn
    have HBS := hid hbs
    have HS := hid hs
    have HB := hid hb
    have hm0 : MidSS w w bs b xs k 0 ts ds := ⟨rfl, rfl, rfl, Nat.le_refl _, fun _ _ _ => rfl, rfl, fun c hc => ⟨Rep.lt HT0.out c hc, hf c hc⟩, fun j hj => by rw [if_neg (by omega)]; exact (he j hj).1⟩
    have HE := hid he
    clear hf hn hbs hs hb he
    go_enter Try.func68, Try.ntmps68
    go_wp2
    go_loopw [1, 5] (fun q i wr => ∃ j : Nat, j ≤ xs.length ∧ q = .int .i64 (k + preL xs j) ∧ i = .int .i64 j ∧ MidSS w wr bs b xs k j ts ds) (fun _ i _ => xs.length - (intOf i).toNat)
    case atStart => exact ⟨0, Nat.zero_le _, by simp [preL_zero], rfl, hm0⟩
    case round =>
      clear hm0
      obtain ⟨j, hj, rfl, rfl, hm⟩ := hrel
      by_cases hlt : j < xs.length
      · have hps := preL_succ xs j hlt
        have hpl := preL_le xs (j + 1)
        have htj := hm.2.2.2.2.2.2.2 j hlt
        rw [if_neg (by omega)] at htj
        obtain ⟨a3, c3, e3, m3⟩ := Rep.form1 htj
        have hcell : w.cell? ⟨b, off + j, none⟩ = some (.slice a3 (xs[j]).length c3) := by
          have := (HE.out j hlt).2 0 (by decide)
          rw [cell_row HB.out]
          simp only [Rep.size, Nat.mul_one, Nat.add_zero] at this
          rw [this, e3]; rfl
        have hcell2 : wr.cell? ⟨b, off + j, none⟩ = some (.slice a3 (xs[j]).length c3) := by
          rw [← hcell]; simp only [World.cell?, hm.2.2.2.2.2.1]
        have HM := hid hm
        have HT := hid htj
        have HP := hid hps
        have H3 := hid e3
        clear hm htj hcell e3 m3
        rw [hps] at hpl
        go_wp2_with fail
        refine (markIntS_any _ xs[j] (ds j) (k + preL xs j) _ (by rw [← H3.out]; exact HT.out) (fun c hc => (HM.out.2.2.2.2.2.2.1 c (by rw [HBS.out]; exact List.mem_cons_of_mem _ (List.mem_flatMap.2 ⟨j, List.mem_range.2 hlt, hc⟩))).2) (by omega) (by omega)).mono ?_
        rintro e w' ⟨f, g, rfl, hw, ht2, hf2⟩
        have HW := hid hw
        have HT2 := hid ht2
        have HF2 := hid hf2
        clear hw ht2 hf2
        go_wp2
        go_roundw
        case rel => exact ⟨j + 1, by omega, by rw [HP.out]; go_num, by go_num, HM.out.step hlt HBS.out HN.out HW.out (by rw [H3.out]; exact HT2.out) HF2.out⟩
        case measure => simp [intOf]; omega
      · obtain rfl : j = xs.length := by omega
        rw [preL_all]
        obtain ⟨g1, g2, g3, g4, g5, g6, g7, g8⟩ := hm
        have hfin : ∃ f g, wr = (w.upd bs f).plus g := World.as_upd bs g1 g2 g3 g4 g5
        obtain ⟨f, g, hw⟩ := hfin
        have HW := hid hw
        have G6 := hid g6
        have G7 := hid g7
        have G8 := hid g8
        clear hw g5 g6 g7 g8
        go_wp2
        go_ret
        refine ⟨f, g, rfl, HW.out, ⟨some ⟨b, off, none⟩, cap, by rw [markSS_length], by rw [markSS_length]; exact h1, by unfold maxLen; exact h2, .inr ⟨b, off, cur, E, fr, ts, ds, rfl, hp, by rw [G6.out]; exact HB.out, HS.out, by rw [markSS_length]; exact HBS.out, fun i hi => ?_⟩⟩, fun c hc => (G7.out c hc).2⟩
        have hi' : i < xs.length := by rwa [markSS_length] at hi
        refine ⟨?_, (HE.out i hi').2⟩
        rw [markSS_get xs k i hi hi']
        have := G8.out i hi'
        rwa [if_pos hi'] at this


set_option maxRecDepth 100000 in
set_option maxHeartbeats 2000000 in
theorem heldIntSS_any (v : Value) (xs : List (List Int)) (k : Int) (w : World) (k1 : Holds w (markSS xs k) [v]) (h0 : 0 ≤ k) (h1 : k + totL xs ≤ 4611686018427387904) :
    Calls Try.prog 69 #[v, .int .i64 k] w fun e w' => e = .returned (.int .i64 (k + totL xs)) ∧ w = w' := by
  obtain ⟨a, cap, hv, m1, m2, m3⟩ := k1.slices
  simp only [List.cons.injEq, and_true] at hv
  subst hv
  rw [markSS_length] at m1 ⊢
  unfold maxLen at m2
  have M3 := hid m3
  clear k1 m3
  go_enter Try.func69, Try.ntmps69
  go_wp2
  go_loop [1, 5] (fun q i => ∃ j : Nat, j ≤ xs.length ∧ q = .int .i64 (k + preL xs j) ∧ i = .int .i64 j) (fun _ i => xs.length - (intOf i).toNat)
  case atStart => exact ⟨0, Nat.zero_le _, by simp [preL_zero], rfl⟩
  case round =>
    obtain ⟨j, hj, rfl, rfl⟩ := hrel
    by_cases hlt : j < xs.length
    · obtain ⟨b, off, a', cap', rfl, hc, hh⟩ := M3.out j (by rw [markSS_length]; exact hlt)
      rw [markSS_get xs k j (by rw [markSS_length]; exact hlt) hlt] at hc hh
      rw [marks_length] at hc hh
      have hps := preL_succ xs j hlt
      have hpl := preL_le xs (j + 1)
      rw [hps] at hpl
      have HP := hid hps
      clear hps
      go_wp2_with (go_at_call 38; (with_reducible refine (heldIntS_any _ (xs[j]).length (k + preL xs j) _ hh (by omega) (by omega)).mono ?_); rintro e w' ⟨rfl, rfl⟩)
      go_round
      case rel => exact ⟨j + 1, by omega, by rw [HP.out]; go_num, by go_num⟩
      case measure => simp [intOf]; omega
    · obtain rfl : j = xs.length := by omega
      rw [preL_all]
      go_wp2
      go_ret
      exact ⟨rfl, rfl⟩


set_option maxRecDepth 100000 in
set_option maxHeartbeats 2000000 in
theorem markFair_st {w0 w : World} {Is Js Ks : List Asn} (v1 v2 : Value) (qs : List (List Int)) (ds : List Int) (qu tu : Int) (fr : Bool) (k : Int) (HS : St w0 w Is) (t1 : Take Is (ownA qs [v1]) Js) (t2 : Take Js (ownA ds [v2]) Ks) (k0 : 0 ≤ k) (k1 : k + totL qs + ds.length ≤ 4611686018427387904) :
    Calls Try.prog 26 #[.agg #[v1, v2, .int .i64 qu, .int .i64 tu, .bool fr], .int .i64 k] w fun e w' => e = .returned (.int .i64 (k + totL qs + ds.length)) ∧ St w0 w' (ownA (markSS qs k) [v1] :: ownA (marks ds.length (k + totL qs)) [v2] :: Ks) := by
  replace HS := HS.take2 t1 t2
  obtain ⟨a1, c1, rfl⟩ := ownA.form HS .head
  obtain ⟨a2, c2, rfl⟩ := ownA.form HS (.tail .head)
  clear t1 t2
  go_enter Try.func26, Try.ntmps26
  go_wp2_with (first
      | (go_at_call 68; (with_reducible refine (HS.marked (by repeat (first | exact Take.head | apply Take.tail)) (fun bs t1 t2 t3 => markIntSS_any _ qs bs k _ t1 t2 t3 k0 (by omega))).mono ?_); rintro e w8 ⟨rfl, HS8⟩; clear HS; have HS := HS8; clear HS8)
      | (go_at_call 37; (with_reducible refine (HS.marked (by repeat (first | exact Take.head | apply Take.tail)) (fun bs t1 t2 t3 => markIntS_any _ ds bs (k + totL qs) _ t1 t3 (by omega) (by omega))).mono ?_); rintro e w9 ⟨rfl, HS9⟩; clear HS; have HS := HS9; clear HS9)
      | (refine wpList_box_st (o := ⟨some 2, .box _ _, _, _, _, _⟩) rfl _ _ rfl (v := .agg (List.toArray _)) rfl HS ?_; clear HS; intro w2 b2 hb2 HS; simp only [Value.cells] at HS)
      | (refine wpList_box_st (o := ⟨some 2, .box _ _, _, _, _, _⟩) rfl _ _ rfl (v := .agg _) rfl HS ?_; clear HS; intro w2 b2 hb2 HS; simp only [Value.cells] at HS)
      | (refine wpList_loadS_st (o := ⟨some 6, .load _ _, _, _, _, _⟩) rfl _ _ rfl rfl HS (by repeat (first | exact Take.head | apply Take.tail)) sc_SSint (by rfl) ?_)
      | (refine wpList_loadS_st (o := ⟨some 10, .load _ _, _, _, _, _⟩) rfl _ _ rfl rfl HS (by repeat (first | exact Take.head | apply Take.tail)) sc_Sint (by rfl) ?_))
  go_ret
  exact ⟨rfl, HS.arr (.cons (.tail .head) (.cons .head (arr_drop _ _)))⟩


set_option maxRecDepth 100000 in
set_option maxHeartbeats 2000000 in
theorem heldFair_any (v1 v2 : Value) (qs : List (List Int)) (ds : List Int) (qu tu : Int) (fr : Bool) (k : Int) (w : World) (k1 : Holds w (markSS qs k) [v1]) (k2 : Holds w (marks ds.length (k + totL qs)) [v2]) (h0 : 0 ≤ k) (h1 : k + totL qs + ds.length ≤ 4611686018427387904) :
    Calls Try.prog 27 #[.agg #[v1, v2, .int .i64 qu, .int .i64 tu, .bool fr], .int .i64 k] w fun e w' => e = .returned (.int .i64 (k + totL qs + ds.length)) ∧ Ex w w' := by
  obtain ⟨a1, c1, hv, _⟩ := k1.slices
  obtain ⟨a2, c2, hv', _⟩ := k2.ints
  simp only [List.cons.injEq, and_true] at hv hv'
  subst hv hv'
  rw [markSS_length] at k1
  rw [marks_length] at k2
  simp only [markSS_length, marks_length]
  have HS := St.start w
  go_enter Try.func27, Try.ntmps27
  go_wp2_with (first
      | (go_at_call 69; (with_reducible refine (heldIntSS_any _ qs k _ (k1.ex HS.ex) h0 (by omega)).mono ?_); rintro e w8 ⟨rfl, rfl⟩)
      | (go_at_call 38; (with_reducible refine (heldIntS_any _ ds.length (k + totL qs) _ (k2.ex HS.ex) (by omega) (by omega)).mono ?_); rintro e w9 ⟨rfl, rfl⟩)
      | (refine wpList_box_st (o := ⟨some 2, .box _ _, _, _, _, _⟩) rfl _ _ rfl (v := .agg (List.toArray _)) rfl HS ?_; clear HS; intro w2 b2 hb2 HS; simp only [Value.cells] at HS)
      | (refine wpList_box_st (o := ⟨some 2, .box _ _, _, _, _, _⟩) rfl _ _ rfl (v := .agg _) rfl HS ?_; clear HS; intro w2 b2 hb2 HS; simp only [Value.cells] at HS)
      | (refine wpList_loadS_st (o := ⟨some 6, .load _ _, _, _, _, _⟩) rfl _ _ rfl rfl HS (by repeat (first | exact Take.head | apply Take.tail)) sc_SSint (by rfl) ?_)
      | (refine wpList_loadS_st (o := ⟨some 12, .load _ _, _, _, _, _⟩) rfl _ _ rfl rfl HS (by repeat (first | exact Take.head | apply Take.tail)) sc_Sint (by rfl) ?_))
  go_ret
  exact ⟨rfl, HS.ex⟩

end Go.Proofs.Ytpnhoallpaanoaa

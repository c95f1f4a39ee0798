/- Pools: whether one is valid, a buffer's address, copies: the program and the reference. -/
import Derived.Test.YtelkplponnfkpaaRows
import Derived.Test.YtelkplponnfkpaaRing
import Derived.Test.YtelkplponnfkpaaCopy
import Derived.Test.YtelkplponnfkpaaInts
import Derived.Test.YtelkplponnfkpaaElem
import Derived.Test.YtelkplponnfkpaaTk
namespace Go.Proofs.Ytelkplponnfkpaa
open Go.RowKit
set_option linter.unusedVariables false
set_option linter.unusedSimpArgs false

def poolB (b z c : Int) (fr : List Int) : Bool := inB b 0 130944 && inB z 1 512 && inB c 0 16 && fr.all (fun k => inB k 0 (c - 1)) && decide (fr.Pairwise (· ≠ ·))
def seenF (n : Nat) (xs : List Int) : List Bool := (List.range n).map fun i : Nat => xs.contains (i : Int)
theorem seenF_length (n : Nat) (xs : List Int) : (seenF n xs).length = n := by simp [seenF]
theorem seenF_nil (n : Nat) : seenF n [] = List.replicate n false := by
  apply List.ext_getElem <;> simp [seenF]
theorem seenF_get {n i : Nat} (xs : List Int) (h : i < n) : (seenF n xs)[i]? = some (xs.contains (i : Int)) := by simp [seenF, h]
theorem seenF_set {n i : Nat} (xs : List Int) (h : i < n) : (seenF n xs).set i true = seenF n (xs ++ [(i : Int)]) := by
  apply List.ext_getElem
  · simp [seenF]
  · intro j h1 h2
    simp only [seenF, List.getElem_set, List.getElem_map, List.getElem_range]
    by_cases e : i = j
    · subst e; simp
    · rw [if_neg e]
      simp only [List.contains_append, List.contains_cons, List.contains_nil, Bool.or_false]
      have : ((j : Int) == (i : Int)) = false := by simp; omega
      rw [this, Bool.or_false]
def poolG (n : Nat) (fr : List Int) (k : Nat) : Prop := (∀ x ∈ fr.take k, inB x 0 ((n : Int) - 1) = true) ∧ (fr.take k).Pairwise (· ≠ ·)
theorem poolG_zero (n : Nat) (fr : List Int) : poolG n fr 0 := by simp [poolG]
theorem poolG_step {n : Nat} {fr : List Int} {k : Nat} {x : Int} (hk : k < fr.length) (hx : fr[k] = x) (g : poolG n fr k) (h1 : inB x 0 ((n : Int) - 1) = true) (h2 : (fr.take k).contains x = false) : poolG n fr (k + 1) := by
  unfold poolG
  rw [List.take_add_one, List.getElem?_eq_getElem hk, hx]
  refine ⟨fun y hy => ?_, ?_⟩
  · rcases List.mem_append.1 hy with hy | hy
    · exact g.1 y hy
    · rw [List.mem_singleton.1 hy]; exact h1
  · refine List.pairwise_append.2 ⟨g.2, by simp, fun a ha d hd => ?_⟩
    rw [List.mem_singleton.1 hd]
    rintro rfl
    have := List.contains_iff_mem.2 ha
    rw [h2] at this; cases this
theorem poolB_all {b z : Int} {n : Nat} {fr : List Int} (h0 : inB b 0 130944 = true) (h1 : inB z 1 512 = true) (h2 : inB (n : Int) 0 16 = true) (g : poolG n fr fr.length) : poolB b z n fr = true := by
  unfold poolG at g
  rw [List.take_length] at g
  simp only [poolB, h0, h1, h2, Bool.true_and, Bool.and_eq_true, List.all_eq_true, decide_eq_true_eq]
  exact ⟨g.1, g.2⟩
theorem poolB_range {b z c : Int} {fr : List Int} {k : Nat} {x : Int} (hk : k < fr.length) (hx : fr[k] = x) (h : inB x 0 (c - 1) = false) : poolB b z c fr = false := by
  rw [Bool.eq_false_iff]; intro hp
  simp only [poolB, Bool.and_eq_true, List.all_eq_true] at hp
  have := hp.1.2 _ (List.getElem_mem hk)
  rw [hx, h] at this; cases this
theorem poolB_dup {b z c : Int} {fr : List Int} {k : Nat} {x : Int} (hk : k < fr.length) (hx : fr[k] = x) (h : (fr.take k).contains x = true) : poolB b z c fr = false := by
  rw [Bool.eq_false_iff]; intro hp
  simp only [poolB, Bool.and_eq_true, decide_eq_true_eq] at hp
  have hn := hp.2
  rw [← List.take_append_drop k fr, List.drop_eq_getElem_cons hk, hx] at hn
  exact (List.pairwise_append.1 hn).2.2 x (List.contains_iff_mem.1 h) x (List.mem_cons_self ..) rfl
theorem poolB_facts {b z c : Int} {fr : List Int} (h : poolB b z c fr = true) : 0 ≤ b ∧ b ≤ 130944 ∧ 1 ≤ z ∧ z ≤ 512 ∧ 0 ≤ c ∧ c ≤ 16 ∧ ∀ k ∈ fr, 0 ≤ k ∧ k < c := by
  simp only [poolB, Bool.and_eq_true, inB_iff, List.all_eq_true] at h
  obtain ⟨⟨⟨⟨⟨h1, h2⟩, h3, h4⟩, h5, h6⟩, h7⟩, h8⟩ := h
  exact ⟨h1, h2, h3, h4, h5, h6, fun k hk => by have := h7 k hk; omega⟩
theorem poolB_len {b z c : Int} {fr : List Int} (h : poolB b z c fr = true) : fr.length ≤ 16 := by
  have hf := poolB_facts h
  simp only [poolB, Bool.and_eq_true, decide_eq_true_eq] at h
  have key : ∀ (n : Nat) (xs : List Int), xs.Pairwise (· ≠ ·) → (∀ k ∈ xs, 0 ≤ k ∧ k < (n : Int)) → xs.length ≤ n := by
    intro n
    induction n with
    | zero => intro xs _ hx; cases xs with
      | nil => simp
      | cons x xs => have := hx x (List.mem_cons_self ..); omega
    | succ n ih =>
      intro xs hp hx
      have h1 := ih (xs.filter (fun y => decide (y ≠ (n : Int)))) (hp.filter _) (fun k hk => by
        have hk2 := List.mem_filter.1 hk
        have := hx k hk2.1
        have := of_decide_eq_true hk2.2
        omega)
      have h2 : xs.length ≤ (xs.filter (fun y => decide (y ≠ (n : Int)))).length + 1 := by
        clear ih h1 hx
        induction xs with
        | nil => simp
        | cons x xs ih2 =>
          rw [List.pairwise_cons] at hp
          by_cases e : x = (n : Int)
          · have : xs.filter (fun y => decide (y ≠ (n : Int))) = xs := List.filter_eq_self.2 fun y hy => by
              have := hp.1 y hy
              simp only [decide_eq_true_eq]
              intro e2; exact this (e.trans e2.symm)
            rw [List.filter_cons_of_neg (by simp [e]), this]; simp
          · have := ih2 hp.2
            rw [List.filter_cons_of_pos (by simp [e])]
            simp only [List.length_cons] at this ⊢
            omega
      omega
  obtain ⟨_, _, _, _, c0, c1, hk⟩ := hf
  have := key c.toNat fr h.2 (fun k hm => by have := hk k hm; omega)
  omega
def RetPool (w : World) (b z c : Int) (fr : List Int) (e : Ending) (w' : World) : Prop := ∃ A k, e = .returned (.agg #[.int .i64 b, .int .i64 z, .int .i64 c, .slice A fr.length k]) ∧ Owns w.heap.size w' fr [.slice A fr.length k] ∧ Ex w w'
theorem retPool {w0 w : World} {Is Js : List Asn} {b z c : Int} {fr : List Int} {v : Value} (h : St w0 w Is) (t : Take Is (ownA fr [v]) Js) : RetPool w0 b z c fr (.returned (.agg #[.int .i64 b, .int .i64 z, .int .i64 c, v])) w := by
  obtain ⟨a, k, rfl⟩ := ownA.form h t
  exact ⟨a, k, rfl, h.owns t, h.ex⟩
theorem mul_bd {k z : Int} (h0 : 0 ≤ k) (h1 : k ≤ 15) (h2 : 1 ≤ z) (h3 : z ≤ 512) : 0 ≤ k * z ∧ k * z ≤ 7680 := by
  refine ⟨Int.mul_nonneg h0 (by omega), ?_⟩
  have h4 : k * z ≤ 15 * z := Int.mul_le_mul_of_nonneg_right h1 (by omega)
  omega

set_option maxRecDepth 100000 in
set_option maxHeartbeats 4000000 in
theorem poolOk_any (v : Value) (fr : List Int) (b z c : Int) (w : World) (k1 : Holds w fr [v]) :
    Calls Try.prog 101 #[.agg #[.int .i64 b, .int .i64 z, .int .i64 c, v]] w fun e w' => e = .returned (.bool (poolB b z c fr)) ∧ Ex w w' := by
  obtain ⟨AA, cap, rfl, z1, z2⟩ := k1.fl
  unfold maxLen at z2
  cases h1 : inB b 0 130944
  case false =>
    have HM : Hid (poolB b z c fr = false) := hid (by simp [poolB, h1])
    have H1 := hid h1
    clear h1
    have HS := St.start w
    go_enter Try.func101, Try.ntmps101
    go_wp2_with (first
          | (go_at_call 62; (first | (with_reducible refine (between_v H1.out _).mono ?_) | (with_reducible refine (between_v H2.out _).mono ?_) | (with_reducible refine (between_v H3.out _).mono ?_) | (with_reducible refine (between_v H4.out _).mono ?_)); rintro e w' ⟨rfl, rfl⟩)
          | ((with_reducible (show wpList _ _ _ (Oper.mk (some 1) (Op.box _ _) _ _ _ _ :: _) _ _)); refine wpList_box_st (o := ⟨some 1, .box _ _, _, _, _, _⟩) rfl _ _ rfl (v := .agg (List.toArray _)) rfl HS ?_; clear HS; intro w1 b1 hb1 HS; simp only [Value.cells] at HS)
          | ((with_reducible (show wpList _ _ _ (Oper.mk (some 7) (Op.load _ _) _ _ _ _ :: _) _ _)); refine wpList_loadS_st (o := ⟨some 7, .load _ _, _, _, _, _⟩) rfl _ _ rfl rfl HS tk sc_int rfx ?_))
    go_ret
    exact ⟨ret_bool HM.out.symm, HS.ex⟩
  case true =>
  cases h2 : inB z 1 512
  case false =>
    have HM : Hid (poolB b z c fr = false) := hid (by simp [poolB, h1, h2])
    have H1 := hid h1
    have H2 := hid h2
    clear h1 h2
    have HS := St.start w
    go_enter Try.func101, Try.ntmps101
    go_wp2_with (first
          | (go_at_call 62; (first | (with_reducible refine (between_v H1.out _).mono ?_) | (with_reducible refine (between_v H2.out _).mono ?_) | (with_reducible refine (between_v H3.out _).mono ?_) | (with_reducible refine (between_v H4.out _).mono ?_)); rintro e w' ⟨rfl, rfl⟩)
          | ((with_reducible (show wpList _ _ _ (Oper.mk (some 1) (Op.box _ _) _ _ _ _ :: _) _ _)); refine wpList_box_st (o := ⟨some 1, .box _ _, _, _, _, _⟩) rfl _ _ rfl (v := .agg (List.toArray _)) rfl HS ?_; clear HS; intro w1 b1 hb1 HS; simp only [Value.cells] at HS)
          | ((with_reducible (show wpList _ _ _ (Oper.mk (some 7) (Op.load _ _) _ _ _ _ :: _) _ _)); refine wpList_loadS_st (o := ⟨some 7, .load _ _, _, _, _, _⟩) rfl _ _ rfl rfl HS tk sc_int rfx ?_)
          | ((with_reducible (show wpList _ _ _ (Oper.mk (some 12) (Op.load _ _) _ _ _ _ :: _) _ _)); refine wpList_loadS_st (o := ⟨some 12, .load _ _, _, _, _, _⟩) rfl _ _ rfl rfl HS tk sc_int rfx ?_))
    go_ret
    exact ⟨ret_bool HM.out.symm, HS.ex⟩
  case true =>
  cases h3 : inB c 0 16
  case false =>
    have HM : Hid (poolB b z c fr = false) := hid (by simp [poolB, h1, h2, h3])
    have H1 := hid h1
    have H2 := hid h2
    have H3 := hid h3
    clear h1 h2 h3
    have HS := St.start w
    go_enter Try.func101, Try.ntmps101
    go_wp2_with (first
          | (go_at_call 62; (first | (with_reducible refine (between_v H1.out _).mono ?_) | (with_reducible refine (between_v H2.out _).mono ?_) | (with_reducible refine (between_v H3.out _).mono ?_) | (with_reducible refine (between_v H4.out _).mono ?_)); rintro e w' ⟨rfl, rfl⟩)
          | ((with_reducible (show wpList _ _ _ (Oper.mk (some 1) (Op.box _ _) _ _ _ _ :: _) _ _)); refine wpList_box_st (o := ⟨some 1, .box _ _, _, _, _, _⟩) rfl _ _ rfl (v := .agg (List.toArray _)) rfl HS ?_; clear HS; intro w1 b1 hb1 HS; simp only [Value.cells] at HS)
          | ((with_reducible (show wpList _ _ _ (Oper.mk (some 7) (Op.load _ _) _ _ _ _ :: _) _ _)); refine wpList_loadS_st (o := ⟨some 7, .load _ _, _, _, _, _⟩) rfl _ _ rfl rfl HS tk sc_int rfx ?_)
          | ((with_reducible (show wpList _ _ _ (Oper.mk (some 12) (Op.load _ _) _ _ _ _ :: _) _ _)); refine wpList_loadS_st (o := ⟨some 12, .load _ _, _, _, _, _⟩) rfl _ _ rfl rfl HS tk sc_int rfx ?_)
          | ((with_reducible (show wpList _ _ _ (Oper.mk (some 18) (Op.load _ _) _ _ _ _ :: _) _ _)); refine wpList_loadS_st (o := ⟨some 18, .load _ _, _, _, _, _⟩) rfl _ _ rfl rfl HS tk sc_int rfx ?_))
    go_ret
    exact ⟨ret_bool HM.out.symm, HS.ex⟩
  case true =>
  obtain ⟨c0, c16⟩ := inB_iff.1 h3
  obtain ⟨n, rfl⟩ := Int.eq_ofNat_of_zero_le c0
  have wn : IntKind.i64.wrap ((n : Int) - 1) = (n : Int) - 1 := IntWalk.i64_in _ (by omega)
  have H1 := hid h1
  have H2 := hid h2
  have H3 := hid h3
  clear h1 h2 h3
  have HS := St.start w
  go_enter Try.func101, Try.ntmps101
  go_wp2_with (first
        | (go_at_call 62; (first | (with_reducible refine (between_v H1.out _).mono ?_) | (with_reducible refine (between_v H2.out _).mono ?_) | (with_reducible refine (between_v H3.out _).mono ?_) | (with_reducible refine (between_v H4.out _).mono ?_)); rintro e w' ⟨rfl, rfl⟩)
        | ((with_reducible (show wpList _ _ _ (Oper.mk (some 1) (Op.box _ _) _ _ _ _ :: _) _ _)); refine wpList_box_st (o := ⟨some 1, .box _ _, _, _, _, _⟩) rfl _ _ rfl (v := .agg (List.toArray _)) rfl HS ?_; clear HS; intro w1 b1 hb1 HS; simp only [Value.cells] at HS)
        | ((with_reducible (show wpList _ _ _ (Oper.mk (some 7) (Op.load _ _) _ _ _ _ :: _) _ _)); refine wpList_loadS_st (o := ⟨some 7, .load _ _, _, _, _, _⟩) rfl _ _ rfl rfl HS tk sc_int rfx ?_)
        | ((with_reducible (show wpList _ _ _ (Oper.mk (some 12) (Op.load _ _) _ _ _ _ :: _) _ _)); refine wpList_loadS_st (o := ⟨some 12, .load _ _, _, _, _, _⟩) rfl _ _ rfl rfl HS tk sc_int rfx ?_)
        | ((with_reducible (show wpList _ _ _ (Oper.mk (some 18) (Op.load _ _) _ _ _ _ :: _) _ _)); refine wpList_loadS_st (o := ⟨some 18, .load _ _, _, _, _, _⟩) rfl _ _ rfl rfl HS tk sc_int rfx ?_)
        | ((with_reducible (show wpList _ _ _ (Oper.mk (some 23) (Op.load _ _) _ _ _ _ :: _) _ _)); refine wpList_loadS_st (o := ⟨some 23, .load _ _, _, _, _, _⟩) rfl _ _ rfl rfl HS tk sc_int rfx ?_)
        | ((with_reducible (show wpList _ _ _ (Oper.mk (some 24) (Op.makeSlice _ _ _) _ _ _ _ :: _) _ _)); refine wpList_makeF_st (y0 := (false : Bool)) (o := ⟨some 24, .makeSlice _ _ _, _, _, _, _⟩) rfl _ _ _ rfl _ Try.underlying172 in_bool (n := n) rfl rfl rfl rfx trivial (by omega) mxl HS ?_; clear HS; intro w24 b24 hb24 HS)
        | ((with_reducible (show wpList _ _ _ (Oper.mk (some 26) (Op.load _ _) _ _ _ _ :: _) _ _)); refine wpList_loadS_st (o := ⟨some 26, .load _ _, _, _, _, _⟩) rfl _ _ rfl rfl HS tk sc_Sint rfx ?_))
  rw [← seenF_nil n] at HS
  go_loopw [28] (fun i wr => ∃ k : Nat, k ≤ fr.length ∧ Hid (poolG n fr k) ∧ i = .int .i64 k ∧ St w wr [rowA b1 [.int .i64 b, .int .i64 z, .int .i64 (n : Int), .slice AA fr.length cap] 95, ownA (seenF n (fr.take k)) [.slice (some ⟨b24, 0, none⟩) n n]]) (fun i _ => fr.length - (intOf i).toNat)
  case atStart => exact ⟨0, Nat.zero_le _, hid (poolG_zero n fr), rfl, by rw [List.take_zero]; exact (HS.arr (by repeat (first | exact Arr.nil | (with_reducible exact take_all _) | (refine Arr.cons tk ?_) | (refine arr_skip ?_))))⟩
  case round =>
    clear HS
    obtain ⟨k, hkl, hg, rfl, HS⟩ := hrel
    by_cases hlt : k < fr.length
    case pos =>
      obtain ⟨bb, off, rfl⟩ := k1.flA (by omega)
      have HK := hid (List.getElem?_eq_getElem hlt)
      generalize hx : fr[k] = x at *
      have HX := hid hx
      clear hx
      cases h4 : inB x 0 ((n : Int) - 1)
      case false =>
        have HM : Hid (poolB b z n fr = false) := hid (poolB_range hlt HX.out h4)
        have H4 := hid h4
        clear h4
        go_wp2_with (first
              | (go_at_call 62; (first | (with_reducible refine (between_v H1.out _).mono ?_) | (with_reducible refine (between_v H2.out _).mono ?_) | (with_reducible refine (between_v H3.out _).mono ?_) | (with_reducible refine (between_v H4.out _).mono ?_)); rintro e w' ⟨rfl, rfl⟩)
              | ((with_reducible (show wpList _ _ _ (Oper.mk (some 31) (Op.load _ _) _ _ _ _ :: _) _ _)); refine wpList_loadHF (o := ⟨some 31, .load _ _, _, _, _, _⟩) rfl _ _ rfl rfl HS (fun _ hs => k1.ex hs.ex) HK.out 1 0 (by first | rfl | (simp; done) | omega) rfl (by decide) sc_int flt ?_)
              | ((with_reducible (show wpList _ _ _ (Oper.mk (some 34) (Op.load _ _) _ _ _ _ :: _) _ _)); refine wpList_loadS_st (o := ⟨some 34, .load _ _, _, _, _, _⟩) rfl _ _ rfl rfl HS tk sc_int rfx ?_))
        go_ret
        exact ⟨ret_bool HM.out.symm, HS.ex⟩
      case true =>
        obtain ⟨x0, x1⟩ := inB_iff.1 h4
        obtain ⟨m, rfl⟩ := Int.eq_ofNat_of_zero_le x0
        have hm : m < n := by omega
        have hm1 : (m : Int) < n := by omega
        have hm2 : m < (seenF n (fr.take k)).length := by rw [seenF_length]; exact hm
        have H4 := hid h4
        clear h4 x1
        have hk2 := seenF_get (fr.take k) hm
        cases h5 : (fr.take k).contains (m : Int)
        case true =>
          have HM : Hid (poolB b z n fr = false) := hid (poolB_dup hlt HX.out h5)
          rw [h5] at hk2
          have HK2 := hid hk2
          clear h5 hk2 hm2
          go_wp2_with (first
                | (go_at_call 62; (first | (with_reducible refine (between_v H1.out _).mono ?_) | (with_reducible refine (between_v H2.out _).mono ?_) | (with_reducible refine (between_v H3.out _).mono ?_) | (with_reducible refine (between_v H4.out _).mono ?_)); rintro e w' ⟨rfl, rfl⟩)
                | ((with_reducible (show wpList _ _ _ (Oper.mk (some 31) (Op.load _ _) _ _ _ _ :: _) _ _)); refine wpList_loadHF (o := ⟨some 31, .load _ _, _, _, _, _⟩) rfl _ _ rfl rfl HS (fun _ hs => k1.ex hs.ex) HK.out 1 0 (by first | rfl | (simp; done) | omega) rfl (by decide) sc_int flt ?_)
                | ((with_reducible (show wpList _ _ _ (Oper.mk (some 34) (Op.load _ _) _ _ _ _ :: _) _ _)); refine wpList_loadS_st (o := ⟨some 34, .load _ _, _, _, _, _⟩) rfl _ _ rfl rfl HS tk sc_int rfx ?_)
                | ((with_reducible (show wpList _ _ _ (Oper.mk (some 42) (Op.load _ _) _ _ _ _ :: _) _ _)); refine wpList_loadHF (o := ⟨some 42, .load _ _, _, _, _, _⟩) rfl _ _ rfl rfl HS (fun _ hs => hs.holds tk) HK2.out 1 0 (by first | rfl | (simp; done) | omega) rfl (by decide) sc_bool flt ?_))
          go_ret
          exact ⟨ret_bool HM.out.symm, HS.ex⟩
        case false =>
          have HG2 := hid (poolG_step hlt HX.out hg.out H4.out h5)
          have HSS := hid (seenF_set (fr.take k) hm)
          have HTK : Hid (fr.take k ++ [(m : Int)] = fr.take (k + 1)) := hid (by rw [List.take_add_one, List.getElem?_eq_getElem hlt, HX.out]; rfl)
          rw [h5] at hk2
          have HK2 := hid hk2
          clear h5 hk2
          go_wp2_with (first
                | (go_at_call 62; (first | (with_reducible refine (between_v H1.out _).mono ?_) | (with_reducible refine (between_v H2.out _).mono ?_) | (with_reducible refine (between_v H3.out _).mono ?_) | (with_reducible refine (between_v H4.out _).mono ?_)); rintro e w' ⟨rfl, rfl⟩)
                | ((with_reducible (show wpList _ _ _ (Oper.mk (some 31) (Op.load _ _) _ _ _ _ :: _) _ _)); refine wpList_loadHF (o := ⟨some 31, .load _ _, _, _, _, _⟩) rfl _ _ rfl rfl HS (fun _ hs => k1.ex hs.ex) HK.out 1 0 (by first | rfl | (simp; done) | omega) rfl (by decide) sc_int flt ?_)
                | ((with_reducible (show wpList _ _ _ (Oper.mk (some 34) (Op.load _ _) _ _ _ _ :: _) _ _)); refine wpList_loadS_st (o := ⟨some 34, .load _ _, _, _, _, _⟩) rfl _ _ rfl rfl HS tk sc_int rfx ?_)
                | ((with_reducible (show wpList _ _ _ (Oper.mk (some 42) (Op.load _ _) _ _ _ _ :: _) _ _)); refine wpList_loadHF (o := ⟨some 42, .load _ _, _, _, _, _⟩) rfl _ _ rfl rfl HS (fun _ hs => hs.holds tk) HK2.out 1 0 (by first | rfl | (simp; done) | omega) rfl (by decide) sc_bool flt ?_)
                | ((with_reducible (show wpList _ _ _ (Oper.mk none (Op.store _ (.tmp 46) _) _ _ _ _ :: _) _ _)); refine wpList_storeE_st (o := ⟨none, .store _ (.tmp 46) _, _, _, _, _⟩) rfl _ _ _ rfl rfl (v := .bool _) rfl HS tk sz_bool 1 0 rfl (by first | rfl | (simp; done) | omega) hm2 vcs rfx rfx HK2.out (el := true) trivial rfx (by simp) ?_ rfl; clear HS; intro w9_3 hz9_3 HS))
          rw [HSS.out, HTK.out] at HS
          go_roundw
          case rel => exact ⟨k + 1, hlt, HG2, by go_num, (HS.arr (by repeat (first | exact Arr.nil | (with_reducible exact take_all _) | (refine Arr.cons tk ?_) | (refine arr_skip ?_))))⟩
          case measure => simp [intOf]; omega
    case neg =>
      obtain rfl : k = fr.length := by omega
      have HM : Hid (poolB b z n fr = true) := hid (poolB_all H1.out H2.out H3.out hg.out)
      go_wp2
      go_ret
      exact ⟨ret_bool HM.out.symm, HS.ex⟩

set_option maxRecDepth 100000 in
set_option maxHeartbeats 4000000 in
theorem bufAddr_any (v : Value) (fr : List Int) (b z c k : Int) (w : World) (k1 : Holds w fr [v]) (hq : poolB b z c fr = true) (h0 : 0 ≤ k) (h1 : k < c) :
    Calls Try.prog 103 #[.agg #[.int .i64 b, .int .i64 z, .int .i64 c, v], .int .i64 k] w fun e w' => e = .returned (.int .i64 (b + k * z)) ∧ Ex w w' := by
  obtain ⟨AA, cap, rfl, z1, z2⟩ := k1.fl
  unfold maxLen at z2
  obtain ⟨b0, b1, zz0, zz1, c0, c1, -⟩ := poolB_facts hq
  obtain ⟨m0, m1⟩ := mul_bd h0 (by omega) zz0 zz1
  have H4 : Hid (inB k 0 (c - 1) = true) := hid (inB_iff.2 (by omega))
  have w1 : IntKind.i64.wrap (k * z) = k * z := IntWalk.i64_in _ (by omega)
  have w2 : IntKind.i64.wrap (b + k * z) = b + k * z := IntWalk.i64_in _ (by omega)
  have HM : Hid (b + k * z = b + k * z) := hid rfl
  have HQ := hid hq
  clear hq
  have HS := St.start w
  go_enter Try.func103, Try.ntmps103
  go_wp2_with (first
        | (go_at_call 101; (with_reducible refine (poolOk_any _ fr b z c _ (k1.ex HS.ex)).mono ?_); rintro e w' ⟨rfl, hx⟩; rw [HQ.out]; replace HS := HS.grow hx; clear hx)
        | (go_at_call 62; (first | (with_reducible refine (between_v H4.out _).mono ?_)); rintro e w' ⟨rfl, rfl⟩)
        | ((with_reducible (show wpList _ _ _ (Oper.mk (some 2) (Op.box _ _) _ _ _ _ :: _) _ _)); refine wpList_box_st (o := ⟨some 2, .box _ _, _, _, _, _⟩) rfl _ _ rfl (v := .agg (List.toArray _)) rfl HS ?_; clear HS; intro w2 b2 hb2 HS; simp only [Value.cells] at HS)
        | ((with_reducible (show wpList _ _ _ (Oper.mk (some 5) (Op.load _ _) _ _ _ _ :: _) _ _)); refine wpList_loadA_st (o := ⟨some 5, .load _ _, _, _, _, _⟩) rfl _ _ rfl rfl HS tk ag_impl_Pool lit rfl ?_)
        | ((with_reducible (show wpList _ _ _ (Oper.mk (some 11) (Op.load _ _) _ _ _ _ :: _) _ _)); refine wpList_loadS_st (o := ⟨some 11, .load _ _, _, _, _, _⟩) rfl _ _ rfl rfl HS tk sc_int rfx ?_)
        | ((with_reducible (show wpList _ _ _ (Oper.mk (some 17) (Op.load _ _) _ _ _ _ :: _) _ _)); refine wpList_loadS_st (o := ⟨some 17, .load _ _, _, _, _, _⟩) rfl _ _ rfl rfl HS tk sc_int rfx ?_)
        | ((with_reducible (show wpList _ _ _ (Oper.mk (some 20) (Op.load _ _) _ _ _ _ :: _) _ _)); refine wpList_loadS_st (o := ⟨some 20, .load _ _, _, _, _, _⟩) rfl _ _ rfl rfl HS tk sc_int rfx ?_))
  go_ret
  exact ⟨rfl, HS.ex⟩

set_option maxRecDepth 100000 in
set_option maxHeartbeats 4000000 in
theorem poolOkS_any (v : Value) (fr : List Int) (b z c : Int) (w : World) (k1 : Holds w fr [v]) :
    Calls Try.prog 94 #[.agg #[.int .i64 b, .int .i64 z, .int .i64 c, v]] w fun e w' => e = .returned (.bool (poolB b z c fr)) ∧ Ex w w' := by
  obtain ⟨AA, cap, rfl, z1, z2⟩ := k1.fl
  unfold maxLen at z2
  cases h1 : inB b 0 130944
  case false =>
    have HM : Hid (poolB b z c fr = false) := hid (by simp [poolB, h1])
    have H1 := hid h1
    clear h1
    have HS := St.start w
    go_enter Try.func94, Try.ntmps94
    go_wp2_with (first
          | (go_at_call 123; (first | (with_reducible refine (l01In_v H1.out _).mono ?_) | (with_reducible refine (l01In_v H2.out _).mono ?_) | (with_reducible refine (l01In_v H3.out _).mono ?_) | (with_reducible refine (l01In_v H4.out _).mono ?_)); rintro e w' ⟨rfl, rfl⟩)
          | ((with_reducible (show wpList _ _ _ (Oper.mk (some 1) (Op.box _ _) _ _ _ _ :: _) _ _)); refine wpList_box_st (o := ⟨some 1, .box _ _, _, _, _, _⟩) rfl _ _ rfl (v := .agg (List.toArray _)) rfl HS ?_; clear HS; intro w1 b1 hb1 HS; simp only [Value.cells] at HS)
          | ((with_reducible (show wpList _ _ _ (Oper.mk (some 6) (Op.load _ _) _ _ _ _ :: _) _ _)); refine wpList_loadS_st (o := ⟨some 6, .load _ _, _, _, _, _⟩) rfl _ _ rfl rfl HS tk sc_int rfx ?_))
    go_ret
    exact ⟨ret_bool HM.out.symm, HS.ex⟩
  case true =>
  cases h2 : inB z 1 512
  case false =>
    have HM : Hid (poolB b z c fr = false) := hid (by simp [poolB, h1, h2])
    have H1 := hid h1
    have H2 := hid h2
    clear h1 h2
    have HS := St.start w
    go_enter Try.func94, Try.ntmps94
    go_wp2_with (first
          | (go_at_call 123; (first | (with_reducible refine (l01In_v H1.out _).mono ?_) | (with_reducible refine (l01In_v H2.out _).mono ?_) | (with_reducible refine (l01In_v H3.out _).mono ?_) | (with_reducible refine (l01In_v H4.out _).mono ?_)); rintro e w' ⟨rfl, rfl⟩)
          | ((with_reducible (show wpList _ _ _ (Oper.mk (some 1) (Op.box _ _) _ _ _ _ :: _) _ _)); refine wpList_box_st (o := ⟨some 1, .box _ _, _, _, _, _⟩) rfl _ _ rfl (v := .agg (List.toArray _)) rfl HS ?_; clear HS; intro w1 b1 hb1 HS; simp only [Value.cells] at HS)
          | ((with_reducible (show wpList _ _ _ (Oper.mk (some 6) (Op.load _ _) _ _ _ _ :: _) _ _)); refine wpList_loadS_st (o := ⟨some 6, .load _ _, _, _, _, _⟩) rfl _ _ rfl rfl HS tk sc_int rfx ?_)
          | ((with_reducible (show wpList _ _ _ (Oper.mk (some 11) (Op.load _ _) _ _ _ _ :: _) _ _)); refine wpList_loadS_st (o := ⟨some 11, .load _ _, _, _, _, _⟩) rfl _ _ rfl rfl HS tk sc_int rfx ?_))
    go_ret
    exact ⟨ret_bool HM.out.symm, HS.ex⟩
  case true =>
  cases h3 : inB c 0 16
  case false =>
    have HM : Hid (poolB b z c fr = false) := hid (by simp [poolB, h1, h2, h3])
    have H1 := hid h1
    have H2 := hid h2
    have H3 := hid h3
    clear h1 h2 h3
    have HS := St.start w
    go_enter Try.func94, Try.ntmps94
    go_wp2_with (first
          | (go_at_call 123; (first | (with_reducible refine (l01In_v H1.out _).mono ?_) | (with_reducible refine (l01In_v H2.out _).mono ?_) | (with_reducible refine (l01In_v H3.out _).mono ?_) | (with_reducible refine (l01In_v H4.out _).mono ?_)); rintro e w' ⟨rfl, rfl⟩)
          | ((with_reducible (show wpList _ _ _ (Oper.mk (some 1) (Op.box _ _) _ _ _ _ :: _) _ _)); refine wpList_box_st (o := ⟨some 1, .box _ _, _, _, _, _⟩) rfl _ _ rfl (v := .agg (List.toArray _)) rfl HS ?_; clear HS; intro w1 b1 hb1 HS; simp only [Value.cells] at HS)
          | ((with_reducible (show wpList _ _ _ (Oper.mk (some 6) (Op.load _ _) _ _ _ _ :: _) _ _)); refine wpList_loadS_st (o := ⟨some 6, .load _ _, _, _, _, _⟩) rfl _ _ rfl rfl HS tk sc_int rfx ?_)
          | ((with_reducible (show wpList _ _ _ (Oper.mk (some 11) (Op.load _ _) _ _ _ _ :: _) _ _)); refine wpList_loadS_st (o := ⟨some 11, .load _ _, _, _, _, _⟩) rfl _ _ rfl rfl HS tk sc_int rfx ?_)
          | ((with_reducible (show wpList _ _ _ (Oper.mk (some 17) (Op.load _ _) _ _ _ _ :: _) _ _)); refine wpList_loadS_st (o := ⟨some 17, .load _ _, _, _, _, _⟩) rfl _ _ rfl rfl HS tk sc_int rfx ?_))
    go_ret
    exact ⟨ret_bool HM.out.symm, HS.ex⟩
  case true =>
  obtain ⟨c0, c16⟩ := inB_iff.1 h3
  obtain ⟨n, rfl⟩ := Int.eq_ofNat_of_zero_le c0
  have wn : IntKind.i64.wrap ((n : Int) - 1) = (n : Int) - 1 := IntWalk.i64_in _ (by omega)
  have H1 := hid h1
  have H2 := hid h2
  have H3 := hid h3
  clear h1 h2 h3
  have HS := St.start w
  go_enter Try.func94, Try.ntmps94
  go_wp2_with (first
        | (go_at_call 123; (first | (with_reducible refine (l01In_v H1.out _).mono ?_) | (with_reducible refine (l01In_v H2.out _).mono ?_) | (with_reducible refine (l01In_v H3.out _).mono ?_) | (with_reducible refine (l01In_v H4.out _).mono ?_)); rintro e w' ⟨rfl, rfl⟩)
        | ((with_reducible (show wpList _ _ _ (Oper.mk (some 1) (Op.box _ _) _ _ _ _ :: _) _ _)); refine wpList_box_st (o := ⟨some 1, .box _ _, _, _, _, _⟩) rfl _ _ rfl (v := .agg (List.toArray _)) rfl HS ?_; clear HS; intro w1 b1 hb1 HS; simp only [Value.cells] at HS)
        | ((with_reducible (show wpList _ _ _ (Oper.mk (some 6) (Op.load _ _) _ _ _ _ :: _) _ _)); refine wpList_loadS_st (o := ⟨some 6, .load _ _, _, _, _, _⟩) rfl _ _ rfl rfl HS tk sc_int rfx ?_)
        | ((with_reducible (show wpList _ _ _ (Oper.mk (some 11) (Op.load _ _) _ _ _ _ :: _) _ _)); refine wpList_loadS_st (o := ⟨some 11, .load _ _, _, _, _, _⟩) rfl _ _ rfl rfl HS tk sc_int rfx ?_)
        | ((with_reducible (show wpList _ _ _ (Oper.mk (some 17) (Op.load _ _) _ _ _ _ :: _) _ _)); refine wpList_loadS_st (o := ⟨some 17, .load _ _, _, _, _, _⟩) rfl _ _ rfl rfl HS tk sc_int rfx ?_)
        | ((with_reducible (show wpList _ _ _ (Oper.mk (some 22) (Op.load _ _) _ _ _ _ :: _) _ _)); refine wpList_loadS_st (o := ⟨some 22, .load _ _, _, _, _, _⟩) rfl _ _ rfl rfl HS tk sc_int rfx ?_)
        | ((with_reducible (show wpList _ _ _ (Oper.mk (some 23) (Op.makeSlice _ _ _) _ _ _ _ :: _) _ _)); refine wpList_makeF_st (y0 := (false : Bool)) (o := ⟨some 23, .makeSlice _ _ _, _, _, _, _⟩) rfl _ _ _ rfl _ Try.underlying172 in_bool (n := n) rfl rfl rfl rfx trivial (by omega) mxl HS ?_; clear HS; intro w23 b23 hb23 HS))
  rw [← seenF_nil n] at HS
  go_loopw [4] (fun i wr => ∃ k : Nat, k ≤ fr.length ∧ Hid (poolG n fr k) ∧ i = .int .i64 k ∧ St w wr [rowA b1 [.int .i64 b, .int .i64 z, .int .i64 (n : Int), .slice AA fr.length cap] 95, ownA (seenF n (fr.take k)) [.slice (some ⟨b23, 0, none⟩) n n]]) (fun i _ => fr.length - (intOf i).toNat)
  case atStart => exact ⟨0, Nat.zero_le _, hid (poolG_zero n fr), rfl, by rw [List.take_zero]; exact (HS.arr (by repeat (first | exact Arr.nil | (with_reducible exact take_all _) | (refine Arr.cons tk ?_) | (refine arr_skip ?_))))⟩
  case round =>
    clear HS
    obtain ⟨k, hkl, hg, rfl, HS⟩ := hrel
    by_cases hlt : k < fr.length
    case pos =>
      obtain ⟨bb, off, rfl⟩ := k1.flA (by omega)
      have HK := hid (List.getElem?_eq_getElem hlt)
      generalize hx : fr[k] = x at *
      have HX := hid hx
      clear hx
      cases h4 : inB x 0 ((n : Int) - 1)
      case false =>
        have HM : Hid (poolB b z n fr = false) := hid (poolB_range hlt HX.out h4)
        have H4 := hid h4
        clear h4
        go_wp2_with (first
              | ((with_reducible (show wpList _ _ _ (Oper.mk (some 26) (Op.load _ _) _ _ _ _ :: _) _ _)); refine wpList_loadS_st (o := ⟨some 26, .load _ _, _, _, _, _⟩) rfl _ _ rfl rfl HS tk sc_Sint rfx ?_))
        refine wp_region_plan_st HS (.early 0 (.early 1 (.early 2 (.early 3 (.early 4 (.forced 5 1 (.forced 6 1 (.forced 7 1 (.forced 8 1 (.forced 9 1 (.forced 10 1 (.early 11 (.early 12 (.early 13 (.forced 14 1 (.forced 15 1 (.forced 16 1 (.forced 17 2 (.forced 18 2 (.forced 19 2 .done)))))))))))))))))))) (by kernel_rfl) (by as_aux_lemma => kernel_rfl) ?_
        intro hne
        replace HS := HS.drew
        try go_simp
        repeat' (first
          | (with_reducible refine wpPlan_forced ?_)
          | ((with_reducible (first | (show wpPlan _ _ _ _ (.early 0 _) _ _) | (show wpPlan _ _ _ _ (.early 2 _) _ _) | (show wpPlan _ _ _ _ (.early 3 _) _ _) | (show wpPlan _ _ _ _ (.early 11 _) _ _) | (show wpPlan _ _ _ _ (.early 12 _) _ _))); (first | (refine wpPlan_skipE rfl rfl ?_; (try go_simp)) | (refine wpPlan_early rfl rfl ?_; intro K hK; (first | go_big_quiet_op); (first | go_big_quiet_on | (refine ⟨_, fun _ => rfl, ?_⟩; go_big_quiet_on)))))
          | ((with_reducible (first | (show wpPlan _ _ _ _ (.early 1 _) _ _) | (show wpPlan _ _ _ _ (.early 13 _) _ _))); (first | (refine wpPlan_skipE rfl rfl ?_; (try go_simp)) | (refine wpPlan_early rfl rfl ?_; intro K hK; (first | ((refine quiet_loadS_st  _ _ rfl rfl tk sc_Sint rfx ?_); (try go_simp)) | go_big_quiet_op); (first | go_big_quiet_on | (refine ⟨_, fun _ => rfl, ?_⟩; go_big_quiet_on)))))
          | ((with_reducible ((show wpPlan _ _ _ _ (.early 4 _) _ _))); (first | (refine wpPlan_skipE rfl rfl ?_; (try go_simp)) | (refine wpPlan_early rfl rfl ?_; intro K hK; (first | ((refine quiet_loadHF  _ _ rfl rfl (fun _ hs => k1.ex hs.ex) HK.out 1 0 (by first | rfl | (simp; done) | omega) rfl (by decide) sc_int flt ?_); (try go_simp)) | go_big_quiet_op); (first | go_big_quiet_on | (refine ⟨_, fun _ => rfl, ?_⟩; go_big_quiet_on)))))
          | ((with_reducible (first | (show wpOne _ _ _ _ 5 1 _ _ _) | (show wpOne _ _ _ _ 7 1 _ _ _) | (show wpOne _ _ _ _ 9 1 _ _ _) | (show wpOne _ _ _ _ 10 1 _ _ _) | (show wpOne _ _ _ _ 14 1 _ _ _) | (show wpOne _ _ _ _ 15 1 _ _ _))); (first | (refine wpOne_skip rfl rfl ?_; (try go_simp)) | (refine wpOne_1 rfl rfl ?_; intro K hK; go_simp; refine hK _ _ ?_ ?_; (focus (exact stw HS)); clear hK K)))
          | ((with_reducible ((show wpOne _ _ _ _ 6 1 _ _ _))); (first | (refine wpOne_skip rfl rfl ?_; (try go_simp)) | (refine wpOne_1 rfl rfl ?_; intro K hK; (first | (refine wp_loadS_st  _ _ rfl rfl HS tk sc_int rfx ?_)); (try go_simp); refine hK _ _ ?_ ?_; (focus (exact stw HS)); clear hK K)))
          | ((with_reducible ((show wpOne _ _ _ _ 8 1 _ _ _))); (first | (refine wpOne_skip rfl rfl ?_; (try go_simp)) | (refine wpOne_1 rfl rfl ?_; intro K hK; go_simp; (first | (go_at_call 123; (first | (with_reducible refine (l01In_v H1.out _).mono ?_) | (with_reducible refine (l01In_v H2.out _).mono ?_) | (with_reducible refine (l01In_v H3.out _).mono ?_) | (with_reducible refine (l01In_v H4.out _).mono ?_)); rintro e w' ⟨rfl, rfl⟩)); (try go_simp); refine hK _ _ ?_ ?_; (focus (exact stw HS)); clear hK K)))
          | ((with_reducible ((show wpOne _ _ _ _ 16 1 _ _ _))); (first | (refine wpOne_skip rfl rfl ?_; (try go_simp)) | (refine wpOne_1 rfl rfl ?_; intro K hK; (first | (refine wp_loadHF  _ _ rfl rfl HS (fun _ hs => k1.ex hs.ex) HK.out 1 0 (by first | rfl | (simp; done) | omega) rfl (by decide) sc_int flt ?_)); (try go_simp); refine hK _ _ ?_ ?_; (focus (exact stw HS)); clear hK K)))
          | ((with_reducible (first | (show wpOne _ _ _ _ 17 2 _ _ _) | (show wpOne _ _ _ _ 19 2 _ _ _))); (first | (refine wpOne_skip rfl rfl ?_; (try go_simp)) | (refine wpOne_2 rfl rfl ?_; intro K hK; go_simp; refine hK _ _ ?_; clear hK K)))
          | ((with_reducible ((show wpOne _ _ _ _ 18 2 _ _ _))); (first | (refine wpOne_skip rfl rfl ?_; (try go_simp)) | (refine wpOne_2 rfl rfl ?_; intro K hK; (first | (refine wp_loadHF  _ _ rfl rfl HS (fun _ hs => hs.holds tk) HK2.out 1 0 (by first | rfl | (simp; done) | omega) rfl (by decide) sc_bool flt ?_)); (try go_simp); refine hK _ _ ?_; clear hK K)))
          | (with_reducible refine wpPlan_done ?_))
        all_goals
          go_wp2
          go_ret
          exact ⟨ret_bool HM.out.symm, HS.ex⟩
      case true =>
        obtain ⟨x0, x1⟩ := inB_iff.1 h4
        obtain ⟨m, rfl⟩ := Int.eq_ofNat_of_zero_le x0
        have hm : m < n := by omega
        have hm1 : (m : Int) < n := by omega
        have hm2 : m < (seenF n (fr.take k)).length := by rw [seenF_length]; exact hm
        have H4 := hid h4
        clear h4 x1
        have hk2 := seenF_get (fr.take k) hm
        cases h5 : (fr.take k).contains (m : Int)
        case true =>
          have HM : Hid (poolB b z n fr = false) := hid (poolB_dup hlt HX.out h5)
          rw [h5] at hk2
          have HK2 := hid hk2
          clear h5 hk2 hm2
          go_wp2_with (first
                | ((with_reducible (show wpList _ _ _ (Oper.mk (some 26) (Op.load _ _) _ _ _ _ :: _) _ _)); refine wpList_loadS_st (o := ⟨some 26, .load _ _, _, _, _, _⟩) rfl _ _ rfl rfl HS tk sc_Sint rfx ?_))
          refine wp_region_plan_st HS (.early 0 (.early 1 (.early 2 (.early 3 (.early 4 (.forced 5 1 (.forced 6 1 (.forced 7 1 (.forced 8 1 (.forced 9 1 (.forced 10 1 (.early 11 (.early 12 (.early 13 (.forced 14 1 (.forced 15 1 (.forced 16 1 (.forced 17 2 (.forced 18 2 (.forced 19 2 .done)))))))))))))))))))) (by kernel_rfl) (by as_aux_lemma => kernel_rfl) ?_
          intro hne
          replace HS := HS.drew
          try go_simp
          repeat' (first
            | (with_reducible refine wpPlan_forced ?_)
            | ((with_reducible (first | (show wpPlan _ _ _ _ (.early 0 _) _ _) | (show wpPlan _ _ _ _ (.early 2 _) _ _) | (show wpPlan _ _ _ _ (.early 3 _) _ _) | (show wpPlan _ _ _ _ (.early 11 _) _ _) | (show wpPlan _ _ _ _ (.early 12 _) _ _))); (first | (refine wpPlan_skipE rfl rfl ?_; (try go_simp)) | (refine wpPlan_early rfl rfl ?_; intro K hK; (first | go_big_quiet_op); (first | go_big_quiet_on | (refine ⟨_, fun _ => rfl, ?_⟩; go_big_quiet_on)))))
            | ((with_reducible (first | (show wpPlan _ _ _ _ (.early 1 _) _ _) | (show wpPlan _ _ _ _ (.early 13 _) _ _))); (first | (refine wpPlan_skipE rfl rfl ?_; (try go_simp)) | (refine wpPlan_early rfl rfl ?_; intro K hK; (first | ((refine quiet_loadS_st  _ _ rfl rfl tk sc_Sint rfx ?_); (try go_simp)) | go_big_quiet_op); (first | go_big_quiet_on | (refine ⟨_, fun _ => rfl, ?_⟩; go_big_quiet_on)))))
            | ((with_reducible ((show wpPlan _ _ _ _ (.early 4 _) _ _))); (first | (refine wpPlan_skipE rfl rfl ?_; (try go_simp)) | (refine wpPlan_early rfl rfl ?_; intro K hK; (first | ((refine quiet_loadHF  _ _ rfl rfl (fun _ hs => k1.ex hs.ex) HK.out 1 0 (by first | rfl | (simp; done) | omega) rfl (by decide) sc_int flt ?_); (try go_simp)) | go_big_quiet_op); (first | go_big_quiet_on | (refine ⟨_, fun _ => rfl, ?_⟩; go_big_quiet_on)))))
            | ((with_reducible (first | (show wpOne _ _ _ _ 5 1 _ _ _) | (show wpOne _ _ _ _ 7 1 _ _ _) | (show wpOne _ _ _ _ 9 1 _ _ _) | (show wpOne _ _ _ _ 10 1 _ _ _) | (show wpOne _ _ _ _ 14 1 _ _ _) | (show wpOne _ _ _ _ 15 1 _ _ _))); (first | (refine wpOne_skip rfl rfl ?_; (try go_simp)) | (refine wpOne_1 rfl rfl ?_; intro K hK; go_simp; refine hK _ _ ?_ ?_; (focus (exact stw HS)); clear hK K)))
            | ((with_reducible ((show wpOne _ _ _ _ 6 1 _ _ _))); (first | (refine wpOne_skip rfl rfl ?_; (try go_simp)) | (refine wpOne_1 rfl rfl ?_; intro K hK; (first | (refine wp_loadS_st  _ _ rfl rfl HS tk sc_int rfx ?_)); (try go_simp); refine hK _ _ ?_ ?_; (focus (exact stw HS)); clear hK K)))
            | ((with_reducible ((show wpOne _ _ _ _ 8 1 _ _ _))); (first | (refine wpOne_skip rfl rfl ?_; (try go_simp)) | (refine wpOne_1 rfl rfl ?_; intro K hK; go_simp; (first | (go_at_call 123; (first | (with_reducible refine (l01In_v H1.out _).mono ?_) | (with_reducible refine (l01In_v H2.out _).mono ?_) | (with_reducible refine (l01In_v H3.out _).mono ?_) | (with_reducible refine (l01In_v H4.out _).mono ?_)); rintro e w' ⟨rfl, rfl⟩)); (try go_simp); refine hK _ _ ?_ ?_; (focus (exact stw HS)); clear hK K)))
            | ((with_reducible ((show wpOne _ _ _ _ 16 1 _ _ _))); (first | (refine wpOne_skip rfl rfl ?_; (try go_simp)) | (refine wpOne_1 rfl rfl ?_; intro K hK; (first | (refine wp_loadHF  _ _ rfl rfl HS (fun _ hs => k1.ex hs.ex) HK.out 1 0 (by first | rfl | (simp; done) | omega) rfl (by decide) sc_int flt ?_)); (try go_simp); refine hK _ _ ?_ ?_; (focus (exact stw HS)); clear hK K)))
            | ((with_reducible (first | (show wpOne _ _ _ _ 17 2 _ _ _) | (show wpOne _ _ _ _ 19 2 _ _ _))); (first | (refine wpOne_skip rfl rfl ?_; (try go_simp)) | (refine wpOne_2 rfl rfl ?_; intro K hK; go_simp; refine hK _ _ ?_; clear hK K)))
            | ((with_reducible ((show wpOne _ _ _ _ 18 2 _ _ _))); (first | (refine wpOne_skip rfl rfl ?_; (try go_simp)) | (refine wpOne_2 rfl rfl ?_; intro K hK; (first | (refine wp_loadHF  _ _ rfl rfl HS (fun _ hs => hs.holds tk) HK2.out 1 0 (by first | rfl | (simp; done) | omega) rfl (by decide) sc_bool flt ?_)); (try go_simp); refine hK _ _ ?_; clear hK K)))
            | (with_reducible refine wpPlan_done ?_))
          all_goals
            go_wp2
            go_ret
            exact ⟨ret_bool HM.out.symm, HS.ex⟩
        case false =>
          have HG2 := hid (poolG_step hlt HX.out hg.out H4.out h5)
          have HSS := hid (seenF_set (fr.take k) hm)
          have HTK : Hid (fr.take k ++ [(m : Int)] = fr.take (k + 1)) := hid (by rw [List.take_add_one, List.getElem?_eq_getElem hlt, HX.out]; rfl)
          rw [h5] at hk2
          have HK2 := hid hk2
          clear h5 hk2
          go_wp2_with (first
                | ((with_reducible (show wpList _ _ _ (Oper.mk (some 26) (Op.load _ _) _ _ _ _ :: _) _ _)); refine wpList_loadS_st (o := ⟨some 26, .load _ _, _, _, _, _⟩) rfl _ _ rfl rfl HS tk sc_Sint rfx ?_))
          refine wp_region_plan_st HS (.early 0 (.early 1 (.early 2 (.early 3 (.early 4 (.forced 5 1 (.forced 6 1 (.forced 7 1 (.forced 8 1 (.forced 9 1 (.forced 10 1 (.early 11 (.early 12 (.early 13 (.forced 14 1 (.forced 15 1 (.forced 16 1 (.forced 17 2 (.forced 18 2 (.forced 19 2 .done)))))))))))))))))))) (by kernel_rfl) (by as_aux_lemma => kernel_rfl) ?_
          intro hne
          replace HS := HS.drew
          try go_simp
          repeat' (first
            | (with_reducible refine wpPlan_forced ?_)
            | ((with_reducible (first | (show wpPlan _ _ _ _ (.early 0 _) _ _) | (show wpPlan _ _ _ _ (.early 2 _) _ _) | (show wpPlan _ _ _ _ (.early 3 _) _ _) | (show wpPlan _ _ _ _ (.early 11 _) _ _) | (show wpPlan _ _ _ _ (.early 12 _) _ _))); (first | (refine wpPlan_skipE rfl rfl ?_; (try go_simp)) | (refine wpPlan_early rfl rfl ?_; intro K hK; (first | go_big_quiet_op); (first | go_big_quiet_on | (refine ⟨_, fun _ => rfl, ?_⟩; go_big_quiet_on)))))
            | ((with_reducible (first | (show wpPlan _ _ _ _ (.early 1 _) _ _) | (show wpPlan _ _ _ _ (.early 13 _) _ _))); (first | (refine wpPlan_skipE rfl rfl ?_; (try go_simp)) | (refine wpPlan_early rfl rfl ?_; intro K hK; (first | ((refine quiet_loadS_st  _ _ rfl rfl tk sc_Sint rfx ?_); (try go_simp)) | go_big_quiet_op); (first | go_big_quiet_on | (refine ⟨_, fun _ => rfl, ?_⟩; go_big_quiet_on)))))
            | ((with_reducible ((show wpPlan _ _ _ _ (.early 4 _) _ _))); (first | (refine wpPlan_skipE rfl rfl ?_; (try go_simp)) | (refine wpPlan_early rfl rfl ?_; intro K hK; (first | ((refine quiet_loadHF  _ _ rfl rfl (fun _ hs => k1.ex hs.ex) HK.out 1 0 (by first | rfl | (simp; done) | omega) rfl (by decide) sc_int flt ?_); (try go_simp)) | go_big_quiet_op); (first | go_big_quiet_on | (refine ⟨_, fun _ => rfl, ?_⟩; go_big_quiet_on)))))
            | ((with_reducible (first | (show wpOne _ _ _ _ 5 1 _ _ _) | (show wpOne _ _ _ _ 7 1 _ _ _) | (show wpOne _ _ _ _ 9 1 _ _ _) | (show wpOne _ _ _ _ 10 1 _ _ _) | (show wpOne _ _ _ _ 14 1 _ _ _) | (show wpOne _ _ _ _ 15 1 _ _ _))); (first | (refine wpOne_skip rfl rfl ?_; (try go_simp)) | (refine wpOne_1 rfl rfl ?_; intro K hK; go_simp; refine hK _ _ ?_ ?_; (focus (exact stw HS)); clear hK K)))
            | ((with_reducible ((show wpOne _ _ _ _ 6 1 _ _ _))); (first | (refine wpOne_skip rfl rfl ?_; (try go_simp)) | (refine wpOne_1 rfl rfl ?_; intro K hK; (first | (refine wp_loadS_st  _ _ rfl rfl HS tk sc_int rfx ?_)); (try go_simp); refine hK _ _ ?_ ?_; (focus (exact stw HS)); clear hK K)))
            | ((with_reducible ((show wpOne _ _ _ _ 8 1 _ _ _))); (first | (refine wpOne_skip rfl rfl ?_; (try go_simp)) | (refine wpOne_1 rfl rfl ?_; intro K hK; go_simp; (first | (go_at_call 123; (first | (with_reducible refine (l01In_v H1.out _).mono ?_) | (with_reducible refine (l01In_v H2.out _).mono ?_) | (with_reducible refine (l01In_v H3.out _).mono ?_) | (with_reducible refine (l01In_v H4.out _).mono ?_)); rintro e w' ⟨rfl, rfl⟩)); (try go_simp); refine hK _ _ ?_ ?_; (focus (exact stw HS)); clear hK K)))
            | ((with_reducible ((show wpOne _ _ _ _ 16 1 _ _ _))); (first | (refine wpOne_skip rfl rfl ?_; (try go_simp)) | (refine wpOne_1 rfl rfl ?_; intro K hK; (first | (refine wp_loadHF  _ _ rfl rfl HS (fun _ hs => k1.ex hs.ex) HK.out 1 0 (by first | rfl | (simp; done) | omega) rfl (by decide) sc_int flt ?_)); (try go_simp); refine hK _ _ ?_ ?_; (focus (exact stw HS)); clear hK K)))
            | ((with_reducible (first | (show wpOne _ _ _ _ 17 2 _ _ _) | (show wpOne _ _ _ _ 19 2 _ _ _))); (first | (refine wpOne_skip rfl rfl ?_; (try go_simp)) | (refine wpOne_2 rfl rfl ?_; intro K hK; go_simp; refine hK _ _ ?_; clear hK K)))
            | ((with_reducible ((show wpOne _ _ _ _ 18 2 _ _ _))); (first | (refine wpOne_skip rfl rfl ?_; (try go_simp)) | (refine wpOne_2 rfl rfl ?_; intro K hK; (first | (refine wp_loadHF  _ _ rfl rfl HS (fun _ hs => hs.holds tk) HK2.out 1 0 (by first | rfl | (simp; done) | omega) rfl (by decide) sc_bool flt ?_)); (try go_simp); refine hK _ _ ?_; clear hK K)))
            | (with_reducible refine wpPlan_done ?_))
          all_goals
            go_wp2_with (first
                  | ((with_reducible (show wpList _ _ _ (Oper.mk (some 53) (Op.load _ _) _ _ _ _ :: _) _ _)); refine wpList_loadS_st (o := ⟨some 53, .load _ _, _, _, _, _⟩) rfl _ _ rfl rfl HS tk sc_Sint rfx ?_)
                  | ((with_reducible (show wpList _ _ _ (Oper.mk (some 56) (Op.load _ _) _ _ _ _ :: _) _ _)); refine wpList_loadHF (o := ⟨some 56, .load _ _, _, _, _, _⟩) rfl _ _ rfl rfl HS (fun _ hs => k1.ex hs.ex) HK.out 1 0 (by first | rfl | (simp; done) | omega) rfl (by decide) sc_int flt ?_)
                  | ((with_reducible (show wpList _ _ _ (Oper.mk none (Op.store _ (.tmp 57) _) _ _ _ _ :: _) _ _)); refine wpList_storeE_st (o := ⟨none, .store _ (.tmp 57) _, _, _, _, _⟩) rfl _ _ _ rfl rfl (v := .bool _) rfl HS tk sz_bool 1 0 rfl (by first | rfl | (simp; done) | omega) hm2 vcs rfx rfx HK2.out (el := true) trivial rfx (by simp) ?_ rfl; clear HS; intro w9_7 hz9_7 HS))
            rw [HSS.out, HTK.out] at HS
            go_roundw
            case rel => exact ⟨k + 1, hlt, HG2, by go_num, (HS.arr (by repeat (first | exact Arr.nil | (with_reducible exact take_all _) | (refine Arr.cons tk ?_) | (refine arr_skip ?_))))⟩
            case measure => simp [intOf]; omega
    case neg =>
      obtain rfl : k = fr.length := by omega
      have HM : Hid (poolB b z n fr = true) := hid (poolB_all H1.out H2.out H3.out hg.out)
      go_wp2_with (first
            | ((with_reducible (show wpList _ _ _ (Oper.mk (some 26) (Op.load _ _) _ _ _ _ :: _) _ _)); refine wpList_loadS_st (o := ⟨some 26, .load _ _, _, _, _, _⟩) rfl _ _ rfl rfl HS tk sc_Sint rfx ?_))
      go_ret
      exact ⟨ret_bool HM.out.symm, HS.ex⟩

set_option maxRecDepth 100000 in
set_option maxHeartbeats 4000000 in
theorem bufAddrS_any (v : Value) (fr : List Int) (b z c k : Int) (w : World) (k1 : Holds w fr [v]) (hq : poolB b z c fr = true) (h0 : 0 ≤ k) (h1 : k < c) :
    Calls Try.prog 98 #[.agg #[.int .i64 b, .int .i64 z, .int .i64 c, v], .int .i64 k] w fun e w' => e = .returned (.int .i64 (b + k * z)) ∧ Ex w w' := by
  obtain ⟨AA, cap, rfl, z1, z2⟩ := k1.fl
  unfold maxLen at z2
  obtain ⟨b0, b1, zz0, zz1, c0, c1, -⟩ := poolB_facts hq
  obtain ⟨m0, m1⟩ := mul_bd h0 (by omega) zz0 zz1
  have H4 : Hid (inB k 0 (c - 1) = true) := hid (inB_iff.2 (by omega))
  have w1 : IntKind.i64.wrap (k * z) = k * z := IntWalk.i64_in _ (by omega)
  have w2 : IntKind.i64.wrap (b + k * z) = b + k * z := IntWalk.i64_in _ (by omega)
  have HM : Hid (b + k * z = b + k * z) := hid rfl
  have HQ := hid hq
  clear hq
  have HS := St.start w
  go_enter Try.func98, Try.ntmps98
  go_wp2_with (first
        | (go_at_call 94; (with_reducible refine (poolOkS_any _ fr b z c _ (k1.ex HS.ex)).mono ?_); rintro e w' ⟨rfl, hx⟩; rw [HQ.out]; replace HS := HS.grow hx; clear hx)
        | (go_at_call 123; (first | (with_reducible refine (l01In_v H4.out _).mono ?_)); rintro e w' ⟨rfl, rfl⟩)
        | ((with_reducible (show wpList _ _ _ (Oper.mk (some 2) (Op.box _ _) _ _ _ _ :: _) _ _)); refine wpList_box_st (o := ⟨some 2, .box _ _, _, _, _, _⟩) rfl _ _ rfl (v := .agg (List.toArray _)) rfl HS ?_; clear HS; intro w2 b2 hb2 HS; simp only [Value.cells] at HS)
        | ((with_reducible (show wpList _ _ _ (Oper.mk (some 5) (Op.load _ _) _ _ _ _ :: _) _ _)); refine wpList_loadA_st (o := ⟨some 5, .load _ _, _, _, _, _⟩) rfl _ _ rfl rfl HS tk ag_impl_Pool lit rfl ?_)
        | ((with_reducible (show wpList _ _ _ (Oper.mk (some 11) (Op.load _ _) _ _ _ _ :: _) _ _)); refine wpList_loadS_st (o := ⟨some 11, .load _ _, _, _, _, _⟩) rfl _ _ rfl rfl HS tk sc_int rfx ?_)
        | ((with_reducible (show wpList _ _ _ (Oper.mk (some 17) (Op.load _ _) _ _ _ _ :: _) _ _)); refine wpList_loadS_st (o := ⟨some 17, .load _ _, _, _, _, _⟩) rfl _ _ rfl rfl HS tk sc_int rfx ?_)
        | ((with_reducible (show wpList _ _ _ (Oper.mk (some 20) (Op.load _ _) _ _ _ _ :: _) _ _)); refine wpList_loadS_st (o := ⟨some 20, .load _ _, _, _, _, _⟩) rfl _ _ rfl rfl HS tk sc_int rfx ?_))
  go_ret
  exact ⟨rfl, HS.ex⟩

set_option maxRecDepth 100000 in
set_option maxHeartbeats 4000000 in
theorem copyPool_any (v : Value) (fr : List Int) (b z c : Int) (w : World) (k1 : Holds w fr [v]) (hl : fr.length ≤ 1099511627776) :
    Calls Try.prog 100 #[.agg #[.int .i64 b, .int .i64 z, .int .i64 c, v]] w (RetPool w b z c fr) := by
  obtain ⟨AA, cap, rfl, z1, z2⟩ := k1.fl
  unfold maxLen at z2
  have HS := St.start w
  go_enter Try.func100, Try.ntmps100
  go_wp2_with (first
        | (go_at_call 105; (with_reducible refine (copyInts_any _ fr _ (k1.ex HS.ex) hl).mono ?_); rintro e w' ⟨A5, c5, rfl, ho, hx⟩; replace HS := HS.own ho hx; clear ho hx)
        | ((with_reducible (show wpList _ _ _ (Oper.mk (some 1) (Op.box _ _) _ _ _ _ :: _) _ _)); refine wpList_box_st (o := ⟨some 1, .box _ _, _, _, _, _⟩) rfl _ _ rfl (v := .agg (List.toArray _)) rfl HS ?_; clear HS; intro w1 b1 hb1 HS; simp only [Value.cells] at HS)
        | ((with_reducible (show wpList _ _ _ (Oper.mk (some 2) (Op.alloc _) _ _ _ _ :: _) _ _)); refine wpList_alloc_st (o := ⟨some 2, .alloc _, _, _, _, _⟩) rfl _ rfl zc_impl_Pool HS ?_; clear HS; intro w2 b2 hb2 HS)
        | ((with_reducible (show wpList _ _ _ (Oper.mk (some 4) (Op.load _ _) _ _ _ _ :: _) _ _)); refine wpList_loadS_st (o := ⟨some 4, .load _ _, _, _, _, _⟩) rfl _ _ rfl rfl HS tk sc_Sint rfx ?_)
        | ((with_reducible (show wpList _ _ _ (Oper.mk none (Op.store _ (.tmp 6) _) _ _ _ _ :: _) _ _)); refine wpList_store_st (o := ⟨none, .store _ (.tmp 6) _, _, _, _, _⟩) rfl _ _ _ rfl rfl (v := .slice _ _ _) rfl HS tk sz_Sint vcs rfx rfx (by simp) ?_ rfl; clear HS; intro w1_4 hz1_4 HS; simp only [nicL, Value.cells, List.append_nil] at HS)
        | ((with_reducible (show wpList _ _ _ (Oper.mk (some 7) (Op.load _ _) _ _ _ _ :: _) _ _)); refine wpList_loadA_st (o := ⟨some 7, .load _ _, _, _, _, _⟩) rfl _ _ rfl rfl HS tk ag_impl_Pool lit rfl ?_)
        | ((with_reducible (show wpList _ _ _ (Oper.mk none (Op.store _ (.tmp 2) _) _ _ _ _ :: _) _ _)); refine wpList_store_st (o := ⟨none, .store _ (.tmp 2) _, _, _, _, _⟩) rfl _ _ _ rfl rfl (v := .agg (List.toArray _)) rfl HS tk sz_impl_Pool vcs rfx rfx (by simp) ?_ rfl; clear HS; intro w2_1 hz2_1 HS; simp only [nicL, Value.cells, List.append_nil] at HS))
  refine bodyPost_retc rfx rfx HS tk ag_impl_Pool rfx rfx ?_
  exact retPool HS tk

set_option maxRecDepth 100000 in
set_option maxHeartbeats 4000000 in
theorem l21Copy_any (v : Value) (fr : List Int) (b z c : Int) (w : World) (k1 : Holds w fr [v]) (hl : fr.length ≤ 1099511627776) :
    Calls Try.prog 93 #[.agg #[.int .i64 b, .int .i64 z, .int .i64 c, v]] w (RetPool w b z c fr) := by
  obtain ⟨AA, cap, rfl, z1, z2⟩ := k1.fl
  unfold maxLen at z2
  have HS := St.start w
  go_enter Try.func93, Try.ntmps93
  go_wp2_with (first
        | ((with_reducible (show wpList _ _ _ (Oper.mk (some 1) (Op.box _ _) _ _ _ _ :: _) _ _)); refine wpList_box_st (o := ⟨some 1, .box _ _, _, _, _, _⟩) rfl _ _ rfl (v := .agg (List.toArray _)) rfl HS ?_; clear HS; intro w1 b1 hb1 HS; simp only [Value.cells] at HS)
        | ((with_reducible (show wpList _ _ _ (Oper.mk (some 2) (Op.alloc _) _ _ _ _ :: _) _ _)); refine wpList_alloc_st (o := ⟨some 2, .alloc _, _, _, _, _⟩) rfl _ rfl zc_impl_Pool HS ?_; clear HS; intro w2 b2 hb2 HS))
  refine wp_region_plan_st (HS.arr (show Arr _ [rowA b1 _ _] from ary)) (.early 0 (.early 1 (.early 2 (.early 3 (.early 4 (.early 5 (.early 7 (.early 8 (.forced 6 1 (.forced 9 1 (.forced 10 2 (.forced 11 2 .done)))))))))))) (by kernel_rfl) (by as_aux_lemma => kernel_rfl) ?_
  intro hne
  replace HS := HS.drew
  try go_simp
  repeat' (first
    | (with_reducible refine wpPlan_forced ?_)
    | ((with_reducible (first | (show wpPlan _ _ _ _ (.early 0 _) _ _) | (show wpPlan _ _ _ _ (.early 2 _) _ _) | (show wpPlan _ _ _ _ (.early 4 _) _ _) | (show wpPlan _ _ _ _ (.early 7 _) _ _))); (first | (refine wpPlan_skipE rfl rfl ?_; (try go_simp)) | (refine wpPlan_early rfl rfl ?_; intro K hK; (first | go_big_quiet_op); (first | go_big_quiet_on | (refine ⟨_, fun _ => rfl, ?_⟩; go_big_quiet_on)))))
    | ((with_reducible (first | (show wpPlan _ _ _ _ (.early 1 _) _ _) | (show wpPlan _ _ _ _ (.early 3 _) _ _) | (show wpPlan _ _ _ _ (.early 5 _) _ _))); (first | (refine wpPlan_skipE rfl rfl ?_; (try go_simp)) | (refine wpPlan_early rfl rfl ?_; intro K hK; (first | ((refine quiet_loadS_st  _ _ rfl rfl tk sc_int rfx ?_); (try go_simp)) | go_big_quiet_op); (first | go_big_quiet_on | (refine ⟨_, fun _ => rfl, ?_⟩; go_big_quiet_on)))))
    | ((with_reducible ((show wpPlan _ _ _ _ (.early 8 _) _ _))); (first | (refine wpPlan_skipE rfl rfl ?_; (try go_simp)) | (refine wpPlan_early rfl rfl ?_; intro K hK; (first | ((refine quiet_loadS_st  _ _ rfl rfl tk sc_Sint rfx ?_); (try go_simp)) | go_big_quiet_op); (first | go_big_quiet_on | (refine ⟨_, fun _ => rfl, ?_⟩; go_big_quiet_on)))))
    | ((with_reducible ((show wpOne _ _ _ _ 6 1 _ _ _))); (first | (refine wpOne_skip rfl rfl ?_; (try go_simp)) | (refine wpOne_1 rfl rfl ?_; intro K hK; (first | (refine wp_bslice0_st  _ rfl _ Try.underlying91 in_int HS ?_; clear HS; intro w9 b9 hb9 HS)); replace HS := HS.slotMade 1 tk; (try go_simp); refine hK _ _ ?_ ?_; (focus (exact stw HS)); clear hK K)))
    | ((with_reducible ((show wpOne _ _ _ _ 9 1 _ _ _))); (first | (refine wpOne_skip rfl rfl ?_; (try go_simp)) | (refine wpOne_1 rfl rfl ?_; intro K hK; (first | (refine wp_app_st  _ _ _ _ rfl _ Try.underlying91 in_int rfl HS tk rfl ((k1.ex HS.ex).srcFlat Try.underlying91) mxl (by omega) ?_; clear HS; intro a12 c12 w12 hb12 HS)); (try simp only [Nat.zero_add, List.nil_append] at HS); (try simp only [Nat.zero_add]); replace HS := HS.shut (α := Int) (xs := fr) tk rfl (fun x hx => k1.flok hx); (try go_simp); refine hK _ _ ?_ ?_; (focus (exact stw HS)); clear hK K)))
    | ((with_reducible ((show wpOne _ _ _ _ 10 2 _ _ _))); (first | (refine wpOne_skip rfl rfl ?_; (try go_simp)) | (refine wpOne_2 rfl rfl ?_; intro K hK; go_simp; refine hK _ _ ?_; clear hK K)))
    | ((with_reducible ((show wpOne _ _ _ _ 11 2 _ _ _))); (first | (refine wpOne_skip rfl rfl ?_; (try go_simp)) | (refine wpOne_2 rfl rfl ?_; intro K hK; (first | (refine wp_store_st  _ _ _ rfl rfl (v := .agg (List.toArray _)) rfl HS tk sz_impl_Pool vcs rfx rfx (by simp) ?_ rfl; clear HS; intro w1_11 hz1_11 HS; simp only [nicL, Value.cells, List.append_nil] at HS) | (refine wp_store_st  _ _ _ rfl rfl (v := .agg _) rfl HS tk sz_impl_Pool vcs rfx rfx (by simp) ?_ rfl; clear HS; intro w1_11 hz1_11 HS; simp only [nicL, Value.cells, List.append_nil] at HS)); (try go_simp); refine hK _ _ ?_; clear hK K)))
    | (with_reducible refine wpPlan_done ?_))
  all_goals
    go_wp2
    refine bodyPost_retc rfx rfx HS tk ag_impl_Pool rfx rfx ?_
    exact retPool HS tk

end Go.Proofs.Ytelkplponnfkpaa

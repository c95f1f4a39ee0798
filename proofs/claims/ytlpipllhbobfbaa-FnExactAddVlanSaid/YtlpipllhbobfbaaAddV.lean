/- AddVlan of both. -/
import Derived.Test.YtlpipllhbobfbaaRows
import Derived.Test.YtlpipllhbobfbaaTy
import Derived.Test.YtlpipllhbobfbaaTi
import Derived.Test.YtlpipllhbobfbaaFiltF
namespace Go.Proofs.Ytlpipllhbobfbaa
open Go.RowKit
set_option linter.unusedVariables false
set_option linter.unusedSimpArgs false

theorem ints_flat' (xs : List Int) : xs.flatMap Flat.cells = xs.map (Value.int .i64) := map_flat _ xs
def addIx (xs : List Int) (n : Int) : Nat := (xs.takeWhile (fun x => decide (x < n))).length
def insL (xs : List Int) (m : Nat) (n : Int) : List Int := xs.take m ++ n :: xs.drop m
def addL (xs : List Int) (n : Int) : List Int := insL xs (addIx xs n) n
def addB (mac : Int) (xs : List Int) (n : Int) : Bool := filterOkB mac xs && filterOkB mac (addL xs n)
def addV (mac : Int) (xs : List Int) (n : Int) : List Int := if addB mac xs n then addL xs n else xs
theorem addIx_le : ∀ (xs : List Int) (n : Int), addIx xs n ≤ xs.length
  | [], _ => Nat.le_refl _
  | x :: xs, n => by
    have := addIx_le xs n
    unfold addIx at this ⊢
    rw [List.takeWhile_cons]
    split
    · simp; exact this
    · simp
theorem addIx_lo : ∀ (xs : List Int) (n : Int) (i : Nat) (h : i < xs.length), i < addIx xs n → xs[i] < n
  | [], _, i, h, _ => absurd h (Nat.not_lt_zero _)
  | x :: xs, n, i, h, hi => by
    unfold addIx at hi
    rw [List.takeWhile_cons] at hi
    split at hi
    · rename_i hx
      cases i with
      | zero => simpa using hx
      | succ i => simpa using addIx_lo xs n i (by simpa using h) (by simpa [addIx] using hi)
    · simp at hi
theorem addIx_at : ∀ (xs : List Int) (n : Int) (h : addIx xs n < xs.length), n ≤ xs[addIx xs n]
  | [], _, h => absurd h (Nat.not_lt_zero _)
  | x :: xs, n, h => by
    by_cases hx : x < n
    · have e : addIx (x :: xs) n = addIx xs n + 1 := by simp [addIx, List.takeWhile_cons, hx]
      have := addIx_at xs n (by rw [e] at h; simpa using h)
      simp only [e, List.getElem_cons_succ]; exact this
    · have e : addIx (x :: xs) n = 0 := by simp [addIx, List.takeWhile_cons, hx]
      simp only [e, List.getElem_cons_zero]; omega
theorem insL_length (xs : List Int) (m : Nat) (n : Int) (h : m ≤ xs.length) : (insL xs m n).length = xs.length + 1 := by simp [insL]; omega
theorem insL_lo {xs : List Int} {m k : Nat} {n : Int} (h : k < m) (hm : m ≤ xs.length) : (insL xs m n)[k]? = xs[k]? := by
  unfold insL
  rw [List.getElem?_append_left (by simp; omega), List.getElem?_take, if_pos h]
theorem insL_at {xs : List Int} {m : Nat} {n : Int} (hm : m ≤ xs.length) : (insL xs m n)[m]? = some n := by
  unfold insL
  rw [List.getElem?_append_right (by simp; omega)]
  simp [Nat.min_eq_left hm]
theorem insL_hi {xs : List Int} {m k : Nat} {n : Int} (h : m ≤ k) (hm : m ≤ xs.length) : (insL xs m n)[k + 1]? = xs[k]? := by
  unfold insL
  rw [List.getElem?_append_right (by simp; omega)]
  simp only [List.length_take, Nat.min_eq_left hm]
  rw [show k + 1 - m = (k - m) + 1 from by omega, List.getElem?_cons_succ, List.getElem?_drop]
  congr 1; omega
/-- A number that is there makes the longer list no valid one. -/
theorem add_has {mac : Int} {xs : List Int} {n : Int} (hf : filterOkB mac xs = true) (hh : hasB xs n = true) : filterOkB mac (addL xs n) = false := by
  have hle := addIx_le xs n
  have hasc : ∀ k, k + 1 < xs.length → xs.getD k 0 < xs.getD (k + 1) 0 := by
    intro k hk
    rcases hb : vlanBad xs (k + 1) with _ | _
    · simp only [vlanBad, Bool.or_eq_false_iff] at hb
      have := hb.2
      simp at this
      simpa [List.getD] using this
    · rw [vlansB_bad hk hb mac] at hf; cases hf
  have hmono : ∀ d k, k + d < xs.length → xs.getD k 0 ≤ xs.getD (k + d) 0 := by
    intro d
    induction d with
    | zero => intro k _; exact Int.le_refl _
    | succ d ih => intro k hk; have := ih k (by omega); have := hasc (k + d) (by omega); rw [← Nat.add_assoc]; omega
  obtain ⟨j, hj, e⟩ : ∃ j, ∃ hj : j < xs.length, xs[j] = n := by
    obtain ⟨j, hj, e⟩ := List.getElem_of_mem (of_decide_eq_true hh)
    exact ⟨j, hj, e⟩
  have hmj : addIx xs n ≤ j := by
    rcases Nat.lt_or_ge j (addIx xs n) with h | h
    · have := addIx_lo xs n j hj h; omega
    · exact h
  have hml : addIx xs n < xs.length := by omega
  have h1 := addIx_at xs n hml
  have h2 := hmono (j - addIx xs n) (addIx xs n) (by omega)
  rw [show addIx xs n + (j - addIx xs n) = j from by omega] at h2
  simp only [List.getD, List.getElem?_eq_getElem hj, List.getElem?_eq_getElem hml, Option.getD_some, e] at h2
  have h3 : xs[addIx xs n] = n := by omega
  refine vlansB_bad (k := addIx xs n + 1) (by unfold addL; rw [insL_length _ _ _ hle]; omega) ?_ mac
  have e1 : (addL xs n).getD (addIx xs n + 1) 0 = n := by
    unfold addL List.getD
    rw [insL_hi (Nat.le_refl _) hle, List.getElem?_eq_getElem hml, h3]; rfl
  have e2 : (addL xs n).getD (addIx xs n) 0 = n := by
    unfold addL List.getD
    rw [insL_at hle]; rfl
  unfold vlanBad
  rw [Nat.add_sub_cancel, e1, e2]
  simp

def insS (xs : List Int) (m : Nat) (n : Int) (k : Nat) : List Int := if k ≤ m then xs.take k else (insL xs m n).take (k + 1)
theorem insS_lo {xs : List Int} {m k : Nat} {n : Int} (h : k < xs.length) (hk : k < m) : insS xs m n (k + 1) = insS xs m n k ++ [xs[k]] := by
  unfold insS
  rw [if_pos (by omega), if_pos (by omega), List.take_succ_eq_append_getElem h]
theorem insS_at {xs : List Int} {m : Nat} {n : Int} (h : m < xs.length) : insS xs m n (m + 1) = insS xs m n m ++ [n] ++ [xs[m]] := by
  unfold insS
  rw [if_neg (by omega), if_pos (Nat.le_refl _)]
  unfold insL
  rw [List.take_append, List.take_of_length_le (by simp; omega)]
  simp only [List.length_take, Nat.min_eq_left (Nat.le_of_lt h)]
  have e := List.drop_eq_getElem_cons h
  rw [show m + 1 + 1 - m = 2 from by omega, show (n :: xs.drop m).take 2 = [n, xs[m]] from by rw [e]; rfl]
  simp
theorem insS_hi {xs : List Int} {m k : Nat} {n : Int} (h : k < xs.length) (hk : m < k) : insS xs m n (k + 1) = insS xs m n k ++ [xs[k]] := by
  unfold insS
  rw [if_neg (by omega), if_neg (by omega)]
  have hl : k + 1 < (insL xs m n).length := by rw [insL_length _ _ _ (by omega)]; omega
  rw [List.take_succ_eq_append_getElem hl]
  congr 2
  have := insL_hi (xs := xs) (m := m) (k := k) (n := n) (by omega) (by omega)
  rw [List.getElem?_eq_getElem hl, List.getElem?_eq_getElem h] at this
  exact Option.some.inj this
theorem insS_end {xs : List Int} {m : Nat} {n : Int} (h : m < xs.length) : insS xs m n xs.length = insL xs m n := by
  unfold insS
  rw [if_neg (by omega), List.take_of_length_le (by rw [insL_length _ _ _ (by omega)]; exact Nat.le_refl _)]
theorem insS_end' {xs : List Int} {n : Int} : insS xs xs.length n xs.length ++ [n] = insL xs xs.length n := by
  unfold insS insL
  rw [if_pos (Nat.le_refl _)]
  simp


set_option maxRecDepth 100000 in
set_option maxHeartbeats 4000000 in
theorem addOrdered_any (v : Value) (xs : List Int) (m : Nat) (n : Int) (w : World) (k1 : Holds w xs [v]) (hl : xs.length ≤ 1048576) (hn : i64ok n) (hm : m ≤ xs.length) (hlo : ∀ i (h : i < xs.length), i < m → xs[i] ≤ n) (hat : ∀ h : m < xs.length, n < xs[m]) :
    Calls Try.prog 92 #[v, .int .i64 n] w (RetSl w (insL xs m n)) := by
  obtain ⟨a, cap, hv, m1, m2, m3, m4⟩ := k1.ints
  simp only [List.cons.injEq, and_true] at hv
  subst hv
  unfold maxLen at m2
  have M3 := hid m3
  have M4 := hid m4
  have HLO := hid hlo
  have HAT := hid hat
  have HN := hid hn
  clear m3 m4 hlo hat k1 hn
  have HS := St.start w
  go_enter Try.func92, Try.ntmps92
  go_wp2_with (first
      | (refine wpList_bslice0_st (o := ⟨some 9, .buildSlice _ _ _, _, _, _, _⟩) rfl _ rfl _ Try.underlying33 in_int HS ?_; clear HS; intro w9 b9 hb9 HS)
      | (refine wpList_loadS_st (o := ⟨some 15, .load _ _, _, _, _, _⟩) rfl _ _ rfl rfl HS (by repeat (first | exact Take.head | apply Take.tail)) sc_int (by rfl) ?_)
      | (refine wpList_bslice1_st (o := ⟨some 25, .buildSlice _ _ _, _, _, _, _⟩) rfl _ _ rfl _ Try.underlying33 in_int (by decide) (by decide) (x := .int .i64 _) rfl (by simp only [Value.cells]; rfl) (by rfl) HS ?_; clear HS; intro w25 b25 hb25 HS)
      | (refine wpList_bslice1_st (o := ⟨some 25, .buildSlice _ _ _, _, _, _, _⟩) rfl _ _ rfl _ Try.underlying33 in_int (by decide) (by decide) (x := _) rfl (by simp only [Value.cells]; rfl) (by rfl) HS ?_; clear HS; intro w25 b25 hb25 HS)
      | (refine wpList_app_st (o := ⟨some 26, .call { callee := .builtin .append, args := _, argTypes := _ }, _, _, _, _⟩) rfl _ _ _ _ rfl _ Try.underlying33 in_int rfl HS (by repeat (first | exact Take.head | apply Take.tail)) rfl (Src.row HS (by repeat (first | exact Take.head | apply Take.tail)) Try.underlying33 (by rfl) (by rfl)) (by unfold maxLen; omega) (by omega) ?_; clear HS; intro a26 c26 w26 hb26 HS)
      | (refine wpList_bslice1_st (o := ⟨some 29, .buildSlice _ _ _, _, _, _, _⟩) rfl _ _ rfl _ Try.underlying33 in_int (by decide) (by decide) (x := .int .i64 _) rfl (by simp only [Value.cells]; rfl) (by rfl) HS ?_; clear HS; intro w29 b29 hb29 HS)
      | (refine wpList_bslice1_st (o := ⟨some 29, .buildSlice _ _ _, _, _, _, _⟩) rfl _ _ rfl _ Try.underlying33 in_int (by decide) (by decide) (x := _) rfl (by simp only [Value.cells]; rfl) (by rfl) HS ?_; clear HS; intro w29 b29 hb29 HS)
      | (refine wpList_app_st (o := ⟨some 30, .call { callee := .builtin .append, args := _, argTypes := _ }, _, _, _, _⟩) rfl _ _ _ _ rfl _ Try.underlying33 in_int rfl HS (by repeat (first | exact Take.head | apply Take.tail)) rfl (Src.row HS (by repeat (first | exact Take.head | apply Take.tail)) Try.underlying33 (by rfl) (by rfl)) (by unfold maxLen; omega) (by omega) ?_; clear HS; intro a30 c30 w30 hb30 HS)
      | (refine wpList_bslice1_st (o := ⟨some 36, .buildSlice _ _ _, _, _, _, _⟩) rfl _ _ rfl _ Try.underlying33 in_int (by decide) (by decide) (x := .int .i64 _) rfl (by simp only [Value.cells]; rfl) (by rfl) HS ?_; clear HS; intro w36 b36 hb36 HS)
      | (refine wpList_bslice1_st (o := ⟨some 36, .buildSlice _ _ _, _, _, _, _⟩) rfl _ _ rfl _ Try.underlying33 in_int (by decide) (by decide) (x := _) rfl (by simp only [Value.cells]; rfl) (by rfl) HS ?_; clear HS; intro w36 b36 hb36 HS)
      | (refine wpList_app_st (o := ⟨some 37, .call { callee := .builtin .append, args := _, argTypes := _ }, _, _, _, _⟩) rfl _ _ _ _ rfl _ Try.underlying33 in_int rfl HS (by repeat (first | exact Take.head | apply Take.tail)) rfl (Src.row HS (by repeat (first | exact Take.head | apply Take.tail)) Try.underlying33 (by rfl) (by rfl)) (by unfold maxLen; omega) (by omega) ?_; clear HS; intro a37 c37 w37 hb37 HS))
  replace HS := HS.slotMade 1 (by repeat (first | exact Take.head | apply Take.tail))
  go_loopw [5, 6, 12] (fun u p i wr => ∃ (k : Nat) (L : List Int) (nn : Nat) (A : Option Addr) (c : Nat), u = .slice A nn c ∧ p = .bool (decide (m < k)) ∧ i = .int .i64 k ∧ k ≤ xs.length ∧ L.length = nn ∧ nn ≤ k + 1 ∧ (k ≤ m → nn ≤ k) ∧ L = insS xs m n k ∧ St w wr [slotA 3 1 (.slice A nn c) nn (L.map (Value.int .i64))]) (fun _ _ i _ => xs.length - (intOf i).toNat)
  case atStart => exact ⟨0, [], 0, _, _, rfl, by simp, rfl, Nat.zero_le _, rfl, by omega, fun _ => by omega, by simp [insS], (HS.arr (by repeat (first | exact Arr.nil | (refine Arr.cons (by repeat (first | exact Take.head | apply Take.tail)) ?_))))⟩
  case round =>
    clear HS
    obtain ⟨k, L, nn, A, c, rfl, rfl, rfl, hk, hL, hnn, hkm, hLe, HS⟩ := hrel
    have HKM := hid hkm
    clear hkm
    have HLe := hid hLe
    have HL := hid hL
    clear hLe hL
    by_cases hlt : k < xs.length
    · obtain ⟨b, off, rfl, hc⟩ := M3.out k hlt
      replace hc := (HS.ex.cell (World.block_lt_of_cell? _ _ hc)).trans hc
      have hlb := World.block_lt_of_cell? _ _ hc
      obtain ⟨y, hy⟩ : ∃ y, y = xs[k] := ⟨_, rfl⟩
      rw [← hy] at hc
      have HY := hid hy
      clear hy
      rcases Nat.lt_trichotomy k m with h | h | h
      · have hyn : y ≤ n := by rw [HY.out]; exact HLO.out k hlt h
        have d1 : decide (m < k) = false := by simp; omega
        have d2 : decide (m < k + 1) = false := by simp; omega
        rw [d1]
        go_wp2_with (first
              | (refine wpList_bslice0_st (o := ⟨some 9, .buildSlice _ _ _, _, _, _, _⟩) rfl _ rfl _ Try.underlying33 in_int HS ?_; clear HS; intro w9 b9 hb9 HS)
              | (refine wpList_loadS_st (o := ⟨some 15, .load _ _, _, _, _, _⟩) rfl _ _ rfl rfl HS (by repeat (first | exact Take.head | apply Take.tail)) sc_int (by rfl) ?_)
              | (refine wpList_bslice1_st (o := ⟨some 25, .buildSlice _ _ _, _, _, _, _⟩) rfl _ _ rfl _ Try.underlying33 in_int (by decide) (by decide) (x := .int .i64 _) rfl (by simp only [Value.cells]; rfl) (by rfl) HS ?_; clear HS; intro w25 b25 hb25 HS)
              | (refine wpList_bslice1_st (o := ⟨some 25, .buildSlice _ _ _, _, _, _, _⟩) rfl _ _ rfl _ Try.underlying33 in_int (by decide) (by decide) (x := _) rfl (by simp only [Value.cells]; rfl) (by rfl) HS ?_; clear HS; intro w25 b25 hb25 HS)
              | (refine wpList_app_st (o := ⟨some 26, .call { callee := .builtin .append, args := _, argTypes := _ }, _, _, _, _⟩) rfl _ _ _ _ rfl _ Try.underlying33 in_int rfl HS (by repeat (first | exact Take.head | apply Take.tail)) rfl (Src.row HS (by repeat (first | exact Take.head | apply Take.tail)) Try.underlying33 (by rfl) (by rfl)) (by unfold maxLen; omega) (by omega) ?_; clear HS; intro a26 c26 w26 hb26 HS)
              | (refine wpList_bslice1_st (o := ⟨some 29, .buildSlice _ _ _, _, _, _, _⟩) rfl _ _ rfl _ Try.underlying33 in_int (by decide) (by decide) (x := .int .i64 _) rfl (by simp only [Value.cells]; rfl) (by rfl) HS ?_; clear HS; intro w29 b29 hb29 HS)
              | (refine wpList_bslice1_st (o := ⟨some 29, .buildSlice _ _ _, _, _, _, _⟩) rfl _ _ rfl _ Try.underlying33 in_int (by decide) (by decide) (x := _) rfl (by simp only [Value.cells]; rfl) (by rfl) HS ?_; clear HS; intro w29 b29 hb29 HS)
              | (refine wpList_app_st (o := ⟨some 30, .call { callee := .builtin .append, args := _, argTypes := _ }, _, _, _, _⟩) rfl _ _ _ _ rfl _ Try.underlying33 in_int rfl HS (by repeat (first | exact Take.head | apply Take.tail)) rfl (Src.row HS (by repeat (first | exact Take.head | apply Take.tail)) Try.underlying33 (by rfl) (by rfl)) (by unfold maxLen; omega) (by omega) ?_; clear HS; intro a30 c30 w30 hb30 HS)
              | (refine wpList_bslice1_st (o := ⟨some 36, .buildSlice _ _ _, _, _, _, _⟩) rfl _ _ rfl _ Try.underlying33 in_int (by decide) (by decide) (x := .int .i64 _) rfl (by simp only [Value.cells]; rfl) (by rfl) HS ?_; clear HS; intro w36 b36 hb36 HS)
              | (refine wpList_bslice1_st (o := ⟨some 36, .buildSlice _ _ _, _, _, _, _⟩) rfl _ _ rfl _ Try.underlying33 in_int (by decide) (by decide) (x := _) rfl (by simp only [Value.cells]; rfl) (by rfl) HS ?_; clear HS; intro w36 b36 hb36 HS)
              | (refine wpList_app_st (o := ⟨some 37, .call { callee := .builtin .append, args := _, argTypes := _ }, _, _, _, _⟩) rfl _ _ _ _ rfl _ Try.underlying33 in_int rfl HS (by repeat (first | exact Take.head | apply Take.tail)) rfl (Src.row HS (by repeat (first | exact Take.head | apply Take.tail)) Try.underlying33 (by rfl) (by rfl)) (by unfold maxLen; omega) (by omega) ?_; clear HS; intro a37 c37 w37 hb37 HS))
        go_roundw
        case rel => exact ⟨k + 1, L ++ [y], _, _, _, rfl, by rw [d2], by go_num, by omega, by simp [HL.out], by omega, fun _ => by have := HKM.out (by omega); omega, by rw [HLe.out, HY.out, insS_lo hlt h], by rw [List.map_append]; exact (HS.arr (by repeat (first | exact Arr.nil | (refine Arr.cons (by repeat (first | exact Take.head | apply Take.tail)) ?_))))⟩
        case measure => simp [intOf]; omega
      · subst h
        have hyn : n < y := by rw [HY.out]; exact HAT.out hlt
        have hkk := HKM.out (Nat.le_refl _)
        have d1 : decide (k < k) = false := by simp
        have d2 : decide (k < k + 1) = true := by simp
        rw [d1]
        go_wp2_with (first
              | (refine wpList_bslice0_st (o := ⟨some 9, .buildSlice _ _ _, _, _, _, _⟩) rfl _ rfl _ Try.underlying33 in_int HS ?_; clear HS; intro w9 b9 hb9 HS)
              | (refine wpList_loadS_st (o := ⟨some 15, .load _ _, _, _, _, _⟩) rfl _ _ rfl rfl HS (by repeat (first | exact Take.head | apply Take.tail)) sc_int (by rfl) ?_)
              | (refine wpList_bslice1_st (o := ⟨some 25, .buildSlice _ _ _, _, _, _, _⟩) rfl _ _ rfl _ Try.underlying33 in_int (by decide) (by decide) (x := .int .i64 _) rfl (by simp only [Value.cells]; rfl) (by rfl) HS ?_; clear HS; intro w25 b25 hb25 HS)
              | (refine wpList_bslice1_st (o := ⟨some 25, .buildSlice _ _ _, _, _, _, _⟩) rfl _ _ rfl _ Try.underlying33 in_int (by decide) (by decide) (x := _) rfl (by simp only [Value.cells]; rfl) (by rfl) HS ?_; clear HS; intro w25 b25 hb25 HS)
              | (refine wpList_app_st (o := ⟨some 26, .call { callee := .builtin .append, args := _, argTypes := _ }, _, _, _, _⟩) rfl _ _ _ _ rfl _ Try.underlying33 in_int rfl HS (by repeat (first | exact Take.head | apply Take.tail)) rfl (Src.row HS (by repeat (first | exact Take.head | apply Take.tail)) Try.underlying33 (by rfl) (by rfl)) (by unfold maxLen; omega) (by omega) ?_; clear HS; intro a26 c26 w26 hb26 HS)
              | (refine wpList_bslice1_st (o := ⟨some 29, .buildSlice _ _ _, _, _, _, _⟩) rfl _ _ rfl _ Try.underlying33 in_int (by decide) (by decide) (x := .int .i64 _) rfl (by simp only [Value.cells]; rfl) (by rfl) HS ?_; clear HS; intro w29 b29 hb29 HS)
              | (refine wpList_bslice1_st (o := ⟨some 29, .buildSlice _ _ _, _, _, _, _⟩) rfl _ _ rfl _ Try.underlying33 in_int (by decide) (by decide) (x := _) rfl (by simp only [Value.cells]; rfl) (by rfl) HS ?_; clear HS; intro w29 b29 hb29 HS)
              | (refine wpList_app_st (o := ⟨some 30, .call { callee := .builtin .append, args := _, argTypes := _ }, _, _, _, _⟩) rfl _ _ _ _ rfl _ Try.underlying33 in_int rfl HS (by repeat (first | exact Take.head | apply Take.tail)) rfl (Src.row HS (by repeat (first | exact Take.head | apply Take.tail)) Try.underlying33 (by rfl) (by rfl)) (by unfold maxLen; omega) (by omega) ?_; clear HS; intro a30 c30 w30 hb30 HS)
              | (refine wpList_bslice1_st (o := ⟨some 36, .buildSlice _ _ _, _, _, _, _⟩) rfl _ _ rfl _ Try.underlying33 in_int (by decide) (by decide) (x := .int .i64 _) rfl (by simp only [Value.cells]; rfl) (by rfl) HS ?_; clear HS; intro w36 b36 hb36 HS)
              | (refine wpList_bslice1_st (o := ⟨some 36, .buildSlice _ _ _, _, _, _, _⟩) rfl _ _ rfl _ Try.underlying33 in_int (by decide) (by decide) (x := _) rfl (by simp only [Value.cells]; rfl) (by rfl) HS ?_; clear HS; intro w36 b36 hb36 HS)
              | (refine wpList_app_st (o := ⟨some 37, .call { callee := .builtin .append, args := _, argTypes := _ }, _, _, _, _⟩) rfl _ _ _ _ rfl _ Try.underlying33 in_int rfl HS (by repeat (first | exact Take.head | apply Take.tail)) rfl (Src.row HS (by repeat (first | exact Take.head | apply Take.tail)) Try.underlying33 (by rfl) (by rfl)) (by unfold maxLen; omega) (by omega) ?_; clear HS; intro a37 c37 w37 hb37 HS))
        go_roundw
        case rel => exact ⟨k + 1, L ++ [n] ++ [y], _, _, _, rfl, by rw [d2], by go_num, by omega, by simp [HL.out], by omega, fun h => by omega, by rw [HLe.out, HY.out, insS_at hlt], by rw [List.map_append, List.map_append]; exact (HS.arr (by repeat (first | exact Arr.nil | (refine Arr.cons (by repeat (first | exact Take.head | apply Take.tail)) ?_))))⟩
        case measure => simp [intOf]; omega
      · have d1 : decide (m < k) = true := by simpa using h
        have d2 : decide (m < k + 1) = true := by simp; omega
        rw [d1]
        go_wp2_with (first
              | (refine wpList_bslice0_st (o := ⟨some 9, .buildSlice _ _ _, _, _, _, _⟩) rfl _ rfl _ Try.underlying33 in_int HS ?_; clear HS; intro w9 b9 hb9 HS)
              | (refine wpList_loadS_st (o := ⟨some 15, .load _ _, _, _, _, _⟩) rfl _ _ rfl rfl HS (by repeat (first | exact Take.head | apply Take.tail)) sc_int (by rfl) ?_)
              | (refine wpList_bslice1_st (o := ⟨some 25, .buildSlice _ _ _, _, _, _, _⟩) rfl _ _ rfl _ Try.underlying33 in_int (by decide) (by decide) (x := .int .i64 _) rfl (by simp only [Value.cells]; rfl) (by rfl) HS ?_; clear HS; intro w25 b25 hb25 HS)
              | (refine wpList_bslice1_st (o := ⟨some 25, .buildSlice _ _ _, _, _, _, _⟩) rfl _ _ rfl _ Try.underlying33 in_int (by decide) (by decide) (x := _) rfl (by simp only [Value.cells]; rfl) (by rfl) HS ?_; clear HS; intro w25 b25 hb25 HS)
              | (refine wpList_app_st (o := ⟨some 26, .call { callee := .builtin .append, args := _, argTypes := _ }, _, _, _, _⟩) rfl _ _ _ _ rfl _ Try.underlying33 in_int rfl HS (by repeat (first | exact Take.head | apply Take.tail)) rfl (Src.row HS (by repeat (first | exact Take.head | apply Take.tail)) Try.underlying33 (by rfl) (by rfl)) (by unfold maxLen; omega) (by omega) ?_; clear HS; intro a26 c26 w26 hb26 HS)
              | (refine wpList_bslice1_st (o := ⟨some 29, .buildSlice _ _ _, _, _, _, _⟩) rfl _ _ rfl _ Try.underlying33 in_int (by decide) (by decide) (x := .int .i64 _) rfl (by simp only [Value.cells]; rfl) (by rfl) HS ?_; clear HS; intro w29 b29 hb29 HS)
              | (refine wpList_bslice1_st (o := ⟨some 29, .buildSlice _ _ _, _, _, _, _⟩) rfl _ _ rfl _ Try.underlying33 in_int (by decide) (by decide) (x := _) rfl (by simp only [Value.cells]; rfl) (by rfl) HS ?_; clear HS; intro w29 b29 hb29 HS)
              | (refine wpList_app_st (o := ⟨some 30, .call { callee := .builtin .append, args := _, argTypes := _ }, _, _, _, _⟩) rfl _ _ _ _ rfl _ Try.underlying33 in_int rfl HS (by repeat (first | exact Take.head | apply Take.tail)) rfl (Src.row HS (by repeat (first | exact Take.head | apply Take.tail)) Try.underlying33 (by rfl) (by rfl)) (by unfold maxLen; omega) (by omega) ?_; clear HS; intro a30 c30 w30 hb30 HS)
              | (refine wpList_bslice1_st (o := ⟨some 36, .buildSlice _ _ _, _, _, _, _⟩) rfl _ _ rfl _ Try.underlying33 in_int (by decide) (by decide) (x := .int .i64 _) rfl (by simp only [Value.cells]; rfl) (by rfl) HS ?_; clear HS; intro w36 b36 hb36 HS)
              | (refine wpList_bslice1_st (o := ⟨some 36, .buildSlice _ _ _, _, _, _, _⟩) rfl _ _ rfl _ Try.underlying33 in_int (by decide) (by decide) (x := _) rfl (by simp only [Value.cells]; rfl) (by rfl) HS ?_; clear HS; intro w36 b36 hb36 HS)
              | (refine wpList_app_st (o := ⟨some 37, .call { callee := .builtin .append, args := _, argTypes := _ }, _, _, _, _⟩) rfl _ _ _ _ rfl _ Try.underlying33 in_int rfl HS (by repeat (first | exact Take.head | apply Take.tail)) rfl (Src.row HS (by repeat (first | exact Take.head | apply Take.tail)) Try.underlying33 (by rfl) (by rfl)) (by unfold maxLen; omega) (by omega) ?_; clear HS; intro a37 c37 w37 hb37 HS))
        go_roundw
        case rel => exact ⟨k + 1, L ++ [y], _, _, _, rfl, by rw [d2], by go_num, by omega, by simp [HL.out], by omega, fun h => by omega, by rw [HLe.out, HY.out, insS_hi hlt h], by rw [List.map_append]; exact (HS.arr (by repeat (first | exact Arr.nil | (refine Arr.cons (by repeat (first | exact Take.head | apply Take.tail)) ?_))))⟩
        case measure => simp [intOf]; omega
    · obtain rfl : k = xs.length := by omega
      have okc : ∀ x ∈ insL xs m n, Flat.ok x := by
        intro x hx
        unfold insL at hx
        rcases List.mem_append.1 hx with hx | hx
        · exact M4.out x (List.mem_of_mem_take hx)
        · rcases List.mem_cons.1 hx with rfl | hx
          · exact HN.out
          · exact M4.out x (List.mem_of_mem_drop hx)
      have OKC := hid okc
      clear okc
      by_cases hme : m < xs.length
      · have d1 : decide (m < xs.length) = true := by simpa using hme
        rw [d1]
        have hfin := insS_end (xs := xs) (n := n) hme
        have HF := hid hfin
        clear hfin
        go_wp2_with (first
              | (refine wpList_bslice0_st (o := ⟨some 9, .buildSlice _ _ _, _, _, _, _⟩) rfl _ rfl _ Try.underlying33 in_int HS ?_; clear HS; intro w9 b9 hb9 HS)
              | (refine wpList_loadS_st (o := ⟨some 15, .load _ _, _, _, _, _⟩) rfl _ _ rfl rfl HS (by repeat (first | exact Take.head | apply Take.tail)) sc_int (by rfl) ?_)
              | (refine wpList_bslice1_st (o := ⟨some 25, .buildSlice _ _ _, _, _, _, _⟩) rfl _ _ rfl _ Try.underlying33 in_int (by decide) (by decide) (x := .int .i64 _) rfl (by simp only [Value.cells]; rfl) (by rfl) HS ?_; clear HS; intro w25 b25 hb25 HS)
              | (refine wpList_bslice1_st (o := ⟨some 25, .buildSlice _ _ _, _, _, _, _⟩) rfl _ _ rfl _ Try.underlying33 in_int (by decide) (by decide) (x := _) rfl (by simp only [Value.cells]; rfl) (by rfl) HS ?_; clear HS; intro w25 b25 hb25 HS)
              | (refine wpList_app_st (o := ⟨some 26, .call { callee := .builtin .append, args := _, argTypes := _ }, _, _, _, _⟩) rfl _ _ _ _ rfl _ Try.underlying33 in_int rfl HS (by repeat (first | exact Take.head | apply Take.tail)) rfl (Src.row HS (by repeat (first | exact Take.head | apply Take.tail)) Try.underlying33 (by rfl) (by rfl)) (by unfold maxLen; omega) (by omega) ?_; clear HS; intro a26 c26 w26 hb26 HS)
              | (refine wpList_bslice1_st (o := ⟨some 29, .buildSlice _ _ _, _, _, _, _⟩) rfl _ _ rfl _ Try.underlying33 in_int (by decide) (by decide) (x := .int .i64 _) rfl (by simp only [Value.cells]; rfl) (by rfl) HS ?_; clear HS; intro w29 b29 hb29 HS)
              | (refine wpList_bslice1_st (o := ⟨some 29, .buildSlice _ _ _, _, _, _, _⟩) rfl _ _ rfl _ Try.underlying33 in_int (by decide) (by decide) (x := _) rfl (by simp only [Value.cells]; rfl) (by rfl) HS ?_; clear HS; intro w29 b29 hb29 HS)
              | (refine wpList_app_st (o := ⟨some 30, .call { callee := .builtin .append, args := _, argTypes := _ }, _, _, _, _⟩) rfl _ _ _ _ rfl _ Try.underlying33 in_int rfl HS (by repeat (first | exact Take.head | apply Take.tail)) rfl (Src.row HS (by repeat (first | exact Take.head | apply Take.tail)) Try.underlying33 (by rfl) (by rfl)) (by unfold maxLen; omega) (by omega) ?_; clear HS; intro a30 c30 w30 hb30 HS)
              | (refine wpList_bslice1_st (o := ⟨some 36, .buildSlice _ _ _, _, _, _, _⟩) rfl _ _ rfl _ Try.underlying33 in_int (by decide) (by decide) (x := .int .i64 _) rfl (by simp only [Value.cells]; rfl) (by rfl) HS ?_; clear HS; intro w36 b36 hb36 HS)
              | (refine wpList_bslice1_st (o := ⟨some 36, .buildSlice _ _ _, _, _, _, _⟩) rfl _ _ rfl _ Try.underlying33 in_int (by decide) (by decide) (x := _) rfl (by simp only [Value.cells]; rfl) (by rfl) HS ?_; clear HS; intro w36 b36 hb36 HS)
              | (refine wpList_app_st (o := ⟨some 37, .call { callee := .builtin .append, args := _, argTypes := _ }, _, _, _, _⟩) rfl _ _ _ _ rfl _ Try.underlying33 in_int rfl HS (by repeat (first | exact Take.head | apply Take.tail)) rfl (Src.row HS (by repeat (first | exact Take.head | apply Take.tail)) Try.underlying33 (by rfl) (by rfl)) (by unfold maxLen; omega) (by omega) ?_; clear HS; intro a37 c37 w37 hb37 HS))
        go_ret
        have hLL := HLe.out.trans HF.out
        rw [hLL] at HS
        exact (HS.shut (α := Int) (by repeat (first | exact Take.head | apply Take.tail)) (map_flat _ _).symm OKC.out).ret (by repeat (first | exact Take.head | apply Take.tail))
      · obtain rfl : m = xs.length := by omega
        have d1 : decide (xs.length < xs.length) = false := by simp
        rw [d1]
        go_wp2_with (first
              | (refine wpList_bslice0_st (o := ⟨some 9, .buildSlice _ _ _, _, _, _, _⟩) rfl _ rfl _ Try.underlying33 in_int HS ?_; clear HS; intro w9 b9 hb9 HS)
              | (refine wpList_loadS_st (o := ⟨some 15, .load _ _, _, _, _, _⟩) rfl _ _ rfl rfl HS (by repeat (first | exact Take.head | apply Take.tail)) sc_int (by rfl) ?_)
              | (refine wpList_bslice1_st (o := ⟨some 25, .buildSlice _ _ _, _, _, _, _⟩) rfl _ _ rfl _ Try.underlying33 in_int (by decide) (by decide) (x := .int .i64 _) rfl (by simp only [Value.cells]; rfl) (by rfl) HS ?_; clear HS; intro w25 b25 hb25 HS)
              | (refine wpList_bslice1_st (o := ⟨some 25, .buildSlice _ _ _, _, _, _, _⟩) rfl _ _ rfl _ Try.underlying33 in_int (by decide) (by decide) (x := _) rfl (by simp only [Value.cells]; rfl) (by rfl) HS ?_; clear HS; intro w25 b25 hb25 HS)
              | (refine wpList_app_st (o := ⟨some 26, .call { callee := .builtin .append, args := _, argTypes := _ }, _, _, _, _⟩) rfl _ _ _ _ rfl _ Try.underlying33 in_int rfl HS (by repeat (first | exact Take.head | apply Take.tail)) rfl (Src.row HS (by repeat (first | exact Take.head | apply Take.tail)) Try.underlying33 (by rfl) (by rfl)) (by unfold maxLen; omega) (by omega) ?_; clear HS; intro a26 c26 w26 hb26 HS)
              | (refine wpList_bslice1_st (o := ⟨some 29, .buildSlice _ _ _, _, _, _, _⟩) rfl _ _ rfl _ Try.underlying33 in_int (by decide) (by decide) (x := .int .i64 _) rfl (by simp only [Value.cells]; rfl) (by rfl) HS ?_; clear HS; intro w29 b29 hb29 HS)
              | (refine wpList_bslice1_st (o := ⟨some 29, .buildSlice _ _ _, _, _, _, _⟩) rfl _ _ rfl _ Try.underlying33 in_int (by decide) (by decide) (x := _) rfl (by simp only [Value.cells]; rfl) (by rfl) HS ?_; clear HS; intro w29 b29 hb29 HS)
              | (refine wpList_app_st (o := ⟨some 30, .call { callee := .builtin .append, args := _, argTypes := _ }, _, _, _, _⟩) rfl _ _ _ _ rfl _ Try.underlying33 in_int rfl HS (by repeat (first | exact Take.head | apply Take.tail)) rfl (Src.row HS (by repeat (first | exact Take.head | apply Take.tail)) Try.underlying33 (by rfl) (by rfl)) (by unfold maxLen; omega) (by omega) ?_; clear HS; intro a30 c30 w30 hb30 HS)
              | (refine wpList_bslice1_st (o := ⟨some 36, .buildSlice _ _ _, _, _, _, _⟩) rfl _ _ rfl _ Try.underlying33 in_int (by decide) (by decide) (x := .int .i64 _) rfl (by simp only [Value.cells]; rfl) (by rfl) HS ?_; clear HS; intro w36 b36 hb36 HS)
              | (refine wpList_bslice1_st (o := ⟨some 36, .buildSlice _ _ _, _, _, _, _⟩) rfl _ _ rfl _ Try.underlying33 in_int (by decide) (by decide) (x := _) rfl (by simp only [Value.cells]; rfl) (by rfl) HS ?_; clear HS; intro w36 b36 hb36 HS)
              | (refine wpList_app_st (o := ⟨some 37, .call { callee := .builtin .append, args := _, argTypes := _ }, _, _, _, _⟩) rfl _ _ _ _ rfl _ Try.underlying33 in_int rfl HS (by repeat (first | exact Take.head | apply Take.tail)) rfl (Src.row HS (by repeat (first | exact Take.head | apply Take.tail)) Try.underlying33 (by rfl) (by rfl)) (by unfold maxLen; omega) (by omega) ?_; clear HS; intro a37 c37 w37 hb37 HS))
        go_ret
        have hLL : L ++ [n] = insL xs xs.length n := by rw [HLe.out]; exact insS_end'
        replace HS := HS.shut (α := Int) (xs := L ++ [n]) (by repeat (first | exact Take.head | apply Take.tail)) (by rw [ints_flat', List.map_append]; rfl) (by rw [hLL]; exact OKC.out)
        rw [hLL] at HS
        exact HS.ret (by repeat (first | exact Take.head | apply Take.tail))

end Go.Proofs.Ytlpipllhbobfbaa

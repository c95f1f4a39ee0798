/- Part 3 of what the proof of FnFilters rests on: an idealised machine, contracts of functions, and the walk of the law. No condition. -/
import Derived.Test.YtfcmcedeapgdcaaMFnFiltersb
section
namespace Go.Proofs.Ytfcmcedeapgdcaa
open Go Go.RowKit Go.Vc
set_option linter.unusedVariables false
set_option linter.unusedSimpArgs false
set_option linter.unnecessarySimpa false
def ordB (xs : List Int) (i : Nat) : Bool := inB (at' xs i) 0 4095 && !(decide (0 < i) && decide (at' xs (i - 1) ≥ at' xs i))
def fltB (mac : Int) (xs : List Int) : Bool := (List.range xs.length).all (ordB xs) && (inB mac 0 281474976710654 && decide (xs.length ≤ 8))
def hvB (xs : List Int) (k : Int) : Bool := decide (k ∈ xs)
theorem flt_n {mac : Int} {xs : List Int} {i : Nat} (hi : i < xs.length) (h : ordB xs i = false) : fltB mac xs = false := by
  cases e : fltB mac xs with
  | false => rfl
  | true =>
    unfold fltB at e
    rw [Bool.and_eq_true, List.all_eq_true] at e
    rw [e.1 i (List.mem_range.2 hi)] at h; cases h
theorem flt_y {mac : Int} {xs : List Int} {i : Nat} (hi : ¬ i < xs.length) (h : ∀ j, j < i → ordB xs j = true) : fltB mac xs = (inB mac 0 281474976710654 && decide (xs.length ≤ 8)) := by
  unfold fltB
  rw [show (List.range xs.length).all (ordB xs) = true from List.all_eq_true.2 fun j hj => h j (by have := List.mem_range.1 hj; omega), Bool.true_and]
theorem hv_y {xs : List Int} {k : Int} {i : Nat} (hi : i < xs.length) (h : at' xs i = k) : hvB xs k = true := by
  rw [atp_eq hi] at h
  exact decide_eq_true (h ▸ List.getElem_mem hi)
theorem hv_n {xs : List Int} {k : Int} {i : Nat} (hi : ¬ i < xs.length) (h : ∀ j, j < i → ¬ at' xs j = k) : hvB xs k = false := by
  refine decide_eq_false fun hm => ?_
  obtain ⟨j, hj, rfl⟩ := List.getElem_of_mem hm
  exact h j (by omega) (atp_eq hj)
set_option maxHeartbeats 4000000 in
theorem c_impl_FilterOk {mac : Int} {pr : Bool} {xs : List Int} (hl : xs.length ≤ 1000 := by first | with_reducible assumption | omega | (simp; done)) : Con0 Try.prog 11 [.agg [V mac, VB pr, .sl 1 (xs.map intE)]] (B (fltB mac xs)) [] := by
  refine con_i Try.func11 Try.ntmps11 (t := [(0, .agg [V mac, VB pr, .sl 1 (xs.map intE)])]) rfl ?_
  refine vc_sr ?_
  iterate 2 refine vo ?_
  refine vnt ?_
  refine vc_seq' ?_
  refine vc_sr ?_
  iterate 3 refine vo ?_
  try first | refine vlb ?_ | refine vln ?_
  refine vo ?_
  refine vnt ?_
  refine vc_block ?_
  refine vc_lp (σ := Nat) [1, 6, 7] [8] (fun i => [(8, I (i : Nat))]) (fun i => []) (fun i => i ≤ xs.length ∧ ∀ j, j < i → ordB xs j = true) (fun i => xs.length - i) 0 rfl rfl (sub_i [] (fz ?_) (fz ?_)) ?_ fun i hI => ?_
  · first | trivial | simp
  · first | trivial | simp
  · exact ⟨Nat.zero_le _, fun j h => nomatch h⟩
  refine vc_nf rfl rfl ?_
  refine vc_sr ?_
  refine vo ?_
  refine vnt ?_
  refine vc_seq' ?_
  refine vc_if (fun g1 => ?_) (fun g1 => ?_)
  · refine vc_skip ?_
    refine thn ?_
    refine vc_seq' ?_
    refine vc_block ?_
    refine vc_sr ?_
    iterate 2 refine vo ?_
    try with_reducible (first | refine vep ?_ | refine vpt ?_)
    iterate 3 refine vo ?_
    refine vnt ?_
    refine vc_sr ?_
    refine vo ?_
    refine voc c_impl_between rfl rfl ?_
    iterate 2 refine vo ?_
    refine vsp (fun g2 => ?_) (fun g2 => ?_)
    · iterate 12 refine vof ?_
      refine vo ?_
      refine vnt ?_
      refine vc_then ?_
      refine vc_sr ?_
      refine vo ?_
      refine vnt ?_
      refine vc_ret ?_
      refine inB_r ?_
      refine thn_r ?_
      refine thn_r ?_
      refine inB_r ?_
      refine thn_r ?_
      have hh : fltB mac xs = false := flt_n (i := i) (by omega) (by unfold ordB; simp_all)
      rw [hh]
      refine fin_i [] rfl (fz ?_) (fz ?_) <;> first | trivial | rfl
    · iterate 3 refine von ?_
      refine vsp (fun g3 => ?_) (fun g3 => ?_)
      · iterate 4 refine von ?_
        try refine vwr ?_
        refine von ?_
        try with_reducible (first | refine vep ?_ | refine vpt ?_)
        iterate 4 refine von ?_
        refine vo ?_
        refine vnt ?_
        refine vc_if (fun g4 => ?_) (fun g4 => ?_)
        · refine vc_sr ?_
          refine vo ?_
          refine vnt ?_
          refine vc_ret ?_
          refine inB_r ?_
          refine thn_r ?_
          refine thn_r ?_
          refine inB_r ?_
          refine thn_r ?_
          have hh : fltB mac xs = false := flt_n (i := i) (by omega) (by unfold ordB; simp_all)
          rw [hh]
          refine fin_i [] rfl (fz ?_) (fz ?_) <;> first | trivial | rfl
        · refine vc_skip ?_
          refine inB_n ?_
          refine thn ?_
          refine vc_region ?_
          refine vo ?_
          try refine vwr ?_
          refine vo ?_
          refine vnt ?_
          refine ⟨i + 1, ?_, ?_, sub_i [] (fz ?_) (fz ?_)⟩
          · exact ⟨by omega, fun j hj => by rcases (show j < i ∨ j = i by omega) with h | h <;> first | exact hI.2 j h | (subst h; unfold ordB; simp_all)⟩
          · omega
          all_goals first | trivial | rfl | omega | simp
      · iterate 8 refine vof ?_
        refine von ?_
        refine vo ?_
        refine vnt ?_
        refine vc_else ?_
        refine vc_skip ?_
        refine inB_n ?_
        refine thn ?_
        refine vc_region ?_
        refine vo ?_
        try refine vwr ?_
        refine vo ?_
        refine vnt ?_
        refine ⟨i + 1, ?_, ?_, sub_i [] (fz ?_) (fz ?_)⟩
        · exact ⟨by omega, fun j hj => by rcases (show j < i ∨ j = i by omega) with h | h <;> first | exact hI.2 j h | (subst h; unfold ordB; simp_all)⟩
        · omega
        all_goals first | trivial | rfl | omega | simp
  · refine vc_exit ?_
    refine thn_x ?_
    refine thn_x ?_
    refine inB_x ?_
    refine thn ?_
    refine vc_sr ?_
    iterate 2 refine vo ?_
    refine voc c_impl_between rfl rfl ?_
    refine vo ?_
    refine vsp (fun g5 => ?_) (fun g5 => ?_)
    · iterate 3 refine von ?_
      try first | refine vlb ?_ | refine vln ?_
      refine von ?_
      iterate 2 refine vo ?_
      refine vnt ?_
      refine vc_ret ?_
      have hh := flt_y (mac := mac) (by omega) hI.2
      rw [hh]
      refine fin_i [] rfl (fz ?_) trivial
      simp_all <;> omega
    · iterate 4 refine vof ?_
      iterate 2 refine vo ?_
      refine vnt ?_
      refine vc_ret ?_
      have hh := flt_y (mac := mac) (by omega) hI.2
      rw [hh]
      refine fin_i [] rfl (fz ?_) trivial
      simp_all <;> omega
set_option maxHeartbeats 4000000 in
theorem c_impl_hasInt {k : Int} {xs : List Int} (hl : xs.length ≤ 1000 := by first | with_reducible assumption | omega | (simp; done)) : Con0 Try.prog 16 [.one (.sl 1 (xs.map intE)), I k] (B (hvB xs k)) [] := by
  refine con_i Try.func16 Try.ntmps16 (t := [(0, .one (.sl 1 (xs.map intE))), (1, I k)]) rfl ?_
  refine vc_sr ?_
  refine vo ?_
  refine vnt ?_
  refine vc_seq' ?_
  refine vc_sr ?_
  iterate 2 refine vo ?_
  try first | refine vlb ?_ | refine vln ?_
  refine vo ?_
  refine vnt ?_
  refine vc_block ?_
  refine vc_lp (σ := Nat) [1, 7, 8] [] (fun i => [(9, I (i : Nat))]) (fun i => []) (fun i => i ≤ xs.length ∧ ∀ j, j < i → ¬ at' xs j = k) (fun i => xs.length - i) 0 rfl rfl (sub_i [] (fz ?_) (fz ?_)) ?_ fun i hI => ?_
  · first | trivial | simp
  · first | trivial | simp
  · exact ⟨Nat.zero_le _, fun j h => nomatch h⟩
  refine vc_nf rfl rfl ?_
  refine vc_sr ?_
  refine vo ?_
  refine vnt ?_
  refine vc_seq' ?_
  refine vc_if (fun g1 => ?_) (fun g1 => ?_)
  · refine vc_skip ?_
    refine thn ?_
    refine vc_seq' ?_
    refine vc_block ?_
    refine vc_sr ?_
    refine vo ?_
    try with_reducible (first | refine vep ?_ | refine vpt ?_)
    iterate 2 refine vo ?_
    refine vnt ?_
    refine vc_sr ?_
    iterate 3 refine vo ?_
    refine vnt ?_
    refine vc_if (fun g2 => ?_) (fun g2 => ?_)
    · refine vc_sr ?_
      refine vo ?_
      refine vnt ?_
      refine vc_ret ?_
      refine inB_r ?_
      refine thn_r ?_
      refine thn_r ?_
      refine inB_r ?_
      refine thn_r ?_
      have hh := hv_y (i := i) (by omega) g2
      rw [hh]
      refine fin_i [] rfl (fz ?_) (fz ?_) <;> first | trivial | rfl
    · refine vc_skip ?_
      refine inB_n ?_
      refine thn ?_
      refine vc_region ?_
      refine vo ?_
      try refine vwr ?_
      refine vo ?_
      refine vnt ?_
      refine ⟨i + 1, ?_, ?_, sub_i [] (fz ?_) (fz ?_)⟩
      · exact ⟨by omega, fun j hj => by rcases (show j < i ∨ j = i by omega) with h | h <;> first | exact hI.2 j h | (subst h; exact g2)⟩
      · omega
      all_goals first | trivial | rfl | omega | simp
  · refine vc_exit ?_
    refine thn_x ?_
    refine thn_x ?_
    refine inB_x ?_
    refine thn ?_
    refine vc_sr ?_
    refine vo ?_
    refine vnt ?_
    refine vc_ret ?_
    have hh := hv_n (by omega) hI.2
    rw [hh]
    refine fin_i [] rfl (fz ?_) (fz ?_) <;> first | trivial | rfl
set_option maxHeartbeats 4000000 in
theorem c_copyInts_f {xs : List Int} (hl : xs.length ≤ 1000 := by first | with_reducible assumption | omega | (simp; done)) : Con0 Try.prog 29 [.one (.sl 1 (xs.map intE))] (.one (.hs 0)) [(0, .arr 3 1 (xs.map intE))] := by
  refine con_i Try.func29 Try.ntmps29 (t := [(0, .one (.sl 1 (xs.map intE)))]) rfl ?_
  refine vc_sr ?_
  refine vo ?_
  refine vnt ?_
  refine vc_sr ?_
  iterate 4 refine vo ?_
  refine vnt ?_
  refine vc_ret ?_
  refine fin_i [(0, some 40)] rfl (fz ?_) (fz ?_) <;> first | trivial | rfl | simp
set_option maxHeartbeats 4000000 in
theorem c_impl_copyFilter {mac : Int} {pr : Bool} {xs : List Int} (hl : xs.length ≤ 1000 := by first | with_reducible assumption | omega | (simp; done)) : Con0 Try.prog 15 [.agg [V mac, VB pr, .sl 1 (xs.map intE)]] (.agg [V mac, VB pr, .hs 0]) [(0, .arr 3 1 ((xs).map intE))] := by
  refine con_i Try.func15 Try.ntmps15 (t := [(0, .agg [V mac, VB pr, .sl 1 (xs.map intE)])]) rfl ?_
  refine vc_sr ?_
  iterate 2 refine vo ?_
  refine vnt ?_
  refine vc_sr ?_
  iterate 2 refine vo ?_
  refine voc (c_copyInts_f (xs := xs)) rfl rfl ?_
  iterate 2 refine vo ?_
  refine vnt ?_
  refine vc_sr ?_
  iterate 2 refine vo ?_
  refine vnt ?_
  refine vc_ret ?_
  refine fin_i [(0, some 40)] rfl (fz ?_) (fz ?_) <;> first | trivial | rfl
set_option maxHeartbeats 4000000 in
theorem c_impl_FilterOk_0 {mac : Int} {pr : Bool}  : Con0 Try.prog 11 [.agg [V mac, VB pr, .nil]] (B (fltB mac ([] : List Int))) [] := by
  refine con_i Try.func11 Try.ntmps11 (t := [(0, .agg [V mac, VB pr, .nil])]) rfl ?_
  refine vc_sr ?_
  iterate 2 refine vo ?_
  refine vnt ?_
  refine vc_seq' ?_
  refine vc_sr ?_
  iterate 3 refine vo ?_
  try first | refine vlb ?_ | refine vln ?_
  refine vo ?_
  refine vnt ?_
  refine vc_block ?_
  refine vc_lp (σ := Nat) [1, 6, 7] [8] (fun i => [(8, I (i : Nat))]) (fun i => []) (fun i => i = 0) (fun i => 0 - i) 0 rfl rfl (sub_i [] (fz ?_) (fz ?_)) ?_ fun i hI => ?_
  · first | trivial | simp
  · first | trivial | simp
  · rfl
  refine vc_nf rfl rfl ?_
  refine vc_sr ?_
  refine vo ?_
  refine vnt ?_
  refine vc_seq' ?_
  refine vc_if (fun g1 => ?_) (fun g1 => ?_)
  · exact absurd g1 (by omega)
  · refine vc_exit ?_
    refine thn_x ?_
    refine thn_x ?_
    refine inB_x ?_
    refine thn ?_
    refine vc_sr ?_
    iterate 2 refine vo ?_
    refine voc c_impl_between rfl rfl ?_
    refine vo ?_
    refine vsp (fun g2 => ?_) (fun g2 => ?_)
    · iterate 3 refine von ?_
      try first | refine vlb ?_ | refine vln ?_
      refine von ?_
      iterate 2 refine vo ?_
      refine vnt ?_
      refine vc_ret ?_
      have hh := flt_y (mac := mac) (xs := ([] : List Int)) (i := 0) (by simp) (fun j h => nomatch h)
      rw [hh]
      refine fin_i [] rfl (fz ?_) trivial
      simp_all <;> omega
    · iterate 4 refine vof ?_
      iterate 2 refine vo ?_
      refine vnt ?_
      refine vc_ret ?_
      have hh := flt_y (mac := mac) (xs := ([] : List Int)) (i := 0) (by simp) (fun j h => nomatch h)
      rw [hh]
      refine fin_i [] rfl (fz ?_) trivial
      simp_all <;> omega
set_option maxHeartbeats 4000000 in
theorem c_impl_hasInt_0 {k : Int}  : Con0 Try.prog 16 [.one .nil, I k] (B (hvB ([] : List Int) k)) [] := by
  refine con_i Try.func16 Try.ntmps16 (t := [(0, .one .nil), (1, I k)]) rfl ?_
  refine vc_sr ?_
  refine vo ?_
  refine vnt ?_
  refine vc_seq' ?_
  refine vc_sr ?_
  iterate 2 refine vo ?_
  try first | refine vlb ?_ | refine vln ?_
  refine vo ?_
  refine vnt ?_
  refine vc_block ?_
  refine vc_lp (σ := Nat) [1, 7, 8] [] (fun i => [(9, I (i : Nat))]) (fun i => []) (fun i => i = 0) (fun i => 0 - i) 0 rfl rfl (sub_i [] (fz ?_) (fz ?_)) ?_ fun i hI => ?_
  · first | trivial | simp
  · first | trivial | simp
  · rfl
  refine vc_nf rfl rfl ?_
  refine vc_sr ?_
  refine vo ?_
  refine vnt ?_
  refine vc_seq' ?_
  refine vc_if (fun g1 => ?_) (fun g1 => ?_)
  · exact absurd g1 (by omega)
  · refine vc_exit ?_
    refine thn_x ?_
    refine thn_x ?_
    refine inB_x ?_
    refine thn ?_
    refine vc_sr ?_
    refine vo ?_
    refine vnt ?_
    refine vc_ret ?_
    have hh : hvB ([] : List Int) k = false := rfl
    rw [hh]
    refine fin_i [] rfl (fz ?_) (fz ?_) <;> first | trivial | rfl
set_option maxHeartbeats 4000000 in
theorem c_impl_copyInts_0  : Con0 Try.prog 29 [.one .nil] (.one (.hs 0)) [(0, .arr 3 1 (([] : List Int).map intE))] := by
  refine con_i Try.func29 Try.ntmps29 (t := [(0, .one .nil)]) rfl ?_
  refine vc_sr ?_
  refine vo ?_
  refine vnt ?_
  refine vc_sr ?_
  iterate 4 refine vo ?_
  refine vnt ?_
  refine vc_ret ?_
  refine fin_i [(0, some 40)] rfl (fz ?_) (fz ?_) <;> first | trivial | rfl
set_option maxHeartbeats 4000000 in
theorem c_impl_copyFilter_0 {mac : Int} {pr : Bool}  : Con0 Try.prog 15 [.agg [V mac, VB pr, .nil]] (.agg [V mac, VB pr, .hs 0]) [(0, .arr 3 1 ((([] : List Int)).map intE))] := by
  refine con_i Try.func15 Try.ntmps15 (t := [(0, .agg [V mac, VB pr, .nil])]) rfl ?_
  refine vc_sr ?_
  iterate 2 refine vo ?_
  refine vnt ?_
  refine vc_sr ?_
  iterate 2 refine vo ?_
  refine voc c_impl_copyInts_0 rfl rfl ?_
  iterate 2 refine vo ?_
  refine vnt ?_
  refine vc_sr ?_
  iterate 2 refine vo ?_
  refine vnt ?_
  refine vc_ret ?_
  refine fin_i [(0, some 40)] rfl (fz ?_) (fz ?_) <;> first | trivial | rfl
def acB (mac : Int) (pr : Bool) (xs : List Int) (dm vl : Int) : Bool := fltB mac xs && ((decide (dm = mac) || (decide (dm = 281474976710655) || pr)) && (decide (vl = -1) || hvB xs vl))
set_option maxHeartbeats 4000000 in
theorem c_impl_addOrdered_0 {k : Int} : Con0 Try.prog 17 [.one .nil, I k] (.one (.hs 0)) [(0, .arr 3 1 (([k] : List Int).map intE))] := by
  refine con_i Try.func17 Try.ntmps17 (t := [(0, .one .nil), (1, I k)]) rfl ?_
  refine vc_sr ?_
  refine vo ?_
  refine vnt ?_
  refine vc_sr ?_
  iterate 2 refine vo ?_
  refine vnt ?_
  refine vc_sr ?_
  refine vo ?_
  refine vnt ?_
  refine vc_seq' ?_
  refine vc_sr ?_
  iterate 2 refine vo ?_
  try first | refine vlb ?_ | refine vln ?_
  refine vo ?_
  refine vnt ?_
  refine vc_block ?_
  refine vc_lp (σ := Nat) [1, 10, 11] [] (fun i => [(5, .one (.hs 7)), (6, B false), (12, I (i : Nat))]) (fun i => [(7, .arr 3 1 (([] : List Int).map intE))]) (fun i => i = 0) (fun i => 0 - i) 0 rfl rfl (sub_i [(7, some 72)] (fz ?_) (fz ?_)) ?_ fun i hI => ?_
  · first | trivial | rfl
  · first | trivial | rfl
  · rfl
  refine vc_nf rfl rfl ?_
  refine vc_sr ?_
  refine vo ?_
  refine vnt ?_
  refine vc_seq' ?_
  refine vc_if (fun g1 => ?_) (fun g1 => ?_)
  · exact absurd g1 (by omega)
  · refine vc_exit ?_
    refine thn_x ?_
    refine thn_x ?_
    refine inB_x ?_
    refine thn ?_
    refine vc_seq' ?_
    refine vc_sr ?_
    iterate 2 refine vo ?_
    refine vnt ?_
    refine vc_then ?_
    refine vc_region ?_
    iterate 5 refine vo ?_
    refine vnt ?_
    refine vc_sr ?_
    iterate 2 refine vo ?_
    refine vnt ?_
    refine vc_ret ?_
    refine fin_i [(0, some 296)] rfl (fz ?_) (fz ?_) <;> first | trivial | rfl
set_option maxHeartbeats 4000000 in
theorem c_AddVlan_y {mac : Int} {pr : Bool} {k : Int} (h1 : fltB mac [] = true) (h2 : fltB mac [k] = true) : Con0 Try.prog 7 [.agg [V mac, VB pr, .nil], I k] (.tup [.agg [V mac, VB pr, .hs 0], B true]) [(0, .arr 3 1 (([k] : List Int).map intE))] := by
  refine con_i Try.func7 Try.ntmps7 (t := [(0, .agg [V mac, VB pr, .nil]), (1, I k)]) rfl ?_
  refine vc_sr ?_
  iterate 3 refine vo ?_
  refine vnt ?_
  refine vc_sr ?_
  refine vo ?_
  refine voc c_impl_copyFilter_0 rfl rfl ?_
  iterate 2 refine vo ?_
  refine vnt ?_
  refine vc_seq' ?_
  refine vc_sr ?_
  refine vo ?_
  refine voc c_impl_FilterOk_0 rfl rfl ?_
  iterate 2 refine vo ?_
  refine vsp (fun g1 => ?_) (fun g1 => ?_)
  · rw [h1] at g1; cases g1
  · iterate 3 refine von ?_
    refine vocn c_impl_hasInt_0 rfl rfl ?_
    refine vo ?_
    refine vnt ?_
    refine vc_if (fun g2 => ?_) (fun g2 => ?_)
    · exact absurd g2 (by simp [hvB])
    · refine vc_skip ?_
      refine thn ?_
      refine vc_sr ?_
      iterate 3 refine vo ?_
      refine voc c_impl_addOrdered_0 rfl rfl ?_
      iterate 2 refine vo ?_
      refine vnt ?_
      refine vc_seq' ?_
      refine vc_sr ?_
      refine vo ?_
      refine voc (c_impl_FilterOk (xs := [k])) rfl rfl ?_
      refine vo ?_
      refine vnt ?_
      refine vc_if (fun g3 => ?_) (fun g3 => ?_)
      · rw [h2] at g3; cases g3
      · refine vc_skip ?_
        refine thn ?_
        refine vc_sr ?_
        iterate 3 refine vo ?_
        refine vnt ?_
        refine vc_ret ?_
        refine fin_i [(0, some 176)] rfl (fz ?_) (fz ?_) <;> first | trivial | rfl
set_option maxHeartbeats 4000000 in
theorem c_AddVlan_n {mac : Int} {pr : Bool} {k : Int} {xs : List Int} (hl : xs.length ≤ 1000 := by first | with_reducible assumption | omega | (simp; done)) (h1 : fltB mac xs = true) (h2 : hvB xs k = true) : Con0 Try.prog 7 [.agg [V mac, VB pr, .sl 1 (xs.map intE)], I k] (.tup [.agg [V mac, VB pr, .hs 0], B false]) [(0, .arr 3 1 (xs.map intE))] := by
  refine con_i Try.func7 Try.ntmps7 (t := [(0, .agg [V mac, VB pr, .sl 1 (xs.map intE)]), (1, I k)]) rfl ?_
  refine vc_sr ?_
  iterate 3 refine vo ?_
  refine vnt ?_
  refine vc_sr ?_
  refine vo ?_
  refine voc c_impl_copyFilter rfl rfl ?_
  iterate 2 refine vo ?_
  refine vnt ?_
  refine vc_seq' ?_
  refine vc_sr ?_
  refine vo ?_
  refine voc c_impl_FilterOk rfl rfl ?_
  iterate 2 refine vo ?_
  refine vsp (fun g1 => ?_) (fun g1 => ?_)
  · rw [h1] at g1; cases g1
  · iterate 3 refine von ?_
    refine vocn c_impl_hasInt rfl rfl ?_
    refine vo ?_
    refine vnt ?_
    refine vc_if (fun g2 => ?_) (fun g2 => ?_)
    · refine vc_sr ?_
      iterate 3 refine vo ?_
      refine vnt ?_
      refine vc_ret ?_
      refine thn_r ?_
      refine fin_i [(0, some 64)] rfl (fz ?_) (fz ?_) <;> first | trivial | rfl
    · rw [h2] at g2; cases g2
set_option maxHeartbeats 4000000 in
theorem c_DropVlan_y {mac : Int} {pr : Bool} {k : Int} (h1 : fltB mac [k] = true) : Con0 Try.prog 8 [.agg [V mac, VB pr, .sl 1 (([k] : List Int).map intE)], I k] (.tup [.agg [V mac, VB pr, .hs 0], B true]) [(0, .arr 3 1 (([] : List Int).map intE))] := by
  have hh : hvB [k] k = true := by simp [hvB]
  refine con_i Try.func8 Try.ntmps8 (t := [(0, .agg [V mac, VB pr, .sl 1 (([k] : List Int).map intE)]), (1, I k)]) rfl ?_
  refine vc_sr ?_
  iterate 3 refine vo ?_
  refine vnt ?_
  refine vc_sr ?_
  refine vo ?_
  refine voc (c_impl_copyFilter (xs := [k])) rfl rfl ?_
  iterate 2 refine vo ?_
  refine vnt ?_
  refine vc_seq' ?_
  refine vc_sr ?_
  refine vo ?_
  refine voc (c_impl_FilterOk (xs := [k])) rfl rfl ?_
  iterate 2 refine vo ?_
  refine vsp (fun g1 => ?_) (fun g1 => ?_)
  · rw [h1] at g1; cases g1
  · iterate 3 refine von ?_
    refine vocn (c_impl_hasInt (xs := [k])) rfl rfl ?_
    refine von ?_
    refine vo ?_
    refine vnt ?_
    refine vc_if (fun g2 => ?_) (fun g2 => ?_)
    · rw [hh] at g2; cases g2
    · refine vc_skip ?_
      refine thn ?_
      refine vc_sr ?_
      iterate 3 refine vo ?_
      refine vnt ?_
      refine vc_seq' ?_
      refine vc_sr ?_
      iterate 3 refine vo ?_
      try first | refine vlb ?_ | refine vln ?_
      refine vo ?_
      refine vnt ?_
      refine vc_block ?_
      refine vc_lp (σ := Nat) [1, 4, 6, 25, 26] [32] (fun i => [(27, I (i : Nat))]) (fun i => [(7, .arr 3 1 (([] : List Int).map intE)), (48, .row 38 [V mac, VB pr, .hs 7])]) (fun i => i ≤ 1) (fun i => 1 - i) 0 rfl rfl (sub_i [(48, some 48), (7, some 176)] (fz ?_) (fz ?_)) ?_ fun i hI => ?_
      · first | trivial | rfl
      · first | trivial | rfl
      · omega
      refine vc_nf rfl rfl ?_
      refine vc_sr ?_
      refine vo ?_
      refine vnt ?_
      refine vc_seq' ?_
      refine vc_if (fun g3 => ?_) (fun g3 => ?_)
      · refine vc_skip ?_
        refine thn ?_
        refine vc_seq' ?_
        refine vc_block ?_
        refine vc_sr ?_
        refine vo ?_
        try with_reducible (first | refine vep ?_ | refine vpt ?_)
        iterate 2 refine vo ?_
        refine vnt ?_
        refine vc_sr ?_
        iterate 3 refine vo ?_
        refine vnt ?_
        refine vc_if (fun g4 => ?_) (fun g4 => ?_)
        · (have hi : i = 0 := (by omega)); subst hi; exact absurd rfl g4
        · refine vc_skip ?_
          refine inB_n ?_
          refine thn ?_
          refine vc_region ?_
          refine vo ?_
          try refine vwr ?_
          refine vo ?_
          refine vnt ?_
          refine ⟨i + 1, by omega, by omega, sub_i [(48, some 48), (7, some 7)] (fz ?_) (fz ?_)⟩
          · first | trivial | rfl | omega
          · first | trivial | rfl
      · refine vc_exit ?_
        refine thn_x ?_
        refine thn_x ?_
        refine inB_x ?_
        refine thn ?_
        refine vc_sr ?_
        iterate 3 refine vo ?_
        refine vnt ?_
        refine vc_ret ?_
        refine fin_i [(0, some 7)] rfl (fz ?_) (fz ?_) <;> first | trivial | rfl
set_option maxHeartbeats 4000000 in
theorem c_impl_Accepts {mac : Int} {pr : Bool} {p : Pk} {xs : List Int} (hl : xs.length ≤ 1000 := by first | with_reducible assumption | omega | (simp; done)) : Con0 Try.prog 9 [.agg [V mac, VB pr, .sl 1 (xs.map intE)], .agg [V (p).dm, V (p).sm, V (p).vl, V (p).tos, V (p).id, V (p).ttl, V (p).si, V (p).di, V (p).kind, V (p).sp, V (p).dp, V (p).seq, V (p).ack, V (p).fl, V (p).win, VS (p).body]] (B (acB mac pr xs p.dm p.vl)) [] := by
  refine con_i Try.func9 Try.ntmps9 (t := [(0, .agg [V mac, VB pr, .sl 1 (xs.map intE)]), (1, .agg [V (p).dm, V (p).sm, V (p).vl, V (p).tos, V (p).id, V (p).ttl, V (p).si, V (p).di, V (p).kind, V (p).sp, V (p).dp, V (p).seq, V (p).ack, V (p).fl, V (p).win, VS (p).body])]) rfl ?_
  refine vc_sr ?_
  iterate 3 refine vo ?_
  refine vnt ?_
  refine vc_sr ?_
  refine vo ?_
  refine voc c_impl_FilterOk rfl rfl ?_
  refine vo ?_
  refine vsp (fun g1 => ?_) (fun g1 => ?_)
  · iterate 6 refine von ?_
    refine vsp (fun g2 => ?_) (fun g2 => ?_)
    · iterate 3 refine vof ?_
      iterate 2 refine von ?_
      iterate 2 refine vof ?_
      refine von ?_
      iterate 2 refine vo ?_
      iterate 4 refine von ?_
      refine vsp (fun g3 => ?_) (fun g3 => ?_)
      · iterate 5 refine vof ?_
        refine von ?_
        iterate 2 refine vo ?_
        refine vnt ?_
        refine vc_ret ?_
        refine fin_i [] rfl (fz ?_) trivial
        simp_all [acB]
      · iterate 4 refine von ?_
        refine vocn c_impl_hasInt rfl rfl ?_
        refine von ?_
        iterate 2 refine vo ?_
        refine vnt ?_
        refine vc_ret ?_
        refine fin_i [] rfl (fz ?_) trivial
        simp_all [acB]
    · iterate 5 refine von ?_
      refine vsp (fun g4 => ?_) (fun g4 => ?_)
      · iterate 2 refine vof ?_
        refine von ?_
        iterate 2 refine vo ?_
        iterate 4 refine von ?_
        refine vsp (fun g5 => ?_) (fun g5 => ?_)
        · iterate 5 refine vof ?_
          refine von ?_
          iterate 2 refine vo ?_
          refine vnt ?_
          refine vc_ret ?_
          refine fin_i [] rfl (fz ?_) trivial
          simp_all [acB]
        · iterate 4 refine von ?_
          refine vocn c_impl_hasInt rfl rfl ?_
          refine von ?_
          iterate 2 refine vo ?_
          refine vnt ?_
          refine vc_ret ?_
          refine fin_i [] rfl (fz ?_) trivial
          simp_all [acB]
      · iterate 3 refine von ?_
        iterate 2 refine vo ?_
        refine vsp (fun g6 => ?_) (fun g6 => ?_)
        · iterate 4 refine von ?_
          refine vsp (fun g7 => ?_) (fun g7 => ?_)
          · iterate 5 refine vof ?_
            refine von ?_
            iterate 2 refine vo ?_
            refine vnt ?_
            refine vc_ret ?_
            refine fin_i [] rfl (fz ?_) trivial
            simp_all [acB]
          · iterate 4 refine von ?_
            refine vocn c_impl_hasInt rfl rfl ?_
            refine von ?_
            iterate 2 refine vo ?_
            refine vnt ?_
            refine vc_ret ?_
            refine fin_i [] rfl (fz ?_) trivial
            simp_all [acB]
        · iterate 10 refine vof ?_
          iterate 2 refine vo ?_
          refine vnt ?_
          refine vc_ret ?_
          refine fin_i [] rfl (fz ?_) trivial
          simp_all [acB]
  · iterate 14 refine vof ?_
    iterate 2 refine vo ?_
    iterate 10 refine vof ?_
    iterate 2 refine vo ?_
    refine vnt ?_
    refine vc_ret ?_
    refine fin_i [] rfl (fz ?_) trivial
    simp_all [acB]
set_option maxHeartbeats 4000000 in
theorem c_impl_Accepts_0 {mac : Int} {pr : Bool} {p : Pk}  : Con0 Try.prog 9 [.agg [V mac, VB pr, .nil], .agg [V (p).dm, V (p).sm, V (p).vl, V (p).tos, V (p).id, V (p).ttl, V (p).si, V (p).di, V (p).kind, V (p).sp, V (p).dp, V (p).seq, V (p).ack, V (p).fl, V (p).win, VS (p).body]] (B (acB mac pr ([] : List Int) p.dm p.vl)) [] := by
  refine con_i Try.func9 Try.ntmps9 (t := [(0, .agg [V mac, VB pr, .nil]), (1, .agg [V (p).dm, V (p).sm, V (p).vl, V (p).tos, V (p).id, V (p).ttl, V (p).si, V (p).di, V (p).kind, V (p).sp, V (p).dp, V (p).seq, V (p).ack, V (p).fl, V (p).win, VS (p).body])]) rfl ?_
  refine vc_sr ?_
  iterate 3 refine vo ?_
  refine vnt ?_
  refine vc_sr ?_
  refine vo ?_
  refine voc c_impl_FilterOk_0 rfl rfl ?_
  refine vo ?_
  refine vsp (fun g1 => ?_) (fun g1 => ?_)
  · iterate 6 refine von ?_
    refine vsp (fun g2 => ?_) (fun g2 => ?_)
    · iterate 3 refine vof ?_
      iterate 2 refine von ?_
      iterate 2 refine vof ?_
      refine von ?_
      iterate 2 refine vo ?_
      iterate 4 refine von ?_
      refine vsp (fun g3 => ?_) (fun g3 => ?_)
      · iterate 5 refine vof ?_
        refine von ?_
        iterate 2 refine vo ?_
        refine vnt ?_
        refine vc_ret ?_
        refine fin_i [] rfl (fz ?_) trivial
        simp_all [acB]
      · iterate 4 refine von ?_
        refine vocn c_impl_hasInt_0 rfl rfl ?_
        refine von ?_
        iterate 2 refine vo ?_
        refine vnt ?_
        refine vc_ret ?_
        refine fin_i [] rfl (fz ?_) trivial
        simp_all [acB]
    · iterate 5 refine von ?_
      refine vsp (fun g4 => ?_) (fun g4 => ?_)
      · iterate 2 refine vof ?_
        refine von ?_
        iterate 2 refine vo ?_
        iterate 4 refine von ?_
        refine vsp (fun g5 => ?_) (fun g5 => ?_)
        · iterate 5 refine vof ?_
          refine von ?_
          iterate 2 refine vo ?_
          refine vnt ?_
          refine vc_ret ?_
          refine fin_i [] rfl (fz ?_) trivial
          simp_all [acB]
        · iterate 4 refine von ?_
          refine vocn c_impl_hasInt_0 rfl rfl ?_
          refine von ?_
          iterate 2 refine vo ?_
          refine vnt ?_
          refine vc_ret ?_
          refine fin_i [] rfl (fz ?_) trivial
          simp_all [acB]
      · iterate 3 refine von ?_
        iterate 2 refine vo ?_
        refine vsp (fun g6 => ?_) (fun g6 => ?_)
        · iterate 4 refine von ?_
          refine vsp (fun g7 => ?_) (fun g7 => ?_)
          · iterate 5 refine vof ?_
            refine von ?_
            iterate 2 refine vo ?_
            refine vnt ?_
            refine vc_ret ?_
            refine fin_i [] rfl (fz ?_) trivial
            simp_all [acB]
          · iterate 4 refine von ?_
            refine vocn c_impl_hasInt_0 rfl rfl ?_
            refine von ?_
            iterate 2 refine vo ?_
            refine vnt ?_
            refine vc_ret ?_
            refine fin_i [] rfl (fz ?_) trivial
            simp_all [acB]
        · iterate 10 refine vof ?_
          iterate 2 refine vo ?_
          refine vnt ?_
          refine vc_ret ?_
          refine fin_i [] rfl (fz ?_) trivial
          simp_all [acB]
  · iterate 14 refine vof ?_
    iterate 2 refine vo ?_
    iterate 10 refine vof ?_
    iterate 2 refine vo ?_
    refine vnt ?_
    refine vc_ret ?_
    refine fin_i [] rfl (fz ?_) trivial
    simp_all [acB]
def accL (mac : Int) (pr : Bool) (xs : List Int) (L : List Pk) : List Pk := L.filter fun p => acB mac pr xs p.dm p.vl
theorem acc_y {mac : Int} {pr : Bool} {xs : List Int} {L : List Pk} {i : Nat} (hi : i < L.length) (h : acB mac pr xs (at' L i).dm (at' L i).vl = true) : (accL mac pr xs (L.take i)).map pkE ++ [pkE (at' L i)] = (accL mac pr xs (L.take (i + 1))).map pkE := by
  rw [List.take_succ_eq_append_getElem hi, ← atp_eq hi]
  unfold accL
  rw [List.filter_append, List.map_append]
  simp [h]
theorem acc_n {mac : Int} {pr : Bool} {xs : List Int} {L : List Pk} {i : Nat} (hi : i < L.length) (h : acB mac pr xs (at' L i).dm (at' L i).vl = false) : accL mac pr xs (L.take i) = accL mac pr xs (L.take (i + 1)) := by
  rw [List.take_succ_eq_append_getElem hi, ← atp_eq hi]
  unfold accL
  rw [List.filter_append]
  simp [h]
theorem acc_le (mac : Int) (pr : Bool) (xs : List Int) (L : List Pk) : (accL mac pr xs L).length ≤ L.length := List.length_filter_le _ _
set_option maxHeartbeats 4000000 in
theorem c_impl_AcceptedPackets {mac : Int} {pr : Bool} {L : List Pk} (hL : L.length ≤ 1000 := by first | with_reducible assumption | omega) {xs : List Int} (hl : xs.length ≤ 1000 := by first | with_reducible assumption | omega | (simp; done)) : Con0 Try.prog 10 [.agg [V mac, VB pr, .sl 1 (xs.map intE)], .one (.sl 16 (L.map pkE))] (.one (.hs 0)) [(0, .arr 45 16 ((accL mac pr xs L).map pkE))] := by
  refine con_i Try.func10 Try.ntmps10 (t := [(0, .agg [V mac, VB pr, .sl 1 (xs.map intE)]), (1, .one (.sl 16 (L.map pkE)))]) rfl ?_
  refine vc_sr ?_
  iterate 2 refine vo ?_
  refine vnt ?_
  refine vc_sr ?_
  iterate 2 refine vo ?_
  refine vnt ?_
  refine vc_seq' ?_
  refine vc_sr ?_
  iterate 2 refine vo ?_
  try first | refine vlb ?_ | refine vln ?_
  refine vo ?_
  refine vnt ?_
  refine vc_block ?_
  refine vc_lp (σ := Nat) [2, 9, 10] [16] (fun i => [(5, .one (.hs 7)), (11, I (i : Nat))]) (fun i => [(7, .arr 45 16 ((accL mac pr xs (L.take i)).map pkE))]) (fun i => i ≤ L.length) (fun i => L.length - i) 0 rfl rfl (sub_i [(7, some 64)] (fz ?_) (fz ?_)) ?_ fun i hI => ?_
  · first | trivial | rfl
  · first | trivial | rfl
  · exact Nat.zero_le _
  refine vc_nf rfl rfl ?_
  have hal := acc_le mac pr xs (L.take i)
  rw [List.length_take] at hal
  refine vc_sr ?_
  refine vo ?_
  refine vnt ?_
  refine vc_seq' ?_
  refine vc_if (fun g1 => ?_) (fun g1 => ?_)
  · refine vc_skip ?_
    refine thn ?_
    refine vc_seq' ?_
    refine vc_block ?_
    refine vc_sr ?_
    refine vo ?_
    try with_reducible (first | refine vep ?_ | refine vpt ?_)
    iterate 3 refine vo ?_
    refine vnt ?_
    refine vc_sr ?_
    iterate 2 refine vo ?_
    refine voc (c_impl_Accepts (p := at' L i)) rfl rfl ?_
    refine vnt ?_
    refine vc_if (fun g2 => ?_) (fun g2 => ?_)
    · refine vc_region ?_
      iterate 5 refine vo ?_
      refine vnil ?_
      refine inB_n ?_
      refine thn ?_
      refine vc_region ?_
      refine vo ?_
      try refine vwr ?_
      refine vo ?_
      refine vnt ?_
      refine ⟨i + 1, by omega, by omega, sub_i [(7, some 168)] (fz ?_) (fz ?_)⟩
      · first | trivial | rfl | omega | trace_state
      · exact (acc_y (by omega) g2).symm
    · refine vc_skip ?_
      refine inB_n ?_
      refine thn ?_
      refine vc_region ?_
      refine vo ?_
      try refine vwr ?_
      refine vo ?_
      refine vnt ?_
      refine ⟨i + 1, by omega, by omega, sub_i [(7, some 7)] (fz ?_) (fz ?_)⟩
      · first | trivial | rfl | omega | trace_state
      · rw [acc_n (by omega) g2]
  · refine vc_exit ?_
    refine thn_x ?_
    refine thn_x ?_
    refine inB_x ?_
    refine thn ?_
    refine vc_sr ?_
    iterate 2 refine vo ?_
    refine vnt ?_
    refine vc_ret ?_
    have hi : i = L.length := by omega
    subst hi
    rw [List.take_length] at *
    refine fin_i [(0, some 7)] rfl (fz ?_) (fz ?_) <;> first | trivial | rfl | trace_state
set_option maxHeartbeats 4000000 in
theorem c_impl_AcceptedPackets_0 {mac : Int} {pr : Bool} {L : List Pk} (hL : L.length ≤ 1000 := by first | with_reducible assumption | omega)  : Con0 Try.prog 10 [.agg [V mac, VB pr, .nil], .one (.sl 16 (L.map pkE))] (.one (.hs 0)) [(0, .arr 45 16 ((accL mac pr ([] : List Int) L).map pkE))] := by
  refine con_i Try.func10 Try.ntmps10 (t := [(0, .agg [V mac, VB pr, .nil]), (1, .one (.sl 16 (L.map pkE)))]) rfl ?_
  refine vc_sr ?_
  iterate 2 refine vo ?_
  refine vnt ?_
  refine vc_sr ?_
  iterate 2 refine vo ?_
  refine vnt ?_
  refine vc_seq' ?_
  refine vc_sr ?_
  iterate 2 refine vo ?_
  try first | refine vlb ?_ | refine vln ?_
  refine vo ?_
  refine vnt ?_
  refine vc_block ?_
  refine vc_lp (σ := Nat) [2, 9, 10] [16] (fun i => [(5, .one (.hs 7)), (11, I (i : Nat))]) (fun i => [(7, .arr 45 16 ((accL mac pr ([] : List Int) (L.take i)).map pkE))]) (fun i => i ≤ L.length) (fun i => L.length - i) 0 rfl rfl (sub_i [(7, some 64)] (fz ?_) (fz ?_)) ?_ fun i hI => ?_
  · first | trivial | rfl
  · first | trivial | rfl
  · exact Nat.zero_le _
  refine vc_nf rfl rfl ?_
  have hal := acc_le mac pr ([] : List Int) (L.take i)
  rw [List.length_take] at hal
  refine vc_sr ?_
  refine vo ?_
  refine vnt ?_
  refine vc_seq' ?_
  refine vc_if (fun g1 => ?_) (fun g1 => ?_)
  · refine vc_skip ?_
    refine thn ?_
    refine vc_seq' ?_
    refine vc_block ?_
    refine vc_sr ?_
    refine vo ?_
    try with_reducible (first | refine vep ?_ | refine vpt ?_)
    iterate 3 refine vo ?_
    refine vnt ?_
    refine vc_sr ?_
    iterate 2 refine vo ?_
    refine voc (c_impl_Accepts_0 (p := at' L i)) rfl rfl ?_
    refine vnt ?_
    refine vc_if (fun g2 => ?_) (fun g2 => ?_)
    · refine vc_region ?_
      iterate 5 refine vo ?_
      refine vnil ?_
      refine inB_n ?_
      refine thn ?_
      refine vc_region ?_
      refine vo ?_
      try refine vwr ?_
      refine vo ?_
      refine vnt ?_
      refine ⟨i + 1, by omega, by omega, sub_i [(7, some 168)] (fz ?_) (fz ?_)⟩
      · first | trivial | rfl | omega | trace_state
      · exact (acc_y (by omega) g2).symm
    · refine vc_skip ?_
      refine inB_n ?_
      refine thn ?_
      refine vc_region ?_
      refine vo ?_
      try refine vwr ?_
      refine vo ?_
      refine vnt ?_
      refine ⟨i + 1, by omega, by omega, sub_i [(7, some 7)] (fz ?_) (fz ?_)⟩
      · first | trivial | rfl | omega | trace_state
      · rw [acc_n (by omega) g2]
  · refine vc_exit ?_
    refine thn_x ?_
    refine thn_x ?_
    refine inB_x ?_
    refine thn ?_
    refine vc_sr ?_
    iterate 2 refine vo ?_
    refine vnt ?_
    refine vc_ret ?_
    have hi : i = L.length := by omega
    subst hi
    rw [List.take_length] at *
    refine fin_i [(0, some 7)] rfl (fz ?_) (fz ?_) <;> first | trivial | rfl | trace_state
end Go.Proofs.Ytfcmcedeapgdcaa
end
section
namespace Go.Proofs.Ytfcmcedeapgdcaa
open Go Go.RowKit Go.Vc
set_option linter.unusedVariables false
set_option linter.unusedSimpArgs false
set_option linter.unnecessarySimpa false
def bitF (s : ByteArray) (i : Nat) : Nat := bAt s (i / 8) / 2 ^ (7 - i % 8) % 2
def kwF (key : ByteArray) (b : Nat) : Nat → Nat
  | 0 => 0
  | n + 1 => 2 * kwF key b n + bitF key (b + n)
def hashF (key x : ByteArray) : Nat → Int
  | 0 => 0
  | n + 1 => if bitF x n = 1 then xorI (hashF key x n) (kwF key n 32) else hashF key x n
def hinF (si di sp dp : Int) : ByteArray := word32 si ++ word32 di ++ word16 sp ++ word16 dp
def hflF (key : ByteArray) (si di sp dp : Int) : Int := hashF key (hinF si di sp dp) (8 * (hinF si di sp dp).size)
end Go.Proofs.Ytfcmcedeapgdcaa
end
section
namespace Go.Vc
open Go Go.RowKit
set_option linter.unusedVariables false
set_option linter.unusedSectionVars false
set_option linter.unusedSimpArgs false
set_option linter.unnecessarySimpa false
def fldK (g : TypeId → Option (List Nat)) (sz : TypeId → Option Nat) : Nat → List Field → Option (List Nat)
  | _, [] => some []
  | off, f :: fs => if f.name = "_" then none else if f.offset = off then match g f.type with
    | some k1 => if sz f.type = some k1.length then match fldK g sz (off + k1.length) fs with
      | some k2 => some (k1 ++ k2)
      | none => none else none
    | none => none else none
def szT (P : Program) [TyEnv P] (T : TypeId) : Option Nat := (TyEnv.ti P T).map (·.size)
def ksOf (P : Program) [TyEnv P] : Nat → TypeId → Option (List Nat)
  | 0, _ => none
  | d + 1, T => match TyEnv.ti P T with
    | some i => match i.k with
      | .int .i64 => some [0]
      | .bool => some [1]
      | .str => some [2]
      | .struct _ => if P.stoodInHeld T then none else fldK (ksOf P d) (szT P) 0 (P.fieldsOf T).toList
      | _ => none
    | none => none
def rowT (P : Program) [TyEnv P] (T : TypeId) : Bool := match TyEnv.ti P T with
  | some i => i.k.row
  | none => false
def VL (row : Bool) (xs : List Value) (v : Value) : Prop := if row then v = .agg xs.toArray else xs = [v]
theorem kd_0 {a : Value} (h : kd a = 0) : ∃ x, a = .int .i64 x := by
  cases a <;> simp [kd] at h
  rename_i k n
  cases k <;> simp [kd] at h
  exact ⟨n, rfl⟩
theorem kd_1 {a : Value} (h : kd a = 1) : ∃ x, a = .bool x := by
  cases a <;> simp [kd] at h
  · exact ⟨_, rfl⟩
  · rename_i k n; cases k <;> simp [kd] at h
theorem kd_2 {a : Value} (h : kd a = 2) : ∃ x, a = .string x := by
  cases a <;> simp [kd] at h
  · rename_i k n; cases k <;> simp [kd] at h
  · exact ⟨_, rfl⟩
theorem ceqV_app : ∀ (k1 : List Nat) {a1 b1 a2 b2 : List Value}, (∀ k ∈ k1, k < 3) → a1.map kd = k1 → b1.map kd = k1 → ceqV (a1 ++ a2) (b1 ++ b2) = (ceqV a1 b1 && ceqV a2 b2)
  | [], [], [], _, _, _, _, _ => by simp [ceqV]
  | k :: k1, a :: a1, b :: b1, a2, b2, h, ha, hb => by
    simp only [List.map_cons, List.cons.injEq] at ha hb
    have ih := ceqV_app k1 (a2 := a2) (b2 := b2) (fun k hk => h k (List.mem_cons_of_mem _ hk)) ha.2 hb.2
    have hk := h k (List.mem_cons_self ..)
    have : k = 0 ∨ k = 1 ∨ k = 2 := by omega
    rcases this with rfl | rfl | rfl
    · obtain ⟨x, rfl⟩ := kd_0 ha.1
      obtain ⟨y, rfl⟩ := kd_0 hb.1
      simp only [List.cons_append, ceqV, ih, Bool.and_assoc]
    · obtain ⟨x, rfl⟩ := kd_1 ha.1
      obtain ⟨y, rfl⟩ := kd_1 hb.1
      simp only [List.cons_append, ceqV, ih, Bool.and_assoc]
    · obtain ⟨x, rfl⟩ := kd_2 ha.1
      obtain ⟨y, rfl⟩ := kd_2 hb.1
      simp only [List.cons_append, ceqV, ih, Bool.and_assoc]
section
variable {P : Program} [TyEnv P]
theorem fldK_lt {g : TypeId → Option (List Nat)} {sz : TypeId → Option Nat} (hg : ∀ T ks, g T = some ks → ∀ k ∈ ks, k < 3) : ∀ {fs : List Field} {off : Nat} {ks : List Nat}, fldK g sz off fs = some ks → ∀ k ∈ ks, k < 3
  | [], _, _, h => by simp only [fldK, Option.some.injEq] at h; subst h; simp
  | f :: fs, off, ks, h => by
    simp only [fldK] at h
    split at h
    · cases h
    · split at h
      · split at h
        · rename_i k1 h1
          split at h
          · split at h
            · rename_i k2 h2
              simp only [Option.some.injEq] at h
              subst h
              intro k hk
              rcases List.mem_append.1 hk with hk | hk
              · exact hg _ _ h1 k hk
              · exact fldK_lt hg h2 k hk
            · cases h
          · cases h
        · cases h
      · cases h
theorem ksOf_lt : ∀ {d : Nat} {T : TypeId} {ks : List Nat}, ksOf P d T = some ks → ∀ k ∈ ks, k < 3
  | d + 1, T, ks, h => by
    simp only [ksOf] at h
    split at h
    · split at h
      · simp only [Option.some.injEq] at h; subst h; simp
      · simp only [Option.some.injEq] at h; subst h; simp
      · simp only [Option.some.injEq] at h; subst h; simp
      · split at h
        · cases h
        · exact fldK_lt (fun T ks h => ksOf_lt (d := d) h) h
      · cases h
    · cases h
theorem part_ok {T : TypeId} {i : TyI} (hi : TyEnv.ti P T = some i) {xs : List Value} {off : Nat} (h : off + i.size ≤ xs.length) (w : World) : ∃ v, (part T xs.toArray off).run P w = .ok v w ∧ VL i.k.row ((xs.drop off).take i.size) v := by
  obtain ⟨d, hu, hr⟩ := ty_und hi
  cases hrow : i.k.row with
  | true =>
    have hagg : (isAgg T).run P w = .ok true w := by
      unfold isAgg
      rw [Sem.run_bind, run_underlying hu w]
      rw [hrow] at hr
      cases d <;> first | rfl | (cases hr)
    have hz : (Go.sizeOf T).run P w = .ok i.size w := by
      obtain ⟨inf, h1, h2⟩ := Option.map_eq_some_iff.1 (ty_size hi)
      simp [sizeOf, typeInfo, h1, h2]
    refine ⟨.agg (xs.toArray.extract off (off + i.size)), ?_, ?_⟩
    · simp [part, Sem.run_bind, hagg, hz]
    · simp only [VL, if_true]
      congr 1
      rw [List.extract_toArray]
      simp [List.extract, Nat.add_sub_cancel_left]
  | false =>
    have hagg : (isAgg T).run P w = .ok false w := by
      unfold isAgg
      rw [Sem.run_bind, run_underlying hu w]
      rw [hrow] at hr
      cases d <;> first | rfl | (cases hr)
    have h1 := ty_one hi hrow
    have hx : xs[off]? = some (xs[off]'(by omega)) := List.getElem?_eq_getElem (by omega)
    refine ⟨xs[off]'(by omega), ?_, ?_⟩
    · simp [part, Sem.run_bind, hagg, hx]
    · simp only [VL, Bool.false_eq_true, if_false]
      rw [h1, List.drop_eq_getElem_cons (by omega)]; rfl
def EqD (P : Program) [TyEnv P] (N : Nat) (T : TypeId) (ks : List Nat) : Prop := ∀ (w : World) (xs ys : List Value) (u v : Value), xs.map kd = ks → ys.map kd = ks → VL (rowT P T) xs u → VL (rowT P T) ys v → (Op.equalIn N T u v).run P w = .ok (ceqV xs ys) w
theorem flds_ok {N : Nat} {g : TypeId → Option (List Nat)} (hg : ∀ T ks, g T = some ks → EqD P N T ks ∧ ∀ k ∈ ks, k < 3) : ∀ {fs : List Field} {off : Nat} {ks : List Nat}, fldK g (szT P) off fs = some ks → ∀ (w : World) (xs ys : List Value), (xs.drop off).map kd = ks → (ys.drop off).map kd = ks → (Op.eqFields N xs.toArray ys.toArray fs).run P w = .ok (ceqV (xs.drop off) (ys.drop off)) w
  | [], off, ks, h, w, xs, ys, hx, hy => by
    simp only [fldK, Option.some.injEq] at h
    subst h
    have e1 : xs.drop off = [] := by simpa using hx
    have e2 : ys.drop off = [] := by simpa using hy
    simp [Op.eqFields, e1, e2, ceqV]
  | f :: fs, off, ks, h, w, xs, ys, hx, hy => by
    simp only [fldK] at h
    split at h
    · cases h
    · rename_i hn
      split at h
      · rename_i ho
        split at h
        · rename_i k1 h1
          split at h
          · rename_i hs
            split at h
            · rename_i k2 h2
              simp only [Option.some.injEq] at h
              subst h
              obtain ⟨i, hi, hsz⟩ := Option.map_eq_some_iff.1 hs
              have lx := congrArg List.length hx
              have ly := congrArg List.length hy
              simp only [List.length_map, List.length_drop, List.length_append] at lx ly
              have hpos := ty_pos hi
              obtain ⟨u, u1, u2⟩ := part_ok hi (xs := xs) (off := off) (by omega) w
              obtain ⟨v, v1, v2⟩ := part_ok hi (xs := ys) (off := off) (by omega) w
              have hrow : rowT P f.type = i.k.row := by unfold rowT; rw [hi]
              have sx : xs.drop off = (xs.drop off).take i.size ++ xs.drop (off + i.size) := by rw [← List.drop_drop]; exact (List.take_append_drop _ _).symm
              have sy : ys.drop off = (ys.drop off).take i.size ++ ys.drop (off + i.size) := by rw [← List.drop_drop]; exact (List.take_append_drop _ _).symm
              rw [sx, List.map_append] at hx
              rw [sy, List.map_append] at hy
              have hx' := List.append_inj hx (by rw [List.length_map, List.length_take, List.length_drop]; omega)
              have hy' := List.append_inj hy (by rw [List.length_map, List.length_take, List.length_drop]; omega)
              obtain ⟨gE, gl⟩ := hg _ _ h1
              have hr := gE w _ _ u v hx'.1 hy'.1 (by rw [hrow]; exact u2) (by rw [hrow]; exact v2)
              have ih := flds_ok hg h2 w xs ys (by rw [← hsz]; exact hx'.2) (by rw [← hsz]; exact hy'.2)
              simp only [Op.eqFields]
              rw [if_pos hn, ho]
              simp only [Sem.run_bind, u1, v1, hr, Result.andThen_ok]
              have hc : ceqV (xs.drop off) (ys.drop off) = (ceqV ((xs.drop off).take i.size) ((ys.drop off).take i.size) && ceqV (xs.drop (off + i.size)) (ys.drop (off + i.size))) := by
                rw [sx, sy]
                have := ceqV_app k1 (a2 := xs.drop (off + i.size)) (b2 := ys.drop (off + i.size)) gl hx'.1 hy'.1
                rw [← sx, ← sy] at this ⊢
                exact this
              rw [hc]
              cases hb : ceqV ((xs.drop off).take i.size) ((ys.drop off).take i.size) with
              | false => simp
              | true =>
                simp only [Bool.not_true, Bool.false_eq_true, if_false, Bool.true_and]
                rw [hsz]; exact ih
            · cases h
          · cases h
        · cases h
      · cases h
theorem ksOf_ok : ∀ {d N : Nat} {T : TypeId} {ks : List Nat}, ksOf P d T = some ks → d ≤ N → EqD P N T ks
  | d + 1, 0, T, ks, h, hN => by omega
  | d + 1, N + 1, T, ks, h, hN => by
    intro w xs ys u v hx hy hu hv
    simp only [ksOf] at h
    split at h
    · rename_i i hi
      have hrow : rowT P T = i.k.row := by unfold rowT; rw [hi]
      rw [hrow] at hu hv
      have hkind := ty_kind hi
      split at h
      · rename_i hk
        simp only [Option.some.injEq] at h; subst h
        rw [hk] at hu hv hkind
        simp only [VL, TK.row, Bool.false_eq_true, if_false] at hu hv
        subst hu hv
        simp only [List.map_cons, List.map_nil, List.cons.injEq, and_true] at hx hy
        obtain ⟨a, rfl⟩ := kd_0 hx
        obtain ⟨b, rfl⟩ := kd_0 hy
        rw [run_equalIn_int w N T _ _ a b hkind]
        simp only [ceqV, Bool.and_true]
        congr 1
      · rename_i hk
        simp only [Option.some.injEq] at h; subst h
        rw [hk] at hu hv hkind
        simp only [VL, TK.row, Bool.false_eq_true, if_false] at hu hv
        subst hu hv
        simp only [List.map_cons, List.map_nil, List.cons.injEq, and_true] at hx hy
        obtain ⟨a, rfl⟩ := kd_1 hx
        obtain ⟨b, rfl⟩ := kd_1 hy
        rw [run_equalIn_bool' w N T a b hkind]
        simp only [ceqV, Bool.and_true]
      · rename_i hk
        simp only [Option.some.injEq] at h; subst h
        rw [hk] at hu hv hkind
        simp only [VL, TK.row, Bool.false_eq_true, if_false] at hu hv
        subst hu hv
        simp only [List.map_cons, List.map_nil, List.cons.injEq, and_true] at hx hy
        obtain ⟨a, rfl⟩ := kd_2 hx
        obtain ⟨b, rfl⟩ := kd_2 hy
        rw [run_equalIn_string w N T a b hkind, str_beq]
        simp only [ceqV, Bool.and_true]
      · rename_i fs hk
        split at h
        · cases h
        · rename_i hst
          rw [hk] at hu hv hkind
          simp only [VL, TK.row, if_true] at hu hv
          subst hu hv
          rw [run_equalIn_struct w N T _ _ hkind.1 (by simpa using hst)]
          have := flds_ok (N := N) (g := ksOf P d) (fun T ks h => ⟨ksOf_ok h (by omega), ksOf_lt h⟩) h w xs ys (by rw [List.drop_zero]; exact hx) (by rw [List.drop_zero]; exact hy)
          rw [List.drop_zero, List.drop_zero] at this
          exact this
      · cases h
    · cases h
theorem eqOk_of {T : TypeId} {ks : List Nat} (d : Nat) (h : ksOf P d T = some ks) (hd : d ≤ 10000) (hr : rowT P T = true) (hg : P.eqGuardType P.depth T = false) : EqOk P T ks := by
  refine ⟨hg, fun w xs ys hx hy => ?_⟩
  have := ksOf_ok h hd w xs ys _ _ hx hy (by rw [hr]; exact rfl) (by rw [hr]; exact rfl)
  simpa [Op.equal, Op.maxDepth] using this
end
end Go.Vc
end
section
namespace Go.Proofs.Ytfcmcedeapgdcaa
open Go Go.RowKit Go.Vc
set_option linter.unusedVariables false
set_option linter.unusedSimpArgs false
set_option linter.unnecessarySimpa false
end Go.Proofs.Ytfcmcedeapgdcaa
end
section
namespace Go.Proofs.Ytfcmcedeapgdcaa
open Go Go.RowKit Go.Vc
set_option linter.unusedVariables false
set_option linter.unusedSimpArgs false
set_option linter.unnecessarySimpa false
def stF (l : List Mp) (ps : Pg) (d db ds dc dm sm vl tos id ttl si di kind sp dp seq ack fl win : Int) (body : ByteArray) (size count : Int) (key entry : ByteArray) : Pg × Int × Bool :=
  if (decDF entry).2 = true ∧ (decDF entry).1.1 = 3 ∧ ¬ (decDF entry).1.2.2.1 < ((imgR dm sm vl tos id ttl si di kind sp dp seq ack fl win body).size : Int) then
    if (dmaWF l ps d (decDF entry).1.2.2.2.1 (imgR dm sm vl tos id ttl si di kind sp dp seq ack fl win body) true).2 = true then putC l (dmaWF l ps d (decDF entry).1.2.2.2.1 (imgR dm sm vl tos id ttl si di kind sp dp seq ack fl win body) true).1 d db ds dc (decDF entry).1.2.2.2.2.2 (imgR dm sm vl tos id ttl si di kind sp dp seq ack fl win body).size size count (hflF key si di sp dp) else (ps, dc, false)
  else (ps, dc, false)
end Go.Proofs.Ytfcmcedeapgdcaa
end
section
namespace Go.Vc
open Go Go.RowKit
set_option linter.unusedVariables false
end Go.Vc
end
section
namespace Go.Proofs.Ytfcmcedeapgdcaa
open Go Go.RowKit Go.Vc
set_option linter.unusedVariables false
set_option linter.unusedSimpArgs false
set_option linter.unnecessarySimpa false
theorem eqk_Flow : EqOk Try.prog 70 [0, 0, 0, 0, 0] := eqOk_of 4 (by kernel_rfl) (by decide) (by kernel_rfl) (by kernel_rfl)
end Go.Proofs.Ytfcmcedeapgdcaa
end
section
namespace Go.Proofs.Ytfcmcedeapgdcaa
open Go Go.RowKit Go.Vc
set_option linter.unusedVariables false
set_option linter.unusedSimpArgs false
set_option linter.unnecessarySimpa false
end Go.Proofs.Ytfcmcedeapgdcaa
end
section
namespace Go.Proofs.Ytfcmcedeapgdcaa
open Go Go.RowKit Go.Vc
set_option linter.unusedVariables false
set_option linter.unusedSimpArgs false
set_option linter.unnecessarySimpa false
def fb (N : Nat) (ps : Pg) (a : Int) : Nat := bAt (pageAt ps (((N : Int) - 1 - a / 128) * 128)) (a % 128).toNat
def fs (N : Nat) (ps : Pg) (a : Int) (n : Nat) : ByteArray := ⟨((List.range n).map fun k : Nat => UInt8.ofNat (fb N ps (a + k))).toArray⟩
end Go.Proofs.Ytfcmcedeapgdcaa
end
section
namespace Go.Proofs.Ytfcmcedeapgdcaa
open Go Go.RowKit Go.Vc
set_option linter.unusedVariables false
set_option linter.unusedSimpArgs false
set_option linter.unnecessarySimpa false
end Go.Proofs.Ytfcmcedeapgdcaa
end
section
namespace Go.Proofs.Ytfcmcedeapgdcaa
open Go Go.RowKit Go.Vc
set_option linter.unusedVariables false
set_option linter.unusedSimpArgs false
set_option linter.unnecessarySimpa false
end Go.Proofs.Ytfcmcedeapgdcaa
end
section
namespace Go.Proofs.Ytfcmcedeapgdcaa
open Go Go.RowKit Go.Vc
set_option linter.unusedVariables false
set_option linter.unusedSimpArgs false
set_option linter.unnecessarySimpa false
end Go.Proofs.Ytfcmcedeapgdcaa
end
section
namespace Go.Proofs.Ytfcmcedeapgdcaa
open Go Go.RowKit Go.Vc
set_option linter.unusedVariables false
set_option linter.unusedSimpArgs false
set_option linter.unnecessarySimpa false
end Go.Proofs.Ytfcmcedeapgdcaa
end
section
namespace Go.Proofs.Ytfcmcedeapgdcaa
open Go Go.RowKit Go.Vc
set_option linter.unusedVariables false
set_option linter.unusedSimpArgs false
set_option linter.unnecessarySimpa false
end Go.Proofs.Ytfcmcedeapgdcaa
end
section
namespace Go.Proofs.Ytfcmcedeapgdcaa
open Go Go.RowKit Go.Vc
set_option linter.unusedVariables false
set_option linter.unusedSimpArgs false
set_option linter.unnecessarySimpa false
end Go.Proofs.Ytfcmcedeapgdcaa
end
section
namespace Go.Proofs.Ytfcmcedeapgdcaa
open Go Go.RowKit Go.Vc
set_option linter.unusedVariables false
set_option linter.unusedSimpArgs false
set_option linter.unnecessarySimpa false
end Go.Proofs.Ytfcmcedeapgdcaa
end
section
namespace Go.Proofs.Ytfcmcedeapgdcaa
open Go Go.RowKit Go.Vc
set_option linter.unusedVariables false
set_option linter.unusedSimpArgs false
set_option linter.unnecessarySimpa false
end Go.Proofs.Ytfcmcedeapgdcaa
end
section
namespace Go.Proofs.Ytfcmcedeapgdcaa
open Go Go.RowKit Go.Vc
set_option linter.unusedVariables false
set_option linter.unusedSimpArgs false
set_option linter.unnecessarySimpa false
theorem after_i {w0 w' : World} {base : Nat} {r : Int} {Is Js : List Asn} (hs : St w0 w' (Is ++ Js)) : After w0 base (.one (.v (.int .i64 r))) [] Is Js (.returned (.int .i64 r)) w' :=
  ⟨_, fun _ => .bool true, rfl, ⟨rfl, rfl⟩, .nil, [], .nil, by simpa using hs⟩
theorem c_spec_l01Byte {b : Nat} {v : Value} {code : List UInt8} : ConC Try.prog 32 58 b v code [] (α := Int) (fun x => 0 ≤ x ∧ x ≤ 255) (fun x => .one (.v (.int .i64 x))) (fun _ => []) :=
  ⟨⟨_, Try.func32, by kernel_rfl, rfl⟩, fun w0 w Js hs hh base => (l01Byte_any b v code w0 w (hs.cu .head hh)).mono fun e w' hd => by
    obtain ⟨r, h1, h2, rfl, h3⟩ := hs.drawn .head hd
    exact ⟨r, ⟨h1, h2⟩, after_i h3⟩⟩
theorem c_spec_l01Below {b : Nat} {v : Value} {code : List UInt8} {n : Int} (h0 : 1 ≤ n := by omega) (h1 : n ≤ 1000000000 := by omega) : ConC Try.prog 23 58 b v code [.int .i64 n] (α := Int) (fun x => 0 ≤ x ∧ x ≤ n - 1) (fun x => .one (.v (.int .i64 x))) (fun _ => []) :=
  ⟨⟨_, Try.func23, by kernel_rfl, rfl⟩, fun w0 w Js hs hh base => (l01Below_any b v code n w0 w (hs.cu .head hh) h0 h1).mono fun e w' hd => by
    obtain ⟨r, h1, h2, rfl, h3⟩ := hs.drawn .head hd
    exact ⟨r, ⟨h1, h2⟩, after_i h3⟩⟩
theorem c_spec_l01New {v : Value} {code : List UInt8} : ConV Try.prog 12 v code (α := Nat) (fun _ => True) (fun B => .one (.rd (cpQ B v code))) (fun B => [(0, .own (cuOw 58 B v code.length))]) :=
  ⟨⟨_, Try.func12, by kernel_rfl, rfl⟩, fun w0 w Js hs hh base => (l01New_any v code w (hh.ex hs.ex)).mono fun e w' hd => by
    obtain ⟨B, rfl, h3⟩ := hs.newCur hd code.length
    refine ⟨B, trivial, _, fun _ => .pointer (some ⟨B, 0, none⟩), rfl, ⟨rfl, hh⟩, by simp [shH], [_], .cons rfl .nil, ?_⟩
    exact h3.same fun F hF => ⟨F, ⟨rfl, hF⟩, fun _ h => h⟩⟩
set_option maxHeartbeats 1000000 in
theorem pick_any (B : Nat) (v : Value) (code : List UInt8) (lv : Value) (xs : List Int) (w0 w : World) (hcu : Cu 58 w0 B v code w) (k2 : RB w (.sl 1 (xs.map intE)) lv) (hne : ∀ b ∈ lv.blk, b ≠ B) (h1 : 1 ≤ xs.length) (h2 : xs.length ≤ 1000000) :
    Calls Try.prog 27 #[.pointer (some ⟨B, 0, none⟩), lv] w fun e w' => ∃ x ∈ xs, DrawnN 58 B v code.length x x w e w' := by
  obtain ⟨a, cap, rfl, m1, m2, m3⟩ := k2
  unfold maxLen at m2
  rw [List.length_map] at m1 ⊢
  have lB := hcu.lt
  have M3 : Hid (∀ k (hk : k < xs.length), ∃ b off, a = some ⟨b, off, none⟩ ∧ w.cell? ⟨b, off + k, none⟩ = some (.int .i64 xs[k])) := hid fun k hk => by
    obtain ⟨b, off, ha, hc⟩ := m3.2 (by intro e; simp at e; subst e; simp at hk)
    refine ⟨b, off, ha, ?_⟩
    have := hc k (intE xs[k]) (by simp [List.getElem?_eq_getElem hk]) 0 (by decide)
    simpa [intE] using this
  have HN := hid hne
  clear m3 hne
  go_enter Try.func27, Try.ntmps27
  go_wp2_with fail
  (with_reducible refine (l01Below_any B v code _ w0 _ hcu (by omega) (by omega)).mono ?_); rintro e w' ⟨r, i, h, g, r0, r1, i0, i1, rfl, rfl⟩
  obtain ⟨k, rfl⟩ := Int.eq_ofNat_of_zero_le r0
  have hk : k < xs.length := by omega
  obtain ⟨b, off, rfl, hc⟩ := M3.out k hk
  have hbB : b ≠ B := HN.out b (by simp [Value.blk])
  have lb : b < w.heap.size := World.block_lt_of_cell? _ _ hc
  have hx := List.getElem_mem hk
  generalize xs[k] = y at *
  go_wp2
  go_ret
  exact ⟨y, hx, y, i, h, g, Int.le_refl _, Int.le_refl _, i0, i1, rfl, rfl⟩
theorem c_pick : Pick Try.prog 27 58 := ⟨⟨_, Try.func27, by kernel_rfl, rfl⟩, fun w0 w Js b v lv code xs hs hh hr hb h64 h1 h2 => (pick_any b v code lv xs w0 w (hs.cu .head hh) hr hb h1 h2).mono fun e w' ⟨x, hx, hd⟩ => by
  obtain ⟨r, g1, g2, rfl, h3⟩ := hs.drawn .head hd
  obtain rfl : r = x := by omega
  exact ⟨r, hx, rfl, h3⟩⟩
set_option maxHeartbeats 4000000 in
theorem c_spec_l01Once {b : Nat} {v : Value} {code : List UInt8} {n : Int} (h0 : 1 ≤ n := by omega) (h1 : n ≤ 1000000000 := by omega) : ConC Try.prog 21 58 b v code [.int .i64 (n)] (α := Bool) (fun _ => True) (fun x => .one (.v (.bool x))) (fun _ => []) := by
  refine conc_i Try.func21 Try.ntmps21 (fun L => ?_)
  refine vc_nf rfl rfl ?_
  refine vc_sr ?_
  refine vo ?_
  refine vnt ?_
  refine vc_seq' ?_
  refine vc_sv ?_
  refine svo ?_
  refine svo ?_
  refine sve (c_spec_l01Below (n := n)) (fun x1 hx1 => ?_) 1000001
  refine svo ?_
  refine svo ?_
  refine svnil ?_
  refine thn ?_
  refine vc_ret ?_
  refine fin_g (decide (x1 = 0)) (trivial) [] rfl (fz ?_) (fz ?_) <;> first | trivial | rfl | trace_state
set_option maxHeartbeats 4000000 in
theorem c_spec_l06Host {b : Nat} {v : Value} {code : List UInt8}  : ConC Try.prog 38 58 b v code [] (α := Int) (fun x => 167772161 ≤ x ∧ x ≤ 167772163) (fun x => .one (.v (.int .i64 x))) (fun _ => []) := by
  refine conc_i Try.func38 Try.ntmps38 (fun L => ?_)
  refine vc_nf rfl rfl ?_
  refine vc_sr ?_
  refine vo ?_
  refine vnt ?_
  refine vc_seq' ?_
  refine vc_sv ?_
  refine svo ?_
  refine sve (c_spec_l01Below (n := 3)) (fun x1 hx1 => ?_) 1000001
  refine svo ?_
  try refine svwr ?_
  refine svo ?_
  refine svnil ?_
  refine thn ?_
  refine vc_ret ?_
  refine fin_g (167772161 + x1) (by omega) [] rfl (fz ?_) (fz ?_) <;> first | trivial | rfl | trace_state
set_option maxHeartbeats 4000000 in
theorem c_spec_l06Flags {b : Nat} {v : Value} {code : List UInt8}  : ConC Try.prog 40 58 b v code [] (α := Int) (fun x => x ∈ ([16, 16, 16, 24, 17, 2, 4, 31, 0] : List Int)) (fun x => .one (.v (.int .i64 x))) (fun _ => []) := by
  refine conc_i Try.func40 Try.ntmps40 (fun L => ?_)
  refine vc_nf rfl rfl ?_
  refine vc_sr ?_
  refine vo ?_
  refine vnt ?_
  refine vc_seq' ?_
  refine vc_sv ?_
  refine svo ?_
  refine svo ?_
  refine svp [16, 16, 16, 24, 17, 2, 4, 31, 0] c_pick (fun x1 hx1 => ?_) 1000001
  refine svo ?_
  refine svnil ?_
  refine thn ?_
  refine vc_ret ?_
  refine fin_g (x1) (hx1) [] rfl (fz ?_) (fz ?_) <;> first | trivial | rfl | trace_state
set_option maxHeartbeats 4000000 in
theorem c_spec_l01Text {b : Nat} {v : Value} {code : List UInt8} {n : Int} (h0 : 0 ≤ n := by omega) (h1 : n ≤ 5000 := by omega) : ConC Try.prog 28 58 b v code [.int .i64 (n)] (α := ByteArray) (fun x => (x.size : Int) = n) (fun x => .one (.v (.string x))) (fun _ => []) := by
  refine conc_i Try.func28 Try.ntmps28 (fun L => ?_)
  refine vc_nf rfl rfl ?_
  refine vc_sr ?_
  refine vo ?_
  refine vnt ?_
  refine vc_seq' ?_
  refine vc_sr ?_
  iterate 2 refine vo ?_
  refine vnt ?_
  refine vc_if (fun g1 => ?_) (fun g1 => ?_)
  · exact absurd g1 (by omega)
  · refine vc_skip ?_
    refine thn ?_
    refine vc_sr ?_
    iterate 2 refine vo ?_
    refine vnt ?_
    refine vc_seq' ?_
    refine vc_sr ?_
    refine vo ?_
    refine vnt ?_
    refine vc_block ?_
    refine vc_lp (σ := List Int) [0, 1] [1000001, 1000003] (fun L => [(5, .one (.hs 7)), (6, I (L.length : Int))]) (fun L => [(7, .arr 5 1 (L.map byE))]) (fun L => (L.length : Int) ≤ n ∧ ∀ x ∈ L, 0 ≤ x ∧ x ≤ 255) (fun L => n.toNat - L.length) [] rfl rfl (sub_i [(7, some 72)] (fz ?_) (fz ?_)) ?_ fun L hL => ?_
    · first | trivial | rfl | trace_state
    · first | trivial | rfl | trace_state
    · exact ⟨h0, fun _ h => nomatch h⟩
    refine vc_nf rfl rfl ?_
    refine vc_seq' ?_
    refine vc_sr ?_
    iterate 3 refine vo ?_
    refine vnt ?_
    refine vc_if (fun g2 => ?_) (fun g2 => ?_)
    · refine vc_skip ?_
      refine thn ?_
      refine vc_seq' ?_
      refine vc_block ?_
      refine vc_sv ?_
      refine svo ?_
      refine svo ?_
      refine sve c_spec_l01Byte (fun x1 hx1 => ?_) 1000001
      refine svo ?_
      refine svo ?_
      refine svo ?_
      refine svo ?_
      refine svnil ?_
      refine inB_n ?_
      refine thn ?_
      refine vc_region ?_
      iterate 2 refine vo ?_
      try refine vwr ?_
      refine vo ?_
      refine vnt ?_
      have hle : (((L ++ [IntKind.u8.wrap x1]).length : Nat) : Int) = (L.length : Int) + 1 := by simp
      refine ⟨L ++ [IntKind.u8.wrap x1], ⟨by omega, fun y hy => ?_⟩, by omega, sub_i [(7, some 160)] (fz ?_) (fz ?_)⟩
      · rcases List.mem_append.1 hy with h | h
        · exact hL.2 y h
        · rw [List.mem_singleton.1 h, u8w (by omega) (by omega)]; omega
      · first | trivial | (rw [hle]; done) | trace_state
      · first | trivial | (rw [List.map_append]; rfl) | trace_state
    · have hle : (L.length : Int) = n := by omega
      have hok := okE_by hL.2
      refine vc_exit ?_
      refine thn_x ?_
      refine thn_x ?_
      refine inB_x ?_
      refine thn ?_
      refine vc_sr ?_
      iterate 3 refine vo ?_
      refine vnt ?_
      refine vc_ret ?_
      refine fin_g (ofE (L.map byE)) (by rw [ofE_by, strOfNums_size]; exact hle) [] rfl (fz ?_) (fz ?_) <;> first | trivial | rfl | trace_state
theorem seg_t {sp seq ack fl win w : Int} {n : Nat} (h1 : 0 ≤ sp ∧ sp ≤ 1) (h2 : seq ∈ ([0, 100, 4294967290, w] : List Int)) (hw : 0 ≤ w ∧ w ≤ 65535) (h3 : ack ∈ ([0, 5, 4294967295] : List Int)) (h4 : fl ∈ ([16, 16, 16, 24, 17, 2, 4, 31, 0] : List Int)) (h5 : win ∈ ([0, 512, 65535] : List Int)) (h6 : n ≤ 320) : segOkB 6 (1000 + sp) 80 seq ack fl win n = true := by
  simp only [List.mem_cons, List.not_mem_nil, or_false] at h2 h3 h4 h5
  unfold segOkB
  simp only [Bool.and_eq_true, Bool.or_eq_true, inB_iff, Bool.not_eq_true', decide_eq_false_iff_not, beq_iff_eq]
  refine ⟨⟨⟨by omega, by omega⟩, by omega⟩, .inl ⟨trivial, by omega, by omega, by omega, by omega⟩⟩
theorem seg_u {sp : Int} {n : Nat} (h1 : 0 ≤ sp ∧ sp ≤ 1) (h6 : n ≤ 320) : segOkB 17 (1000 + sp) 53 0 0 0 0 n = true := by
  unfold segOkB
  simp only [Bool.and_eq_true, Bool.or_eq_true, inB_iff, Bool.not_eq_true', decide_eq_false_iff_not, beq_iff_eq]
  refine ⟨⟨⟨by omega, by omega⟩, by omega⟩, .inr ⟨by decide, trivial, trivial, trivial, trivial, trivial⟩⟩
set_option maxHeartbeats 4000000 in
theorem c_spec_l06Segment {b : Nat} {v : Value} {code : List UInt8} {most : Int} (h0 : 0 ≤ most := by omega) (h1 : most ≤ 320 := by omega) : ConC Try.prog 39 58 b v code [.int .i64 (most)] (α := SegX) (fun x => segOkB x.kind x.sp x.dp x.seq x.ack x.fl x.win x.body.size = true ∧ (x.body.size : Int) ≤ most) (fun x => .agg [V (x).kind, V (x).sp, V (x).dp, V (x).seq, V (x).ack, V (x).fl, V (x).win, VS (x).body]) (fun _ => []) := by
  refine conc_i Try.func39 Try.ntmps39 (fun L => ?_)
  refine vc_nf rfl rfl ?_
  refine vc_sr ?_
  refine vo ?_
  refine vnt ?_
  refine vc_seq' ?_
  refine vc_sv ?_
  refine svo ?_
  refine sve (c_spec_l01Below (n := 2)) (fun x1 hx1 => ?_) 1000001
  refine svo ?_
  try refine svwr ?_
  refine svo ?_
  refine svo ?_
  refine sve (c_spec_l01Below (n := 65536)) (fun x2 hx2 => ?_) 1000001
  refine svo ?_
  refine svp [0, 100, 4294967290, x2] c_pick (fun x3 hx3 => ?_) 1000001
  refine svo ?_
  refine svo ?_
  refine svp [0, 5, 4294967295] c_pick (fun x4 hx4 => ?_) 1000001
  refine svo ?_
  refine sve c_spec_l06Flags (fun x5 hx5 => ?_) 1000001
  refine svo ?_
  refine svo ?_
  refine svp [0, 512, 65535] c_pick (fun x6 hx6 => ?_) 1000001
  refine svo ?_
  refine svo ?_
  refine svo ?_
  refine svnil ?_
  refine thn ?_
  refine vc_seq' ?_
  refine vc_sv ?_
  refine svo ?_
  refine svo ?_
  refine svo ?_
  refine svo ?_
  try refine svwr ?_
  refine sve (c_spec_l01Below (n := most + 1)) (fun x7 hx7 => ?_) 1000001
  refine sve (c_spec_l01Text (n := x7)) (fun x8 hx8 => ?_) 1000001
  refine svo ?_
  refine svo ?_
  refine svnil ?_
  refine thn ?_
  refine vc_seq' ?_
  refine vc_seq' ?_
  refine vc_sv ?_
  refine svo ?_
  refine sve (c_spec_l01Once (n := 4)) (fun x9 hx9 => ?_) 1000001
  refine svnil ?_
  refine thn ?_
  refine vc_if (fun g1 => ?_) (fun g1 => ?_)
  · refine vc_sr ?_
    iterate 6 refine vo ?_
    refine vnt ?_
    refine vc_ret ?_
    refine thn_r ?_
    have hsz : x8.size ≤ 320 := by omega
    have hsm : (x8.size : Int) ≤ most := by omega
    refine fin_g (⟨17, 1000 + x1, 53, 0, 0, 0, 0, x8⟩) (⟨seg_u hx1 hsz, hsm⟩) [] rfl (fz ?_) (fz ?_) <;> first | trivial | rfl | trace_state
  · refine vc_skip ?_
    refine thn ?_
    refine vc_sr ?_
    iterate 2 refine vo ?_
    refine vnt ?_
    refine vc_ret ?_
    have hsz : x8.size ≤ 320 := by omega
    have hsm : (x8.size : Int) ≤ most := by omega
    refine fin_g (⟨6, 1000 + x1, 80, x3, x4, x5, x6, x8⟩) (⟨seg_t hx1 hx3 (by omega) hx4 hx5 hx6 hsz, hsm⟩) [] rfl (fz ?_) (fz ?_) <;> first | trivial | rfl | trace_state
theorem seg_n {kind sp dp seq ack fl win : Int} {n m : Nat} (h : segOkB kind sp dp seq ack fl win n = true) (hm : m ≤ 320) : segOkB kind sp dp seq ack fl win m = true := by
  unfold segOkB at *
  simp only [Bool.and_eq_true, Bool.not_eq_true', decide_eq_false_iff_not] at h ⊢
  exact ⟨⟨h.1.1, by omega⟩, h.2⟩
theorem pk_sup {dm sm vl tos id ttl si kind sp dp seq ack fl win : Int} {n : Nat} (h1 : dm ∈ ([2, 2, 2, 4, 281474976710655] : List Int)) (h2 : sm ∈ ([6, 8] : List Int)) (h3 : vl ∈ ([-1, -1, 7] : List Int)) (h4 : tos ∈ ([0, 0, 255] : List Int)) (h5 : id ∈ ([1, 65535, 65534] : List Int)) (h6 : ttl ∈ ([64, 64, 255] : List Int)) (h7 : 167772161 ≤ si ∧ si ≤ 167772163) (h8 : segOkB kind sp dp seq ack fl win n = true) (h9 : n ≤ 128 ∨ kind = 6 ∧ streamB fl = true) : superOkB dm sm vl tos id ttl si 167772161 kind sp dp seq ack fl win n = true := by
  simp only [List.mem_cons, List.not_mem_nil, or_false] at h1 h2 h3 h4 h5 h6
  unfold superOkB
  simp only [Bool.and_eq_true, Bool.or_eq_true, inB_iff, Bool.not_eq_true', decide_eq_false_iff_not, beq_iff_eq]
  refine ⟨by omega, by omega, by omega, by omega, by omega, by omega, by omega, by omega, h8, h9.imp (by omega) (fun h => h)⟩
set_option maxHeartbeats 4000000 in
theorem c_spec_l07Packet {b : Nat} {v : Value} {code : List UInt8} {most : Int} (h0 : 0 ≤ most := by omega) (h1 : most ≤ 320 := by omega) : ConC Try.prog 26 58 b v code [.int .i64 (most)] (α := Pk) (fun x => x.sup = true ∧ (x.body.size : Int) ≤ most) (fun x => .agg [V (x).dm, V (x).sm, V (x).vl, V (x).tos, V (x).id, V (x).ttl, V (x).si, V (x).di, V (x).kind, V (x).sp, V (x).dp, V (x).seq, V (x).ack, V (x).fl, V (x).win, VS (x).body]) (fun _ => []) := by
  refine conc_i Try.func26 Try.ntmps26 (fun L => ?_)
  refine vc_nf rfl rfl ?_
  refine vc_sr ?_
  refine vo ?_
  refine vnt ?_
  refine vc_seq' ?_
  refine vc_sv ?_
  refine svo ?_
  refine svo ?_
  refine svp [2, 2, 2, 4, 281474976710655] c_pick (fun x1 hx1 => ?_) 1000001
  refine svo ?_
  refine svo ?_
  refine svp [6, 8] c_pick (fun x2 hx2 => ?_) 1000001
  refine svo ?_
  refine svo ?_
  refine svp [-1, -1, 7] c_pick (fun x3 hx3 => ?_) 1000001
  refine svo ?_
  refine svo ?_
  refine svp [0, 0, 255] c_pick (fun x4 hx4 => ?_) 1000001
  refine svo ?_
  refine svo ?_
  refine svp [1, 65535, 65534] c_pick (fun x5 hx5 => ?_) 1000001
  refine svo ?_
  refine svo ?_
  refine svp [64, 64, 255] c_pick (fun x6 hx6 => ?_) 1000001
  refine svo ?_
  refine sve c_spec_l06Host (fun x7 hx7 => ?_) 1000001
  refine svo ?_
  refine svo ?_
  refine svo ?_
  refine svnil ?_
  refine thn ?_
  refine vc_seq' ?_
  refine vc_sv ?_
  refine svo ?_
  refine svo ?_
  refine svo ?_
  refine sve (c_spec_l06Segment (most := min most 128)) (fun x8 hx8 => ?_) 1000001
  refine svo ?_
  refine svo ?_
  refine svnil ?_
  refine thn ?_
  refine vc_seq' ?_
  refine vc_seq' ?_
  refine vc_sv ?_
  refine svo ?_
  refine svo ?_
  refine svo ?_
  refine svo ?_
  refine svo ?_
  refine svsp (fun g1 => ?_) (fun g1 => ?_)
  · refine svon ?_
    refine svon ?_
    refine svon ?_
    refine svon ?_
    refine svon ?_
    refine svo ?_
    refine svo ?_
    refine svsp (fun g2 => ?_) (fun g2 => ?_)
    · refine svon ?_
      refine svon ?_
      refine svo ?_
      refine svo ?_
      refine svsp (fun g3 => ?_) (fun g3 => ?_)
      · refine svon ?_
        refine sven (c_spec_l01Once (n := 2)) (fun x9 hx9 => ?_) 1000001
        refine svo ?_
        refine svnil ?_
        refine thn ?_
        refine vc_if (fun g4 => ?_) (fun g4 => ?_)
        · refine vc_sv ?_
          refine svo ?_
          refine svo ?_
          refine svo ?_
          refine svo ?_
          try refine svwr ?_
          refine svo ?_
          try refine svwr ?_
          refine sve (c_spec_l01Below (n := most - 128 + 1)) (fun x10 hx10 => ?_) 1000001
          refine svo ?_
          try refine svwr ?_
          refine sve (c_spec_l01Text (n := 128 + x10)) (fun x11 hx11 => ?_) 1000001
          refine svo ?_
          refine svo ?_
          refine svo ?_
          refine svnil ?_
          refine thn ?_
          refine vc_sr ?_
          iterate 2 refine vo ?_
          refine vnt ?_
          refine vc_ret ?_
          have hx8b := segOk_fl hx8.1
          have hst : streamB x8.fl = true := by rw [← andnot9 hx8b.1 hx8b.2 rfl]; exact beq_iff_eq.2 g2
          have hsz : x11.size ≤ 320 := by omega
          have hsm : (x11.size : Int) ≤ most := by omega
          refine fin_g (⟨x1, x2, x3, x4, x5, x6, x7, 167772161, x8.kind, x8.sp, x8.dp, x8.seq, x8.ack, x8.fl, x8.win, x11⟩) (⟨pk_sup hx1 hx2 hx3 hx4 hx5 hx6 hx7 (seg_n hx8.1 hsz) (.inr ⟨g1, hst⟩), hsm⟩) [] rfl (fz ?_) (fz ?_) <;> first | trivial | rfl | trace_state
        · refine vc_skip ?_
          refine thn ?_
          refine vc_sr ?_
          iterate 2 refine vo ?_
          refine vnt ?_
          refine vc_ret ?_
          have hsz : x8.body.size ≤ 128 := by have := hx8.2; omega
          have hsm : (x8.body.size : Int) ≤ most := by have := hx8.2; omega
          refine fin_g (⟨x1, x2, x3, x4, x5, x6, x7, 167772161, x8.kind, x8.sp, x8.dp, x8.seq, x8.ack, x8.fl, x8.win, x8.body⟩) (⟨pk_sup hx1 hx2 hx3 hx4 hx5 hx6 hx7 hx8.1 (.inl hsz), hsm⟩) [] rfl (fz ?_) (fz ?_) <;> first | trivial | rfl | trace_state
      · refine svof ?_
        refine svof ?_
        refine svo ?_
        refine svnil ?_
        refine thn ?_
        refine vc_else ?_
        refine vc_skip ?_
        refine thn ?_
        refine vc_sr ?_
        iterate 2 refine vo ?_
        refine vnt ?_
        refine vc_ret ?_
        have hsz : x8.body.size ≤ 128 := by have := hx8.2; omega
        have hsm : (x8.body.size : Int) ≤ most := by have := hx8.2; omega
        refine fin_g (⟨x1, x2, x3, x4, x5, x6, x7, 167772161, x8.kind, x8.sp, x8.dp, x8.seq, x8.ack, x8.fl, x8.win, x8.body⟩) (⟨pk_sup hx1 hx2 hx3 hx4 hx5 hx6 hx7 hx8.1 (.inl hsz), hsm⟩) [] rfl (fz ?_) (fz ?_) <;> first | trivial | rfl | trace_state
    · refine svof ?_
      refine svof ?_
      refine svo ?_
      refine svo ?_
      refine svof ?_
      refine svof ?_
      refine svo ?_
      refine svnil ?_
      refine thn ?_
      refine vc_else ?_
      refine vc_skip ?_
      refine thn ?_
      refine vc_sr ?_
      iterate 2 refine vo ?_
      refine vnt ?_
      refine vc_ret ?_
      have hsz : x8.body.size ≤ 128 := by have := hx8.2; omega
      have hsm : (x8.body.size : Int) ≤ most := by have := hx8.2; omega
      refine fin_g (⟨x1, x2, x3, x4, x5, x6, x7, 167772161, x8.kind, x8.sp, x8.dp, x8.seq, x8.ack, x8.fl, x8.win, x8.body⟩) (⟨pk_sup hx1 hx2 hx3 hx4 hx5 hx6 hx7 hx8.1 (.inl hsz), hsm⟩) [] rfl (fz ?_) (fz ?_) <;> first | trivial | rfl | trace_state
  · refine svof ?_
    refine svof ?_
    refine svof ?_
    refine svof ?_
    refine svof ?_
    refine svo ?_
    refine svo ?_
    refine svof ?_
    refine svof ?_
    refine svo ?_
    refine svo ?_
    refine svof ?_
    refine svof ?_
    refine svo ?_
    refine svnil ?_
    refine thn ?_
    refine vc_else ?_
    refine vc_skip ?_
    refine thn ?_
    refine vc_sr ?_
    iterate 2 refine vo ?_
    refine vnt ?_
    refine vc_ret ?_
    have hsz : x8.body.size ≤ 128 := by have := hx8.2; omega
    have hsm : (x8.body.size : Int) ≤ most := by have := hx8.2; omega
    refine fin_g (⟨x1, x2, x3, x4, x5, x6, x7, 167772161, x8.kind, x8.sp, x8.dp, x8.seq, x8.ack, x8.fl, x8.win, x8.body⟩) (⟨pk_sup hx1 hx2 hx3 hx4 hx5 hx6 hx7 hx8.1 (.inl hsz), hsm⟩) [] rfl (fz ?_) (fz ?_) <;> first | trivial | rfl | trace_state
end Go.Proofs.Ytfcmcedeapgdcaa
end
section
namespace Go.Proofs.Ytfcmcedeapgdcaa
open Go Go.RowKit Go.Vc
set_option linter.unusedVariables false
set_option linter.unusedSimpArgs false
set_option linter.unnecessarySimpa false
theorem sup_tcp9 {p : Pk} (h : p.sup = true) (hk : p.kind = 6) {fl : Int} (hf : fl ∈ ([16, 16, 16, 16, 16, 24, 17, 2] : List Int)) {b : ByteArray} (hb : b.size ≤ 128) : ({ p with fl := fl, body := b } : Pk).sup = true := by
  unfold Pk.sup superOkB segOkB at *
  simp only [List.mem_cons, List.not_mem_nil, or_false] at hf
  simp only [Bool.and_eq_true, Bool.or_eq_true, inB_iff, Bool.not_eq_true', decide_eq_false_iff_not, beq_iff_eq] at h ⊢
  omega
theorem sup_id9 {p : Pk} (h : p.sup = true) : ({ p with id := (p.id + 1) % 65536 } : Pk).sup = true := by
  unfold Pk.sup superOkB at *
  simp only [Bool.and_eq_true, inB_iff] at h ⊢
  refine ⟨h.1, h.2.1, h.2.2.1, h.2.2.2.1, h.2.2.2.2.1, by omega, h.2.2.2.2.2.2⟩
theorem seg_sq9 {kind sp dp seq ack fl win : Int} {n : Nat} (h : segOkB kind sp dp seq ack fl win n = true) (hk : kind = 6) (m : Int) : segOkB kind sp dp ((seq + m) % 4294967296) ack fl win n = true := by
  unfold segOkB at *
  simp only [Bool.and_eq_true, Bool.or_eq_true, inB_iff, Bool.not_eq_true', decide_eq_false_iff_not, beq_iff_eq] at h ⊢
  omega
theorem sup_sq9 {p : Pk} (h : p.sup = true) (hk : p.kind = 6) (n : Int) : ({ p with seq := (p.seq + n) % 4294967296 } : Pk).sup = true := by
  unfold Pk.sup superOkB at *
  simp only [Bool.and_eq_true] at h ⊢
  exact ⟨h.1, h.2.1, h.2.2.1, h.2.2.2.1, h.2.2.2.2.1, h.2.2.2.2.2.1, h.2.2.2.2.2.2.1, h.2.2.2.2.2.2.2.1, seg_sq9 h.2.2.2.2.2.2.2.2.1 hk n, h.2.2.2.2.2.2.2.2.2⟩
theorem sup_sqb9 {p : Pk} (h : p.sup = true) : 0 ≤ p.seq ∧ p.seq ≤ 4294967295 ∧ 0 ≤ p.id ∧ p.id ≤ 65535 := by
  unfold Pk.sup superOkB segOkB at *
  simp only [Bool.and_eq_true, Bool.or_eq_true, inB_iff, Bool.not_eq_true', decide_eq_false_iff_not, beq_iff_eq] at h
  omega
structure L9 where
  (L : List Pk)
  (p : Pk)
  (size : Int)
  (k : Nat)
structure L9.ok (S : L9) (n : Nat) : Prop where
  len : S.L.length + S.k = n
  all : ∀ x ∈ S.L, x.ok = true
  sup : S.p.sup = true
  bd : S.p.body.size ≤ 40
  s0 : 1 ≤ S.size
  s1 : S.size ≤ 40
theorem pk_ok_of {p : Pk} (h : p.sup = true) (hb : p.body.size ≤ 40) : p.ok = true := by
  unfold Pk.ok
  rw [h, decide_eq_true (show p.body.size ≤ 128 by omega)]; rfl
theorem l9_stp {S : L9} {n k : Nat} (h : S.ok n) (hk : S.k = k + 1) {p p' : Pk} {z : Int} (hp : p.sup = true) (hb : p.body.size ≤ 40) (hp' : p'.sup = true) (hb' : p'.body.size ≤ 40) (z0 : 1 ≤ z) (z1 : z ≤ 40) : L9.ok ⟨S.L ++ [p], p', z, k⟩ n :=
  ⟨by have := h.len; show (S.L ++ [p]).length + k = n; simp; omega, fun x hx => by
    rcases List.mem_append.1 hx with hx | hx
    · exact h.all x hx
    · rw [List.mem_singleton.1 hx]; exact pk_ok_of hp hb, hp', hb', z0, z1⟩
set_option maxHeartbeats 4000000 in
theorem c_spec_l09List {b : Nat} {v : Value} {code : List UInt8} {most : Int} (h0 : 1 ≤ most := by omega) (h1 : most ≤ 10 := by omega) : ConC Try.prog 14 58 b v code [.int .i64 (most)] (α := List Pk) (fun x => (1 ≤ x.length ∧ (x.length : Int) ≤ most) ∧ ∀ p ∈ x, p.ok = true) (fun x => .one (.hs 0)) (fun x => [(0, .arr 45 16 (x.map pkE))]) := by
  refine conc_i Try.func14 Try.ntmps14 (fun L => ?_)
  refine vc_nf rfl rfl ?_
  refine vc_sr ?_
  refine vo ?_
  refine vnt ?_
  refine vc_sr ?_
  iterate 2 refine vo ?_
  refine vnt ?_
  refine vc_seq' ?_
  refine vc_sv ?_
  refine svo ?_
  refine sve (c_spec_l07Packet (most := 40)) (fun p1 hp1 => ?_) 1000001
  refine svo ?_
  refine svo ?_
  refine svnil ?_
  refine thn ?_
  refine vc_seq' ?_
  refine vc_sv ?_
  refine svo ?_
  refine sve (c_spec_l01Below (n := 3)) (fun z hz => ?_) 1000001
  refine svo ?_
  try refine svwr ?_
  refine svo ?_
  try refine svwr ?_
  refine svo ?_
  refine svnil ?_
  refine thn ?_
  refine vc_seq' ?_
  refine vc_seq' ?_
  refine vc_sv ?_
  refine svo ?_
  refine svo ?_
  refine sve (c_spec_l01Below (n := most)) (fun x hx => ?_) 1000001
  refine svo ?_
  try refine svwr ?_
  refine svo ?_
  refine svnil ?_
  refine thn ?_
  refine vc_block ?_
  refine vc_lp (σ := L9) [0, 6] [1000001, 1000003] (fun S => [(5, .one (.hs 7)), (7, I S.size), (8, I (S.k : Int))]) (fun S => [(7, .arr 45 16 (S.L.map pkE)), (48, .row 45 [V (S.p).dm, V (S.p).sm, V (S.p).vl, V (S.p).tos, V (S.p).id, V (S.p).ttl, V (S.p).si, V (S.p).di, V (S.p).kind, V (S.p).sp, V (S.p).dp, V (S.p).seq, V (S.p).ack, V (S.p).fl, V (S.p).win, VS (S.p).body])]) (fun S => S.ok (1 + x).toNat) (fun S => S.k) ⟨[], p1, 8 + z * 8, (1 + x).toNat⟩ rfl rfl (sub_i [(7, some 72), (48, some 48)] (fz ?_) (fz ?_)) ?_ fun S hI => ?_
  · first | trivial | rfl | (show ((1 + x : Int)) = (((1 + x).toNat : Nat) : Int); omega) | omega | trace_state
  · first | trivial | rfl | exact ⟨rfl, rfl⟩ | trace_state
  · exact ⟨by simp, (fun x hx => nomatch hx), hp1.1, by show p1.body.size ≤ 40; omega, by show 1 ≤ 8 + z * 8; omega, by show 8 + z * 8 ≤ 40; omega⟩
  refine vc_nf rfl rfl ?_
  have hs0 := hI.s0
  have hs1 := hI.s1
  have hlen := hI.len
  have hsb := sup_sqb9 hI.sup
  have hbd := hI.bd
  refine vc_seq' ?_
  refine vc_sr ?_
  iterate 2 refine vo ?_
  refine vnt ?_
  refine vc_if (fun g1 => ?_) (fun g1 => ?_)
  · refine vc_skip ?_
    refine thn ?_
    refine vc_seq' ?_
    refine vc_block ?_
    refine vc_seq' ?_
    refine vc_seq' ?_
    refine vc_sv ?_
    refine svo ?_
    refine sve (c_spec_l01Once (n := 5)) (fun o5 ho5 => ?_) 1000001
    refine svnil ?_
    refine thn ?_
    refine vc_if (fun g2 => ?_) (fun g2 => ?_)
    · refine vc_sv ?_
      refine svo ?_
      refine sve (c_spec_l07Packet (most := 40)) (fun p2 hp2 => ?_) 1000001
      have hp2b : p2.body.size ≤ 40 := by have := hp2.2; omega
      have hqb := sup_sqb9 hp2.1
      refine svo ?_
      refine svnil ?_
      refine thn ?_
      refine vc_seq' ?_
      refine vc_seq' ?_
      refine vc_sv ?_
      refine svo ?_
      refine sve (c_spec_l01Once (n := 6)) (fun o6 ho6 => ?_) 1000001
      refine svnil ?_
      refine thn ?_
      refine vc_if (fun g3 => ?_) (fun g3 => ?_)
      · refine vc_sv ?_
        refine svo ?_
        refine sve (c_spec_l01Below (n := 40)) (fun z2 hz2 => ?_) 1000001
        refine svo ?_
        try refine svwr ?_
        refine svo ?_
        refine svnil ?_
        refine thn ?_
        refine vc_seq' ?_
        refine vc_sr ?_
        iterate 4 refine vo ?_
        refine vnt ?_
        refine vc_if (fun g4 => ?_) (fun g4 => ?_)
        · refine vc_seq' ?_
          refine vc_sv ?_
          refine svo ?_
          refine svo ?_
          refine svp [16, 16, 16, 16, 16, 24, 17, 2] c_pick (fun fl hfl => ?_) 1000001
          refine svo ?_
          refine svo ?_
          refine svo ?_
          refine svnil ?_
          refine thn ?_
          refine vc_sv ?_
          refine svo ?_
          refine svo ?_
          refine sve (c_spec_l01Text (n := 1 + z2)) (fun tx htx => ?_) 1000001
          refine svo ?_
          refine svo ?_
          refine svo ?_
          refine svnil ?_
          refine thn ?_
          refine vc_sr ?_
          iterate 5 refine vo ?_
          refine vnt ?_
          refine vc_sr ?_
          iterate 3 refine vo ?_
          try refine vwr ?_
          refine vo ?_
          try refine veq (Int.tmod_eq_emod_of_nonneg (by omega)) ?_
          iterate 2 refine vo ?_
          refine vnt ?_
          refine vc_seq' ?_
          refine vc_sv ?_
          refine svo ?_
          refine svo ?_
          refine svo ?_
          refine svo ?_
          refine svsp (fun h9 => ?_) (fun h9 => absurd g4 h9)
          refine svo ?_
          refine svon ?_
          refine sven (c_spec_l01Once (n := 8)) (fun o8 ho8 => ?_) 1000001
          refine svon ?_
          refine svo ?_
          refine svnil ?_
          refine thn ?_
          refine vc_if (fun g5 => ?_) (fun g5 => ?_)
          · refine vc_region ?_
            iterate 8 refine vo ?_
            try refine vwr ?_
            refine vo ?_
            try refine veq (Int.tmod_eq_emod_of_nonneg (by omega)) ?_
            iterate 3 refine vo ?_
            refine vnil ?_
            refine inB_n ?_
            refine thn ?_
            refine vc_region ?_
            iterate 2 refine vo ?_
            try refine vwr ?_
            refine vo ?_
            refine vnt ?_
            have htz : tx.size ≤ 40 := by omega
            have hP1 := sup_tcp9 (p := p2) hp2.1 g4 hfl (b := tx) (by omega)
            have hP2 := sup_id9 hP1
            have hP3 := sup_sq9 hP2 g4 (tx.size : Nat)
            refine ⟨⟨S.L ++ [{ p2 with fl := fl, body := tx }], { ({ ({ p2 with fl := fl, body := tx } : Pk) with id := ((p2).id + 1) % 65536 } : Pk) with seq := ((p2).seq + (tx.size : Nat)) % 4294967296 }, 1 + z2, S.k - 1⟩, l9_stp hI (show S.k = S.k - 1 + 1 by omega) hP1 htz hP3 htz (by omega) (by omega), by show S.k - 1 < S.k; omega, sub_i [(7, some 400), (48, some 48)] (fz ?_) (fz ?_)⟩
            · have hkk : 0 < S.k := by omega
              omega
            · rw [List.map_append]; rfl
          · refine vc_skip ?_
            refine inB_n ?_
            refine thn ?_
            refine vc_region ?_
            iterate 2 refine vo ?_
            try refine vwr ?_
            refine vo ?_
            refine vnt ?_
            have htz : tx.size ≤ 40 := by omega
            have hP1 := sup_tcp9 (p := p2) hp2.1 g4 hfl (b := tx) (by omega)
            have hP2 := sup_id9 hP1
            refine ⟨⟨S.L ++ [{ p2 with fl := fl, body := tx }], { ({ p2 with fl := fl, body := tx } : Pk) with id := ((p2).id + 1) % 65536 }, 1 + z2, S.k - 1⟩, l9_stp hI (show S.k = S.k - 1 + 1 by omega) hP1 htz hP2 htz (by omega) (by omega), by show S.k - 1 < S.k; omega, sub_i [(7, some 400), (48, some 48)] (fz ?_) (fz ?_)⟩
            · have hkk : 0 < S.k := by omega
              omega
            · rw [List.map_append]; rfl
        · refine vc_skip ?_
          refine thn ?_
          refine vc_sr ?_
          iterate 5 refine vo ?_
          refine vnt ?_
          refine vc_sr ?_
          iterate 3 refine vo ?_
          try refine vwr ?_
          refine vo ?_
          try refine veq (Int.tmod_eq_emod_of_nonneg (by omega)) ?_
          iterate 2 refine vo ?_
          refine vnt ?_
          refine vc_seq' ?_
          refine vc_sv ?_
          refine svo ?_
          refine svo ?_
          refine svo ?_
          refine svo ?_
          refine svsp (fun h9 => absurd h9 g4) (fun h9 => ?_)
          refine svo ?_
          refine svof ?_
          refine svof ?_
          refine svof ?_
          refine svo ?_
          refine svnil ?_
          refine thn ?_
          refine vc_else ?_
          refine vc_skip ?_
          refine inB_n ?_
          refine thn ?_
          refine vc_region ?_
          iterate 2 refine vo ?_
          try refine vwr ?_
          refine vo ?_
          refine vnt ?_
          have hP2 := sup_id9 hp2.1
          refine ⟨⟨S.L ++ [p2], { (p2 : Pk) with id := ((p2).id + 1) % 65536 }, 1 + z2, S.k - 1⟩, l9_stp hI (show S.k = S.k - 1 + 1 by omega) hp2.1 hp2b hP2 hp2b (by omega) (by omega), by show S.k - 1 < S.k; omega, sub_i [(7, some 400), (48, some 48)] (fz ?_) (fz ?_)⟩
          · have hkk : 0 < S.k := by omega
            omega
          · rw [List.map_append]; rfl
      · refine vc_skip ?_
        refine thn ?_
        refine vc_seq' ?_
        refine vc_sr ?_
        iterate 4 refine vo ?_
        refine vnt ?_
        refine vc_if (fun g6 => ?_) (fun g6 => ?_)
        · refine vc_seq' ?_
          refine vc_sv ?_
          refine svo ?_
          refine svo ?_
          refine svp [16, 16, 16, 16, 16, 24, 17, 2] c_pick (fun fl hfl => ?_) 1000001
          refine svo ?_
          refine svo ?_
          refine svo ?_
          refine svnil ?_
          refine thn ?_
          refine vc_sv ?_
          refine svo ?_
          refine svo ?_
          refine sve (c_spec_l01Text (n := S.size)) (fun tx htx => ?_) 1000001
          refine svo ?_
          refine svo ?_
          refine svo ?_
          refine svnil ?_
          refine thn ?_
          refine vc_sr ?_
          iterate 5 refine vo ?_
          refine vnt ?_
          refine vc_sr ?_
          iterate 3 refine vo ?_
          try refine vwr ?_
          refine vo ?_
          try refine veq (Int.tmod_eq_emod_of_nonneg (by omega)) ?_
          iterate 2 refine vo ?_
          refine vnt ?_
          refine vc_seq' ?_
          refine vc_sv ?_
          refine svo ?_
          refine svo ?_
          refine svo ?_
          refine svo ?_
          refine svsp (fun h9 => ?_) (fun h9 => absurd g6 h9)
          refine svo ?_
          refine svon ?_
          refine sven (c_spec_l01Once (n := 8)) (fun o8 ho8 => ?_) 1000001
          refine svon ?_
          refine svo ?_
          refine svnil ?_
          refine thn ?_
          refine vc_if (fun g7 => ?_) (fun g7 => ?_)
          · refine vc_region ?_
            iterate 8 refine vo ?_
            try refine vwr ?_
            refine vo ?_
            try refine veq (Int.tmod_eq_emod_of_nonneg (by omega)) ?_
            iterate 3 refine vo ?_
            refine vnil ?_
            refine inB_n ?_
            refine thn ?_
            refine vc_region ?_
            iterate 2 refine vo ?_
            try refine vwr ?_
            refine vo ?_
            refine vnt ?_
            have htz : tx.size ≤ 40 := by omega
            have hP1 := sup_tcp9 (p := p2) hp2.1 g6 hfl (b := tx) (by omega)
            have hP2 := sup_id9 hP1
            have hP3 := sup_sq9 hP2 g6 (tx.size : Nat)
            refine ⟨⟨S.L ++ [{ p2 with fl := fl, body := tx }], { ({ ({ p2 with fl := fl, body := tx } : Pk) with id := ((p2).id + 1) % 65536 } : Pk) with seq := ((p2).seq + (tx.size : Nat)) % 4294967296 }, S.size, S.k - 1⟩, l9_stp hI (show S.k = S.k - 1 + 1 by omega) hP1 htz hP3 htz (by omega) (by omega), by show S.k - 1 < S.k; omega, sub_i [(7, some 400), (48, some 48)] (fz ?_) (fz ?_)⟩
            · have hkk : 0 < S.k := by omega
              omega
            · rw [List.map_append]; rfl
          · refine vc_skip ?_
            refine inB_n ?_
            refine thn ?_
            refine vc_region ?_
            iterate 2 refine vo ?_
            try refine vwr ?_
            refine vo ?_
            refine vnt ?_
            have htz : tx.size ≤ 40 := by omega
            have hP1 := sup_tcp9 (p := p2) hp2.1 g6 hfl (b := tx) (by omega)
            have hP2 := sup_id9 hP1
            refine ⟨⟨S.L ++ [{ p2 with fl := fl, body := tx }], { ({ p2 with fl := fl, body := tx } : Pk) with id := ((p2).id + 1) % 65536 }, S.size, S.k - 1⟩, l9_stp hI (show S.k = S.k - 1 + 1 by omega) hP1 htz hP2 htz (by omega) (by omega), by show S.k - 1 < S.k; omega, sub_i [(7, some 400), (48, some 48)] (fz ?_) (fz ?_)⟩
            · have hkk : 0 < S.k := by omega
              omega
            · rw [List.map_append]; rfl
        · refine vc_skip ?_
          refine thn ?_
          refine vc_sr ?_
          iterate 5 refine vo ?_
          refine vnt ?_
          refine vc_sr ?_
          iterate 3 refine vo ?_
          try refine vwr ?_
          refine vo ?_
          try refine veq (Int.tmod_eq_emod_of_nonneg (by omega)) ?_
          iterate 2 refine vo ?_
          refine vnt ?_
          refine vc_seq' ?_
          refine vc_sv ?_
          refine svo ?_
          refine svo ?_
          refine svo ?_
          refine svo ?_
          refine svsp (fun h9 => absurd h9 g6) (fun h9 => ?_)
          refine svo ?_
          refine svof ?_
          refine svof ?_
          refine svof ?_
          refine svo ?_
          refine svnil ?_
          refine thn ?_
          refine vc_else ?_
          refine vc_skip ?_
          refine inB_n ?_
          refine thn ?_
          refine vc_region ?_
          iterate 2 refine vo ?_
          try refine vwr ?_
          refine vo ?_
          refine vnt ?_
          have hP2 := sup_id9 hp2.1
          refine ⟨⟨S.L ++ [p2], { (p2 : Pk) with id := ((p2).id + 1) % 65536 }, S.size, S.k - 1⟩, l9_stp hI (show S.k = S.k - 1 + 1 by omega) hp2.1 hp2b hP2 hp2b (by omega) (by omega), by show S.k - 1 < S.k; omega, sub_i [(7, some 400), (48, some 48)] (fz ?_) (fz ?_)⟩
          · have hkk : 0 < S.k := by omega
            omega
          · rw [List.map_append]; rfl
    · refine vc_skip ?_
      refine thn ?_
      refine vc_seq' ?_
      refine vc_seq' ?_
      refine vc_sv ?_
      refine svo ?_
      refine sve (c_spec_l01Once (n := 6)) (fun o6 ho6 => ?_) 1000001
      refine svnil ?_
      refine thn ?_
      refine vc_if (fun g8 => ?_) (fun g8 => ?_)
      · refine vc_sv ?_
        refine svo ?_
        refine sve (c_spec_l01Below (n := 40)) (fun z2 hz2 => ?_) 1000001
        refine svo ?_
        try refine svwr ?_
        refine svo ?_
        refine svnil ?_
        refine thn ?_
        refine vc_seq' ?_
        refine vc_sr ?_
        iterate 4 refine vo ?_
        refine vnt ?_
        refine vc_if (fun g9 => ?_) (fun g9 => ?_)
        · refine vc_seq' ?_
          refine vc_sv ?_
          refine svo ?_
          refine svo ?_
          refine svp [16, 16, 16, 16, 16, 24, 17, 2] c_pick (fun fl hfl => ?_) 1000001
          refine svo ?_
          refine svo ?_
          refine svo ?_
          refine svnil ?_
          refine thn ?_
          refine vc_sv ?_
          refine svo ?_
          refine svo ?_
          refine sve (c_spec_l01Text (n := 1 + z2)) (fun tx htx => ?_) 1000001
          refine svo ?_
          refine svo ?_
          refine svo ?_
          refine svnil ?_
          refine thn ?_
          refine vc_sr ?_
          iterate 5 refine vo ?_
          refine vnt ?_
          refine vc_sr ?_
          iterate 3 refine vo ?_
          try refine vwr ?_
          refine vo ?_
          try refine veq (Int.tmod_eq_emod_of_nonneg (by omega)) ?_
          iterate 2 refine vo ?_
          refine vnt ?_
          refine vc_seq' ?_
          refine vc_sv ?_
          refine svo ?_
          refine svo ?_
          refine svo ?_
          refine svo ?_
          refine svsp (fun h9 => ?_) (fun h9 => absurd g9 h9)
          refine svo ?_
          refine svon ?_
          refine sven (c_spec_l01Once (n := 8)) (fun o8 ho8 => ?_) 1000001
          refine svon ?_
          refine svo ?_
          refine svnil ?_
          refine thn ?_
          refine vc_if (fun g10 => ?_) (fun g10 => ?_)
          · refine vc_region ?_
            iterate 8 refine vo ?_
            try refine vwr ?_
            refine vo ?_
            try refine veq (Int.tmod_eq_emod_of_nonneg (by omega)) ?_
            iterate 3 refine vo ?_
            refine vnil ?_
            refine inB_n ?_
            refine thn ?_
            refine vc_region ?_
            iterate 2 refine vo ?_
            try refine vwr ?_
            refine vo ?_
            refine vnt ?_
            have htz : tx.size ≤ 40 := by omega
            have hP1 := sup_tcp9 (p := S.p) hI.sup g9 hfl (b := tx) (by omega)
            have hP2 := sup_id9 hP1
            have hP3 := sup_sq9 hP2 g9 (tx.size : Nat)
            refine ⟨⟨S.L ++ [{ S.p with fl := fl, body := tx }], { ({ ({ S.p with fl := fl, body := tx } : Pk) with id := ((S.p).id + 1) % 65536 } : Pk) with seq := ((S.p).seq + (tx.size : Nat)) % 4294967296 }, 1 + z2, S.k - 1⟩, l9_stp hI (show S.k = S.k - 1 + 1 by omega) hP1 htz hP3 htz (by omega) (by omega), by show S.k - 1 < S.k; omega, sub_i [(7, some 400), (48, some 48)] (fz ?_) (fz ?_)⟩
            · have hkk : 0 < S.k := by omega
              omega
            · rw [List.map_append]; rfl
          · refine vc_skip ?_
            refine inB_n ?_
            refine thn ?_
            refine vc_region ?_
            iterate 2 refine vo ?_
            try refine vwr ?_
            refine vo ?_
            refine vnt ?_
            have htz : tx.size ≤ 40 := by omega
            have hP1 := sup_tcp9 (p := S.p) hI.sup g9 hfl (b := tx) (by omega)
            have hP2 := sup_id9 hP1
            refine ⟨⟨S.L ++ [{ S.p with fl := fl, body := tx }], { ({ S.p with fl := fl, body := tx } : Pk) with id := ((S.p).id + 1) % 65536 }, 1 + z2, S.k - 1⟩, l9_stp hI (show S.k = S.k - 1 + 1 by omega) hP1 htz hP2 htz (by omega) (by omega), by show S.k - 1 < S.k; omega, sub_i [(7, some 400), (48, some 48)] (fz ?_) (fz ?_)⟩
            · have hkk : 0 < S.k := by omega
              omega
            · rw [List.map_append]; rfl
        · refine vc_skip ?_
          refine thn ?_
          refine vc_sr ?_
          iterate 5 refine vo ?_
          refine vnt ?_
          refine vc_sr ?_
          iterate 3 refine vo ?_
          try refine vwr ?_
          refine vo ?_
          try refine veq (Int.tmod_eq_emod_of_nonneg (by omega)) ?_
          iterate 2 refine vo ?_
          refine vnt ?_
          refine vc_seq' ?_
          refine vc_sv ?_
          refine svo ?_
          refine svo ?_
          refine svo ?_
          refine svo ?_
          refine svsp (fun h9 => absurd h9 g9) (fun h9 => ?_)
          refine svo ?_
          refine svof ?_
          refine svof ?_
          refine svof ?_
          refine svo ?_
          refine svnil ?_
          refine thn ?_
          refine vc_else ?_
          refine vc_skip ?_
          refine inB_n ?_
          refine thn ?_
          refine vc_region ?_
          iterate 2 refine vo ?_
          try refine vwr ?_
          refine vo ?_
          refine vnt ?_
          have hP2 := sup_id9 hI.sup
          refine ⟨⟨S.L ++ [S.p], { (S.p : Pk) with id := ((S.p).id + 1) % 65536 }, 1 + z2, S.k - 1⟩, l9_stp hI (show S.k = S.k - 1 + 1 by omega) hI.sup hI.bd hP2 hI.bd (by omega) (by omega), by show S.k - 1 < S.k; omega, sub_i [(7, some 400), (48, some 48)] (fz ?_) (fz ?_)⟩
          · have hkk : 0 < S.k := by omega
            omega
          · rw [List.map_append]; rfl
      · refine vc_skip ?_
        refine thn ?_
        refine vc_seq' ?_
        refine vc_sr ?_
        iterate 4 refine vo ?_
        refine vnt ?_
        refine vc_if (fun g11 => ?_) (fun g11 => ?_)
        · refine vc_seq' ?_
          refine vc_sv ?_
          refine svo ?_
          refine svo ?_
          refine svp [16, 16, 16, 16, 16, 24, 17, 2] c_pick (fun fl hfl => ?_) 1000001
          refine svo ?_
          refine svo ?_
          refine svo ?_
          refine svnil ?_
          refine thn ?_
          refine vc_sv ?_
          refine svo ?_
          refine svo ?_
          refine sve (c_spec_l01Text (n := S.size)) (fun tx htx => ?_) 1000001
          refine svo ?_
          refine svo ?_
          refine svo ?_
          refine svnil ?_
          refine thn ?_
          refine vc_sr ?_
          iterate 5 refine vo ?_
          refine vnt ?_
          refine vc_sr ?_
          iterate 3 refine vo ?_
          try refine vwr ?_
          refine vo ?_
          try refine veq (Int.tmod_eq_emod_of_nonneg (by omega)) ?_
          iterate 2 refine vo ?_
          refine vnt ?_
          refine vc_seq' ?_
          refine vc_sv ?_
          refine svo ?_
          refine svo ?_
          refine svo ?_
          refine svo ?_
          refine svsp (fun h9 => ?_) (fun h9 => absurd g11 h9)
          refine svo ?_
          refine svon ?_
          refine sven (c_spec_l01Once (n := 8)) (fun o8 ho8 => ?_) 1000001
          refine svon ?_
          refine svo ?_
          refine svnil ?_
          refine thn ?_
          refine vc_if (fun g12 => ?_) (fun g12 => ?_)
          · refine vc_region ?_
            iterate 8 refine vo ?_
            try refine vwr ?_
            refine vo ?_
            try refine veq (Int.tmod_eq_emod_of_nonneg (by omega)) ?_
            iterate 3 refine vo ?_
            refine vnil ?_
            refine inB_n ?_
            refine thn ?_
            refine vc_region ?_
            iterate 2 refine vo ?_
            try refine vwr ?_
            refine vo ?_
            refine vnt ?_
            have htz : tx.size ≤ 40 := by omega
            have hP1 := sup_tcp9 (p := S.p) hI.sup g11 hfl (b := tx) (by omega)
            have hP2 := sup_id9 hP1
            have hP3 := sup_sq9 hP2 g11 (tx.size : Nat)
            refine ⟨⟨S.L ++ [{ S.p with fl := fl, body := tx }], { ({ ({ S.p with fl := fl, body := tx } : Pk) with id := ((S.p).id + 1) % 65536 } : Pk) with seq := ((S.p).seq + (tx.size : Nat)) % 4294967296 }, S.size, S.k - 1⟩, l9_stp hI (show S.k = S.k - 1 + 1 by omega) hP1 htz hP3 htz (by omega) (by omega), by show S.k - 1 < S.k; omega, sub_i [(7, some 400), (48, some 48)] (fz ?_) (fz ?_)⟩
            · have hkk : 0 < S.k := by omega
              omega
            · rw [List.map_append]; rfl
          · refine vc_skip ?_
            refine inB_n ?_
            refine thn ?_
            refine vc_region ?_
            iterate 2 refine vo ?_
            try refine vwr ?_
            refine vo ?_
            refine vnt ?_
            have htz : tx.size ≤ 40 := by omega
            have hP1 := sup_tcp9 (p := S.p) hI.sup g11 hfl (b := tx) (by omega)
            have hP2 := sup_id9 hP1
            refine ⟨⟨S.L ++ [{ S.p with fl := fl, body := tx }], { ({ S.p with fl := fl, body := tx } : Pk) with id := ((S.p).id + 1) % 65536 }, S.size, S.k - 1⟩, l9_stp hI (show S.k = S.k - 1 + 1 by omega) hP1 htz hP2 htz (by omega) (by omega), by show S.k - 1 < S.k; omega, sub_i [(7, some 400), (48, some 48)] (fz ?_) (fz ?_)⟩
            · have hkk : 0 < S.k := by omega
              omega
            · rw [List.map_append]; rfl
        · refine vc_skip ?_
          refine thn ?_
          refine vc_sr ?_
          iterate 5 refine vo ?_
          refine vnt ?_
          refine vc_sr ?_
          iterate 3 refine vo ?_
          try refine vwr ?_
          refine vo ?_
          try refine veq (Int.tmod_eq_emod_of_nonneg (by omega)) ?_
          iterate 2 refine vo ?_
          refine vnt ?_
          refine vc_seq' ?_
          refine vc_sv ?_
          refine svo ?_
          refine svo ?_
          refine svo ?_
          refine svo ?_
          refine svsp (fun h9 => absurd h9 g11) (fun h9 => ?_)
          refine svo ?_
          refine svof ?_
          refine svof ?_
          refine svof ?_
          refine svo ?_
          refine svnil ?_
          refine thn ?_
          refine vc_else ?_
          refine vc_skip ?_
          refine inB_n ?_
          refine thn ?_
          refine vc_region ?_
          iterate 2 refine vo ?_
          try refine vwr ?_
          refine vo ?_
          refine vnt ?_
          have hP2 := sup_id9 hI.sup
          refine ⟨⟨S.L ++ [S.p], { (S.p : Pk) with id := ((S.p).id + 1) % 65536 }, S.size, S.k - 1⟩, l9_stp hI (show S.k = S.k - 1 + 1 by omega) hI.sup hI.bd hP2 hI.bd (by omega) (by omega), by show S.k - 1 < S.k; omega, sub_i [(7, some 400), (48, some 48)] (fz ?_) (fz ?_)⟩
          · have hkk : 0 < S.k := by omega
            omega
          · rw [List.map_append]; rfl
  · refine vc_exit ?_
    refine thn_x ?_
    refine thn_x ?_
    refine inB_x ?_
    refine thn ?_
    refine vc_sr ?_
    iterate 2 refine vo ?_
    refine vnt ?_
    refine vc_ret ?_
    have hlen := hI.len
    have hk0 : S.k = 0 := by omega
    refine fin_g (S.L) (⟨by omega, hI.all⟩) [(1000001, some 1000001), (1000003, some 1000003), (0, some 7)] rfl (fz ?_) (fz ?_) <;> first | trivial | rfl | trace_state
set_option maxHeartbeats 4000000 in
theorem c_spec_l11Key {b : Nat} {v : Value} {code : List UInt8}  : ConC Try.prog 30 58 b v code [] (α := ByteArray) (fun x => x.size = 16) (fun x => .one (.v (.string x))) (fun _ => []) := by
  refine conc_i Try.func30 Try.ntmps30 (fun L => ?_)
  refine vc_nf rfl rfl ?_
  refine vc_sr ?_
  refine vo ?_
  refine vnt ?_
  refine vc_seq' ?_
  refine vc_sv ?_
  refine svo ?_
  refine sve (c_spec_l01Text (n := 16)) (fun x1 hx1 => ?_) 1000001
  refine svo ?_
  refine svnil ?_
  refine thn ?_
  refine vc_ret ?_
  refine fin_g (x1) (by omega) [] rfl (fz ?_) (fz ?_) <;> first | trivial | rfl | trace_state
end Go.Proofs.Ytfcmcedeapgdcaa
end
section
namespace Go.Proofs.Ytfcmcedeapgdcaa
open Go Go.RowKit Go.Vc
set_option linter.unusedVariables false
set_option linter.unusedSimpArgs false
set_option linter.unnecessarySimpa false
theorem and7 (x : Int) : 0 ≤ andI x 7 ∧ andI x 7 ≤ 7 := by
  have h : (BitVec.ofInt 64 x &&& BitVec.ofInt 64 7).toNat ≤ 7 := by
    rw [BitVec.toNat_and]
    exact Nat.le_trans Nat.and_le_right (by decide)
  unfold andI Go.Vc.bits
  show 0 ≤ IntKind.i64.wrap ((BitVec.ofInt 64 x &&& BitVec.ofInt 64 7).toNat : Int) ∧ IntKind.i64.wrap ((BitVec.ofInt 64 x &&& BitVec.ofInt 64 7).toNat : Int) ≤ 7
  rw [IntWalk.i64_in _ (by omega)]
  omega
theorem sum7_stp {xs : List Int} {i : Nat} {n : Int} (hn : 0 ≤ n ∧ n ≤ 7 * i) (y : Int) : 0 ≤ n + andI y 7 ∧ n + andI y 7 ≤ 7 * ((i + 1 : Nat) : Int) := by
  have := and7 y
  omega
theorem set_sl (l : List SlX) (i : Nat) (a b c d e f g : Int) : (l.map slE).set i [.int .i64 a, .int .i64 b, .int .i64 c, .int .i64 d, .int .i64 e, .int .i64 f, .int .i64 g] = (l.set i ⟨a, ⟨b, c, d, e, f⟩, g⟩).map slE := by rw [List.map_set]; rfl
structure RlX where
  (pr kind si bits fp lp vl ac q : Int)
instance : Inhabited RlX := ⟨⟨0, 0, 0, 0, 0, 0, 0, 0, 0⟩⟩
def rlE (x : RlX) : List Value := [.int .i64 x.pr, .int .i64 x.kind, .int .i64 x.si, .int .i64 x.bits, .int .i64 x.fp, .int .i64 x.lp, .int .i64 x.vl, .int .i64 x.ac, .int .i64 x.q]
theorem set_rl (l : List RlX) (i : Nat) (a b c d e f g h k : Int) : (l.map rlE).set i [.int .i64 a, .int .i64 b, .int .i64 c, .int .i64 d, .int .i64 e, .int .i64 f, .int .i64 g, .int .i64 h, .int .i64 k] = (l.set i ⟨a, b, c, d, e, f, g, h, k⟩).map rlE := by rw [List.map_set]; rfl
structure SpX where
  (q : Int)
  (key : ByteArray)
  (n : Nat)
set_option maxHeartbeats 4000000 in
theorem c_spec_HomeSlot {x : F5} : ConX Try.prog 37 [.agg (fV x)] (α := Int) (fun r => 0 ≤ r ∧ r ≤ 7) (fun r => I r) (fun _ => []) := by
  refine conx_i Try.func37 Try.ntmps37 (t := [(0, .agg (fV x))]) rfl ?_
  refine vc_nf rfl rfl ?_
  refine vc_sr ?_
  iterate 2 refine vo ?_
  refine vnt ?_
  refine vc_sr ?_
  refine vo ?_
  refine vnt ?_
  refine vc_sr ?_
  iterate 11 refine vo ?_
  rw [show ([[.int .i64 x.k], [.int .i64 x.s], [.int .i64 x.d], [.int .i64 x.sp], [.int .i64 x.dp]] : List (List Value)) = ([x.k, x.s, x.d, x.sp, x.dp] : List Int).map intE from rfl]
  refine vo ?_
  refine vnt ?_
  refine vc_seq' ?_
  refine vc_sr ?_
  refine vo ?_
  refine vnt ?_
  refine vc_block ?_
  refine vc_lp2 [4] [128] (fun (i : Nat) (m : Int) => [(3, I m), (5, I (i : Nat))]) (fun (i : Nat) (m : Int) => []) (fun (i : Nat) (m : Int) => i ≤ 5 ∧ 0 ≤ m ∧ m ≤ 7 * i) (fun (i : Nat) (m : Int) => 5 - i) 0 0 rfl rfl (sub_i [] (fz ?_) (fz ?_)) ?_ fun i m hI => ?_
  · first | trivial | rfl | exact ⟨rfl, rfl⟩ | simp | trace_state
  · first | trivial | rfl | exact ⟨rfl, rfl⟩ | simp | trace_state
  · exact ⟨by omega, by omega, by omega⟩
  refine vc_nf rfl rfl ?_
  have hst0 := and7 (at' [x.k, x.s, x.d, x.sp, x.dp] i)
  refine vc_seq' ?_
  refine vc_sr ?_
  iterate 3 refine vo ?_
  try first | refine vlb ?_ | refine vln ?_
  refine vo ?_
  refine vnt ?_
  refine vc_if (fun g1 => ?_) (fun g1 => ?_)
  · refine vc_skip ?_
    refine thn ?_
    refine vc_seq' ?_
    refine vc_block ?_
    refine vc_region ?_
    iterate 4 refine vo ?_
    try with_reducible (first | refine vep ?_ | refine vpt ?_)
    iterate 3 refine vo ?_
    try refine vwr ?_
    refine vo ?_
    refine vnil ?_
    refine inB_n ?_
    refine thn ?_
    refine vc_region ?_
    iterate 2 refine vo ?_
    try refine vwr ?_
    refine vo ?_
    refine vnt ?_
    have hst := sum7_stp (xs := []) hI.2 (at' [x.k, x.s, x.d, x.sp, x.dp] i)
    refine ⟨i + 1, _, ⟨by omega, hst.1, hst.2⟩, by omega, sub_i [] (fz ?_) (fz ?_)⟩
    · first | trivial | rfl | exact ⟨rfl, by omega⟩ | trace_state
    · first | trivial | rfl | trace_state
  · refine vc_exit ?_
    refine thn_x ?_
    refine thn_x ?_
    refine inB_x ?_
    refine thn ?_
    refine vc_sr ?_
    iterate 2 refine vo ?_
    try refine veq (Int.tmod_eq_emod_of_nonneg (by omega)) ?_
    refine vo ?_
    refine vnt ?_
    refine vc_ret ?_
    refine fin_x (m % 8) (by omega) ?_
    refine fin_i [] rfl (fz ?_) (fz ?_) <;> first | trivial | rfl | trace_state
set_option maxHeartbeats 4000000 in
theorem c_spec_l13Find {l : List SlX} {x : F5} (hl : l.length = 8 := by first | with_reducible assumption | omega) : ConX Try.prog 36 [.agg [.sl 7 (l.map slE)], .agg (fV x)] (α := Int) (fun r => -1 ≤ r ∧ r ≤ 7) (fun r => I r) (fun _ => []) := by
  have hE := eqk_Flow
  refine conx_i Try.func36 Try.ntmps36 (t := [(0, .agg [.sl 7 (l.map slE)]), (1, .agg (fV x))]) rfl ?_
  refine vc_nf rfl rfl ?_
  refine vc_sr ?_
  iterate 3 refine vo ?_
  refine vnt ?_
  refine vc_seq' ?_
  refine vc_sr ?_
  refine vo ?_
  refine vnt ?_
  refine vc_block ?_
  refine vc_lp (σ := Nat) [2, 3] [16, 24] (fun i => [(5, I (i : Nat))]) (fun i => []) (fun i => i ≤ 8) (fun i => 8 - i) 0 rfl rfl (sub_i [] (fz ?_) (fz ?_)) ?_ fun i hI => ?_
  · first | trivial | simp
  · first | trivial | simp
  · omega
  refine vc_nf rfl rfl ?_
  refine vc_seq' ?_
  refine vc_sr ?_
  iterate 2 refine vo ?_
  refine vnt ?_
  refine vc_if (fun g1 => ?_) (fun g1 => ?_)
  · refine vc_skip ?_
    refine thn ?_
    refine vc_seq' ?_
    refine vc_block ?_
    refine vc_seq' ?_
    refine vc_sv ?_
    refine svo ?_
    refine svx (c_spec_HomeSlot (x := x)) rfl rfl (fun hs hhs => ?_)
    refine svo ?_
    refine svo ?_
    try refine svwr ?_
    refine svo ?_
    try refine sveq (Int.tmod_eq_emod_of_nonneg (by omega)) ?_
    refine svo ?_
    refine svnil ?_
    refine thn ?_
    refine vc_seq' ?_
    refine vc_sr ?_
    iterate 4 refine vo ?_
    try with_reducible (first | refine vep ?_ | refine vpt ?_)
    iterate 3 refine vo ?_
    refine vnt ?_
    refine vc_if (fun g2 => ?_) (fun g2 => ?_)
    · refine vc_sr ?_
      refine vo ?_
      refine vnt ?_
      refine vc_ret ?_
      refine thn_r ?_
      refine inB_r ?_
      refine thn_r ?_
      refine thn_r ?_
      refine inB_r ?_
      refine thn_r ?_
      refine fin_x (-1) (by omega) ?_
      refine fin_i [] rfl (fz ?_) (fz ?_) <;> first | trivial | rfl | trace_state
    · refine vc_skip ?_
      refine thn ?_
      refine vc_sr ?_
      iterate 4 refine vo ?_
      try with_reducible (first | refine vep ?_ | refine vpt ?_)
      iterate 4 refine vo ?_
      refine vsp (fun g3 => ?_) (fun g3 => ?_)
      · iterate 4 refine von ?_
        try with_reducible (first | refine vep ?_ | refine vpt ?_)
        iterate 4 refine von ?_
        refine vo ?_
        refine vnt ?_
        refine vc_if (fun g4 => ?_) (fun g4 => ?_)
        · refine vc_sr ?_
          iterate 2 refine vo ?_
          refine vnt ?_
          refine vc_ret ?_
          refine inB_r ?_
          refine thn_r ?_
          refine thn_r ?_
          refine inB_r ?_
          refine thn_r ?_
          refine fin_x ((hs + (i : Int)) % 8) (by omega) ?_
          refine fin_i [] rfl (fz ?_) (fz ?_) <;> first | trivial | rfl | trace_state
        · refine vc_skip ?_
          refine inB_n ?_
          refine thn ?_
          refine vc_region ?_
          iterate 2 refine vo ?_
          try refine vwr ?_
          refine vo ?_
          refine vnt ?_
          refine ⟨i + 1, ?_, ?_, sub_i [] (fz ?_) (fz ?_)⟩
          · omega
          · omega
          all_goals first | trivial | rfl | omega | simp
      · iterate 8 refine vof ?_
        refine vo ?_
        refine vnt ?_
        refine vc_else ?_
        refine vc_skip ?_
        refine inB_n ?_
        refine thn ?_
        refine vc_region ?_
        iterate 2 refine vo ?_
        try refine vwr ?_
        refine vo ?_
        refine vnt ?_
        refine ⟨i + 1, ?_, ?_, sub_i [] (fz ?_) (fz ?_)⟩
        · omega
        · omega
        all_goals first | trivial | rfl | omega | simp
  · refine vc_exit ?_
    refine thn_x ?_
    refine thn_x ?_
    refine inB_x ?_
    refine thn ?_
    refine vc_sr ?_
    refine vo ?_
    refine vnt ?_
    refine vc_ret ?_
    refine fin_x (-1) (by omega) ?_
    refine fin_i [] rfl (fz ?_) (fz ?_) <;> first | trivial | rfl | trace_state
set_option maxHeartbeats 4000000 in
theorem c_spec_TableOk {l : List SlX} (hz : l.length ≤ 1000 := by omega) : ConX Try.prog 34 [.agg [.sl 7 (l.map slE)]] (α := Bool) (fun _ => True) (fun r => B r) (fun _ => []) := by
  have hE := eqk_Flow
  refine conx_i Try.func34 Try.ntmps34 (t := [(0, .agg [.sl 7 (l.map slE)])]) rfl ?_
  refine vc_nf rfl rfl ?_
  refine vc_sr ?_
  iterate 2 refine vo ?_
  refine vnt ?_
  refine vc_seq' ?_
  refine vc_sr ?_
  iterate 3 refine vo ?_
  try first | refine vlb ?_ | refine vln ?_
  refine vo ?_
  refine vnt ?_
  refine vc_if (fun g1 => ?_) (fun g1 => ?_)
  · refine vc_sr ?_
    refine vo ?_
    refine vnt ?_
    refine vc_ret ?_
    refine thn_r ?_
    refine fin_x false trivial ?_
    refine fin_i [] rfl (fz ?_) (fz ?_) <;> first | trivial | rfl | trace_state
  · refine vc_skip ?_
    refine thn ?_
    refine vc_seq' ?_
    refine vc_sr ?_
    refine vo ?_
    refine vnt ?_
    refine vc_block ?_
    refine vc_lp (σ := Nat) [1] [8] (fun i => [(3, I (i : Nat))]) (fun i => []) (fun i => i ≤ l.length) (fun i => l.length - i) 0 rfl rfl (sub_i [] (fz ?_) (fz ?_)) ?_ fun i hI => ?_
    · first | trivial | simp
    · first | trivial | simp
    · omega
    refine vc_nf rfl rfl ?_
    refine vc_seq' ?_
    refine vc_sr ?_
    iterate 4 refine vo ?_
    try first | refine vlb ?_ | refine vln ?_
    refine vo ?_
    refine vnt ?_
    refine vc_if (fun g2 => ?_) (fun g2 => ?_)
    · refine vc_skip ?_
      refine thn ?_
      refine vc_seq' ?_
      refine vc_block ?_
      refine vc_sr ?_
      iterate 4 refine vo ?_
      try with_reducible (first | refine vep ?_ | refine vpt ?_)
      iterate 3 refine vo ?_
      refine vnt ?_
      refine vc_seq' ?_
      refine vc_sr ?_
      iterate 2 refine vo ?_
      refine voc c_spec_l01In rfl rfl ?_
      iterate 2 refine vo ?_
      refine vsp (fun g3 => ?_) (fun g3 => ?_)
      · iterate 4 refine vof ?_
        refine vo ?_
        refine vnt ?_
        refine vc_then ?_
        refine vc_sr ?_
        refine vo ?_
        refine vnt ?_
        refine vc_ret ?_
        refine thn_r ?_
        refine inB_r ?_
        refine thn_r ?_
        refine thn_r ?_
        refine inB_r ?_
        refine thn_r ?_
        refine fin_x false trivial ?_
        refine fin_i [] rfl (fz ?_) (fz ?_) <;> first | trivial | rfl | trace_state
      · iterate 2 refine von ?_
        refine vocn c_spec_l01In rfl rfl ?_
        refine von ?_
        refine vo ?_
        refine vnt ?_
        refine vc_if (fun g4 => ?_) (fun g4 => ?_)
        · refine vc_sr ?_
          refine vo ?_
          refine vnt ?_
          refine vc_ret ?_
          refine thn_r ?_
          refine inB_r ?_
          refine thn_r ?_
          refine thn_r ?_
          refine inB_r ?_
          refine thn_r ?_
          refine fin_x false trivial ?_
          refine fin_i [] rfl (fz ?_) (fz ?_) <;> first | trivial | rfl | trace_state
        · refine vc_skip ?_
          refine thn ?_
          refine vc_seq' ?_
          refine vc_sr ?_
          iterate 3 refine vo ?_
          refine vnt ?_
          refine vc_if (fun g5 => ?_) (fun g5 => ?_)
          · refine vc_seq' ?_
            refine vc_sr ?_
            iterate 4 refine vo ?_
            refine vsp (fun g6 => ?_) (fun g6 => ?_)
            · iterate 4 refine vof ?_
              refine vo ?_
              refine vnt ?_
              refine vc_then ?_
              refine vc_sr ?_
              refine vo ?_
              refine vnt ?_
              refine vc_ret ?_
              refine thn_r ?_
              refine thn_r ?_
              refine inB_r ?_
              refine thn_r ?_
              refine thn_r ?_
              refine inB_r ?_
              refine thn_r ?_
              refine fin_x false trivial ?_
              refine fin_i [] rfl (fz ?_) (fz ?_) <;> first | trivial | rfl | trace_state
            · iterate 4 refine von ?_
              refine vo ?_
              refine vnt ?_
              refine vc_if (fun g7 => ?_) (fun g7 => ?_)
              · refine vc_sr ?_
                refine vo ?_
                refine vnt ?_
                refine vc_ret ?_
                refine thn_r ?_
                refine thn_r ?_
                refine inB_r ?_
                refine thn_r ?_
                refine thn_r ?_
                refine inB_r ?_
                refine thn_r ?_
                refine fin_x false trivial ?_
                refine fin_i [] rfl (fz ?_) (fz ?_) <;> first | trivial | rfl | trace_state
              · refine vc_skip ?_
                refine thn ?_
                refine vc_exit ?_
                refine thn_x ?_
                refine inB_x ?_
                refine thn ?_
                refine vc_region ?_
                iterate 2 refine vo ?_
                try refine vwr ?_
                refine vo ?_
                refine vnt ?_
                refine ⟨i + 1, ?_, ?_, sub_i [] (fz ?_) (fz ?_)⟩
                · omega
                · omega
                all_goals first | trivial | rfl | omega | simp
          · refine vc_skip ?_
            refine thn ?_
            refine vc_seq' ?_
            refine vc_sv ?_
            refine svo ?_
            refine svo ?_
            refine svo ?_
            refine svx (c_spec_l13Find (l := l) (x := (at' l i).f)) rfl rfl (fun fi hfi => ?_)
            refine svo ?_
            refine svo ?_
            refine svnil ?_
            refine thn ?_
            refine vc_if (fun g8 => ?_) (fun g8 => ?_)
            · refine vc_sr ?_
              refine vo ?_
              refine vnt ?_
              refine vc_ret ?_
              refine inB_r ?_
              refine thn_r ?_
              refine thn_r ?_
              refine inB_r ?_
              refine thn_r ?_
              refine fin_x false trivial ?_
              refine fin_i [] rfl (fz ?_) (fz ?_) <;> first | trivial | rfl | trace_state
            · refine vc_skip ?_
              refine inB_n ?_
              refine thn ?_
              refine vc_region ?_
              iterate 2 refine vo ?_
              try refine vwr ?_
              refine vo ?_
              refine vnt ?_
              refine ⟨i + 1, ?_, ?_, sub_i [] (fz ?_) (fz ?_)⟩
              · omega
              · omega
              all_goals first | trivial | rfl | omega | simp
    · refine vc_exit ?_
      refine thn_x ?_
      refine thn_x ?_
      refine inB_x ?_
      refine thn ?_
      refine vc_sr ?_
      refine vo ?_
      refine vnt ?_
      refine vc_ret ?_
      refine fin_x true trivial ?_
      refine fin_i [] rfl (fz ?_) (fz ?_) <;> first | trivial | rfl | trace_state
set_option maxHeartbeats 4000000 in
theorem c_spec_NewTable  : Con0 Try.prog 19 [] (.agg [.hs 0]) [(0, .arr 84 7 ((List.replicate 8 (default : SlX)).map slE))] := by
  refine con_i Try.func19 Try.ntmps19 (t := []) rfl ?_
  refine vc_sr ?_
  refine vo ?_
  refine vnt ?_
  refine vc_sr ?_
  iterate 3 refine vo ?_
  refine vnt ?_
  refine vc_ret ?_
  refine fin_i [(0, some 8)] rfl (fz ?_) (fz ?_) <;> first | trivial | rfl
set_option maxHeartbeats 4000000 in
theorem c_spec_l13Copy {l : List SlX} (hz : l.length ≤ 1000 := by omega) : Con0 Try.prog 33 [.agg [.sl 7 (l.map slE)]] (.agg [.hs 0]) [(0, .arr 84 7 (l.map slE))] := by
  refine con_i Try.func33 Try.ntmps33 (t := [(0, .agg [.sl 7 (l.map slE)])]) rfl ?_
  refine vc_sr ?_
  iterate 2 refine vo ?_
  refine vnt ?_
  refine vc_sr ?_
  iterate 6 refine vo ?_
  refine vnt ?_
  refine vc_ret ?_
  refine fin_i [(0, some 48)] rfl (fz ?_) (fz ?_) <;> first | trivial | rfl | simp
set_option maxHeartbeats 4000000 in
theorem c_spec_PutFlow {l : List SlX} {x : F5} {q : Int} (hl : l.length = 8 := by first | with_reducible assumption | omega) : ConX Try.prog 24 [.agg [.sl 7 (l.map slE)], .agg (fV x), I q] (α := List SlX × Bool) (fun y => y.1.length = 8) (fun y => .tup [.agg [.hs 0], .one (.v (.bool y.2))]) (fun y => [(0, .arr 84 7 (y.1.map slE))]) := by
  refine conx_i Try.func24 Try.ntmps24 (t := [(0, .agg [.sl 7 (l.map slE)]), (1, .agg (fV x)), (2, I q)]) rfl ?_
  refine vc_nf rfl rfl ?_
  refine vc_sr ?_
  iterate 4 refine vo ?_
  refine vnt ?_
  refine vc_sr ?_
  refine vo ?_
  refine voc c_spec_l13Copy rfl rfl ?_
  iterate 2 refine vo ?_
  refine vnt ?_
  refine vc_seq' ?_
  refine vc_seq' ?_
  refine vc_sv ?_
  refine svo ?_
  refine svx (c_spec_TableOk (l := l)) rfl rfl (fun tk htk => ?_)
  refine svo ?_
  refine svo ?_
  refine svsp (fun g1 => ?_) (fun g1 => ?_)
  · refine svof ?_
    refine svof ?_
    refine svof ?_
    refine svo ?_
    refine svnil ?_
    refine thn ?_
    refine vc_then ?_
    refine vc_sr ?_
    iterate 3 refine vo ?_
    refine vnt ?_
    refine vc_ret ?_
    refine thn_r ?_
    first | (refine fin_x (l, false) hl ?_; refine fin_i [(0, some 104)] rfl (fz ?_) (fz ?_) <;> first | trivial | rfl) | (refine fin_x (l.set r.toNat ⟨1, x, q⟩, true) (by show (l.set _ _).length = 8; rw [List.length_set]; exact hl) ?_; refine fin_i [(0, some 104)] rfl (fz ?_) (fz ?_) <;> first | trivial | rfl | trace_state)
  · refine svon ?_
    refine svocn c_spec_l01In rfl rfl ?_
    refine svon ?_
    refine svo ?_
    refine svnil ?_
    refine thn ?_
    refine vc_if (fun g2 => ?_) (fun g2 => ?_)
    · refine vc_sr ?_
      iterate 3 refine vo ?_
      refine vnt ?_
      refine vc_ret ?_
      refine thn_r ?_
      first | (refine fin_x (l, false) hl ?_; refine fin_i [(0, some 104)] rfl (fz ?_) (fz ?_) <;> first | trivial | rfl) | (refine fin_x (l.set r.toNat ⟨1, x, q⟩, true) (by show (l.set _ _).length = 8; rw [List.length_set]; exact hl) ?_; refine fin_i [(0, some 104)] rfl (fz ?_) (fz ?_) <;> first | trivial | rfl | trace_state)
    · refine vc_skip ?_
      refine thn ?_
      refine vc_seq' ?_
      refine vc_sv ?_
      refine svo ?_
      refine svo ?_
      refine svx (c_spec_l13Find (l := l) (x := x)) rfl rfl (fun fi hfi => ?_)
      refine svo ?_
      refine svnil ?_
      refine thn ?_
      refine vc_seq' ?_
      refine vc_sr ?_
      refine vo ?_
      refine vnt ?_
      refine vc_block ?_
      refine vc_lp2 [2, 3, 4, 6, 8] [24, 32, 48, 64, 104] (fun (i : Nat) (r : Int) => [(9, I r), (10, I (i : Nat))]) (fun (i : Nat) (r : Int) => []) (fun (i : Nat) (r : Int) => i ≤ 8 ∧ -1 ≤ r ∧ r ≤ 7) (fun (i : Nat) (r : Int) => 8 - i) 0 fi rfl rfl (sub_i [] (fz ?_) (fz ?_)) ?_ fun i r hI => ?_
      · first | trivial | rfl | exact ⟨rfl, rfl⟩ | simp | trace_state
      · first | trivial | rfl | exact ⟨rfl, rfl⟩ | simp | trace_state
      · exact ⟨by omega, by omega, by omega⟩
      refine vc_nf rfl rfl ?_
      refine vc_seq' ?_
      refine vc_sr ?_
      iterate 3 refine vo ?_
      refine vsp (fun g3 => ?_) (fun g3 => ?_)
      · iterate 2 refine von ?_
        refine vo ?_
        refine vnt ?_
        refine vc_if (fun g4 => ?_) (fun g4 => ?_)
        · refine vc_skip ?_
          refine thn ?_
          refine vc_seq' ?_
          refine vc_block ?_
          refine vc_seq' ?_
          refine vc_sv ?_
          refine svo ?_
          refine svx (c_spec_HomeSlot (x := x)) rfl rfl (fun hs hhs => ?_)
          refine svo ?_
          refine svo ?_
          try refine svwr ?_
          refine svo ?_
          try refine sveq (Int.tmod_eq_emod_of_nonneg (by omega)) ?_
          refine svo ?_
          refine svnil ?_
          refine thn ?_
          refine vc_sr ?_
          iterate 4 refine vo ?_
          try with_reducible (first | refine vep ?_ | refine vpt ?_)
          iterate 3 refine vo ?_
          refine vnt ?_
          refine vc_if (fun g5 => ?_) (fun g5 => ?_)
          · refine vc_region ?_
            iterate 2 refine vo ?_
            refine vnil ?_
            refine inB_n ?_
            refine thn ?_
            refine vc_region ?_
            iterate 2 refine vo ?_
            try refine vwr ?_
            refine vo ?_
            refine vnt ?_
            refine ⟨i + 1, (hs + (i : Int)) % 8, ⟨by omega, by omega, by omega⟩, by omega, sub_i [] (fz ?_) (fz ?_)⟩
            · first | trivial | rfl | exact ⟨rfl, by omega⟩ | trace_state
            · first | trivial | rfl | trace_state
          · refine vc_skip ?_
            refine inB_n ?_
            refine thn ?_
            refine vc_region ?_
            iterate 2 refine vo ?_
            try refine vwr ?_
            refine vo ?_
            refine vnt ?_
            refine ⟨i + 1, r, ⟨by omega, by omega, by omega⟩, by omega, sub_i [] (fz ?_) (fz ?_)⟩
            · first | trivial | rfl | exact ⟨rfl, by omega⟩ | trace_state
            · first | trivial | rfl | trace_state
        · refine vc_exit ?_
          refine thn_x ?_
          refine thn_x ?_
          refine inB_x ?_
          refine thn ?_
          refine vc_seq' ?_
          refine vc_sr ?_
          iterate 2 refine vo ?_
          refine vnt ?_
          refine vc_if (fun g6 => ?_) (fun g6 => ?_)
          · refine vc_sr ?_
            iterate 3 refine vo ?_
            refine vnt ?_
            refine vc_ret ?_
            refine thn_r ?_
            first | (refine fin_x (l, false) hl ?_; refine fin_i [(0, some 104)] rfl (fz ?_) (fz ?_) <;> first | trivial | rfl) | (refine fin_x (l.set r.toNat ⟨1, x, q⟩, true) (by show (l.set _ _).length = 8; rw [List.length_set]; exact hl) ?_; refine fin_i [(0, some 104)] rfl (fz ?_) (fz ?_) <;> first | trivial | rfl | trace_state)
          · refine vc_skip ?_
            refine thn ?_
            refine vc_sr ?_
            iterate 7 refine vo ?_
            try with_reducible (first | refine vep ?_ | refine vpt ?_)
            refine vo ?_
            rw [set_sl]
            refine vnt ?_
            refine vc_sr ?_
            iterate 3 refine vo ?_
            refine vnt ?_
            refine vc_ret ?_
            first | (refine fin_x (l, false) hl ?_; refine fin_i [(0, some 104)] rfl (fz ?_) (fz ?_) <;> first | trivial | rfl) | (refine fin_x (l.set r.toNat ⟨1, x, q⟩, true) (by show (l.set _ _).length = 8; rw [List.length_set]; exact hl) ?_; refine fin_i [(0, some 104)] rfl (fz ?_) (fz ?_) <;> first | trivial | rfl | trace_state)
      · iterate 2 refine vof ?_
        refine vo ?_
        refine vnt ?_
        refine vc_else ?_
        refine vc_exit ?_
        refine thn_x ?_
        refine thn_x ?_
        refine inB_x ?_
        refine thn ?_
        refine vc_seq' ?_
        refine vc_sr ?_
        iterate 2 refine vo ?_
        refine vnt ?_
        refine vc_if (fun g7 => ?_) (fun g7 => ?_)
        · refine vc_sr ?_
          iterate 3 refine vo ?_
          refine vnt ?_
          refine vc_ret ?_
          refine thn_r ?_
          first | (refine fin_x (l, false) hl ?_; refine fin_i [(0, some 104)] rfl (fz ?_) (fz ?_) <;> first | trivial | rfl) | (refine fin_x (l.set r.toNat ⟨1, x, q⟩, true) (by show (l.set _ _).length = 8; rw [List.length_set]; exact hl) ?_; refine fin_i [(0, some 104)] rfl (fz ?_) (fz ?_) <;> first | trivial | rfl | trace_state)
        · refine vc_skip ?_
          refine thn ?_
          refine vc_sr ?_
          iterate 7 refine vo ?_
          try with_reducible (first | refine vep ?_ | refine vpt ?_)
          refine vo ?_
          rw [set_sl]
          refine vnt ?_
          refine vc_sr ?_
          iterate 3 refine vo ?_
          refine vnt ?_
          refine vc_ret ?_
          first | (refine fin_x (l, false) hl ?_; refine fin_i [(0, some 104)] rfl (fz ?_) (fz ?_) <;> first | trivial | rfl) | (refine fin_x (l.set r.toNat ⟨1, x, q⟩, true) (by show (l.set _ _).length = 8; rw [List.length_set]; exact hl) ?_; refine fin_i [(0, some 104)] rfl (fz ?_) (fz ?_) <;> first | trivial | rfl | trace_state)
set_option maxHeartbeats 4000000 in
theorem c_spec_l14Rule {b : Nat} {v : Value} {code : List UInt8}  : ConC Try.prog 31 58 b v code [] (α := RlX) (fun _ => True) (fun x => .agg [V x.pr, V x.kind, V x.si, V x.bits, V x.fp, V x.lp, V x.vl, V x.ac, V x.q]) (fun _ => []) := by
  refine conc_i Try.func31 Try.ntmps31 (fun L => ?_)
  refine vc_nf rfl rfl ?_
  refine vc_sr ?_
  refine vo ?_
  refine vnt ?_
  refine vc_seq' ?_
  refine vc_sv ?_
  refine svo ?_
  refine sve (c_spec_l01Below (n := 3)) (fun b1 hb1 => ?_) 1000001
  refine svo ?_
  refine svo ?_
  refine svp [0, 6, 17] c_pick (fun p1 hp1 => ?_) 1000001
  refine svo ?_
  refine sve c_spec_l06Host (fun ho hho => ?_) 1000001
  refine svo ?_
  refine svo ?_
  refine svp [0, 8, 31, 32] c_pick (fun p2 hp2 => ?_) 1000001
  refine svo ?_
  refine svo ?_
  refine svp [0, 53, 80] c_pick (fun p3 hp3 => ?_) 1000001
  refine svo ?_
  refine svo ?_
  refine svp [80, 100, 65535] c_pick (fun p4 hp4 => ?_) 1000001
  refine svo ?_
  refine svo ?_
  refine svp [-2, -2, -1, 7] c_pick (fun p5 hp5 => ?_) 1000001
  refine svo ?_
  refine svo ?_
  refine svp [0, 0, 1] c_pick (fun p6 hp6 => ?_) 1000001
  refine svo ?_
  refine svo ?_
  refine svo ?_
  refine svnil ?_
  refine thn ?_
  refine vc_seq' ?_
  refine vc_sr ?_
  iterate 3 refine vo ?_
  refine vnt ?_
  refine vc_if (fun g1 => ?_) (fun g1 => ?_)
  · refine vc_sv ?_
    refine svo ?_
    refine sve (c_spec_l01Below (n := 4)) (fun b2 hb2 => ?_) 1000001
    refine svo ?_
    refine svo ?_
    refine svnil ?_
    refine thn ?_
    refine vc_sr ?_
    iterate 2 refine vo ?_
    refine vnt ?_
    refine vc_ret ?_
    refine fin_g (⟨b1, p1, ho, p2, p3, p4, p5, p6, b2⟩) (trivial) [] rfl (fz ?_) (fz ?_) <;> first | trivial | rfl | trace_state
  · refine vc_skip ?_
    refine thn ?_
    refine vc_sr ?_
    iterate 2 refine vo ?_
    refine vnt ?_
    refine vc_ret ?_
    refine fin_g (⟨b1, p1, ho, p2, p3, p4, p5, p6, 0⟩) (trivial) [] rfl (fz ?_) (fz ?_) <;> first | trivial | rfl | trace_state
set_option maxHeartbeats 4000000 in
theorem c_spec_l14Rules {b : Nat} {v : Value} {code : List UInt8}  : ConC Try.prog 22 58 b v code [] (α := List RlX) (fun x => x.length ≤ 4) (fun x => .one (.hs 0)) (fun x => [(0, .arr 65 9 (x.map rlE))]) := by
  refine conc_i Try.func22 Try.ntmps22 (fun L => ?_)
  refine vc_nf rfl rfl ?_
  refine vc_sr ?_
  refine vo ?_
  refine vnt ?_
  refine vc_sr ?_
  iterate 2 refine vo ?_
  refine vnt ?_
  refine vc_seq' ?_
  refine vc_seq' ?_
  refine vc_sv ?_
  refine svo ?_
  refine sve (c_spec_l01Below (n := 5)) (fun n hn => ?_) 1000001
  refine svo ?_
  refine svnil ?_
  refine thn ?_
  refine vc_block ?_
  refine vc_lp2 [0] [1000001, 1000003] (fun (R : List RlX) (k : Nat) => [(3, .one (.hs 7)), (4, I (k : Int))]) (fun (R : List RlX) (k : Nat) => [(7, .arr 65 9 (R.map rlE))]) (fun (R : List RlX) (k : Nat) => R.length + k ≤ 4) (fun (R : List RlX) (k : Nat) => k) [] n.toNat rfl rfl (sub_i [(7, some 40)] (fz ?_) (fz ?_)) ?_ fun R k hI => ?_
  · first | trivial | rfl | omega | exact ⟨rfl, by omega⟩ | trace_state
  · first | trivial | rfl | trace_state
  · show 0 + n.toNat ≤ 4; omega
  refine vc_nf rfl rfl ?_
  refine vc_seq' ?_
  refine vc_sr ?_
  iterate 2 refine vo ?_
  refine vnt ?_
  refine vc_if (fun g1 => ?_) (fun g1 => ?_)
  · refine vc_skip ?_
    refine thn ?_
    refine vc_seq' ?_
    refine vc_block ?_
    refine vc_sv ?_
    refine svo ?_
    refine svo ?_
    refine sve c_spec_l14Rule (fun x hx => ?_) 1000001
    refine svo ?_
    refine svo ?_
    refine svo ?_
    refine svnil ?_
    refine inB_n ?_
    refine thn ?_
    refine vc_region ?_
    iterate 2 refine vo ?_
    try refine vwr ?_
    refine vo ?_
    refine vnt ?_
    refine ⟨R ++ [x], k - 1, by rw [List.length_append]; show R.length + 1 + (k - 1) ≤ 4; omega, by omega, sub_i [(7, some 128)] (fz ?_) (fz ?_)⟩
    · first | trivial | rfl | omega | exact ⟨rfl, by omega⟩ | trace_state
    · first | (rw [List.map_append]; rfl) | trace_state
  · refine vc_exit ?_
    refine thn_x ?_
    refine thn_x ?_
    refine inB_x ?_
    refine thn ?_
    refine vc_sr ?_
    iterate 2 refine vo ?_
    refine vnt ?_
    refine vc_ret ?_
    refine fin_g (R) (by omega) [(1000001, some 1000001), (1000003, some 1000003), (0, some 7)] rfl (fz ?_) (fz ?_) <;> first | trivial | rfl | trace_state
set_option maxHeartbeats 4000000 in
theorem c_spec_l11Flow {b : Nat} {v : Value} {code : List UInt8}  : ConC Try.prog 25 58 b v code [] (α := F5) (fun _ => True) (fun x => .agg (fV x)) (fun _ => []) := by
  refine conc_i Try.func25 Try.ntmps25 (fun L => ?_)
  refine vc_nf rfl rfl ?_
  refine vc_sr ?_
  refine vo ?_
  refine vnt ?_
  refine vc_seq' ?_
  refine vc_sv ?_
  refine svo ?_
  refine svo ?_
  refine svp [6, 6, 17] c_pick (fun p1 hp1 => ?_) 1000001
  refine svo ?_
  refine sve c_spec_l06Host (fun ho hho => ?_) 1000001
  refine svo ?_
  refine sve (c_spec_l01Below (n := 4)) (fun b1 hb1 => ?_) 1000001
  refine svo ?_
  try refine svwr ?_
  refine svo ?_
  refine svo ?_
  refine svp [80, 53] c_pick (fun p2 hp2 => ?_) 1000001
  refine svo ?_
  refine svo ?_
  refine svnil ?_
  refine thn ?_
  refine vc_ret ?_
  refine fin_g (⟨p1, ho, 167772161, 1000 + b1, p2⟩) (trivial) [] rfl (fz ?_) (fz ?_) <;> first | trivial | rfl | trace_state
set_option maxHeartbeats 4000000 in
theorem c_spec_l12Spread {b : Nat} {v : Value} {code : List UInt8}  : ConC Try.prog 20 58 b v code [] (α := SpX) (fun x => (1 ≤ x.q ∧ x.q ≤ 4) ∧ x.n ≤ 8) (fun x => .tup [.agg [VS x.key, .hs 0], I x.q]) (fun x => [(0, .own (lQ x.n 3))]) := by
  refine conc_i Try.func20 Try.ntmps20 (fun L => ?_)
  refine vc_nf rfl rfl ?_
  refine vc_sr ?_
  iterate 2 refine vo ?_
  refine vnt ?_
  refine vc_seq' ?_
  refine vc_sv ?_
  refine svo ?_
  refine sve (c_spec_l01Below (n := 4)) (fun b1 hb1 => ?_) 1000001
  refine svo ?_
  try refine svwr ?_
  refine svo ?_
  refine svnil ?_
  refine thn ?_
  refine vc_seq' ?_
  refine vc_sv ?_
  refine svo ?_
  refine sve c_spec_l11Key (fun key hkey => ?_) 1000001
  refine svo ?_
  refine svo ?_
  refine svo ?_
  refine svnil ?_
  refine thn ?_
  refine vc_seq' ?_
  refine vc_seq' ?_
  refine vc_sv ?_
  refine svo ?_
  refine svo ?_
  refine svp [1, 2, 4, 8] c_pick (fun k0 hk0 => ?_) 1000001
  refine svo ?_
  refine svnil ?_
  refine thn ?_
  refine vc_block ?_
  refine vc_lp (σ := Nat) [0, 2, 4, 5] [16, 1000001, 1000003] (fun i => [(6, I (k0 - (i : Int)))]) (fun i => [(7, .own (lQ i 3)), (40, .row 30 [VS key, .hs 7])]) (fun i => (i : Int) ≤ k0) (fun i => 8 - i) 0 rfl rfl (sub_i [(40, some 40), (7, none)] (fz ?_) (fz ?_)) ?_ fun i hI => ?_
  · first | trivial | rfl | (show k0 = k0 - ((0 : Nat) : Int); omega) | omega | trace_state
  · first | exact ⟨rfl, fun w => ex_nil [] (Nat.le_refl 0) rfl w⟩ | exact fun w => ex_nil [] (Nat.le_refl 0) rfl w | trace_state
  · simp only [List.mem_cons, List.not_mem_nil, or_false] at hk0; omega
  refine vc_nf rfl rfl ?_
  have hk8 : k0 = 1 ∨ k0 = 2 ∨ k0 = 4 ∨ k0 = 8 := by simpa using hk0
  refine vc_seq' ?_
  refine vc_sr ?_
  iterate 2 refine vo ?_
  refine vnt ?_
  refine vc_if (fun g1 => ?_) (fun g1 => ?_)
  · refine vc_skip ?_
    refine thn ?_
    refine vc_seq' ?_
    refine vc_block ?_
    refine vc_region ?_
    iterate 4 refine vo ?_
    refine vdi (c_spec_l01Below (n := 1 + b1)) ?_ 1000001
    first | refine vbq ?_ | refine vo ?_
    first | refine vpo ?_ | refine vo ?_
    iterate 2 refine vo ?_
    refine vnil ?_
    refine inB_n ?_
    refine thn ?_
    refine vc_region ?_
    iterate 2 refine vo ?_
    try refine vwr ?_
    refine vo ?_
    refine vnt ?_
    refine ⟨i + 1, by omega, by omega, sub_i [(40, some 40), (7, some 208)] (fz ?_) (fz ?_)⟩
    · first | trivial | rfl | omega | trace_state
    · first | trivial | rfl | trace_state
  · refine vc_exit ?_
    refine thn_x ?_
    refine thn_x ?_
    refine inB_x ?_
    refine thn ?_
    refine vc_sr ?_
    iterate 4 refine vo ?_
    refine vnt ?_
    refine vc_ret ?_
    refine fin_g (⟨1 + b1, key, i⟩) (⟨by show 1 ≤ 1 + b1 ∧ 1 + b1 ≤ 4; omega, by show i ≤ 8; omega⟩) [(1000001, some 1000001), (1000003, some 1000003), (0, some 7)] rfl (fz ?_) (fz ?_) <;> first | trivial | rfl | trace_state
set_option maxHeartbeats 4000000 in
theorem c_spec_l15Steering {b : Nat} {v : Value} {code : List UInt8}  : ConC Try.prog 13 58 b v code [] (α := Unit) (fun _ => True) (fun _ => .tup [.agg [.junk, .junk, .junk, .junk], .junk]) (fun _ => []) := by
  refine conc_i Try.func13 Try.ntmps13 (fun L => ?_)
  refine vc_nf rfl rfl ?_
  refine vc_sr ?_
  iterate 2 refine vo ?_
  refine vnt ?_
  refine vc_sr ?_
  refine voc c_spec_NewTable rfl rfl ?_
  iterate 3 refine vo ?_
  refine vnt ?_
  refine vc_seq' ?_
  refine vc_sv ?_
  refine svo ?_
  refine sve c_spec_l12Spread (fun sp hsp => ?_) 1000001
  refine svo ?_
  refine svo ?_
  refine svo ?_
  refine svo ?_
  refine svo ?_
  refine svo ?_
  refine svnil ?_
  refine thn ?_
  refine vc_sr ?_
  iterate 3 refine vo ?_
  refine vnt ?_
  refine vc_seq' ?_
  refine vc_seq' ?_
  refine vc_sv ?_
  refine svo ?_
  refine sve (c_spec_l01Once (n := 2)) (fun o2 ho2 => ?_) 1000001
  refine svnil ?_
  refine thn ?_
  refine vc_if (fun g1 => ?_) (fun g1 => ?_)
  · refine vc_sv ?_
    refine svo ?_
    refine sve c_spec_l14Rules (fun rl hrl => ?_) 1000001
    refine svo ?_
    refine svo ?_
    refine svnil ?_
    refine thn ?_
    refine vc_seq' ?_
    refine vc_sr ?_
    refine vo ?_
    refine vnt ?_
    refine vc_block ?_
    refine vc_lp2 [0, 2, 4, 6] [16, 1000001, 1000003] (fun (R : List RlX) (i : Nat) => [(7, I (i : Nat))]) (fun (R : List RlX) (i : Nat) => [(7, .arr 65 9 (R.map rlE)), (8, .arr 84 7 ((List.replicate 8 (default : SlX)).map slE)), (9, .own (lQ sp.n 3)), (32, .row 32 [.hs 7, .hs 8, VS sp.key, .hs 9])]) (fun (R : List RlX) (i : Nat) => R.length ≤ 4 ∧ i ≤ R.length) (fun (R : List RlX) (i : Nat) => R.length - i) rl 0 rfl rfl (sub_i [(32, some 32), (7, some 168), (8, some 72), (9, some 104)] (fz ?_) (fz ?_)) ?_ fun R i hI => ?_
    · first | trivial | rfl | trace_state
    · first | trivial | rfl | exact ⟨rfl, rfl⟩ | exact ⟨rfl, rfl, rfl⟩ | trace_state
    · exact ⟨hrl, Nat.zero_le _⟩
    refine vc_nf rfl rfl ?_
    refine vc_seq' ?_
    refine vc_sr ?_
    iterate 4 refine vo ?_
    try first | refine vlb ?_ | refine vln ?_
    refine vo ?_
    refine vnt ?_
    refine vc_if (fun g2 => ?_) (fun g2 => ?_)
    · refine vc_skip ?_
      refine thn ?_
      refine vc_seq' ?_
      refine vc_block ?_
      refine vc_region ?_
      iterate 7 refine vo ?_
      try with_reducible (first | refine vep ?_ | refine vpt ?_)
      iterate 4 refine vo ?_
      try refine veq (Int.tmod_eq_emod_of_nonneg (by omega)) ?_
      refine vo ?_
      try with_reducible (first | refine vep ?_ | refine vpt ?_)
      iterate 2 refine vo ?_
      rw [set_rl]
      generalize hR2 : List.set R i _ = R2
      have hl2 : R2.length = R.length := by rw [← hR2, List.length_set]
      refine vnil ?_
      refine inB_n ?_
      refine thn ?_
      refine vc_region ?_
      iterate 2 refine vo ?_
      try refine vwr ?_
      refine vo ?_
      refine vnt ?_
      refine ⟨R2, i + 1, ⟨by omega, by omega⟩, by omega, sub_i [(32, some 32), (7, some 7), (8, some 8), (9, some 9)] (fz ?_) (fz ?_)⟩
      · first | trivial | rfl | omega | trace_state
      · first | trivial | rfl | exact ⟨rfl, rfl⟩ | exact ⟨rfl, rfl, rfl⟩ | trace_state
    · refine vc_exit ?_
      refine thn_x ?_
      refine thn_x ?_
      refine inB_x ?_
      refine thn ?_
      refine vc_seq' ?_
      refine vc_seq' ?_
      refine vc_sv ?_
      refine svo ?_
      refine sve (c_spec_l01Below (n := 4)) (fun n hn => ?_) 1000001
      refine svo ?_
      refine svnil ?_
      refine thn ?_
      refine vc_block ?_
      refine vc_lp (σ := Nat) [0, 2, 4, 6] [16, 1000001, 1000003] (fun k => [(8, I (k : Int))]) (fun k => [(7, .arr 65 9 (R.map rlE)), (8, .own (tQ 84)), (9, .own (lQ sp.n 3)), (32, .row 32 [.hs 7, .hs 8, VS sp.key, .hs 9])]) (fun k => k ≤ 3) (fun k => k) n.toNat rfl rfl (sub_i [(32, some 32), (7, some 7), (8, some 8), (9, some 9)] (fz ?_) (fz ?_)) ?_ fun k hK => ?_
      · first | trivial | rfl | omega | omega | trace_state
      · first | exact ex_arr (List.replicate 8 default) rfl (by decide) | exact ⟨ex_arr (List.replicate 8 default) rfl (by decide), rfl⟩ | exact ⟨rfl, ex_arr (List.replicate 8 default) rfl (by decide)⟩ | exact ⟨rfl, ex_arr (List.replicate 8 default) rfl (by decide), rfl⟩ | trace_state
      · omega
      refine vc_nf rfl rfl ?_
      refine vc_seq' ?_
      refine vc_sr ?_
      iterate 2 refine vo ?_
      refine vnt ?_
      refine vc_if (fun g3 => ?_) (fun g3 => ?_)
      · refine vc_skip ?_
        refine thn ?_
        refine vc_seq' ?_
        refine vc_block ?_
        refine vc_region ?_
        iterate 3 refine vo ?_
        refine vdf c_spec_l11Flow ?_ 1000001
        iterate 2 refine vo ?_
        refine vdi (c_spec_l01Below (n := sp.q)) ?_ 1000001
        refine vpf (fun l x q hl => c_spec_PutFlow (l := l) (x := x) (q := q) (hl := hl)) ?_
        iterate 5 refine vo ?_
        refine vnil ?_
        refine inB_n ?_
        refine thn ?_
        refine vc_region ?_
        iterate 2 refine vo ?_
        try refine vwr ?_
        refine vo ?_
        refine vnt ?_
        refine ⟨k - 1, by omega, by omega, sub_i [(32, some 32), (7, some 7), (8, some 456), (9, some 9)] (fz ?_) (fz ?_)⟩
        · first | trivial | rfl | omega | trace_state
        · first | trivial | rfl | exact ⟨rfl, rfl⟩ | trace_state
      · refine vc_exit ?_
        refine thn_x ?_
        refine thn_x ?_
        refine inB_x ?_
        refine thn ?_
        refine vc_sr ?_
        iterate 4 refine vo ?_
        refine vnt ?_
        refine vc_ret ?_
        refine fin_g (()) (trivial) [(1000001, some 1000001), (1000003, some 1000003)] rfl (fz ?_) (fz ?_) <;> first | trivial | rfl | trace_state
  · refine vc_skip ?_
    refine thn ?_
    refine vc_seq' ?_
    refine vc_sr ?_
    refine vo ?_
    refine vnt ?_
    refine vc_block ?_
    refine vc_lp2 [0, 2, 4, 6] [16, 1000001, 1000003] (fun (R : List RlX) (i : Nat) => [(7, I (i : Nat))]) (fun (R : List RlX) (i : Nat) => [(7, .arr 65 9 (R.map rlE)), (8, .arr 84 7 ((List.replicate 8 (default : SlX)).map slE)), (9, .own (lQ sp.n 3)), (32, .row 32 [.hs 7, .hs 8, VS sp.key, .hs 9])]) (fun (R : List RlX) (i : Nat) => R.length ≤ 4 ∧ i ≤ R.length) (fun (R : List RlX) (i : Nat) => R.length - i) [] 0 rfl rfl (sub_i [(32, some 32), (7, none), (8, some 72), (9, some 104)] (fz ?_) (fz ?_)) ?_ fun R i hI => ?_
    · first | trivial | rfl | trace_state
    · first | trivial | rfl | exact ⟨rfl, rfl⟩ | exact ⟨rfl, rfl, rfl⟩ | trace_state
    · exact ⟨Nat.zero_le _, Nat.le_refl _⟩
    refine vc_nf rfl rfl ?_
    refine vc_seq' ?_
    refine vc_sr ?_
    iterate 4 refine vo ?_
    try first | refine vlb ?_ | refine vln ?_
    refine vo ?_
    refine vnt ?_
    refine vc_if (fun g4 => ?_) (fun g4 => ?_)
    · refine vc_skip ?_
      refine thn ?_
      refine vc_seq' ?_
      refine vc_block ?_
      refine vc_region ?_
      iterate 7 refine vo ?_
      try with_reducible (first | refine vep ?_ | refine vpt ?_)
      iterate 4 refine vo ?_
      try refine veq (Int.tmod_eq_emod_of_nonneg (by omega)) ?_
      refine vo ?_
      try with_reducible (first | refine vep ?_ | refine vpt ?_)
      iterate 2 refine vo ?_
      rw [set_rl]
      generalize hR2 : List.set R i _ = R2
      have hl2 : R2.length = R.length := by rw [← hR2, List.length_set]
      refine vnil ?_
      refine inB_n ?_
      refine thn ?_
      refine vc_region ?_
      iterate 2 refine vo ?_
      try refine vwr ?_
      refine vo ?_
      refine vnt ?_
      refine ⟨R2, i + 1, ⟨by omega, by omega⟩, by omega, sub_i [(32, some 32), (7, some 7), (8, some 8), (9, some 9)] (fz ?_) (fz ?_)⟩
      · first | trivial | rfl | omega | trace_state
      · first | trivial | rfl | exact ⟨rfl, rfl⟩ | exact ⟨rfl, rfl, rfl⟩ | trace_state
    · refine vc_exit ?_
      refine thn_x ?_
      refine thn_x ?_
      refine inB_x ?_
      refine thn ?_
      refine vc_seq' ?_
      refine vc_seq' ?_
      refine vc_sv ?_
      refine svo ?_
      refine sve (c_spec_l01Below (n := 4)) (fun n hn => ?_) 1000001
      refine svo ?_
      refine svnil ?_
      refine thn ?_
      refine vc_block ?_
      refine vc_lp (σ := Nat) [0, 2, 4, 6] [16, 1000001, 1000003] (fun k => [(8, I (k : Int))]) (fun k => [(7, .arr 65 9 (R.map rlE)), (8, .own (tQ 84)), (9, .own (lQ sp.n 3)), (32, .row 32 [.hs 7, .hs 8, VS sp.key, .hs 9])]) (fun k => k ≤ 3) (fun k => k) n.toNat rfl rfl (sub_i [(32, some 32), (7, some 7), (8, some 8), (9, some 9)] (fz ?_) (fz ?_)) ?_ fun k hK => ?_
      · first | trivial | rfl | omega | omega | trace_state
      · first | exact ex_arr (List.replicate 8 default) rfl (by decide) | exact ⟨ex_arr (List.replicate 8 default) rfl (by decide), rfl⟩ | exact ⟨rfl, ex_arr (List.replicate 8 default) rfl (by decide)⟩ | exact ⟨rfl, ex_arr (List.replicate 8 default) rfl (by decide), rfl⟩ | trace_state
      · omega
      refine vc_nf rfl rfl ?_
      refine vc_seq' ?_
      refine vc_sr ?_
      iterate 2 refine vo ?_
      refine vnt ?_
      refine vc_if (fun g5 => ?_) (fun g5 => ?_)
      · refine vc_skip ?_
        refine thn ?_
        refine vc_seq' ?_
        refine vc_block ?_
        refine vc_region ?_
        iterate 3 refine vo ?_
        refine vdf c_spec_l11Flow ?_ 1000001
        iterate 2 refine vo ?_
        refine vdi (c_spec_l01Below (n := sp.q)) ?_ 1000001
        refine vpf (fun l x q hl => c_spec_PutFlow (l := l) (x := x) (q := q) (hl := hl)) ?_
        iterate 5 refine vo ?_
        refine vnil ?_
        refine inB_n ?_
        refine thn ?_
        refine vc_region ?_
        iterate 2 refine vo ?_
        try refine vwr ?_
        refine vo ?_
        refine vnt ?_
        refine ⟨k - 1, by omega, by omega, sub_i [(32, some 32), (7, some 7), (8, some 456), (9, some 9)] (fz ?_) (fz ?_)⟩
        · first | trivial | rfl | omega | trace_state
        · first | trivial | rfl | exact ⟨rfl, rfl⟩ | trace_state
      · refine vc_exit ?_
        refine thn_x ?_
        refine thn_x ?_
        refine inB_x ?_
        refine thn ?_
        refine vc_sr ?_
        iterate 4 refine vo ?_
        refine vnt ?_
        refine vc_ret ?_
        refine fin_g (()) (trivial) [(1000001, some 1000001), (1000003, some 1000003)] rfl (fz ?_) (fz ?_) <;> first | trivial | rfl | trace_state
set_option maxHeartbeats 4000000 in
theorem c_spec_DrawSteering {v : Value} {code : List UInt8} (hv : v.oneCell' = true)  : ConV Try.prog 5 v code (α := List Pk) (fun x => (1 ≤ x.length ∧ (x.length : Int) ≤ 8) ∧ ∀ p ∈ x, p.ok = true) (fun x => .tup [.agg [.junk, .junk, .junk, .junk], .junk, .one (.hs 0)]) (fun x => [(0, .arr 45 16 (x.map pkE))]) := by
  refine conv_i Try.func5 Try.ntmps5 (fun L => ?_) hv
  refine vc_nf rfl rfl ?_
  refine vc_sr ?_
  iterate 3 refine vo ?_
  refine vnt ?_
  refine vc_seq' ?_
  refine vc_sv ?_
  refine svo ?_
  refine svv c_spec_l01New (fun B hB => ?_)
  refine svo ?_
  refine svnil ?_
  refine thn ?_
  refine vc_seq' ?_
  refine vc_sv ?_
  refine svo ?_
  refine sve c_spec_l15Steering (fun u hu => ?_) 72
  refine svo ?_
  refine svo ?_
  refine svo ?_
  refine svo ?_
  refine svo ?_
  refine svo ?_
  refine svnil ?_
  refine thn ?_
  refine vc_sr ?_
  iterate 3 refine vo ?_
  refine vdl (c_spec_l09List (most := 8)) ?_ 72
  iterate 3 refine vo ?_
  refine vnt ?_
  refine vc_eo (k := 144) (fun pk hpk => ?_)
  refine vc_ret ?_
  refine fin_g (pk) (hpk) [(1000003, some 1000003), (0, some 144)] rfl (fz ?_) (fz ?_) <;> first | trivial | rfl | trace_state
end Go.Proofs.Ytfcmcedeapgdcaa
end
section
namespace Go.Proofs.Ytfcmcedeapgdcaa
open Go Go.RowKit Go.Vc
set_option linter.unusedVariables false
set_option linter.unusedSimpArgs false
set_option linter.unnecessarySimpa false
def atC (code : List UInt8) (k : Int) : Int := if code.length = 0 then 0 else byC code ((k * 5 + 1) % code.length).toNat
theorem atC_bd (code : List UInt8) (k : Int) : 0 ≤ atC code k ∧ atC code k ≤ 255 := by
  unfold atC
  split
  · omega
  · exact byC_bd _ _
theorem i64_by (code : List UInt8) (j : Nat) : IntKind.i64.wrap (byC code j) = byC code j := IntWalk.i64_in _ (by have := byC_bd code j; omega)
set_option maxHeartbeats 4000000 in
theorem c_laws_at {v : Value} {code : List UInt8} {k : Int} (h0 : 0 ≤ k := by omega) (h1 : k ≤ 1000000 := by omega) (hl : code.length ≤ 1048576 := by omega) : Con0 Try.prog 6 [.one (.rd (pinQ v code)), I k] (I (atC code k)) [] := by
  refine con_i Try.func6 Try.ntmps6 (t := [(0, .one (.rd (pinQ v code))), (1, I k)]) rfl ?_
  refine vc_sr ?_
  refine vo ?_
  refine vnt ?_
  refine vc_seq' ?_
  refine vc_sr ?_
  refine vo ?_
  first | refine vlp ?_ | refine vo ?_
  try first | refine vlb ?_ | refine vln ?_
  refine vo ?_
  refine vnt ?_
  refine vc_if (fun g1 => ?_) (fun g1 => ?_)
  · refine vc_sr ?_
    refine vo ?_
    refine vnt ?_
    refine vc_ret ?_
    refine thn_r ?_
    have hh : atC code k = 0 := if_pos (by omega)
    rw [hh]
    refine fin_i [] rfl (fz ?_) (fz ?_) <;> first | trivial | rfl
  · have hm0 := Int.emod_nonneg (k * 5 + 1) (show (code.length : Int) ≠ 0 by omega)
    have hm1 := Int.emod_lt_of_pos (k * 5 + 1) (show 0 < (code.length : Int) by omega)
    refine vc_skip ?_
    refine thn ?_
    refine vc_sr ?_
    iterate 3 refine vo ?_
    try refine vwr ?_
    refine vo ?_
    try refine vwr ?_
    refine vo ?_
    first | refine vlp ?_ | refine vo ?_
    try first | refine vlb ?_ | refine vln ?_
    refine vo ?_
    try refine veq (Int.tmod_eq_emod_of_nonneg (by omega)) ?_
    first | refine vcx ?_ | refine vo ?_
    try with_reducible (first | refine vep ?_ | refine vpt ?_)
    first | refine vcd ?_ | refine vo ?_
    refine vo ?_
    try refine veq (i64_byt _ _) ?_
    refine veq (i64_by code _) ?_
    refine vo ?_
    refine vnt ?_
    refine vc_ret ?_
    have hh : atC code k = byC code ((k * 5 + 1) % code.length).toNat := if_neg (by omega)
    rw [hh]
    refine fin_i [] rfl (fz ?_) (fz ?_) <;> first | trivial | rfl
end Go.Proofs.Ytfcmcedeapgdcaa
end
section
namespace Go.Proofs.Ytfcmcedeapgdcaa
open Go Go.RowKit Go.Vc
set_option linter.unusedVariables false
set_option linter.unusedSimpArgs false
set_option linter.unnecessarySimpa false
theorem vgb {P : Program} [TyEnv P] {n : Nat} {ops os : List Oper} {K : Tm → Hp → Prop} {t : Tm} {H : Hp} {dr : Bool} {fp : List Fp} {d : Nat} {c : Bool} (h : ∀ b : Bool, Vd P n ops dr K os ((d, .one (.v (.bool b))) :: t) H fp) : Vd P n ops dr K os ((d, .one (.v (.bool c))) :: t) H fp := h c
theorem c_laws_big2 {v : Value} {code : List UInt8} : Con0 Try.prog 4 [.one (.rd (pinQ v code))] (B (decide ((code.length : Int) > 1048576))) [] := by
  refine con_i Try.func4 Try.ntmps4 (t := [(0, .one (.rd (pinQ v code)))]) rfl ?_
  refine vc_sr ?_
  refine vo ?_
  refine vnt ?_
  refine vc_sr ?_
  refine vo ?_
  refine vlp ?_
  refine vo ?_
  refine vo ?_
  refine vnt ?_
  refine vc_ret ?_
  refine fin_i [] rfl (fz ?_) (fz ?_) <;> first | trivial | rfl | trace_state
def mnB (pr : Bool) (dm : Int) : Bool := decide (dm = 2) || (decide (dm = 281474976710655) || pr)
theorem flt0 : fltB 2 [] = true := by decide
theorem flt7 : fltB 2 [7] = true := by decide
theorem ac_0 (pr : Bool) (dm vl : Int) : acB 2 pr [] dm vl = (mnB pr dm && decide (vl = -1)) := by
  unfold acB mnB
  rw [flt0]
  simp [hvB]
theorem ac_7 (pr : Bool) (dm vl : Int) : acB 2 pr [7] dm vl = (mnB pr dm && (decide (vl = -1) || decide (vl = 7))) := by
  unfold acB mnB
  rw [flt7]
  simp [hvB]
theorem acc_mono (pr : Bool) (L : List Pk) : (accL 2 pr [] L).length ≤ (accL 2 pr [7] L).length := by
  unfold accL
  rw [← List.countP_eq_length_filter, ← List.countP_eq_length_filter]
  refine List.countP_mono_left fun p _ h => ?_
  rw [ac_0] at h
  rw [ac_7]
  simp_all
set_option maxHeartbeats 4000000 in
theorem c_laws_FnFilters {v : Value} {code : List UInt8} (hv : v.oneCell' = true)  : ConV Try.prog 3 v code (α := Unit) (fun _ => True) (fun _ => .one (.v (.bool true))) (fun _ => []) := by
  refine conv_i Try.func3 Try.ntmps3 (fun L => ?_) hv
  refine vc_nf rfl rfl ?_
  refine vc_sr ?_
  refine vo ?_
  refine vnt ?_
  refine vc_seq' ?_
  refine vc_sr ?_
  refine vo ?_
  refine voc c_laws_big2 rfl rfl ?_
  refine vnt ?_
  refine vc_if (fun g1 => ?_) (fun g1 => ?_)
  · refine vc_sr ?_
    refine vo ?_
    refine vnt ?_
    refine vc_ret ?_
    refine thn_r ?_
    refine fin_g (()) (trivial) [(1000003, some 1000003)] rfl (fz ?_) (fz ?_) <;> first | trivial | rfl | trace_state
  · refine vc_skip ?_
    refine thn ?_
    refine vc_seq' ?_
    refine vc_sv ?_
    refine svo ?_
    refine svv (c_spec_DrawSteering hv) (fun pk hpk => ?_)
    have hp8 : pk.length ≤ 8 := by have := hpk.1.2; omega
    refine svo ?_
    refine svo ?_
    refine svo ?_
    refine svo ?_
    refine svo ?_
    refine svo ?_
    refine svo ?_
    refine svo ?_
    refine svnil ?_
    refine thn ?_
    refine vc_sr ?_
    refine vo ?_
    refine voc (c_laws_at (k := 0)) rfl rfl ?_
    have ha0 := atC_bd code 0
    refine vo ?_
    try refine veq (Int.tmod_eq_emod_of_nonneg (by omega)) ?_
    refine vo ?_
    refine vgb (fun pr => ?_)
    iterate 3 refine vo ?_
    refine vnt ?_
    refine vc_sr ?_
    refine vo ?_
    refine voc (c_AddVlan_y (mac := 2) (k := 7) (h1 := flt0) (h2 := flt7)) rfl rfl ?_
    iterate 6 refine vo ?_
    refine vnt ?_
    refine vc_sr ?_
    refine vo ?_
    refine voc (c_DropVlan_y (mac := 2) (k := 7) (h1 := flt7)) rfl rfl ?_
    iterate 6 refine vo ?_
    refine vnt ?_
    refine vc_seq' ?_
    refine vc_sr ?_
    refine vo ?_
    refine vnt ?_
    refine vc_block ?_
    refine vc_lp (σ := Nat) [5, 6, 7, 8, 9, 10] [48, 56, 72, 168, 256, 296, 1000003] (fun i => [(11, I (i : Nat))]) (fun i => []) (fun i => i ≤ pk.length) (fun i => pk.length - i) 0 rfl rfl (sub_i [] (fz ?_) (fz ?_)) ?_ fun i hI => ?_
    · first | trivial | rfl | trace_state
    · first | trivial | rfl | trace_state
    · exact Nat.zero_le _
    refine vc_nf rfl rfl ?_
    refine vc_seq' ?_
    refine vc_sr ?_
    iterate 3 refine vo ?_
    try first | refine vlb ?_ | refine vln ?_
    refine vo ?_
    refine vnt ?_
    refine vc_if (fun g2 => ?_) (fun g2 => ?_)
    · refine vc_skip ?_
      refine thn ?_
      refine vc_seq' ?_
      refine vc_block ?_
      refine vc_sr ?_
      iterate 4 refine vo ?_
      try with_reducible (first | refine vep ?_ | refine vpt ?_)
      refine vo ?_
      refine voc (c_impl_Accepts_0 (mac := 2) (p := at' pk i)) rfl rfl ?_
      rw [ac_0]
      refine vo ?_
      refine vnt ?_
      refine vc_sr ?_
      iterate 4 refine vo ?_
      try with_reducible (first | refine vep ?_ | refine vpt ?_)
      refine vo ?_
      refine voc (c_impl_Accepts (mac := 2) (xs := [7]) (p := at' pk i)) rfl rfl ?_
      rw [ac_7]
      refine vo ?_
      refine vnt ?_
      refine vc_sr ?_
      iterate 3 refine vo ?_
      try with_reducible (first | refine vep ?_ | refine vpt ?_)
      iterate 4 refine vo ?_
      refine vsp (fun g3 => ?_) (fun g3 => ?_)
      · iterate 6 refine vof ?_
        iterate 2 refine vo ?_
        iterate 2 refine vof ?_
        iterate 2 refine vo ?_
        refine vnt ?_
        refine vc_sr ?_
        iterate 3 refine vo ?_
        iterate 3 refine von ?_
        try with_reducible (first | refine vep ?_ | refine vpt ?_)
        iterate 3 refine von ?_
        iterate 3 refine vo ?_
        refine vsp (fun g4 => ?_) (fun g4 => ?_)
        · exfalso; revert g4; simp_all [mnB]
        · iterate 6 refine von ?_
          try with_reducible (first | refine vep ?_ | refine vpt ?_)
          iterate 4 refine von ?_
          refine vsp (fun g5 => ?_) (fun g5 => ?_)
          · iterate 6 refine vof ?_
            iterate 3 refine von ?_
            iterate 2 refine vo ?_
            refine vsp (fun g6 => ?_) (fun g6 => ?_)
            · exfalso; revert g6; simp_all [mnB]
            · iterate 4 refine von ?_
              try with_reducible (first | refine vep ?_ | refine vpt ?_)
              refine von ?_
              refine vocn (c_impl_Accepts (mac := 2) (xs := ([] : List Int)) (p := at' pk i)) rfl rfl ?_
              rw [ac_0]
              iterate 2 refine von ?_
              refine vo ?_
              refine vnt ?_
              refine vc_if (fun g7 => ?_) (fun g7 => ?_)
              · exfalso; revert g7; simp_all [mnB]
              · refine vc_skip ?_
                refine inB_n ?_
                refine thn ?_
                refine vc_region ?_
                iterate 2 refine vo ?_
                try refine vwr ?_
                refine vo ?_
                refine vnt ?_
                refine ⟨i + 1, by omega, by omega, sub_i [] (fz ?_) (fz ?_)⟩
                · first | trivial | rfl | omega | trace_state
                · first | trivial | rfl | trace_state
          · iterate 3 refine von ?_
            try with_reducible (first | refine vep ?_ | refine vpt ?_)
            iterate 6 refine von ?_
            iterate 2 refine vo ?_
            refine vsp (fun g8 => ?_) (fun g8 => ?_)
            · exfalso; revert g8; simp_all [mnB]
            · iterate 4 refine von ?_
              try with_reducible (first | refine vep ?_ | refine vpt ?_)
              refine von ?_
              refine vocn (c_impl_Accepts (mac := 2) (xs := ([] : List Int)) (p := at' pk i)) rfl rfl ?_
              rw [ac_0]
              iterate 2 refine von ?_
              refine vo ?_
              refine vnt ?_
              refine vc_if (fun g9 => ?_) (fun g9 => ?_)
              · exfalso; revert g9; simp_all [mnB]
              · refine vc_skip ?_
                refine inB_n ?_
                refine thn ?_
                refine vc_region ?_
                iterate 2 refine vo ?_
                try refine vwr ?_
                refine vo ?_
                refine vnt ?_
                refine ⟨i + 1, by omega, by omega, sub_i [] (fz ?_) (fz ?_)⟩
                · first | trivial | rfl | omega | trace_state
                · first | trivial | rfl | trace_state
      · iterate 3 refine von ?_
        try with_reducible (first | refine vep ?_ | refine vpt ?_)
        iterate 3 refine von ?_
        iterate 2 refine vo ?_
        refine vsp (fun g10 => ?_) (fun g10 => ?_)
        · iterate 2 refine vof ?_
          iterate 2 refine vo ?_
          refine vnt ?_
          refine vc_sr ?_
          iterate 3 refine vo ?_
          iterate 3 refine von ?_
          try with_reducible (first | refine vep ?_ | refine vpt ?_)
          iterate 3 refine von ?_
          iterate 3 refine vo ?_
          refine vsp (fun g11 => ?_) (fun g11 => ?_)
          · exfalso; revert g11; simp_all [mnB]
          · iterate 6 refine von ?_
            try with_reducible (first | refine vep ?_ | refine vpt ?_)
            iterate 4 refine von ?_
            refine vsp (fun g12 => ?_) (fun g12 => ?_)
            · iterate 6 refine vof ?_
              iterate 3 refine von ?_
              iterate 2 refine vo ?_
              refine vsp (fun g13 => ?_) (fun g13 => ?_)
              · exfalso; revert g13; simp_all [mnB]
              · iterate 4 refine von ?_
                try with_reducible (first | refine vep ?_ | refine vpt ?_)
                refine von ?_
                refine vocn (c_impl_Accepts (mac := 2) (xs := ([] : List Int)) (p := at' pk i)) rfl rfl ?_
                rw [ac_0]
                iterate 2 refine von ?_
                refine vo ?_
                refine vnt ?_
                refine vc_if (fun g14 => ?_) (fun g14 => ?_)
                · exfalso; revert g14; simp_all [mnB]
                · refine vc_skip ?_
                  refine inB_n ?_
                  refine thn ?_
                  refine vc_region ?_
                  iterate 2 refine vo ?_
                  try refine vwr ?_
                  refine vo ?_
                  refine vnt ?_
                  refine ⟨i + 1, by omega, by omega, sub_i [] (fz ?_) (fz ?_)⟩
                  · first | trivial | rfl | omega | trace_state
                  · first | trivial | rfl | trace_state
            · iterate 3 refine von ?_
              try with_reducible (first | refine vep ?_ | refine vpt ?_)
              iterate 6 refine von ?_
              iterate 2 refine vo ?_
              refine vsp (fun g15 => ?_) (fun g15 => ?_)
              · exfalso; revert g15; simp_all [mnB]
              · iterate 4 refine von ?_
                try with_reducible (first | refine vep ?_ | refine vpt ?_)
                refine von ?_
                refine vocn (c_impl_Accepts (mac := 2) (xs := ([] : List Int)) (p := at' pk i)) rfl rfl ?_
                rw [ac_0]
                iterate 2 refine von ?_
                refine vo ?_
                refine vnt ?_
                refine vc_if (fun g16 => ?_) (fun g16 => ?_)
                · exfalso; revert g16; simp_all [mnB]
                · refine vc_skip ?_
                  refine inB_n ?_
                  refine thn ?_
                  refine vc_region ?_
                  iterate 2 refine vo ?_
                  try refine vwr ?_
                  refine vo ?_
                  refine vnt ?_
                  refine ⟨i + 1, by omega, by omega, sub_i [] (fz ?_) (fz ?_)⟩
                  · first | trivial | rfl | omega | trace_state
                  · first | trivial | rfl | trace_state
        · iterate 2 refine von ?_
          iterate 2 refine vo ?_
          refine vnt ?_
          refine vc_sr ?_
          iterate 3 refine vo ?_
          refine vsp (fun g17 => ?_) (fun g17 => ?_)
          · subst g17
            iterate 3 refine von ?_
            try with_reducible (first | refine vep ?_ | refine vpt ?_)
            iterate 3 refine von ?_
            iterate 3 refine vo ?_
            refine vsp (fun g18 => ?_) (fun g18 => ?_)
            · exfalso; revert g18; simp_all [mnB]
            · iterate 6 refine von ?_
              try with_reducible (first | refine vep ?_ | refine vpt ?_)
              iterate 4 refine von ?_
              refine vsp (fun g19 => ?_) (fun g19 => ?_)
              · iterate 6 refine vof ?_
                iterate 3 refine von ?_
                iterate 2 refine vo ?_
                refine vsp (fun g20 => ?_) (fun g20 => ?_)
                · exfalso; revert g20; simp_all [mnB]
                · iterate 4 refine von ?_
                  try with_reducible (first | refine vep ?_ | refine vpt ?_)
                  refine von ?_
                  refine vocn (c_impl_Accepts (mac := 2) (xs := ([] : List Int)) (p := at' pk i)) rfl rfl ?_
                  rw [ac_0]
                  iterate 2 refine von ?_
                  refine vo ?_
                  refine vnt ?_
                  refine vc_if (fun g21 => ?_) (fun g21 => ?_)
                  · exfalso; revert g21; simp_all [mnB]
                  · refine vc_skip ?_
                    refine inB_n ?_
                    refine thn ?_
                    refine vc_region ?_
                    iterate 2 refine vo ?_
                    try refine vwr ?_
                    refine vo ?_
                    refine vnt ?_
                    refine ⟨i + 1, by omega, by omega, sub_i [] (fz ?_) (fz ?_)⟩
                    · first | trivial | rfl | omega | trace_state
                    · first | trivial | rfl | trace_state
              · iterate 3 refine von ?_
                try with_reducible (first | refine vep ?_ | refine vpt ?_)
                iterate 6 refine von ?_
                iterate 2 refine vo ?_
                refine vsp (fun g22 => ?_) (fun g22 => ?_)
                · exfalso; revert g22; simp_all [mnB]
                · iterate 4 refine von ?_
                  try with_reducible (first | refine vep ?_ | refine vpt ?_)
                  refine von ?_
                  refine vocn (c_impl_Accepts (mac := 2) (xs := ([] : List Int)) (p := at' pk i)) rfl rfl ?_
                  rw [ac_0]
                  iterate 2 refine von ?_
                  refine vo ?_
                  refine vnt ?_
                  refine vc_if (fun g23 => ?_) (fun g23 => ?_)
                  · exfalso; revert g23; simp_all [mnB]
                  · refine vc_skip ?_
                    refine inB_n ?_
                    refine thn ?_
                    refine vc_region ?_
                    iterate 2 refine vo ?_
                    try refine vwr ?_
                    refine vo ?_
                    refine vnt ?_
                    refine ⟨i + 1, by omega, by omega, sub_i [] (fz ?_) (fz ?_)⟩
                    · first | trivial | rfl | omega | trace_state
                    · first | trivial | rfl | trace_state
          · subst g17
            iterate 6 refine vof ?_
            iterate 3 refine vo ?_
            refine vsp (fun g24 => ?_) (fun g24 => ?_)
            · exfalso; revert g24; simp_all [mnB]
            · iterate 3 refine von ?_
              iterate 14 refine vof ?_
              iterate 2 refine von ?_
              iterate 2 refine vo ?_
              refine vsp (fun g25 => ?_) (fun g25 => ?_)
              · exfalso; revert g25; simp_all [mnB]
              · iterate 4 refine von ?_
                try with_reducible (first | refine vep ?_ | refine vpt ?_)
                refine von ?_
                refine vocn (c_impl_Accepts (mac := 2) (xs := ([] : List Int)) (p := at' pk i)) rfl rfl ?_
                rw [ac_0]
                iterate 2 refine von ?_
                refine vo ?_
                refine vnt ?_
                refine vc_if (fun g26 => ?_) (fun g26 => ?_)
                · exfalso; revert g26; simp_all [mnB]
                · refine vc_skip ?_
                  refine inB_n ?_
                  refine thn ?_
                  refine vc_region ?_
                  iterate 2 refine vo ?_
                  try refine vwr ?_
                  refine vo ?_
                  refine vnt ?_
                  refine ⟨i + 1, by omega, by omega, sub_i [] (fz ?_) (fz ?_)⟩
                  · first | trivial | rfl | omega | trace_state
                  · first | trivial | rfl | trace_state
    · refine vc_exit ?_
      refine thn_x ?_
      refine thn_x ?_
      refine inB_x ?_
      refine thn ?_
      refine vc_sr ?_
      refine vo ?_
      refine voc (c_AddVlan_n (mac := 2) (xs := [7]) (k := 7) (h1 := flt7) (h2 := by decide)) rfl rfl ?_
      iterate 6 refine vo ?_
      refine vnt ?_
      refine vc_sr ?_
      iterate 2 refine vo ?_
      refine von ?_
      iterate 2 refine vo ?_
      iterate 2 refine von ?_
      iterate 2 refine vo ?_
      iterate 2 refine von ?_
      refine vocn (c_impl_AcceptedPackets (mac := 2) (xs := [7]) (L := pk)) rfl rfl ?_
      have hq1 := acc_le 2 pr [7] pk
      refine von ?_
      try first | refine vlb ?_ | refine vln ?_
      iterate 2 refine von ?_
      refine vocn (c_impl_AcceptedPackets_0 (mac := 2) (L := pk)) rfl rfl ?_
      have hq2 := acc_le 2 pr [] pk
      refine von ?_
      try first | refine vlb ?_ | refine vln ?_
      refine von ?_
      iterate 2 refine vo ?_
      refine vsp (fun g27 => ?_) (fun g27 => ?_)
      · refine von ?_
        refine vocn (c_impl_FilterOk (mac := 2) (xs := [7])) rfl rfl ?_
        rw [flt7]
        iterate 2 refine vo ?_
        refine vnt ?_
        refine vc_ret ?_
        refine fin_g (()) (trivial) [(1000003, some 1000003)] rfl (fz ?_) (fz ?_) <;> first | trivial | rfl | trace_state
      · exact absurd (acc_mono pr pk) g27
end Go.Proofs.Ytfcmcedeapgdcaa
end
section
namespace Go.Vc
open Go Go.RowKit
theorem walk_of {P : Program} {f : FuncId} {w : World} {v : Value} {code : List UInt8} (h : v.oneCell' = true → ConV P f v code (α := Unit) (fun _ => True) (fun _ => .one (.v (.bool true))) (fun _ => [])) (hc : Holds w code [v]) :
    Calls P f #[v] w fun e w' => e = .returned (.bool true) ∧ Ex w w' := by
  have hv : v.oneCell' = true := by
    obtain ⟨a, cap, hv, _⟩ := hc.bytes
    simp only [List.cons.injEq, and_true] at hv
    subst hv; rfl
  refine ((h hv).2 w w [] (St.start w) hc 0).mono fun e w' hq => ?_
  obtain ⟨_, _, u, ρ, rfl, h1, _, As, h2, h3⟩ := hq
  cases h2
  have hu : u = .bool true := h1.1
  subst hu
  exact ⟨rfl, h3.ex⟩
end Go.Vc
end
section
namespace Go.Proofs.Ytfcmcedeapgdcaa
open Go Go.RowKit Go.Vc
theorem walk_FnFilters (w : World) (code : Value) (codeD : List UInt8) (hcode : Holds w codeD [code]) :
    Calls Try.prog 3 #[code] w fun e w' => e = .returned (.bool true) ∧ Ex w w' := walk_of c_laws_FnFilters hcode
end Go.Proofs.Ytfcmcedeapgdcaa
end

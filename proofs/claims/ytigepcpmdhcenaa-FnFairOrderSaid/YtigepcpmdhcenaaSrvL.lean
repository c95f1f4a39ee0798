/- A fair scheduler: the order of the frames, the shares. No program in sight. -/
import Derived.Test.YtigepcpmdhcenaaSrv
namespace Go.Proofs.Ytigepcpmdhcenaa
open Go.RowKit
set_option linter.unusedVariables false
abbrev FairD := List (List Int) × List Int × Int × Int × Bool
def fairD (f : FairD) : Bool := fairOkB f.1 f.2.1 f.2.2.1 f.2.2.2.1 f.2.2.2.2
def nextF (f : FairD) : FairD × Int × Int :=
  let r := srvF f.1 f.2.1 f.2.2.1 f.2.2.2.1 f.2.2.2.2
  ((r.1, r.2.1, f.2.2.1, r.2.2.1, r.2.2.2.1), r.2.2.2.2.1, r.2.2.2.2.2)
def allF : Nat → FairD → List Int → List Int → FairD × List Int × List Int
  | 0, f, a, b => (f, a, b)
  | n + 1, f, a, b => if (nextF f).2.1 < 0 then (f, a, b) else allF n (nextF f).1 (a ++ [(nextF f).2.1]) (b ++ [(nextF f).2.2])
def serveAllF (f : FairD) (n : Int) : FairD × List Int × List Int := if fairD f && inB n 0 1000 then allF n.toNat f [] [] else (f, [], [])
structure FI (qu M : Int) (qs : List (List Int)) (ds : List Int) (tu : Nat) (fr : Bool) : Prop where
  ok : SOk qu qs ds tu
  m0 : 0 < M
  m1 : M ≤ 2000
  fm : ∀ i (h : i < qs.length), ∀ x ∈ qs[i], x ≤ M
  lo : ∀ i (h : i < ds.length), (i ≠ tu ∨ fr = true) → ds[i] < M
  hi : ∀ i (h : i < ds.length), ds[i] < M + qu
  em : ∀ i (h : i < qs.length) (hd : i < ds.length), qs[i] = [] → (i ≠ tu ∨ fr = true) → ds[i] = 0
theorem FI.fair {qu M : Int} {qs : List (List Int)} {ds : List Int} {tu : Nat} {fr : Bool} (h : FI qu M qs ds tu fr) : fairOkB qs ds qu tu fr = true := by
  have ok := h.ok
  refine fair_all (inB_iff.2 ⟨by have := ok.n0; omega, by have := ok.n8; omega⟩) ok.dl (inB_iff.2 ⟨ok.q1, ok.q2⟩) (inB_iff.2 ⟨by omega, by have := ok.tl; omega⟩) fun k hk => ?_
  have hd : k < ds.length := by rw [ok.dl]; exact hk
  rw [getD_lt hk, getD_lt hd]
  simp only [fairRowB, Bool.and_eq_true, inB_iff, decide_eq_true_eq, List.all_eq_true]
  have h1 := ok.d k hd
  have h2 := h.hi k hd
  have h3 := ok.q k hk
  have h4 := h.m1
  refine ⟨⟨⟨h3.1, by omega⟩, fun x hx => h3.2 x hx⟩, ?_⟩
  cases hq : qs[k] with
  | cons x l => simp
  | nil =>
    have h5 := h.em k hk hd hq
    by_cases e : k ≠ tu ∨ fr = true
    · rw [h5 e]; simp
    · have e1 : k = tu := Classical.byContradiction fun h => e (.inl h)
      have e2 : fr = false := by cases fr <;> simp_all
      subst e1 e2; simp
theorem next_ne {n a : Nat} (ha : a < n) : (a + 1) % n < n := Nat.mod_lt _ (by omega)
theorem FI.nil {qu M : Int} {qs : List (List Int)} {ds : List Int} {tu : Nat} {fr : Bool} (h : FI qu M qs ds tu fr) (h0 : qs[tu]'h.ok.tl = []) : FI qu M qs (ds.set tu 0) ((tu + 1) % qs.length) true :=
  ⟨h.ok.nil, h.m0, h.m1, h.fm, fun i hi _ => by
    rw [List.length_set] at hi
    rw [List.getElem_set]; split
    · exact h.m0
    · exact h.lo i hi (.inl fun e => by simp_all), fun i hi => by
    rw [List.length_set] at hi
    rw [List.getElem_set]; split
    · have := h.m0; have := h.ok.q1; omega
    · exact h.hi i hi, fun i hi hd he _ => by
    rw [List.length_set] at hd
    rw [List.getElem_set]; split
    · rfl
    · exact h.em i hi hd he (.inl fun e => by simp_all)⟩
theorem FI.on {qu M : Int} {qs : List (List Int)} {ds : List Int} {tu : Nat} {fr : Bool} (h : FI qu M qs ds tu fr) (hd : tu < ds.length) (d : Int) (hne : qs[tu]'h.ok.tl ≠ []) (h0 : 0 ≤ d) (h1 : d < M) : FI qu M qs (ds.set tu d) ((tu + 1) % qs.length) true :=
  ⟨⟨h.ok.n0, h.ok.n8, by rw [List.length_set]; exact h.ok.dl, next_ne h.ok.tl, h.ok.q1, h.ok.q2, fun i hi => by
    rw [List.length_set] at hi
    rw [List.getElem_set]; split
    · have := h.m1; omega
    · exact h.ok.d i hi, h.ok.q⟩, h.m0, h.m1, h.fm, fun i hi _ => by
    rw [List.length_set] at hi
    rw [List.getElem_set]; split
    · exact h1
    · exact h.lo i hi (.inl fun e => by simp_all), fun i hi => by
    rw [List.length_set] at hi
    rw [List.getElem_set]; split
    · have := h.ok.q1; omega
    · exact h.hi i hi, fun i hi hd he _ => by
    rw [List.length_set] at hd
    rw [List.getElem_set]; split
    · rename_i e; subst e; exact absurd he hne
    · exact h.em i hi hd he (.inl fun e => by simp_all)⟩
theorem FI.take {qu M : Int} {qs : List (List Int)} {ds : List Int} {tu : Nat} {fr : Bool} {x : Int} {l : List Int} (h : FI qu M qs ds tu fr) (hd : tu < ds.length) (d : Int) (hq : qs[tu]'h.ok.tl = x :: l) (h0 : 0 ≤ d) (h1 : d < M + qu) (h2 : d ≤ 4000) : FI qu M (qs.set tu l) (ds.set tu d) tu false :=
  ⟨⟨by rw [List.length_set]; exact h.ok.n0, by rw [List.length_set]; exact h.ok.n8, by rw [List.length_set, List.length_set]; exact h.ok.dl, by rw [List.length_set]; exact h.ok.tl, h.ok.q1, h.ok.q2, fun i hi => by
    rw [List.length_set] at hi
    rw [List.getElem_set]; split
    · omega
    · exact h.ok.d i hi, fun i hi => by
    rw [List.length_set] at hi
    have := h.ok.q tu h.ok.tl
    rw [hq] at this
    rw [List.getElem_set]; split
    · exact ⟨by have := this.1; simp at this; omega, fun y hy => this.2 y (List.mem_cons_of_mem _ hy)⟩
    · exact h.ok.q i hi⟩, h.m0, h.m1, fun i hi y hy => by
    rw [List.length_set] at hi
    have := h.fm tu h.ok.tl
    rw [hq] at this
    rw [List.getElem_set] at hy; split at hy
    · exact this y (List.mem_cons_of_mem _ hy)
    · exact h.fm i hi y hy, fun i hi hc => by
    rw [List.length_set] at hi
    have hc : i ≠ tu := by simpa using hc
    rw [List.getElem_set_ne (fun e => hc e.symm)]
    exact h.lo i hi (.inl hc), fun i hi => by
    rw [List.length_set] at hi
    rw [List.getElem_set]; split
    · exact h1
    · exact h.hi i hi, fun i hi hd he hc => by
    rw [List.length_set] at hi hd
    have hc : i ≠ tu := by simpa using hc
    rw [List.getElem_set_ne (fun e => hc e.symm)] at he ⊢
    exact h.em i hi hd he (.inl hc)⟩
/-- What the queues were served, and what is left to them of their quanta. -/
def SI (qu : Int) (ds : List Int) (tu : Nat) (fr : Bool) (S : Nat → Int) : Prop := ∃ R : Int, ∀ i (h : i < ds.length), S i + ds[i] = (R + if i < tu ∨ (i = tu ∧ fr = false) then 1 else 0) * qu
def served1 (S : Nat → Int) (k : Nat) (x : Int) : Nat → Int := fun i => if i = k then S i + x else S i
theorem si_on {qu : Int} {ds : List Int} {tu n : Nat} {S : Nat → Int} (hn : ds.length = n) (ht : tu < n) (h : SI qu ds tu false S) : SI qu ds ((tu + 1) % n) true S := by
  obtain ⟨R, h⟩ := h
  by_cases e : tu + 1 = n
  · refine ⟨R + 1, fun i hi => ?_⟩
    rw [e, Nat.mod_self, h i hi, if_pos (by by_cases h : i < tu; exact .inl h; exact .inr ⟨by omega, rfl⟩), if_neg (by simp)]
    congr 1; omega
  · refine ⟨R, fun i hi => ?_⟩
    rw [Nat.mod_eq_of_lt (by omega), h i hi]
    by_cases h1 : i ≤ tu
    · rw [if_pos (by by_cases h : i < tu; exact .inl h; exact .inr ⟨by omega, rfl⟩), if_pos (.inl (by omega))]
    · rw [if_neg (by simp; omega), if_neg (by simp; omega)]
theorem si_new {qu : Int} {ds : List Int} {tu : Nat} {S : Nat → Int} (hd : tu < ds.length) (h : SI qu ds tu true S) : SI qu (ds.set tu (ds[tu] + qu)) tu false S := by
  obtain ⟨R, h⟩ := h
  refine ⟨R, fun i hi => ?_⟩
  rw [List.length_set] at hi
  rw [List.getElem_set]
  split
  · rename_i e
    subst e
    have := h tu hd
    rw [if_neg (by simp)] at this
    rw [if_pos (by simp)]
    have e2 : (R + 1) * qu = R * qu + qu := by rw [Int.add_mul, Int.one_mul]
    rw [Int.add_zero] at this
    omega
  · rename_i e
    rw [h i hi]
    by_cases h1 : i < tu
    · rw [if_pos (.inl h1), if_pos (.inl h1)]
    · rw [if_neg (by simp; omega), if_neg (by omega)]
theorem si_take {qu : Int} {ds : List Int} {tu : Nat} {S : Nat → Int} {x : Int} (hd : tu < ds.length) (h : SI qu ds tu false S) : SI qu (ds.set tu (ds[tu] - x)) tu false (served1 S tu x) := by
  obtain ⟨R, h⟩ := h
  refine ⟨R, fun i hi => ?_⟩
  rw [List.length_set] at hi
  rw [List.getElem_set, ← h i hi]
  unfold served1
  split
  · rename_i e; subst e; rw [if_pos rfl]; omega
  · rename_i e; rw [if_neg (fun h => e h.symm)]
theorem srv_law {qu M : Int} : ∀ (f : Nat) {qs : List (List Int)} {ds : List Int} {tu : Nat} {fr : Bool} {qs' : List (List Int)} {ds' : List Int} {k : Nat} {x : Int}, FI qu M qs ds tu fr → srv qu f qs ds tu fr = some (qs', ds', k, x) →
    ∃ (hk : k < qs.length) (l : List Int), qs[k] = x :: l ∧ qs' = qs.set k l ∧ FI qu M qs' ds' k false ∧
      ∀ S, SI qu ds tu fr S → (∀ i (h : i < qs.length), qs[i] ≠ []) → SI qu ds' k false (served1 S k x)
  | 0, _, _, _, _, _, _, _, _, _, h => by simp [srv] at h
  | f + 1, qs, ds, tu, fr, qs', ds', k, x, hI, h => by
    have htd : tu < ds.length := by rw [hI.ok.dl]; exact hI.ok.tl
    have hd0 := hI.ok.d tu htd
    have hq1 := hI.ok.q1
    have hq2 := hI.ok.q2
    cases hq : qs[tu]'hI.ok.tl with
    | nil =>
      rw [srv_nil hI.ok.tl hq] at h
      obtain ⟨hk, l, h1, h2, h3, h4⟩ := srv_law f (hI.nil hq) h
      exact ⟨hk, l, h1, h2, h3, fun S _ hne => absurd hq (hne tu hI.ok.tl)⟩
    | cons y l =>
      have hy := (hI.ok.q tu hI.ok.tl).2 y (by rw [hq]; exact List.mem_cons_self ..)
      have hyM := hI.fm tu hI.ok.tl y (by rw [hq]; exact List.mem_cons_self ..)
      have hne : qs[tu]'hI.ok.tl ≠ [] := by rw [hq]; simp
      cases fr with
      | false =>
        have hhi := hI.hi tu htd
        rw [srv_on hI.ok.tl hq htd] at h
        by_cases hs : y ≤ ds[tu]
        · rw [if_pos hs] at h
          simp only [Option.some.injEq, Prod.mk.injEq] at h
          obtain ⟨rfl, rfl, rfl, rfl⟩ := h
          exact ⟨hI.ok.tl, l, hq, rfl, hI.take htd _ hq (by omega) (by omega) (by omega), fun S hS _ => si_take htd hS⟩
        · rw [if_neg hs] at h
          have h9 := hI.on htd ds[tu] hne (by omega) (by omega)
          rw [List.set_getElem_self] at h9
          obtain ⟨hk, l', h1, h2, h3, h4⟩ := srv_law f h9 h
          exact ⟨hk, l', h1, h2, h3, fun S hS hn => h4 S (si_on hI.ok.dl hI.ok.tl hS) hn⟩
      | true =>
        have hlo := hI.lo tu htd (.inr rfl)
        have hm := hI.m1
        rw [srv_new hI.ok.tl hq htd] at h
        by_cases hs : y ≤ ds[tu] + qu
        · rw [if_pos hs] at h
          simp only [Option.some.injEq, Prod.mk.injEq] at h
          obtain ⟨rfl, rfl, rfl, rfl⟩ := h
          refine ⟨hI.ok.tl, l, hq, rfl, hI.take htd _ hq (by omega) (by omega) (by omega), fun S hS _ => ?_⟩
          have htd' : tu < (ds.set tu (ds[tu] + qu)).length := by rw [List.length_set]; exact htd
          have := si_take (x := y) htd' (si_new htd hS)
          rwa [List.getElem_set_self, List.set_set] at this
        · rw [if_neg hs] at h
          obtain ⟨hk, l', h1, h2, h3, h4⟩ := srv_law f (hI.on htd (ds[tu] + qu) hne (by omega) (by omega)) h
          exact ⟨hk, l', h1, h2, h3, fun S hS hn => h4 S (si_on (by rw [List.length_set]; exact hI.ok.dl) hI.ok.tl (si_new htd hS)) hn⟩
theorem share {qu M : Int} {qs : List (List Int)} {ds : List Int} {tu : Nat} {fr : Bool} {S : Nat → Int} (h : FI qu M qs ds tu fr) (hS : SI qu ds tu fr S) {a b : Nat} (ha : a < qs.length) (hb : b < qs.length) : S a - S b ≤ qu + M ∧ S b - S a ≤ qu + M := by
  have key : ∀ a b, a < qs.length → b < qs.length → S a - S b ≤ qu + M := by
    intro a b ha hb
    have had : a < ds.length := by rw [h.ok.dl]; exact ha
    have hbd : b < ds.length := by rw [h.ok.dl]; exact hb
    obtain ⟨R, hR⟩ := hS
    have e1 := hR a had
    have e2 := hR b hbd
    have d1 := h.ok.d a had
    have d2 := h.ok.d b hbd
    have h1 := h.hi b hbd
    have h2 := h.lo b hbd
    have h3 := h.hi a had
    have hq1 := h.ok.q1
    have hm0 := h.m0
    have ex : (R + 1) * qu = R * qu + qu := by rw [Int.add_mul, Int.one_mul]
    by_cases ca : a < tu ∨ (a = tu ∧ fr = false)
    · rw [if_pos ca, ex] at e1
      by_cases cb : b < tu ∨ (b = tu ∧ fr = false)
      · rw [if_pos cb, ex] at e2; omega
      · rw [if_neg cb, Int.add_zero] at e2
        have := h2 (by
          by_cases e : b = tu
          · right; cases fr <;> simp_all
          · exact .inl e)
        omega
    · rw [if_neg ca, Int.add_zero] at e1
      by_cases cb : b < tu ∨ (b = tu ∧ fr = false)
      · rw [if_pos cb, ex] at e2; omega
      · rw [if_neg cb, Int.add_zero] at e2; omega
  exact ⟨key a b ha hb, key b a hb ha⟩
/-- The lengths of one queue, in the order in which they were served. -/
def sel (q : Int) : List Int → List Int → List Int
  | k :: a, x :: b => if k = q then x :: sel q a b else sel q a b
  | _, _ => []
theorem sel_nil (q : Int) (a : List Int) : sel q a [] = [] := by cases a <;> rfl
theorem sel_snoc (q : Int) : ∀ (a b : List Int) (k x : Int), a.length = b.length → sel q (a ++ [k]) (b ++ [x]) = sel q a b ++ if k = q then [x] else []
  | [], [], k, x, _ => by by_cases h : k = q <;> simp [sel, h]
  | k' :: a, x' :: b, k, x, h => by
    have := sel_snoc q a b k x (by simpa using h)
    simp only [List.cons_append, sel, this]
    split <;> simp
  | [], _ :: _, _, _, h => by simp at h
  | _ :: _, [], _, _, h => by simp at h
def total (qs : List (List Int)) : Nat := (qs.map List.length).sum
theorem total_set : ∀ (qs : List (List Int)) (k : Nat) (h : k < qs.length) (l : List Int), total (qs.set k l) + (qs[k]).length = total qs + l.length
  | q :: qs, 0, _, l => by simp [total]; omega
  | q :: qs, k + 1, h, l => by
    have := total_set qs k (by simpa using h) l
    simp [total] at this ⊢; omega
theorem total_pos : ∀ {qs : List (List Int)}, noneLeft qs = false → 0 < total qs
  | [], h => by simp [noneLeft] at h
  | q :: qs, h => by
    simp only [noneLeft, List.all_cons, Bool.and_eq_false_iff, decide_eq_false_iff_not] at h
    simp only [total, List.map_cons, List.sum_cons]
    rcases h with h | h
    · omega
    · have := total_pos (qs := qs) h; unfold total at this; omega
/-- One service of a scheduler that has a frame. -/
theorem nextF_law {qu M : Int} {qs : List (List Int)} {ds : List Int} {tu : Nat} {fr : Bool} (h : FI qu M qs ds tu fr) (hn : noneLeft qs = false) :
    ∃ (ds' : List Int) (k : Nat) (x : Int) (hk : k < qs.length) (l : List Int), nextF (qs, ds, qu, (tu : Int), fr) = ((qs.set k l, ds', qu, (k : Int), false), (k : Int), x) ∧ qs[k] = x :: l ∧ FI qu M (qs.set k l) ds' k false ∧
      ∀ S, SI qu ds tu fr S → (∀ i (h : i < qs.length), qs[i] ≠ []) → SI qu ds' k false (served1 S k x) := by
  obtain ⟨⟨qs', ds', k, x⟩, hr⟩ := srv_ok h.fair hn
  have e := srvF_yes h.fair hn hr
  rw [Int.toNat_natCast] at hr
  obtain ⟨hk, l, h1, rfl, h3, h4⟩ := srv_law _ h hr
  exact ⟨ds', k, x, hk, l, by unfold nextF; rw [e], h1, h3, h4⟩
theorem allF_order {qu M : Int} : ∀ (n : Nat) (qs : List (List Int)) (ds : List Int) (tu : Nat) (fr : Bool) (a b : List Int), FI qu M qs ds tu fr → total qs ≤ n → a.length = b.length →
    ∃ (qs' : List (List Int)) (ds' : List Int) (tu' : Nat) (fr' : Bool) (a' b' : List Int), allF n (qs, ds, qu, (tu : Int), fr) a b = ((qs', ds', qu, (tu' : Int), fr'), a', b') ∧ FI qu M qs' ds' tu' fr' ∧ noneLeft qs' = true ∧ qs'.length = qs.length ∧ a'.length = b'.length ∧ a'.length ≤ a.length + n ∧
      ∀ q (h : q < qs.length), sel q a' b' = sel q a b ++ qs[q]
  | 0, qs, ds, tu, fr, a, b, hI, hn, hl => by
    have h0 : noneLeft qs = true := by
      cases h : noneLeft qs with
      | true => rfl
      | false => have := total_pos h; omega
    refine ⟨qs, ds, tu, fr, a, b, rfl, hI, h0, rfl, hl, by omega, fun q hq => ?_⟩
    unfold noneLeft at h0
    rw [List.all_eq_true] at h0
    have := of_decide_eq_true (h0 _ (List.getElem_mem hq))
    rw [List.length_eq_zero_iff.1 this, List.append_nil]
  | n + 1, qs, ds, tu, fr, a, b, hI, hn, hl => by
    cases h0 : noneLeft qs with
    | true =>
      refine ⟨qs, ds, tu, fr, a, b, ?_, hI, h0, rfl, hl, by omega, fun q hq => ?_⟩
      · unfold allF nextF
        rw [srvF_no (.inr h0)]
        rfl
      · unfold noneLeft at h0
        rw [List.all_eq_true] at h0
        have := of_decide_eq_true (h0 _ (List.getElem_mem hq))
        rw [List.length_eq_zero_iff.1 this, List.append_nil]
    | false =>
      obtain ⟨ds', k, x, hk, l, e, hq, hI', _⟩ := nextF_law hI h0
      have ht := total_set qs k hk l
      rw [hq] at ht
      simp only [List.length_cons] at ht
      obtain ⟨qs2, ds2, tu2, fr2, a2, b2, h1, h2, h3, h4, h5, h7, h6⟩ := allF_order n (qs.set k l) ds' k false (a ++ [(k : Int)]) (b ++ [x]) hI' (by omega) (by simp [hl])
      rw [List.length_set] at h4
      refine ⟨qs2, ds2, tu2, fr2, a2, b2, ?_, h2, h3, h4, h5, by simp at h7; omega, fun q hq' => ?_⟩
      · unfold allF
        rw [e]
        simp only
        rw [if_neg (by omega)]
        exact h1
      · rw [h6 q (by rw [List.length_set]; exact hq'), sel_snoc _ _ _ _ _ hl, List.getElem_set]
        by_cases e1 : k = q
        · subst e1; rw [if_pos rfl, if_pos rfl, hq]; simp
        · rw [if_neg (by omega), if_neg e1, List.append_nil]
end Go.Proofs.Ytigepcpmdhcenaa

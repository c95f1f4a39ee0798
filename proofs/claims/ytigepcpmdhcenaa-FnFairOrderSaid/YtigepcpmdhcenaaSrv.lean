/- Which frame a fair scheduler serves next. No program in sight. -/
import Derived.Test.YtigepcpmdhcenaaFair
namespace Go.Proofs.Ytigepcpmdhcenaa
open Go.RowKit
set_option linter.unusedVariables false
structure SOk (qu : Int) (qs : List (List Int)) (ds : List Int) (tu : Nat) : Prop where
  n0 : 0 < qs.length
  n8 : qs.length ≤ 8
  dl : ds.length = qs.length
  tl : tu < qs.length
  q1 : 1 ≤ qu
  q2 : qu ≤ 2000
  d : ∀ i (h : i < ds.length), 0 ≤ ds[i] ∧ ds[i] ≤ 4000
  q : ∀ i (h : i < qs.length), qs[i].length ≤ 64 ∧ ∀ x ∈ qs[i], 1 ≤ x ∧ x ≤ 2000
abbrev Srv := List (List Int) × List Int × Nat × Int
/-- The next frame: the new queues, the new deficits, the queue, the length. -/
def srv (qu : Int) : Nat → List (List Int) → List Int → Nat → Bool → Option Srv
  | 0, _, _, _, _ => none
  | f + 1, qs, ds, tu, fr =>
    match qs.getD tu [] with
    | [] => srv qu f qs (ds.set tu 0) ((tu + 1) % qs.length) true
    | x :: l =>
      let ds' := if fr then ds.set tu (ds.getD tu 0 + qu) else ds
      if x ≤ ds'.getD tu 0 then some (qs.set tu l, ds'.set tu (ds'.getD tu 0 - x), tu, x)
      else srv qu f qs ds' ((tu + 1) % qs.length) true
theorem getD_lt {α : Type} {l : List α} {i : Nat} {d : α} (h : i < l.length) : l.getD i d = l[i] := by simp [List.getD, h]
theorem srv_nil {qu : Int} {f : Nat} {qs : List (List Int)} {ds : List Int} {tu : Nat} {fr : Bool} (h : tu < qs.length) (h0 : qs[tu] = []) : srv qu (f + 1) qs ds tu fr = srv qu f qs (ds.set tu 0) ((tu + 1) % qs.length) true := by
  conv => lhs; unfold srv
  rw [getD_lt h, h0]
theorem srv_on {qu : Int} {f : Nat} {qs : List (List Int)} {ds : List Int} {tu : Nat} {x : Int} {l : List Int} (h : tu < qs.length) (h0 : qs[tu] = x :: l) (hd : tu < ds.length) :
    srv qu (f + 1) qs ds tu false = if x ≤ ds[tu] then some (qs.set tu l, ds.set tu (ds[tu] - x), tu, x) else srv qu f qs ds ((tu + 1) % qs.length) true := by
  conv => lhs; unfold srv
  rw [getD_lt h, h0]
  simp only [Bool.false_eq_true, if_false, getD_lt hd]
theorem srv_new {qu : Int} {f : Nat} {qs : List (List Int)} {ds : List Int} {tu : Nat} {x : Int} {l : List Int} (h : tu < qs.length) (h0 : qs[tu] = x :: l) (hd : tu < ds.length) :
    srv qu (f + 1) qs ds tu true = if x ≤ ds[tu] + qu then some (qs.set tu l, ds.set tu (ds[tu] + qu - x), tu, x) else srv qu f qs (ds.set tu (ds[tu] + qu)) ((tu + 1) % qs.length) true := by
  conv => lhs; unfold srv
  rw [getD_lt h, h0]
  have hd' : tu < (ds.set tu (ds[tu] + qu)).length := by rw [List.length_set]; exact hd
  simp only [if_true, getD_lt hd, getD_lt hd', List.getElem_set_self, List.set_set]
theorem SOk.nil {qu : Int} {qs : List (List Int)} {ds : List Int} {tu : Nat} (h : SOk qu qs ds tu) : SOk qu qs (ds.set tu 0) ((tu + 1) % qs.length) :=
  ⟨h.n0, h.n8, by rw [List.length_set]; exact h.dl, Nat.mod_lt _ h.n0, h.q1, h.q2, fun i hi => by
    rw [List.length_set] at hi
    rw [List.getElem_set]; split
    · omega
    · exact h.d i hi, h.q⟩
theorem SOk.on {qu : Int} {qs : List (List Int)} {ds : List Int} {tu : Nat} (h : SOk qu qs ds tu) : SOk qu qs ds ((tu + 1) % qs.length) :=
  ⟨h.n0, h.n8, h.dl, Nat.mod_lt _ h.n0, h.q1, h.q2, h.d, h.q⟩
theorem SOk.new {qu : Int} {qs : List (List Int)} {ds : List Int} {tu : Nat} (h : SOk qu qs ds tu) (hd : tu < ds.length) (hx : ds[tu] + qu < 2000) : SOk qu qs (ds.set tu (ds[tu] + qu)) ((tu + 1) % qs.length) :=
  ⟨h.n0, h.n8, by rw [List.length_set]; exact h.dl, Nat.mod_lt _ h.n0, h.q1, h.q2, fun i hi => by
    rw [List.length_set] at hi
    rw [List.getElem_set]; split
    · have := h.d tu hd; have := h.q1; omega
    · exact h.d i hi, h.q⟩
/-- How far it is from one queue on to another, going round. -/
def dist (n a j : Nat) : Nat := if a ≤ j then j - a else n + j - a
theorem dist_step {n a j : Nat} (ha : a < n) (hj : j < n) (h : a ≠ j) : dist n ((a + 1) % n) j + 1 = dist n a j := by
  unfold dist
  by_cases e : a + 1 = n
  · rw [e, Nat.mod_self, if_pos (Nat.zero_le _), if_neg (by omega)]; omega
  · rw [Nat.mod_eq_of_lt (by omega)]
    by_cases h2 : a ≤ j
    · rw [if_pos h2, if_pos (by omega)]; omega
    · rw [if_neg h2, if_neg (by omega)]; omega
theorem dist_self {n a : Nat} (ha : a < n) : dist n ((a + 1) % n) a = n - 1 := by
  unfold dist
  by_cases e : a + 1 = n
  · rw [e, Nat.mod_self, if_pos (Nat.zero_le _)]; omega
  · rw [Nat.mod_eq_of_lt (by omega), if_neg (by omega)]; omega
theorem dist_lt {n a j : Nat} (ha : a < n) (hj : j < n) : dist n a j < n := by unfold dist; split <;> omega
def far (qs : List (List Int)) (ds : List Int) (tu j : Nat) (fr : Bool) : Nat := (2001 - ds.getD j 0).toNat * qs.length + dist qs.length tu j + if fr then 0 else qs.length
theorem srv_some {qu : Int} {j : Nat} : ∀ (f : Nat) (qs : List (List Int)) (ds : List Int) (tu : Nat) (fr : Bool), SOk qu qs ds tu → (hj : j < qs.length) → qs[j] ≠ [] → far qs ds tu j fr < f → ∃ r, srv qu f qs ds tu fr = some r
  | 0, _, _, _, _, _, _, _, h => absurd h (Nat.not_lt_zero _)
  | f + 1, qs, ds, tu, fr, ok, hj, hne, h => by
    have htd : tu < ds.length := by rw [ok.dl]; exact ok.tl
    have hjd : j < ds.length := by rw [ok.dl]; exact hj
    cases hq : qs[tu]'ok.tl with
    | nil =>
      rw [srv_nil ok.tl hq]
      have hjt : tu ≠ j := fun e => by subst e; exact hne hq
      refine srv_some f qs _ _ true ok.nil hj hne ?_
      have h1 := dist_step ok.tl hj hjt
      have h2 : (ds.set tu 0).getD j 0 = ds.getD j 0 := by
        rw [getD_lt hjd, getD_lt (by rw [List.length_set]; exact hjd), List.getElem_set_ne hjt]
      unfold far at h ⊢
      rw [h2]
      simp only [if_true]
      split at h <;> omega
    | cons x l =>
      have hx := (ok.q tu ok.tl).2 x (by rw [hq]; exact List.mem_cons_self ..)
      have hd := ok.d tu htd
      have hq1 := ok.q1
      cases fr with
      | false =>
        rw [srv_on ok.tl hq htd]
        by_cases hs : x ≤ ds[tu]
        · rw [if_pos hs]; exact ⟨_, rfl⟩
        · rw [if_neg hs]
          refine srv_some f qs _ _ true ok.on hj hne ?_
          unfold far at h ⊢
          simp only [if_true, Bool.false_eq_true, if_false] at h ⊢
          by_cases e : tu = j
          · subst e; rw [dist_self ok.tl]; omega
          · have := dist_step ok.tl hj e; omega
      | true =>
        rw [srv_new ok.tl hq htd]
        by_cases hs : x ≤ ds[tu] + qu
        · rw [if_pos hs]; exact ⟨_, rfl⟩
        · rw [if_neg hs]
          refine srv_some f qs _ _ true (ok.new htd (by omega)) hj hne ?_
          unfold far at h ⊢
          simp only [if_true] at h ⊢
          by_cases e : tu = j
          · subst e
            rw [dist_self ok.tl, getD_lt (by rw [List.length_set]; exact htd), List.getElem_set_self]
            rw [getD_lt htd] at h
            have h3 : (2001 - (ds[tu] + qu)).toNat + 1 ≤ (2001 - ds[tu]).toNat := by omega
            have h4 := Nat.mul_le_mul_right qs.length h3
            rw [Nat.add_mul, Nat.one_mul] at h4
            have := ok.n0
            omega
          · have h2 : (ds.set tu (ds[tu] + qu)).getD j 0 = ds.getD j 0 := by
              rw [getD_lt hjd, getD_lt (by rw [List.length_set]; exact hjd), List.getElem_set_ne e]
            rw [h2]
            have := dist_step ok.tl hj e; omega
theorem fair_row {qs : List (List Int)} {ds : List Int} {qu tu : Int} {fr : Bool} (h : fairOkB qs ds qu tu fr = true) {i : Nat} (hi : i < qs.length) (hd : i < ds.length) : fairRowB qu tu fr i qs[i] ds[i] = true := by
  simp only [fairOkB, Bool.and_eq_true, List.all_eq_true, List.mem_range] at h
  have := h.2 i hi
  rwa [getD_lt hi, getD_lt hd] at this
theorem fair_tu {qs : List (List Int)} {ds : List Int} {qu tu : Int} {fr : Bool} (h : fairOkB qs ds qu tu fr = true) : tu = (tu.toNat : Int) ∧ tu.toNat < qs.length := by
  simp only [fairOkB, Bool.and_eq_true, inB_iff, decide_eq_true_eq] at h
  omega
theorem SOk.of {qs : List (List Int)} {ds : List Int} {qu tu : Int} {fr : Bool} (h : fairOkB qs ds qu tu fr = true) : SOk qu qs ds tu.toNat := by
  have hr := fun i hi hd => fair_row h (i := i) hi hd
  have ht := fair_tu h
  simp only [fairOkB, Bool.and_eq_true, inB_iff, decide_eq_true_eq] at h
  obtain ⟨⟨⟨⟨h1, h2⟩, h3⟩, h4⟩, _⟩ := h
  refine ⟨by omega, by omega, h2, ht.2, h3.1, h3.2, fun i hi => ?_, fun i hi => ?_⟩
  · have := hr i (by omega) hi
    simp only [fairRowB, Bool.and_eq_true, inB_iff, decide_eq_true_eq] at this
    omega
  · have := hr i hi (by omega)
    simp only [fairRowB, Bool.and_eq_true, inB_iff, decide_eq_true_eq, List.all_eq_true] at this
    exact ⟨by omega, fun x hx => this.1.2 x hx⟩
theorem srv_fine {qu : Int} : ∀ (f : Nat) {qs : List (List Int)} {ds : List Int} {tu : Nat} {fr : Bool} {qs' : List (List Int)} {ds' : List Int} {k : Nat} {x : Int}, SOk qu qs ds tu → srv qu f qs ds tu fr = some (qs', ds', k, x) →
    qs'.length = qs.length ∧ ds'.length = qs.length ∧ k < qs.length ∧ (1 ≤ x ∧ x ≤ 2000) ∧ ∀ q ∈ qs', q.length ≤ 64
  | 0, _, _, _, _, _, _, _, _, _, h => by simp [srv] at h
  | f + 1, qs, ds, tu, fr, qs', ds', k, x, ok, h => by
    have htd : tu < ds.length := by rw [ok.dl]; exact ok.tl
    cases hq : qs[tu]'ok.tl with
    | nil =>
      rw [srv_nil ok.tl hq] at h
      exact srv_fine f ok.nil h
    | cons y l =>
      have hy := (ok.q tu ok.tl)
      rw [hq] at hy
      have hset : ∀ q ∈ qs.set tu l, q.length ≤ 64 := fun q hm => by
        rcases List.mem_or_eq_of_mem_set hm with hm | rfl
        · obtain ⟨i, hi, rfl⟩ := List.getElem_of_mem hm
          exact (ok.q i hi).1
        · have := hy.1; simp at this; omega
      have hy2 := hy.2 y (List.mem_cons_self ..)
      cases fr with
      | false =>
        rw [srv_on ok.tl hq htd] at h
        by_cases hs : y ≤ ds[tu]
        · rw [if_pos hs] at h
          simp only [Option.some.injEq, Prod.mk.injEq] at h
          obtain ⟨rfl, rfl, rfl, rfl⟩ := h
          exact ⟨by simp, by simp [ok.dl], ok.tl, hy2, hset⟩
        · rw [if_neg hs] at h
          exact srv_fine f ok.on h
      | true =>
        rw [srv_new ok.tl hq htd] at h
        by_cases hs : y ≤ ds[tu] + qu
        · rw [if_pos hs] at h
          simp only [Option.some.injEq, Prod.mk.injEq] at h
          obtain ⟨rfl, rfl, rfl, rfl⟩ := h
          exact ⟨by simp, by simp [ok.dl], ok.tl, hy2, hset⟩
        · rw [if_neg hs] at h
          exact srv_fine f (ok.new htd (by omega)) h
def noneLeft (qs : List (List Int)) : Bool := qs.all fun q => decide (q.length = 0)
abbrev SrvF := List (List Int) × List Int × Int × Bool × Int × Int
/-- What ServeFrame answers. -/
def srvF (qs : List (List Int)) (ds : List Int) (qu tu : Int) (fr : Bool) : SrvF :=
  if fairOkB qs ds qu tu fr && !noneLeft qs then
    match srv qu 20000 qs ds tu.toNat fr with
    | some (qs', ds', k, x) => (qs', ds', (k : Int), false, (k : Int), x)
    | none => (qs, ds, tu, fr, -1, 0)
  else (qs, ds, tu, fr, -1, 0)
theorem srv_ok {qs : List (List Int)} {ds : List Int} {qu tu : Int} {fr : Bool} (h : fairOkB qs ds qu tu fr = true) (hn : noneLeft qs = false) : ∃ r, srv qu 20000 qs ds tu.toNat fr = some r := by
  have ok := SOk.of h
  have : ¬ ∀ q ∈ qs, q.length = 0 := by
    intro hh
    have : noneLeft qs = true := by unfold noneLeft; rw [List.all_eq_true]; intro q hq; exact decide_eq_true (hh q hq)
    rw [hn] at this; cases this
  obtain ⟨j, hj, hne⟩ : ∃ j, ∃ h : j < qs.length, qs[j] ≠ [] := by
    apply Classical.byContradiction
    intro hc
    apply this
    intro q hq
    obtain ⟨j, hj, rfl⟩ := List.getElem_of_mem hq
    exact Classical.byContradiction fun hl => hc ⟨j, hj, fun e => hl (by rw [e]; rfl)⟩
  refine srv_some 20000 qs ds tu.toNat fr ok hj hne ?_
  unfold far
  have hjd : j < ds.length := by rw [ok.dl]; exact hj
  rw [getD_lt hjd]
  have h1 := ok.d j hjd
  have h2 := dist_lt ok.tl hj
  have h3 := ok.n8
  have h4 : (2001 - ds[j]).toNat * qs.length ≤ 2001 * 8 := Nat.mul_le_mul (by omega) h3
  split <;> omega
theorem srvF_yes {qs : List (List Int)} {ds : List Int} {qu tu : Int} {fr : Bool} {qs' : List (List Int)} {ds' : List Int} {k : Nat} {x : Int} (h : fairOkB qs ds qu tu fr = true) (hn : noneLeft qs = false) (hs : srv qu 20000 qs ds tu.toNat fr = some (qs', ds', k, x)) :
    srvF qs ds qu tu fr = (qs', ds', (k : Int), false, (k : Int), x) := by
  unfold srvF; rw [h, hn, hs]; rfl
theorem srvF_no {qs : List (List Int)} {ds : List Int} {qu tu : Int} {fr : Bool} (h : fairOkB qs ds qu tu fr = false ∨ noneLeft qs = true) : srvF qs ds qu tu fr = (qs, ds, tu, fr, -1, 0) := by
  unfold srvF
  rw [if_neg]
  rcases h with h | h <;> simp [h]
end Go.Proofs.Ytigepcpmdhcenaa

/- Regions that draw their order: what only reads is taken first, what makes memory comes in the one order left. No program in sight. -/
import Derived.Test.YtelkplponnfkpaaSl
import Derived.OrdersHeld
import Derived.Deep.RegionHeld3
namespace Go
open Go.RowKit

/-- An operation that yields a value, if it ends well. -/
def Op.plainB : Op → Bool
  | .move _ | .assign _ | .pick .. | .load .. | .binOp .. | .unOp .. | .convert .. | .fieldAddr .. | .field .. | .indexAddr .. | .index .. | .extract .. | .slice .. => true
  | .call { callee := .builtin .len, .. } => true
  | _ => false

theorem run_yields {P : Program} {w w' : World} {n : Next} {s : Sem Value} (h : (do pure (Next.value (← s)) : Sem Next).run P w = .ok n w') : ∃ v, n = .value v := by
  rw [Sem.run_bind] at h
  cases hr : s.run P w with
  | ok v w1 => rw [hr] at h; simp [Result.andThen] at h; exact ⟨v, h.1.symm⟩
  | halt x w1 => rw [hr] at h; simp [Result.andThen] at h
theorem run_plain {P : Program} {ρ : Operand → Value} {o : Oper} (hp : o.op.plainB = true) {w w' : World} {n : Next} (h : (execOp ρ o).run P w = .ok n w') : ∃ v, n = .value v := by
  unfold execOp at h
  cases ho : o.op <;> rw [ho] at hp h <;> simp only [Op.plainB] at hp <;> try (cases hp; done)
  case move x => simp [Sem.run_pure] at h; exact ⟨_, h.1.symm⟩
  case assign x => simp [Sem.run_pure] at h; exact ⟨_, h.1.symm⟩
  case pick c a b =>
    simp only [Sem.run_bind] at h
    cases hr : (asBool (ρ c)).run P w with
    | ok v w1 => rw [hr] at h; simp [Result.andThen] at h; exact ⟨_, h.1.symm⟩
    | halt x w1 => rw [hr] at h; simp [Result.andThen] at h
  case call c =>
    obtain ⟨callee, args, ats⟩ := c
    cases callee with
    | builtin b =>
      cases b <;> simp only at hp <;> try (cases hp; done)
      simp only [resolve, invoke, builtin, Sem.run_bind, Sem.run_pure, Result.andThen] at h
      cases hr : Sem.run P (Builtin.len_ ats o.type (Array.map ρ args)) w with
      | ok v w1 => rw [hr] at h; simp at h; exact ⟨v, h.1.symm⟩
      | halt x w1 => rw [hr] at h; simp at h
    | value f => simp at hp
    | invoke r m => simp at hp
  all_goals exact run_yields h

section
variable {P : Program} {ops : Array Oper} {Q : Exit → Act → World → Prop} {S : World → Prop}

/-- Behind which operations must the condition on the world hold: all but those that wait for every operation of 'es'. -/
def needs (ops : Array Oper) (es : List Nat) (j : Nat) : Bool := match ops[j]? with
  | none => true
  | some o => !es.all fun e => o.after.any fun x => Region.binds .any x && x.on == e
theorem needs_not {es : List Nat} {j : Nat} {o : Oper} (ho : ops[j]? = some o) (h : needs ops es j = false) {e : Nat} (he : e ∈ es) : ∃ x ∈ o.after, Region.binds .any x = true ∧ x.on = e := by
  unfold needs at h
  rw [ho] at h
  simp only [Bool.not_eq_false', List.all_eq_true] at h
  have := h e he
  rw [Array.any_eq_true] at this
  obtain ⟨i, hi, hx⟩ := this
  simp only [Bool.and_eq_true, beq_iff_eq] at hx
  exact ⟨_, Array.getElem_mem hi, hx.1, hx.2⟩
/-- Whatever order is picked; S holds behind every operation that needs it. -/
def wpAnyE (P : Program) (ops : Array Oper) (Q : Exit → Act → World → Prop) (S : World → Prop) (es : List Nat) : Nat → Array Bool → Act → World → Prop
  | 0, listed, a, w => Region.ready .any ops listed = [] ∧ Q .normal a w
  | fuel + 1, listed, a, w =>
    (Region.ready .any ops listed = [] → Q .normal a w) ∧
    ∀ i ∈ Region.ready .any ops listed, wpOp P ops Q i (fun a' w' => (needs ops es i = true → S w') ∧ wpAnyE P ops Q S es fuel (listed.setIfInBounds i true) a' w') a w
theorem wpAny_of_E {es : List Nat} : ∀ (fuel : Nat) (listed : Array Bool) (a : Act) (w : World), wpAnyE P ops Q S es fuel listed a w → wpAny P .any ops Q fuel listed a w
  | 0, _, _, _, h => h
  | fuel + 1, _, _, _, h => ⟨h.1, fun i hi => wpOp_mono (fun a' w' h' => wpAny_of_E fuel _ a' w' h'.2) (h.2 i hi)⟩
theorem wpAnyE_first {es : List Nat} {i : Nat} {oi : Oper} {v : Value} (hi : ops[i]? = some oi) (hie : i ∈ es) (hsel : ∀ (j : Nat) (o : Oper) cs b, ops[j]? = some o → o.op ≠ .select cs b)
    (hQ : ∀ c a w, ¬ Q (.panic c) a w) :
    ∀ (fuel : Nat) (listed : Array Bool) (a : Act) (w : World),
      (∀ j oj, ops[j]? = some oj → j ≠ i → listed.getD j true = false → (∀ e ∈ oj.after, Region.binds .any e = true → e.on ≠ i) → oi.apart ops oj = true) →
      i ∈ Region.ready .any ops listed → YieldsIf P ops S oi v a → S w →
      wpAnyE P ops Q S es fuel (listed.setIfInBounds i true) (a.put oi.dst v) w → wpAnyE P ops Q S es (fuel + 1) listed a w := by
  intro fuel
  induction fuel with
  | zero =>
    intro listed a w _ hr hy hS H
    refine ⟨fun h => (by rw [h] at hr; cases hr), fun j hj => ?_⟩
    by_cases hji : j = i
    · subst hji; exact hy.wpOp hi hS ⟨fun _ => hS, H⟩
    · have := ready_mono hj hji
      rw [H.1] at this
      cases this
  | succ fuel ih =>
    intro listed a w hfree hr hy hS H
    refine ⟨fun h => (by rw [h] at hr; cases hr), fun j hj => ?_⟩
    by_cases hji : j = i
    · subst hji; exact hy.wpOp hi hS ⟨fun _ => hS, H⟩
    · have h1 := H.2 j (ready_mono hj hji)
      obtain ⟨hjun, oj, hoj, hall⟩ := mem_ready.1 hj
      have hnot : ∀ e ∈ oj.after, Region.binds .any e = true → e.on ≠ i := fun e he hb heq => by
        have h1 := hall e he hb
        have h0 := (mem_ready.1 hr).1
        rw [heq] at h1
        rcases Nat.lt_or_ge i listed.size with h' | h'
        · simp [h'] at h0 h1; rw [h0] at h1; cases h1
        · simp [Array.getElem?_eq_none h'] at h1
      have hneed : needs ops es j = true := by
        cases hn : needs ops es j with
        | true => rfl
        | false =>
          obtain ⟨x, hx, hb, ho⟩ := needs_not hoj hn hie
          exact absurd ho (hnot x hx hb)
      have h2 := wpOp_putIf hoj (hfree j oj hoj hji hjun hnot) (fun cs b => hsel i oi cs b hi) (fun cs b => hsel j oj cs b hoj) (fun c a w hh => (hQ _ _ _ hh).elim) hy h1
      have hfree' : ∀ k ok, ops[k]? = some ok → k ≠ i → (listed.setIfInBounds j true).getD k true = false →
          (∀ e ∈ ok.after, Region.binds .any e = true → e.on ≠ i) → oi.apart ops ok = true := fun k ok hk hki hun hno => by
        refine hfree k ok hk hki ?_ hno
        by_cases hjk : j = k
        · subst hjk; exact hjun
        · rw [getD_set_ne true hjk] at hun; exact hun
      refine wpOp_mono (fun a' w' h3 => ⟨fun _ => h3.2.1 hneed, ih (listed.setIfInBounds j true) a' w' hfree' (ready_mono hr (Ne.symm hji)) h3.1 (h3.2.1 hneed) ?_⟩) h2
      rw [Array.setIfInBounds_comm _ _ hji]
      exact h3.2.2

/-- The operations in the order of a list of numbers: those marked 0 are taken first, whenever they come up; behind those marked 1 the condition on the world holds; those marked 2 wait for all that are taken first. -/
def wpMix (P : Program) (ops : Array Oper) (S : World → Prop) (Q : Exit → Act → World → Prop) : List (Nat × Nat) → Act → World → Prop
  | [], a, w => Q .normal a w
  | (i, b) :: rest, a, w => match ops[i]? with
    | none => False
    | some o => if Region.wanted o (yielded ops a.tmps) then
        (match b with
        | 0 => o.quiet P a S (fun a' => wpMix P ops S Q rest a' w)
        | 1 => o.wp P a w (fun a' w' => S w' ∧ wpMix P ops S Q rest a' w') Q
        | _ => o.wp P a w (fun a' w' => wpMix P ops S Q rest a' w') Q)
      else wpMix P ops S Q rest (a.put o.dst undef) w
/-- 'b': the condition on the world holds here. -/
def mixFrom (ops : Array Oper) (es : List Nat) : Bool → List (Nat × Nat) → Array Bool → Bool
  | _, [], listed => (Region.ready .any ops listed).isEmpty
  | b, (i, 0) :: rest, listed => b && es.contains i && (Region.ready .any ops listed).contains i && Region.free .any ops listed i && ((ops[i]?).map (·.op.plainB)).getD false && mixFrom ops es b rest (listed.setIfInBounds i true)
  | b, (i, 1) :: rest, listed => b && Region.ready .any ops listed == [i] && mixFrom ops es b rest (listed.setIfInBounds i true)
  | _, (i, _) :: rest, listed => !needs ops es i && Region.ready .any ops listed == [i] && mixFrom ops es false rest (listed.setIfInBounds i true)
def earlies (idx : List (Nat × Nat)) : List Nat := (idx.filter (·.2 == 0)).map (·.1)
def mixB (ops : Array Oper) (idx : List (Nat × Nat)) : Bool := Region.noSelect ops && idx.length == ops.size && mixFrom ops (earlies idx) true idx (Array.replicate ops.size false)

theorem quiet_plain {o : Oper} {a : Act} {K : Act → Prop} (hp : o.op.plainB = true) (h : o.quiet P a S K) : ∃ v, (∀ w, S w → (execOp a.eval o).run P w = .ok (.value v) w) ∧ K (a.put o.dst v) := by
  obtain ⟨v, h1, h2⟩ := h
  refine ⟨v, fun w hw => ?_, h2⟩
  have h3 := h1 w hw
  unfold Oper.quietAt at h3
  cases hr : (execOp a.eval o).run P w with
  | ok n w' =>
    obtain ⟨u, rfl⟩ := run_plain hp hr
    rw [hr] at h3
    simp only [Oper.quietUpon] at h3
    rw [h3.1, h3.2]
  | halt x w' => rw [hr] at h3; simp [Oper.quietUpon] at h3

theorem wpMix_forcedE {es : List Nat} {i n : Nat} {listed : Array Bool} {a : Act} {w : World} {o : Oper} (ho : ops[i]? = some o) (hr : Region.ready .any ops listed = [i])
    (h : if Region.wanted o (yielded ops a.tmps) then o.wp P a w (fun a' w' => (needs ops es i = true → S w') ∧ wpAnyE P ops Q S es n (listed.setIfInBounds i true) a' w') Q
      else (needs ops es i = true → S w) ∧ wpAnyE P ops Q S es n (listed.setIfInBounds i true) (a.put o.dst undef) w) : wpAnyE P ops Q S es (n + 1) listed a w := by
  refine ⟨fun h0 => (by rw [hr] at h0; cases h0), fun j hj => ?_⟩
  rw [hr] at hj
  obtain rfl : j = i := by simpa using hj
  unfold wpOp
  rw [ho]
  simp only
  by_cases hw : Region.wanted o (yielded ops a.tmps) = true
  · simp only [hw, if_true] at h ⊢
    exact .inl h
  · simp only [hw] at h ⊢
    exact h

theorem wpMix_sound {es : List Nat} (hs : Region.noSelect ops = true) (hQ : ∀ c a w, ¬ Q (.panic c) a w) : ∀ (idx : List (Nat × Nat)) (b : Bool) (listed : Array Bool) (a : Act) (w : World), (b = true → S w) → mixFrom ops es b idx listed = true →
    wpMix P ops S Q idx a w → wpAnyE P ops Q S es idx.length listed a w
  | [], b, listed, a, w, _, hB, h => ⟨by simpa [mixFrom] using hB, h⟩
  | (i, 0) :: rest, b, listed, a, w, hS, hB, h => by
    simp only [mixFrom, Bool.and_eq_true] at hB
    obtain ⟨⟨⟨⟨⟨hb, hie⟩, hr⟩, hf⟩, hp⟩, hB'⟩ := hB
    unfold wpMix at h
    cases ho : ops[i]? with
    | none => rw [ho] at h; exact h.elim
    | some o =>
      rw [ho] at h hp
      simp only [Option.map_some, Option.getD_some] at hp
      simp only at h
      by_cases hw : Region.wanted o (yielded ops a.tmps) = true
      · simp only [hw, if_true] at h
        obtain ⟨v, h1, h2⟩ := quiet_plain hp h
        exact wpAnyE_first ho (by simpa using hie) (Region.noSelect_spec hs) hQ rest.length listed a w (Region.free_spec ho hf) (by simpa using hr) (.inl ⟨hw, h1⟩) (hS hb)
          (wpMix_sound hs hQ rest b _ _ _ hS hB' h2)
      · simp only [hw] at h
        exact wpAnyE_first ho (by simpa using hie) (Region.noSelect_spec hs) hQ rest.length listed a w (Region.free_spec ho hf) (by simpa using hr) (.inr ⟨by simpa using hw, rfl⟩) (hS hb)
          (wpMix_sound hs hQ rest b _ _ _ hS hB' h)
  | (i, 1) :: rest, b, listed, a, w, hS, hB, h => by
    simp only [mixFrom, Bool.and_eq_true, beq_iff_eq] at hB
    obtain ⟨⟨hb, hr⟩, hB'⟩ := hB
    unfold wpMix at h
    cases ho : ops[i]? with
    | none => rw [ho] at h; exact h.elim
    | some o =>
      rw [ho] at h
      simp only at h
      refine wpMix_forcedE ho hr ?_
      by_cases hw : Region.wanted o (yielded ops a.tmps) = true
      · simp only [hw, if_true] at h ⊢
        exact Oper.wp_mono (fun a' w' hh => ⟨fun _ => hh.1, wpMix_sound hs hQ rest b _ _ _ (fun _ => hh.1) hB' hh.2⟩) h
      · simp only [hw] at h ⊢
        exact ⟨fun _ => hS hb, wpMix_sound hs hQ rest b _ _ _ hS hB' h⟩
  | (i, k + 2) :: rest, b, listed, a, w, hS, hB, h => by
    simp only [mixFrom, Bool.and_eq_true, beq_iff_eq, Bool.not_eq_true'] at hB
    obtain ⟨⟨hn, hr⟩, hB'⟩ := hB
    unfold wpMix at h
    cases ho : ops[i]? with
    | none => rw [ho] at h; exact h.elim
    | some o =>
      rw [ho] at h
      simp only at h
      refine wpMix_forcedE ho hr ?_
      by_cases hw : Region.wanted o (yielded ops a.tmps) = true
      · simp only [hw, if_true] at h ⊢
        exact Oper.wp_mono (fun a' w' hh => ⟨fun hc => (by rw [hn] at hc; cases hc), wpMix_sound hs hQ rest false _ _ _ (fun hc => by cases hc) hB' hh⟩) h
      · simp only [hw] at h ⊢
        exact ⟨fun hc => (by rw [hn] at hc; cases hc), wpMix_sound hs hQ rest false _ _ _ (fun hc => by cases hc) hB' h⟩

/-- A region that draws its order, in one order. -/
theorem wp_region_mix {id : Nat} {a : Act} {w : World} {l : List Oper} (idx : List (Nat × Nat)) (hm : P.follows .mixedOrders = true) (hB : mixB l.toArray idx = true)
    (h : wpMix P l.toArray (fun w' => ∃ g, w' = w.plus g) (NoPanic Q) idx a w.drew) : (Code.region id l.toArray true).wp P Q a w := by
  simp only [mixB, Bool.and_eq_true, beq_iff_eq] at hB
  obtain ⟨⟨h1, h2⟩, h3⟩ := hB
  refine wp_region_noPanic (wp_region_any hm ?_)
  have h4 := wpMix_sound h1 (fun _ _ _ h => h) idx true _ a _ (fun _ => ⟨_, World.drew_is_plus w⟩) h3 h
  rw [h2] at h4
  exact wpAny_of_E _ _ _ _ h4

/-- The element number i of a list, by looking. -/
def getL {α : Type} : List α → Nat → Option α
  | [], _ => none
  | x :: _, 0 => some x
  | _ :: l, n + 1 => getL l n
theorem getL_eq {α : Type} : ∀ (l : List α) (i : Nat), getL l i = l.toArray[i]?
  | [], _ => by simp [getL]
  | x :: _, 0 => by simp [getL]
  | _ :: l, n + 1 => by simp only [getL]; rw [getL_eq l n]; simp
end
section
variable {P : Program} {l : List Oper} {Q : Exit → Act → World → Prop} {S : World → Prop}
theorem wpMix_nil {a : Act} {w : World} (h : Q .normal a w) : wpMix P l.toArray S (NoPanic Q) [] a w := h
theorem wpMix_skip {i : Nat} {b : Nat} {rest : List (Nat × Nat)} {a : Act} {w : World} {o : Oper} (ho : getL l i = some o) (hw : Region.wanted o (yielded l.toArray a.tmps) = false)
    (h : wpMix P l.toArray S Q rest (a.put o.dst undef) w) : wpMix P l.toArray S Q ((i, b) :: rest) a w := by
  rw [getL_eq] at ho; unfold wpMix; rw [ho]; simp only [hw]; exact h
theorem wpMix_early {i : Nat} {rest : List (Nat × Nat)} {a : Act} {w : World} {o : Oper} (ho : getL l i = some o) (hw : Region.wanted o (yielded l.toArray a.tmps) = true)
    (h : ∀ K : Act → Prop, (∀ a, wpMix P l.toArray S Q rest a w → K a) → o.quiet P a S K) : wpMix P l.toArray S Q ((i, 0) :: rest) a w := by
  rw [getL_eq] at ho; unfold wpMix; rw [ho]; simp only [hw, if_true]; exact h _ (fun _ h => h)
theorem wpMix_forced {i : Nat} {rest : List (Nat × Nat)} {a : Act} {w : World} {o : Oper} (ho : getL l i = some o) (hw : Region.wanted o (yielded l.toArray a.tmps) = true)
    (h : ∀ K : Act → World → Prop, (∀ a w, S w → wpMix P l.toArray S Q rest a w → K a w) → o.wp P a w K Q) : wpMix P l.toArray S Q ((i, 1) :: rest) a w := by
  rw [getL_eq] at ho; unfold wpMix; rw [ho]; simp only [hw, if_true]; exact h _ (fun _ _ h1 h2 => ⟨h1, h2⟩)
theorem wpMix_last {i : Nat} {rest : List (Nat × Nat)} {a : Act} {w : World} {o : Oper} (ho : getL l i = some o) (hw : Region.wanted o (yielded l.toArray a.tmps) = true)
    (h : ∀ K : Act → World → Prop, (∀ a w, wpMix P l.toArray S Q rest a w → K a w) → o.wp P a w K Q) : wpMix P l.toArray S Q ((i, 2) :: rest) a w := by
  rw [getL_eq] at ho; unfold wpMix; rw [ho]; simp only [hw, if_true]; exact h _ (fun _ _ h2 => h2)
end
end Go

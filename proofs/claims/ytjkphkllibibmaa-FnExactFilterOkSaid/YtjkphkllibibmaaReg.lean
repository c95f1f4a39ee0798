/- Regions that draw their order: what only reads is taken first, what makes memory comes in the one order left. No program in sight. -/
import Derived.Test.YtjkphkllibibmaaSl
import Derived.OrdersHeld
import Derived.Deep.RegionHeld3
namespace Go
open Go.RowKit

/-- An operation that yields a value, if it ends well. -/
def Op.plainB : Op → Bool
  | .move _ | .assign _ | .pick .. | .load .. | .binOp .. | .unOp .. | .convert .. | .fieldAddr .. | .field .. | .indexAddr .. | .index .. | .extract .. | .slice .. => true
  | .call { callee := .builtin .len, .. } => true
  | _ => false

theorem run_yields {P : Program} {w w' : World} {n : Next} {s : Sem Value} (h : (do pure (Next.value (← s)) : Sem Next).run P w = .ok n w') : ∃ v, n = .value v := by
  rw [Sem.run_bind] at h
  cases hr : s.run P w with
  | ok v w1 => rw [hr] at h; simp [Result.andThen] at h; exact ⟨v, h.1.symm⟩
  | halt x w1 => rw [hr] at h; simp [Result.andThen] at h
theorem run_plain {P : Program} {ρ : Operand → Value} {o : Oper} (hp : o.op.plainB = true) {w w' : World} {n : Next} (h : (execOp ρ o).run P w = .ok n w') : ∃ v, n = .value v := by
  unfold execOp at h
  cases ho : o.op <;> rw [ho] at hp h <;> simp only [Op.plainB] at hp <;> try (cases hp; done)
  case move x => simp [Sem.run_pure] at h; exact ⟨_, h.1.symm⟩
  case assign x => simp [Sem.run_pure] at h; exact ⟨_, h.1.symm⟩
  case pick c a b =>
    simp only [Sem.run_bind] at h
    cases hr : (asBool (ρ c)).run P w with
    | ok v w1 => rw [hr] at h; simp [Result.andThen] at h; exact ⟨_, h.1.symm⟩
    | halt x w1 => rw [hr] at h; simp [Result.andThen] at h
  case call c =>
    obtain ⟨callee, args, ats⟩ := c
    cases callee with
    | builtin b =>
      cases b <;> simp only at hp <;> try (cases hp; done)
      simp only [resolve, invoke, builtin, Sem.run_bind, Sem.run_pure, Result.andThen] at h
      cases hr : Sem.run P (Builtin.len_ ats o.type (Array.map ρ args)) w with
      | ok v w1 => rw [hr] at h; simp at h; exact ⟨v, h.1.symm⟩
      | halt x w1 => rw [hr] at h; simp at h
    | value f => simp at hp
    | invoke r m => simp at hp
  all_goals exact run_yields h

section
variable {P : Program} {ops : Array Oper} {Q : Exit → Act → World → Prop} {S : World → Prop}

/-- The operations in the order of a list of numbers; those marked 'true' are taken first, whenever they come up. -/
def wpMix (P : Program) (ops : Array Oper) (S : World → Prop) (Q : Exit → Act → World → Prop) : List (Nat × Bool) → Act → World → Prop
  | [], a, w => Q .normal a w
  | (i, b) :: rest, a, w => match ops[i]? with
    | none => False
    | some o => if Region.wanted o (yielded ops a.tmps) then
        (match b with
        | true => o.quiet P a S (fun a' => wpMix P ops S Q rest a' w)
        | false => o.wp P a w (fun a' w' => S w' ∧ wpMix P ops S Q rest a' w') Q)
      else wpMix P ops S Q rest (a.put o.dst undef) w
def mixFrom (ops : Array Oper) : List (Nat × Bool) → Array Bool → Bool
  | [], listed => (Region.ready .any ops listed).isEmpty
  | (i, true) :: rest, listed => (Region.ready .any ops listed).contains i && Region.free .any ops listed i && ((ops[i]?).map (·.op.plainB)).getD false && mixFrom ops rest (listed.setIfInBounds i true)
  | (i, false) :: rest, listed => Region.ready .any ops listed == [i] && mixFrom ops rest (listed.setIfInBounds i true)
def mixB (ops : Array Oper) (idx : List (Nat × Bool)) : Bool := Region.noSelect ops && idx.length == ops.size && mixFrom ops idx (Array.replicate ops.size false)

theorem quiet_plain {o : Oper} {a : Act} {K : Act → Prop} (hp : o.op.plainB = true) (h : o.quiet P a S K) : ∃ v, (∀ w, S w → (execOp a.eval o).run P w = .ok (.value v) w) ∧ K (a.put o.dst v) := by
  obtain ⟨v, h1, h2⟩ := h
  refine ⟨v, fun w hw => ?_, h2⟩
  have h3 := h1 w hw
  unfold Oper.quietAt at h3
  cases hr : (execOp a.eval o).run P w with
  | ok n w' =>
    obtain ⟨u, rfl⟩ := run_plain hp hr
    rw [hr] at h3
    simp only [Oper.quietUpon] at h3
    rw [h3.1, h3.2]
  | halt x w' => rw [hr] at h3; simp [Oper.quietUpon] at h3

theorem wpMix_sound (hs : Region.noSelect ops = true) (hQ : ∀ c a w, ¬ Q (.panic c) a w) : ∀ (idx : List (Nat × Bool)) (listed : Array Bool) (a : Act) (w : World), S w → mixFrom ops idx listed = true →
    wpMix P ops S Q idx a w → wpAnyH P .any ops Q S idx.length listed a w
  | [], listed, a, w, _, hB, h => ⟨by simpa [mixFrom] using hB, h⟩
  | (i, true) :: rest, listed, a, w, hS, hB, h => by
    simp only [mixFrom, Bool.and_eq_true] at hB
    obtain ⟨⟨⟨hr, hf⟩, hp⟩, hB'⟩ := hB
    unfold wpMix at h
    cases ho : ops[i]? with
    | none => rw [ho] at h; exact h.elim
    | some o =>
      rw [ho] at h hp
      simp only [Option.map_some, Option.getD_some] at hp
      simp only at h
      by_cases hw : Region.wanted o (yielded ops a.tmps) = true
      · simp only [hw, if_true] at h
        obtain ⟨v, h1, h2⟩ := quiet_plain hp h
        exact wpAnyH_first ho (Region.noSelect_spec hs) (fun c a w hh => (hQ _ _ _ hh).elim) rest.length listed a w (Region.free_spec ho hf) (by simpa using hr) (.inl ⟨hw, h1⟩) hS
          (wpMix_sound hs hQ rest _ _ _ hS hB' h2)
      · simp only [hw] at h
        exact wpAnyH_first ho (Region.noSelect_spec hs) (fun c a w hh => (hQ _ _ _ hh).elim) rest.length listed a w (Region.free_spec ho hf) (by simpa using hr) (.inr ⟨by simpa using hw, rfl⟩) hS
          (wpMix_sound hs hQ rest _ _ _ hS hB' h)
  | (i, false) :: rest, listed, a, w, hS, hB, h => by
    simp only [mixFrom, Bool.and_eq_true, beq_iff_eq] at hB
    obtain ⟨hr, hB'⟩ := hB
    unfold wpMix at h
    refine ⟨fun h0 => (by rw [hr] at h0; cases h0), fun j hj => ?_⟩
    rw [hr] at hj
    obtain rfl : j = i := by simpa using hj
    unfold wpOp
    cases ho : ops[j]? with
    | none => rw [ho] at h; exact h.elim
    | some o =>
      rw [ho] at h
      simp only at h ⊢
      by_cases hw : Region.wanted o (yielded ops a.tmps) = true
      · simp only [hw, if_true] at h ⊢
        exact .inl (Oper.wp_mono (fun a' w' hh => ⟨hh.1, wpMix_sound hs hQ rest _ _ _ hh.1 hB' hh.2⟩) h)
      · simp only [hw] at h ⊢
        exact ⟨hS, wpMix_sound hs hQ rest _ _ _ hS hB' h⟩

/-- A region that draws its order, in one order. -/
theorem wp_region_mix {id : Nat} {a : Act} {w : World} {l : List Oper} (idx : List (Nat × Bool)) (hm : P.follows .mixedOrders = true) (hB : mixB l.toArray idx = true)
    (h : wpMix P l.toArray (fun w' => ∃ g, w' = w.plus g) (NoPanic Q) idx a w.drew) : (Code.region id l.toArray true).wp P Q a w := by
  simp only [mixB, Bool.and_eq_true, beq_iff_eq] at hB
  obtain ⟨⟨h1, h2⟩, h3⟩ := hB
  refine wp_region_noPanic (wp_region_held (S := fun w' => ∃ g, w' = w.plus g) hm ?_)
  have h4 := wpMix_sound h1 (fun _ _ _ h => h) idx _ a _ ⟨_, World.drew_is_plus w⟩ h3 h
  rw [h2] at h4
  exact h4

/-- The element number i of a list, by looking. -/
def getL {α : Type} : List α → Nat → Option α
  | [], _ => none
  | x :: _, 0 => some x
  | _ :: l, n + 1 => getL l n
theorem getL_eq {α : Type} : ∀ (l : List α) (i : Nat), getL l i = l.toArray[i]?
  | [], _ => by simp [getL]
  | x :: _, 0 => by simp [getL]
  | _ :: l, n + 1 => by simp only [getL]; rw [getL_eq l n]; simp
end
section
variable {P : Program} {l : List Oper} {Q : Exit → Act → World → Prop} {S : World → Prop}
theorem wpMix_nil {a : Act} {w : World} (h : Q .normal a w) : wpMix P l.toArray S (NoPanic Q) [] a w := h
theorem wpMix_skip {i : Nat} {b : Bool} {rest : List (Nat × Bool)} {a : Act} {w : World} {o : Oper} (ho : getL l i = some o) (hw : Region.wanted o (yielded l.toArray a.tmps) = false)
    (h : wpMix P l.toArray S Q rest (a.put o.dst undef) w) : wpMix P l.toArray S Q ((i, b) :: rest) a w := by
  rw [getL_eq] at ho; unfold wpMix; rw [ho]; simp only [hw]; exact h
theorem wpMix_early {i : Nat} {rest : List (Nat × Bool)} {a : Act} {w : World} {o : Oper} (ho : getL l i = some o) (hw : Region.wanted o (yielded l.toArray a.tmps) = true)
    (h : ∀ K : Act → Prop, (∀ a, wpMix P l.toArray S Q rest a w → K a) → o.quiet P a S K) : wpMix P l.toArray S Q ((i, true) :: rest) a w := by
  rw [getL_eq] at ho; unfold wpMix; rw [ho]; simp only [hw, if_true]; exact h _ (fun _ h => h)
theorem wpMix_forced {i : Nat} {rest : List (Nat × Bool)} {a : Act} {w : World} {o : Oper} (ho : getL l i = some o) (hw : Region.wanted o (yielded l.toArray a.tmps) = true)
    (h : ∀ K : Act → World → Prop, (∀ a w, S w → wpMix P l.toArray S Q rest a w → K a w) → o.wp P a w K Q) : wpMix P l.toArray S Q ((i, false) :: rest) a w := by
  rw [getL_eq] at ho; unfold wpMix; rw [ho]; simp only [hw, if_true]; exact h _ (fun _ _ h1 h2 => ⟨h1, h2⟩)
end
end Go

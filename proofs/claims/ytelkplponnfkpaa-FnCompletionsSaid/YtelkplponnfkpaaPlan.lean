/- Regions that draw their order, with a fork: two operations that are ready at once are taken in both orders. No program in sight. -/
import Derived.Test.YtelkplponnfkpaaReg
namespace Go
open Go.RowKit

section
variable {P : Program} {ops : Array Oper} {Q : Exit → Act → World → Prop} {S : World → Prop}
/-- Does the operation j wait for e, through others too? -/
def waits (ops : Array Oper) : Nat → Nat → Nat → Bool
  | 0, _, _ => false
  | n + 1, j, e => match ops[j]? with
    | none => false
    | some o => o.after.any fun x => Region.binds .any x && (x.on == e || waits ops n x.on e)
def needsT (ops : Array Oper) (es : List Nat) (j : Nat) : Bool := !es.all fun e => waits ops ops.size j e
def Closed (ops : Array Oper) (listed : Array Bool) : Prop := ∀ k o, ops[k]? = some o → listed.getD k false = true → ∀ x ∈ o.after, Region.binds .any x = true → listed.getD x.on false = true
theorem getD_set {l : Array Bool} {j k : Nat} (h : l.getD k false = true) : (l.setIfInBounds j true).getD k false = true := by
  simp only [Array.getD_eq_getD_getElem?, Array.getElem?_setIfInBounds] at h ⊢
  split
  · split <;> simp_all
  · exact h
theorem Closed.step {listed : Array Bool} {j : Nat} (h : Closed ops listed) (hj : j ∈ Region.ready .any ops listed) : Closed ops (listed.setIfInBounds j true) := by
  obtain ⟨hun, oj, hoj, hall⟩ := mem_ready.1 hj
  intro k o hk hl x hx hb
  by_cases e : k = j
  · subst e
    rw [hoj] at hk
    obtain rfl := Option.some.inj hk
    exact getD_set (hall x hx hb)
  · refine getD_set (h k o hk ?_ x hx hb)
    simp only [Array.getD_eq_getD_getElem?, Array.getElem?_setIfInBounds] at hl ⊢
    rw [if_neg (fun h => e h.symm)] at hl
    exact hl
theorem waits_listed {listed : Array Bool} (h : Closed ops listed) {e : Nat} : ∀ (n j : Nat), (∀ o, ops[j]? = some o → ∀ x ∈ o.after, Region.binds .any x = true → listed.getD x.on false = true) → waits ops n j e = true → listed.getD e false = true
  | 0, _, _, hw => by simp [waits] at hw
  | n + 1, j, hj, hw => by
    unfold waits at hw
    cases ho : ops[j]? with
    | none => rw [ho] at hw; simp at hw
    | some o =>
      rw [ho] at hw
      simp only [Array.any_eq_true] at hw
      obtain ⟨i, hi, hx⟩ := hw
      simp only [Bool.and_eq_true, Bool.or_eq_true, beq_iff_eq] at hx
      obtain ⟨hb, he⟩ := hx
      have hl := hj o ho _ (Array.getElem_mem hi) hb
      rcases he with he | he
      · rw [← he]; exact hl
      · exact waits_listed h n _ (fun o' ho' x hx hb' => h _ o' ho' hl x hx hb') he
def wpAnyT (P : Program) (ops : Array Oper) (Q : Exit → Act → World → Prop) (S : World → Prop) (es : List Nat) : Nat → Array Bool → Act → World → Prop
  | 0, listed, a, w => Region.ready .any ops listed = [] ∧ Q .normal a w
  | fuel + 1, listed, a, w =>
    (Region.ready .any ops listed = [] → Q .normal a w) ∧
    ∀ i ∈ Region.ready .any ops listed, wpOp P ops Q i (fun a' w' => (needsT ops es i = true → S w') ∧ wpAnyT P ops Q S es fuel (listed.setIfInBounds i true) a' w') a w
theorem wpAny_of_T {es : List Nat} : ∀ (fuel : Nat) (listed : Array Bool) (a : Act) (w : World), wpAnyT P ops Q S es fuel listed a w → wpAny P .any ops Q fuel listed a w
  | 0, _, _, _, h => h
  | fuel + 1, _, _, _, h => ⟨h.1, fun i hi => wpOp_mono (fun a' w' h' => wpAny_of_T fuel _ a' w' h'.2) (h.2 i hi)⟩
theorem wpAnyT_first {es : List Nat} {i : Nat} {oi : Oper} {v : Value} (hi : ops[i]? = some oi) (hie : i ∈ es) (hsel : ∀ (j : Nat) (o : Oper) cs b, ops[j]? = some o → o.op ≠ .select cs b)
    (hQ : ∀ c a w, ¬ Q (.panic c) a w) :
    ∀ (fuel : Nat) (listed : Array Bool) (a : Act) (w : World), Closed ops listed →
      (∀ j oj, ops[j]? = some oj → j ≠ i → listed.getD j true = false → (∀ e ∈ oj.after, Region.binds .any e = true → e.on ≠ i) → oi.apart ops oj = true) →
      i ∈ Region.ready .any ops listed → YieldsIf P ops S oi v a → S w →
      wpAnyT P ops Q S es fuel (listed.setIfInBounds i true) (a.put oi.dst v) w → wpAnyT P ops Q S es (fuel + 1) listed a w := by
  intro fuel
  induction fuel with
  | zero =>
    intro listed a w _ _ hr hy hS H
    refine ⟨fun h => (by rw [h] at hr; cases hr), fun j hj => ?_⟩
    by_cases hji : j = i
    · subst hji; exact hy.wpOp hi hS ⟨fun _ => hS, H⟩
    · have := ready_mono hj hji
      rw [H.1] at this
      cases this
  | succ fuel ih =>
    intro listed a w hcl hfree hr hy hS H
    refine ⟨fun h => (by rw [h] at hr; cases hr), fun j hj => ?_⟩
    by_cases hji : j = i
    · subst hji; exact hy.wpOp hi hS ⟨fun _ => hS, H⟩
    · have h1 := H.2 j (ready_mono hj hji)
      obtain ⟨hjun, oj, hoj, hall⟩ := mem_ready.1 hj
      have hnl : listed.getD i false = true → False := fun h1 => by
        have h0 := (mem_ready.1 hr).1
        rcases Nat.lt_or_ge i listed.size with h' | h'
        · simp [h'] at h0 h1; rw [h0] at h1; cases h1
        · simp [Array.getElem?_eq_none h'] at h1
      have hnot : ∀ e ∈ oj.after, Region.binds .any e = true → e.on ≠ i := fun e he hb heq => hnl (heq ▸ hall e he hb)
      have hneed : needsT ops es j = true := by
        cases hn : needsT ops es j with
        | true => rfl
        | false =>
          simp only [needsT, Bool.not_eq_false', List.all_eq_true] at hn
          exact (hnl (waits_listed hcl _ j (fun o ho x hx hb => by rw [hoj] at ho; obtain rfl := Option.some.inj ho; exact hall x hx hb) (hn i hie))).elim
      have h2 := wpOp_putIf hoj (hfree j oj hoj hji hjun hnot) (fun cs b => hsel i oi cs b hi) (fun cs b => hsel j oj cs b hoj) (fun c a w hh => (hQ _ _ _ hh).elim) hy h1
      have hfree' : ∀ k ok, ops[k]? = some ok → k ≠ i → (listed.setIfInBounds j true).getD k true = false →
          (∀ e ∈ ok.after, Region.binds .any e = true → e.on ≠ i) → oi.apart ops ok = true := fun k ok hk hki hun hno => by
        refine hfree k ok hk hki ?_ hno
        by_cases hjk : j = k
        · subst hjk; exact hjun
        · rw [getD_set_ne true hjk] at hun; exact hun
      refine wpOp_mono (fun a' w' h3 => ⟨fun _ => h3.2.1 hneed, ih (listed.setIfInBounds j true) a' w' (hcl.step hj) hfree' (ready_mono hr (Ne.symm hji)) h3.1 (h3.2.1 hneed) ?_⟩) h2
      rw [Array.setIfInBounds_comm _ _ hji]
      exact h3.2.2
theorem wpAnyT_firstP {es : List Nat} {i : Nat} {oi : Oper} {v : Value} (hi : ops[i]? = some oi) (hni : needsT ops es i = false) (hsel : ∀ (j : Nat) (o : Oper) cs b, ops[j]? = some o → o.op ≠ .select cs b)
    (hQ : ∀ c a w, ¬ Q (.panic c) a w) :
    ∀ (fuel : Nat) (listed : Array Bool) (a : Act) (w : World),
      (∀ j oj, ops[j]? = some oj → j ≠ i → listed.getD j true = false → (∀ e ∈ oj.after, Region.binds .any e = true → e.on ≠ i) → oi.apart ops oj = true) →
      i ∈ Region.ready .any ops listed → YieldsIf P ops (fun _ => True) oi v a →
      wpAnyT P ops Q S es fuel (listed.setIfInBounds i true) (a.put oi.dst v) w → wpAnyT P ops Q S es (fuel + 1) listed a w := by
  intro fuel
  induction fuel with
  | zero =>
    intro listed a w _ hr hy H
    refine ⟨fun h => (by rw [h] at hr; cases hr), fun j hj => ?_⟩
    by_cases hji : j = i
    · subst hji; exact hy.wpOp hi trivial ⟨fun hn => (by rw [hni] at hn; cases hn), H⟩
    · have := ready_mono hj hji
      rw [H.1] at this
      cases this
  | succ fuel ih =>
    intro listed a w hfree hr hy H
    refine ⟨fun h => (by rw [h] at hr; cases hr), fun j hj => ?_⟩
    by_cases hji : j = i
    · subst hji; exact hy.wpOp hi trivial ⟨fun hn => (by rw [hni] at hn; cases hn), H⟩
    · have h1 := H.2 j (ready_mono hj hji)
      obtain ⟨hjun, oj, hoj, hall⟩ := mem_ready.1 hj
      have hnl : listed.getD i false = true → False := fun h1 => by
        have h0 := (mem_ready.1 hr).1
        rcases Nat.lt_or_ge i listed.size with h' | h'
        · simp [h'] at h0 h1; rw [h0] at h1; cases h1
        · simp [Array.getElem?_eq_none h'] at h1
      have hnot : ∀ e ∈ oj.after, Region.binds .any e = true → e.on ≠ i := fun e he hb heq => hnl (heq ▸ hall e he hb)
      have h2 := wpOp_putIf hoj (hfree j oj hoj hji hjun hnot) (fun cs b => hsel i oi cs b hi) (fun cs b => hsel j oj cs b hoj) (fun c a w hh => (hQ _ _ _ hh).elim) hy h1
      have hfree' : ∀ k ok, ops[k]? = some ok → k ≠ i → (listed.setIfInBounds j true).getD k true = false →
          (∀ e ∈ ok.after, Region.binds .any e = true → e.on ≠ i) → oi.apart ops ok = true := fun k ok hk hki hun hno => by
        refine hfree k ok hk hki ?_ hno
        by_cases hjk : j = k
        · subst hjk; exact hjun
        · rw [getD_set_ne true hjk] at hun; exact hun
      refine wpOp_mono (fun a' w' h3 => ⟨fun hn => h3.2.1 hn, ih (listed.setIfInBounds j true) a' w' hfree' (ready_mono hr (Ne.symm hji)) h3.1 ?_⟩) h2
      rw [Array.setIfInBounds_comm _ _ hji]
      exact h3.2.2
end
inductive Plan where
  | done
  | early (i : Nat) (p : Plan)
  | pure (i : Nat) (p : Plan)
  | forced (i b : Nat) (p : Plan)
  | fork (i b : Nat) (p : Plan) (j c : Nat) (q : Plan)
  | fork3 (i b : Nat) (p : Plan) (j c : Nat) (q : Plan) (k d : Nat) (r : Plan)
def Plan.len : Plan → Nat
  | .done => 0
  | .early _ p => p.len + 1
  | .pure _ p => p.len + 1
  | .forced _ _ p => p.len + 1
  | .fork _ _ p _ _ q => if p.len == q.len then p.len + 1 else 0
  | .fork3 _ _ p _ _ q _ _ r => if p.len == q.len && p.len == r.len then p.len + 1 else 0
def Plan.fits : Plan → Bool
  | .done => true
  | .early _ p => p.fits
  | .pure _ p => p.fits
  | .forced _ _ p => p.fits
  | .fork _ _ p _ _ q => p.len == q.len && p.fits && q.fits
  | .fork3 _ _ p _ _ q _ _ r => p.len == q.len && p.len == r.len && p.fits && q.fits && r.fits
section
variable {P : Program} {ops : Array Oper} {Q : Exit → Act → World → Prop} {S : World → Prop}
/-- One operation, then what follows: behind those marked 1 the condition on the world holds. -/
def wpOne (P : Program) (ops : Array Oper) (S : World → Prop) (Q : Exit → Act → World → Prop) (i b : Nat) (R : Act → World → Prop) (a : Act) (w : World) : Prop := match ops[i]? with
  | none => False
  | some o => if Region.wanted o (yielded ops a.tmps) then
      (match b with
      | 1 => o.wp P a w (fun a' w' => S w' ∧ R a' w') Q
      | _ => o.wp P a w R Q)
    else R (a.put o.dst undef) w
def wpPlan (P : Program) (ops : Array Oper) (S : World → Prop) (Q : Exit → Act → World → Prop) : Plan → Act → World → Prop
  | .done, a, w => Q .normal a w
  | .early i p, a, w => match ops[i]? with
    | none => False
    | some o => if Region.wanted o (yielded ops a.tmps) then o.quiet P a S (fun a' => wpPlan P ops S Q p a' w) else wpPlan P ops S Q p (a.put o.dst undef) w
  | .pure i p, a, w => match ops[i]? with
    | none => False
    | some o => if Region.wanted o (yielded ops a.tmps) then o.quiet P a (fun _ => True) (fun a' => wpPlan P ops S Q p a' w) else wpPlan P ops S Q p (a.put o.dst undef) w
  | .forced i b p, a, w => wpOne P ops S Q i b (wpPlan P ops S Q p) a w
  | .fork i b p j c q, a, w => wpOne P ops S Q i b (wpPlan P ops S Q p) a w ∧ wpOne P ops S Q j c (wpPlan P ops S Q q) a w
  | .fork3 i b p j c q k d r, a, w => wpOne P ops S Q i b (wpPlan P ops S Q p) a w ∧ wpOne P ops S Q j c (wpPlan P ops S Q q) a w ∧ wpOne P ops S Q k d (wpPlan P ops S Q r) a w
def okOne (ops : Array Oper) (es : List Nat) (s : Bool) (i b : Nat) : Bool := if b == 1 then s else !needsT ops es i
def after1 (s : Bool) (b : Nat) : Bool := b == 1 && s
def planFrom (ops : Array Oper) (es : List Nat) : Bool → Plan → Array Bool → Bool
  | _, .done, listed => (Region.ready .any ops listed).isEmpty
  | s, .early i p, listed => s && es.contains i && (Region.ready .any ops listed).contains i && Region.free .any ops listed i && ((ops[i]?).map (·.op.plainB)).getD false && planFrom ops es s p (listed.setIfInBounds i true)
  | s, .pure i p, listed => !needsT ops es i && (Region.ready .any ops listed).contains i && Region.free .any ops listed i && ((ops[i]?).map (·.op.plainB)).getD false && planFrom ops es s p (listed.setIfInBounds i true)
  | s, .forced i b p, listed => okOne ops es s i b && Region.ready .any ops listed == [i] && planFrom ops es (after1 s b) p (listed.setIfInBounds i true)
  | s, .fork i b p j c q, listed => okOne ops es s i b && okOne ops es s j c && Region.ready .any ops listed == [i, j] && planFrom ops es (after1 s b) p (listed.setIfInBounds i true) && planFrom ops es (after1 s c) q (listed.setIfInBounds j true)
  | s, .fork3 i b p j c q k d r, listed => okOne ops es s i b && okOne ops es s j c && okOne ops es s k d && Region.ready .any ops listed == [i, j, k] && planFrom ops es (after1 s b) p (listed.setIfInBounds i true) && planFrom ops es (after1 s c) q (listed.setIfInBounds j true) && planFrom ops es (after1 s d) r (listed.setIfInBounds k true)
def Plan.earlies : Plan → List Nat
  | .done => []
  | .early i p => i :: p.earlies
  | .pure _ p => p.earlies
  | .forced _ _ p => p.earlies
  | .fork _ _ p _ _ _ => p.earlies
  | .fork3 _ _ p _ _ _ _ _ _ => p.earlies
def Plan.earlies2 : Plan → List Nat
  | .done => []
  | .early i p => i :: p.earlies2
  | .pure _ p => p.earlies2
  | .forced _ _ p => p.earlies2
  | .fork _ _ p _ _ q => p.earlies2 ++ q.earlies2
  | .fork3 _ _ p _ _ q _ _ r => p.earlies2 ++ q.earlies2 ++ r.earlies2
def planB (ops : Array Oper) (p : Plan) : Bool := Region.noSelect ops && p.fits && p.len == ops.size && (planFrom ops p.earlies2 true p (Array.replicate ops.size false) || planFrom ops p.earlies true p (Array.replicate ops.size false))

theorem wpOne_op {es : List Nat} {s : Bool} {i b n : Nat} {listed : Array Bool} {a : Act} {w : World} {R : Act → World → Prop} (hs : s = true → S w) (hok : okOne ops es s i b = true)
    (hR : ∀ a' w', (after1 s b = true → S w') → R a' w' → wpAnyT P ops Q S es n (listed.setIfInBounds i true) a' w')
    (h : wpOne P ops S Q i b R a w) : wpOp P ops Q i (fun a' w' => (needsT ops es i = true → S w') ∧ wpAnyT P ops Q S es n (listed.setIfInBounds i true) a' w') a w := by
  unfold wpOne at h
  cases ho : ops[i]? with
  | none => rw [ho] at h; exact h.elim
  | some o =>
    rw [ho] at h
    simp only at h
    unfold wpOp
    rw [ho]
    simp only
    by_cases hb : b = 1
    · subst hb
      have hs' : s = true := by simpa [okOne] using hok
      by_cases hw : Region.wanted o (yielded ops a.tmps) = true
      · simp only [hw, if_true] at h ⊢
        exact .inl (Oper.wp_mono (fun a' w' hh => ⟨fun _ => hh.1, hR a' w' (fun _ => hh.1) hh.2⟩) h)
      · simp only [hw] at h ⊢
        exact ⟨fun _ => hs hs', hR _ _ (fun _ => hs hs') h⟩
    · have hn : needsT ops es i = false := by simpa [okOne, hb] using hok
      have ha : after1 s b = false := by simp [after1, hb]
      by_cases hw : Region.wanted o (yielded ops a.tmps) = true
      · simp only [hw, if_true] at h ⊢
        exact .inl (Oper.wp_mono (fun a' w' hh => ⟨fun hc => (by rw [hn] at hc; cases hc), hR a' w' (fun hc => by rw [ha] at hc; cases hc) hh⟩) h)
      · simp only [hw] at h ⊢
        exact ⟨fun hc => (by rw [hn] at hc; cases hc), hR _ _ (fun hc => by rw [ha] at hc; cases hc) h⟩

theorem wpPlan_sound {es : List Nat} (hs : Region.noSelect ops = true) (hQ : ∀ c a w, ¬ Q (.panic c) a w) : ∀ (p : Plan) (s : Bool) (listed : Array Bool) (a : Act) (w : World), Closed ops listed → p.fits = true → (s = true → S w) → planFrom ops es s p listed = true →
    wpPlan P ops S Q p a w → wpAnyT P ops Q S es p.len listed a w
  | .done, s, listed, a, w, _, _, _, hB, h => ⟨by simpa [planFrom] using hB, h⟩
  | .early i p, s, listed, a, w, hcl, hf, hS, hB, h => by
    simp only [planFrom, Bool.and_eq_true] at hB
    obtain ⟨⟨⟨⟨⟨hb, hie⟩, hr⟩, hfr⟩, hp⟩, hB'⟩ := hB
    unfold wpPlan at h
    cases ho : ops[i]? with
    | none => rw [ho] at h; exact h.elim
    | some o =>
      rw [ho] at h hp
      simp only [Option.map_some, Option.getD_some] at hp
      simp only at h
      by_cases hw : Region.wanted o (yielded ops a.tmps) = true
      · simp only [hw, if_true] at h
        obtain ⟨v, h1, h2⟩ := quiet_plain hp h
        exact wpAnyT_first ho (by simpa using hie) (Region.noSelect_spec hs) hQ p.len listed a w hcl (Region.free_spec ho hfr) (by simpa using hr) (.inl ⟨hw, h1⟩) (hS hb)
          (wpPlan_sound hs hQ p s _ _ _ (hcl.step (by simpa using hr)) hf hS hB' h2)
      · simp only [hw] at h
        exact wpAnyT_first ho (by simpa using hie) (Region.noSelect_spec hs) hQ p.len listed a w hcl (Region.free_spec ho hfr) (by simpa using hr) (.inr ⟨by simpa using hw, rfl⟩) (hS hb)
          (wpPlan_sound hs hQ p s _ _ _ (hcl.step (by simpa using hr)) hf hS hB' h)
  | .pure i p, s, listed, a, w, hcl, hf, hS, hB, h => by
    simp only [planFrom, Bool.and_eq_true, Bool.not_eq_true'] at hB
    obtain ⟨⟨⟨⟨hni, hr⟩, hfr⟩, hp⟩, hB'⟩ := hB
    unfold wpPlan at h
    cases ho : ops[i]? with
    | none => rw [ho] at h; exact h.elim
    | some o =>
      rw [ho] at h hp
      simp only [Option.map_some, Option.getD_some] at hp
      simp only at h
      by_cases hw : Region.wanted o (yielded ops a.tmps) = true
      · simp only [hw, if_true] at h
        obtain ⟨v, h1, h2⟩ := quiet_plain hp h
        exact wpAnyT_firstP ho hni (Region.noSelect_spec hs) hQ p.len listed a w (Region.free_spec ho hfr) (by simpa using hr) (.inl ⟨hw, h1⟩)
          (wpPlan_sound hs hQ p s _ _ _ (hcl.step (by simpa using hr)) hf hS hB' h2)
      · simp only [hw] at h
        exact wpAnyT_firstP ho hni (Region.noSelect_spec hs) hQ p.len listed a w (Region.free_spec ho hfr) (by simpa using hr) (.inr ⟨by simpa using hw, rfl⟩)
          (wpPlan_sound hs hQ p s _ _ _ (hcl.step (by simpa using hr)) hf hS hB' h)
  | .forced i b p, s, listed, a, w, hcl, hf, hS, hB, h => by
    simp only [planFrom, Bool.and_eq_true, beq_iff_eq] at hB
    obtain ⟨⟨hok, hr⟩, hB'⟩ := hB
    unfold wpPlan at h
    refine ⟨fun h0 => (by rw [hr] at h0; cases h0), fun j hj => ?_⟩
    rw [hr] at hj
    obtain rfl : j = i := by simpa using hj
    exact wpOne_op hS hok (fun a' w' hs' hR => wpPlan_sound hs hQ p _ _ a' w' (hcl.step (by rw [hr]; exact hj)) hf hs' hB' hR) h
  | .fork i b p j c q, s, listed, a, w, hcl, hf, hS, hB, h => by
    simp only [planFrom, Bool.and_eq_true, beq_iff_eq] at hB
    obtain ⟨⟨⟨⟨hok, hok2⟩, hr⟩, hB1⟩, hB2⟩ := hB
    simp only [Plan.fits, Bool.and_eq_true, beq_iff_eq] at hf
    obtain ⟨⟨hl, hf1⟩, hf2⟩ := hf
    unfold wpPlan at h
    have hlen : (Plan.fork i b p j c q).len = p.len + 1 := by simp [Plan.len, hl]
    rw [hlen]
    refine ⟨fun h0 => (by rw [hr] at h0; cases h0), fun k hk => ?_⟩
    rw [hr] at hk
    have hk' : k = i ∨ k = j := by simpa using hk
    rcases hk' with rfl | rfl
    · exact wpOne_op hS hok (fun a' w' hs' hR => wpPlan_sound hs hQ p _ _ a' w' (hcl.step (by rw [hr]; exact hk)) hf1 hs' hB1 hR) h.1
    · exact wpOne_op hS hok2 (fun a' w' hs' hR => by rw [hl]; exact wpPlan_sound hs hQ q _ _ a' w' (hcl.step (by rw [hr]; exact hk)) hf2 hs' hB2 hR) h.2
  | .fork3 i b p j c q m d r, s, listed, a, w, hcl, hf, hS, hB, h => by
    simp only [planFrom, Bool.and_eq_true, beq_iff_eq] at hB
    obtain ⟨⟨⟨⟨⟨⟨hok, hok2⟩, hok3⟩, hr⟩, hB1⟩, hB2⟩, hB3⟩ := hB
    simp only [Plan.fits, Bool.and_eq_true, beq_iff_eq] at hf
    obtain ⟨⟨⟨⟨hl, hl2⟩, hf1⟩, hf2⟩, hf3⟩ := hf
    unfold wpPlan at h
    have hlen : (Plan.fork3 i b p j c q m d r).len = p.len + 1 := by show (if p.len == q.len && p.len == r.len then p.len + 1 else 0) = p.len + 1; rw [← hl, ← hl2]; simp
    rw [hlen]
    refine ⟨fun h0 => (by rw [hr] at h0; cases h0), fun k hk => ?_⟩
    rw [hr] at hk
    have hk' : k = i ∨ k = j ∨ k = m := by simpa using hk
    rcases hk' with rfl | rfl | rfl
    · exact wpOne_op hS hok (fun a' w' hs' hR => wpPlan_sound hs hQ p _ _ a' w' (hcl.step (by rw [hr]; exact hk)) hf1 hs' hB1 hR) h.1
    · exact wpOne_op hS hok2 (fun a' w' hs' hR => by rw [hl]; exact wpPlan_sound hs hQ q _ _ a' w' (hcl.step (by rw [hr]; exact hk)) hf2 hs' hB2 hR) h.2.1
    · exact wpOne_op hS hok3 (fun a' w' hs' hR => by rw [hl2]; exact wpPlan_sound hs hQ r _ _ a' w' (hcl.step (by rw [hr]; exact hk)) hf3 hs' hB3 hR) h.2.2

/-- A region that draws its order, by a plan; S: what holds of the world while others may still read. -/
theorem wp_region_plan {id : Nat} {a : Act} {w : World} {l : List Oper} (S : World → Prop) (p : Plan) (hS : S w.drew) (hm : P.follows .mixedOrders = true) (hB : planB l.toArray p = true)
    (h : wpPlan P l.toArray S (NoPanic Q) p a w.drew) : (Code.region id l.toArray true).wp P Q a w := by
  simp only [planB, Bool.and_eq_true, Bool.or_eq_true, beq_iff_eq] at hB
  obtain ⟨⟨⟨h1, hf⟩, h2⟩, h3⟩ := hB
  obtain ⟨es, h3⟩ : ∃ es, planFrom l.toArray es true p (Array.replicate l.toArray.size false) = true := h3.elim (fun h => ⟨_, h⟩) (fun h => ⟨_, h⟩)
  refine wp_region_noPanic (wp_region_any hm ?_)
  have hc0 : Closed l.toArray (Array.replicate l.toArray.size false) := fun k o _ hl => by
    simp only [Array.getD_eq_getD_getElem?, Array.getElem?_replicate] at hl
    split at hl <;> simp at hl
  have h4 := wpPlan_sound h1 (fun _ _ _ h => h) p true _ a _ hc0 hf (fun _ => hS) h3 h
  rw [h2] at h4
  exact wpAny_of_T _ _ _ _ h4
end
section
variable {P : Program} {l : List Oper} {Q : Exit → Act → World → Prop} {S : World → Prop}
theorem wpPlan_done {a : Act} {w : World} (h : Q .normal a w) : wpPlan P l.toArray S (NoPanic Q) .done a w := h
theorem wpPlan_skipE {i : Nat} {p : Plan} {a : Act} {w : World} {o : Oper} (ho : getL l i = some o) (hw : Region.wanted o (yielded l.toArray a.tmps) = false)
    (h : wpPlan P l.toArray S Q p (a.put o.dst undef) w) : wpPlan P l.toArray S Q (.early i p) a w := by
  rw [getL_eq] at ho; unfold wpPlan; rw [ho]; simp only [hw]; exact h
theorem wpPlan_early {i : Nat} {p : Plan} {a : Act} {w : World} {o : Oper} (ho : getL l i = some o) (hw : Region.wanted o (yielded l.toArray a.tmps) = true)
    (h : ∀ K : Act → Prop, (∀ a, wpPlan P l.toArray S Q p a w → K a) → o.quiet P a S K) : wpPlan P l.toArray S Q (.early i p) a w := by
  rw [getL_eq] at ho; unfold wpPlan; rw [ho]; simp only [hw, if_true]; exact h _ (fun _ h => h)
theorem wpPlan_skipP {i : Nat} {p : Plan} {a : Act} {w : World} {o : Oper} (ho : getL l i = some o) (hw : Region.wanted o (yielded l.toArray a.tmps) = false)
    (h : wpPlan P l.toArray S Q p (a.put o.dst undef) w) : wpPlan P l.toArray S Q (.pure i p) a w := by
  rw [getL_eq] at ho; unfold wpPlan; rw [ho]; simp only [hw]; exact h
theorem wpPlan_pure {i : Nat} {p : Plan} {a : Act} {w : World} {o : Oper} (ho : getL l i = some o) (hw : Region.wanted o (yielded l.toArray a.tmps) = true)
    (h : ∀ K : Act → Prop, (∀ a, wpPlan P l.toArray S Q p a w → K a) → o.quiet P a (fun _ => True) K) : wpPlan P l.toArray S Q (.pure i p) a w := by
  rw [getL_eq] at ho; unfold wpPlan; rw [ho]; simp only [hw, if_true]; exact h _ (fun _ h => h)
theorem wpPlan_forced {i b : Nat} {p : Plan} {a : Act} {w : World} (h : wpOne P l.toArray S Q i b (wpPlan P l.toArray S Q p) a w) : wpPlan P l.toArray S Q (.forced i b p) a w := h
theorem wpPlan_fork {i b j c : Nat} {p q : Plan} {a : Act} {w : World} (h1 : wpOne P l.toArray S Q i b (wpPlan P l.toArray S Q p) a w) (h2 : wpOne P l.toArray S Q j c (wpPlan P l.toArray S Q q) a w) : wpPlan P l.toArray S Q (.fork i b p j c q) a w := ⟨h1, h2⟩
theorem wpPlan_fork3 {i b j c k d : Nat} {p q r : Plan} {a : Act} {w : World} (h1 : wpOne P l.toArray S Q i b (wpPlan P l.toArray S Q p) a w) (h2 : wpOne P l.toArray S Q j c (wpPlan P l.toArray S Q q) a w)
    (h3 : wpOne P l.toArray S Q k d (wpPlan P l.toArray S Q r) a w) : wpPlan P l.toArray S Q (.fork3 i b p j c q k d r) a w := ⟨h1, h2, h3⟩
theorem wpOne_skip {i b : Nat} {R : Act → World → Prop} {a : Act} {w : World} {o : Oper} (ho : getL l i = some o) (hw : Region.wanted o (yielded l.toArray a.tmps) = false)
    (h : R (a.put o.dst undef) w) : wpOne P l.toArray S Q i b R a w := by
  rw [getL_eq] at ho; unfold wpOne; rw [ho]; simp only [hw]; exact h
theorem wpOne_1 {i : Nat} {R : Act → World → Prop} {a : Act} {w : World} {o : Oper} (ho : getL l i = some o) (hw : Region.wanted o (yielded l.toArray a.tmps) = true)
    (h : ∀ K : Act → World → Prop, (∀ a w, S w → R a w → K a w) → o.wp P a w K Q) : wpOne P l.toArray S Q i 1 R a w := by
  rw [getL_eq] at ho; unfold wpOne; rw [ho]; simp only [hw, if_true]; exact h _ (fun _ _ h1 h2 => ⟨h1, h2⟩)
theorem wpOne_2 {i : Nat} {R : Act → World → Prop} {a : Act} {w : World} {o : Oper} (ho : getL l i = some o) (hw : Region.wanted o (yielded l.toArray a.tmps) = true)
    (h : ∀ K : Act → World → Prop, (∀ a w, R a w → K a w) → o.wp P a w K Q) : wpOne P l.toArray S Q i 2 R a w := by
  rw [getL_eq] at ho; unfold wpOne; rw [ho]; simp only [hw, if_true]; exact h _ (fun _ _ h2 => h2)
end
attribute [irreducible] wpPlan wpOne
end Go

/- Regions that draw their order: an allocation may come at any time; the walk takes it last. The worlds between the operations are any worlds that hold the parts. No program in sight. -/
import Derived.Test.YtelkplponnfkpaaSepM
namespace Go
open Go.RowKit
set_option linter.unusedVariables false
/-- All that lies in a list of parts, as one part. -/
def empA : Asn where
  P _ F := ∀ b, ¬ F b
  stable h _ := h
  lt h b hb := (h b hb).elim
def bigA : List Asn → Asn
  | [] => empA
  | A :: l => sepA A (bigA l)
theorem take_mid (A : Asn) (t : List Asn) : ∀ s : List Asn, Take (s ++ A :: t) A (s ++ t)
  | [] => .head
  | B :: s => .tail (take_mid A t s)
theorem arr_perm : ∀ {m l : List Asn}, l.Perm m → Arr l m
  | [], _, _ => .nil
  | A :: m, l, h => by
    obtain ⟨s, t, rfl⟩ := List.append_of_mem (h.symm.subset (List.mem_cons_self ..))
    exact .cons (take_mid A t s) (arr_perm ((List.perm_middle.symm.trans h).cons_inv))
section
variable {w0 w w' : World} {Is Js Ks : List Asn} {A B : Asn}
theorem St.unfuse (h : St w0 w (sepA A B :: Is)) : St w0 w (A :: B :: Is) := by
  obtain ⟨h1, F, ⟨F1, F2, ⟨G1, G2, a1, a2, a3, a4⟩, b2, b3, b4⟩, h6⟩ := h
  refine ⟨h1, F, ⟨G1, fun b => G2 b ∨ F2 b, a1, ⟨G2, F2, a2, b2, fun b hb hg => b3 b ((a4 b).2 (.inr hb)) hg, fun _ => Iff.rfl⟩, fun b hb hg => ?_, fun b => ?_⟩, h6⟩
  · rcases hg with hg | hg
    · exact a3 b hb hg
    · exact b3 b ((a4 b).2 (.inl hb)) hg
  · rw [b4, a4]
    constructor
    · rintro ((h | h) | h)
      · exact .inl h
      · exact .inr (.inl h)
      · exact .inr (.inr h)
    · rintro (h | h | h)
      · exact .inl (.inl h)
      · exact .inl (.inr h)
      · exact .inr h
theorem St.swap2 (h : St w0 w (A :: B :: Is)) : St w0 w (B :: A :: Is) := h.take2 (.tail .head) .head
theorem St.big : ∀ {l : List Asn} {Is : List Asn}, St w0 w (l ++ Is) → St w0 w (bigA l :: Is)
  | [], Is, h => h.add (Ex.refl w) (A := empA) (F := fun _ => False) (fun _ h => h) fun _ h => h.elim
  | A :: l, Is, h => by
    have h1 : St w0 w (l ++ (A :: Is)) := h.arr (arr_perm (List.perm_middle (a := A) (l₁ := l) (l₂ := Is)).symm)
    exact (St.big h1).swap2.fuse
theorem St.unbig : ∀ {l : List Asn} {Is : List Asn}, St w0 w (bigA l :: Is) → St w0 w (l ++ Is)
  | [], Is, h => h.arr (arr_drop _ _)
  | A :: l, Is, h => by
    have h1 := (St.unfuse h).swap2
    have h2 : St w0 w (l ++ (A :: Is)) := St.unbig h1
    exact h2.arr (arr_perm (List.perm_middle (a := A) (l₁ := l) (l₂ := Is)))
end

inductive PlanF where
  | done
  | land (i : Nat) (p : PlanF)
  | early (i : Nat) (p : PlanF)
  | pure (i : Nat) (p : PlanF)
  | forced (i b : Nat) (p : PlanF)
  | fork (i b : Nat) (p : PlanF) (j c : Nat) (q : PlanF)
def PlanF.len : PlanF → Nat
  | .done => 0
  | .land _ p => p.len
  | .early _ p => p.len + 1
  | .pure _ p => p.len + 1
  | .forced _ _ p => p.len + 1
  | .fork _ _ p _ _ q => if p.len == q.len then p.len + 1 else 0
def PlanF.fits : PlanF → Bool
  | .done => true
  | .land _ p => p.fits
  | .early _ p => p.fits
  | .pure _ p => p.fits
  | .forced _ _ p => p.fits
  | .fork _ _ p _ _ q => p.len == q.len && p.fits && q.fits
section
variable {P : Program} {ops : Array Oper} {Q : Exit → Act → World → Prop} {w0 : World} {L0 : List Asn}
def SS (w0 : World) (L0 : List Asn) : World → Prop := fun w' => ∃ s : StW w0 L0, w' = s.1
def OneF (P : Program) (ops : Array Oper) (w0 : World) (L0 : List Asn) (Q : Exit → Act → World → Prop) (i b : Nat) (R : Act → List Asn → Prop) (a : Act) (L : List Asn) : Prop := match ops[i]? with
  | none => False
  | some o => if Region.wanted o (yielded ops a.tmps) then
      ∀ (w : World) (F : Asn), St w0 w (F :: L) → o.wp P a w (fun a' w' => (b = 1 → SS w0 L0 w') ∧ ∃ L', St w0 w' (F :: L') ∧ R a' L') Q
    else R (a.put o.dst undef) L
def wpF (P : Program) (ops : Array Oper) (w0 : World) (L0 : List Asn) (Q : Exit → Act → World → Prop) : PlanF → Act → List Asn → Prop
  | .done, a, L => ∀ w, St w0 w L → Q .normal a w
  | .land i p, a, L => match ops[i]? with
    | none => False
    | some o => ∀ T cs, o.op = .alloc T → zeroCells' P T = some cs → ∀ b, wpF P ops w0 L0 Q p (a.put o.dst (.pointer (some ⟨b, 0, none⟩))) (rowA b cs T :: L)
  | .early i p, a, L => match ops[i]? with
    | none => False
    | some o => if Region.wanted o (yielded ops a.tmps) then o.quiet P a (SS w0 L0) (fun a' => wpF P ops w0 L0 Q p a' L) else wpF P ops w0 L0 Q p (a.put o.dst undef) L
  | .pure i p, a, L => match ops[i]? with
    | none => False
    | some o => if Region.wanted o (yielded ops a.tmps) then o.quiet P a (fun _ => True) (fun a' => wpF P ops w0 L0 Q p a' L) else wpF P ops w0 L0 Q p (a.put o.dst undef) L
  | .forced i b p, a, L => OneF P ops w0 L0 Q i b (wpF P ops w0 L0 Q p) a L
  | .fork i b p j c q, a, L => OneF P ops w0 L0 Q i b (wpF P ops w0 L0 Q p) a L ∧ OneF P ops w0 L0 Q j c (wpF P ops w0 L0 Q q) a L
/-- The floating allocations fs, those marked with a block done. -/
def dstF (ops : Array Oper) (i : Nat) : Option Tmp := (ops[i]?).bind (·.dst)
def typF (ops : Array Oper) (i : Nat) : TypeId := match (ops[i]?).map (·.op) with
  | some (Op.alloc T) => T
  | _ => 0
def rowF (P : Program) (ops : Array Oper) (i b : Nat) : Asn := rowA b ((zeroCells' P (typF ops i)).getD []) (typF ops i)
def putD (ops : Array Oper) : List Nat → List (Option Nat) → Act → Act
  | i :: fs, some b :: D, a => putD ops fs D (a.put (dstF ops i) (.pointer (some ⟨b, 0, none⟩)))
  | _ :: fs, none :: D, a => putD ops fs D a
  | _, _, a => a
def listD : List Nat → List (Option Nat) → Array Bool → Array Bool
  | i :: fs, some _ :: D, l => listD fs D (l.setIfInBounds i true)
  | _ :: fs, none :: D, l => listD fs D l
  | _, _, l => l
def rowsD (P : Program) (ops : Array Oper) : List Nat → List (Option Nat) → List Asn
  | i :: fs, some b :: D => rowF P ops i b :: rowsD P ops fs D
  | _ :: fs, none :: D => rowsD P ops fs D
  | _, _ => []
def open_ (D : List (Option Nat)) : Nat := (D.filter (·.isNone)).length
def listAll (fs : List Nat) (l : Array Bool) : Array Bool := fs.foldl (fun l i => l.setIfInBounds i true) l
def floatB (ops : Array Oper) (i : Nat) : Bool := match ops[i]? with
  | none => false
  | some o => (match o.op with | .alloc _ => true | _ => false) && o.guard.isNone && o.after.all (fun e => !Region.binds .any e)
def zeroB (P : Program) (ops : Array Oper) (i : Nat) : Bool := match ops[i]? with
  | none => false
  | some o => match o.op with
    | .alloc T => (zeroCells' P T).isSome
    | _ => false
def awayB (ops : Array Oper) (fs : List Nat) (i : Nat) : Bool := fs.all fun f => match ops[f]?, ops[i]? with
  | some x, some y => x.apart ops y
  | _, _ => false
def planFF (ops : Array Oper) (es : List Nat) : Bool → PlanF → List Nat → Array Bool → Bool
  | _, .done, fs, listed => fs.isEmpty && (Region.ready .any ops listed).isEmpty
  | s, .land i p, fs, listed => match fs with
    | [] => false
    | f :: fs => f == i && Region.ready .any ops (listAll fs listed) == [i] && planFF ops es s p fs (listed.setIfInBounds i true)
  | s, .early i p, fs, listed => s && es.contains i && (Region.ready .any ops listed).contains i && Region.free .any ops listed i && ((ops[i]?).map (·.op.plainB)).getD false && awayB ops fs i && !fs.contains i && planFF ops es s p fs (listed.setIfInBounds i true)
  | s, .pure i p, fs, listed => !needsT ops es i && (Region.ready .any ops listed).contains i && Region.free .any ops listed i && ((ops[i]?).map (·.op.plainB)).getD false && awayB ops fs i && !fs.contains i && planFF ops es s p fs (listed.setIfInBounds i true)
  | s, .forced i b p, fs, listed => (fs.isEmpty || b == 1) && okOne ops es s i b && (Region.ready .any ops listed).contains i && Region.ready .any ops (listAll fs listed) == [i] && awayB ops fs i && !fs.contains i && planFF ops es (after1 s b) p fs (listed.setIfInBounds i true)
  | s, .fork i b p j c q, fs, listed => (fs.isEmpty || (b == 1 && c == 1)) && okOne ops es s i b && okOne ops es s j c && (Region.ready .any ops listed).contains i && (Region.ready .any ops listed).contains j && Region.ready .any ops (listAll fs listed) == [i, j] && awayB ops fs i && !fs.contains i && awayB ops fs j && !fs.contains j && planFF ops es (after1 s b) p fs (listed.setIfInBounds i true) && planFF ops es (after1 s c) q fs (listed.setIfInBounds j true)
def PlanF.earlies : PlanF → List Nat
  | .done => []
  | .land _ p => p.earlies
  | .early i p => i :: p.earlies
  | .pure _ p => p.earlies
  | .forced _ _ p => p.earlies
  | .fork _ _ p _ _ q => p.earlies ++ q.earlies
def floatsB (ops : Array Oper) : List Nat → Bool
  | [] => true
  | i :: fs => floatB ops i && awayB ops fs i && !fs.contains i && floatsB ops fs
def planFB (P : Program) (ops : Array Oper) (p : PlanF) (fs : List Nat) : Bool := Region.noSelect ops && p.fits && p.len + fs.length == ops.size && floatsB ops fs && fs.all (zeroB P ops) && planFF ops p.earlies true p fs (Array.replicate ops.size false)

theorem wp_put1 {o : Oper} {a : Act} {w : World} {K : Act → World → Prop} (hs : ∀ cs b, o.op ≠ .select cs b) (hQ : ∀ c a w, ¬ Q (.panic c) a w) (d : Option Tmp) (v : Value) (h1 : ∀ t, d = some t → t ∉ o.looksAt ops) (h2 : ∀ t, d = some t → o.dst ≠ some t)
    (h : o.wp P a w K Q) : o.wp P (a.put d v) w (fun a' w' => ∃ a0, a' = a0.put d v ∧ K a0 w') Q := by
  unfold Oper.wp at *
  rw [execOp_put o hs a d v h1]
  generalize (execOp a.eval o).run P w = r at *
  cases r with
  | ok n w' =>
    cases n <;> simp only [Oper.upon] at h ⊢
    case value u => exact ⟨_, Act.put_comm a v u h2, h⟩
    case skip => exact ⟨_, Act.put_comm a v undef h2, h⟩
    case defer e =>
      refine ⟨_, ?_, h⟩
      rw [Act.put_defers, Act.put_comm _ v undef h2]
    case enter f args =>
      refine Calls.mono h fun e w'' he => ?_
      cases e with
      | returned u => exact ⟨_, Act.put_comm a v u h2, he⟩
      | panicked c => exact (hQ _ _ _ he).elim
      | outgrown => exact he
    case row row args => exact Rows.mono h fun u w'' he => ⟨_, Act.put_comm a v u h2, he⟩
  | halt x w' =>
    cases x <;> simp only [Oper.upon] at h ⊢
    case panic u => exact (hQ _ _ _ h).elim
theorem awayB_cons {i f : Nat} {fs : List Nat} (h : awayB ops (f :: fs) i = true) : (∃ x y, ops[f]? = some x ∧ ops[i]? = some y ∧ x.apart ops y = true) ∧ awayB ops fs i = true := by
  simp only [awayB, List.all_cons, Bool.and_eq_true] at h
  refine ⟨?_, h.2⟩
  have h1 := h.1
  cases hx : ops[f]? with
  | none => rw [hx] at h1; simp at h1
  | some x => cases hy : ops[i]? with
    | none => rw [hx, hy] at h1; simp at h1
    | some y => rw [hx, hy] at h1; exact ⟨x, y, rfl, rfl, h1⟩
theorem wp_putD {o : Oper} {i : Nat} (ho : ops[i]? = some o) (hs : ∀ cs b, o.op ≠ .select cs b) (hQ : ∀ c a w, ¬ Q (.panic c) a w) : ∀ (fs : List Nat) (D : List (Option Nat)) {a : Act} {w : World} {K : Act → World → Prop}, awayB ops fs i = true →
    o.wp P a w K Q → o.wp P (putD ops fs D a) w (fun a' w' => ∃ a0, a' = putD ops fs D a0 ∧ K a0 w') Q
  | [], D, a, w, K, _, h => by
    have e : ∀ a, putD ops [] D a = a := fun a => by cases D <;> rfl
    rw [e]
    exact Oper.wp_mono (fun a' w' hh => ⟨a', (e _).symm, hh⟩) h
  | f :: fs, [], a, w, K, _, h => Oper.wp_mono (fun a' w' hh => ⟨a', rfl, hh⟩) h
  | f :: fs, none :: D, a, w, K, ha, h => wp_putD ho hs hQ fs D (awayB_cons ha).2 h
  | f :: fs, some b :: D, a, w, K, ha, h => by
    obtain ⟨⟨x, y, hx, hy, hap⟩, ha2⟩ := awayB_cons ha
    rw [ho] at hy
    obtain rfl := Option.some.inj hy
    obtain ⟨h1, h2, _⟩ := Oper.apart_spec hap
    have hd : dstF ops f = x.dst := by simp [dstF, hx]
    refine Oper.wp_mono (fun a' w' hh => ?_) (wp_putD ho hs hQ fs D ha2 (wp_put1 (ops := ops) hs hQ (dstF ops f) (.pointer (some ⟨b, 0, none⟩)) (by rw [hd]; exact h1) (by rw [hd]; exact h2) h))
    obtain ⟨a0, e, a1, e1, hk⟩ := hh
    exact ⟨a1, by rw [e, e1]; rfl, hk⟩
theorem exec_putD {o : Oper} {i : Nat} (ho : ops[i]? = some o) (hs : ∀ cs b, o.op ≠ .select cs b) : ∀ (fs : List Nat) (D : List (Option Nat)) (a : Act), awayB ops fs i = true →
    execOp (putD ops fs D a).eval o = execOp a.eval o ∧ Region.wanted o (yielded ops (putD ops fs D a).tmps) = Region.wanted o (yielded ops a.tmps) ∧ ∀ v, putD ops fs D (a.put o.dst v) = (putD ops fs D a).put o.dst v
  | [], D, a, _ => by
    have e : ∀ a, putD ops [] D a = a := fun a => by cases D <;> rfl
    exact ⟨by rw [e], by rw [e], fun v => by rw [e, e]⟩
  | f :: fs, [], a, _ => ⟨rfl, rfl, fun _ => rfl⟩
  | f :: fs, none :: D, a, ha => exec_putD ho hs fs D a (awayB_cons ha).2
  | f :: fs, some b :: D, a, ha => by
    obtain ⟨⟨x, y, hx, hy, hap⟩, ha2⟩ := awayB_cons ha
    rw [ho] at hy
    obtain rfl := Option.some.inj hy
    obtain ⟨h1, h2, _⟩ := Oper.apart_spec hap
    have hd : dstF ops f = x.dst := by simp [dstF, hx]
    obtain ⟨e1, e2, e3⟩ := exec_putD ho hs fs D (a.put (dstF ops f) (.pointer (some ⟨b, 0, none⟩))) ha2
    refine ⟨e1.trans (execOp_put (ops := ops) o hs a _ _ (by rw [hd]; exact h1)), e2.trans (wanted_put o a _ _ (by rw [hd]; exact h1)), fun v => ?_⟩
    show putD ops fs D ((a.put o.dst v).put (dstF ops f) _) = _
    rw [Act.put_comm a v _ (fun d hd' => by rw [hd]; intro e; exact h2 d e hd')]
    exact e3 v

theorem listD_get : ∀ (fs : List Nat) (D : List (Option Nat)) (l : Array Bool) {k : Nat}, l.getD k false = true → (listD fs D l).getD k false = true
  | [], D, l, k, h => by cases D <;> exact h
  | f :: fs, [], l, k, h => h
  | f :: fs, none :: D, l, k, h => listD_get fs D l h
  | f :: fs, some b :: D, l, k, h => listD_get fs D _ (getD_set h)
theorem listD_un : ∀ (fs : List Nat) (D : List (Option Nat)) (l : Array Bool) {k : Nat}, k ∉ fs → (listD fs D l).getD k true = l.getD k true
  | [], D, l, k, _ => by cases D <;> rfl
  | f :: fs, [], l, k, _ => rfl
  | f :: fs, none :: D, l, k, h => listD_un fs D l (fun hm => h (List.mem_cons_of_mem _ hm))
  | f :: fs, some b :: D, l, k, h => by
    rw [listD, listD_un fs D _ (fun hm => h (List.mem_cons_of_mem _ hm))]
    exact getD_set_ne true (fun e => h (by rw [e]; exact List.mem_cons_self ..))
theorem listD_set {i : Nat} : ∀ (fs : List Nat) (D : List (Option Nat)) (l : Array Bool), i ∉ fs → listD fs D (l.setIfInBounds i true) = (listD fs D l).setIfInBounds i true
  | [], D, l, _ => by cases D <;> rfl
  | f :: fs, [], l, _ => rfl
  | f :: fs, none :: D, l, h => listD_set fs D l (fun hm => h (List.mem_cons_of_mem _ hm))
  | f :: fs, some b :: D, l, h => by
    show listD fs D ((l.setIfInBounds i true).setIfInBounds f true) = (listD fs D (l.setIfInBounds f true)).setIfInBounds i true
    rw [Array.setIfInBounds_comm _ _ (fun e => h (by rw [e]; exact List.mem_cons_self ..))]
    exact listD_set fs D _ (fun hm => h (List.mem_cons_of_mem _ hm))
theorem listAll_get : ∀ (fs : List Nat) (l : Array Bool) {k : Nat}, l.getD k false = true → (listAll fs l).getD k false = true
  | [], l, k, h => h
  | f :: fs, l, k, h => listAll_get fs _ (getD_set h)
theorem listAll_un : ∀ (fs : List Nat) (l : Array Bool) {k : Nat}, k ∉ fs → (listAll fs l).getD k true = l.getD k true
  | [], l, k, _ => rfl
  | f :: fs, l, k, h => by
    rw [listAll, List.foldl_cons]
    exact (listAll_un fs _ (fun hm => h (List.mem_cons_of_mem _ hm))).trans (getD_set_ne true (fun e => h (by rw [e]; exact List.mem_cons_self ..)))
theorem listD_sub : ∀ (fs : List Nat) (D : List (Option Nat)) (l : Array Bool) {k : Nat}, (listD fs D l).getD k false = true → (listAll fs l).getD k false = true
  | [], D, l, k, h => by cases D <;> exact h
  | f :: fs, [], l, k, h => listAll_get (f :: fs) l h
  | f :: fs, none :: D, l, k, h => by
    have h1 := listD_sub fs D l h
    show (listAll fs (l.setIfInBounds f true)).getD k false = true
    have key : ∀ (fs : List Nat) (l l' : Array Bool), (∀ k, l.getD k false = true → l'.getD k false = true) → l.size = l'.size → ∀ k, (listAll fs l).getD k false = true → (listAll fs l').getD k false = true := by
      intro fs
      induction fs with
      | nil => intro l l' h _; exact h
      | cons g fs ih =>
        intro l l' h hs
        refine ih _ _ (fun k hk => ?_) (by simpa using hs)
        simp only [Array.getD_eq_getD_getElem?, Array.getElem?_setIfInBounds] at hk ⊢
        split
        · rename_i e
          rw [if_pos e] at hk
          split
          · rfl
          · rename_i hlt; rw [if_neg (by rw [hs]; exact hlt)] at hk; exact hk
        · rename_i e
          rw [if_neg e] at hk
          have := h k
          simp only [Array.getD_eq_getD_getElem?] at this
          exact this hk
    exact key fs _ _ (fun k hk => getD_set hk) (by simp) _ h1
  | f :: fs, some b :: D, l, k, h => listD_sub fs D _ h

theorem set_true (l : Array Bool) (j : Nat) : (l.setIfInBounds j true).getD j true = true := by
  simp only [Array.getD_eq_getD_getElem?, Array.getElem?_setIfInBounds, if_true]
  split <;> rfl
theorem setD {j : Nat} {oj : Oper} (hj : ops[j]? = some oj) (hsj : ∀ cs b, oj.op ≠ .select cs b) : ∀ (fs : List Nat) (D : List (Option Nat)) (l : Array Bool), D.length = fs.length → j ∈ fs → floatsB ops fs = true → (listD fs D l).getD j true = false →
    ∃ D' : Nat → List (Option Nat), ∀ b, (D' b).length = fs.length ∧ (∀ l, listD fs (D' b) l = (listD fs D l).setIfInBounds j true) ∧ (∀ a, putD ops fs (D' b) a = (putD ops fs D a).put oj.dst (.pointer (some ⟨b, 0, none⟩))) ∧ (rowsD P ops fs (D' b)).Perm (rowF P ops j b :: rowsD P ops fs D) ∧ open_ (D' b) + 1 = open_ D
  | [], D, l, _, hm, _, _ => by cases hm
  | f :: fs, [], l, hl, _, _, _ => by simp at hl
  | f :: fs, x :: D, l, hl, hm, hf, h => by
    simp only [floatsB, Bool.and_eq_true, Bool.not_eq_true'] at hf
    obtain ⟨⟨⟨f1, f2⟩, f3⟩, f4⟩ := hf
    have hnm : f ∉ fs := fun hc => by rw [List.contains_iff_mem.2 hc] at f3; cases f3
    have hl' : D.length = fs.length := by simpa using hl
    by_cases e : f = j
    · subst e
      cases x with
      | some c =>
        rw [listD, listD_un fs D _ hnm, set_true] at h
        cases h
      | none =>
        refine ⟨fun b => some b :: D, fun b => ⟨by simp [hl'], fun l => ?_, fun a => ?_, List.Perm.refl _, by simp [open_]⟩⟩
        · exact listD_set fs D l hnm
        · refine Eq.trans ?_ ((exec_putD hj hsj fs D a f2).2.2 (.pointer (some ⟨b, 0, none⟩)))
          show putD ops fs D (a.put (dstF ops f) _) = _
          simp [dstF, hj]
    · have hm' : j ∈ fs := by
        rcases List.mem_cons.1 hm with h1 | h1
        · exact absurd h1.symm e
        · exact h1
      cases x with
      | none =>
        obtain ⟨D', hD⟩ := setD hj hsj fs D l hl' hm' f4 h
        refine ⟨fun b => none :: D' b, fun b => ?_⟩
        obtain ⟨d1, d2, d3, d4, d5⟩ := hD b
        exact ⟨by simp [d1], fun l => d2 l, fun a => d3 a, d4, by simp only [open_, List.filter_cons, Option.isNone_none, if_true, List.length_cons] at d5 ⊢; omega⟩
      | some c =>
        obtain ⟨D', hD⟩ := setD hj hsj fs D _ hl' hm' f4 h
        refine ⟨fun b => some c :: D' b, fun b => ?_⟩
        obtain ⟨d1, d2, d3, d4, d5⟩ := hD b
        refine ⟨by simp [d1], fun l => d2 _, fun a => d3 _, ?_, by simpa [open_] using d5⟩
        exact (d4.cons (rowF P ops f c)).trans (List.Perm.swap _ _ _)
theorem floatB_spec {i : Nat} (h : floatB ops i = true) : ∃ o T, ops[i]? = some o ∧ o.op = .alloc T ∧ o.guard = none ∧ ∀ e ∈ o.after, Region.binds .any e = false := by
  unfold floatB at h
  cases ho : ops[i]? with
  | none => rw [ho] at h; cases h
  | some o =>
    rw [ho] at h
    simp only [Bool.and_eq_true, Array.all_eq_true_iff_forall_mem, Bool.not_eq_true', Option.isNone_iff_eq_none] at h
    obtain ⟨⟨h1, h2⟩, h3⟩ := h
    cases hop : o.op <;> rw [hop] at h1 <;> first | exact ⟨o, _, rfl, hop, h2, h3⟩ | cases h1
theorem floatsB_mem : ∀ {fs : List Nat}, floatsB ops fs = true → ∀ f ∈ fs, floatB ops f = true
  | [], _, f, hf => by cases hf
  | g :: fs, h, f, hf => by
    simp only [floatsB, Bool.and_eq_true] at h
    rcases List.mem_cons.1 hf with rfl | hf
    · exact h.1.1.1
    · exact floatsB_mem h.2 f hf
theorem rowF_eq {i b : Nat} {o : Oper} {T : TypeId} {cs : List Value} (ho : ops[i]? = some o) (hop : o.op = .alloc T) (hz : zeroCells' P T = some cs) : rowF P ops i b = rowA b cs T := by
  simp [rowF, typF, ho, hop, hz]
theorem zeroB_spec {i : Nat} {o : Oper} {T : TypeId} (h : zeroB P ops i = true) (ho : ops[i]? = some o) (hop : o.op = .alloc T) : ∃ cs, zeroCells' P T = some cs := by
  simp only [zeroB, ho, hop] at h
  exact Option.isSome_iff_exists.1 h
/-- An allocation, where two lists of parts are known. -/
theorem wp_alloc2 {o : Oper} {a : Act} {w : World} {K : Act → World → Prop} {Is : List Asn} (T : TypeId) (ho : o.op = .alloc T) {cs : List Value} (hz : zeroCells' P T = some cs) (hs : St w0 w Is) (h0 : SS w0 L0 w)
    (h : ∀ w' b, St w0 w' (rowA b cs T :: Is) → SS w0 L0 w' → K (a.put o.dst (.pointer (some ⟨b, 0, none⟩))) w') : o.wp P a w K Q := by
  obtain ⟨i, z, h1, h2, rfl⟩ := zeroCells_some hz
  have hr : (Instr.alloc T true (.tuple #[])).run P w = .ok (.pointer (some ⟨w.heap.size, 0, none⟩)) (w.alloc (.cells z.cells T)) := by
    simp [Instr.alloc, zeroValue, typeInfo, h1, h2, newVar, newRow]
  unfold Oper.wp execOp
  simp only [ho, Sem.run_bind, hr, Result.andThen_ok, Sem.run_pure]
  obtain ⟨⟨w1, s1⟩, e⟩ := h0
  have s1' : St w0 w L0 := e ▸ s1
  exact h _ _ (hs.alloc z.cells T) (StW.mk' (s1'.grow ((Ex.refl w).alloc _)))
section
variable {es : List Nat}
theorem float_step {n : Nat} {fs : List Nat} {D : List (Option Nat)} {listed : Array Bool} {a : Act} {w : World} {L : List Asn} {j : Nat} (hs : Region.noSelect ops = true) (hf : floatsB ops fs = true) (hz : fs.all (zeroB P ops) = true) (hl : D.length = fs.length)
    (hj : j ∈ fs) (hun : (listD fs D listed).getD j true = false) (hS : SS w0 L0 w) (hst : St w0 w (rowsD P ops fs D ++ L))
    (ih : ∀ D' w', D'.length = fs.length → open_ D' + 1 = open_ D → SS w0 L0 w' → St w0 w' (rowsD P ops fs D' ++ L) → wpAnyT P ops Q (SS w0 L0) es n (listD fs D' listed) (putD ops fs D' a) w') :
    wpOp P ops Q j (fun a' w' => (needsT ops es j = true → SS w0 L0 w') ∧ wpAnyT P ops Q (SS w0 L0) es n ((listD fs D listed).setIfInBounds j true) a' w') (putD ops fs D a) w := by
  obtain ⟨o, T, ho, hop, hg, _⟩ := floatB_spec (floatsB_mem hf j hj)
  obtain ⟨cs, hcs⟩ := zeroB_spec (List.all_eq_true.1 hz j hj) ho hop
  obtain ⟨D', hD⟩ := setD (P := P) ho (fun cs b => by rw [hop]; intro h; cases h) fs D listed hl hj hf hun
  unfold wpOp
  rw [ho]
  simp only
  rw [if_pos (by unfold Region.wanted; rw [hg])]
  refine .inl (wp_alloc2 T hop hcs hst hS fun w' b h1 h2 => ⟨fun _ => h2, ?_⟩)
  obtain ⟨d1, d2, d3, d4, d5⟩ := hD b
  rw [← d2, ← d3]
  refine ih (D' b) w' d1 d5 h2 (h1.arr (arr_perm ?_))
  rw [← rowF_eq (P := P) (b := b) ho hop hcs]
  exact (d4.symm.append_right L)

theorem ready_all {fs : List Nat} {D : List (Option Nat)} {listed : Array Bool} {k : Nat} (hk : k ∈ Region.ready .any ops (listD fs D listed)) (hn : k ∉ fs) : k ∈ Region.ready .any ops (listAll fs listed) := by
  rw [mem_ready] at *
  obtain ⟨h0, o, ho, hall⟩ := hk
  refine ⟨?_, o, ho, fun e he hb => listD_sub fs D listed (hall e he hb)⟩
  rw [listAll_un fs listed hn]
  rwa [listD_un fs D listed hn] at h0
theorem ready_real {fs : List Nat} {D : List (Option Nat)} {listed : Array Bool} {i : Nat} (hi : i ∈ Region.ready .any ops listed) (hn : i ∉ fs) : i ∈ Region.ready .any ops (listD fs D listed) := by
  rw [mem_ready] at *
  obtain ⟨h0, o, ho, hall⟩ := hi
  exact ⟨by rw [listD_un fs D listed hn]; exact h0, o, ho, fun e he hb => listD_get fs D listed (hall e he hb)⟩
theorem un_real {fs : List Nat} {D : List (Option Nat)} {listed : Array Bool} {k : Nat} (h : (listD fs D listed).getD k true = false) : listed.getD k true = false := by
  cases hh : listed.getD k true with
  | false => rfl
  | true =>
    have key : ∀ (fs : List Nat) (D : List (Option Nat)) (l : Array Bool), l.getD k true = true → (listD fs D l).getD k true = true := by
      intro fs
      induction fs with
      | nil => intro D l h; cases D <;> exact h
      | cons f fs ih =>
        intro D l h
        cases D with
        | nil => exact h
        | cons x D => cases x with
          | none => exact ih D l h
          | some b =>
            refine ih D _ ?_
            by_cases e : f = k
            · subst e; exact set_true l f
            · rw [getD_set_ne true e]; exact h
    rw [key fs D listed hh] at h; cases h
theorem closed_real {fs : List Nat} {D : List (Option Nat)} : ∀ {listed : Array Bool}, floatsB ops fs = true → Closed ops listed → Closed ops (listD fs D listed) := by
  induction fs generalizing D with
  | nil => intro l _ h; cases D <;> exact h
  | cons f fs ih =>
    intro l hf h
    cases D with
    | nil => exact h
    | cons x D =>
      simp only [floatsB, Bool.and_eq_true] at hf
      cases x with
      | none => exact ih hf.2 h
      | some b =>
        refine ih hf.2 ?_
        obtain ⟨o, T, ho, hop, hg, haf⟩ := floatB_spec hf.1.1.1
        intro k ok hk hl x hx hb
        by_cases e : k = f
        · subst e
          rw [ho] at hk
          obtain rfl := Option.some.inj hk
          rw [haf x hx] at hb; cases hb
        · refine getD_set (h k ok hk ?_ x hx hb)
          simp only [Array.getD_eq_getD_getElem?, Array.getElem?_setIfInBounds] at hl ⊢
          rw [if_neg (fun h => e h.symm)] at hl
          exact hl
theorem oneF_sound {n i b : Nat} {fs : List Nat} {D : List (Option Nat)} {s : Bool} {listed : Array Bool} {a : Act} {w : World} {L : List Asn} {R : Act → List Asn → Prop} (hs : Region.noSelect ops = true) (hQ : ∀ c a w, ¬ Q (.panic c) a w)
    (haw : awayB ops fs i = true) (hif : i ∉ fs) (hok : okOne ops es s i b = true) (hS : s = true → SS w0 L0 w) (hst : St w0 w (rowsD P ops fs D ++ L))
    (hR : ∀ a' w' L', (after1 s b = true → SS w0 L0 w') → St w0 w' (rowsD P ops fs D ++ L') → R a' L' → wpAnyT P ops Q (SS w0 L0) es n (listD fs D (listed.setIfInBounds i true)) (putD ops fs D a') w')
    (h : OneF P ops w0 L0 Q i b R a L) : wpOp P ops Q i (fun a' w' => (needsT ops es i = true → SS w0 L0 w') ∧ wpAnyT P ops Q (SS w0 L0) es n ((listD fs D listed).setIfInBounds i true) a' w') (putD ops fs D a) w := by
  unfold OneF at h
  cases ho : ops[i]? with
  | none => rw [ho] at h; exact h.elim
  | some o =>
    rw [ho] at h
    simp only at h
    have hso : ∀ cs b, o.op ≠ .select cs b := fun cs b => Region.noSelect_spec hs i o cs b ho
    obtain ⟨e1, e2, e3⟩ := exec_putD ho hso fs D a haw
    unfold wpOp
    rw [ho]
    simp only
    rw [e2]
    rw [← listD_set fs D listed hif]
    by_cases hw : Region.wanted o (yielded ops a.tmps) = true
    · simp only [hw, if_true] at h ⊢
      refine .inl ?_
      refine Oper.wp_mono (fun a' w' hh => ?_) (wp_putD ho hso hQ fs D haw (h w (bigA (rowsD P ops fs D)) (St.big hst)))
      obtain ⟨a0, rfl, h1, L', h2, h3⟩ := hh
      by_cases hb : b = 1
      · exact ⟨fun _ => h1 hb, hR a0 w' L' (fun _ => h1 hb) (St.unbig h2) h3⟩
      · have hn : needsT ops es i = false := by simpa [okOne, hb] using hok
        exact ⟨fun hc => (by rw [hn] at hc; cases hc), hR a0 w' L' (fun hc => by simp [after1, hb] at hc) (St.unbig h2) h3⟩
    · simp only [hw] at h ⊢
      rw [← e3]
      by_cases hb : b = 1
      · have hs' : s = true := by simpa [okOne, hb] using hok
        exact ⟨fun _ => hS hs', hR _ w L (fun _ => hS hs') hst h⟩
      · have hn : needsT ops es i = false := by simpa [okOne, hb] using hok
        exact ⟨fun hc => (by rw [hn] at hc; cases hc), hR _ w L (fun hc => by simp [after1, hb] at hc) hst h⟩

def Fine (P : Program) (ops : Array Oper) (w0 : World) (L0 : List Asn) (n : Nat) (p : PlanF) (fs : List Nat) (D : List (Option Nat)) (s : Bool) (listed : Array Bool) (es : List Nat) (w : World) (L : List Asn) : Prop :=
  Closed ops listed ∧ p.fits = true ∧ floatsB ops fs = true ∧ fs.all (zeroB P ops) = true ∧ (∀ f ∈ fs, listed.getD f true = false) ∧ D.length = fs.length ∧ (fs ≠ [] → s = true) ∧ (s = true → SS w0 L0 w) ∧ n = p.len + open_ D ∧ planFF ops es s p fs listed = true ∧ St w0 w (rowsD P ops fs D ++ L)
theorem float_ready {fs : List Nat} {listed : Array Bool} {f : Nat} (hf : floatsB ops fs = true) (hm : f ∈ fs) (hun : listed.getD f true = false) : f ∈ Region.ready .any ops listed := by
  obtain ⟨o, T, ho, _, _, haf⟩ := floatB_spec (floatsB_mem hf f hm)
  rw [mem_ready]
  exact ⟨hun, o, ho, fun e he hb => by rw [haf e he] at hb; cases hb⟩
theorem set_un {listed : Array Bool} {i f : Nat} (h : listed.getD f true = false) (hne : i ≠ f) : (listed.setIfInBounds i true).getD f true = false := by rw [getD_set_ne true hne]; exact h
theorem wpF_sound (hs : Region.noSelect ops = true) (hQ : ∀ c a w, ¬ Q (.panic c) a w) : ∀ (n : Nat) (p : PlanF) (fs : List Nat) (D : List (Option Nat)) (s : Bool) (listed : Array Bool) (a : Act) (w : World) (L : List Asn),
    Fine P ops w0 L0 n p fs D s listed es w L → wpF P ops w0 L0 Q p a L → wpAnyT P ops Q (SS w0 L0) es n (listD fs D listed) (putD ops fs D a) w := by
  intro n
  induction n with
  | zero =>
    intro p
    induction p with
    | done =>
      rintro fs D s listed a w L ⟨hcl, hfit, hfl, hz, hun, hD, hfs, hS, hn, hp, hst⟩ h
      simp only [planFF, Bool.and_eq_true, List.isEmpty_iff] at hp
      obtain ⟨rfl, hr⟩ := hp
      obtain rfl : D = [] := List.eq_nil_of_length_eq_zero hD
      exact ⟨hr, h w hst⟩
    | land i p ihp =>
      rintro fs D s listed a w L ⟨hcl, hfit, hfl, hz, hun, hD, hfs, hS, hn, hp, hst⟩ h
      cases fs with
      | nil => simp [planFF] at hp
      | cons f fs =>
        simp only [planFF, Bool.and_eq_true, beq_iff_eq] at hp
        obtain ⟨⟨rfl, hr⟩, hp⟩ := hp
        have hfl2 := hfl
        simp only [floatsB, Bool.and_eq_true, Bool.not_eq_true'] at hfl
        obtain ⟨⟨⟨f1, f2⟩, f3⟩, f4⟩ := hfl
        have hnm : f ∉ fs := fun hc => by rw [List.contains_iff_mem.2 hc] at f3; cases f3
        cases D with
        | nil => simp at hD
        | cons x D =>
          cases x with
          | none => simp [open_, PlanF.len] at hn
          | some b =>
            obtain ⟨o, T, ho, hop, hg, haf⟩ := floatB_spec f1
            simp only [List.all_cons, Bool.and_eq_true] at hz
            obtain ⟨cs, hcs⟩ := zeroB_spec hz.1 ho hop
            unfold wpF at h
            rw [ho] at h
            have h' := h T cs hop hcs b
            have := ihp fs D s (listed.setIfInBounds f true) _ w _ ⟨hcl.step (float_ready hfl2 (List.mem_cons_self ..) (hun f (List.mem_cons_self ..))), hfit, f4, hz.2, fun g hg => set_un (hun g (List.mem_cons_of_mem _ hg)) (fun e => hnm (e ▸ hg)), by simpa using hD, fun _ => hfs (by simp), hS, by simpa [open_, PlanF.len] using hn, hp, hst.arr (arr_perm (by rw [← rowF_eq (P := P) (b := b) ho hop hcs]; exact List.perm_middle.symm))⟩ h'
            simpa [listD, putD, dstF, ho] using this
    | early i p _ => rintro fs D s listed a w L ⟨_, _, _, _, _, _, _, _, hn, _, _⟩ _; simp only [PlanF.len] at hn; omega
    | pure i p _ => rintro fs D s listed a w L ⟨_, _, _, _, _, _, _, _, hn, _, _⟩ _; simp only [PlanF.len] at hn; omega
    | forced i b p _ => rintro fs D s listed a w L ⟨_, _, _, _, _, _, _, _, hn, _, _⟩ _; simp only [PlanF.len] at hn; omega
    | fork i b p j c q _ _ =>
      rintro fs D s listed a w L ⟨_, hfit, _, _, _, _, _, _, hn, _, _⟩ _
      simp only [PlanF.fits, Bool.and_eq_true] at hfit
      simp only [PlanF.len, hfit.1.1, if_true] at hn
      omega
  | succ n ih =>
    have fstep : ∀ {p : PlanF} {fs : List Nat} {D : List (Option Nat)} {s : Bool} {listed : Array Bool} {a : Act} {w : World} {L : List Asn} {j : Nat}, Fine P ops w0 L0 (n + 1) p fs D s listed es w L → wpF P ops w0 L0 Q p a L → j ∈ fs → (listD fs D listed).getD j true = false →
        wpOp P ops Q j (fun a' w' => (needsT ops es j = true → SS w0 L0 w') ∧ wpAnyT P ops Q (SS w0 L0) es n ((listD fs D listed).setIfInBounds j true) a' w') (putD ops fs D a) w := by
      rintro p fs D s listed a w L j ⟨hcl, hfit, hfl, hz, hun, hD, hfs, hS, hn, hp, hst⟩ h hj hu
      have hne : fs ≠ [] := fun e => by rw [e] at hj; cases hj
      exact float_step hs hfl hz hD hj hu (hS (hfs hne)) hst fun D' w' d1 d2 d3 d4 => ih p fs D' s listed a w' L ⟨hcl, hfit, hfl, hz, hun, d1, hfs, fun _ => d3, by omega, hp, d4⟩ h
    intro p
    induction p with
    | done =>
      rintro fs D s listed a w L ⟨hcl, hfit, hfl, hz, hun, hD, hfs, hS, hn, hp, hst⟩ h
      simp only [planFF, Bool.and_eq_true, List.isEmpty_iff] at hp
      obtain ⟨rfl, hr⟩ := hp
      obtain rfl : D = [] := List.eq_nil_of_length_eq_zero hD
      simp [open_, PlanF.len] at hn
    | land i p ihp =>
      rintro fs D s listed a w L hall h
      obtain ⟨hcl, hfit, hfl, hz, hun, hD, hfs, hS, hn, hp, hst⟩ := hall
      cases fs with
      | nil => simp [planFF] at hp
      | cons f fs =>
        have hp0 := hp
        simp only [planFF, Bool.and_eq_true, beq_iff_eq] at hp
        obtain ⟨⟨rfl, hr⟩, hp⟩ := hp
        have hfl2 := hfl
        simp only [floatsB, Bool.and_eq_true, Bool.not_eq_true'] at hfl
        obtain ⟨⟨⟨f1, f2⟩, f3⟩, f4⟩ := hfl
        have hnm : f ∉ fs := fun hc => by rw [List.contains_iff_mem.2 hc] at f3; cases f3
        cases D with
        | nil => simp at hD
        | cons x D =>
          cases x with
          | none =>
            have hfr : f ∈ Region.ready .any ops (listD (f :: fs) (none :: D) listed) := by
              refine float_ready hfl2 (List.mem_cons_self ..) ?_
              rw [listD, listD_un fs D listed hnm]
              exact hun f (List.mem_cons_self ..)
            refine ⟨fun h0 => (by rw [h0] at hfr; cases hfr), fun k hk => ?_⟩
            have hkf : k ∈ f :: fs := by
              by_cases hm : k ∈ fs
              · exact List.mem_cons_of_mem _ hm
              · have := ready_all (D := D) hk hm
                rw [hr] at this
                rw [List.mem_singleton.1 this]; exact List.mem_cons_self ..
            exact fstep ⟨hcl, hfit, hfl2, hz, hun, hD, hfs, hS, hn, hp0, hst⟩ h hkf (mem_ready.1 hk).1
          | some b =>
            obtain ⟨o, T, ho, hop, hg, haf⟩ := floatB_spec f1
            simp only [List.all_cons, Bool.and_eq_true] at hz
            obtain ⟨cs, hcs⟩ := zeroB_spec hz.1 ho hop
            unfold wpF at h
            rw [ho] at h
            have h' := h T cs hop hcs b
            have := ihp fs D s (listed.setIfInBounds f true) _ w _ ⟨hcl.step (float_ready hfl2 (List.mem_cons_self ..) (hun f (List.mem_cons_self ..))), hfit, f4, hz.2, fun g hg => set_un (hun g (List.mem_cons_of_mem _ hg)) (fun e => hnm (e ▸ hg)), by simpa using hD, fun _ => hfs (by simp), hS, by simpa [open_, PlanF.len] using hn, hp, hst.arr (arr_perm (by rw [← rowF_eq (P := P) (b := b) ho hop hcs]; exact List.perm_middle.symm))⟩ h'
            simpa [listD, putD, dstF, ho] using this
    | early i p _ =>
      rintro fs D s listed a w L hall h
      obtain ⟨hcl, hfit, hfl, hz, hun, hD, hfs, hS, hn, hp, hst⟩ := hall
      simp only [planFF, Bool.and_eq_true, Bool.not_eq_true'] at hp
      obtain ⟨⟨⟨⟨⟨⟨⟨hb, hie⟩, hr⟩, hfr⟩, hpl⟩, haw⟩, hif⟩, hp⟩ := hp
      have hif' : i ∉ fs := fun hc => by rw [List.contains_iff_mem.2 hc] at hif; cases hif
      have hr' : i ∈ Region.ready .any ops listed := by simpa using hr
      unfold wpF at h
      cases ho : ops[i]? with
      | none => rw [ho] at h; exact h.elim
      | some o =>
        rw [ho] at h hpl
        simp only [Option.map_some, Option.getD_some] at hpl
        simp only at h
        have hso : ∀ cs b, o.op ≠ .select cs b := fun cs b => Region.noSelect_spec hs i o cs b ho
        obtain ⟨e1, e2, e3⟩ := exec_putD ho hso fs D a haw
        have go : ∀ v, YieldsIf P ops (SS w0 L0) o v (putD ops fs D a) → wpF P ops w0 L0 Q p (a.put o.dst v) L → wpAnyT P ops Q (SS w0 L0) es (n + 1) (listD fs D listed) (putD ops fs D a) w := fun v hy hw => by
          refine wpAnyT_first ho (by simpa using hie) (Region.noSelect_spec hs) hQ n _ _ _ (closed_real hfl hcl) (fun j oj hj hne hu hno => Region.free_spec ho hfr j oj hj hne (un_real hu) hno) (ready_real hr' hif') hy (hS hb) ?_
          rw [← listD_set fs D listed hif', ← e3]
          exact ih p fs D s _ _ w L ⟨hcl.step hr', hfit, hfl, hz, fun g hg => set_un (hun g hg) (fun e => hif' (e ▸ hg)), hD, hfs, hS, by simp only [PlanF.len] at hn; omega, hp, hst⟩ hw
        by_cases hw : Region.wanted o (yielded ops a.tmps) = true
        · simp only [hw, if_true] at h
          obtain ⟨v, h1, h2⟩ := quiet_plain hpl h
          exact go v (.inl ⟨e2.trans hw, fun w hw => by rw [e1]; exact h1 w hw⟩) h2
        · simp only [hw] at h
          exact go undef (.inr ⟨e2.trans (by simpa using hw), rfl⟩) h
    | pure i p _ =>
      rintro fs D s listed a w L hall h
      obtain ⟨hcl, hfit, hfl, hz, hun, hD, hfs, hS, hn, hp, hst⟩ := hall
      simp only [planFF, Bool.and_eq_true, Bool.not_eq_true'] at hp
      obtain ⟨⟨⟨⟨⟨⟨hni, hr⟩, hfr⟩, hpl⟩, haw⟩, hif⟩, hp⟩ := hp
      have hif' : i ∉ fs := fun hc => by rw [List.contains_iff_mem.2 hc] at hif; cases hif
      have hr' : i ∈ Region.ready .any ops listed := by simpa using hr
      unfold wpF at h
      cases ho : ops[i]? with
      | none => rw [ho] at h; exact h.elim
      | some o =>
        rw [ho] at h hpl
        simp only [Option.map_some, Option.getD_some] at hpl
        simp only at h
        have hso : ∀ cs b, o.op ≠ .select cs b := fun cs b => Region.noSelect_spec hs i o cs b ho
        obtain ⟨e1, e2, e3⟩ := exec_putD ho hso fs D a haw
        have go : ∀ v, YieldsIf P ops (fun _ => True) o v (putD ops fs D a) → wpF P ops w0 L0 Q p (a.put o.dst v) L → wpAnyT P ops Q (SS w0 L0) es (n + 1) (listD fs D listed) (putD ops fs D a) w := fun v hy hw => by
          refine wpAnyT_firstP ho hni (Region.noSelect_spec hs) hQ n _ _ _ (fun j oj hj hne hu hno => Region.free_spec ho hfr j oj hj hne (un_real hu) hno) (ready_real hr' hif') hy ?_
          rw [← listD_set fs D listed hif', ← e3]
          exact ih p fs D s _ _ w L ⟨hcl.step hr', hfit, hfl, hz, fun g hg => set_un (hun g hg) (fun e => hif' (e ▸ hg)), hD, hfs, hS, by simp only [PlanF.len] at hn; omega, hp, hst⟩ hw
        by_cases hw : Region.wanted o (yielded ops a.tmps) = true
        · simp only [hw, if_true] at h
          obtain ⟨v, h1, h2⟩ := quiet_plain hpl h
          exact go v (.inl ⟨e2.trans hw, fun w hw => by rw [e1]; exact h1 w hw⟩) h2
        · simp only [hw] at h
          exact go undef (.inr ⟨e2.trans (by simpa using hw), rfl⟩) h
    | forced i b p _ =>
      rintro fs D s listed a w L hall h
      have hall0 := hall
      obtain ⟨hcl, hfit, hfl, hz, hun, hD, hfs, hS, hn, hp, hst⟩ := hall
      simp only [planFF, Bool.and_eq_true, Bool.not_eq_true', Bool.or_eq_true, List.isEmpty_iff, beq_iff_eq] at hp
      obtain ⟨⟨⟨⟨⟨⟨h1, hok⟩, hr⟩, hra⟩, haw⟩, hif⟩, hp⟩ := hp
      have hif' : i ∉ fs := fun hc => by rw [List.contains_iff_mem.2 hc] at hif; cases hif
      have hr' : i ∈ Region.ready .any ops listed := by simpa using hr
      refine ⟨fun h0 => (by have := ready_real (D := D) hr' hif'; rw [h0] at this; cases this), fun k hk => ?_⟩
      by_cases hkf : k ∈ fs
      · exact fstep hall0 h hkf (mem_ready.1 hk).1
      · have hki := ready_all hk hkf
        rw [hra] at hki
        obtain rfl : k = i := by simpa using hki
        unfold wpF at h
        refine oneF_sound hs hQ haw hif' hok hS hst (fun a' w' L' hs' hst' hR => ?_) h
        exact ih p fs D _ _ a' w' L' ⟨hcl.step hr', hfit, hfl, hz, fun g hg => set_un (hun g hg) (fun e => hif' (e ▸ hg)), hD, fun hne => by
          rcases h1 with h1 | h1
          · exact absurd h1 hne
          · simp [after1, h1, hfs hne], hs', by simp only [PlanF.len] at hn; omega, hp, hst'⟩ hR
    | fork i b p j c q _ _ =>
      rintro fs D s listed a w L hall h
      have hall0 := hall
      obtain ⟨hcl, hfit, hfl, hz, hun, hD, hfs, hS, hn, hp, hst⟩ := hall
      simp only [planFF, Bool.and_eq_true, Bool.not_eq_true', Bool.or_eq_true, List.isEmpty_iff, beq_iff_eq] at hp
      obtain ⟨⟨⟨⟨⟨⟨⟨⟨⟨⟨⟨h1, hok⟩, hok2⟩, hr⟩, hr2⟩, hra⟩, haw⟩, hif⟩, haw2⟩, hif2⟩, hp⟩, hp2⟩ := hp
      have hif' : i ∉ fs := fun hc => by rw [List.contains_iff_mem.2 hc] at hif; cases hif
      have hr' : i ∈ Region.ready .any ops listed := by simpa using hr
      have hif2' : j ∉ fs := fun hc => by rw [List.contains_iff_mem.2 hc] at hif2; cases hif2
      have hr2' : j ∈ Region.ready .any ops listed := by simpa using hr2
      simp only [PlanF.fits, Bool.and_eq_true] at hfit
      obtain ⟨⟨hl, hf1⟩, hf2⟩ := hfit
      simp only [PlanF.len, hl, if_true] at hn
      simp only [beq_iff_eq] at hl
      refine ⟨fun h0 => (by have := ready_real (D := D) hr' hif'; rw [h0] at this; cases this), fun k hk => ?_⟩
      by_cases hkf : k ∈ fs
      · exact fstep hall0 h hkf (mem_ready.1 hk).1
      · have hki := ready_all hk hkf
        rw [hra] at hki
        unfold wpF at h
        have hki' : k = i ∨ k = j := by simpa using hki
        rcases hki' with rfl | rfl
        · refine oneF_sound hs hQ haw hif' hok hS hst (fun a' w' L' hs' hst' hR => ?_) h.1
          exact ih p fs D _ _ a' w' L' ⟨hcl.step hr', hf1, hfl, hz, fun g hg => set_un (hun g hg) (fun e => hif' (e ▸ hg)), hD, fun hne => by
            rcases h1 with h1 | h1
            · exact absurd h1 hne
            · simp [after1, h1.1, hfs hne], hs', by omega, hp, hst'⟩ hR
        · refine oneF_sound hs hQ haw2 hif2' hok2 hS hst (fun a' w' L' hs' hst' hR => ?_) h.2
          exact ih q fs D _ _ a' w' L' ⟨hcl.step hr2', hf2, hfl, hz, fun g hg => set_un (hun g hg) (fun e => hif2' (e ▸ hg)), hD, fun hne => by
            rcases h1 with h1 | h1
            · exact absurd h1 hne
            · simp [after1, h1.2, hfs hne], hs', by omega, hp2, hst'⟩ hR
end
end
section
variable {P : Program} {l : List Oper} {Q : Exit → Act → World → Prop} {w0 w : World} {L0 L : List Asn} {a : Act}
theorem wp_region_fl {id : Nat} (hs : St w0 w L) (hk : Arr L L0) (p : PlanF) (fs : List Nat) (hm : P.follows .mixedOrders = true) (hB : planFB P l.toArray p fs = true)
    (h : Nonempty (StW w0 L0) → wpF P l.toArray w0 L0 (NoPanic Q) p a L) : (Code.region id l.toArray true).wp P Q a w := by
  simp only [planFB, Bool.and_eq_true, beq_iff_eq] at hB
  obtain ⟨⟨⟨⟨⟨h1, h2⟩, h3⟩, h4⟩, h5⟩, h6⟩ := hB
  refine wp_region_noPanic (wp_region_any hm ?_)
  have hrep : ∀ k, (Array.replicate l.toArray.size false).getD k false = false := fun k => by
    simp only [Array.getD_eq_getD_getElem?, Array.getElem?_replicate]
    split <;> rfl
  have hc0 : Closed l.toArray (Array.replicate l.toArray.size false) := fun k o _ hl => by rw [hrep k] at hl; cases hl
  have hnone : ∀ (n : Nat) (fs : List Nat) (x : Array Bool), listD fs (List.replicate n none) x = x := by
    intro n fs
    induction fs generalizing n with
    | nil => intro x; cases n <;> rfl
    | cons f fs ih => intro x; cases n with
      | zero => rfl
      | succ n => exact ih n x
  have hnone2 : ∀ (n : Nat) (fs : List Nat) (x : Act), putD l.toArray fs (List.replicate n none) x = x := by
    intro n fs
    induction fs generalizing n with
    | nil => intro x; cases n <;> rfl
    | cons f fs ih => intro x; cases n with
      | zero => rfl
      | succ n => exact ih n x
  have hnone3 : ∀ (n : Nat) (fs : List Nat), rowsD P l.toArray fs (List.replicate n none) = [] := by
    intro n fs
    induction fs generalizing n with
    | nil => cases n <;> rfl
    | cons f fs ih => cases n with
      | zero => rfl
      | succ n => exact ih n
  have hop : open_ (List.replicate fs.length none) = fs.length := by simp [open_]
  have hsz : ∀ f ∈ fs, (Array.replicate l.toArray.size false).getD f true = false := fun f hf => by
    obtain ⟨o, _, ho, _⟩ := floatB_spec (floatsB_mem h4 f hf)
    have := (Array.getElem?_eq_some_iff.1 ho).1
    simp only [Array.getD_eq_getD_getElem?, Array.getElem?_replicate, if_pos this]; rfl
  have := wpF_sound (P := P) (Q := NoPanic Q) (w0 := w0) (L0 := L0) (es := p.earlies) h1 (fun _ _ _ h => h) l.toArray.size p fs (List.replicate fs.length none) true (Array.replicate l.toArray.size false) a w.drew L
    ⟨hc0, h2, h4, h5, hsz, by simp, fun _ => rfl, fun _ => StW.mk' (hs.drew.arr hk), by rw [hop]; omega, h6, by rw [hnone3]; exact hs.drew⟩ (h ⟨⟨w, hs.arr hk⟩⟩)
  rw [hnone, hnone2] at this
  exact wpAny_of_T _ _ _ _ this
theorem wpF_done (h : ∀ w, St w0 w L → Q .normal a w) : wpF P l.toArray w0 L0 (NoPanic Q) .done a L := h
theorem wpF_land {i : Nat} {p : PlanF} {o : Oper} (ho : getL l i = some o) {T : TypeId} (hop : o.op = .alloc T) {cs : List Value} (hz : zeroCells' P T = some cs)
    (h : ∀ b, wpF P l.toArray w0 L0 (NoPanic Q) p (a.put o.dst (.pointer (some ⟨b, 0, none⟩))) (rowA b cs T :: L)) : wpF P l.toArray w0 L0 (NoPanic Q) (.land i p) a L := by
  rw [getL_eq] at ho; unfold wpF; rw [ho]
  intro T' cs' h1 h2 b
  rw [hop] at h1
  injection h1 with h1
  subst h1
  rw [hz] at h2
  obtain rfl := Option.some.inj h2
  exact h b
theorem wpF_skipE {i : Nat} {p : PlanF} {o : Oper} (ho : getL l i = some o) (hw : Region.wanted o (yielded l.toArray a.tmps) = false)
    (h : wpF P l.toArray w0 L0 (NoPanic Q) p (a.put o.dst undef) L) : wpF P l.toArray w0 L0 (NoPanic Q) (.early i p) a L := by
  rw [getL_eq] at ho; unfold wpF; rw [ho]; simp only [hw]; exact h
theorem wpF_early {i : Nat} {p : PlanF} {o : Oper} (ho : getL l i = some o) (hw : Region.wanted o (yielded l.toArray a.tmps) = true)
    (h : ∀ K : Act → Prop, (∀ a, wpF P l.toArray w0 L0 (NoPanic Q) p a L → K a) → o.quiet P a (fun w' => ∃ s : StW w0 L0, w' = s.1) K) : wpF P l.toArray w0 L0 (NoPanic Q) (.early i p) a L := by
  rw [getL_eq] at ho; unfold wpF; rw [ho]; simp only [hw, if_true]; exact h _ (fun _ h => h)
theorem wpF_skipP {i : Nat} {p : PlanF} {o : Oper} (ho : getL l i = some o) (hw : Region.wanted o (yielded l.toArray a.tmps) = false)
    (h : wpF P l.toArray w0 L0 (NoPanic Q) p (a.put o.dst undef) L) : wpF P l.toArray w0 L0 (NoPanic Q) (.pure i p) a L := by
  rw [getL_eq] at ho; unfold wpF; rw [ho]; simp only [hw]; exact h
theorem wpF_pure {i : Nat} {p : PlanF} {o : Oper} (ho : getL l i = some o) (hw : Region.wanted o (yielded l.toArray a.tmps) = true)
    (h : ∀ K : Act → Prop, (∀ a, wpF P l.toArray w0 L0 (NoPanic Q) p a L → K a) → o.quiet P a (fun _ => True) K) : wpF P l.toArray w0 L0 (NoPanic Q) (.pure i p) a L := by
  rw [getL_eq] at ho; unfold wpF; rw [ho]; simp only [hw, if_true]; exact h _ (fun _ h => h)
theorem wpF_forced {i b : Nat} {p : PlanF} (h : OneF P l.toArray w0 L0 (NoPanic Q) i b (wpF P l.toArray w0 L0 (NoPanic Q) p) a L) : wpF P l.toArray w0 L0 (NoPanic Q) (.forced i b p) a L := h
theorem wpF_fork {i b j c : Nat} {p q : PlanF} (h1 : OneF P l.toArray w0 L0 (NoPanic Q) i b (wpF P l.toArray w0 L0 (NoPanic Q) p) a L) (h2 : OneF P l.toArray w0 L0 (NoPanic Q) j c (wpF P l.toArray w0 L0 (NoPanic Q) q) a L) : wpF P l.toArray w0 L0 (NoPanic Q) (.fork i b p j c q) a L := ⟨h1, h2⟩
theorem oneF_skip {i b : Nat} {R : Act → List Asn → Prop} {o : Oper} (ho : getL l i = some o) (hw : Region.wanted o (yielded l.toArray a.tmps) = false) (h : R (a.put o.dst undef) L) : OneF P l.toArray w0 L0 (NoPanic Q) i b R a L := by
  rw [getL_eq] at ho; unfold OneF; rw [ho]; simp only [hw]; exact h
theorem oneF_1 {i : Nat} {R : Act → List Asn → Prop} {o : Oper} (ho : getL l i = some o) (hw : Region.wanted o (yielded l.toArray a.tmps) = true)
    (h : ∀ (w : World) (F : Asn), St w0 w (F :: L) → ∀ K : Act → World → Prop, (∀ a w L', (∃ s : StW w0 L0, w = s.1) → St w0 w (F :: L') → R a L' → K a w) → o.wp P a w K (NoPanic Q)) : OneF P l.toArray w0 L0 (NoPanic Q) i 1 R a L := by
  rw [getL_eq] at ho; unfold OneF; rw [ho]; simp only [hw, if_true]
  exact fun w F hw => h w F hw _ (fun _ _ L' h1 h2 h3 => ⟨fun _ => h1, L', h2, h3⟩)
theorem oneF_2 {i : Nat} {R : Act → List Asn → Prop} {o : Oper} (ho : getL l i = some o) (hw : Region.wanted o (yielded l.toArray a.tmps) = true)
    (h : ∀ (w : World) (F : Asn), St w0 w (F :: L) → ∀ K : Act → World → Prop, (∀ a w L', St w0 w (F :: L') → R a L' → K a w) → o.wp P a w K (NoPanic Q)) : OneF P l.toArray w0 L0 (NoPanic Q) i 2 R a L := by
  rw [getL_eq] at ho; unfold OneF; rw [ho]; simp only [hw, if_true]
  exact fun w F hw => h w F hw _ (fun _ _ L' h2 h3 => ⟨fun h => (by cases h), L', h2, h3⟩)
end
attribute [irreducible] wpF OneF
end Go

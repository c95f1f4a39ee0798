/- Part 5 of what the proof of FnExactReceivePacket rests on: an idealised machine, contracts of functions, and the walk of the law. No condition. -/
import Derived.Test.YtncmlleohgeofaaGreatMFnExactReceivePacketd
section
namespace Go
open Go.RowKit
set_option linter.unusedVariables false
set_option linter.unusedSimpArgs false
def empA : Asn where
  P _ F := ∀ b, ¬ F b
  stable h _ := h
  lt h b hb := (h b hb).elim
def bigA : List Asn → Asn
  | [] => empA
  | A :: l => sepA A (bigA l)
theorem take_mid (A : Asn) (t : List Asn) : ∀ s : List Asn, Take (s ++ A :: t) A (s ++ t)
  | [] => .head
  | B :: s => .tail (take_mid A t s)
theorem arr_perm : ∀ {m l : List Asn}, l.Perm m → Arr l m
  | [], _, _ => .nil
  | A :: m, l, h => by
    obtain ⟨s, t, rfl⟩ := List.append_of_mem (h.symm.subset (List.mem_cons_self ..))
    exact .cons (take_mid A t s) (arr_perm ((List.perm_middle.symm.trans h).cons_inv))
section
variable {w0 w w' : World} {Is Js Ks : List Asn} {A B : Asn}
theorem St.unfuse (h : St w0 w (sepA A B :: Is)) : St w0 w (A :: B :: Is) := by
  obtain ⟨h1, F, ⟨F1, F2, ⟨G1, G2, a1, a2, a3, a4⟩, b2, b3, b4⟩, h6⟩ := h
  refine ⟨h1, F, ⟨G1, fun b => G2 b ∨ F2 b, a1, ⟨G2, F2, a2, b2, fun b hb hg => b3 b ((a4 b).2 (.inr hb)) hg, fun _ => Iff.rfl⟩, fun b hb hg => ?_, fun b => ?_⟩, h6⟩
  · rcases hg with hg | hg
    · exact a3 b hb hg
    · exact b3 b ((a4 b).2 (.inl hb)) hg
  · rw [b4, a4]
    constructor
    · rintro ((h | h) | h)
      · exact .inl h
      · exact .inr (.inl h)
      · exact .inr (.inr h)
    · rintro (h | h | h)
      · exact .inl (.inl h)
      · exact .inl (.inr h)
      · exact .inr h
theorem St.swap2 (h : St w0 w (A :: B :: Is)) : St w0 w (B :: A :: Is) := h.take2 (.tail .head) .head
theorem St.big : ∀ {l : List Asn} {Is : List Asn}, St w0 w (l ++ Is) → St w0 w (bigA l :: Is)
  | [], Is, h => h.add (Ex.refl w) (A := empA) (F := fun _ => False) (fun _ h => h) fun _ h => h.elim
  | A :: l, Is, h => by
    have h1 : St w0 w (l ++ (A :: Is)) := h.arr (arr_perm (List.perm_middle (a := A) (l₁ := l) (l₂ := Is)).symm)
    exact (St.big h1).swap2.fuse
theorem St.unbig : ∀ {l : List Asn} {Is : List Asn}, St w0 w (bigA l :: Is) → St w0 w (l ++ Is)
  | [], Is, h => h.arr (arr_drop _ _)
  | A :: l, Is, h => by
    have h1 := (St.unfuse h).swap2
    have h2 : St w0 w (l ++ (A :: Is)) := St.unbig h1
    exact h2.arr (arr_perm (List.perm_middle (a := A) (l₁ := l) (l₂ := Is)))
end
inductive PlanF where
  | done
  | land (i : Nat) (p : PlanF)
  | early (i : Nat) (p : PlanF)
  | pure (i : Nat) (p : PlanF)
  | forced (i b : Nat) (p : PlanF)
  | fork (i b : Nat) (p : PlanF) (j c : Nat) (q : PlanF)
def PlanF.len : PlanF → Nat
  | .done => 0
  | .land _ p => p.len
  | .early _ p => p.len + 1
  | .pure _ p => p.len + 1
  | .forced _ _ p => p.len + 1
  | .fork _ _ p _ _ q => if p.len == q.len then p.len + 1 else 0
def PlanF.fits : PlanF → Bool
  | .done => true
  | .land _ p => p.fits
  | .early _ p => p.fits
  | .pure _ p => p.fits
  | .forced _ _ p => p.fits
  | .fork _ _ p _ _ q => p.len == q.len && p.fits && q.fits
section
variable {P : Program} {ops : Array Oper} {Q : Exit → Act → World → Prop} {w0 : World} {L0 : List Asn}
def SS (w0 : World) (L0 : List Asn) : World → Prop := fun w' => ∃ s : StW w0 L0, w' = s.1
def OneF (P : Program) (ops : Array Oper) (w0 : World) (L0 : List Asn) (Q : Exit → Act → World → Prop) (i b : Nat) (R : Act → List Asn → Prop) (a : Act) (L : List Asn) : Prop := match ops[i]? with
  | none => False
  | some o => if Region.wanted o (yielded ops a.tmps) then
      ∀ (w : World) (F : Asn), St w0 w (F :: L) → o.wp P a w (fun a' w' => (b = 1 → SS w0 L0 w') ∧ ∃ L', St w0 w' (F :: L') ∧ R a' L') Q
    else R (a.put o.dst undef) L
def wpF (P : Program) (ops : Array Oper) (w0 : World) (L0 : List Asn) (Q : Exit → Act → World → Prop) : PlanF → Act → List Asn → Prop
  | .done, a, L => ∀ w, St w0 w L → Q .normal a w
  | .land i p, a, L => match ops[i]? with
    | none => False
    | some o => ∀ T cs, o.op = .alloc T → zeroCells' P T = some cs → ∀ b, wpF P ops w0 L0 Q p (a.put o.dst (.pointer (some ⟨b, 0, none⟩))) (rowA b cs T :: L)
  | .early i p, a, L => match ops[i]? with
    | none => False
    | some o => if Region.wanted o (yielded ops a.tmps) then o.quiet P a (SS w0 L0) (fun a' => wpF P ops w0 L0 Q p a' L) else wpF P ops w0 L0 Q p (a.put o.dst undef) L
  | .pure i p, a, L => match ops[i]? with
    | none => False
    | some o => if Region.wanted o (yielded ops a.tmps) then o.quiet P a (fun _ => True) (fun a' => wpF P ops w0 L0 Q p a' L) else wpF P ops w0 L0 Q p (a.put o.dst undef) L
  | .forced i b p, a, L => OneF P ops w0 L0 Q i b (wpF P ops w0 L0 Q p) a L
  | .fork i b p j c q, a, L => OneF P ops w0 L0 Q i b (wpF P ops w0 L0 Q p) a L ∧ OneF P ops w0 L0 Q j c (wpF P ops w0 L0 Q q) a L
def dstF (ops : Array Oper) (i : Nat) : Option Tmp := (ops[i]?).bind (·.dst)
def typF (ops : Array Oper) (i : Nat) : TypeId := match (ops[i]?).map (·.op) with
  | some (Op.alloc T) => T
  | _ => 0
def rowF (P : Program) (ops : Array Oper) (i b : Nat) : Asn := rowA b ((zeroCells' P (typF ops i)).getD []) (typF ops i)
def putD (ops : Array Oper) : List Nat → List (Option Nat) → Act → Act
  | i :: fs, some b :: D, a => putD ops fs D (a.put (dstF ops i) (.pointer (some ⟨b, 0, none⟩)))
  | _ :: fs, none :: D, a => putD ops fs D a
  | _, _, a => a
def listD : List Nat → List (Option Nat) → Array Bool → Array Bool
  | i :: fs, some _ :: D, l => listD fs D (l.setIfInBounds i true)
  | _ :: fs, none :: D, l => listD fs D l
  | _, _, l => l
def rowsD (P : Program) (ops : Array Oper) : List Nat → List (Option Nat) → List Asn
  | i :: fs, some b :: D => rowF P ops i b :: rowsD P ops fs D
  | _ :: fs, none :: D => rowsD P ops fs D
  | _, _ => []
def open_ (D : List (Option Nat)) : Nat := (D.filter (·.isNone)).length
def listAll (fs : List Nat) (l : Array Bool) : Array Bool := fs.foldl (fun l i => l.setIfInBounds i true) l
def floatB (ops : Array Oper) (i : Nat) : Bool := match ops[i]? with
  | none => false
  | some o => (match o.op with | .alloc _ => true | _ => false) && o.guard.isNone && o.after.all (fun e => !Region.binds .any e)
def zeroB (P : Program) (ops : Array Oper) (i : Nat) : Bool := match ops[i]? with
  | none => false
  | some o => match o.op with
    | .alloc T => (zeroCells' P T).isSome
    | _ => false
def awayB (ops : Array Oper) (fs : List Nat) (i : Nat) : Bool := fs.all fun f => match ops[f]?, ops[i]? with
  | some x, some y => x.apart ops y
  | _, _ => false
def planFF (ops : Array Oper) (es : List Nat) : Bool → PlanF → List Nat → Array Bool → Bool
  | _, .done, fs, listed => fs.isEmpty && (Region.ready .any ops listed).isEmpty
  | s, .land i p, fs, listed => match fs with
    | [] => false
    | f :: fs => f == i && Region.ready .any ops (listAll fs listed) == [i] && planFF ops es s p fs (listed.setIfInBounds i true)
  | s, .early i p, fs, listed => s && es.contains i && (Region.ready .any ops listed).contains i && Region.free .any ops listed i && ((ops[i]?).map (·.op.plainB)).getD false && awayB ops fs i && !fs.contains i && planFF ops es s p fs (listed.setIfInBounds i true)
  | s, .pure i p, fs, listed => !needsT ops es i && (Region.ready .any ops listed).contains i && Region.free .any ops listed i && ((ops[i]?).map (·.op.plainB)).getD false && awayB ops fs i && !fs.contains i && planFF ops es s p fs (listed.setIfInBounds i true)
  | s, .forced i b p, fs, listed => (fs.isEmpty || b == 1) && okOne ops es s i b && (Region.ready .any ops listed).contains i && Region.ready .any ops (listAll fs listed) == [i] && awayB ops fs i && !fs.contains i && planFF ops es (after1 s b) p fs (listed.setIfInBounds i true)
  | s, .fork i b p j c q, fs, listed => (fs.isEmpty || (b == 1 && c == 1)) && okOne ops es s i b && okOne ops es s j c && (Region.ready .any ops listed).contains i && (Region.ready .any ops listed).contains j && Region.ready .any ops (listAll fs listed) == [i, j] && awayB ops fs i && !fs.contains i && awayB ops fs j && !fs.contains j && planFF ops es (after1 s b) p fs (listed.setIfInBounds i true) && planFF ops es (after1 s c) q fs (listed.setIfInBounds j true)
def PlanF.earlies : PlanF → List Nat
  | .done => []
  | .land _ p => p.earlies
  | .early i p => i :: p.earlies
  | .pure _ p => p.earlies
  | .forced _ _ p => p.earlies
  | .fork _ _ p _ _ q => p.earlies ++ q.earlies
def floatsB (ops : Array Oper) : List Nat → Bool
  | [] => true
  | i :: fs => floatB ops i && awayB ops fs i && !fs.contains i && floatsB ops fs
def planFB (P : Program) (ops : Array Oper) (p : PlanF) (fs : List Nat) : Bool := Region.noSelect ops && p.fits && p.len + fs.length == ops.size && floatsB ops fs && fs.all (zeroB P ops) && planFF ops p.earlies true p fs (Array.replicate ops.size false)
theorem wp_put1 {o : Oper} {a : Act} {w : World} {K : Act → World → Prop} (hs : ∀ cs b, o.op ≠ .select cs b) (hQ : ∀ c a w, ¬ Q (.panic c) a w) (d : Option Tmp) (v : Value) (h1 : ∀ t, d = some t → t ∉ o.looksAt ops) (h2 : ∀ t, d = some t → o.dst ≠ some t)
    (h : o.wp P a w K Q) : o.wp P (a.put d v) w (fun a' w' => ∃ a0, a' = a0.put d v ∧ K a0 w') Q := by
  unfold Oper.wp at *
  rw [execOp_put o hs a d v h1]
  generalize (execOp a.eval o).run P w = r at *
  cases r with
  | ok n w' =>
    cases n <;> simp only [Oper.upon] at h ⊢
    case value u => exact ⟨_, Act.put_comm a v u h2, h⟩
    case skip => exact ⟨_, Act.put_comm a v undef h2, h⟩
    case defer e =>
      refine ⟨_, ?_, h⟩
      rw [Act.put_defers, Act.put_comm _ v undef h2]
    case enter f args =>
      refine Calls.mono h fun e w'' he => ?_
      cases e with
      | returned u => exact ⟨_, Act.put_comm a v u h2, he⟩
      | panicked c => exact (hQ _ _ _ he).elim
      | outgrown => exact he
    case row row args => exact Rows.mono h fun u w'' he => ⟨_, Act.put_comm a v u h2, he⟩
  | halt x w' =>
    cases x <;> simp only [Oper.upon] at h ⊢
    case panic u => exact (hQ _ _ _ h).elim
theorem awayB_cons {i f : Nat} {fs : List Nat} (h : awayB ops (f :: fs) i = true) : (∃ x y, ops[f]? = some x ∧ ops[i]? = some y ∧ x.apart ops y = true) ∧ awayB ops fs i = true := by
  simp only [awayB, List.all_cons, Bool.and_eq_true] at h
  refine ⟨?_, h.2⟩
  have h1 := h.1
  cases hx : ops[f]? with
  | none => rw [hx] at h1; simp at h1
  | some x => cases hy : ops[i]? with
    | none => rw [hx, hy] at h1; simp at h1
    | some y => rw [hx, hy] at h1; exact ⟨x, y, rfl, rfl, h1⟩
theorem wp_putD {o : Oper} {i : Nat} (ho : ops[i]? = some o) (hs : ∀ cs b, o.op ≠ .select cs b) (hQ : ∀ c a w, ¬ Q (.panic c) a w) : ∀ (fs : List Nat) (D : List (Option Nat)) {a : Act} {w : World} {K : Act → World → Prop}, awayB ops fs i = true →
    o.wp P a w K Q → o.wp P (putD ops fs D a) w (fun a' w' => ∃ a0, a' = putD ops fs D a0 ∧ K a0 w') Q
  | [], D, a, w, K, _, h => by
    have e : ∀ a, putD ops [] D a = a := fun a => by cases D <;> rfl
    rw [e]
    exact Oper.wp_mono (fun a' w' hh => ⟨a', (e _).symm, hh⟩) h
  | f :: fs, [], a, w, K, _, h => Oper.wp_mono (fun a' w' hh => ⟨a', rfl, hh⟩) h
  | f :: fs, none :: D, a, w, K, ha, h => wp_putD ho hs hQ fs D (awayB_cons ha).2 h
  | f :: fs, some b :: D, a, w, K, ha, h => by
    obtain ⟨⟨x, y, hx, hy, hap⟩, ha2⟩ := awayB_cons ha
    rw [ho] at hy
    obtain rfl := Option.some.inj hy
    obtain ⟨h1, h2, _⟩ := Oper.apart_spec hap
    have hd : dstF ops f = x.dst := by simp [dstF, hx]
    refine Oper.wp_mono (fun a' w' hh => ?_) (wp_putD ho hs hQ fs D ha2 (wp_put1 (ops := ops) hs hQ (dstF ops f) (.pointer (some ⟨b, 0, none⟩)) (by rw [hd]; exact h1) (by rw [hd]; exact h2) h))
    obtain ⟨a0, e, a1, e1, hk⟩ := hh
    exact ⟨a1, by rw [e, e1]; rfl, hk⟩
theorem exec_putD {o : Oper} {i : Nat} (ho : ops[i]? = some o) (hs : ∀ cs b, o.op ≠ .select cs b) : ∀ (fs : List Nat) (D : List (Option Nat)) (a : Act), awayB ops fs i = true →
    execOp (putD ops fs D a).eval o = execOp a.eval o ∧ Region.wanted o (yielded ops (putD ops fs D a).tmps) = Region.wanted o (yielded ops a.tmps) ∧ ∀ v, putD ops fs D (a.put o.dst v) = (putD ops fs D a).put o.dst v
  | [], D, a, _ => by
    have e : ∀ a, putD ops [] D a = a := fun a => by cases D <;> rfl
    exact ⟨by rw [e], by rw [e], fun v => by rw [e, e]⟩
  | f :: fs, [], a, _ => ⟨rfl, rfl, fun _ => rfl⟩
  | f :: fs, none :: D, a, ha => exec_putD ho hs fs D a (awayB_cons ha).2
  | f :: fs, some b :: D, a, ha => by
    obtain ⟨⟨x, y, hx, hy, hap⟩, ha2⟩ := awayB_cons ha
    rw [ho] at hy
    obtain rfl := Option.some.inj hy
    obtain ⟨h1, h2, _⟩ := Oper.apart_spec hap
    have hd : dstF ops f = x.dst := by simp [dstF, hx]
    obtain ⟨e1, e2, e3⟩ := exec_putD ho hs fs D (a.put (dstF ops f) (.pointer (some ⟨b, 0, none⟩))) ha2
    refine ⟨e1.trans (execOp_put (ops := ops) o hs a _ _ (by rw [hd]; exact h1)), e2.trans (wanted_put o a _ _ (by rw [hd]; exact h1)), fun v => ?_⟩
    show putD ops fs D ((a.put o.dst v).put (dstF ops f) _) = _
    rw [Act.put_comm a v _ (fun d hd' => by rw [hd]; intro e; exact h2 d e hd')]
    exact e3 v
theorem listD_get : ∀ (fs : List Nat) (D : List (Option Nat)) (l : Array Bool) {k : Nat}, l.getD k false = true → (listD fs D l).getD k false = true
  | [], D, l, k, h => by cases D <;> exact h
  | f :: fs, [], l, k, h => h
  | f :: fs, none :: D, l, k, h => listD_get fs D l h
  | f :: fs, some b :: D, l, k, h => listD_get fs D _ (getD_set h)
theorem listD_un : ∀ (fs : List Nat) (D : List (Option Nat)) (l : Array Bool) {k : Nat}, k ∉ fs → (listD fs D l).getD k true = l.getD k true
  | [], D, l, k, _ => by cases D <;> rfl
  | f :: fs, [], l, k, _ => rfl
  | f :: fs, none :: D, l, k, h => listD_un fs D l (fun hm => h (List.mem_cons_of_mem _ hm))
  | f :: fs, some b :: D, l, k, h => by
    rw [listD, listD_un fs D _ (fun hm => h (List.mem_cons_of_mem _ hm))]
    exact getD_set_ne true (fun e => h (by rw [e]; exact List.mem_cons_self ..))
theorem listD_set {i : Nat} : ∀ (fs : List Nat) (D : List (Option Nat)) (l : Array Bool), i ∉ fs → listD fs D (l.setIfInBounds i true) = (listD fs D l).setIfInBounds i true
  | [], D, l, _ => by cases D <;> rfl
  | f :: fs, [], l, _ => rfl
  | f :: fs, none :: D, l, h => listD_set fs D l (fun hm => h (List.mem_cons_of_mem _ hm))
  | f :: fs, some b :: D, l, h => by
    show listD fs D ((l.setIfInBounds i true).setIfInBounds f true) = (listD fs D (l.setIfInBounds f true)).setIfInBounds i true
    rw [Array.setIfInBounds_comm _ _ (fun e => h (by rw [e]; exact List.mem_cons_self ..))]
    exact listD_set fs D _ (fun hm => h (List.mem_cons_of_mem _ hm))
theorem listAll_get : ∀ (fs : List Nat) (l : Array Bool) {k : Nat}, l.getD k false = true → (listAll fs l).getD k false = true
  | [], l, k, h => h
  | f :: fs, l, k, h => listAll_get fs _ (getD_set h)
theorem listAll_un : ∀ (fs : List Nat) (l : Array Bool) {k : Nat}, k ∉ fs → (listAll fs l).getD k true = l.getD k true
  | [], l, k, _ => rfl
  | f :: fs, l, k, h => by
    rw [listAll, List.foldl_cons]
    exact (listAll_un fs _ (fun hm => h (List.mem_cons_of_mem _ hm))).trans (getD_set_ne true (fun e => h (by rw [e]; exact List.mem_cons_self ..)))
theorem listD_sub : ∀ (fs : List Nat) (D : List (Option Nat)) (l : Array Bool) {k : Nat}, (listD fs D l).getD k false = true → (listAll fs l).getD k false = true
  | [], D, l, k, h => by cases D <;> exact h
  | f :: fs, [], l, k, h => listAll_get (f :: fs) l h
  | f :: fs, none :: D, l, k, h => by
    have h1 := listD_sub fs D l h
    show (listAll fs (l.setIfInBounds f true)).getD k false = true
    have key : ∀ (fs : List Nat) (l l' : Array Bool), (∀ k, l.getD k false = true → l'.getD k false = true) → l.size = l'.size → ∀ k, (listAll fs l).getD k false = true → (listAll fs l').getD k false = true := by
      intro fs
      induction fs with
      | nil => intro l l' h _; exact h
      | cons g fs ih =>
        intro l l' h hs
        refine ih _ _ (fun k hk => ?_) (by simpa using hs)
        simp only [Array.getD_eq_getD_getElem?, Array.getElem?_setIfInBounds] at hk ⊢
        split
        · rename_i e
          rw [if_pos e] at hk
          split
          · rfl
          · rename_i hlt; rw [if_neg (by rw [hs]; exact hlt)] at hk; exact hk
        · rename_i e
          rw [if_neg e] at hk
          have := h k
          simp only [Array.getD_eq_getD_getElem?] at this
          exact this hk
    exact key fs _ _ (fun k hk => getD_set hk) (by simp) _ h1
  | f :: fs, some b :: D, l, k, h => listD_sub fs D _ h
theorem set_true (l : Array Bool) (j : Nat) : (l.setIfInBounds j true).getD j true = true := by
  simp only [Array.getD_eq_getD_getElem?, Array.getElem?_setIfInBounds, if_true]
  split <;> rfl
theorem setD {j : Nat} {oj : Oper} (hj : ops[j]? = some oj) (hsj : ∀ cs b, oj.op ≠ .select cs b) : ∀ (fs : List Nat) (D : List (Option Nat)) (l : Array Bool), D.length = fs.length → j ∈ fs → floatsB ops fs = true → (listD fs D l).getD j true = false →
    ∃ D' : Nat → List (Option Nat), ∀ b, (D' b).length = fs.length ∧ (∀ l, listD fs (D' b) l = (listD fs D l).setIfInBounds j true) ∧ (∀ a, putD ops fs (D' b) a = (putD ops fs D a).put oj.dst (.pointer (some ⟨b, 0, none⟩))) ∧ (rowsD P ops fs (D' b)).Perm (rowF P ops j b :: rowsD P ops fs D) ∧ open_ (D' b) + 1 = open_ D
  | [], D, l, _, hm, _, _ => by cases hm
  | f :: fs, [], l, hl, _, _, _ => by simp at hl
  | f :: fs, x :: D, l, hl, hm, hf, h => by
    simp only [floatsB, Bool.and_eq_true, Bool.not_eq_true'] at hf
    obtain ⟨⟨⟨f1, f2⟩, f3⟩, f4⟩ := hf
    have hnm : f ∉ fs := fun hc => by rw [List.contains_iff_mem.2 hc] at f3; cases f3
    have hl' : D.length = fs.length := by simpa using hl
    by_cases e : f = j
    · subst e
      cases x with
      | some c =>
        rw [listD, listD_un fs D _ hnm, set_true] at h
        cases h
      | none =>
        refine ⟨fun b => some b :: D, fun b => ⟨by simp [hl'], fun l => ?_, fun a => ?_, List.Perm.refl _, by simp [open_]⟩⟩
        · exact listD_set fs D l hnm
        · refine Eq.trans ?_ ((exec_putD hj hsj fs D a f2).2.2 (.pointer (some ⟨b, 0, none⟩)))
          show putD ops fs D (a.put (dstF ops f) _) = _
          simp [dstF, hj]
    · have hm' : j ∈ fs := by
        rcases List.mem_cons.1 hm with h1 | h1
        · exact absurd h1.symm e
        · exact h1
      cases x with
      | none =>
        obtain ⟨D', hD⟩ := setD hj hsj fs D l hl' hm' f4 h
        refine ⟨fun b => none :: D' b, fun b => ?_⟩
        obtain ⟨d1, d2, d3, d4, d5⟩ := hD b
        exact ⟨by simp [d1], fun l => d2 l, fun a => d3 a, d4, by simp only [open_, List.filter_cons, Option.isNone_none, if_true, List.length_cons] at d5 ⊢; omega⟩
      | some c =>
        obtain ⟨D', hD⟩ := setD hj hsj fs D _ hl' hm' f4 h
        refine ⟨fun b => some c :: D' b, fun b => ?_⟩
        obtain ⟨d1, d2, d3, d4, d5⟩ := hD b
        refine ⟨by simp [d1], fun l => d2 _, fun a => d3 _, ?_, by simpa [open_] using d5⟩
        exact (d4.cons (rowF P ops f c)).trans (List.Perm.swap _ _ _)
theorem floatB_spec {i : Nat} (h : floatB ops i = true) : ∃ o T, ops[i]? = some o ∧ o.op = .alloc T ∧ o.guard = none ∧ ∀ e ∈ o.after, Region.binds .any e = false := by
  unfold floatB at h
  cases ho : ops[i]? with
  | none => rw [ho] at h; cases h
  | some o =>
    rw [ho] at h
    simp only [Bool.and_eq_true, Array.all_eq_true_iff_forall_mem, Bool.not_eq_true', Option.isNone_iff_eq_none] at h
    obtain ⟨⟨h1, h2⟩, h3⟩ := h
    cases hop : o.op <;> rw [hop] at h1 <;> first | exact ⟨o, _, rfl, hop, h2, h3⟩ | cases h1
theorem floatsB_mem : ∀ {fs : List Nat}, floatsB ops fs = true → ∀ f ∈ fs, floatB ops f = true
  | [], _, f, hf => by cases hf
  | g :: fs, h, f, hf => by
    simp only [floatsB, Bool.and_eq_true] at h
    rcases List.mem_cons.1 hf with rfl | hf
    · exact h.1.1.1
    · exact floatsB_mem h.2 f hf
theorem rowF_eq {i b : Nat} {o : Oper} {T : TypeId} {cs : List Value} (ho : ops[i]? = some o) (hop : o.op = .alloc T) (hz : zeroCells' P T = some cs) : rowF P ops i b = rowA b cs T := by
  simp [rowF, typF, ho, hop, hz]
theorem zeroB_spec {i : Nat} {o : Oper} {T : TypeId} (h : zeroB P ops i = true) (ho : ops[i]? = some o) (hop : o.op = .alloc T) : ∃ cs, zeroCells' P T = some cs := by
  simp only [zeroB, ho, hop] at h
  exact Option.isSome_iff_exists.1 h
theorem wp_alloc2 {o : Oper} {a : Act} {w : World} {K : Act → World → Prop} {Is : List Asn} (T : TypeId) (ho : o.op = .alloc T) {cs : List Value} (hz : zeroCells' P T = some cs) (hs : St w0 w Is) (h0 : SS w0 L0 w)
    (h : ∀ w' b, St w0 w' (rowA b cs T :: Is) → SS w0 L0 w' → K (a.put o.dst (.pointer (some ⟨b, 0, none⟩))) w') : o.wp P a w K Q := by
  obtain ⟨i, z, h1, h2, rfl⟩ := zeroCells_some hz
  have hr : (Instr.alloc T true (.tuple #[])).run P w = .ok (.pointer (some ⟨w.heap.size, 0, none⟩)) (w.alloc (.cells z.cells T)) := by
    simp [Instr.alloc, zeroValue, typeInfo, h1, h2, newVar, newRow]
  unfold Oper.wp execOp
  simp only [ho, Sem.run_bind, hr, Result.andThen_ok, Sem.run_pure]
  obtain ⟨⟨w1, s1⟩, e⟩ := h0
  have s1' : St w0 w L0 := e ▸ s1
  exact h _ _ (hs.alloc z.cells T) (StW.mk' (s1'.grow ((Ex.refl w).alloc _)))
section
variable {es : List Nat}
theorem float_step {n : Nat} {fs : List Nat} {D : List (Option Nat)} {listed : Array Bool} {a : Act} {w : World} {L : List Asn} {j : Nat} (hs : Region.noSelect ops = true) (hf : floatsB ops fs = true) (hz : fs.all (zeroB P ops) = true) (hl : D.length = fs.length)
    (hj : j ∈ fs) (hun : (listD fs D listed).getD j true = false) (hS : SS w0 L0 w) (hst : St w0 w (rowsD P ops fs D ++ L))
    (ih : ∀ D' w', D'.length = fs.length → open_ D' + 1 = open_ D → SS w0 L0 w' → St w0 w' (rowsD P ops fs D' ++ L) → wpAnyT P ops Q (SS w0 L0) es n (listD fs D' listed) (putD ops fs D' a) w') :
    wpOp P ops Q j (fun a' w' => (needsT ops es j = true → SS w0 L0 w') ∧ wpAnyT P ops Q (SS w0 L0) es n ((listD fs D listed).setIfInBounds j true) a' w') (putD ops fs D a) w := by
  obtain ⟨o, T, ho, hop, hg, _⟩ := floatB_spec (floatsB_mem hf j hj)
  obtain ⟨cs, hcs⟩ := zeroB_spec (List.all_eq_true.1 hz j hj) ho hop
  obtain ⟨D', hD⟩ := setD (P := P) ho (fun cs b => by rw [hop]; intro h; cases h) fs D listed hl hj hf hun
  unfold wpOp
  rw [ho]
  simp only
  rw [if_pos (by unfold Region.wanted; rw [hg])]
  refine .inl (wp_alloc2 T hop hcs hst hS fun w' b h1 h2 => ⟨fun _ => h2, ?_⟩)
  obtain ⟨d1, d2, d3, d4, d5⟩ := hD b
  rw [← d2, ← d3]
  refine ih (D' b) w' d1 d5 h2 (h1.arr (arr_perm ?_))
  rw [← rowF_eq (P := P) (b := b) ho hop hcs]
  exact (d4.symm.append_right L)
theorem ready_all {fs : List Nat} {D : List (Option Nat)} {listed : Array Bool} {k : Nat} (hk : k ∈ Region.ready .any ops (listD fs D listed)) (hn : k ∉ fs) : k ∈ Region.ready .any ops (listAll fs listed) := by
  rw [mem_ready] at *
  obtain ⟨h0, o, ho, hall⟩ := hk
  refine ⟨?_, o, ho, fun e he hb => listD_sub fs D listed (hall e he hb)⟩
  rw [listAll_un fs listed hn]
  rwa [listD_un fs D listed hn] at h0
theorem ready_real {fs : List Nat} {D : List (Option Nat)} {listed : Array Bool} {i : Nat} (hi : i ∈ Region.ready .any ops listed) (hn : i ∉ fs) : i ∈ Region.ready .any ops (listD fs D listed) := by
  rw [mem_ready] at *
  obtain ⟨h0, o, ho, hall⟩ := hi
  exact ⟨by rw [listD_un fs D listed hn]; exact h0, o, ho, fun e he hb => listD_get fs D listed (hall e he hb)⟩
theorem un_real {fs : List Nat} {D : List (Option Nat)} {listed : Array Bool} {k : Nat} (h : (listD fs D listed).getD k true = false) : listed.getD k true = false := by
  cases hh : listed.getD k true with
  | false => rfl
  | true =>
    have key : ∀ (fs : List Nat) (D : List (Option Nat)) (l : Array Bool), l.getD k true = true → (listD fs D l).getD k true = true := by
      intro fs
      induction fs with
      | nil => intro D l h; cases D <;> exact h
      | cons f fs ih =>
        intro D l h
        cases D with
        | nil => exact h
        | cons x D => cases x with
          | none => exact ih D l h
          | some b =>
            refine ih D _ ?_
            by_cases e : f = k
            · subst e; exact set_true l f
            · rw [getD_set_ne true e]; exact h
    rw [key fs D listed hh] at h; cases h
theorem closed_real {fs : List Nat} {D : List (Option Nat)} : ∀ {listed : Array Bool}, floatsB ops fs = true → Closed ops listed → Closed ops (listD fs D listed) := by
  induction fs generalizing D with
  | nil => intro l _ h; cases D <;> exact h
  | cons f fs ih =>
    intro l hf h
    cases D with
    | nil => exact h
    | cons x D =>
      simp only [floatsB, Bool.and_eq_true] at hf
      cases x with
      | none => exact ih hf.2 h
      | some b =>
        refine ih hf.2 ?_
        obtain ⟨o, T, ho, hop, hg, haf⟩ := floatB_spec hf.1.1.1
        intro k ok hk hl x hx hb
        by_cases e : k = f
        · subst e
          rw [ho] at hk
          obtain rfl := Option.some.inj hk
          rw [haf x hx] at hb; cases hb
        · refine getD_set (h k ok hk ?_ x hx hb)
          simp only [Array.getD_eq_getD_getElem?, Array.getElem?_setIfInBounds] at hl ⊢
          rw [if_neg (fun h => e h.symm)] at hl
          exact hl
theorem oneF_sound {n i b : Nat} {fs : List Nat} {D : List (Option Nat)} {s : Bool} {listed : Array Bool} {a : Act} {w : World} {L : List Asn} {R : Act → List Asn → Prop} (hs : Region.noSelect ops = true) (hQ : ∀ c a w, ¬ Q (.panic c) a w)
    (haw : awayB ops fs i = true) (hif : i ∉ fs) (hok : okOne ops es s i b = true) (hS : s = true → SS w0 L0 w) (hst : St w0 w (rowsD P ops fs D ++ L))
    (hR : ∀ a' w' L', (after1 s b = true → SS w0 L0 w') → St w0 w' (rowsD P ops fs D ++ L') → R a' L' → wpAnyT P ops Q (SS w0 L0) es n (listD fs D (listed.setIfInBounds i true)) (putD ops fs D a') w')
    (h : OneF P ops w0 L0 Q i b R a L) : wpOp P ops Q i (fun a' w' => (needsT ops es i = true → SS w0 L0 w') ∧ wpAnyT P ops Q (SS w0 L0) es n ((listD fs D listed).setIfInBounds i true) a' w') (putD ops fs D a) w := by
  unfold OneF at h
  cases ho : ops[i]? with
  | none => rw [ho] at h; exact h.elim
  | some o =>
    rw [ho] at h
    simp only at h
    have hso : ∀ cs b, o.op ≠ .select cs b := fun cs b => Region.noSelect_spec hs i o cs b ho
    obtain ⟨e1, e2, e3⟩ := exec_putD ho hso fs D a haw
    unfold wpOp
    rw [ho]
    simp only
    rw [e2]
    rw [← listD_set fs D listed hif]
    by_cases hw : Region.wanted o (yielded ops a.tmps) = true
    · simp only [hw, if_true] at h ⊢
      refine .inl ?_
      refine Oper.wp_mono (fun a' w' hh => ?_) (wp_putD ho hso hQ fs D haw (h w (bigA (rowsD P ops fs D)) (St.big hst)))
      obtain ⟨a0, rfl, h1, L', h2, h3⟩ := hh
      by_cases hb : b = 1
      · exact ⟨fun _ => h1 hb, hR a0 w' L' (fun _ => h1 hb) (St.unbig h2) h3⟩
      · have hn : needsT ops es i = false := by simpa [okOne, hb] using hok
        exact ⟨fun hc => (by rw [hn] at hc; cases hc), hR a0 w' L' (fun hc => by simp [after1, hb] at hc) (St.unbig h2) h3⟩
    · simp only [hw] at h ⊢
      rw [← e3]
      by_cases hb : b = 1
      · have hs' : s = true := by simpa [okOne, hb] using hok
        exact ⟨fun _ => hS hs', hR _ w L (fun _ => hS hs') hst h⟩
      · have hn : needsT ops es i = false := by simpa [okOne, hb] using hok
        exact ⟨fun hc => (by rw [hn] at hc; cases hc), hR _ w L (fun hc => by simp [after1, hb] at hc) hst h⟩
def Fine (P : Program) (ops : Array Oper) (w0 : World) (L0 : List Asn) (n : Nat) (p : PlanF) (fs : List Nat) (D : List (Option Nat)) (s : Bool) (listed : Array Bool) (es : List Nat) (w : World) (L : List Asn) : Prop :=
  Closed ops listed ∧ p.fits = true ∧ floatsB ops fs = true ∧ fs.all (zeroB P ops) = true ∧ (∀ f ∈ fs, listed.getD f true = false) ∧ D.length = fs.length ∧ (fs ≠ [] → s = true) ∧ (s = true → SS w0 L0 w) ∧ n = p.len + open_ D ∧ planFF ops es s p fs listed = true ∧ St w0 w (rowsD P ops fs D ++ L)
theorem float_ready {fs : List Nat} {listed : Array Bool} {f : Nat} (hf : floatsB ops fs = true) (hm : f ∈ fs) (hun : listed.getD f true = false) : f ∈ Region.ready .any ops listed := by
  obtain ⟨o, T, ho, _, _, haf⟩ := floatB_spec (floatsB_mem hf f hm)
  rw [mem_ready]
  exact ⟨hun, o, ho, fun e he hb => by rw [haf e he] at hb; cases hb⟩
theorem set_un {listed : Array Bool} {i f : Nat} (h : listed.getD f true = false) (hne : i ≠ f) : (listed.setIfInBounds i true).getD f true = false := by rw [getD_set_ne true hne]; exact h
theorem wpF_sound (hs : Region.noSelect ops = true) (hQ : ∀ c a w, ¬ Q (.panic c) a w) : ∀ (n : Nat) (p : PlanF) (fs : List Nat) (D : List (Option Nat)) (s : Bool) (listed : Array Bool) (a : Act) (w : World) (L : List Asn),
    Fine P ops w0 L0 n p fs D s listed es w L → wpF P ops w0 L0 Q p a L → wpAnyT P ops Q (SS w0 L0) es n (listD fs D listed) (putD ops fs D a) w := by
  intro n
  induction n with
  | zero =>
    intro p
    induction p with
    | done =>
      rintro fs D s listed a w L ⟨hcl, hfit, hfl, hz, hun, hD, hfs, hS, hn, hp, hst⟩ h
      simp only [planFF, Bool.and_eq_true, List.isEmpty_iff] at hp
      obtain ⟨rfl, hr⟩ := hp
      obtain rfl : D = [] := List.eq_nil_of_length_eq_zero hD
      exact ⟨hr, h w hst⟩
    | land i p ihp =>
      rintro fs D s listed a w L ⟨hcl, hfit, hfl, hz, hun, hD, hfs, hS, hn, hp, hst⟩ h
      cases fs with
      | nil => simp [planFF] at hp
      | cons f fs =>
        simp only [planFF, Bool.and_eq_true, beq_iff_eq] at hp
        obtain ⟨⟨rfl, hr⟩, hp⟩ := hp
        have hfl2 := hfl
        simp only [floatsB, Bool.and_eq_true, Bool.not_eq_true'] at hfl
        obtain ⟨⟨⟨f1, f2⟩, f3⟩, f4⟩ := hfl
        have hnm : f ∉ fs := fun hc => by rw [List.contains_iff_mem.2 hc] at f3; cases f3
        cases D with
        | nil => simp at hD
        | cons x D =>
          cases x with
          | none => simp [open_, PlanF.len] at hn
          | some b =>
            obtain ⟨o, T, ho, hop, hg, haf⟩ := floatB_spec f1
            simp only [List.all_cons, Bool.and_eq_true] at hz
            obtain ⟨cs, hcs⟩ := zeroB_spec hz.1 ho hop
            unfold wpF at h
            rw [ho] at h
            have h' := h T cs hop hcs b
            have := ihp fs D s (listed.setIfInBounds f true) _ w _ ⟨hcl.step (float_ready hfl2 (List.mem_cons_self ..) (hun f (List.mem_cons_self ..))), hfit, f4, hz.2, fun g hg => set_un (hun g (List.mem_cons_of_mem _ hg)) (fun e => hnm (e ▸ hg)), by simpa using hD, fun _ => hfs (by simp), hS, by simpa [open_, PlanF.len] using hn, hp, hst.arr (arr_perm (by rw [← rowF_eq (P := P) (b := b) ho hop hcs]; exact List.perm_middle.symm))⟩ h'
            simpa [listD, putD, dstF, ho] using this
    | early i p _ => rintro fs D s listed a w L ⟨_, _, _, _, _, _, _, _, hn, _, _⟩ _; simp only [PlanF.len] at hn; omega
    | pure i p _ => rintro fs D s listed a w L ⟨_, _, _, _, _, _, _, _, hn, _, _⟩ _; simp only [PlanF.len] at hn; omega
    | forced i b p _ => rintro fs D s listed a w L ⟨_, _, _, _, _, _, _, _, hn, _, _⟩ _; simp only [PlanF.len] at hn; omega
    | fork i b p j c q _ _ =>
      rintro fs D s listed a w L ⟨_, hfit, _, _, _, _, _, _, hn, _, _⟩ _
      simp only [PlanF.fits, Bool.and_eq_true] at hfit
      simp only [PlanF.len, hfit.1.1, if_true] at hn
      omega
  | succ n ih =>
    have fstep : ∀ {p : PlanF} {fs : List Nat} {D : List (Option Nat)} {s : Bool} {listed : Array Bool} {a : Act} {w : World} {L : List Asn} {j : Nat}, Fine P ops w0 L0 (n + 1) p fs D s listed es w L → wpF P ops w0 L0 Q p a L → j ∈ fs → (listD fs D listed).getD j true = false →
        wpOp P ops Q j (fun a' w' => (needsT ops es j = true → SS w0 L0 w') ∧ wpAnyT P ops Q (SS w0 L0) es n ((listD fs D listed).setIfInBounds j true) a' w') (putD ops fs D a) w := by
      rintro p fs D s listed a w L j ⟨hcl, hfit, hfl, hz, hun, hD, hfs, hS, hn, hp, hst⟩ h hj hu
      have hne : fs ≠ [] := fun e => by rw [e] at hj; cases hj
      exact float_step hs hfl hz hD hj hu (hS (hfs hne)) hst fun D' w' d1 d2 d3 d4 => ih p fs D' s listed a w' L ⟨hcl, hfit, hfl, hz, hun, d1, hfs, fun _ => d3, by omega, hp, d4⟩ h
    intro p
    induction p with
    | done =>
      rintro fs D s listed a w L ⟨hcl, hfit, hfl, hz, hun, hD, hfs, hS, hn, hp, hst⟩ h
      simp only [planFF, Bool.and_eq_true, List.isEmpty_iff] at hp
      obtain ⟨rfl, hr⟩ := hp
      obtain rfl : D = [] := List.eq_nil_of_length_eq_zero hD
      simp [open_, PlanF.len] at hn
    | land i p ihp =>
      rintro fs D s listed a w L hall h
      obtain ⟨hcl, hfit, hfl, hz, hun, hD, hfs, hS, hn, hp, hst⟩ := hall
      cases fs with
      | nil => simp [planFF] at hp
      | cons f fs =>
        have hp0 := hp
        simp only [planFF, Bool.and_eq_true, beq_iff_eq] at hp
        obtain ⟨⟨rfl, hr⟩, hp⟩ := hp
        have hfl2 := hfl
        simp only [floatsB, Bool.and_eq_true, Bool.not_eq_true'] at hfl
        obtain ⟨⟨⟨f1, f2⟩, f3⟩, f4⟩ := hfl
        have hnm : f ∉ fs := fun hc => by rw [List.contains_iff_mem.2 hc] at f3; cases f3
        cases D with
        | nil => simp at hD
        | cons x D =>
          cases x with
          | none =>
            have hfr : f ∈ Region.ready .any ops (listD (f :: fs) (none :: D) listed) := by
              refine float_ready hfl2 (List.mem_cons_self ..) ?_
              rw [listD, listD_un fs D listed hnm]
              exact hun f (List.mem_cons_self ..)
            refine ⟨fun h0 => (by rw [h0] at hfr; cases hfr), fun k hk => ?_⟩
            have hkf : k ∈ f :: fs := by
              by_cases hm : k ∈ fs
              · exact List.mem_cons_of_mem _ hm
              · have := ready_all (D := D) hk hm
                rw [hr] at this
                rw [List.mem_singleton.1 this]; exact List.mem_cons_self ..
            exact fstep ⟨hcl, hfit, hfl2, hz, hun, hD, hfs, hS, hn, hp0, hst⟩ h hkf (mem_ready.1 hk).1
          | some b =>
            obtain ⟨o, T, ho, hop, hg, haf⟩ := floatB_spec f1
            simp only [List.all_cons, Bool.and_eq_true] at hz
            obtain ⟨cs, hcs⟩ := zeroB_spec hz.1 ho hop
            unfold wpF at h
            rw [ho] at h
            have h' := h T cs hop hcs b
            have := ihp fs D s (listed.setIfInBounds f true) _ w _ ⟨hcl.step (float_ready hfl2 (List.mem_cons_self ..) (hun f (List.mem_cons_self ..))), hfit, f4, hz.2, fun g hg => set_un (hun g (List.mem_cons_of_mem _ hg)) (fun e => hnm (e ▸ hg)), by simpa using hD, fun _ => hfs (by simp), hS, by simpa [open_, PlanF.len] using hn, hp, hst.arr (arr_perm (by rw [← rowF_eq (P := P) (b := b) ho hop hcs]; exact List.perm_middle.symm))⟩ h'
            simpa [listD, putD, dstF, ho] using this
    | early i p _ =>
      rintro fs D s listed a w L hall h
      obtain ⟨hcl, hfit, hfl, hz, hun, hD, hfs, hS, hn, hp, hst⟩ := hall
      simp only [planFF, Bool.and_eq_true, Bool.not_eq_true'] at hp
      obtain ⟨⟨⟨⟨⟨⟨⟨hb, hie⟩, hr⟩, hfr⟩, hpl⟩, haw⟩, hif⟩, hp⟩ := hp
      have hif' : i ∉ fs := fun hc => by rw [List.contains_iff_mem.2 hc] at hif; cases hif
      have hr' : i ∈ Region.ready .any ops listed := by simpa using hr
      unfold wpF at h
      cases ho : ops[i]? with
      | none => rw [ho] at h; exact h.elim
      | some o =>
        rw [ho] at h hpl
        simp only [Option.map_some, Option.getD_some] at hpl
        simp only at h
        have hso : ∀ cs b, o.op ≠ .select cs b := fun cs b => Region.noSelect_spec hs i o cs b ho
        obtain ⟨e1, e2, e3⟩ := exec_putD ho hso fs D a haw
        have go : ∀ v, YieldsIf P ops (SS w0 L0) o v (putD ops fs D a) → wpF P ops w0 L0 Q p (a.put o.dst v) L → wpAnyT P ops Q (SS w0 L0) es (n + 1) (listD fs D listed) (putD ops fs D a) w := fun v hy hw => by
          refine wpAnyT_first ho (by simpa using hie) (Region.noSelect_spec hs) hQ n _ _ _ (closed_real hfl hcl) (fun j oj hj hne hu hno => Region.free_spec ho hfr j oj hj hne (un_real hu) hno) (ready_real hr' hif') hy (hS hb) ?_
          rw [← listD_set fs D listed hif', ← e3]
          exact ih p fs D s _ _ w L ⟨hcl.step hr', hfit, hfl, hz, fun g hg => set_un (hun g hg) (fun e => hif' (e ▸ hg)), hD, hfs, hS, by simp only [PlanF.len] at hn; omega, hp, hst⟩ hw
        by_cases hw : Region.wanted o (yielded ops a.tmps) = true
        · simp only [hw, if_true] at h
          obtain ⟨v, h1, h2⟩ := quiet_plain hpl h
          exact go v (.inl ⟨e2.trans hw, fun w hw => by rw [e1]; exact h1 w hw⟩) h2
        · simp only [hw] at h
          exact go undef (.inr ⟨e2.trans (by simpa using hw), rfl⟩) h
    | pure i p _ =>
      rintro fs D s listed a w L hall h
      obtain ⟨hcl, hfit, hfl, hz, hun, hD, hfs, hS, hn, hp, hst⟩ := hall
      simp only [planFF, Bool.and_eq_true, Bool.not_eq_true'] at hp
      obtain ⟨⟨⟨⟨⟨⟨hni, hr⟩, hfr⟩, hpl⟩, haw⟩, hif⟩, hp⟩ := hp
      have hif' : i ∉ fs := fun hc => by rw [List.contains_iff_mem.2 hc] at hif; cases hif
      have hr' : i ∈ Region.ready .any ops listed := by simpa using hr
      unfold wpF at h
      cases ho : ops[i]? with
      | none => rw [ho] at h; exact h.elim
      | some o =>
        rw [ho] at h hpl
        simp only [Option.map_some, Option.getD_some] at hpl
        simp only at h
        have hso : ∀ cs b, o.op ≠ .select cs b := fun cs b => Region.noSelect_spec hs i o cs b ho
        obtain ⟨e1, e2, e3⟩ := exec_putD ho hso fs D a haw
        have go : ∀ v, YieldsIf P ops (fun _ => True) o v (putD ops fs D a) → wpF P ops w0 L0 Q p (a.put o.dst v) L → wpAnyT P ops Q (SS w0 L0) es (n + 1) (listD fs D listed) (putD ops fs D a) w := fun v hy hw => by
          refine wpAnyT_firstP ho hni (Region.noSelect_spec hs) hQ n _ _ _ (fun j oj hj hne hu hno => Region.free_spec ho hfr j oj hj hne (un_real hu) hno) (ready_real hr' hif') hy ?_
          rw [← listD_set fs D listed hif', ← e3]
          exact ih p fs D s _ _ w L ⟨hcl.step hr', hfit, hfl, hz, fun g hg => set_un (hun g hg) (fun e => hif' (e ▸ hg)), hD, hfs, hS, by simp only [PlanF.len] at hn; omega, hp, hst⟩ hw
        by_cases hw : Region.wanted o (yielded ops a.tmps) = true
        · simp only [hw, if_true] at h
          obtain ⟨v, h1, h2⟩ := quiet_plain hpl h
          exact go v (.inl ⟨e2.trans hw, fun w hw => by rw [e1]; exact h1 w hw⟩) h2
        · simp only [hw] at h
          exact go undef (.inr ⟨e2.trans (by simpa using hw), rfl⟩) h
    | forced i b p _ =>
      rintro fs D s listed a w L hall h
      have hall0 := hall
      obtain ⟨hcl, hfit, hfl, hz, hun, hD, hfs, hS, hn, hp, hst⟩ := hall
      simp only [planFF, Bool.and_eq_true, Bool.not_eq_true', Bool.or_eq_true, List.isEmpty_iff, beq_iff_eq] at hp
      obtain ⟨⟨⟨⟨⟨⟨h1, hok⟩, hr⟩, hra⟩, haw⟩, hif⟩, hp⟩ := hp
      have hif' : i ∉ fs := fun hc => by rw [List.contains_iff_mem.2 hc] at hif; cases hif
      have hr' : i ∈ Region.ready .any ops listed := by simpa using hr
      refine ⟨fun h0 => (by have := ready_real (D := D) hr' hif'; rw [h0] at this; cases this), fun k hk => ?_⟩
      by_cases hkf : k ∈ fs
      · exact fstep hall0 h hkf (mem_ready.1 hk).1
      · have hki := ready_all hk hkf
        rw [hra] at hki
        obtain rfl : k = i := by simpa using hki
        unfold wpF at h
        refine oneF_sound hs hQ haw hif' hok hS hst (fun a' w' L' hs' hst' hR => ?_) h
        exact ih p fs D _ _ a' w' L' ⟨hcl.step hr', hfit, hfl, hz, fun g hg => set_un (hun g hg) (fun e => hif' (e ▸ hg)), hD, fun hne => by
          rcases h1 with h1 | h1
          · exact absurd h1 hne
          · simp [after1, h1, hfs hne], hs', by simp only [PlanF.len] at hn; omega, hp, hst'⟩ hR
    | fork i b p j c q _ _ =>
      rintro fs D s listed a w L hall h
      have hall0 := hall
      obtain ⟨hcl, hfit, hfl, hz, hun, hD, hfs, hS, hn, hp, hst⟩ := hall
      simp only [planFF, Bool.and_eq_true, Bool.not_eq_true', Bool.or_eq_true, List.isEmpty_iff, beq_iff_eq] at hp
      obtain ⟨⟨⟨⟨⟨⟨⟨⟨⟨⟨⟨h1, hok⟩, hok2⟩, hr⟩, hr2⟩, hra⟩, haw⟩, hif⟩, haw2⟩, hif2⟩, hp⟩, hp2⟩ := hp
      have hif' : i ∉ fs := fun hc => by rw [List.contains_iff_mem.2 hc] at hif; cases hif
      have hr' : i ∈ Region.ready .any ops listed := by simpa using hr
      have hif2' : j ∉ fs := fun hc => by rw [List.contains_iff_mem.2 hc] at hif2; cases hif2
      have hr2' : j ∈ Region.ready .any ops listed := by simpa using hr2
      simp only [PlanF.fits, Bool.and_eq_true] at hfit
      obtain ⟨⟨hl, hf1⟩, hf2⟩ := hfit
      simp only [PlanF.len, hl, if_true] at hn
      simp only [beq_iff_eq] at hl
      refine ⟨fun h0 => (by have := ready_real (D := D) hr' hif'; rw [h0] at this; cases this), fun k hk => ?_⟩
      by_cases hkf : k ∈ fs
      · exact fstep hall0 h hkf (mem_ready.1 hk).1
      · have hki := ready_all hk hkf
        rw [hra] at hki
        unfold wpF at h
        have hki' : k = i ∨ k = j := by simpa using hki
        rcases hki' with rfl | rfl
        · refine oneF_sound hs hQ haw hif' hok hS hst (fun a' w' L' hs' hst' hR => ?_) h.1
          exact ih p fs D _ _ a' w' L' ⟨hcl.step hr', hf1, hfl, hz, fun g hg => set_un (hun g hg) (fun e => hif' (e ▸ hg)), hD, fun hne => by
            rcases h1 with h1 | h1
            · exact absurd h1 hne
            · simp [after1, h1.1, hfs hne], hs', by omega, hp, hst'⟩ hR
        · refine oneF_sound hs hQ haw2 hif2' hok2 hS hst (fun a' w' L' hs' hst' hR => ?_) h.2
          exact ih q fs D _ _ a' w' L' ⟨hcl.step hr2', hf2, hfl, hz, fun g hg => set_un (hun g hg) (fun e => hif2' (e ▸ hg)), hD, fun hne => by
            rcases h1 with h1 | h1
            · exact absurd h1 hne
            · simp [after1, h1.2, hfs hne], hs', by omega, hp2, hst'⟩ hR
end
end
section
variable {P : Program} {l : List Oper} {Q : Exit → Act → World → Prop} {w0 w : World} {L0 L : List Asn} {a : Act}
theorem wp_region_fl {id : Nat} (hs : St w0 w L) (hk : Arr L L0) (p : PlanF) (fs : List Nat) (hm : P.follows .mixedOrders = true) (hB : planFB P l.toArray p fs = true)
    (h : Nonempty (StW w0 L0) → wpF P l.toArray w0 L0 (NoPanic Q) p a L) : (Code.region id l.toArray true).wp P Q a w := by
  simp only [planFB, Bool.and_eq_true, beq_iff_eq] at hB
  obtain ⟨⟨⟨⟨⟨h1, h2⟩, h3⟩, h4⟩, h5⟩, h6⟩ := hB
  refine wp_region_noPanic (wp_region_any hm ?_)
  have hrep : ∀ k, (Array.replicate l.toArray.size false).getD k false = false := fun k => by
    simp only [Array.getD_eq_getD_getElem?, Array.getElem?_replicate]
    split <;> rfl
  have hc0 : Closed l.toArray (Array.replicate l.toArray.size false) := fun k o _ hl => by rw [hrep k] at hl; cases hl
  have hnone : ∀ (n : Nat) (fs : List Nat) (x : Array Bool), listD fs (List.replicate n none) x = x := by
    intro n fs
    induction fs generalizing n with
    | nil => intro x; cases n <;> rfl
    | cons f fs ih => intro x; cases n with
      | zero => rfl
      | succ n => exact ih n x
  have hnone2 : ∀ (n : Nat) (fs : List Nat) (x : Act), putD l.toArray fs (List.replicate n none) x = x := by
    intro n fs
    induction fs generalizing n with
    | nil => intro x; cases n <;> rfl
    | cons f fs ih => intro x; cases n with
      | zero => rfl
      | succ n => exact ih n x
  have hnone3 : ∀ (n : Nat) (fs : List Nat), rowsD P l.toArray fs (List.replicate n none) = [] := by
    intro n fs
    induction fs generalizing n with
    | nil => cases n <;> rfl
    | cons f fs ih => cases n with
      | zero => rfl
      | succ n => exact ih n
  have hop : open_ (List.replicate fs.length none) = fs.length := by simp [open_]
  have hsz : ∀ f ∈ fs, (Array.replicate l.toArray.size false).getD f true = false := fun f hf => by
    obtain ⟨o, _, ho, _⟩ := floatB_spec (floatsB_mem h4 f hf)
    have := (Array.getElem?_eq_some_iff.1 ho).1
    simp only [Array.getD_eq_getD_getElem?, Array.getElem?_replicate, if_pos this]; rfl
  have := wpF_sound (P := P) (Q := NoPanic Q) (w0 := w0) (L0 := L0) (es := p.earlies) h1 (fun _ _ _ h => h) l.toArray.size p fs (List.replicate fs.length none) true (Array.replicate l.toArray.size false) a w.drew L
    ⟨hc0, h2, h4, h5, hsz, by simp, fun _ => rfl, fun _ => StW.mk' (hs.drew.arr hk), by rw [hop]; omega, h6, by rw [hnone3]; exact hs.drew⟩ (h ⟨⟨w, hs.arr hk⟩⟩)
  rw [hnone, hnone2] at this
  exact wpAny_of_T _ _ _ _ this
theorem wpF_done (h : ∀ w, St w0 w L → Q .normal a w) : wpF P l.toArray w0 L0 (NoPanic Q) .done a L := h
theorem wpF_land {i : Nat} {p : PlanF} {o : Oper} (ho : getL l i = some o) {T : TypeId} (hop : o.op = .alloc T) {cs : List Value} (hz : zeroCells' P T = some cs)
    (h : ∀ b, wpF P l.toArray w0 L0 (NoPanic Q) p (a.put o.dst (.pointer (some ⟨b, 0, none⟩))) (rowA b cs T :: L)) : wpF P l.toArray w0 L0 (NoPanic Q) (.land i p) a L := by
  rw [getL_eq] at ho; unfold wpF; rw [ho]
  intro T' cs' h1 h2 b
  rw [hop] at h1
  injection h1 with h1
  subst h1
  rw [hz] at h2
  obtain rfl := Option.some.inj h2
  exact h b
theorem wpF_skipE {i : Nat} {p : PlanF} {o : Oper} (ho : getL l i = some o) (hw : Region.wanted o (yielded l.toArray a.tmps) = false)
    (h : wpF P l.toArray w0 L0 (NoPanic Q) p (a.put o.dst undef) L) : wpF P l.toArray w0 L0 (NoPanic Q) (.early i p) a L := by
  rw [getL_eq] at ho; unfold wpF; rw [ho]; simp only [hw]; exact h
theorem wpF_early {i : Nat} {p : PlanF} {o : Oper} (ho : getL l i = some o) (hw : Region.wanted o (yielded l.toArray a.tmps) = true)
    (h : ∀ K : Act → Prop, (∀ a, wpF P l.toArray w0 L0 (NoPanic Q) p a L → K a) → o.quiet P a (fun w' => ∃ s : StW w0 L0, w' = s.1) K) : wpF P l.toArray w0 L0 (NoPanic Q) (.early i p) a L := by
  rw [getL_eq] at ho; unfold wpF; rw [ho]; simp only [hw, if_true]; exact h _ (fun _ h => h)
theorem wpF_skipP {i : Nat} {p : PlanF} {o : Oper} (ho : getL l i = some o) (hw : Region.wanted o (yielded l.toArray a.tmps) = false)
    (h : wpF P l.toArray w0 L0 (NoPanic Q) p (a.put o.dst undef) L) : wpF P l.toArray w0 L0 (NoPanic Q) (.pure i p) a L := by
  rw [getL_eq] at ho; unfold wpF; rw [ho]; simp only [hw]; exact h
theorem wpF_pure {i : Nat} {p : PlanF} {o : Oper} (ho : getL l i = some o) (hw : Region.wanted o (yielded l.toArray a.tmps) = true)
    (h : ∀ K : Act → Prop, (∀ a, wpF P l.toArray w0 L0 (NoPanic Q) p a L → K a) → o.quiet P a (fun _ => True) K) : wpF P l.toArray w0 L0 (NoPanic Q) (.pure i p) a L := by
  rw [getL_eq] at ho; unfold wpF; rw [ho]; simp only [hw, if_true]; exact h _ (fun _ h => h)
theorem wpF_forced {i b : Nat} {p : PlanF} (h : OneF P l.toArray w0 L0 (NoPanic Q) i b (wpF P l.toArray w0 L0 (NoPanic Q) p) a L) : wpF P l.toArray w0 L0 (NoPanic Q) (.forced i b p) a L := h
theorem oneF_skip {i b : Nat} {R : Act → List Asn → Prop} {o : Oper} (ho : getL l i = some o) (hw : Region.wanted o (yielded l.toArray a.tmps) = false) (h : R (a.put o.dst undef) L) : OneF P l.toArray w0 L0 (NoPanic Q) i b R a L := by
  rw [getL_eq] at ho; unfold OneF; rw [ho]; simp only [hw]; exact h
theorem oneF_1 {i : Nat} {R : Act → List Asn → Prop} {o : Oper} (ho : getL l i = some o) (hw : Region.wanted o (yielded l.toArray a.tmps) = true)
    (h : ∀ (w : World) (F : Asn), St w0 w (F :: L) → ∀ K : Act → World → Prop, (∀ a w L', (∃ s : StW w0 L0, w = s.1) → St w0 w (F :: L') → R a L' → K a w) → o.wp P a w K (NoPanic Q)) : OneF P l.toArray w0 L0 (NoPanic Q) i 1 R a L := by
  rw [getL_eq] at ho; unfold OneF; rw [ho]; simp only [hw, if_true]
  exact fun w F hw => h w F hw _ (fun _ _ L' h1 h2 h3 => ⟨fun _ => h1, L', h2, h3⟩)
theorem oneF_2 {i : Nat} {R : Act → List Asn → Prop} {o : Oper} (ho : getL l i = some o) (hw : Region.wanted o (yielded l.toArray a.tmps) = true)
    (h : ∀ (w : World) (F : Asn), St w0 w (F :: L) → ∀ K : Act → World → Prop, (∀ a w L', St w0 w (F :: L') → R a L' → K a w) → o.wp P a w K (NoPanic Q)) : OneF P l.toArray w0 L0 (NoPanic Q) i 2 R a L := by
  rw [getL_eq] at ho; unfold OneF; rw [ho]; simp only [hw, if_true]
  exact fun w F hw => h w F hw _ (fun _ _ L' h2 h3 => ⟨fun h => (by cases h), L', h2, h3⟩)
end
attribute [irreducible] wpF OneF
end Go
end
section
namespace Go.Proofs.YtncmlleohgeofaaGreat
open Go Go.RowKit
set_option linter.unusedVariables false
set_option linter.unusedSimpArgs false
set_option linter.unusedSectionVars false
theorem ag_impl_RxQueue : aggT Tryz.prog 50 30 := ⟨⟨_, Tryz.underlying50, rfl⟩, by kernel_rfl⟩
theorem zc_impl_RxQueue : zeroCells' Tryz.prog 50 = some [.int .i64 0, .int .i64 0, .int .i64 0, .int .i64 0, .int .i64 0, .int .i64 0, .int .i64 0, .int .i64 0, .int .i64 0, .int .i64 0, .int .i64 0, .int .i64 0, .int .i64 0, .int .i64 0, .int .i64 0, .int .i64 0, .int .i64 0, .int .i64 0, .int .i64 0, .int .i64 0, .int .i64 0, .int .i64 0, .int .i64 0, .int .i64 0, .int .i64 0, .string ⟨#[]⟩, .int .i64 0, .int .i64 0, .bool false, .int .i64 0] := by kernel_rfl
theorem sz_impl_RxQueue : (Tryz.prog.info? 50).map (·.size) = some 30 := by kernel_rfl
theorem ag_laws_Memory : aggT Tryz.prog 25 1 := ⟨⟨_, Tryz.underlying25, rfl⟩, by kernel_rfl⟩
theorem ag_laws_Packet : aggT Tryz.prog 33 16 := ⟨⟨_, Tryz.underlying33, rfl⟩, by kernel_rfl⟩
theorem ag_laws_RxQueue : aggT Tryz.prog 37 30 := ⟨⟨_, Tryz.underlying37, rfl⟩, by kernel_rfl⟩
end Go.Proofs.YtncmlleohgeofaaGreat
end
section
namespace Go.Proofs.YtncmlleohgeofaaGreat
open Go Go.RowKit Go.Vc
set_option linter.unusedVariables false
set_option linter.unusedSimpArgs false
set_option linter.unnecessarySimpa false
def cjB (dm sm vl tos id ttl si di kind sp dp seq ack fl win : Int) (body : ByteArray) (size count dm2 sm2 vl2 tos2 id2 ttl2 si2 di2 kind2 sp2 dp2 seq2 ack2 fl2 win2 : Int) (body2 : ByteArray) : Bool :=
  superOkB dm sm vl tos id ttl si di kind sp dp seq ack fl win body.size && ((superOkB dm2 sm2 vl2 tos2 id2 ttl2 si2 di2 kind2 sp2 dp2 seq2 ack2 fl2 win2 body2.size && decide (body2.size ≤ 128)) && (samB dm sm vl tos id ttl si di kind sp dp seq ack fl win dm2 sm2 vl2 tos2 id2 ttl2 si2 di2 kind2 sp2 dp2 seq2 ack2 fl2 win2 && (decide (kind2 = 6) && (decide (fl = 16) && (streamB fl2 && (inB size 1 320 && (inB count 1 320 && (decide ((body.size : Int) = size * count) && (inB body2.size 1 size && (decide ((body.size : Int) + body2.size ≤ 320) && (decide (seq2 = (seq + body.size) % 4294967296) && decide (id2 = (id + count) % 65536))))))))))))
theorem sup_rng {dm sm vl tos id ttl si di kind sp dp seq ack fl win : Int} {n : Nat} (h : superOkB dm sm vl tos id ttl si di kind sp dp seq ack fl win n = true) : (n ≤ 320 ∧ (0 ≤ id ∧ id ≤ 65535)) ∧ (0 ≤ seq ∧ seq ≤ 4294967295) ∧ 0 ≤ fl ∧ fl ≤ 31 := by
  simp only [superOkB, segOkB, Bool.and_eq_true, Bool.or_eq_true, inB_iff, Bool.not_eq_true', decide_eq_false_iff_not, beq_iff_eq] at h
  obtain ⟨_, _, _, _, _, h1, _, _, ⟨h2, h3⟩, _⟩ := h
  refine ⟨⟨by omega, h1⟩, ?_⟩
  rcases h3 with ⟨_, a, _, b, _⟩ | ⟨_, _, a, _, b, _⟩
  · exact ⟨a, b⟩
  · omega
theorem cj_div {n size count : Int} (h : 0 ≤ n) (hc : 1 ≤ count) (h1 : n % count = 0) (h2 : n / count = size) : n = size * count := by
  have := Int.mul_ediv_add_emod n count
  rw [h1, h2, Int.mul_comm] at this; omega
theorem cj_div2 {n size count : Int} (hc : 1 ≤ count) (h : n = size * count) : n % count = 0 ∧ n / count = size := by
  subst h; exact ⟨Int.mul_emod_left .., Int.mul_ediv_cancel _ (by omega)⟩
theorem cj_le {n size count : Int} (hn : n ≤ 320) (h0 : 1 ≤ size) (hc : 1 ≤ count) (h : n = size * count) : size ≤ 320 := by
  have := Int.mul_le_mul_of_nonneg_left hc (show 0 ≤ size by omega)
  omega
theorem cj_mul {size count : Int} (h1 : 1 ≤ size ∧ size ≤ 320) (h2 : 1 ≤ count ∧ count ≤ 320) : -9223372036854775808 ≤ size * count ∧ size * count ≤ 9223372036854775807 := by
  have a := Int.mul_le_mul h1.2 h2.2 (by omega) (by omega)
  have b := Int.mul_nonneg (show 0 ≤ size by omega) (show 0 ≤ count by omega)
  omega
set_option maxHeartbeats 4000000 in
theorem c_impl_CanJoin {dm sm vl tos id ttl si di kind sp dp seq ack fl win dm2 sm2 vl2 tos2 id2 ttl2 si2 di2 kind2 sp2 dp2 seq2 ack2 fl2 win2 size count : Int} {body body2 : ByteArray} : Con0 Tryz.prog 52 [.agg [V dm, V sm, V vl, V tos, V id, V ttl, V si, V di, V kind, V sp, V dp, V seq, V ack, V fl, V win, VS body, V size, V count], .agg [V dm2, V sm2, V vl2, V tos2, V id2, V ttl2, V si2, V di2, V kind2, V sp2, V dp2, V seq2, V ack2, V fl2, V win2, VS body2]] (B (cjB dm sm vl tos id ttl si di kind sp dp seq ack fl win body size count dm2 sm2 vl2 tos2 id2 ttl2 si2 di2 kind2 sp2 dp2 seq2 ack2 fl2 win2 body2)) [] := by
  refine con_i Tryz.func52 Tryz.ntmps52 (t := [(0, .agg [V dm, V sm, V vl, V tos, V id, V ttl, V si, V di, V kind, V sp, V dp, V seq, V ack, V fl, V win, VS body, V size, V count]), (1, .agg [V dm2, V sm2, V vl2, V tos2, V id2, V ttl2, V si2, V di2, V kind2, V sp2, V dp2, V seq2, V ack2, V fl2, V win2, VS body2])]) rfl ?_
  refine vc_sr ?_
  iterate 3 refine vo ?_
  refine vnt ?_
  refine vc_seq' ?_
  refine vc_sr ?_
  iterate 2 refine vo ?_
  refine voc c_impl_SuperOk rfl rfl ?_
  iterate 2 refine vo ?_
  refine vsp (fun g1 => ?_) (fun g1 => ?_)
  · iterate 3 refine vof ?_
    iterate 2 refine vo ?_
    iterate 5 refine vof ?_
    iterate 2 refine vo ?_
    iterate 4 refine vof ?_
    iterate 2 refine vo ?_
    iterate 5 refine vof ?_
    iterate 2 refine vo ?_
    iterate 5 refine vof ?_
    refine vo ?_
    refine vnt ?_
    refine vc_then ?_
    refine vc_sr ?_
    refine vo ?_
    refine vnt ?_
    refine vc_ret ?_
    refine thn_r ?_
    refine fin_i [] rfl (fz ?_) trivial
    refine Bool.eq_false_iff.2 fun hh => ?_
    simp only [cjB, Bool.and_eq_true, decide_eq_true_eq] at hh
    obtain ⟨k1, k2, k3, k4, k5, k6, k7, k8, k9, k10, k11, k12, k13⟩ := hh
    first | exact Bool.false_ne_true (g1.symm.trans k1) | exact g1 k1 | exact absurd k1 (by simpa using g1) | (have := inB_iff.1 k7; omega) | omega
  · obtain ⟨⟨hb1, hi1⟩, hq1, hf1⟩ := sup_rng g1
    refine von ?_
    refine vocn c_impl_PacketOk rfl rfl ?_
    refine von ?_
    iterate 2 refine vo ?_
    refine vsp (fun g2 => ?_) (fun g2 => ?_)
    · iterate 5 refine vof ?_
      iterate 2 refine vo ?_
      iterate 4 refine vof ?_
      iterate 2 refine vo ?_
      iterate 5 refine vof ?_
      iterate 2 refine vo ?_
      iterate 5 refine vof ?_
      refine vo ?_
      refine vnt ?_
      refine vc_then ?_
      refine vc_sr ?_
      refine vo ?_
      refine vnt ?_
      refine vc_ret ?_
      refine thn_r ?_
      refine fin_i [] rfl (fz ?_) trivial
      refine Bool.eq_false_iff.2 fun hh => ?_
      simp only [cjB, Bool.and_eq_true, decide_eq_true_eq] at hh
      obtain ⟨k1, k2, k3, k4, k5, k6, k7, k8, k9, k10, k11, k12, k13⟩ := hh
      first | exact Bool.false_ne_true (g2.symm.trans k2) | exact g2 k2 | exact absurd k2 (by simpa using g2) | (have := inB_iff.1 k7; omega) | omega
    · obtain ⟨⟨hb2, hi2⟩, hq2, hf2⟩ := sup_rng g2.1
      iterate 3 refine von ?_
      refine vocn c_impl_SamePath rfl rfl ?_
      refine von ?_
      iterate 2 refine vo ?_
      refine vsp (fun g3 => ?_) (fun g3 => ?_)
      · iterate 4 refine vof ?_
        iterate 2 refine vo ?_
        iterate 5 refine vof ?_
        iterate 2 refine vo ?_
        iterate 5 refine vof ?_
        refine vo ?_
        refine vnt ?_
        refine vc_then ?_
        refine vc_sr ?_
        refine vo ?_
        refine vnt ?_
        refine vc_ret ?_
        refine thn_r ?_
        refine fin_i [] rfl (fz ?_) trivial
        refine Bool.eq_false_iff.2 fun hh => ?_
        simp only [cjB, Bool.and_eq_true, decide_eq_true_eq] at hh
        obtain ⟨k1, k2, k3, k4, k5, k6, k7, k8, k9, k10, k11, k12, k13⟩ := hh
        first | exact Bool.false_ne_true (g3.symm.trans k3) | exact g3 k3 | exact absurd k3 (by simpa using g3) | (have := inB_iff.1 k7; omega) | omega
      · iterate 4 refine von ?_
        iterate 2 refine vo ?_
        refine vsp (fun g4 => ?_) (fun g4 => ?_)
        · iterate 5 refine vof ?_
          iterate 2 refine vo ?_
          iterate 5 refine vof ?_
          refine vo ?_
          refine vnt ?_
          refine vc_then ?_
          refine vc_sr ?_
          refine vo ?_
          refine vnt ?_
          refine vc_ret ?_
          refine thn_r ?_
          refine fin_i [] rfl (fz ?_) trivial
          refine Bool.eq_false_iff.2 fun hh => ?_
          simp only [cjB, Bool.and_eq_true, decide_eq_true_eq] at hh
          obtain ⟨k1, k2, k3, k4, k5, k6, k7, k8, k9, k10, k11, k12, k13⟩ := hh
          first | exact Bool.false_ne_true (g4.symm.trans k4) | exact g4 k4 | exact absurd k4 (by simpa using g4) | (have := inB_iff.1 k7; omega) | omega
        · iterate 5 refine von ?_
          iterate 2 refine vo ?_
          refine vsp (fun g5 => ?_) (fun g5 => ?_)
          · iterate 5 refine vof ?_
            refine vo ?_
            refine vnt ?_
            refine vc_then ?_
            refine vc_sr ?_
            refine vo ?_
            refine vnt ?_
            refine vc_ret ?_
            refine thn_r ?_
            refine fin_i [] rfl (fz ?_) trivial
            refine Bool.eq_false_iff.2 fun hh => ?_
            simp only [cjB, Bool.and_eq_true, decide_eq_true_eq] at hh
            obtain ⟨k1, k2, k3, k4, k5, k6, k7, k8, k9, k10, k11, k12, k13⟩ := hh
            first | exact Bool.false_ne_true (g5.symm.trans k5) | exact g5 k5 | exact absurd k5 (by simpa using g5) | (have := inB_iff.1 k7; omega) | omega
          · iterate 3 refine von ?_
            refine vocn c_impl_streaming rfl rfl ?_
            refine von ?_
            refine vo ?_
            refine vnt ?_
            refine vc_if (fun g6 => ?_) (fun g6 => ?_)
            · refine vc_sr ?_
              refine vo ?_
              refine vnt ?_
              refine vc_ret ?_
              refine thn_r ?_
              refine fin_i [] rfl (fz ?_) trivial
              refine Bool.eq_false_iff.2 fun hh => ?_
              simp only [cjB, Bool.and_eq_true, decide_eq_true_eq] at hh
              obtain ⟨k1, k2, k3, k4, k5, k6, k7, k8, k9, k10, k11, k12, k13⟩ := hh
              first | exact Bool.false_ne_true (g6.symm.trans k6) | exact g6 k6 | exact absurd k6 (by simpa using g6) | (have := inB_iff.1 k7; omega) | omega
            · refine vc_skip ?_
              refine thn ?_
              refine vc_sr ?_
              iterate 11 refine vo ?_
              refine vnt ?_
              refine vc_seq' ?_
              refine vc_sr ?_
              iterate 4 refine vo ?_
              refine vsp (fun g7 => ?_) (fun g7 => ?_)
              · iterate 4 refine vof ?_
                iterate 2 refine vo ?_
                iterate 5 refine vof ?_
                iterate 2 refine vo ?_
                iterate 7 refine vof ?_
                refine vo ?_
                refine vnt ?_
                refine vc_then ?_
                refine vc_sr ?_
                refine vo ?_
                refine vnt ?_
                refine vc_ret ?_
                refine thn_r ?_
                refine fin_i [] rfl (fz ?_) trivial
                refine Bool.eq_false_iff.2 fun hh => ?_
                simp only [cjB, Bool.and_eq_true, decide_eq_true_eq] at hh
                obtain ⟨k1, k2, k3, k4, k5, k6, k7, k8, k9, k10, k11, k12, k13⟩ := hh
                first | exact Bool.false_ne_true (g7.symm.trans k7) | exact g7 k7 | exact absurd k7 (by simpa using g7) | (have := inB_iff.1 k7; omega) | omega
              · iterate 2 refine von ?_
                refine vocn c_impl_between rfl rfl ?_
                refine von ?_
                iterate 2 refine vo ?_
                refine vsp (fun g8 => ?_) (fun g8 => ?_)
                · iterate 5 refine vof ?_
                  iterate 2 refine vo ?_
                  iterate 7 refine vof ?_
                  refine vo ?_
                  refine vnt ?_
                  refine vc_then ?_
                  refine vc_sr ?_
                  refine vo ?_
                  refine vnt ?_
                  refine vc_ret ?_
                  refine thn_r ?_
                  refine fin_i [] rfl (fz ?_) trivial
                  refine Bool.eq_false_iff.2 fun hh => ?_
                  simp only [cjB, Bool.and_eq_true, decide_eq_true_eq] at hh
                  obtain ⟨k1, k2, k3, k4, k5, k6, k7, k8, k9, k10, k11, k12, k13⟩ := hh
                  first | exact Bool.false_ne_true (g8.symm.trans k8) | exact g8 k8 | exact absurd k8 (by simpa using g8) | (have := inB_iff.1 k7; omega) | omega
                · have hc8 := inB_iff.1 g8
                  iterate 4 refine von ?_
                  try refine veq (Int.tmod_eq_emod_of_nonneg (by omega)) ?_
                  refine von ?_
                  iterate 2 refine vo ?_
                  refine vsp (fun g9 => ?_) (fun g9 => ?_)
                  · iterate 7 refine vof ?_
                    refine vo ?_
                    refine vnt ?_
                    refine vc_then ?_
                    refine vc_sr ?_
                    refine vo ?_
                    refine vnt ?_
                    refine vc_ret ?_
                    refine thn_r ?_
                    refine fin_i [] rfl (fz ?_) trivial
                    refine Bool.eq_false_iff.2 fun hh => ?_
                    simp only [cjB, Bool.and_eq_true, decide_eq_true_eq] at hh
                    obtain ⟨k1, k2, k3, k4, k5, k6, k7, k8, k9, k10, k11, k12, k13⟩ := hh
                    exact g9 (cj_div2 hc8.1 k9).1
                  · iterate 4 refine von ?_
                    try refine veq (IntWalk.i64_quo _ _ (by omega)) ?_
                    iterate 3 refine von ?_
                    refine vo ?_
                    refine vnt ?_
                    refine vc_if (fun g10 => ?_) (fun g10 => ?_)
                    · refine vc_sr ?_
                      refine vo ?_
                      refine vnt ?_
                      refine vc_ret ?_
                      refine thn_r ?_
                      refine fin_i [] rfl (fz ?_) trivial
                      refine Bool.eq_false_iff.2 fun hh => ?_
                      simp only [cjB, Bool.and_eq_true, decide_eq_true_eq] at hh
                      obtain ⟨k1, k2, k3, k4, k5, k6, k7, k8, k9, k10, k11, k12, k13⟩ := hh
                      exact g10 (cj_div2 hc8.1 k9).2
                    · refine vc_skip ?_
                      refine thn ?_
                      refine vc_sr ?_
                      iterate 3 refine vo ?_
                      refine voc c_impl_between rfl rfl ?_
                      refine vo ?_
                      refine vsp (fun g11 => ?_) (fun g11 => ?_)
                      · iterate 3 refine von ?_
                        try refine vwr ?_
                        refine von ?_
                        iterate 2 refine vo ?_
                        refine vsp (fun g12 => ?_) (fun g12 => ?_)
                        · iterate 9 refine von ?_
                          try refine vwr ?_
                          refine von ?_
                          try refine veq (Int.tmod_eq_emod_of_nonneg (by omega)) ?_
                          refine von ?_
                          iterate 2 refine vo ?_
                          refine vsp (fun g13 => ?_) (fun g13 => ?_)
                          · iterate 8 refine von ?_
                            try refine vwr ?_
                            refine von ?_
                            try refine veq (Int.tmod_eq_emod_of_nonneg (by omega)) ?_
                            refine von ?_
                            iterate 2 refine vo ?_
                            refine vnt ?_
                            refine vc_ret ?_
                            refine fin_i [] rfl (fz ?_) trivial
                            rw [Bool.eq_iff_iff]
                            simp only [cjB, Bool.and_eq_true, decide_eq_true_eq]
                            refine ⟨fun hh => ?_, fun k13 => ?_⟩
                            · obtain ⟨k1, k2, k3, k4, k5, k6, k7, k8, k9, k10, k11, k12, k13⟩ := hh; first | exact k13 | exact ⟨k12, k13⟩
                            · have e := cj_div (by omega) (by omega) g9 g10
                              exact ⟨g1, g2, g3, g4, g5, g6, inB_iff.2 ⟨g7, cj_le (by omega) g7 (by omega) e⟩, g8, e, g11, g12, g13, k13⟩
                          · iterate 10 refine vof ?_
                            iterate 2 refine vo ?_
                            refine vnt ?_
                            refine vc_ret ?_
                            refine fin_i [] rfl (fz ?_) trivial
                            refine Bool.eq_false_iff.2 fun hh => ?_
                            simp only [cjB, Bool.and_eq_true, decide_eq_true_eq] at hh
                            obtain ⟨k1, k2, k3, k4, k5, k6, k7, k8, k9, k10, k11, k12, k13⟩ := hh
                            first | exact Bool.false_ne_true (g13.symm.trans k12) | exact g13 k12 | exact absurd k12 (by simpa using g13) | (have := inB_iff.1 k7; omega) | omega
                        · iterate 11 refine vof ?_
                          iterate 2 refine vo ?_
                          iterate 10 refine vof ?_
                          iterate 2 refine vo ?_
                          refine vnt ?_
                          refine vc_ret ?_
                          refine fin_i [] rfl (fz ?_) trivial
                          refine Bool.eq_false_iff.2 fun hh => ?_
                          simp only [cjB, Bool.and_eq_true, decide_eq_true_eq] at hh
                          obtain ⟨k1, k2, k3, k4, k5, k6, k7, k8, k9, k10, k11, k12, k13⟩ := hh
                          first | exact Bool.false_ne_true (g12.symm.trans k11) | exact g12 k11 | exact absurd k11 (by simpa using g12) | (have := inB_iff.1 k7; omega) | omega
                      · iterate 4 refine vof ?_
                        iterate 2 refine vo ?_
                        iterate 11 refine vof ?_
                        iterate 2 refine vo ?_
                        iterate 10 refine vof ?_
                        iterate 2 refine vo ?_
                        refine vnt ?_
                        refine vc_ret ?_
                        refine fin_i [] rfl (fz ?_) trivial
                        refine Bool.eq_false_iff.2 fun hh => ?_
                        simp only [cjB, Bool.and_eq_true, decide_eq_true_eq] at hh
                        obtain ⟨k1, k2, k3, k4, k5, k6, k7, k8, k9, k10, k11, k12, k13⟩ := hh
                        first | exact Bool.false_ne_true (g11.symm.trans k10) | exact g11 k10 | exact absurd k10 (by simpa using g11) | (have := inB_iff.1 k7; omega) | omega
set_option maxHeartbeats 4000000 in
theorem c_spec_CanJoin {dm sm vl tos id ttl si di kind sp dp seq ack fl win dm2 sm2 vl2 tos2 id2 ttl2 si2 di2 kind2 sp2 dp2 seq2 ack2 fl2 win2 size count : Int} {body body2 : ByteArray} : Con0 Tryz.prog 47 [.agg [V dm, V sm, V vl, V tos, V id, V ttl, V si, V di, V kind, V sp, V dp, V seq, V ack, V fl, V win, VS body, V size, V count], .agg [V dm2, V sm2, V vl2, V tos2, V id2, V ttl2, V si2, V di2, V kind2, V sp2, V dp2, V seq2, V ack2, V fl2, V win2, VS body2]] (B (cjB dm sm vl tos id ttl si di kind sp dp seq ack fl win body size count dm2 sm2 vl2 tos2 id2 ttl2 si2 di2 kind2 sp2 dp2 seq2 ack2 fl2 win2 body2)) [] := by
  refine con_i Tryz.func47 Tryz.ntmps47 (t := [(0, .agg [V dm, V sm, V vl, V tos, V id, V ttl, V si, V di, V kind, V sp, V dp, V seq, V ack, V fl, V win, VS body, V size, V count]), (1, .agg [V dm2, V sm2, V vl2, V tos2, V id2, V ttl2, V si2, V di2, V kind2, V sp2, V dp2, V seq2, V ack2, V fl2, V win2, VS body2])]) rfl ?_
  refine vc_sr ?_
  iterate 3 refine vo ?_
  refine vnt ?_
  refine vc_seq' ?_
  refine vc_sr ?_
  iterate 2 refine vo ?_
  refine voc c_spec_SuperOk rfl rfl ?_
  iterate 2 refine vo ?_
  refine vsp (fun g1 => ?_) (fun g1 => ?_)
  · iterate 3 refine vof ?_
    iterate 2 refine vo ?_
    iterate 5 refine vof ?_
    iterate 2 refine vo ?_
    iterate 4 refine vof ?_
    iterate 2 refine vo ?_
    iterate 5 refine vof ?_
    iterate 2 refine vo ?_
    iterate 5 refine vof ?_
    refine vo ?_
    refine vnt ?_
    refine vc_then ?_
    refine vc_sr ?_
    refine vo ?_
    refine vnt ?_
    refine vc_ret ?_
    refine thn_r ?_
    refine fin_i [] rfl (fz ?_) trivial
    refine Bool.eq_false_iff.2 fun hh => ?_
    simp only [cjB, Bool.and_eq_true, decide_eq_true_eq] at hh
    obtain ⟨k1, k2, k3, k4, k5, k6, k7, k8, k9, k10, k11, k12, k13⟩ := hh
    first | exact Bool.false_ne_true (g1.symm.trans k1) | exact g1 k1 | exact absurd k1 (by simpa using g1) | (have := inB_iff.1 k7; omega) | omega
  · obtain ⟨⟨hb1, hi1⟩, hq1, hf1⟩ := sup_rng g1
    refine von ?_
    refine vocn c_spec_PacketOk rfl rfl ?_
    refine von ?_
    iterate 2 refine vo ?_
    refine vsp (fun g2 => ?_) (fun g2 => ?_)
    · iterate 5 refine vof ?_
      iterate 2 refine vo ?_
      iterate 4 refine vof ?_
      iterate 2 refine vo ?_
      iterate 5 refine vof ?_
      iterate 2 refine vo ?_
      iterate 5 refine vof ?_
      refine vo ?_
      refine vnt ?_
      refine vc_then ?_
      refine vc_sr ?_
      refine vo ?_
      refine vnt ?_
      refine vc_ret ?_
      refine thn_r ?_
      refine fin_i [] rfl (fz ?_) trivial
      refine Bool.eq_false_iff.2 fun hh => ?_
      simp only [cjB, Bool.and_eq_true, decide_eq_true_eq] at hh
      obtain ⟨k1, k2, k3, k4, k5, k6, k7, k8, k9, k10, k11, k12, k13⟩ := hh
      first | exact Bool.false_ne_true (g2.symm.trans k2) | exact g2 k2 | exact absurd k2 (by simpa using g2) | (have := inB_iff.1 k7; omega) | omega
    · obtain ⟨⟨hb2, hi2⟩, hq2, hf2⟩ := sup_rng g2.1
      iterate 3 refine von ?_
      refine vocn c_spec_SamePath rfl rfl ?_
      refine von ?_
      iterate 2 refine vo ?_
      refine vsp (fun g3 => ?_) (fun g3 => ?_)
      · iterate 4 refine vof ?_
        iterate 2 refine vo ?_
        iterate 5 refine vof ?_
        iterate 2 refine vo ?_
        iterate 5 refine vof ?_
        refine vo ?_
        refine vnt ?_
        refine vc_then ?_
        refine vc_sr ?_
        refine vo ?_
        refine vnt ?_
        refine vc_ret ?_
        refine thn_r ?_
        refine fin_i [] rfl (fz ?_) trivial
        refine Bool.eq_false_iff.2 fun hh => ?_
        simp only [cjB, Bool.and_eq_true, decide_eq_true_eq] at hh
        obtain ⟨k1, k2, k3, k4, k5, k6, k7, k8, k9, k10, k11, k12, k13⟩ := hh
        first | exact Bool.false_ne_true (g3.symm.trans k3) | exact g3 k3 | exact absurd k3 (by simpa using g3) | (have := inB_iff.1 k7; omega) | omega
      · iterate 4 refine von ?_
        iterate 2 refine vo ?_
        refine vsp (fun g4 => ?_) (fun g4 => ?_)
        · iterate 5 refine vof ?_
          iterate 2 refine vo ?_
          iterate 5 refine vof ?_
          refine vo ?_
          refine vnt ?_
          refine vc_then ?_
          refine vc_sr ?_
          refine vo ?_
          refine vnt ?_
          refine vc_ret ?_
          refine thn_r ?_
          refine fin_i [] rfl (fz ?_) trivial
          refine Bool.eq_false_iff.2 fun hh => ?_
          simp only [cjB, Bool.and_eq_true, decide_eq_true_eq] at hh
          obtain ⟨k1, k2, k3, k4, k5, k6, k7, k8, k9, k10, k11, k12, k13⟩ := hh
          first | exact Bool.false_ne_true (g4.symm.trans k4) | exact g4 k4 | exact absurd k4 (by simpa using g4) | (have := inB_iff.1 k7; omega) | omega
        · iterate 5 refine von ?_
          iterate 2 refine vo ?_
          refine vsp (fun g5 => ?_) (fun g5 => ?_)
          · iterate 5 refine vof ?_
            refine vo ?_
            refine vnt ?_
            refine vc_then ?_
            refine vc_sr ?_
            refine vo ?_
            refine vnt ?_
            refine vc_ret ?_
            refine thn_r ?_
            refine fin_i [] rfl (fz ?_) trivial
            refine Bool.eq_false_iff.2 fun hh => ?_
            simp only [cjB, Bool.and_eq_true, decide_eq_true_eq] at hh
            obtain ⟨k1, k2, k3, k4, k5, k6, k7, k8, k9, k10, k11, k12, k13⟩ := hh
            first | exact Bool.false_ne_true (g5.symm.trans k5) | exact g5 k5 | exact absurd k5 (by simpa using g5) | (have := inB_iff.1 k7; omega) | omega
          · iterate 5 refine von ?_
            refine vo ?_
            refine vnt ?_
            refine vc_if (fun g6 => ?_) (fun g6 => ?_)
            · refine vc_sr ?_
              refine vo ?_
              refine vnt ?_
              refine vc_ret ?_
              refine thn_r ?_
              refine fin_i [] rfl (fz ?_) trivial
              refine Bool.eq_false_iff.2 fun hh => ?_
              simp only [cjB, Bool.and_eq_true, decide_eq_true_eq] at hh
              obtain ⟨k1, k2, k3, k4, k5, k6, k7, k8, k9, k10, k11, k12, k13⟩ := hh
              exact g6 (of_decide_eq_true ((strm_c hf2).trans k6))
            · refine vc_skip ?_
              refine thn ?_
              refine vc_sr ?_
              iterate 6 refine vo ?_
              refine vnt ?_
              refine vc_seq' ?_
              refine vc_sr ?_
              iterate 2 refine vo ?_
              refine voc c_spec_l01In rfl rfl ?_
              iterate 2 refine vo ?_
              refine vsp (fun g7 => ?_) (fun g7 => ?_)
              · iterate 4 refine vof ?_
                iterate 2 refine vo ?_
                iterate 7 refine vof ?_
                iterate 2 refine vo ?_
                iterate 8 refine vof ?_
                iterate 2 refine vo ?_
                iterate 7 refine vof ?_
                refine vo ?_
                refine vnt ?_
                refine vc_then ?_
                refine vc_sr ?_
                refine vo ?_
                refine vnt ?_
                refine vc_ret ?_
                refine thn_r ?_
                refine fin_i [] rfl (fz ?_) trivial
                refine Bool.eq_false_iff.2 fun hh => ?_
                simp only [cjB, Bool.and_eq_true, decide_eq_true_eq] at hh
                obtain ⟨k1, k2, k3, k4, k5, k6, k7, k8, k9, k10, k11, k12, k13⟩ := hh
                first | exact Bool.false_ne_true (g7.symm.trans k7) | exact g7 k7 | exact absurd k7 (by simpa using g7) | (have := inB_iff.1 k7; omega) | omega
              · iterate 2 refine von ?_
                refine vocn c_spec_l01In rfl rfl ?_
                refine von ?_
                iterate 2 refine vo ?_
                refine vsp (fun g8 => ?_) (fun g8 => ?_)
                · iterate 7 refine vof ?_
                  iterate 2 refine vo ?_
                  iterate 8 refine vof ?_
                  iterate 2 refine vo ?_
                  iterate 7 refine vof ?_
                  refine vo ?_
                  refine vnt ?_
                  refine vc_then ?_
                  refine vc_sr ?_
                  refine vo ?_
                  refine vnt ?_
                  refine vc_ret ?_
                  refine thn_r ?_
                  refine fin_i [] rfl (fz ?_) trivial
                  refine Bool.eq_false_iff.2 fun hh => ?_
                  simp only [cjB, Bool.and_eq_true, decide_eq_true_eq] at hh
                  obtain ⟨k1, k2, k3, k4, k5, k6, k7, k8, k9, k10, k11, k12, k13⟩ := hh
                  first | exact Bool.false_ne_true (g8.symm.trans k8) | exact g8 k8 | exact absurd k8 (by simpa using g8) | (have := inB_iff.1 k7; omega) | omega
                · have hc8 := inB_iff.1 g8
                  iterate 6 refine von ?_
                  try refine vwr ?_
                  refine von ?_
                  iterate 2 refine vo ?_
                  refine vsp (fun g9 => ?_) (fun g9 => ?_)
                  · rw [wr_id (cj_mul (inB_iff.1 g7) hc8).1 (cj_mul (inB_iff.1 g7) hc8).2] at g9
                    iterate 8 refine vof ?_
                    iterate 2 refine vo ?_
                    iterate 7 refine vof ?_
                    refine vo ?_
                    refine vnt ?_
                    refine vc_then ?_
                    refine vc_sr ?_
                    refine vo ?_
                    refine vnt ?_
                    refine vc_ret ?_
                    refine thn_r ?_
                    refine fin_i [] rfl (fz ?_) trivial
                    refine Bool.eq_false_iff.2 fun hh => ?_
                    simp only [cjB, Bool.and_eq_true, decide_eq_true_eq] at hh
                    obtain ⟨k1, k2, k3, k4, k5, k6, k7, k8, k9, k10, k11, k12, k13⟩ := hh
                    first | exact Bool.false_ne_true (g9.symm.trans k9) | exact g9 k9 | exact absurd k9 (by simpa using g9) | (have := inB_iff.1 k7; omega) | omega
                  · rw [wr_id (cj_mul (inB_iff.1 g7) hc8).1 (cj_mul (inB_iff.1 g7) hc8).2] at g9
                    iterate 6 refine von ?_
                    refine vocn c_spec_l01In rfl rfl ?_
                    refine von ?_
                    iterate 2 refine vo ?_
                    refine vsp (fun g10 => ?_) (fun g10 => ?_)
                    · iterate 7 refine vof ?_
                      refine vo ?_
                      refine vnt ?_
                      refine vc_then ?_
                      refine vc_sr ?_
                      refine vo ?_
                      refine vnt ?_
                      refine vc_ret ?_
                      refine thn_r ?_
                      refine fin_i [] rfl (fz ?_) trivial
                      refine Bool.eq_false_iff.2 fun hh => ?_
                      simp only [cjB, Bool.and_eq_true, decide_eq_true_eq] at hh
                      obtain ⟨k1, k2, k3, k4, k5, k6, k7, k8, k9, k10, k11, k12, k13⟩ := hh
                      first | exact Bool.false_ne_true (g10.symm.trans k10) | exact g10 k10 | exact absurd k10 (by simpa using g10) | (have := inB_iff.1 k7; omega) | omega
                    · iterate 6 refine von ?_
                      try refine vwr ?_
                      refine von ?_
                      refine vo ?_
                      refine vnt ?_
                      refine vc_if (fun g11 => ?_) (fun g11 => ?_)
                      · refine vc_sr ?_
                        refine vo ?_
                        refine vnt ?_
                        refine vc_ret ?_
                        refine thn_r ?_
                        refine fin_i [] rfl (fz ?_) trivial
                        refine Bool.eq_false_iff.2 fun hh => ?_
                        simp only [cjB, Bool.and_eq_true, decide_eq_true_eq] at hh
                        obtain ⟨k1, k2, k3, k4, k5, k6, k7, k8, k9, k10, k11, k12, k13⟩ := hh
                        first | exact Bool.false_ne_true (g11.symm.trans k11) | exact g11 k11 | exact absurd k11 (by simpa using g11) | (have := inB_iff.1 k7; omega) | omega
                      · refine vc_skip ?_
                        refine thn ?_
                        refine vc_sr ?_
                        iterate 9 refine vo ?_
                        try refine vwr ?_
                        refine vo ?_
                        try refine veq (Int.tmod_eq_emod_of_nonneg (by omega)) ?_
                        iterate 2 refine vo ?_
                        refine vsp (fun g12 => ?_) (fun g12 => ?_)
                        · iterate 8 refine von ?_
                          try refine vwr ?_
                          refine von ?_
                          try refine veq (Int.tmod_eq_emod_of_nonneg (by omega)) ?_
                          refine von ?_
                          iterate 2 refine vo ?_
                          refine vnt ?_
                          refine vc_ret ?_
                          refine fin_i [] rfl (fz ?_) trivial
                          rw [Bool.eq_iff_iff]
                          simp only [cjB, Bool.and_eq_true, decide_eq_true_eq]
                          refine ⟨fun hh => ?_, fun k13 => ?_⟩
                          · obtain ⟨k1, k2, k3, k4, k5, k6, k7, k8, k9, k10, k11, k12, k13⟩ := hh; first | exact k13 | exact ⟨k12, k13⟩
                          · exact ⟨g1, g2, g3, g4, g5, (strm_c hf2).symm.trans (decide_eq_true g6), g7, g8, g9, g10, g11, g12, k13⟩
                        · iterate 10 refine vof ?_
                          iterate 2 refine vo ?_
                          refine vnt ?_
                          refine vc_ret ?_
                          refine fin_i [] rfl (fz ?_) trivial
                          refine Bool.eq_false_iff.2 fun hh => ?_
                          simp only [cjB, Bool.and_eq_true, decide_eq_true_eq] at hh
                          obtain ⟨k1, k2, k3, k4, k5, k6, k7, k8, k9, k10, k11, k12, k13⟩ := hh
                          first | exact Bool.false_ne_true (g12.symm.trans k12) | exact g12 k12 | exact absurd k12 (by simpa using g12) | (have := inB_iff.1 k7; omega) | omega
end Go.Proofs.YtncmlleohgeofaaGreat
end
section
namespace Go.Proofs.YtncmlleohgeofaaGreat
open Go Go.RowKit Go.Vc
set_option linter.unusedVariables false
set_option linter.unusedSimpArgs false
set_option linter.unnecessarySimpa false
structure Rx where
  (rb rs rh rt db ds dc vb vs vc dm sm vl tos id ttl si di kind sp dp seq ack fl win : Int)
  (body : ByteArray)
  (size count : Int)
  (hold : Bool)
  (dropped : Int)
def fhF (l : List Mp) (ps : Pg) (d : Int) (q : Rx) (key : ByteArray) : Pg × Rx := (bif fhG l ps d q.rb q.rs q.rh q.rt q.db q.ds q.dc q.vb q.vs q.vc q.dm q.sm q.vl q.tos q.id q.ttl q.si q.di q.kind q.sp q.dp q.seq q.ack q.fl q.win q.body q.size q.count q.hold q.dropped key then (stF l ps d q.db q.ds q.dc q.dm q.sm q.vl q.tos q.id q.ttl q.si q.di q.kind q.sp q.dp q.seq q.ack q.fl q.win q.body q.size q.count key (rtakeF l ps d q.rb q.rs q.rh q.rt).1).1 else ps, ⟨q.rb, q.rs, (bif fhOk q.rb q.rs q.rh q.rt q.db q.ds q.dc q.vb q.vs q.vc q.dm q.sm q.vl q.tos q.id q.ttl q.si q.di q.kind q.sp q.dp q.seq q.ack q.fl q.win q.body q.size q.count q.hold q.dropped key then (rtakeF l ps d q.rb q.rs q.rh q.rt).2.1 else q.rh), q.rt, q.db, q.ds, (bif fhG l ps d q.rb q.rs q.rh q.rt q.db q.ds q.dc q.vb q.vs q.vc q.dm q.sm q.vl q.tos q.id q.ttl q.si q.di q.kind q.sp q.dp q.seq q.ack q.fl q.win q.body q.size q.count q.hold q.dropped key then (stF l ps d q.db q.ds q.dc q.dm q.sm q.vl q.tos q.id q.ttl q.si q.di q.kind q.sp q.dp q.seq q.ack q.fl q.win q.body q.size q.count key (rtakeF l ps d q.rb q.rs q.rh q.rt).1).2.1 else q.dc), q.vb, q.vs, q.vc, (fhI (fhOk q.rb q.rs q.rh q.rt q.db q.ds q.dc q.vb q.vs q.vc q.dm q.sm q.vl q.tos q.id q.ttl q.si q.di q.kind q.sp q.dp q.seq q.ack q.fl q.win q.body q.size q.count q.hold q.dropped key) q.dm), (fhI (fhOk q.rb q.rs q.rh q.rt q.db q.ds q.dc q.vb q.vs q.vc q.dm q.sm q.vl q.tos q.id q.ttl q.si q.di q.kind q.sp q.dp q.seq q.ack q.fl q.win q.body q.size q.count q.hold q.dropped key) q.sm), (fhI (fhOk q.rb q.rs q.rh q.rt q.db q.ds q.dc q.vb q.vs q.vc q.dm q.sm q.vl q.tos q.id q.ttl q.si q.di q.kind q.sp q.dp q.seq q.ack q.fl q.win q.body q.size q.count q.hold q.dropped key) q.vl), (fhI (fhOk q.rb q.rs q.rh q.rt q.db q.ds q.dc q.vb q.vs q.vc q.dm q.sm q.vl q.tos q.id q.ttl q.si q.di q.kind q.sp q.dp q.seq q.ack q.fl q.win q.body q.size q.count q.hold q.dropped key) q.tos), (fhI (fhOk q.rb q.rs q.rh q.rt q.db q.ds q.dc q.vb q.vs q.vc q.dm q.sm q.vl q.tos q.id q.ttl q.si q.di q.kind q.sp q.dp q.seq q.ack q.fl q.win q.body q.size q.count q.hold q.dropped key) q.id), (fhI (fhOk q.rb q.rs q.rh q.rt q.db q.ds q.dc q.vb q.vs q.vc q.dm q.sm q.vl q.tos q.id q.ttl q.si q.di q.kind q.sp q.dp q.seq q.ack q.fl q.win q.body q.size q.count q.hold q.dropped key) q.ttl), (fhI (fhOk q.rb q.rs q.rh q.rt q.db q.ds q.dc q.vb q.vs q.vc q.dm q.sm q.vl q.tos q.id q.ttl q.si q.di q.kind q.sp q.dp q.seq q.ack q.fl q.win q.body q.size q.count q.hold q.dropped key) q.si), (fhI (fhOk q.rb q.rs q.rh q.rt q.db q.ds q.dc q.vb q.vs q.vc q.dm q.sm q.vl q.tos q.id q.ttl q.si q.di q.kind q.sp q.dp q.seq q.ack q.fl q.win q.body q.size q.count q.hold q.dropped key) q.di), (fhI (fhOk q.rb q.rs q.rh q.rt q.db q.ds q.dc q.vb q.vs q.vc q.dm q.sm q.vl q.tos q.id q.ttl q.si q.di q.kind q.sp q.dp q.seq q.ack q.fl q.win q.body q.size q.count q.hold q.dropped key) q.kind), (fhI (fhOk q.rb q.rs q.rh q.rt q.db q.ds q.dc q.vb q.vs q.vc q.dm q.sm q.vl q.tos q.id q.ttl q.si q.di q.kind q.sp q.dp q.seq q.ack q.fl q.win q.body q.size q.count q.hold q.dropped key) q.sp), (fhI (fhOk q.rb q.rs q.rh q.rt q.db q.ds q.dc q.vb q.vs q.vc q.dm q.sm q.vl q.tos q.id q.ttl q.si q.di q.kind q.sp q.dp q.seq q.ack q.fl q.win q.body q.size q.count q.hold q.dropped key) q.dp), (fhI (fhOk q.rb q.rs q.rh q.rt q.db q.ds q.dc q.vb q.vs q.vc q.dm q.sm q.vl q.tos q.id q.ttl q.si q.di q.kind q.sp q.dp q.seq q.ack q.fl q.win q.body q.size q.count q.hold q.dropped key) q.seq), (fhI (fhOk q.rb q.rs q.rh q.rt q.db q.ds q.dc q.vb q.vs q.vc q.dm q.sm q.vl q.tos q.id q.ttl q.si q.di q.kind q.sp q.dp q.seq q.ack q.fl q.win q.body q.size q.count q.hold q.dropped key) q.ack), (fhI (fhOk q.rb q.rs q.rh q.rt q.db q.ds q.dc q.vb q.vs q.vc q.dm q.sm q.vl q.tos q.id q.ttl q.si q.di q.kind q.sp q.dp q.seq q.ack q.fl q.win q.body q.size q.count q.hold q.dropped key) q.fl), (fhI (fhOk q.rb q.rs q.rh q.rt q.db q.ds q.dc q.vb q.vs q.vc q.dm q.sm q.vl q.tos q.id q.ttl q.si q.di q.kind q.sp q.dp q.seq q.ack q.fl q.win q.body q.size q.count q.hold q.dropped key) q.win), (fhS (fhOk q.rb q.rs q.rh q.rt q.db q.ds q.dc q.vb q.vs q.vc q.dm q.sm q.vl q.tos q.id q.ttl q.si q.di q.kind q.sp q.dp q.seq q.ack q.fl q.win q.body q.size q.count q.hold q.dropped key) q.body), (fhI (fhOk q.rb q.rs q.rh q.rt q.db q.ds q.dc q.vb q.vs q.vc q.dm q.sm q.vl q.tos q.id q.ttl q.si q.di q.kind q.sp q.dp q.seq q.ack q.fl q.win q.body q.size q.count q.hold q.dropped key) q.size), (fhI (fhOk q.rb q.rs q.rh q.rt q.db q.ds q.dc q.vb q.vs q.vc q.dm q.sm q.vl q.tos q.id q.ttl q.si q.di q.kind q.sp q.dp q.seq q.ack q.fl q.win q.body q.size q.count q.hold q.dropped key) q.count), (bif fhOk q.rb q.rs q.rh q.rt q.db q.ds q.dc q.vb q.vs q.vc q.dm q.sm q.vl q.tos q.id q.ttl q.si q.di q.kind q.sp q.dp q.seq q.ack q.fl q.win q.body q.size q.count q.hold q.dropped key then false else q.hold), (fhD (fhOk q.rb q.rs q.rh q.rt q.db q.ds q.dc q.vb q.vs q.vc q.dm q.sm q.vl q.tos q.id q.ttl q.si q.di q.kind q.sp q.dp q.seq q.ack q.fl q.win q.body q.size q.count q.hold q.dropped key) (fhG l ps d q.rb q.rs q.rh q.rt q.db q.ds q.dc q.vb q.vs q.vc q.dm q.sm q.vl q.tos q.id q.ttl q.si q.di q.kind q.sp q.dp q.seq q.ack q.fl q.win q.body q.size q.count q.hold q.dropped key) q.dropped q.count)⟩)
def rpF (l : List Mp) (ps : Pg) (d : Int) (q : Rx) (key : ByteArray) (dm2 sm2 vl2 tos2 id2 ttl2 si2 di2 kind2 sp2 dp2 seq2 ack2 fl2 win2 : Int) (body2 : ByteArray) (coal : Bool) : Pg × Rx :=
  if rxOkB q.rb q.rs q.rh q.rt q.db q.ds q.dc q.vb q.vs q.vc q.dm q.sm q.vl q.tos q.id q.ttl q.si q.di q.kind q.sp q.dp q.seq q.ack q.fl q.win q.body q.size q.count q.hold q.dropped = true ∧ (superOkB dm2 sm2 vl2 tos2 id2 ttl2 si2 di2 kind2 sp2 dp2 seq2 ack2 fl2 win2 body2.size && decide (body2.size ≤ 128)) = true ∧ key.size = 16 then
    if (coal && (q.hold && cjB q.dm q.sm q.vl q.tos q.id q.ttl q.si q.di q.kind q.sp q.dp q.seq q.ack q.fl q.win q.body q.size q.count dm2 sm2 vl2 tos2 id2 ttl2 si2 di2 kind2 sp2 dp2 seq2 ack2 fl2 win2 body2)) = true then (ps, ⟨q.rb, q.rs, q.rh, q.rt, q.db, q.ds, q.dc, q.vb, q.vs, q.vc, q.dm, q.sm, q.vl, q.tos, q.id, q.ttl, q.si, q.di, q.kind, q.sp, q.dp, q.seq, q.ack, fl2, q.win, (q.body ++ body2), q.size, (q.count + 1), q.hold, q.dropped⟩)
    else bif coal then ((fhF l ps d q key).1, ⟨(fhF l ps d q key).2.rb, (fhF l ps d q key).2.rs, (fhF l ps d q key).2.rh, (fhF l ps d q key).2.rt, (fhF l ps d q key).2.db, (fhF l ps d q key).2.ds, (fhF l ps d q key).2.dc, (fhF l ps d q key).2.vb, (fhF l ps d q key).2.vs, (fhF l ps d q key).2.vc, dm2, sm2, vl2, tos2, id2, ttl2, si2, di2, kind2, sp2, dp2, seq2, ack2, fl2, win2, body2, (body2.size : Int), 1, true, (fhF l ps d q key).2.dropped⟩) else fhF l (fhF l ps d q key).1 d ⟨(fhF l ps d q key).2.rb, (fhF l ps d q key).2.rs, (fhF l ps d q key).2.rh, (fhF l ps d q key).2.rt, (fhF l ps d q key).2.db, (fhF l ps d q key).2.ds, (fhF l ps d q key).2.dc, (fhF l ps d q key).2.vb, (fhF l ps d q key).2.vs, (fhF l ps d q key).2.vc, dm2, sm2, vl2, tos2, id2, ttl2, si2, di2, kind2, sp2, dp2, seq2, ack2, fl2, win2, body2, (body2.size : Int), 1, true, (fhF l ps d q key).2.dropped⟩ key
  else (ps, q)
theorem rp_bad {l : List Mp} {ps : Pg} {d rb rs rh rt db ds dc vb vs vc dm sm vl tos id ttl si di kind sp dp seq ack fl win size count dropped dm2 sm2 vl2 tos2 id2 ttl2 si2 di2 kind2 sp2 dp2 seq2 ack2 fl2 win2 : Int} {body key body2 : ByteArray} {hold coal : Bool} (h : rxOkB rb rs rh rt db ds dc vb vs vc dm sm vl tos id ttl si di kind sp dp seq ack fl win body size count hold dropped = false ∨ (superOkB dm2 sm2 vl2 tos2 id2 ttl2 si2 di2 kind2 sp2 dp2 seq2 ack2 fl2 win2 body2.size && decide (body2.size ≤ 128)) = false ∨ ¬ key.size = 16) : rpF l ps d ⟨rb, rs, rh, rt, db, ds, dc, vb, vs, vc, dm, sm, vl, tos, id, ttl, si, di, kind, sp, dp, seq, ack, fl, win, body, size, count, hold, dropped⟩ key dm2 sm2 vl2 tos2 id2 ttl2 si2 di2 kind2 sp2 dp2 seq2 ack2 fl2 win2 body2 coal = (ps, ⟨rb, rs, rh, rt, db, ds, dc, vb, vs, vc, dm, sm, vl, tos, id, ttl, si, di, kind, sp, dp, seq, ack, fl, win, body, size, count, hold, dropped⟩) := by
  unfold rpF
  rw [if_neg]
  rintro ⟨h1, h2, h3⟩
  rcases h with h | h | h
  · rw [h] at h1; cases h1
  · rw [h] at h2; cases h2
  · exact h h3
theorem rp_join {l : List Mp} {ps : Pg} {d rb rs rh rt db ds dc vb vs vc dm sm vl tos id ttl si di kind sp dp seq ack fl win size count dropped dm2 sm2 vl2 tos2 id2 ttl2 si2 di2 kind2 sp2 dp2 seq2 ack2 fl2 win2 : Int} {body key body2 : ByteArray} {hold coal : Bool} (h1 : rxOkB rb rs rh rt db ds dc vb vs vc dm sm vl tos id ttl si di kind sp dp seq ack fl win body size count hold dropped = true) (h2 : (superOkB dm2 sm2 vl2 tos2 id2 ttl2 si2 di2 kind2 sp2 dp2 seq2 ack2 fl2 win2 body2.size && decide (body2.size ≤ 128)) = true) (h3 : key.size = 16) (h4 : coal = true) (h5 : hold = true) (h6 : cjB dm sm vl tos id ttl si di kind sp dp seq ack fl win body size count dm2 sm2 vl2 tos2 id2 ttl2 si2 di2 kind2 sp2 dp2 seq2 ack2 fl2 win2 body2 = true) : rpF l ps d ⟨rb, rs, rh, rt, db, ds, dc, vb, vs, vc, dm, sm, vl, tos, id, ttl, si, di, kind, sp, dp, seq, ack, fl, win, body, size, count, hold, dropped⟩ key dm2 sm2 vl2 tos2 id2 ttl2 si2 di2 kind2 sp2 dp2 seq2 ack2 fl2 win2 body2 coal = (ps, ⟨rb, rs, rh, rt, db, ds, dc, vb, vs, vc, dm, sm, vl, tos, id, ttl, si, di, kind, sp, dp, seq, ack, fl2, win, (body ++ body2), size, (count + 1), hold, dropped⟩) := by
  unfold rpF
  rw [if_pos ⟨h1, h2, h3⟩, if_pos (by rw [h4, h5, h6]; rfl)]
theorem rp_one {l : List Mp} {ps : Pg} {d rb rs rh rt db ds dc vb vs vc dm sm vl tos id ttl si di kind sp dp seq ack fl win size count dropped dm2 sm2 vl2 tos2 id2 ttl2 si2 di2 kind2 sp2 dp2 seq2 ack2 fl2 win2 : Int} {body key body2 : ByteArray} {hold coal : Bool} {r1 : Pg × Rx} (hr : fhF l ps d ⟨rb, rs, rh, rt, db, ds, dc, vb, vs, vc, dm, sm, vl, tos, id, ttl, si, di, kind, sp, dp, seq, ack, fl, win, body, size, count, hold, dropped⟩ key = r1) (h1 : rxOkB rb rs rh rt db ds dc vb vs vc dm sm vl tos id ttl si di kind sp dp seq ack fl win body size count hold dropped = true) (h2 : (superOkB dm2 sm2 vl2 tos2 id2 ttl2 si2 di2 kind2 sp2 dp2 seq2 ack2 fl2 win2 body2.size && decide (body2.size ≤ 128)) = true) (h3 : key.size = 16) (h4 : coal = true) (h5 : (hold && cjB dm sm vl tos id ttl si di kind sp dp seq ack fl win body size count dm2 sm2 vl2 tos2 id2 ttl2 si2 di2 kind2 sp2 dp2 seq2 ack2 fl2 win2 body2) = false) : rpF l ps d ⟨rb, rs, rh, rt, db, ds, dc, vb, vs, vc, dm, sm, vl, tos, id, ttl, si, di, kind, sp, dp, seq, ack, fl, win, body, size, count, hold, dropped⟩ key dm2 sm2 vl2 tos2 id2 ttl2 si2 di2 kind2 sp2 dp2 seq2 ack2 fl2 win2 body2 coal = (r1.1, ⟨r1.2.rb, r1.2.rs, r1.2.rh, r1.2.rt, r1.2.db, r1.2.ds, r1.2.dc, r1.2.vb, r1.2.vs, r1.2.vc, dm2, sm2, vl2, tos2, id2, ttl2, si2, di2, kind2, sp2, dp2, seq2, ack2, fl2, win2, body2, (body2.size : Int), 1, true, r1.2.dropped⟩) := by
  subst hr
  unfold rpF
  rw [if_pos ⟨h1, h2, h3⟩, if_neg (by rw [h4]; show ¬ (true && (hold && _)) = true; rw [h5]; decide), h4]
  rfl
theorem rp_two {l : List Mp} {ps : Pg} {d rb rs rh rt db ds dc vb vs vc dm sm vl tos id ttl si di kind sp dp seq ack fl win size count dropped dm2 sm2 vl2 tos2 id2 ttl2 si2 di2 kind2 sp2 dp2 seq2 ack2 fl2 win2 : Int} {body key body2 : ByteArray} {hold coal : Bool} {r1 : Pg × Rx} (hr : fhF l ps d ⟨rb, rs, rh, rt, db, ds, dc, vb, vs, vc, dm, sm, vl, tos, id, ttl, si, di, kind, sp, dp, seq, ack, fl, win, body, size, count, hold, dropped⟩ key = r1) (h1 : rxOkB rb rs rh rt db ds dc vb vs vc dm sm vl tos id ttl si di kind sp dp seq ack fl win body size count hold dropped = true) (h2 : (superOkB dm2 sm2 vl2 tos2 id2 ttl2 si2 di2 kind2 sp2 dp2 seq2 ack2 fl2 win2 body2.size && decide (body2.size ≤ 128)) = true) (h3 : key.size = 16) (h4 : coal = false) : rpF l ps d ⟨rb, rs, rh, rt, db, ds, dc, vb, vs, vc, dm, sm, vl, tos, id, ttl, si, di, kind, sp, dp, seq, ack, fl, win, body, size, count, hold, dropped⟩ key dm2 sm2 vl2 tos2 id2 ttl2 si2 di2 kind2 sp2 dp2 seq2 ack2 fl2 win2 body2 coal = fhF l r1.1 d ⟨r1.2.rb, r1.2.rs, r1.2.rh, r1.2.rt, r1.2.db, r1.2.ds, r1.2.dc, r1.2.vb, r1.2.vs, r1.2.vc, dm2, sm2, vl2, tos2, id2, ttl2, si2, di2, kind2, sp2, dp2, seq2, ack2, fl2, win2, body2, (body2.size : Int), 1, true, r1.2.dropped⟩ key := by
  subst hr
  unfold rpF
  rw [if_pos ⟨h1, h2, h3⟩, if_neg (by rw [h4]; exact Bool.false_ne_true), h4]
  rfl
theorem c_impl_FlushHeld_r {l : List Mp} {ps : Pg} {d rb rs rh rt db ds dc vb vs vc dm sm vl tos id ttl si di kind sp dp seq ack fl win size count dropped : Int} {body key : ByteArray} {hold : Bool} {r : Pg × Rx} (hr : fhF l ps d ⟨rb, rs, rh, rt, db, ds, dc, vb, vs, vc, dm, sm, vl, tos, id, ttl, si, di, kind, sp, dp, seq, ack, fl, win, body, size, count, hold, dropped⟩ key = r) (hl : l.length ≤ 1099511627776 := by first | assumption | omega) (hp : ps.length ≤ 1099511627776 := by first | assumption | omega) (hsk : key.size ≤ 1099511627776 := by first | assumption | omega) : Con0 Tryz.prog 12 [.one (.sl 4 (l.map mpE)), .agg [.sl 1 (ps.map strE)], I d, .agg [V rb, V rs, V rh, V rt, V db, V ds, V dc, V vb, V vs, V vc, V dm, V sm, V vl, V tos, V id, V ttl, V si, V di, V kind, V sp, V dp, V seq, V ack, V fl, V win, VS body, V size, V count, VB hold, V dropped], Z key] (.tup [.agg [.hs 0], .agg [V r.2.rb, V r.2.rs, V r.2.rh, V r.2.rt, V r.2.db, V r.2.ds, V r.2.dc, V r.2.vb, V r.2.vs, V r.2.vc, V r.2.dm, V r.2.sm, V r.2.vl, V r.2.tos, V r.2.id, V r.2.ttl, V r.2.si, V r.2.di, V r.2.kind, V r.2.sp, V r.2.dp, V r.2.seq, V r.2.ack, V r.2.fl, V r.2.win, VS r.2.body, V r.2.size, V r.2.count, VB r.2.hold, V r.2.dropped]]) [(0, .arr 9 1 (r.1.map strE))] := by subst hr; exact c_impl_FlushHeld
theorem c_spec_FlushHeld_r {l : List Mp} {ps : Pg} {d rb rs rh rt db ds dc vb vs vc dm sm vl tos id ttl si di kind sp dp seq ack fl win size count dropped : Int} {body key : ByteArray} {hold : Bool} {r : Pg × Rx} (hr : fhF l ps d ⟨rb, rs, rh, rt, db, ds, dc, vb, vs, vc, dm, sm, vl, tos, id, ttl, si, di, kind, sp, dp, seq, ack, fl, win, body, size, count, hold, dropped⟩ key = r) (hl : l.length ≤ 1099511627776 := by first | assumption | omega) (hp : ps.length ≤ 1099511627776 := by first | assumption | omega) (hsk : key.size ≤ 1099511627776 := by first | assumption | omega) : Con0 Tryz.prog 8 [.one (.sl 4 (l.map mpE)), .agg [.sl 1 (ps.map strE)], I d, .agg [V rb, V rs, V rh, V rt, V db, V ds, V dc, V vb, V vs, V vc, V dm, V sm, V vl, V tos, V id, V ttl, V si, V di, V kind, V sp, V dp, V seq, V ack, V fl, V win, VS body, V size, V count, VB hold, V dropped], Z key] (.tup [.agg [.hs 0], .agg [V r.2.rb, V r.2.rs, V r.2.rh, V r.2.rt, V r.2.db, V r.2.ds, V r.2.dc, V r.2.vb, V r.2.vs, V r.2.vc, V r.2.dm, V r.2.sm, V r.2.vl, V r.2.tos, V r.2.id, V r.2.ttl, V r.2.si, V r.2.di, V r.2.kind, V r.2.sp, V r.2.dp, V r.2.seq, V r.2.ack, V r.2.fl, V r.2.win, VS r.2.body, V r.2.size, V r.2.count, VB r.2.hold, V r.2.dropped]]) [(0, .arr 9 1 (r.1.map strE))] := by subst hr; exact c_spec_FlushHeld
theorem cj_rng {dm sm vl tos id ttl si di kind sp dp seq ack fl win dm2 sm2 vl2 tos2 id2 ttl2 si2 di2 kind2 sp2 dp2 seq2 ack2 fl2 win2 size count : Int} {body body2 : ByteArray} (h : cjB dm sm vl tos id ttl si di kind sp dp seq ack fl win body size count dm2 sm2 vl2 tos2 id2 ttl2 si2 di2 kind2 sp2 dp2 seq2 ack2 fl2 win2 body2 = true) : 1 ≤ count ∧ count ≤ 320 := by
  simp only [cjB, Bool.and_eq_true, inB_iff] at h
  exact h.2.2.2.2.2.2.2.1
set_option maxHeartbeats 4000000 in
theorem c_impl_Join {dm sm vl tos id ttl si di kind sp dp seq ack fl win dm2 sm2 vl2 tos2 id2 ttl2 si2 di2 kind2 sp2 dp2 seq2 ack2 fl2 win2 size count : Int} {body body2 : ByteArray} (hj : cjB dm sm vl tos id ttl si di kind sp dp seq ack fl win body size count dm2 sm2 vl2 tos2 id2 ttl2 si2 di2 kind2 sp2 dp2 seq2 ack2 fl2 win2 body2 = true) (hs_1 : body.size ≤ 1099511627776 := by first | assumption | omega) (hs_2 : body2.size ≤ 1099511627776 := by first | assumption | omega) : Con0 Tryz.prog 53 [.agg [V dm, V sm, V vl, V tos, V id, V ttl, V si, V di, V kind, V sp, V dp, V seq, V ack, V fl, V win, VS body, V size, V count], .agg [V dm2, V sm2, V vl2, V tos2, V id2, V ttl2, V si2, V di2, V kind2, V sp2, V dp2, V seq2, V ack2, V fl2, V win2, VS body2]] (.agg [V dm, V sm, V vl, V tos, V id, V ttl, V si, V di, V kind, V sp, V dp, V seq, V ack, V fl2, V win, VS (body ++ body2), V size, V (count + 1)]) [] := by
  have hcr := cj_rng hj
  refine con_i Tryz.func53 Tryz.ntmps53 (t := [(0, .agg [V dm, V sm, V vl, V tos, V id, V ttl, V si, V di, V kind, V sp, V dp, V seq, V ack, V fl, V win, VS body, V size, V count]), (1, .agg [V dm2, V sm2, V vl2, V tos2, V id2, V ttl2, V si2, V di2, V kind2, V sp2, V dp2, V seq2, V ack2, V fl2, V win2, VS body2])]) rfl ?_
  refine vc_sr ?_
  iterate 3 refine vo ?_
  refine vnt ?_
  refine vc_seq' ?_
  refine vc_sr ?_
  iterate 2 refine vo ?_
  refine voc c_impl_CanJoin rfl rfl ?_
  refine vo ?_
  refine vnt ?_
  refine vc_if (fun g1 => ?_) (fun g1 => ?_)
  · rw [hj] at g1; cases g1
  · refine vc_skip ?_
    refine thn ?_
    refine vc_sr ?_
    iterate 12 refine vo ?_
    refine vnt ?_
    refine vc_sr ?_
    iterate 7 refine vo ?_
    refine vnt ?_
    refine vc_sr ?_
    iterate 3 refine vo ?_
    try refine vwr ?_
    iterate 2 refine vo ?_
    refine vnt ?_
    refine vc_sr ?_
    iterate 2 refine vo ?_
    refine vnt ?_
    refine vc_ret ?_
    refine fin_i [] rfl (fz ?_) trivial
    simp
set_option maxHeartbeats 4000000 in
theorem c_spec_Join {dm sm vl tos id ttl si di kind sp dp seq ack fl win dm2 sm2 vl2 tos2 id2 ttl2 si2 di2 kind2 sp2 dp2 seq2 ack2 fl2 win2 size count : Int} {body body2 : ByteArray} (hj : cjB dm sm vl tos id ttl si di kind sp dp seq ack fl win body size count dm2 sm2 vl2 tos2 id2 ttl2 si2 di2 kind2 sp2 dp2 seq2 ack2 fl2 win2 body2 = true) (hs_1 : body.size ≤ 1099511627776 := by first | assumption | omega) (hs_2 : body2.size ≤ 1099511627776 := by first | assumption | omega) : Con0 Tryz.prog 48 [.agg [V dm, V sm, V vl, V tos, V id, V ttl, V si, V di, V kind, V sp, V dp, V seq, V ack, V fl, V win, VS body, V size, V count], .agg [V dm2, V sm2, V vl2, V tos2, V id2, V ttl2, V si2, V di2, V kind2, V sp2, V dp2, V seq2, V ack2, V fl2, V win2, VS body2]] (.agg [V dm, V sm, V vl, V tos, V id, V ttl, V si, V di, V kind, V sp, V dp, V seq, V ack, V fl2, V win, VS (body ++ body2), V size, V (count + 1)]) [] := by
  have hcr := cj_rng hj
  refine con_i Tryz.func48 Tryz.ntmps48 (t := [(0, .agg [V dm, V sm, V vl, V tos, V id, V ttl, V si, V di, V kind, V sp, V dp, V seq, V ack, V fl, V win, VS body, V size, V count]), (1, .agg [V dm2, V sm2, V vl2, V tos2, V id2, V ttl2, V si2, V di2, V kind2, V sp2, V dp2, V seq2, V ack2, V fl2, V win2, VS body2])]) rfl ?_
  refine vc_sr ?_
  iterate 3 refine vo ?_
  refine vnt ?_
  refine vc_seq' ?_
  refine vc_sr ?_
  iterate 2 refine vo ?_
  refine voc c_spec_CanJoin rfl rfl ?_
  refine vo ?_
  refine vnt ?_
  refine vc_if (fun g1 => ?_) (fun g1 => ?_)
  · rw [hj] at g1; cases g1
  · refine vc_skip ?_
    refine thn ?_
    refine vc_sr ?_
    iterate 12 refine vo ?_
    refine vnt ?_
    refine vc_sr ?_
    iterate 7 refine vo ?_
    refine vnt ?_
    refine vc_sr ?_
    iterate 3 refine vo ?_
    try refine vwr ?_
    iterate 2 refine vo ?_
    refine vnt ?_
    refine vc_sr ?_
    iterate 2 refine vo ?_
    refine vnt ?_
    refine vc_ret ?_
    refine fin_i [] rfl (fz ?_) trivial
    simp
theorem dma_ln (l : List Mp) (ps : Pg) (d a : Int) (s : ByteArray) (wt : Bool) : (dmaWF l ps d a s wt).1.length = ps.length := dmaWF_len (ok := (dmaWF l ps d a s wt).2) rfl
theorem putC_ln (l : List Mp) (ps : Pg) (d b s c x1 x2 x3 x4 x5 : Int) : (putC l ps d b s c x1 x2 x3 x4 x5).1.length = ps.length := by
  unfold putC
  split
  · split
    · have h := dma_ln l ps d (slotC b s c) (encC x1 x2 x3 x4 x5 (phaseC s c)) true
      split <;> rename_i e
      · rw [e] at h; exact h
      · rfl
    · rfl
  · rfl
theorem stF_ln (l : List Mp) (ps : Pg) (d db ds dc dm sm vl tos id ttl si di kind sp dp seq ack fl win : Int) (body : ByteArray) (size count : Int) (key entry : ByteArray) : (stF l ps d db ds dc dm sm vl tos id ttl si di kind sp dp seq ack fl win body size count key entry).1.length = ps.length := by
  unfold stF
  split
  · split
    · rw [putC_ln, dma_ln]
    · rfl
  · rfl
theorem fhF_len (l : List Mp) (ps : Pg) (d : Int) (q : Rx) (key : ByteArray) : (fhF l ps d q key).1.length = ps.length := by
  unfold fhF
  simp only
  cases fhG l ps d q.rb q.rs q.rh q.rt q.db q.ds q.dc q.vb q.vs q.vc q.dm q.sm q.vl q.tos q.id q.ttl q.si q.di q.kind q.sp q.dp q.seq q.ack q.fl q.win q.body q.size q.count q.hold q.dropped key
  · rfl
  · exact stF_ln ..
theorem rp_sz {dm sm vl tos id ttl si di kind sp dp seq ack fl win : Int} {n : Nat} (h : (superOkB dm sm vl tos id ttl si di kind sp dp seq ack fl win n && decide (n ≤ 128)) = true) : superOkB dm sm vl tos id ttl si di kind sp dp seq ack fl win n = true ∧ n ≤ 128 := by
  rw [Bool.and_eq_true, decide_eq_true_eq] at h; exact h
set_option maxHeartbeats 4000000 in
theorem c_impl_ReceivePacket {l : List Mp} {ps : Pg} {d rb rs rh rt db ds dc vb vs vc dm sm vl tos id ttl si di kind sp dp seq ack fl win size count dropped dm2 sm2 vl2 tos2 id2 ttl2 si2 di2 kind2 sp2 dp2 seq2 ack2 fl2 win2 : Int} {body key body2 : ByteArray} {hold coal : Bool} {r : Pg × Rx} (hr : rpF l ps d ⟨rb, rs, rh, rt, db, ds, dc, vb, vs, vc, dm, sm, vl, tos, id, ttl, si, di, kind, sp, dp, seq, ack, fl, win, body, size, count, hold, dropped⟩ key dm2 sm2 vl2 tos2 id2 ttl2 si2 di2 kind2 sp2 dp2 seq2 ack2 fl2 win2 body2 coal = r) (hl : l.length ≤ 1099511627776 := by first | assumption | omega) (hp : ps.length ≤ 1099511627776 := by first | assumption | omega) (hsk : key.size ≤ 1099511627776 := by first | assumption | omega) : Con0 Tryz.prog 22 [.one (.sl 4 (l.map mpE)), .agg [.sl 1 (ps.map strE)], I d, .agg [V rb, V rs, V rh, V rt, V db, V ds, V dc, V vb, V vs, V vc, V dm, V sm, V vl, V tos, V id, V ttl, V si, V di, V kind, V sp, V dp, V seq, V ack, V fl, V win, VS body, V size, V count, VB hold, V dropped], Z key, .agg [V dm2, V sm2, V vl2, V tos2, V id2, V ttl2, V si2, V di2, V kind2, V sp2, V dp2, V seq2, V ack2, V fl2, V win2, VS body2], B coal] (.tup [.agg [.hs 0], .agg [V r.2.rb, V r.2.rs, V r.2.rh, V r.2.rt, V r.2.db, V r.2.ds, V r.2.dc, V r.2.vb, V r.2.vs, V r.2.vc, V r.2.dm, V r.2.sm, V r.2.vl, V r.2.tos, V r.2.id, V r.2.ttl, V r.2.si, V r.2.di, V r.2.kind, V r.2.sp, V r.2.dp, V r.2.seq, V r.2.ack, V r.2.fl, V r.2.win, VS r.2.body, V r.2.size, V r.2.count, VB r.2.hold, V r.2.dropped]]) [(0, .arr 9 1 (r.1.map strE))] := by
  obtain ⟨r1, hr1⟩ : ∃ r, fhF l ps d ⟨rb, rs, rh, rt, db, ds, dc, vb, vs, vc, dm, sm, vl, tos, id, ttl, si, di, kind, sp, dp, seq, ack, fl, win, body, size, count, hold, dropped⟩ key = r := ⟨_, rfl⟩
  obtain ⟨r2, hr2⟩ : ∃ r, fhF l r1.1 d ⟨r1.2.rb, r1.2.rs, r1.2.rh, r1.2.rt, r1.2.db, r1.2.ds, r1.2.dc, r1.2.vb, r1.2.vs, r1.2.vc, dm2, sm2, vl2, tos2, id2, ttl2, si2, di2, kind2, sp2, dp2, seq2, ack2, fl2, win2, body2, (body2.size : Int), 1, true, r1.2.dropped⟩ key = r := ⟨_, rfl⟩
  have hp1 : r1.1.length ≤ 1099511627776 := by rw [← hr1, fhF_len]; exact hp
  refine con_i Tryz.func22 Tryz.ntmps22 (t := [(0, .one (.sl 4 (l.map mpE))), (1, .agg [.sl 1 (ps.map strE)]), (2, I d), (3, .agg [V rb, V rs, V rh, V rt, V db, V ds, V dc, V vb, V vs, V vc, V dm, V sm, V vl, V tos, V id, V ttl, V si, V di, V kind, V sp, V dp, V seq, V ack, V fl, V win, VS body, V size, V count, VB hold, V dropped]), (4, Z key), (5, .agg [V dm2, V sm2, V vl2, V tos2, V id2, V ttl2, V si2, V di2, V kind2, V sp2, V dp2, V seq2, V ack2, V fl2, V win2, VS body2]), (6, B coal)]) rfl ?_
  refine vc_sr ?_
  iterate 5 refine vo ?_
  refine vnt ?_
  refine vc_seq' ?_
  refine vc_sr ?_
  refine vo ?_
  refine voc c_impl_RxOk rfl rfl ?_
  iterate 2 refine vo ?_
  refine vsp (fun g1 => ?_) (fun g1 => ?_)
  · iterate 3 refine vof ?_
    iterate 2 refine vo ?_
    iterate 3 refine vof ?_
    refine vo ?_
    refine vnt ?_
    refine vc_then ?_
    refine vc_sr ?_
    refine vo ?_
    refine voc c_impl_copyMemory rfl rfl ?_
    iterate 3 refine vo ?_
    refine vnt ?_
    refine vc_ret ?_
    refine thn_r ?_
    obtain rfl : r = (ps, ⟨rb, rs, rh, rt, db, ds, dc, vb, vs, vc, dm, sm, vl, tos, id, ttl, si, di, kind, sp, dp, seq, ack, fl, win, body, size, count, hold, dropped⟩) := hr.symm.trans (rp_bad (.inl g1))
    refine fin_i [(0, some 256)] rfl (fz ?_) (fz ?_) <;> first | trivial | rfl | simp
  · refine von ?_
    refine vocn c_impl_PacketOk rfl rfl ?_
    refine von ?_
    iterate 2 refine vo ?_
    refine vsp (fun g2 => ?_) (fun g2 => ?_)
    · have pq : (superOkB dm2 sm2 vl2 tos2 id2 ttl2 si2 di2 kind2 sp2 dp2 seq2 ack2 fl2 win2 body2.size && decide (body2.size ≤ 128)) = false := by simpa using g2
      iterate 3 refine vof ?_
      refine vo ?_
      refine vnt ?_
      refine vc_then ?_
      refine vc_sr ?_
      refine vo ?_
      refine voc c_impl_copyMemory rfl rfl ?_
      iterate 3 refine vo ?_
      refine vnt ?_
      refine vc_ret ?_
      refine thn_r ?_
      obtain rfl : r = (ps, ⟨rb, rs, rh, rt, db, ds, dc, vb, vs, vc, dm, sm, vl, tos, id, ttl, si, di, kind, sp, dp, seq, ack, fl, win, body, size, count, hold, dropped⟩) := hr.symm.trans (rp_bad (.inr (.inl pq)))
      refine fin_i [(0, some 256)] rfl (fz ?_) (fz ?_) <;> first | trivial | rfl | simp
    · have pq : (superOkB dm2 sm2 vl2 tos2 id2 ttl2 si2 di2 kind2 sp2 dp2 seq2 ack2 fl2 win2 body2.size && decide (body2.size ≤ 128)) = true := by simpa using g2
      iterate 3 refine von ?_
      refine vo ?_
      refine vnt ?_
      refine vc_if (fun g3 => ?_) (fun g3 => ?_)
      · refine vc_sr ?_
        refine vo ?_
        refine voc c_impl_copyMemory rfl rfl ?_
        iterate 3 refine vo ?_
        refine vnt ?_
        refine vc_ret ?_
        refine thn_r ?_
        obtain rfl : r = (ps, ⟨rb, rs, rh, rt, db, ds, dc, vb, vs, vc, dm, sm, vl, tos, id, ttl, si, di, kind, sp, dp, seq, ack, fl, win, body, size, count, hold, dropped⟩) := hr.symm.trans (rp_bad (.inr (.inr (by omega))))
        refine fin_i [(0, some 256)] rfl (fz ?_) (fz ?_) <;> first | trivial | rfl | simp
      · have hk : key.size = 16 := by omega
        obtain ⟨hsp, hbz⟩ := rp_sz pq
        refine vc_skip ?_
        refine thn ?_
        refine vc_seq' ?_
        refine vc_sr ?_
        iterate 2 refine vo ?_
        refine vsp (fun g4 => ?_) (fun g4 => ?_)
        · iterate 2 refine von ?_
          iterate 2 refine vo ?_
          refine vsp (fun g5 => ?_) (fun g5 => ?_)
          · have hbh := (sup_rng (rx_held g5 g1).1).1.1
            iterate 3 refine von ?_
            refine vocn c_impl_CanJoin rfl rfl ?_
            refine vo ?_
            refine vnt ?_
            refine vc_if (fun g6 => ?_) (fun g6 => ?_)
            · refine vc_sr ?_
              iterate 3 refine vo ?_
              refine voc (c_impl_Join g6) rfl rfl ?_
              iterate 2 refine vo ?_
              refine vnt ?_
              refine vc_sr ?_
              refine vo ?_
              refine voc c_impl_copyMemory rfl rfl ?_
              iterate 3 refine vo ?_
              refine vnt ?_
              refine vc_ret ?_
              refine thn_r ?_
              obtain rfl : r = (ps, ⟨rb, rs, rh, rt, db, ds, dc, vb, vs, vc, dm, sm, vl, tos, id, ttl, si, di, kind, sp, dp, seq, ack, fl2, win, (body ++ body2), size, (count + 1), hold, dropped⟩) := hr.symm.trans (rp_join g1 pq hk g4 g5 g6)
              refine fin_i [(0, some 408)] rfl (fz ?_) (fz ?_) <;> first | trivial | rfl | simp
            · refine vc_skip ?_
              refine thn ?_
              refine vc_sr ?_
              iterate 5 refine vo ?_
              refine voc (c_impl_FlushHeld_r hr1) rfl rfl ?_
              iterate 7 refine vo ?_
              refine vnt ?_
              refine vc_sr ?_
              refine vo ?_
              refine voc c_impl_Single rfl rfl ?_
              iterate 2 refine vo ?_
              refine vnt ?_
              refine vc_sr ?_
              iterate 2 refine vo ?_
              refine vnt ?_
              refine vc_seq' ?_
              refine vc_sr ?_
              iterate 2 refine vo ?_
              refine vnt ?_
              refine vc_if (fun g7 => ?_) (fun g7 => ?_)
              · rw [g4] at g7; cases g7
              · refine vc_skip ?_
                refine thn ?_
                refine vc_sr ?_
                iterate 4 refine vo ?_
                refine vnt ?_
                refine vc_ret ?_
                obtain rfl : r = (r1.1, ⟨r1.2.rb, r1.2.rs, r1.2.rh, r1.2.rt, r1.2.db, r1.2.ds, r1.2.dc, r1.2.vb, r1.2.vs, r1.2.vc, dm2, sm2, vl2, tos2, id2, ttl2, si2, di2, kind2, sp2, dp2, seq2, ack2, fl2, win2, body2, (body2.size : Int), 1, true, r1.2.dropped⟩) := hr.symm.trans (rp_one hr1 g1 pq hk g4 (by rw [g5, g6]; rfl))
                refine fin_i [(0, some 472)] rfl (fz ?_) (fz ?_) <;> first | trivial | rfl | simp
          · iterate 4 refine vof ?_
            refine vo ?_
            refine vnt ?_
            refine vc_else ?_
            refine vc_skip ?_
            refine thn ?_
            refine vc_sr ?_
            iterate 5 refine vo ?_
            refine voc (c_impl_FlushHeld_r hr1) rfl rfl ?_
            iterate 7 refine vo ?_
            refine vnt ?_
            refine vc_sr ?_
            refine vo ?_
            refine voc c_impl_Single rfl rfl ?_
            iterate 2 refine vo ?_
            refine vnt ?_
            refine vc_sr ?_
            iterate 2 refine vo ?_
            refine vnt ?_
            refine vc_seq' ?_
            refine vc_sr ?_
            iterate 2 refine vo ?_
            refine vnt ?_
            refine vc_if (fun g8 => ?_) (fun g8 => ?_)
            · rw [g4] at g8; cases g8
            · refine vc_skip ?_
              refine thn ?_
              refine vc_sr ?_
              iterate 4 refine vo ?_
              refine vnt ?_
              refine vc_ret ?_
              obtain rfl : r = (r1.1, ⟨r1.2.rb, r1.2.rs, r1.2.rh, r1.2.rt, r1.2.db, r1.2.ds, r1.2.dc, r1.2.vb, r1.2.vs, r1.2.vc, dm2, sm2, vl2, tos2, id2, ttl2, si2, di2, kind2, sp2, dp2, seq2, ack2, fl2, win2, body2, (body2.size : Int), 1, true, r1.2.dropped⟩) := hr.symm.trans (rp_one hr1 g1 pq hk g4 (by rw [g5]; rfl))
              refine fin_i [(0, some 472)] rfl (fz ?_) (fz ?_) <;> first | trivial | rfl | simp
        · iterate 2 refine vof ?_
          iterate 2 refine vo ?_
          iterate 4 refine vof ?_
          refine vo ?_
          refine vnt ?_
          refine vc_else ?_
          refine vc_skip ?_
          refine thn ?_
          refine vc_sr ?_
          iterate 5 refine vo ?_
          refine voc (c_impl_FlushHeld_r hr1) rfl rfl ?_
          iterate 7 refine vo ?_
          refine vnt ?_
          refine vc_sr ?_
          refine vo ?_
          refine voc c_impl_Single rfl rfl ?_
          iterate 2 refine vo ?_
          refine vnt ?_
          refine vc_sr ?_
          iterate 2 refine vo ?_
          refine vnt ?_
          refine vc_seq' ?_
          refine vc_sr ?_
          iterate 2 refine vo ?_
          refine vnt ?_
          refine vc_if (fun g9 => ?_) (fun g9 => ?_)
          · refine vc_region ?_
            iterate 5 refine vo ?_
            refine voc (c_impl_FlushHeld_r hr2) rfl rfl ?_
            iterate 5 refine vo ?_
            refine vnt ?_
            refine vc_sr ?_
            iterate 4 refine vo ?_
            refine vnt ?_
            refine vc_ret ?_
            obtain rfl : r = r2 := hr.symm.trans ((rp_two hr1 g1 pq hk g4).trans hr2)
            refine fin_i [(0, some 592)] rfl (fz ?_) (fz ?_) <;> first | trivial | rfl | simp
          · rw [g4] at g9; cases g9
set_option maxHeartbeats 4000000 in
theorem c_spec_ReceivePacket {l : List Mp} {ps : Pg} {d rb rs rh rt db ds dc vb vs vc dm sm vl tos id ttl si di kind sp dp seq ack fl win size count dropped dm2 sm2 vl2 tos2 id2 ttl2 si2 di2 kind2 sp2 dp2 seq2 ack2 fl2 win2 : Int} {body key body2 : ByteArray} {hold coal : Bool} {r : Pg × Rx} (hr : rpF l ps d ⟨rb, rs, rh, rt, db, ds, dc, vb, vs, vc, dm, sm, vl, tos, id, ttl, si, di, kind, sp, dp, seq, ack, fl, win, body, size, count, hold, dropped⟩ key dm2 sm2 vl2 tos2 id2 ttl2 si2 di2 kind2 sp2 dp2 seq2 ack2 fl2 win2 body2 coal = r) (hl : l.length ≤ 1099511627776 := by first | assumption | omega) (hp : ps.length ≤ 1099511627776 := by first | assumption | omega) (hsk : key.size ≤ 1099511627776 := by first | assumption | omega) : Con0 Tryz.prog 20 [.one (.sl 4 (l.map mpE)), .agg [.sl 1 (ps.map strE)], I d, .agg [V rb, V rs, V rh, V rt, V db, V ds, V dc, V vb, V vs, V vc, V dm, V sm, V vl, V tos, V id, V ttl, V si, V di, V kind, V sp, V dp, V seq, V ack, V fl, V win, VS body, V size, V count, VB hold, V dropped], Z key, .agg [V dm2, V sm2, V vl2, V tos2, V id2, V ttl2, V si2, V di2, V kind2, V sp2, V dp2, V seq2, V ack2, V fl2, V win2, VS body2], B coal] (.tup [.agg [.hs 0], .agg [V r.2.rb, V r.2.rs, V r.2.rh, V r.2.rt, V r.2.db, V r.2.ds, V r.2.dc, V r.2.vb, V r.2.vs, V r.2.vc, V r.2.dm, V r.2.sm, V r.2.vl, V r.2.tos, V r.2.id, V r.2.ttl, V r.2.si, V r.2.di, V r.2.kind, V r.2.sp, V r.2.dp, V r.2.seq, V r.2.ack, V r.2.fl, V r.2.win, VS r.2.body, V r.2.size, V r.2.count, VB r.2.hold, V r.2.dropped]]) [(0, .arr 9 1 (r.1.map strE))] := by
  obtain ⟨r1, hr1⟩ : ∃ r, fhF l ps d ⟨rb, rs, rh, rt, db, ds, dc, vb, vs, vc, dm, sm, vl, tos, id, ttl, si, di, kind, sp, dp, seq, ack, fl, win, body, size, count, hold, dropped⟩ key = r := ⟨_, rfl⟩
  obtain ⟨r2, hr2⟩ : ∃ r, fhF l r1.1 d ⟨r1.2.rb, r1.2.rs, r1.2.rh, r1.2.rt, r1.2.db, r1.2.ds, r1.2.dc, r1.2.vb, r1.2.vs, r1.2.vc, dm2, sm2, vl2, tos2, id2, ttl2, si2, di2, kind2, sp2, dp2, seq2, ack2, fl2, win2, body2, (body2.size : Int), 1, true, r1.2.dropped⟩ key = r := ⟨_, rfl⟩
  have hp1 : r1.1.length ≤ 1099511627776 := by rw [← hr1, fhF_len]; exact hp
  refine con_i Tryz.func20 Tryz.ntmps20 (t := [(0, .one (.sl 4 (l.map mpE))), (1, .agg [.sl 1 (ps.map strE)]), (2, I d), (3, .agg [V rb, V rs, V rh, V rt, V db, V ds, V dc, V vb, V vs, V vc, V dm, V sm, V vl, V tos, V id, V ttl, V si, V di, V kind, V sp, V dp, V seq, V ack, V fl, V win, VS body, V size, V count, VB hold, V dropped]), (4, Z key), (5, .agg [V dm2, V sm2, V vl2, V tos2, V id2, V ttl2, V si2, V di2, V kind2, V sp2, V dp2, V seq2, V ack2, V fl2, V win2, VS body2]), (6, B coal)]) rfl ?_
  refine vc_sr ?_
  iterate 5 refine vo ?_
  refine vnt ?_
  refine vc_seq' ?_
  refine vc_sr ?_
  refine vo ?_
  refine voc c_spec_RxOk rfl rfl ?_
  iterate 2 refine vo ?_
  refine vsp (fun g1 => ?_) (fun g1 => ?_)
  · iterate 3 refine vof ?_
    iterate 2 refine vo ?_
    iterate 3 refine vof ?_
    refine vo ?_
    refine vnt ?_
    refine vc_then ?_
    refine vc_sr ?_
    refine vo ?_
    refine voc c_spec_l16Copy rfl rfl ?_
    iterate 3 refine vo ?_
    refine vnt ?_
    refine vc_ret ?_
    refine thn_r ?_
    obtain rfl : r = (ps, ⟨rb, rs, rh, rt, db, ds, dc, vb, vs, vc, dm, sm, vl, tos, id, ttl, si, di, kind, sp, dp, seq, ack, fl, win, body, size, count, hold, dropped⟩) := hr.symm.trans (rp_bad (.inl g1))
    refine fin_i [(0, some 248)] rfl (fz ?_) (fz ?_) <;> first | trivial | rfl | simp
  · refine von ?_
    refine vocn c_spec_PacketOk rfl rfl ?_
    refine von ?_
    iterate 2 refine vo ?_
    refine vsp (fun g2 => ?_) (fun g2 => ?_)
    · have pq : (superOkB dm2 sm2 vl2 tos2 id2 ttl2 si2 di2 kind2 sp2 dp2 seq2 ack2 fl2 win2 body2.size && decide (body2.size ≤ 128)) = false := by simpa using g2
      iterate 3 refine vof ?_
      refine vo ?_
      refine vnt ?_
      refine vc_then ?_
      refine vc_sr ?_
      refine vo ?_
      refine voc c_spec_l16Copy rfl rfl ?_
      iterate 3 refine vo ?_
      refine vnt ?_
      refine vc_ret ?_
      refine thn_r ?_
      obtain rfl : r = (ps, ⟨rb, rs, rh, rt, db, ds, dc, vb, vs, vc, dm, sm, vl, tos, id, ttl, si, di, kind, sp, dp, seq, ack, fl, win, body, size, count, hold, dropped⟩) := hr.symm.trans (rp_bad (.inr (.inl pq)))
      refine fin_i [(0, some 248)] rfl (fz ?_) (fz ?_) <;> first | trivial | rfl | simp
    · have pq : (superOkB dm2 sm2 vl2 tos2 id2 ttl2 si2 di2 kind2 sp2 dp2 seq2 ack2 fl2 win2 body2.size && decide (body2.size ≤ 128)) = true := by simpa using g2
      iterate 3 refine von ?_
      refine vo ?_
      refine vnt ?_
      refine vc_if (fun g3 => ?_) (fun g3 => ?_)
      · refine vc_sr ?_
        refine vo ?_
        refine voc c_spec_l16Copy rfl rfl ?_
        iterate 3 refine vo ?_
        refine vnt ?_
        refine vc_ret ?_
        refine thn_r ?_
        obtain rfl : r = (ps, ⟨rb, rs, rh, rt, db, ds, dc, vb, vs, vc, dm, sm, vl, tos, id, ttl, si, di, kind, sp, dp, seq, ack, fl, win, body, size, count, hold, dropped⟩) := hr.symm.trans (rp_bad (.inr (.inr (by omega))))
        refine fin_i [(0, some 248)] rfl (fz ?_) (fz ?_) <;> first | trivial | rfl | simp
      · have hk : key.size = 16 := by omega
        obtain ⟨hsp, hbz⟩ := rp_sz pq
        refine vc_skip ?_
        refine thn ?_
        refine vc_seq' ?_
        refine vc_sr ?_
        iterate 2 refine vo ?_
        refine vsp (fun g4 => ?_) (fun g4 => ?_)
        · iterate 2 refine von ?_
          iterate 2 refine vo ?_
          refine vsp (fun g5 => ?_) (fun g5 => ?_)
          · have hbh := (sup_rng (rx_held g5 g1).1).1.1
            iterate 3 refine von ?_
            refine vocn c_spec_CanJoin rfl rfl ?_
            refine vo ?_
            refine vnt ?_
            refine vc_if (fun g6 => ?_) (fun g6 => ?_)
            · refine vc_sr ?_
              iterate 3 refine vo ?_
              refine voc (c_spec_Join g6) rfl rfl ?_
              iterate 2 refine vo ?_
              refine vnt ?_
              refine vc_sr ?_
              refine vo ?_
              refine voc c_spec_l16Copy rfl rfl ?_
              iterate 3 refine vo ?_
              refine vnt ?_
              refine vc_ret ?_
              refine thn_r ?_
              obtain rfl : r = (ps, ⟨rb, rs, rh, rt, db, ds, dc, vb, vs, vc, dm, sm, vl, tos, id, ttl, si, di, kind, sp, dp, seq, ack, fl2, win, (body ++ body2), size, (count + 1), hold, dropped⟩) := hr.symm.trans (rp_join g1 pq hk g4 g5 g6)
              refine fin_i [(0, some 400)] rfl (fz ?_) (fz ?_) <;> first | trivial | rfl | simp
            · refine vc_skip ?_
              refine thn ?_
              refine vc_sr ?_
              iterate 5 refine vo ?_
              refine voc (c_spec_FlushHeld_r hr1) rfl rfl ?_
              iterate 6 refine vo ?_
              refine vnt ?_
              refine vc_sr ?_
              refine vo ?_
              refine voc c_spec_Single rfl rfl ?_
              iterate 2 refine vo ?_
              refine vnt ?_
              refine vc_sr ?_
              iterate 2 refine vo ?_
              refine vnt ?_
              refine vc_seq' ?_
              refine vc_sr ?_
              iterate 2 refine vo ?_
              refine vnt ?_
              refine vc_if (fun g7 => ?_) (fun g7 => ?_)
              · rw [g4] at g7; cases g7
              · refine vc_skip ?_
                refine thn ?_
                refine vc_sr ?_
                iterate 4 refine vo ?_
                refine vnt ?_
                refine vc_ret ?_
                obtain rfl : r = (r1.1, ⟨r1.2.rb, r1.2.rs, r1.2.rh, r1.2.rt, r1.2.db, r1.2.ds, r1.2.dc, r1.2.vb, r1.2.vs, r1.2.vc, dm2, sm2, vl2, tos2, id2, ttl2, si2, di2, kind2, sp2, dp2, seq2, ack2, fl2, win2, body2, (body2.size : Int), 1, true, r1.2.dropped⟩) := hr.symm.trans (rp_one hr1 g1 pq hk g4 (by rw [g5, g6]; rfl))
                refine fin_i [(0, some 464)] rfl (fz ?_) (fz ?_) <;> first | trivial | rfl | simp
          · iterate 4 refine vof ?_
            refine vo ?_
            refine vnt ?_
            refine vc_else ?_
            refine vc_skip ?_
            refine thn ?_
            refine vc_sr ?_
            iterate 5 refine vo ?_
            refine voc (c_spec_FlushHeld_r hr1) rfl rfl ?_
            iterate 6 refine vo ?_
            refine vnt ?_
            refine vc_sr ?_
            refine vo ?_
            refine voc c_spec_Single rfl rfl ?_
            iterate 2 refine vo ?_
            refine vnt ?_
            refine vc_sr ?_
            iterate 2 refine vo ?_
            refine vnt ?_
            refine vc_seq' ?_
            refine vc_sr ?_
            iterate 2 refine vo ?_
            refine vnt ?_
            refine vc_if (fun g8 => ?_) (fun g8 => ?_)
            · rw [g4] at g8; cases g8
            · refine vc_skip ?_
              refine thn ?_
              refine vc_sr ?_
              iterate 4 refine vo ?_
              refine vnt ?_
              refine vc_ret ?_
              obtain rfl : r = (r1.1, ⟨r1.2.rb, r1.2.rs, r1.2.rh, r1.2.rt, r1.2.db, r1.2.ds, r1.2.dc, r1.2.vb, r1.2.vs, r1.2.vc, dm2, sm2, vl2, tos2, id2, ttl2, si2, di2, kind2, sp2, dp2, seq2, ack2, fl2, win2, body2, (body2.size : Int), 1, true, r1.2.dropped⟩) := hr.symm.trans (rp_one hr1 g1 pq hk g4 (by rw [g5]; rfl))
              refine fin_i [(0, some 464)] rfl (fz ?_) (fz ?_) <;> first | trivial | rfl | simp
        · iterate 2 refine vof ?_
          iterate 2 refine vo ?_
          iterate 4 refine vof ?_
          refine vo ?_
          refine vnt ?_
          refine vc_else ?_
          refine vc_skip ?_
          refine thn ?_
          refine vc_sr ?_
          iterate 5 refine vo ?_
          refine voc (c_spec_FlushHeld_r hr1) rfl rfl ?_
          iterate 6 refine vo ?_
          refine vnt ?_
          refine vc_sr ?_
          refine vo ?_
          refine voc c_spec_Single rfl rfl ?_
          iterate 2 refine vo ?_
          refine vnt ?_
          refine vc_sr ?_
          iterate 2 refine vo ?_
          refine vnt ?_
          refine vc_seq' ?_
          refine vc_sr ?_
          iterate 2 refine vo ?_
          refine vnt ?_
          refine vc_if (fun g9 => ?_) (fun g9 => ?_)
          · refine vc_region ?_
            iterate 5 refine vo ?_
            refine voc (c_spec_FlushHeld_r hr2) rfl rfl ?_
            iterate 5 refine vo ?_
            refine vnt ?_
            refine vc_sr ?_
            iterate 4 refine vo ?_
            refine vnt ?_
            refine vc_ret ?_
            obtain rfl : r = r2 := hr.symm.trans ((rp_two hr1 g1 pq hk g4).trans hr2)
            refine fin_i [(0, some 584)] rfl (fz ?_) (fz ?_) <;> first | trivial | rfl | simp
          · rw [g4] at g9; cases g9
end Go.Proofs.YtncmlleohgeofaaGreat
end
section
namespace Go.Proofs.YtncmlleohgeofaaGreat
open Go.RowKit
set_option linter.unusedVariables false
set_option linter.unusedSimpArgs false
def Keep (ps qs : Pg) : Prop := qs.length = ps.length ∧ ((∀ p ∈ ps, p.size ≤ maxLen) → ∀ p ∈ qs, p.size ≤ maxLen)
theorem Keep.refl (ps : Pg) : Keep ps ps := ⟨rfl, id⟩
theorem Keep.trans {a b c : Pg} (h : Keep a b) (k : Keep b c) : Keep a c := ⟨k.1.trans h.1, fun g => k.2 (h.2 g)⟩
theorem keep_dma (l : List Mp) (ps : Pg) (d a : Int) (s : ByteArray) (wt : Bool) : Keep ps (dmaWF l ps d a s wt).1 := by
  unfold dmaWF
  split
  · rename_i qs h
    obtain ⟨h1, h2, _⟩ := dmaW_ok h
    refine ⟨h2, fun _ p hp => ?_⟩
    obtain ⟨i, hi, rfl⟩ := List.getElem_of_mem hp
    have e : qs[i].size = 128 := h1.2 i hi
    show qs[i].size ≤ maxLen
    unfold maxLen; omega
  · exact .refl ps
theorem keep_put (l : List Mp) (ps : Pg) (d b s c x1 x2 x3 x4 x5 : Int) : Keep ps (putC l ps d b s c x1 x2 x3 x4 x5).1 := by
  unfold putC
  split
  · split
    · have h := keep_dma l ps d (slotC b s c) (encC x1 x2 x3 x4 x5 (phaseC s c)) true
      split <;> rename_i e
      · rw [e] at h; exact h
      · exact .refl ps
    · exact .refl ps
  · exact .refl ps
theorem markMappingS_i {w0 w : World} {Js : List Asn} {v : Value} {l : List Mp} (q : Nat) {k : Int} (HS : St w0 w (ownA l [v] :: Js)) (h1 : q + 4 * l.length ≤ 4611686018427386000) (hk : k = (q : Int)) :
    Calls Tryz.prog 16 #[v, .int .i64 k] w (fun e w' => e = .returned (.int .i64 ((q + 4 * l.length : Nat) : Int)) ∧ St w0 w' (ownA (markMp l.length q) [v] :: Js)) := hk ▸ markMappingS_st v l q w HS h1
theorem markMemory_i {w0 w : World} {Js : List Asn} {v : Value} {ps : Pg} (q : Nat) {k : Int} (HS : St w0 w (ownA ps [v] :: Js)) (h0 : 0 < q) (h1 : q + ps.length ≤ 4611686018427387903) (hk : k = (q : Int)) :
    Calls Tryz.prog 17 #[.agg #[v], .int .i64 k] w (fun e w' => e = .returned (.int .i64 ((q + ps.length : Nat) : Int)) ∧ St w0 w' (ownA (mtexts ps.length q) [v] :: Js)) := hk ▸ markMemory_st v ps q w HS h0 h1
theorem heldMemory_i {w : World} {v : Value} (n q : Nat) {k : Int} (k1 : Holds w (mtexts n q) [v]) (h0 : 0 < q) (h1 : q + n ≤ 4611686018427387903) (hk : k = (q : Int)) :
    Calls Tryz.prog 18 #[.agg #[v], .int .i64 k] w fun e w' => e = .returned (.int .i64 ((q + n : Nat) : Int)) ∧ Ex w w' := hk ▸ heldMemory_any v n q w k1 h0 h1
theorem keep_st (l : List Mp) (ps : Pg) (d db ds dc dm sm vl tos id ttl si di kind sp dp seq ack fl win : Int) (body : ByteArray) (size count : Int) (key entry : ByteArray) : Keep ps (stF l ps d db ds dc dm sm vl tos id ttl si di kind sp dp seq ack fl win body size count key entry).1 := by
  unfold stF
  split
  · split
    · exact (keep_dma ..).trans (keep_put ..)
    · exact .refl ps
  · exact .refl ps
theorem keep_bif {b : Bool} {ps qs : Pg} (h : Keep ps qs) : Keep ps (bif b then qs else ps) := by cases b <;> first | exact h | exact .refl ps
theorem keep_fh (l : List Mp) (ps : Pg) (d : Int) (q : Rx) (key : ByteArray) : Keep ps (fhF l ps d q key).1 := by
  unfold fhF
  exact keep_bif (keep_st ..)
theorem keep_rp {l : List Mp} {ps : Pg} {d : Int} {q : Rx} {key : ByteArray} {x1 x2 x3 x4 x5 x6 x7 x8 x9 x10 x11 x12 x13 x14 x15 : Int} {b : ByteArray} {coal : Bool} : Keep ps (rpF l ps d q key x1 x2 x3 x4 x5 x6 x7 x8 x9 x10 x11 x12 x13 x14 x15 b coal).1 := by
  unfold rpF
  split
  · split
    · exact .refl ps
    · cases coal
      · exact (keep_fh ..).trans (keep_fh ..)
      · exact keep_fh ..
  · exact .refl ps
section
open Go.Vc
theorem both_ReceivePacket (aListD : List Mp) (aMD : Pg) (aDomain : Int) (aQ_Ring_Base : Int) (aQ_Ring_Size : Int) (aQ_Ring_Head : Int) (aQ_Ring_Tail : Int) (aQ_Device_Base : Int) (aQ_Device_Size : Int) (aQ_Device_Count : Int) (aQ_Driver_Base : Int) (aQ_Driver_Size : Int) (aQ_Driver_Count : Int) (aQ_Held_Packet_DstMac : Int) (aQ_Held_Packet_SrcMac : Int) (aQ_Held_Packet_Vlan : Int) (aQ_Held_Packet_Tos : Int) (aQ_Held_Packet_Id : Int) (aQ_Held_Packet_Ttl : Int) (aQ_Held_Packet_SrcIp : Int) (aQ_Held_Packet_DstIp : Int) (aQ_Held_Packet_Seg_Kind : Int) (aQ_Held_Packet_Seg_SrcPort : Int) (aQ_Held_Packet_Seg_DstPort : Int) (aQ_Held_Packet_Seg_Seq : Int) (aQ_Held_Packet_Seg_Ack : Int) (aQ_Held_Packet_Seg_Flags : Int) (aQ_Held_Packet_Seg_Window : Int) (aQ_Held_Packet_Seg_Body : ByteArray) (aQ_Held_Size : Int) (aQ_Held_Count : Int) (aQ_Holding : Bool) (aQ_Dropped : Int) (aKey : ByteArray) (aP_DstMac : Int) (aP_SrcMac : Int) (aP_Vlan : Int) (aP_Tos : Int) (aP_Id : Int) (aP_Ttl : Int) (aP_SrcIp : Int) (aP_DstIp : Int) (aP_Seg_Kind : Int) (aP_Seg_SrcPort : Int) (aP_Seg_DstPort : Int) (aP_Seg_Seq : Int) (aP_Seg_Ack : Int) (aP_Seg_Flags : Int) (aP_Seg_Window : Int) (aP_Seg_Body : ByteArray) (aCoalesce : Bool) (hl : aListD.length ≤ 1099511627776) (hp : aMD.length ≤ 1099511627776) (hsk : aKey.size ≤ 1099511627776) (hok : ∀ p ∈ aMD, p.size ≤ maxLen) : ∃ (qs : Pg) (aQ_Ring_Base9 : Int) (aQ_Ring_Size9 : Int) (aQ_Ring_Head9 : Int) (aQ_Ring_Tail9 : Int) (aQ_Device_Base9 : Int) (aQ_Device_Size9 : Int) (aQ_Device_Count9 : Int) (aQ_Driver_Base9 : Int) (aQ_Driver_Size9 : Int) (aQ_Driver_Count9 : Int) (aQ_Held_Packet_DstMac9 : Int) (aQ_Held_Packet_SrcMac9 : Int) (aQ_Held_Packet_Vlan9 : Int) (aQ_Held_Packet_Tos9 : Int) (aQ_Held_Packet_Id9 : Int) (aQ_Held_Packet_Ttl9 : Int) (aQ_Held_Packet_SrcIp9 : Int) (aQ_Held_Packet_DstIp9 : Int) (aQ_Held_Packet_Seg_Kind9 : Int) (aQ_Held_Packet_Seg_SrcPort9 : Int) (aQ_Held_Packet_Seg_DstPort9 : Int) (aQ_Held_Packet_Seg_Seq9 : Int) (aQ_Held_Packet_Seg_Ack9 : Int) (aQ_Held_Packet_Seg_Flags9 : Int) (aQ_Held_Packet_Seg_Window9 : Int) (aQ_Held_Packet_Seg_Body9 : ByteArray) (aQ_Held_Size9 : Int) (aQ_Held_Count9 : Int) (aQ_Holding9 : Bool) (aQ_Dropped9 : Int), qs.length = aMD.length ∧ (∀ (w : World) (v1 v2 : Value), Holds w aListD [v1] → Holds w aMD [v2] → Calls Tryz.prog 22 #[v1, .agg #[v2], .int .i64 aDomain, .agg #[.int .i64 aQ_Ring_Base, .int .i64 aQ_Ring_Size, .int .i64 aQ_Ring_Head, .int .i64 aQ_Ring_Tail, .int .i64 aQ_Device_Base, .int .i64 aQ_Device_Size, .int .i64 aQ_Device_Count, .int .i64 aQ_Driver_Base, .int .i64 aQ_Driver_Size, .int .i64 aQ_Driver_Count, .int .i64 aQ_Held_Packet_DstMac, .int .i64 aQ_Held_Packet_SrcMac, .int .i64 aQ_Held_Packet_Vlan, .int .i64 aQ_Held_Packet_Tos, .int .i64 aQ_Held_Packet_Id, .int .i64 aQ_Held_Packet_Ttl, .int .i64 aQ_Held_Packet_SrcIp, .int .i64 aQ_Held_Packet_DstIp, .int .i64 aQ_Held_Packet_Seg_Kind, .int .i64 aQ_Held_Packet_Seg_SrcPort, .int .i64 aQ_Held_Packet_Seg_DstPort, .int .i64 aQ_Held_Packet_Seg_Seq, .int .i64 aQ_Held_Packet_Seg_Ack, .int .i64 aQ_Held_Packet_Seg_Flags, .int .i64 aQ_Held_Packet_Seg_Window, .string aQ_Held_Packet_Seg_Body, .int .i64 aQ_Held_Size, .int .i64 aQ_Held_Count, .bool aQ_Holding, .int .i64 aQ_Dropped], .string aKey, .agg #[.int .i64 aP_DstMac, .int .i64 aP_SrcMac, .int .i64 aP_Vlan, .int .i64 aP_Tos, .int .i64 aP_Id, .int .i64 aP_Ttl, .int .i64 aP_SrcIp, .int .i64 aP_DstIp, .int .i64 aP_Seg_Kind, .int .i64 aP_Seg_SrcPort, .int .i64 aP_Seg_DstPort, .int .i64 aP_Seg_Seq, .int .i64 aP_Seg_Ack, .int .i64 aP_Seg_Flags, .int .i64 aP_Seg_Window, .string aP_Seg_Body], .bool aCoalesce] w fun e w' => ∃ a c, e = .returned (.tuple #[.agg #[.slice a qs.length c], .agg #[.int .i64 aQ_Ring_Base9, .int .i64 aQ_Ring_Size9, .int .i64 aQ_Ring_Head9, .int .i64 aQ_Ring_Tail9, .int .i64 aQ_Device_Base9, .int .i64 aQ_Device_Size9, .int .i64 aQ_Device_Count9, .int .i64 aQ_Driver_Base9, .int .i64 aQ_Driver_Size9, .int .i64 aQ_Driver_Count9, .int .i64 aQ_Held_Packet_DstMac9, .int .i64 aQ_Held_Packet_SrcMac9, .int .i64 aQ_Held_Packet_Vlan9, .int .i64 aQ_Held_Packet_Tos9, .int .i64 aQ_Held_Packet_Id9, .int .i64 aQ_Held_Packet_Ttl9, .int .i64 aQ_Held_Packet_SrcIp9, .int .i64 aQ_Held_Packet_DstIp9, .int .i64 aQ_Held_Packet_Seg_Kind9, .int .i64 aQ_Held_Packet_Seg_SrcPort9, .int .i64 aQ_Held_Packet_Seg_DstPort9, .int .i64 aQ_Held_Packet_Seg_Seq9, .int .i64 aQ_Held_Packet_Seg_Ack9, .int .i64 aQ_Held_Packet_Seg_Flags9, .int .i64 aQ_Held_Packet_Seg_Window9, .string aQ_Held_Packet_Seg_Body9, .int .i64 aQ_Held_Size9, .int .i64 aQ_Held_Count9, .bool aQ_Holding9, .int .i64 aQ_Dropped9]]) ∧ Owns w.heap.size w' qs [.slice a qs.length c] ∧ Ex w w') ∧ (∀ (w : World) (v1 v2 : Value), Holds w aListD [v1] → Holds w aMD [v2] → Calls Tryz.prog 20 #[v1, .agg #[v2], .int .i64 aDomain, .agg #[.int .i64 aQ_Ring_Base, .int .i64 aQ_Ring_Size, .int .i64 aQ_Ring_Head, .int .i64 aQ_Ring_Tail, .int .i64 aQ_Device_Base, .int .i64 aQ_Device_Size, .int .i64 aQ_Device_Count, .int .i64 aQ_Driver_Base, .int .i64 aQ_Driver_Size, .int .i64 aQ_Driver_Count, .int .i64 aQ_Held_Packet_DstMac, .int .i64 aQ_Held_Packet_SrcMac, .int .i64 aQ_Held_Packet_Vlan, .int .i64 aQ_Held_Packet_Tos, .int .i64 aQ_Held_Packet_Id, .int .i64 aQ_Held_Packet_Ttl, .int .i64 aQ_Held_Packet_SrcIp, .int .i64 aQ_Held_Packet_DstIp, .int .i64 aQ_Held_Packet_Seg_Kind, .int .i64 aQ_Held_Packet_Seg_SrcPort, .int .i64 aQ_Held_Packet_Seg_DstPort, .int .i64 aQ_Held_Packet_Seg_Seq, .int .i64 aQ_Held_Packet_Seg_Ack, .int .i64 aQ_Held_Packet_Seg_Flags, .int .i64 aQ_Held_Packet_Seg_Window, .string aQ_Held_Packet_Seg_Body, .int .i64 aQ_Held_Size, .int .i64 aQ_Held_Count, .bool aQ_Holding, .int .i64 aQ_Dropped], .string aKey, .agg #[.int .i64 aP_DstMac, .int .i64 aP_SrcMac, .int .i64 aP_Vlan, .int .i64 aP_Tos, .int .i64 aP_Id, .int .i64 aP_Ttl, .int .i64 aP_SrcIp, .int .i64 aP_DstIp, .int .i64 aP_Seg_Kind, .int .i64 aP_Seg_SrcPort, .int .i64 aP_Seg_DstPort, .int .i64 aP_Seg_Seq, .int .i64 aP_Seg_Ack, .int .i64 aP_Seg_Flags, .int .i64 aP_Seg_Window, .string aP_Seg_Body], .bool aCoalesce] w fun e w' => ∃ a c, e = .returned (.tuple #[.agg #[.slice a qs.length c], .agg #[.int .i64 aQ_Ring_Base9, .int .i64 aQ_Ring_Size9, .int .i64 aQ_Ring_Head9, .int .i64 aQ_Ring_Tail9, .int .i64 aQ_Device_Base9, .int .i64 aQ_Device_Size9, .int .i64 aQ_Device_Count9, .int .i64 aQ_Driver_Base9, .int .i64 aQ_Driver_Size9, .int .i64 aQ_Driver_Count9, .int .i64 aQ_Held_Packet_DstMac9, .int .i64 aQ_Held_Packet_SrcMac9, .int .i64 aQ_Held_Packet_Vlan9, .int .i64 aQ_Held_Packet_Tos9, .int .i64 aQ_Held_Packet_Id9, .int .i64 aQ_Held_Packet_Ttl9, .int .i64 aQ_Held_Packet_SrcIp9, .int .i64 aQ_Held_Packet_DstIp9, .int .i64 aQ_Held_Packet_Seg_Kind9, .int .i64 aQ_Held_Packet_Seg_SrcPort9, .int .i64 aQ_Held_Packet_Seg_DstPort9, .int .i64 aQ_Held_Packet_Seg_Seq9, .int .i64 aQ_Held_Packet_Seg_Ack9, .int .i64 aQ_Held_Packet_Seg_Flags9, .int .i64 aQ_Held_Packet_Seg_Window9, .string aQ_Held_Packet_Seg_Body9, .int .i64 aQ_Held_Size9, .int .i64 aQ_Held_Count9, .bool aQ_Holding9, .int .i64 aQ_Dropped9]]) ∧ Owns w.heap.size w' qs [.slice a qs.length c] ∧ Ex w w') := by
  refine ⟨_, _, _, _, _, _, _, _, _, _, _, _, _, _, _, _, _, _, _, _, _, _, _, _, _, _, _, _, _, _, _, ?_, fun w v1 v2 h1 h2 => old_mem (cs := [_, _, _, _, _, _, _, _, _, _, _, _, _, _, _, _, _, _, _, _, _, _, _, _, _, _, _, _, _, _]) (c_impl_ReceivePacket rfl) (.cons (ab_mps h1) (.cons (ab_mem h2) (.cons ⟨rfl, rfl⟩ (.cons (ab_agg [.int .i64 aQ_Ring_Base, .int .i64 aQ_Ring_Size, .int .i64 aQ_Ring_Head, .int .i64 aQ_Ring_Tail, .int .i64 aQ_Device_Base, .int .i64 aQ_Device_Size, .int .i64 aQ_Device_Count, .int .i64 aQ_Driver_Base, .int .i64 aQ_Driver_Size, .int .i64 aQ_Driver_Count, .int .i64 aQ_Held_Packet_DstMac, .int .i64 aQ_Held_Packet_SrcMac, .int .i64 aQ_Held_Packet_Vlan, .int .i64 aQ_Held_Packet_Tos, .int .i64 aQ_Held_Packet_Id, .int .i64 aQ_Held_Packet_Ttl, .int .i64 aQ_Held_Packet_SrcIp, .int .i64 aQ_Held_Packet_DstIp, .int .i64 aQ_Held_Packet_Seg_Kind, .int .i64 aQ_Held_Packet_Seg_SrcPort, .int .i64 aQ_Held_Packet_Seg_DstPort, .int .i64 aQ_Held_Packet_Seg_Seq, .int .i64 aQ_Held_Packet_Seg_Ack, .int .i64 aQ_Held_Packet_Seg_Flags, .int .i64 aQ_Held_Packet_Seg_Window, .string aQ_Held_Packet_Seg_Body, .int .i64 aQ_Held_Size, .int .i64 aQ_Held_Count, .bool aQ_Holding, .int .i64 aQ_Dropped] rfl) (.cons ⟨rfl, rfl⟩ (.cons (ab_agg [.int .i64 aP_DstMac, .int .i64 aP_SrcMac, .int .i64 aP_Vlan, .int .i64 aP_Tos, .int .i64 aP_Id, .int .i64 aP_Ttl, .int .i64 aP_SrcIp, .int .i64 aP_DstIp, .int .i64 aP_Seg_Kind, .int .i64 aP_Seg_SrcPort, .int .i64 aP_Seg_DstPort, .int .i64 aP_Seg_Seq, .int .i64 aP_Seg_Ack, .int .i64 aP_Seg_Flags, .int .i64 aP_Seg_Window, .string aP_Seg_Body] rfl) (.cons ⟨rfl, rfl⟩ .nil))))))) ?_, fun w v1 v2 h1 h2 => old_mem (cs := [_, _, _, _, _, _, _, _, _, _, _, _, _, _, _, _, _, _, _, _, _, _, _, _, _, _, _, _, _, _]) (c_spec_ReceivePacket rfl) (.cons (ab_mps h1) (.cons (ab_mem h2) (.cons ⟨rfl, rfl⟩ (.cons (ab_agg [.int .i64 aQ_Ring_Base, .int .i64 aQ_Ring_Size, .int .i64 aQ_Ring_Head, .int .i64 aQ_Ring_Tail, .int .i64 aQ_Device_Base, .int .i64 aQ_Device_Size, .int .i64 aQ_Device_Count, .int .i64 aQ_Driver_Base, .int .i64 aQ_Driver_Size, .int .i64 aQ_Driver_Count, .int .i64 aQ_Held_Packet_DstMac, .int .i64 aQ_Held_Packet_SrcMac, .int .i64 aQ_Held_Packet_Vlan, .int .i64 aQ_Held_Packet_Tos, .int .i64 aQ_Held_Packet_Id, .int .i64 aQ_Held_Packet_Ttl, .int .i64 aQ_Held_Packet_SrcIp, .int .i64 aQ_Held_Packet_DstIp, .int .i64 aQ_Held_Packet_Seg_Kind, .int .i64 aQ_Held_Packet_Seg_SrcPort, .int .i64 aQ_Held_Packet_Seg_DstPort, .int .i64 aQ_Held_Packet_Seg_Seq, .int .i64 aQ_Held_Packet_Seg_Ack, .int .i64 aQ_Held_Packet_Seg_Flags, .int .i64 aQ_Held_Packet_Seg_Window, .string aQ_Held_Packet_Seg_Body, .int .i64 aQ_Held_Size, .int .i64 aQ_Held_Count, .bool aQ_Holding, .int .i64 aQ_Dropped] rfl) (.cons ⟨rfl, rfl⟩ (.cons (ab_agg [.int .i64 aP_DstMac, .int .i64 aP_SrcMac, .int .i64 aP_Vlan, .int .i64 aP_Tos, .int .i64 aP_Id, .int .i64 aP_Ttl, .int .i64 aP_SrcIp, .int .i64 aP_DstIp, .int .i64 aP_Seg_Kind, .int .i64 aP_Seg_SrcPort, .int .i64 aP_Seg_DstPort, .int .i64 aP_Seg_Seq, .int .i64 aP_Seg_Ack, .int .i64 aP_Seg_Flags, .int .i64 aP_Seg_Window, .string aP_Seg_Body] rfl) (.cons ⟨rfl, rfl⟩ .nil))))))) ?_⟩
  · exact (keep_rp).1
  all_goals exact (keep_rp).2 hok
end
set_option maxRecDepth 100000 in
set_option maxHeartbeats 16000000 in
theorem walk_FnExactReceivePacket (w : World) (aList : Value) (aListD : List (Int × Int × Int × Bool)) (haList : Holds w aListD [aList]) (aM : Array Value) (aMD : List ByteArray) (haM : Holds w aMD aM.toList) (aDomain : Int) (haDomain : i64ok aDomain) (aQ_Ring_Base : Int) (haQ_Ring_Base : i64ok aQ_Ring_Base) (aQ_Ring_Size : Int) (haQ_Ring_Size : i64ok aQ_Ring_Size) (aQ_Ring_Head : Int) (haQ_Ring_Head : i64ok aQ_Ring_Head) (aQ_Ring_Tail : Int) (haQ_Ring_Tail : i64ok aQ_Ring_Tail) (aQ_Device_Base : Int) (haQ_Device_Base : i64ok aQ_Device_Base) (aQ_Device_Size : Int) (haQ_Device_Size : i64ok aQ_Device_Size) (aQ_Device_Count : Int) (haQ_Device_Count : i64ok aQ_Device_Count) (aQ_Driver_Base : Int) (haQ_Driver_Base : i64ok aQ_Driver_Base) (aQ_Driver_Size : Int) (haQ_Driver_Size : i64ok aQ_Driver_Size) (aQ_Driver_Count : Int) (haQ_Driver_Count : i64ok aQ_Driver_Count) (aQ_Held_Packet_DstMac : Int) (haQ_Held_Packet_DstMac : i64ok aQ_Held_Packet_DstMac) (aQ_Held_Packet_SrcMac : Int) (haQ_Held_Packet_SrcMac : i64ok aQ_Held_Packet_SrcMac) (aQ_Held_Packet_Vlan : Int) (haQ_Held_Packet_Vlan : i64ok aQ_Held_Packet_Vlan) (aQ_Held_Packet_Tos : Int) (haQ_Held_Packet_Tos : i64ok aQ_Held_Packet_Tos) (aQ_Held_Packet_Id : Int) (haQ_Held_Packet_Id : i64ok aQ_Held_Packet_Id) (aQ_Held_Packet_Ttl : Int) (haQ_Held_Packet_Ttl : i64ok aQ_Held_Packet_Ttl) (aQ_Held_Packet_SrcIp : Int) (haQ_Held_Packet_SrcIp : i64ok aQ_Held_Packet_SrcIp) (aQ_Held_Packet_DstIp : Int) (haQ_Held_Packet_DstIp : i64ok aQ_Held_Packet_DstIp) (aQ_Held_Packet_Seg_Kind : Int) (haQ_Held_Packet_Seg_Kind : i64ok aQ_Held_Packet_Seg_Kind) (aQ_Held_Packet_Seg_SrcPort : Int) (haQ_Held_Packet_Seg_SrcPort : i64ok aQ_Held_Packet_Seg_SrcPort) (aQ_Held_Packet_Seg_DstPort : Int) (haQ_Held_Packet_Seg_DstPort : i64ok aQ_Held_Packet_Seg_DstPort) (aQ_Held_Packet_Seg_Seq : Int) (haQ_Held_Packet_Seg_Seq : i64ok aQ_Held_Packet_Seg_Seq) (aQ_Held_Packet_Seg_Ack : Int) (haQ_Held_Packet_Seg_Ack : i64ok aQ_Held_Packet_Seg_Ack) (aQ_Held_Packet_Seg_Flags : Int) (haQ_Held_Packet_Seg_Flags : i64ok aQ_Held_Packet_Seg_Flags) (aQ_Held_Packet_Seg_Window : Int) (haQ_Held_Packet_Seg_Window : i64ok aQ_Held_Packet_Seg_Window) (aQ_Held_Packet_Seg_Body : ByteArray) (haQ_Held_Packet_Seg_Body : aQ_Held_Packet_Seg_Body.size ≤ maxLen) (aQ_Held_Size : Int) (haQ_Held_Size : i64ok aQ_Held_Size) (aQ_Held_Count : Int) (haQ_Held_Count : i64ok aQ_Held_Count) (aQ_Holding : Bool) (aQ_Dropped : Int) (haQ_Dropped : i64ok aQ_Dropped) (aKey : ByteArray) (haKey : aKey.size ≤ maxLen) (aP_DstMac : Int) (haP_DstMac : i64ok aP_DstMac) (aP_SrcMac : Int) (haP_SrcMac : i64ok aP_SrcMac) (aP_Vlan : Int) (haP_Vlan : i64ok aP_Vlan) (aP_Tos : Int) (haP_Tos : i64ok aP_Tos) (aP_Id : Int) (haP_Id : i64ok aP_Id) (aP_Ttl : Int) (haP_Ttl : i64ok aP_Ttl) (aP_SrcIp : Int) (haP_SrcIp : i64ok aP_SrcIp) (aP_DstIp : Int) (haP_DstIp : i64ok aP_DstIp) (aP_Seg_Kind : Int) (haP_Seg_Kind : i64ok aP_Seg_Kind) (aP_Seg_SrcPort : Int) (haP_Seg_SrcPort : i64ok aP_Seg_SrcPort) (aP_Seg_DstPort : Int) (haP_Seg_DstPort : i64ok aP_Seg_DstPort) (aP_Seg_Seq : Int) (haP_Seg_Seq : i64ok aP_Seg_Seq) (aP_Seg_Ack : Int) (haP_Seg_Ack : i64ok aP_Seg_Ack) (aP_Seg_Flags : Int) (haP_Seg_Flags : i64ok aP_Seg_Flags) (aP_Seg_Window : Int) (haP_Seg_Window : i64ok aP_Seg_Window) (aP_Seg_Body : ByteArray) (haP_Seg_Body : aP_Seg_Body.size ≤ maxLen) (aCoalesce : Bool) :
    Calls Tryz.prog 4 #[aList, .agg aM, .int .i64 aDomain, .agg #[.int .i64 aQ_Ring_Base, .int .i64 aQ_Ring_Size, .int .i64 aQ_Ring_Head, .int .i64 aQ_Ring_Tail, .int .i64 aQ_Device_Base, .int .i64 aQ_Device_Size, .int .i64 aQ_Device_Count, .int .i64 aQ_Driver_Base, .int .i64 aQ_Driver_Size, .int .i64 aQ_Driver_Count, .int .i64 aQ_Held_Packet_DstMac, .int .i64 aQ_Held_Packet_SrcMac, .int .i64 aQ_Held_Packet_Vlan, .int .i64 aQ_Held_Packet_Tos, .int .i64 aQ_Held_Packet_Id, .int .i64 aQ_Held_Packet_Ttl, .int .i64 aQ_Held_Packet_SrcIp, .int .i64 aQ_Held_Packet_DstIp, .int .i64 aQ_Held_Packet_Seg_Kind, .int .i64 aQ_Held_Packet_Seg_SrcPort, .int .i64 aQ_Held_Packet_Seg_DstPort, .int .i64 aQ_Held_Packet_Seg_Seq, .int .i64 aQ_Held_Packet_Seg_Ack, .int .i64 aQ_Held_Packet_Seg_Flags, .int .i64 aQ_Held_Packet_Seg_Window, .string aQ_Held_Packet_Seg_Body, .int .i64 aQ_Held_Size, .int .i64 aQ_Held_Count, .bool aQ_Holding, .int .i64 aQ_Dropped], .string aKey, .agg #[.int .i64 aP_DstMac, .int .i64 aP_SrcMac, .int .i64 aP_Vlan, .int .i64 aP_Tos, .int .i64 aP_Id, .int .i64 aP_Ttl, .int .i64 aP_SrcIp, .int .i64 aP_DstIp, .int .i64 aP_Seg_Kind, .int .i64 aP_Seg_SrcPort, .int .i64 aP_Seg_DstPort, .int .i64 aP_Seg_Seq, .int .i64 aP_Seg_Ack, .int .i64 aP_Seg_Flags, .int .i64 aP_Seg_Window, .string aP_Seg_Body], .bool aCoalesce] w fun e w' => e = .returned (.bool true) ∧ Ex w w' := by
  obtain ⟨AA, cap, rfl, z1, z2⟩ := haList.fl
  unfold maxLen at z2
  obtain ⟨vM, rfl⟩ : ∃ v, aM = #[v] := by
    obtain ⟨bs, a, c, hv, _⟩ := haM
    exact ⟨_, Array.toList_inj.1 hv⟩
  have k2 : Holds w aMD [vM] := haM
  have k1 := haList
  obtain ⟨BB, cap2, rfl, y1, y2⟩ := k2.fl
  unfold maxLen at y2
  clear haM haList
  by_cases hb0 : (1048576 : Int) < (aKey.size : Int)
  case pos =>
    have HS := St.start w
    go_enter Tryz.func4, Tryz.ntmps4
    go_wp2_with (first
          | ((with_reducible (show wpList _ _ _ (Oper.mk (some 8) (Op.box _ _) _ _ _ _ :: _) _ _)); refine wpList_box_st (o := ⟨some 8, .box _ _, _, _, _, _⟩) rfl _ _ rfl (v := .agg (List.toArray _)) rfl HS ?_; clear HS; intro w8 b8 hb8 HS; simp only [Value.cells] at HS)
          | ((with_reducible (show wpList _ _ _ (Oper.mk (some 8) (Op.box _ _) _ _ _ _ :: _) _ _)); refine wpList_box_st (o := ⟨some 8, .box _ _, _, _, _, _⟩) rfl _ _ rfl (v := .agg _) rfl HS ?_; clear HS; intro w8 b8 hb8 HS; simp only [Value.cells] at HS)
          | ((with_reducible (show wpList _ _ _ (Oper.mk (some 10) (Op.box _ _) _ _ _ _ :: _) _ _)); refine wpList_box_st (o := ⟨some 10, .box _ _, _, _, _, _⟩) rfl _ _ rfl (v := .agg (List.toArray _)) rfl HS ?_; clear HS; intro w10 b10 hb10 HS; simp only [Value.cells] at HS)
          | ((with_reducible (show wpList _ _ _ (Oper.mk (some 10) (Op.box _ _) _ _ _ _ :: _) _ _)); refine wpList_box_st (o := ⟨some 10, .box _ _, _, _, _, _⟩) rfl _ _ rfl (v := .agg _) rfl HS ?_; clear HS; intro w10 b10 hb10 HS; simp only [Value.cells] at HS)
          | ((with_reducible (show wpList _ _ _ (Oper.mk (some 12) (Op.box _ _) _ _ _ _ :: _) _ _)); refine wpList_box_st (o := ⟨some 12, .box _ _, _, _, _, _⟩) rfl _ _ rfl (v := .agg (List.toArray _)) rfl HS ?_; clear HS; intro w12 b12 hb12 HS; simp only [Value.cells] at HS)
          | ((with_reducible (show wpList _ _ _ (Oper.mk (some 12) (Op.box _ _) _ _ _ _ :: _) _ _)); refine wpList_box_st (o := ⟨some 12, .box _ _, _, _, _, _⟩) rfl _ _ rfl (v := .agg _) rfl HS ?_; clear HS; intro w12 b12 hb12 HS; simp only [Value.cells] at HS)
          | ((with_reducible (show wpList _ _ _ (Oper.mk (some 35) (Op.load _ _) _ _ _ _ :: _) _ _)); refine wpList_loadA_st (o := ⟨some 35, .load _ _, _, _, _, _⟩) rfl _ _ rfl rfl HS tk ag_laws_Memory lit rfl ?_)
          | ((with_reducible (show wpList _ _ _ (Oper.mk (some 40) (Op.load _ _) _ _ _ _ :: _) _ _)); refine wpList_loadA_st (o := ⟨some 40, .load _ _, _, _, _, _⟩) rfl _ _ rfl rfl HS tk ag_laws_RxQueue lit rfl ?_)
          | ((with_reducible (show wpList _ _ _ (Oper.mk (some 45) (Op.load _ _) _ _ _ _ :: _) _ _)); refine wpList_loadA_st (o := ⟨some 45, .load _ _, _, _, _, _⟩) rfl _ _ rfl rfl HS tk ag_laws_Packet lit rfl ?_)
          | ((with_reducible (show wpList _ _ _ (Oper.mk (some 67) (Op.load _ _) _ _ _ _ :: _) _ _)); refine wpList_loadA_st (o := ⟨some 67, .load _ _, _, _, _, _⟩) rfl _ _ rfl rfl HS tk ag_laws_Memory lit rfl ?_)
          | ((with_reducible (show wpList _ _ _ (Oper.mk (some 19) (Op.alloc _) _ _ _ _ :: _) _ _)); refine wpList_alloc_st (o := ⟨some 19, .alloc _, _, _, _, _⟩) rfl _ rfl zc_impl_Memory HS ?_; clear HS; intro w19 b19 hb19 HS)
          | ((with_reducible (show wpList _ _ _ (Oper.mk none (Op.store _ (.tmp 19) _) _ _ _ _ :: _) _ _)); refine wpList_store_st (o := ⟨none, .store _ (.tmp 19) _, _, _, _, _⟩) rfl _ _ _ rfl rfl (v := .agg (List.toArray _)) rfl HS tk sz_impl_Memory vcs rfx rfx (by simp) ?_ rfl; clear HS; intro w18_3 hz18_3 HS; simp only [nicL, Value.cells, List.append_nil] at HS)
          | ((with_reducible (show wpList _ _ _ (Oper.mk none (Op.store _ (.tmp 19) _) _ _ _ _ :: _) _ _)); refine wpList_store_st (o := ⟨none, .store _ (.tmp 19) _, _, _, _, _⟩) rfl _ _ _ rfl rfl (v := .agg _) rfl HS tk sz_impl_Memory vcs rfx rfx (by simp) ?_ rfl; clear HS; intro w18_3 hz18_3 HS; simp only [nicL, Value.cells, List.append_nil] at HS)
          | ((with_reducible (show wpList _ _ _ (Oper.mk (some 82) (Op.load _ _) _ _ _ _ :: _) _ _)); refine wpList_loadA_st (o := ⟨some 82, .load _ _, _, _, _, _⟩) rfl _ _ rfl rfl HS tk ag_impl_Memory lit rfl ?_)
          | ((with_reducible (show wpList _ _ _ (Oper.mk (some 83) (Op.load _ _) _ _ _ _ :: _) _ _)); refine wpList_loadA_st (o := ⟨some 83, .load _ _, _, _, _, _⟩) rfl _ _ rfl rfl HS tk ag_impl_Memory lit rfl ?_)
          | ((with_reducible (show wpList _ _ _ (Oper.mk (some 87) (Op.load _ _) _ _ _ _ :: _) _ _)); refine wpList_loadA_st (o := ⟨some 87, .load _ _, _, _, _, _⟩) rfl _ _ rfl rfl HS tk ag_impl_RxQueue lit rfl ?_)
          | ((with_reducible (show wpList _ _ _ (Oper.mk (some 88) (Op.load _ _) _ _ _ _ :: _) _ _)); refine wpList_loadA_st (o := ⟨some 88, .load _ _, _, _, _, _⟩) rfl _ _ rfl rfl HS tk ag_impl_RxQueue lit rfl ?_)
          | ((with_reducible (show wpList _ _ _ (Oper.mk (some 105) (Op.load _ _) _ _ _ _ :: _) _ _)); refine wpList_loadA_st (o := ⟨some 105, .load _ _, _, _, _, _⟩) rfl _ _ rfl rfl HS tk ag_impl_Memory lit rfl ?_)
          | ((with_reducible (show wpList _ _ _ (Oper.mk (some 111) (Op.load _ _) _ _ _ _ :: _) _ _)); refine wpList_loadA_st (o := ⟨some 111, .load _ _, _, _, _, _⟩) rfl _ _ rfl rfl HS tk ag_impl_Memory lit rfl ?_)
          | ((with_reducible (show wpList _ _ _ (Oper.mk (some 112) (Op.load _ _) _ _ _ _ :: _) _ _)); refine wpList_loadA_st (o := ⟨some 112, .load _ _, _, _, _, _⟩) rfl _ _ rfl rfl HS tk ag_impl_Memory lit rfl ?_)
          | ((with_reducible (show wpList _ _ _ (Oper.mk (some 117) (Op.load _ _) _ _ _ _ :: _) _ _)); refine wpList_loadA_st (o := ⟨some 117, .load _ _, _, _, _, _⟩) rfl _ _ rfl rfl HS tk ag_impl_RxQueue lit rfl ?_)
          | ((with_reducible (show wpList _ _ _ (Oper.mk (some 118) (Op.load _ _) _ _ _ _ :: _) _ _)); refine wpList_loadA_st (o := ⟨some 118, .load _ _, _, _, _, _⟩) rfl _ _ rfl rfl HS tk ag_impl_RxQueue lit rfl ?_)
          | ((with_reducible (show wpList _ _ _ (Oper.mk (some 122) (Op.load _ _) _ _ _ _ :: _) _ _)); refine wpList_loadA_st (o := ⟨some 122, .load _ _, _, _, _, _⟩) rfl _ _ rfl rfl HS tk ag_impl_Memory lit rfl ?_)
          | ((with_reducible (show wpList _ _ _ (Oper.mk (some 125) (Op.load _ _) _ _ _ _ :: _) _ _)); refine wpList_loadA_st (o := ⟨some 125, .load _ _, _, _, _, _⟩) rfl _ _ rfl rfl HS tk ag_impl_Memory lit rfl ?_)
          | ((with_reducible (show wpList _ _ _ (Oper.mk (some 148) (Op.load _ _) _ _ _ _ :: _) _ _)); refine wpList_loadA_st (o := ⟨some 148, .load _ _, _, _, _, _⟩) rfl _ _ rfl rfl HS tk ag_impl_Memory lit rfl ?_)
          | ((with_reducible (show wpList _ _ _ (Oper.mk (some 149) (Op.load _ _) _ _ _ _ :: _) _ _)); refine wpList_loadA_st (o := ⟨some 149, .load _ _, _, _, _, _⟩) rfl _ _ rfl rfl HS tk ag_impl_Memory lit rfl ?_)
          | ((with_reducible (show wpList _ _ _ (Oper.mk (some 153) (Op.load _ _) _ _ _ _ :: _) _ _)); refine wpList_loadA_st (o := ⟨some 153, .load _ _, _, _, _, _⟩) rfl _ _ rfl rfl HS tk ag_impl_RxQueue lit rfl ?_)
          | ((with_reducible (show wpList _ _ _ (Oper.mk (some 154) (Op.load _ _) _ _ _ _ :: _) _ _)); refine wpList_loadA_st (o := ⟨some 154, .load _ _, _, _, _, _⟩) rfl _ _ rfl rfl HS tk ag_impl_RxQueue lit rfl ?_)
          | ((with_reducible (show wpList _ _ _ (Oper.mk (some 158) (Op.load _ _) _ _ _ _ :: _) _ _)); refine wpList_loadA_st (o := ⟨some 158, .load _ _, _, _, _, _⟩) rfl _ _ rfl rfl HS tk ag_impl_Memory lit rfl ?_))
    go_ret
    exact ⟨rfl, HS.ex⟩
  case neg =>
  by_cases hb1 : (1048576 : Int) < aListD.length
  case pos =>
    have HS := St.start w
    go_enter Tryz.func4, Tryz.ntmps4
    go_wp2_with (first
          | (go_at_call 5; (with_reducible refine (szMappingS_gt _ aListD _ _ (k1.ex HS.ex) (by omega) (by omega) (by omega)).mono ?_); rintro e w' ⟨rfl, hx⟩; replace HS := HS.grow hx; clear hx)
          | ((with_reducible (show wpList _ _ _ (Oper.mk (some 8) (Op.box _ _) _ _ _ _ :: _) _ _)); refine wpList_box_st (o := ⟨some 8, .box _ _, _, _, _, _⟩) rfl _ _ rfl (v := .agg (List.toArray _)) rfl HS ?_; clear HS; intro w8 b8 hb8 HS; simp only [Value.cells] at HS)
          | ((with_reducible (show wpList _ _ _ (Oper.mk (some 8) (Op.box _ _) _ _ _ _ :: _) _ _)); refine wpList_box_st (o := ⟨some 8, .box _ _, _, _, _, _⟩) rfl _ _ rfl (v := .agg _) rfl HS ?_; clear HS; intro w8 b8 hb8 HS; simp only [Value.cells] at HS)
          | ((with_reducible (show wpList _ _ _ (Oper.mk (some 10) (Op.box _ _) _ _ _ _ :: _) _ _)); refine wpList_box_st (o := ⟨some 10, .box _ _, _, _, _, _⟩) rfl _ _ rfl (v := .agg (List.toArray _)) rfl HS ?_; clear HS; intro w10 b10 hb10 HS; simp only [Value.cells] at HS)
          | ((with_reducible (show wpList _ _ _ (Oper.mk (some 10) (Op.box _ _) _ _ _ _ :: _) _ _)); refine wpList_box_st (o := ⟨some 10, .box _ _, _, _, _, _⟩) rfl _ _ rfl (v := .agg _) rfl HS ?_; clear HS; intro w10 b10 hb10 HS; simp only [Value.cells] at HS)
          | ((with_reducible (show wpList _ _ _ (Oper.mk (some 12) (Op.box _ _) _ _ _ _ :: _) _ _)); refine wpList_box_st (o := ⟨some 12, .box _ _, _, _, _, _⟩) rfl _ _ rfl (v := .agg (List.toArray _)) rfl HS ?_; clear HS; intro w12 b12 hb12 HS; simp only [Value.cells] at HS)
          | ((with_reducible (show wpList _ _ _ (Oper.mk (some 12) (Op.box _ _) _ _ _ _ :: _) _ _)); refine wpList_box_st (o := ⟨some 12, .box _ _, _, _, _, _⟩) rfl _ _ rfl (v := .agg _) rfl HS ?_; clear HS; intro w12 b12 hb12 HS; simp only [Value.cells] at HS)
          | ((with_reducible (show wpList _ _ _ (Oper.mk (some 35) (Op.load _ _) _ _ _ _ :: _) _ _)); refine wpList_loadA_st (o := ⟨some 35, .load _ _, _, _, _, _⟩) rfl _ _ rfl rfl HS tk ag_laws_Memory lit rfl ?_)
          | ((with_reducible (show wpList _ _ _ (Oper.mk (some 40) (Op.load _ _) _ _ _ _ :: _) _ _)); refine wpList_loadA_st (o := ⟨some 40, .load _ _, _, _, _, _⟩) rfl _ _ rfl rfl HS tk ag_laws_RxQueue lit rfl ?_)
          | ((with_reducible (show wpList _ _ _ (Oper.mk (some 45) (Op.load _ _) _ _ _ _ :: _) _ _)); refine wpList_loadA_st (o := ⟨some 45, .load _ _, _, _, _, _⟩) rfl _ _ rfl rfl HS tk ag_laws_Packet lit rfl ?_)
          | ((with_reducible (show wpList _ _ _ (Oper.mk (some 67) (Op.load _ _) _ _ _ _ :: _) _ _)); refine wpList_loadA_st (o := ⟨some 67, .load _ _, _, _, _, _⟩) rfl _ _ rfl rfl HS tk ag_laws_Memory lit rfl ?_)
          | ((with_reducible (show wpList _ _ _ (Oper.mk (some 19) (Op.alloc _) _ _ _ _ :: _) _ _)); refine wpList_alloc_st (o := ⟨some 19, .alloc _, _, _, _, _⟩) rfl _ rfl zc_impl_Memory HS ?_; clear HS; intro w19 b19 hb19 HS)
          | ((with_reducible (show wpList _ _ _ (Oper.mk none (Op.store _ (.tmp 19) _) _ _ _ _ :: _) _ _)); refine wpList_store_st (o := ⟨none, .store _ (.tmp 19) _, _, _, _, _⟩) rfl _ _ _ rfl rfl (v := .agg (List.toArray _)) rfl HS tk sz_impl_Memory vcs rfx rfx (by simp) ?_ rfl; clear HS; intro w18_3 hz18_3 HS; simp only [nicL, Value.cells, List.append_nil] at HS)
          | ((with_reducible (show wpList _ _ _ (Oper.mk none (Op.store _ (.tmp 19) _) _ _ _ _ :: _) _ _)); refine wpList_store_st (o := ⟨none, .store _ (.tmp 19) _, _, _, _, _⟩) rfl _ _ _ rfl rfl (v := .agg _) rfl HS tk sz_impl_Memory vcs rfx rfx (by simp) ?_ rfl; clear HS; intro w18_3 hz18_3 HS; simp only [nicL, Value.cells, List.append_nil] at HS)
          | ((with_reducible (show wpList _ _ _ (Oper.mk (some 82) (Op.load _ _) _ _ _ _ :: _) _ _)); refine wpList_loadA_st (o := ⟨some 82, .load _ _, _, _, _, _⟩) rfl _ _ rfl rfl HS tk ag_impl_Memory lit rfl ?_)
          | ((with_reducible (show wpList _ _ _ (Oper.mk (some 83) (Op.load _ _) _ _ _ _ :: _) _ _)); refine wpList_loadA_st (o := ⟨some 83, .load _ _, _, _, _, _⟩) rfl _ _ rfl rfl HS tk ag_impl_Memory lit rfl ?_)
          | ((with_reducible (show wpList _ _ _ (Oper.mk (some 87) (Op.load _ _) _ _ _ _ :: _) _ _)); refine wpList_loadA_st (o := ⟨some 87, .load _ _, _, _, _, _⟩) rfl _ _ rfl rfl HS tk ag_impl_RxQueue lit rfl ?_)
          | ((with_reducible (show wpList _ _ _ (Oper.mk (some 88) (Op.load _ _) _ _ _ _ :: _) _ _)); refine wpList_loadA_st (o := ⟨some 88, .load _ _, _, _, _, _⟩) rfl _ _ rfl rfl HS tk ag_impl_RxQueue lit rfl ?_)
          | ((with_reducible (show wpList _ _ _ (Oper.mk (some 105) (Op.load _ _) _ _ _ _ :: _) _ _)); refine wpList_loadA_st (o := ⟨some 105, .load _ _, _, _, _, _⟩) rfl _ _ rfl rfl HS tk ag_impl_Memory lit rfl ?_)
          | ((with_reducible (show wpList _ _ _ (Oper.mk (some 111) (Op.load _ _) _ _ _ _ :: _) _ _)); refine wpList_loadA_st (o := ⟨some 111, .load _ _, _, _, _, _⟩) rfl _ _ rfl rfl HS tk ag_impl_Memory lit rfl ?_)
          | ((with_reducible (show wpList _ _ _ (Oper.mk (some 112) (Op.load _ _) _ _ _ _ :: _) _ _)); refine wpList_loadA_st (o := ⟨some 112, .load _ _, _, _, _, _⟩) rfl _ _ rfl rfl HS tk ag_impl_Memory lit rfl ?_)
          | ((with_reducible (show wpList _ _ _ (Oper.mk (some 117) (Op.load _ _) _ _ _ _ :: _) _ _)); refine wpList_loadA_st (o := ⟨some 117, .load _ _, _, _, _, _⟩) rfl _ _ rfl rfl HS tk ag_impl_RxQueue lit rfl ?_)
          | ((with_reducible (show wpList _ _ _ (Oper.mk (some 118) (Op.load _ _) _ _ _ _ :: _) _ _)); refine wpList_loadA_st (o := ⟨some 118, .load _ _, _, _, _, _⟩) rfl _ _ rfl rfl HS tk ag_impl_RxQueue lit rfl ?_)
          | ((with_reducible (show wpList _ _ _ (Oper.mk (some 122) (Op.load _ _) _ _ _ _ :: _) _ _)); refine wpList_loadA_st (o := ⟨some 122, .load _ _, _, _, _, _⟩) rfl _ _ rfl rfl HS tk ag_impl_Memory lit rfl ?_)
          | ((with_reducible (show wpList _ _ _ (Oper.mk (some 125) (Op.load _ _) _ _ _ _ :: _) _ _)); refine wpList_loadA_st (o := ⟨some 125, .load _ _, _, _, _, _⟩) rfl _ _ rfl rfl HS tk ag_impl_Memory lit rfl ?_)
          | ((with_reducible (show wpList _ _ _ (Oper.mk (some 148) (Op.load _ _) _ _ _ _ :: _) _ _)); refine wpList_loadA_st (o := ⟨some 148, .load _ _, _, _, _, _⟩) rfl _ _ rfl rfl HS tk ag_impl_Memory lit rfl ?_)
          | ((with_reducible (show wpList _ _ _ (Oper.mk (some 149) (Op.load _ _) _ _ _ _ :: _) _ _)); refine wpList_loadA_st (o := ⟨some 149, .load _ _, _, _, _, _⟩) rfl _ _ rfl rfl HS tk ag_impl_Memory lit rfl ?_)
          | ((with_reducible (show wpList _ _ _ (Oper.mk (some 153) (Op.load _ _) _ _ _ _ :: _) _ _)); refine wpList_loadA_st (o := ⟨some 153, .load _ _, _, _, _, _⟩) rfl _ _ rfl rfl HS tk ag_impl_RxQueue lit rfl ?_)
          | ((with_reducible (show wpList _ _ _ (Oper.mk (some 154) (Op.load _ _) _ _ _ _ :: _) _ _)); refine wpList_loadA_st (o := ⟨some 154, .load _ _, _, _, _, _⟩) rfl _ _ rfl rfl HS tk ag_impl_RxQueue lit rfl ?_)
          | ((with_reducible (show wpList _ _ _ (Oper.mk (some 158) (Op.load _ _) _ _ _ _ :: _) _ _)); refine wpList_loadA_st (o := ⟨some 158, .load _ _, _, _, _, _⟩) rfl _ _ rfl rfl HS tk ag_impl_Memory lit rfl ?_))
    go_ret
    exact ⟨rfl, HS.ex⟩
  case neg =>
  by_cases hb2 : (1048576 : Int) - aListD.length < ((aMD.length + totS aMD : Nat) : Int)
  case pos =>
    have HS := St.start w
    go_enter Tryz.func4, Tryz.ntmps4
    go_wp2_with (first
          | (go_at_call 5; (with_reducible refine (szMappingS_le _ aListD _ _ (k1.ex HS.ex) (by omega) (by omega)).mono ?_); rintro e w' ⟨rfl, hx⟩; replace HS := HS.grow hx; clear hx)
          | (go_at_call 6; (with_reducible refine (szMemory_gt _ aMD _ _ (k2.ex HS.ex) (by omega) (by omega) (by omega)).mono ?_); rintro e w' ⟨rfl, hx⟩; replace HS := HS.grow hx; clear hx)
          | ((with_reducible (show wpList _ _ _ (Oper.mk (some 8) (Op.box _ _) _ _ _ _ :: _) _ _)); refine wpList_box_st (o := ⟨some 8, .box _ _, _, _, _, _⟩) rfl _ _ rfl (v := .agg (List.toArray _)) rfl HS ?_; clear HS; intro w8 b8 hb8 HS; simp only [Value.cells] at HS)
          | ((with_reducible (show wpList _ _ _ (Oper.mk (some 8) (Op.box _ _) _ _ _ _ :: _) _ _)); refine wpList_box_st (o := ⟨some 8, .box _ _, _, _, _, _⟩) rfl _ _ rfl (v := .agg _) rfl HS ?_; clear HS; intro w8 b8 hb8 HS; simp only [Value.cells] at HS)
          | ((with_reducible (show wpList _ _ _ (Oper.mk (some 10) (Op.box _ _) _ _ _ _ :: _) _ _)); refine wpList_box_st (o := ⟨some 10, .box _ _, _, _, _, _⟩) rfl _ _ rfl (v := .agg (List.toArray _)) rfl HS ?_; clear HS; intro w10 b10 hb10 HS; simp only [Value.cells] at HS)
          | ((with_reducible (show wpList _ _ _ (Oper.mk (some 10) (Op.box _ _) _ _ _ _ :: _) _ _)); refine wpList_box_st (o := ⟨some 10, .box _ _, _, _, _, _⟩) rfl _ _ rfl (v := .agg _) rfl HS ?_; clear HS; intro w10 b10 hb10 HS; simp only [Value.cells] at HS)
          | ((with_reducible (show wpList _ _ _ (Oper.mk (some 12) (Op.box _ _) _ _ _ _ :: _) _ _)); refine wpList_box_st (o := ⟨some 12, .box _ _, _, _, _, _⟩) rfl _ _ rfl (v := .agg (List.toArray _)) rfl HS ?_; clear HS; intro w12 b12 hb12 HS; simp only [Value.cells] at HS)
          | ((with_reducible (show wpList _ _ _ (Oper.mk (some 12) (Op.box _ _) _ _ _ _ :: _) _ _)); refine wpList_box_st (o := ⟨some 12, .box _ _, _, _, _, _⟩) rfl _ _ rfl (v := .agg _) rfl HS ?_; clear HS; intro w12 b12 hb12 HS; simp only [Value.cells] at HS)
          | ((with_reducible (show wpList _ _ _ (Oper.mk (some 35) (Op.load _ _) _ _ _ _ :: _) _ _)); refine wpList_loadA_st (o := ⟨some 35, .load _ _, _, _, _, _⟩) rfl _ _ rfl rfl HS tk ag_laws_Memory lit rfl ?_)
          | ((with_reducible (show wpList _ _ _ (Oper.mk (some 40) (Op.load _ _) _ _ _ _ :: _) _ _)); refine wpList_loadA_st (o := ⟨some 40, .load _ _, _, _, _, _⟩) rfl _ _ rfl rfl HS tk ag_laws_RxQueue lit rfl ?_)
          | ((with_reducible (show wpList _ _ _ (Oper.mk (some 45) (Op.load _ _) _ _ _ _ :: _) _ _)); refine wpList_loadA_st (o := ⟨some 45, .load _ _, _, _, _, _⟩) rfl _ _ rfl rfl HS tk ag_laws_Packet lit rfl ?_)
          | ((with_reducible (show wpList _ _ _ (Oper.mk (some 67) (Op.load _ _) _ _ _ _ :: _) _ _)); refine wpList_loadA_st (o := ⟨some 67, .load _ _, _, _, _, _⟩) rfl _ _ rfl rfl HS tk ag_laws_Memory lit rfl ?_)
          | ((with_reducible (show wpList _ _ _ (Oper.mk (some 19) (Op.alloc _) _ _ _ _ :: _) _ _)); refine wpList_alloc_st (o := ⟨some 19, .alloc _, _, _, _, _⟩) rfl _ rfl zc_impl_Memory HS ?_; clear HS; intro w19 b19 hb19 HS)
          | ((with_reducible (show wpList _ _ _ (Oper.mk none (Op.store _ (.tmp 19) _) _ _ _ _ :: _) _ _)); refine wpList_store_st (o := ⟨none, .store _ (.tmp 19) _, _, _, _, _⟩) rfl _ _ _ rfl rfl (v := .agg (List.toArray _)) rfl HS tk sz_impl_Memory vcs rfx rfx (by simp) ?_ rfl; clear HS; intro w18_3 hz18_3 HS; simp only [nicL, Value.cells, List.append_nil] at HS)
          | ((with_reducible (show wpList _ _ _ (Oper.mk none (Op.store _ (.tmp 19) _) _ _ _ _ :: _) _ _)); refine wpList_store_st (o := ⟨none, .store _ (.tmp 19) _, _, _, _, _⟩) rfl _ _ _ rfl rfl (v := .agg _) rfl HS tk sz_impl_Memory vcs rfx rfx (by simp) ?_ rfl; clear HS; intro w18_3 hz18_3 HS; simp only [nicL, Value.cells, List.append_nil] at HS)
          | ((with_reducible (show wpList _ _ _ (Oper.mk (some 82) (Op.load _ _) _ _ _ _ :: _) _ _)); refine wpList_loadA_st (o := ⟨some 82, .load _ _, _, _, _, _⟩) rfl _ _ rfl rfl HS tk ag_impl_Memory lit rfl ?_)
          | ((with_reducible (show wpList _ _ _ (Oper.mk (some 83) (Op.load _ _) _ _ _ _ :: _) _ _)); refine wpList_loadA_st (o := ⟨some 83, .load _ _, _, _, _, _⟩) rfl _ _ rfl rfl HS tk ag_impl_Memory lit rfl ?_)
          | ((with_reducible (show wpList _ _ _ (Oper.mk (some 87) (Op.load _ _) _ _ _ _ :: _) _ _)); refine wpList_loadA_st (o := ⟨some 87, .load _ _, _, _, _, _⟩) rfl _ _ rfl rfl HS tk ag_impl_RxQueue lit rfl ?_)
          | ((with_reducible (show wpList _ _ _ (Oper.mk (some 88) (Op.load _ _) _ _ _ _ :: _) _ _)); refine wpList_loadA_st (o := ⟨some 88, .load _ _, _, _, _, _⟩) rfl _ _ rfl rfl HS tk ag_impl_RxQueue lit rfl ?_)
          | ((with_reducible (show wpList _ _ _ (Oper.mk (some 105) (Op.load _ _) _ _ _ _ :: _) _ _)); refine wpList_loadA_st (o := ⟨some 105, .load _ _, _, _, _, _⟩) rfl _ _ rfl rfl HS tk ag_impl_Memory lit rfl ?_)
          | ((with_reducible (show wpList _ _ _ (Oper.mk (some 111) (Op.load _ _) _ _ _ _ :: _) _ _)); refine wpList_loadA_st (o := ⟨some 111, .load _ _, _, _, _, _⟩) rfl _ _ rfl rfl HS tk ag_impl_Memory lit rfl ?_)
          | ((with_reducible (show wpList _ _ _ (Oper.mk (some 112) (Op.load _ _) _ _ _ _ :: _) _ _)); refine wpList_loadA_st (o := ⟨some 112, .load _ _, _, _, _, _⟩) rfl _ _ rfl rfl HS tk ag_impl_Memory lit rfl ?_)
          | ((with_reducible (show wpList _ _ _ (Oper.mk (some 117) (Op.load _ _) _ _ _ _ :: _) _ _)); refine wpList_loadA_st (o := ⟨some 117, .load _ _, _, _, _, _⟩) rfl _ _ rfl rfl HS tk ag_impl_RxQueue lit rfl ?_)
          | ((with_reducible (show wpList _ _ _ (Oper.mk (some 118) (Op.load _ _) _ _ _ _ :: _) _ _)); refine wpList_loadA_st (o := ⟨some 118, .load _ _, _, _, _, _⟩) rfl _ _ rfl rfl HS tk ag_impl_RxQueue lit rfl ?_)
          | ((with_reducible (show wpList _ _ _ (Oper.mk (some 122) (Op.load _ _) _ _ _ _ :: _) _ _)); refine wpList_loadA_st (o := ⟨some 122, .load _ _, _, _, _, _⟩) rfl _ _ rfl rfl HS tk ag_impl_Memory lit rfl ?_)
          | ((with_reducible (show wpList _ _ _ (Oper.mk (some 125) (Op.load _ _) _ _ _ _ :: _) _ _)); refine wpList_loadA_st (o := ⟨some 125, .load _ _, _, _, _, _⟩) rfl _ _ rfl rfl HS tk ag_impl_Memory lit rfl ?_)
          | ((with_reducible (show wpList _ _ _ (Oper.mk (some 148) (Op.load _ _) _ _ _ _ :: _) _ _)); refine wpList_loadA_st (o := ⟨some 148, .load _ _, _, _, _, _⟩) rfl _ _ rfl rfl HS tk ag_impl_Memory lit rfl ?_)
          | ((with_reducible (show wpList _ _ _ (Oper.mk (some 149) (Op.load _ _) _ _ _ _ :: _) _ _)); refine wpList_loadA_st (o := ⟨some 149, .load _ _, _, _, _, _⟩) rfl _ _ rfl rfl HS tk ag_impl_Memory lit rfl ?_)
          | ((with_reducible (show wpList _ _ _ (Oper.mk (some 153) (Op.load _ _) _ _ _ _ :: _) _ _)); refine wpList_loadA_st (o := ⟨some 153, .load _ _, _, _, _, _⟩) rfl _ _ rfl rfl HS tk ag_impl_RxQueue lit rfl ?_)
          | ((with_reducible (show wpList _ _ _ (Oper.mk (some 154) (Op.load _ _) _ _ _ _ :: _) _ _)); refine wpList_loadA_st (o := ⟨some 154, .load _ _, _, _, _, _⟩) rfl _ _ rfl rfl HS tk ag_impl_RxQueue lit rfl ?_)
          | ((with_reducible (show wpList _ _ _ (Oper.mk (some 158) (Op.load _ _) _ _ _ _ :: _) _ _)); refine wpList_loadA_st (o := ⟨some 158, .load _ _, _, _, _, _⟩) rfl _ _ rfl rfl HS tk ag_impl_Memory lit rfl ?_))
    go_ret
    exact ⟨rfl, HS.ex⟩
  case neg =>
  by_cases hb3 : (1048576 : Int) - aListD.length - ((aMD.length + totS aMD : Nat) : Int) < (aQ_Held_Packet_Seg_Body.size : Int)
  case pos =>
    have HS := St.start w
    go_enter Tryz.func4, Tryz.ntmps4
    go_wp2_with (first
          | (go_at_call 5; (with_reducible refine (szMappingS_le _ aListD _ _ (k1.ex HS.ex) (by omega) (by omega)).mono ?_); rintro e w' ⟨rfl, hx⟩; replace HS := HS.grow hx; clear hx)
          | (go_at_call 6; (with_reducible refine (szMemory_le _ aMD _ _ (k2.ex HS.ex) (by omega) (by omega)).mono ?_); rintro e w' ⟨rfl, hx⟩; replace HS := HS.grow hx; clear hx)
          | (go_at_call 7; (with_reducible refine (szRxQueue_gt_w aQ_Ring_Base aQ_Ring_Size aQ_Ring_Head aQ_Ring_Tail aQ_Device_Base aQ_Device_Size aQ_Device_Count aQ_Driver_Base aQ_Driver_Size aQ_Driver_Count aQ_Held_Packet_DstMac aQ_Held_Packet_SrcMac aQ_Held_Packet_Vlan aQ_Held_Packet_Tos aQ_Held_Packet_Id aQ_Held_Packet_Ttl aQ_Held_Packet_SrcIp aQ_Held_Packet_DstIp aQ_Held_Packet_Seg_Kind aQ_Held_Packet_Seg_SrcPort aQ_Held_Packet_Seg_DstPort aQ_Held_Packet_Seg_Seq aQ_Held_Packet_Seg_Ack aQ_Held_Packet_Seg_Flags aQ_Held_Packet_Seg_Window aQ_Held_Packet_Seg_Body aQ_Held_Size aQ_Held_Count aQ_Holding aQ_Dropped _ _ (by omega) (by omega) (by omega) haQ_Held_Packet_Seg_Body).mono ?_); rintro e w' ⟨rfl, hx⟩; replace HS := HS.grow hx; clear hx)
          | ((with_reducible (show wpList _ _ _ (Oper.mk (some 8) (Op.box _ _) _ _ _ _ :: _) _ _)); refine wpList_box_st (o := ⟨some 8, .box _ _, _, _, _, _⟩) rfl _ _ rfl (v := .agg (List.toArray _)) rfl HS ?_; clear HS; intro w8 b8 hb8 HS; simp only [Value.cells] at HS)
          | ((with_reducible (show wpList _ _ _ (Oper.mk (some 8) (Op.box _ _) _ _ _ _ :: _) _ _)); refine wpList_box_st (o := ⟨some 8, .box _ _, _, _, _, _⟩) rfl _ _ rfl (v := .agg _) rfl HS ?_; clear HS; intro w8 b8 hb8 HS; simp only [Value.cells] at HS)
          | ((with_reducible (show wpList _ _ _ (Oper.mk (some 10) (Op.box _ _) _ _ _ _ :: _) _ _)); refine wpList_box_st (o := ⟨some 10, .box _ _, _, _, _, _⟩) rfl _ _ rfl (v := .agg (List.toArray _)) rfl HS ?_; clear HS; intro w10 b10 hb10 HS; simp only [Value.cells] at HS)
          | ((with_reducible (show wpList _ _ _ (Oper.mk (some 10) (Op.box _ _) _ _ _ _ :: _) _ _)); refine wpList_box_st (o := ⟨some 10, .box _ _, _, _, _, _⟩) rfl _ _ rfl (v := .agg _) rfl HS ?_; clear HS; intro w10 b10 hb10 HS; simp only [Value.cells] at HS)
          | ((with_reducible (show wpList _ _ _ (Oper.mk (some 12) (Op.box _ _) _ _ _ _ :: _) _ _)); refine wpList_box_st (o := ⟨some 12, .box _ _, _, _, _, _⟩) rfl _ _ rfl (v := .agg (List.toArray _)) rfl HS ?_; clear HS; intro w12 b12 hb12 HS; simp only [Value.cells] at HS)
          | ((with_reducible (show wpList _ _ _ (Oper.mk (some 12) (Op.box _ _) _ _ _ _ :: _) _ _)); refine wpList_box_st (o := ⟨some 12, .box _ _, _, _, _, _⟩) rfl _ _ rfl (v := .agg _) rfl HS ?_; clear HS; intro w12 b12 hb12 HS; simp only [Value.cells] at HS)
          | ((with_reducible (show wpList _ _ _ (Oper.mk (some 35) (Op.load _ _) _ _ _ _ :: _) _ _)); refine wpList_loadA_st (o := ⟨some 35, .load _ _, _, _, _, _⟩) rfl _ _ rfl rfl HS tk ag_laws_Memory lit rfl ?_)
          | ((with_reducible (show wpList _ _ _ (Oper.mk (some 40) (Op.load _ _) _ _ _ _ :: _) _ _)); refine wpList_loadA_st (o := ⟨some 40, .load _ _, _, _, _, _⟩) rfl _ _ rfl rfl HS tk ag_laws_RxQueue lit rfl ?_)
          | ((with_reducible (show wpList _ _ _ (Oper.mk (some 45) (Op.load _ _) _ _ _ _ :: _) _ _)); refine wpList_loadA_st (o := ⟨some 45, .load _ _, _, _, _, _⟩) rfl _ _ rfl rfl HS tk ag_laws_Packet lit rfl ?_)
          | ((with_reducible (show wpList _ _ _ (Oper.mk (some 67) (Op.load _ _) _ _ _ _ :: _) _ _)); refine wpList_loadA_st (o := ⟨some 67, .load _ _, _, _, _, _⟩) rfl _ _ rfl rfl HS tk ag_laws_Memory lit rfl ?_)
          | ((with_reducible (show wpList _ _ _ (Oper.mk (some 19) (Op.alloc _) _ _ _ _ :: _) _ _)); refine wpList_alloc_st (o := ⟨some 19, .alloc _, _, _, _, _⟩) rfl _ rfl zc_impl_Memory HS ?_; clear HS; intro w19 b19 hb19 HS)
          | ((with_reducible (show wpList _ _ _ (Oper.mk none (Op.store _ (.tmp 19) _) _ _ _ _ :: _) _ _)); refine wpList_store_st (o := ⟨none, .store _ (.tmp 19) _, _, _, _, _⟩) rfl _ _ _ rfl rfl (v := .agg (List.toArray _)) rfl HS tk sz_impl_Memory vcs rfx rfx (by simp) ?_ rfl; clear HS; intro w18_3 hz18_3 HS; simp only [nicL, Value.cells, List.append_nil] at HS)
          | ((with_reducible (show wpList _ _ _ (Oper.mk none (Op.store _ (.tmp 19) _) _ _ _ _ :: _) _ _)); refine wpList_store_st (o := ⟨none, .store _ (.tmp 19) _, _, _, _, _⟩) rfl _ _ _ rfl rfl (v := .agg _) rfl HS tk sz_impl_Memory vcs rfx rfx (by simp) ?_ rfl; clear HS; intro w18_3 hz18_3 HS; simp only [nicL, Value.cells, List.append_nil] at HS)
          | ((with_reducible (show wpList _ _ _ (Oper.mk (some 82) (Op.load _ _) _ _ _ _ :: _) _ _)); refine wpList_loadA_st (o := ⟨some 82, .load _ _, _, _, _, _⟩) rfl _ _ rfl rfl HS tk ag_impl_Memory lit rfl ?_)
          | ((with_reducible (show wpList _ _ _ (Oper.mk (some 83) (Op.load _ _) _ _ _ _ :: _) _ _)); refine wpList_loadA_st (o := ⟨some 83, .load _ _, _, _, _, _⟩) rfl _ _ rfl rfl HS tk ag_impl_Memory lit rfl ?_)
          | ((with_reducible (show wpList _ _ _ (Oper.mk (some 87) (Op.load _ _) _ _ _ _ :: _) _ _)); refine wpList_loadA_st (o := ⟨some 87, .load _ _, _, _, _, _⟩) rfl _ _ rfl rfl HS tk ag_impl_RxQueue lit rfl ?_)
          | ((with_reducible (show wpList _ _ _ (Oper.mk (some 88) (Op.load _ _) _ _ _ _ :: _) _ _)); refine wpList_loadA_st (o := ⟨some 88, .load _ _, _, _, _, _⟩) rfl _ _ rfl rfl HS tk ag_impl_RxQueue lit rfl ?_)
          | ((with_reducible (show wpList _ _ _ (Oper.mk (some 105) (Op.load _ _) _ _ _ _ :: _) _ _)); refine wpList_loadA_st (o := ⟨some 105, .load _ _, _, _, _, _⟩) rfl _ _ rfl rfl HS tk ag_impl_Memory lit rfl ?_)
          | ((with_reducible (show wpList _ _ _ (Oper.mk (some 111) (Op.load _ _) _ _ _ _ :: _) _ _)); refine wpList_loadA_st (o := ⟨some 111, .load _ _, _, _, _, _⟩) rfl _ _ rfl rfl HS tk ag_impl_Memory lit rfl ?_)
          | ((with_reducible (show wpList _ _ _ (Oper.mk (some 112) (Op.load _ _) _ _ _ _ :: _) _ _)); refine wpList_loadA_st (o := ⟨some 112, .load _ _, _, _, _, _⟩) rfl _ _ rfl rfl HS tk ag_impl_Memory lit rfl ?_)
          | ((with_reducible (show wpList _ _ _ (Oper.mk (some 117) (Op.load _ _) _ _ _ _ :: _) _ _)); refine wpList_loadA_st (o := ⟨some 117, .load _ _, _, _, _, _⟩) rfl _ _ rfl rfl HS tk ag_impl_RxQueue lit rfl ?_)
          | ((with_reducible (show wpList _ _ _ (Oper.mk (some 118) (Op.load _ _) _ _ _ _ :: _) _ _)); refine wpList_loadA_st (o := ⟨some 118, .load _ _, _, _, _, _⟩) rfl _ _ rfl rfl HS tk ag_impl_RxQueue lit rfl ?_)
          | ((with_reducible (show wpList _ _ _ (Oper.mk (some 122) (Op.load _ _) _ _ _ _ :: _) _ _)); refine wpList_loadA_st (o := ⟨some 122, .load _ _, _, _, _, _⟩) rfl _ _ rfl rfl HS tk ag_impl_Memory lit rfl ?_)
          | ((with_reducible (show wpList _ _ _ (Oper.mk (some 125) (Op.load _ _) _ _ _ _ :: _) _ _)); refine wpList_loadA_st (o := ⟨some 125, .load _ _, _, _, _, _⟩) rfl _ _ rfl rfl HS tk ag_impl_Memory lit rfl ?_)
          | ((with_reducible (show wpList _ _ _ (Oper.mk (some 148) (Op.load _ _) _ _ _ _ :: _) _ _)); refine wpList_loadA_st (o := ⟨some 148, .load _ _, _, _, _, _⟩) rfl _ _ rfl rfl HS tk ag_impl_Memory lit rfl ?_)
          | ((with_reducible (show wpList _ _ _ (Oper.mk (some 149) (Op.load _ _) _ _ _ _ :: _) _ _)); refine wpList_loadA_st (o := ⟨some 149, .load _ _, _, _, _, _⟩) rfl _ _ rfl rfl HS tk ag_impl_Memory lit rfl ?_)
          | ((with_reducible (show wpList _ _ _ (Oper.mk (some 153) (Op.load _ _) _ _ _ _ :: _) _ _)); refine wpList_loadA_st (o := ⟨some 153, .load _ _, _, _, _, _⟩) rfl _ _ rfl rfl HS tk ag_impl_RxQueue lit rfl ?_)
          | ((with_reducible (show wpList _ _ _ (Oper.mk (some 154) (Op.load _ _) _ _ _ _ :: _) _ _)); refine wpList_loadA_st (o := ⟨some 154, .load _ _, _, _, _, _⟩) rfl _ _ rfl rfl HS tk ag_impl_RxQueue lit rfl ?_)
          | ((with_reducible (show wpList _ _ _ (Oper.mk (some 158) (Op.load _ _) _ _ _ _ :: _) _ _)); refine wpList_loadA_st (o := ⟨some 158, .load _ _, _, _, _, _⟩) rfl _ _ rfl rfl HS tk ag_impl_Memory lit rfl ?_))
    go_ret
    exact ⟨rfl, HS.ex⟩
  case neg =>
  by_cases hb4 : (1048576 : Int) - aListD.length - ((aMD.length + totS aMD : Nat) : Int) - (aQ_Held_Packet_Seg_Body.size : Int) < (aP_Seg_Body.size : Int)
  case pos =>
    have HS := St.start w
    go_enter Tryz.func4, Tryz.ntmps4
    go_wp2_with (first
          | (go_at_call 5; (with_reducible refine (szMappingS_le _ aListD _ _ (k1.ex HS.ex) (by omega) (by omega)).mono ?_); rintro e w' ⟨rfl, hx⟩; replace HS := HS.grow hx; clear hx)
          | (go_at_call 6; (with_reducible refine (szMemory_le _ aMD _ _ (k2.ex HS.ex) (by omega) (by omega)).mono ?_); rintro e w' ⟨rfl, hx⟩; replace HS := HS.grow hx; clear hx)
          | (go_at_call 7; (with_reducible refine (szRxQueue_le_w aQ_Ring_Base aQ_Ring_Size aQ_Ring_Head aQ_Ring_Tail aQ_Device_Base aQ_Device_Size aQ_Device_Count aQ_Driver_Base aQ_Driver_Size aQ_Driver_Count aQ_Held_Packet_DstMac aQ_Held_Packet_SrcMac aQ_Held_Packet_Vlan aQ_Held_Packet_Tos aQ_Held_Packet_Id aQ_Held_Packet_Ttl aQ_Held_Packet_SrcIp aQ_Held_Packet_DstIp aQ_Held_Packet_Seg_Kind aQ_Held_Packet_Seg_SrcPort aQ_Held_Packet_Seg_DstPort aQ_Held_Packet_Seg_Seq aQ_Held_Packet_Seg_Ack aQ_Held_Packet_Seg_Flags aQ_Held_Packet_Seg_Window aQ_Held_Packet_Seg_Body aQ_Held_Size aQ_Held_Count aQ_Holding aQ_Dropped _ _ (by omega) (by omega) haQ_Held_Packet_Seg_Body).mono ?_); rintro e w' ⟨rfl, hx⟩; replace HS := HS.grow hx; clear hx)
          | (go_at_call 19; (with_reducible refine (szPacket_gt_w aP_DstMac aP_SrcMac aP_Vlan aP_Tos aP_Id aP_Ttl aP_SrcIp aP_DstIp aP_Seg_Kind aP_Seg_SrcPort aP_Seg_DstPort aP_Seg_Seq aP_Seg_Ack aP_Seg_Flags aP_Seg_Window aP_Seg_Body _ _ (by omega) (by omega) (by omega) haP_Seg_Body).mono ?_); rintro e w' ⟨rfl, hx⟩; replace HS := HS.grow hx; clear hx)
          | ((with_reducible (show wpList _ _ _ (Oper.mk (some 8) (Op.box _ _) _ _ _ _ :: _) _ _)); refine wpList_box_st (o := ⟨some 8, .box _ _, _, _, _, _⟩) rfl _ _ rfl (v := .agg (List.toArray _)) rfl HS ?_; clear HS; intro w8 b8 hb8 HS; simp only [Value.cells] at HS)
          | ((with_reducible (show wpList _ _ _ (Oper.mk (some 8) (Op.box _ _) _ _ _ _ :: _) _ _)); refine wpList_box_st (o := ⟨some 8, .box _ _, _, _, _, _⟩) rfl _ _ rfl (v := .agg _) rfl HS ?_; clear HS; intro w8 b8 hb8 HS; simp only [Value.cells] at HS)
          | ((with_reducible (show wpList _ _ _ (Oper.mk (some 10) (Op.box _ _) _ _ _ _ :: _) _ _)); refine wpList_box_st (o := ⟨some 10, .box _ _, _, _, _, _⟩) rfl _ _ rfl (v := .agg (List.toArray _)) rfl HS ?_; clear HS; intro w10 b10 hb10 HS; simp only [Value.cells] at HS)
          | ((with_reducible (show wpList _ _ _ (Oper.mk (some 10) (Op.box _ _) _ _ _ _ :: _) _ _)); refine wpList_box_st (o := ⟨some 10, .box _ _, _, _, _, _⟩) rfl _ _ rfl (v := .agg _) rfl HS ?_; clear HS; intro w10 b10 hb10 HS; simp only [Value.cells] at HS)
          | ((with_reducible (show wpList _ _ _ (Oper.mk (some 12) (Op.box _ _) _ _ _ _ :: _) _ _)); refine wpList_box_st (o := ⟨some 12, .box _ _, _, _, _, _⟩) rfl _ _ rfl (v := .agg (List.toArray _)) rfl HS ?_; clear HS; intro w12 b12 hb12 HS; simp only [Value.cells] at HS)
          | ((with_reducible (show wpList _ _ _ (Oper.mk (some 12) (Op.box _ _) _ _ _ _ :: _) _ _)); refine wpList_box_st (o := ⟨some 12, .box _ _, _, _, _, _⟩) rfl _ _ rfl (v := .agg _) rfl HS ?_; clear HS; intro w12 b12 hb12 HS; simp only [Value.cells] at HS)
          | ((with_reducible (show wpList _ _ _ (Oper.mk (some 35) (Op.load _ _) _ _ _ _ :: _) _ _)); refine wpList_loadA_st (o := ⟨some 35, .load _ _, _, _, _, _⟩) rfl _ _ rfl rfl HS tk ag_laws_Memory lit rfl ?_)
          | ((with_reducible (show wpList _ _ _ (Oper.mk (some 40) (Op.load _ _) _ _ _ _ :: _) _ _)); refine wpList_loadA_st (o := ⟨some 40, .load _ _, _, _, _, _⟩) rfl _ _ rfl rfl HS tk ag_laws_RxQueue lit rfl ?_)
          | ((with_reducible (show wpList _ _ _ (Oper.mk (some 45) (Op.load _ _) _ _ _ _ :: _) _ _)); refine wpList_loadA_st (o := ⟨some 45, .load _ _, _, _, _, _⟩) rfl _ _ rfl rfl HS tk ag_laws_Packet lit rfl ?_)
          | ((with_reducible (show wpList _ _ _ (Oper.mk (some 67) (Op.load _ _) _ _ _ _ :: _) _ _)); refine wpList_loadA_st (o := ⟨some 67, .load _ _, _, _, _, _⟩) rfl _ _ rfl rfl HS tk ag_laws_Memory lit rfl ?_)
          | ((with_reducible (show wpList _ _ _ (Oper.mk (some 19) (Op.alloc _) _ _ _ _ :: _) _ _)); refine wpList_alloc_st (o := ⟨some 19, .alloc _, _, _, _, _⟩) rfl _ rfl zc_impl_Memory HS ?_; clear HS; intro w19 b19 hb19 HS)
          | ((with_reducible (show wpList _ _ _ (Oper.mk none (Op.store _ (.tmp 19) _) _ _ _ _ :: _) _ _)); refine wpList_store_st (o := ⟨none, .store _ (.tmp 19) _, _, _, _, _⟩) rfl _ _ _ rfl rfl (v := .agg (List.toArray _)) rfl HS tk sz_impl_Memory vcs rfx rfx (by simp) ?_ rfl; clear HS; intro w18_3 hz18_3 HS; simp only [nicL, Value.cells, List.append_nil] at HS)
          | ((with_reducible (show wpList _ _ _ (Oper.mk none (Op.store _ (.tmp 19) _) _ _ _ _ :: _) _ _)); refine wpList_store_st (o := ⟨none, .store _ (.tmp 19) _, _, _, _, _⟩) rfl _ _ _ rfl rfl (v := .agg _) rfl HS tk sz_impl_Memory vcs rfx rfx (by simp) ?_ rfl; clear HS; intro w18_3 hz18_3 HS; simp only [nicL, Value.cells, List.append_nil] at HS)
          | ((with_reducible (show wpList _ _ _ (Oper.mk (some 82) (Op.load _ _) _ _ _ _ :: _) _ _)); refine wpList_loadA_st (o := ⟨some 82, .load _ _, _, _, _, _⟩) rfl _ _ rfl rfl HS tk ag_impl_Memory lit rfl ?_)
          | ((with_reducible (show wpList _ _ _ (Oper.mk (some 83) (Op.load _ _) _ _ _ _ :: _) _ _)); refine wpList_loadA_st (o := ⟨some 83, .load _ _, _, _, _, _⟩) rfl _ _ rfl rfl HS tk ag_impl_Memory lit rfl ?_)
          | ((with_reducible (show wpList _ _ _ (Oper.mk (some 87) (Op.load _ _) _ _ _ _ :: _) _ _)); refine wpList_loadA_st (o := ⟨some 87, .load _ _, _, _, _, _⟩) rfl _ _ rfl rfl HS tk ag_impl_RxQueue lit rfl ?_)
          | ((with_reducible (show wpList _ _ _ (Oper.mk (some 88) (Op.load _ _) _ _ _ _ :: _) _ _)); refine wpList_loadA_st (o := ⟨some 88, .load _ _, _, _, _, _⟩) rfl _ _ rfl rfl HS tk ag_impl_RxQueue lit rfl ?_)
          | ((with_reducible (show wpList _ _ _ (Oper.mk (some 105) (Op.load _ _) _ _ _ _ :: _) _ _)); refine wpList_loadA_st (o := ⟨some 105, .load _ _, _, _, _, _⟩) rfl _ _ rfl rfl HS tk ag_impl_Memory lit rfl ?_)
          | ((with_reducible (show wpList _ _ _ (Oper.mk (some 111) (Op.load _ _) _ _ _ _ :: _) _ _)); refine wpList_loadA_st (o := ⟨some 111, .load _ _, _, _, _, _⟩) rfl _ _ rfl rfl HS tk ag_impl_Memory lit rfl ?_)
          | ((with_reducible (show wpList _ _ _ (Oper.mk (some 112) (Op.load _ _) _ _ _ _ :: _) _ _)); refine wpList_loadA_st (o := ⟨some 112, .load _ _, _, _, _, _⟩) rfl _ _ rfl rfl HS tk ag_impl_Memory lit rfl ?_)
          | ((with_reducible (show wpList _ _ _ (Oper.mk (some 117) (Op.load _ _) _ _ _ _ :: _) _ _)); refine wpList_loadA_st (o := ⟨some 117, .load _ _, _, _, _, _⟩) rfl _ _ rfl rfl HS tk ag_impl_RxQueue lit rfl ?_)
          | ((with_reducible (show wpList _ _ _ (Oper.mk (some 118) (Op.load _ _) _ _ _ _ :: _) _ _)); refine wpList_loadA_st (o := ⟨some 118, .load _ _, _, _, _, _⟩) rfl _ _ rfl rfl HS tk ag_impl_RxQueue lit rfl ?_)
          | ((with_reducible (show wpList _ _ _ (Oper.mk (some 122) (Op.load _ _) _ _ _ _ :: _) _ _)); refine wpList_loadA_st (o := ⟨some 122, .load _ _, _, _, _, _⟩) rfl _ _ rfl rfl HS tk ag_impl_Memory lit rfl ?_)
          | ((with_reducible (show wpList _ _ _ (Oper.mk (some 125) (Op.load _ _) _ _ _ _ :: _) _ _)); refine wpList_loadA_st (o := ⟨some 125, .load _ _, _, _, _, _⟩) rfl _ _ rfl rfl HS tk ag_impl_Memory lit rfl ?_)
          | ((with_reducible (show wpList _ _ _ (Oper.mk (some 148) (Op.load _ _) _ _ _ _ :: _) _ _)); refine wpList_loadA_st (o := ⟨some 148, .load _ _, _, _, _, _⟩) rfl _ _ rfl rfl HS tk ag_impl_Memory lit rfl ?_)
          | ((with_reducible (show wpList _ _ _ (Oper.mk (some 149) (Op.load _ _) _ _ _ _ :: _) _ _)); refine wpList_loadA_st (o := ⟨some 149, .load _ _, _, _, _, _⟩) rfl _ _ rfl rfl HS tk ag_impl_Memory lit rfl ?_)
          | ((with_reducible (show wpList _ _ _ (Oper.mk (some 153) (Op.load _ _) _ _ _ _ :: _) _ _)); refine wpList_loadA_st (o := ⟨some 153, .load _ _, _, _, _, _⟩) rfl _ _ rfl rfl HS tk ag_impl_RxQueue lit rfl ?_)
          | ((with_reducible (show wpList _ _ _ (Oper.mk (some 154) (Op.load _ _) _ _ _ _ :: _) _ _)); refine wpList_loadA_st (o := ⟨some 154, .load _ _, _, _, _, _⟩) rfl _ _ rfl rfl HS tk ag_impl_RxQueue lit rfl ?_)
          | ((with_reducible (show wpList _ _ _ (Oper.mk (some 158) (Op.load _ _) _ _ _ _ :: _) _ _)); refine wpList_loadA_st (o := ⟨some 158, .load _ _, _, _, _, _⟩) rfl _ _ rfl rfl HS tk ag_impl_Memory lit rfl ?_))
    go_ret
    exact ⟨rfl, HS.ex⟩
  case neg =>
  have hlm : aMD.length ≤ 1099511627776 := by omega
  obtain ⟨qs, aQ_Ring_Base9, aQ_Ring_Size9, aQ_Ring_Head9, aQ_Ring_Tail9, aQ_Device_Base9, aQ_Device_Size9, aQ_Device_Count9, aQ_Driver_Base9, aQ_Driver_Size9, aQ_Driver_Count9, aQ_Held_Packet_DstMac9, aQ_Held_Packet_SrcMac9, aQ_Held_Packet_Vlan9, aQ_Held_Packet_Tos9, aQ_Held_Packet_Id9, aQ_Held_Packet_Ttl9, aQ_Held_Packet_SrcIp9, aQ_Held_Packet_DstIp9, aQ_Held_Packet_Seg_Kind9, aQ_Held_Packet_Seg_SrcPort9, aQ_Held_Packet_Seg_DstPort9, aQ_Held_Packet_Seg_Seq9, aQ_Held_Packet_Seg_Ack9, aQ_Held_Packet_Seg_Flags9, aQ_Held_Packet_Seg_Window9, aQ_Held_Packet_Seg_Body9, aQ_Held_Size9, aQ_Held_Count9, aQ_Holding9, aQ_Dropped9, hql, HI, HP⟩ := both_ReceivePacket aListD aMD aDomain aQ_Ring_Base aQ_Ring_Size aQ_Ring_Head aQ_Ring_Tail aQ_Device_Base aQ_Device_Size aQ_Device_Count aQ_Driver_Base aQ_Driver_Size aQ_Driver_Count aQ_Held_Packet_DstMac aQ_Held_Packet_SrcMac aQ_Held_Packet_Vlan aQ_Held_Packet_Tos aQ_Held_Packet_Id aQ_Held_Packet_Ttl aQ_Held_Packet_SrcIp aQ_Held_Packet_DstIp aQ_Held_Packet_Seg_Kind aQ_Held_Packet_Seg_SrcPort aQ_Held_Packet_Seg_DstPort aQ_Held_Packet_Seg_Seq aQ_Held_Packet_Seg_Ack aQ_Held_Packet_Seg_Flags aQ_Held_Packet_Seg_Window aQ_Held_Packet_Seg_Body aQ_Held_Size aQ_Held_Count aQ_Holding aQ_Dropped aKey aP_DstMac aP_SrcMac aP_Vlan aP_Tos aP_Id aP_Ttl aP_SrcIp aP_DstIp aP_Seg_Kind aP_Seg_SrcPort aP_Seg_DstPort aP_Seg_Seq aP_Seg_Ack aP_Seg_Flags aP_Seg_Window aP_Seg_Body aCoalesce (by omega) hlm (by omega) (by obtain ⟨_, _, _, _, _, _, h⟩ := k2.flat; exact h)
  replace HI := hid HI
  replace HP := hid HP
  have hql2 : qs.length ≤ 1048576 := by omega
  clear hql
  have HS := St.start w
  go_enter Tryz.func4, Tryz.ntmps4
  go_wp2_with (first
        | (go_at_call 5; (with_reducible refine (szMappingS_le _ aListD _ _ (k1.ex HS.ex) (by omega) (by omega)).mono ?_); rintro e w' ⟨rfl, hx⟩; replace HS := HS.grow hx; clear hx)
        | (go_at_call 6; (with_reducible refine (szMemory_le _ aMD _ _ (k2.ex HS.ex) (by omega) (by omega)).mono ?_); rintro e w' ⟨rfl, hx⟩; replace HS := HS.grow hx; clear hx)
        | (go_at_call 7; (with_reducible refine (szRxQueue_le_w aQ_Ring_Base aQ_Ring_Size aQ_Ring_Head aQ_Ring_Tail aQ_Device_Base aQ_Device_Size aQ_Device_Count aQ_Driver_Base aQ_Driver_Size aQ_Driver_Count aQ_Held_Packet_DstMac aQ_Held_Packet_SrcMac aQ_Held_Packet_Vlan aQ_Held_Packet_Tos aQ_Held_Packet_Id aQ_Held_Packet_Ttl aQ_Held_Packet_SrcIp aQ_Held_Packet_DstIp aQ_Held_Packet_Seg_Kind aQ_Held_Packet_Seg_SrcPort aQ_Held_Packet_Seg_DstPort aQ_Held_Packet_Seg_Seq aQ_Held_Packet_Seg_Ack aQ_Held_Packet_Seg_Flags aQ_Held_Packet_Seg_Window aQ_Held_Packet_Seg_Body aQ_Held_Size aQ_Held_Count aQ_Holding aQ_Dropped _ _ (by omega) (by omega) haQ_Held_Packet_Seg_Body).mono ?_); rintro e w' ⟨rfl, hx⟩; replace HS := HS.grow hx; clear hx)
        | (go_at_call 19; (with_reducible refine (szPacket_le_w aP_DstMac aP_SrcMac aP_Vlan aP_Tos aP_Id aP_Ttl aP_SrcIp aP_DstIp aP_Seg_Kind aP_Seg_SrcPort aP_Seg_DstPort aP_Seg_Seq aP_Seg_Ack aP_Seg_Flags aP_Seg_Window aP_Seg_Body _ _ (by omega) (by omega) haP_Seg_Body).mono ?_); rintro e w' ⟨rfl, hx⟩; replace HS := HS.grow hx; clear hx)
        | ((with_reducible (show wpList _ _ _ (Oper.mk (some 8) (Op.box _ _) _ _ _ _ :: _) _ _)); refine wpList_box_st (o := ⟨some 8, .box _ _, _, _, _, _⟩) rfl _ _ rfl (v := .agg (List.toArray _)) rfl HS ?_; clear HS; intro w8 b8 hb8 HS; simp only [Value.cells] at HS)
        | ((with_reducible (show wpList _ _ _ (Oper.mk (some 8) (Op.box _ _) _ _ _ _ :: _) _ _)); refine wpList_box_st (o := ⟨some 8, .box _ _, _, _, _, _⟩) rfl _ _ rfl (v := .agg _) rfl HS ?_; clear HS; intro w8 b8 hb8 HS; simp only [Value.cells] at HS)
        | ((with_reducible (show wpList _ _ _ (Oper.mk (some 10) (Op.box _ _) _ _ _ _ :: _) _ _)); refine wpList_box_st (o := ⟨some 10, .box _ _, _, _, _, _⟩) rfl _ _ rfl (v := .agg (List.toArray _)) rfl HS ?_; clear HS; intro w10 b10 hb10 HS; simp only [Value.cells] at HS)
        | ((with_reducible (show wpList _ _ _ (Oper.mk (some 10) (Op.box _ _) _ _ _ _ :: _) _ _)); refine wpList_box_st (o := ⟨some 10, .box _ _, _, _, _, _⟩) rfl _ _ rfl (v := .agg _) rfl HS ?_; clear HS; intro w10 b10 hb10 HS; simp only [Value.cells] at HS)
        | ((with_reducible (show wpList _ _ _ (Oper.mk (some 12) (Op.box _ _) _ _ _ _ :: _) _ _)); refine wpList_box_st (o := ⟨some 12, .box _ _, _, _, _, _⟩) rfl _ _ rfl (v := .agg (List.toArray _)) rfl HS ?_; clear HS; intro w12 b12 hb12 HS; simp only [Value.cells] at HS)
        | ((with_reducible (show wpList _ _ _ (Oper.mk (some 12) (Op.box _ _) _ _ _ _ :: _) _ _)); refine wpList_box_st (o := ⟨some 12, .box _ _, _, _, _, _⟩) rfl _ _ rfl (v := .agg _) rfl HS ?_; clear HS; intro w12 b12 hb12 HS; simp only [Value.cells] at HS)
        | ((with_reducible (show wpList _ _ _ (Oper.mk (some 35) (Op.load _ _) _ _ _ _ :: _) _ _)); refine wpList_loadA_st (o := ⟨some 35, .load _ _, _, _, _, _⟩) rfl _ _ rfl rfl HS tk ag_laws_Memory lit rfl ?_)
        | ((with_reducible (show wpList _ _ _ (Oper.mk (some 40) (Op.load _ _) _ _ _ _ :: _) _ _)); refine wpList_loadA_st (o := ⟨some 40, .load _ _, _, _, _, _⟩) rfl _ _ rfl rfl HS tk ag_laws_RxQueue lit rfl ?_)
        | ((with_reducible (show wpList _ _ _ (Oper.mk (some 45) (Op.load _ _) _ _ _ _ :: _) _ _)); refine wpList_loadA_st (o := ⟨some 45, .load _ _, _, _, _, _⟩) rfl _ _ rfl rfl HS tk ag_laws_Packet lit rfl ?_)
        | ((with_reducible (show wpList _ _ _ (Oper.mk (some 67) (Op.load _ _) _ _ _ _ :: _) _ _)); refine wpList_loadA_st (o := ⟨some 67, .load _ _, _, _, _, _⟩) rfl _ _ rfl rfl HS tk ag_laws_Memory lit rfl ?_)
        | ((with_reducible (show wpList _ _ _ (Oper.mk (some 19) (Op.alloc _) _ _ _ _ :: _) _ _)); refine wpList_alloc_st (o := ⟨some 19, .alloc _, _, _, _, _⟩) rfl _ rfl zc_impl_Memory HS ?_; clear HS; intro w19 b19 hb19 HS)
        | ((with_reducible (show wpList _ _ _ (Oper.mk none (Op.store _ (.tmp 19) _) _ _ _ _ :: _) _ _)); refine wpList_store_st (o := ⟨none, .store _ (.tmp 19) _, _, _, _, _⟩) rfl _ _ _ rfl rfl (v := .agg (List.toArray _)) rfl HS tk sz_impl_Memory vcs rfx rfx (by simp) ?_ rfl; clear HS; intro w18_3 hz18_3 HS; simp only [nicL, Value.cells, List.append_nil] at HS)
        | ((with_reducible (show wpList _ _ _ (Oper.mk none (Op.store _ (.tmp 19) _) _ _ _ _ :: _) _ _)); refine wpList_store_st (o := ⟨none, .store _ (.tmp 19) _, _, _, _, _⟩) rfl _ _ _ rfl rfl (v := .agg _) rfl HS tk sz_impl_Memory vcs rfx rfx (by simp) ?_ rfl; clear HS; intro w18_3 hz18_3 HS; simp only [nicL, Value.cells, List.append_nil] at HS)
        | ((with_reducible (show wpList _ _ _ (Oper.mk (some 82) (Op.load _ _) _ _ _ _ :: _) _ _)); refine wpList_loadA_st (o := ⟨some 82, .load _ _, _, _, _, _⟩) rfl _ _ rfl rfl HS tk ag_impl_Memory lit rfl ?_)
        | ((with_reducible (show wpList _ _ _ (Oper.mk (some 83) (Op.load _ _) _ _ _ _ :: _) _ _)); refine wpList_loadA_st (o := ⟨some 83, .load _ _, _, _, _, _⟩) rfl _ _ rfl rfl HS tk ag_impl_Memory lit rfl ?_)
        | ((with_reducible (show wpList _ _ _ (Oper.mk (some 87) (Op.load _ _) _ _ _ _ :: _) _ _)); refine wpList_loadA_st (o := ⟨some 87, .load _ _, _, _, _, _⟩) rfl _ _ rfl rfl HS tk ag_impl_RxQueue lit rfl ?_)
        | ((with_reducible (show wpList _ _ _ (Oper.mk (some 88) (Op.load _ _) _ _ _ _ :: _) _ _)); refine wpList_loadA_st (o := ⟨some 88, .load _ _, _, _, _, _⟩) rfl _ _ rfl rfl HS tk ag_impl_RxQueue lit rfl ?_)
        | ((with_reducible (show wpList _ _ _ (Oper.mk (some 105) (Op.load _ _) _ _ _ _ :: _) _ _)); refine wpList_loadA_st (o := ⟨some 105, .load _ _, _, _, _, _⟩) rfl _ _ rfl rfl HS tk ag_impl_Memory lit rfl ?_)
        | ((with_reducible (show wpList _ _ _ (Oper.mk (some 111) (Op.load _ _) _ _ _ _ :: _) _ _)); refine wpList_loadA_st (o := ⟨some 111, .load _ _, _, _, _, _⟩) rfl _ _ rfl rfl HS tk ag_impl_Memory lit rfl ?_)
        | ((with_reducible (show wpList _ _ _ (Oper.mk (some 112) (Op.load _ _) _ _ _ _ :: _) _ _)); refine wpList_loadA_st (o := ⟨some 112, .load _ _, _, _, _, _⟩) rfl _ _ rfl rfl HS tk ag_impl_Memory lit rfl ?_)
        | ((with_reducible (show wpList _ _ _ (Oper.mk (some 117) (Op.load _ _) _ _ _ _ :: _) _ _)); refine wpList_loadA_st (o := ⟨some 117, .load _ _, _, _, _, _⟩) rfl _ _ rfl rfl HS tk ag_impl_RxQueue lit rfl ?_)
        | ((with_reducible (show wpList _ _ _ (Oper.mk (some 118) (Op.load _ _) _ _ _ _ :: _) _ _)); refine wpList_loadA_st (o := ⟨some 118, .load _ _, _, _, _, _⟩) rfl _ _ rfl rfl HS tk ag_impl_RxQueue lit rfl ?_)
        | ((with_reducible (show wpList _ _ _ (Oper.mk (some 122) (Op.load _ _) _ _ _ _ :: _) _ _)); refine wpList_loadA_st (o := ⟨some 122, .load _ _, _, _, _, _⟩) rfl _ _ rfl rfl HS tk ag_impl_Memory lit rfl ?_)
        | ((with_reducible (show wpList _ _ _ (Oper.mk (some 125) (Op.load _ _) _ _ _ _ :: _) _ _)); refine wpList_loadA_st (o := ⟨some 125, .load _ _, _, _, _, _⟩) rfl _ _ rfl rfl HS tk ag_impl_Memory lit rfl ?_)
        | ((with_reducible (show wpList _ _ _ (Oper.mk (some 148) (Op.load _ _) _ _ _ _ :: _) _ _)); refine wpList_loadA_st (o := ⟨some 148, .load _ _, _, _, _, _⟩) rfl _ _ rfl rfl HS tk ag_impl_Memory lit rfl ?_)
        | ((with_reducible (show wpList _ _ _ (Oper.mk (some 149) (Op.load _ _) _ _ _ _ :: _) _ _)); refine wpList_loadA_st (o := ⟨some 149, .load _ _, _, _, _, _⟩) rfl _ _ rfl rfl HS tk ag_impl_Memory lit rfl ?_)
        | ((with_reducible (show wpList _ _ _ (Oper.mk (some 153) (Op.load _ _) _ _ _ _ :: _) _ _)); refine wpList_loadA_st (o := ⟨some 153, .load _ _, _, _, _, _⟩) rfl _ _ rfl rfl HS tk ag_impl_RxQueue lit rfl ?_)
        | ((with_reducible (show wpList _ _ _ (Oper.mk (some 154) (Op.load _ _) _ _ _ _ :: _) _ _)); refine wpList_loadA_st (o := ⟨some 154, .load _ _, _, _, _, _⟩) rfl _ _ rfl rfl HS tk ag_impl_RxQueue lit rfl ?_)
        | ((with_reducible (show wpList _ _ _ (Oper.mk (some 158) (Op.load _ _) _ _ _ _ :: _) _ _)); refine wpList_loadA_st (o := ⟨some 158, .load _ _, _, _, _, _⟩) rfl _ _ rfl rfl HS tk ag_impl_Memory lit rfl ?_))
  refine wp_region_fl HS (show Arr _ [rowA b8 _ _, rowA b10 _ _, rowA b12 _ _] from ary) (.early 0 (.early 2 (.early 4 (.early 5 (.early 7 (.early 8 (.early 10 (.forced 1 1 (.forced 3 1 (.forced 6 1 (.forced 9 1 (.forced 11 1 (.pure 12 (.pure 13 (.pure 14 (.land 15 (.land 16 (.forced 17 2 (.forced 18 2 .done))))))))))))))))))) [15, 16] (by kernel_rfl) (by as_aux_lemma => kernel_rfl) ?_
  intro hne
  clear HS
  try go_simp
  repeat' (first
    | (with_reducible refine wpF_forced ?_)
    | ((with_reducible (first | (show wpF _ _ _ _ _ (.early 0 _) _ _) | (show wpF _ _ _ _ _ (.early 4 _) _ _) | (show wpF _ _ _ _ _ (.early 7 _) _ _) | (show wpF _ _ _ _ _ (.early 10 _) _ _))); (first | (refine wpF_skipE rfl rfl ?_; (try go_simp)) | (refine wpF_early rfl rfl ?_; intro K hK; (first | go_big_quiet_op); (first | go_big_quiet_on | (refine ⟨_, fun _ => rfl, ?_⟩; go_big_quiet_on)))))
    | ((with_reducible ((show wpF _ _ _ _ _ (.early 2 _) _ _))); (first | (refine wpF_skipE rfl rfl ?_; (try go_simp)) | (refine wpF_early rfl rfl ?_; intro K hK; (first | ((refine quiet_loadA_st  _ _ rfl rfl tk ag_laws_Memory lit rfl ?_); (try go_simp)) | go_big_quiet_op); (first | go_big_quiet_on | (refine ⟨_, fun _ => rfl, ?_⟩; go_big_quiet_on)))))
    | ((with_reducible ((show wpF _ _ _ _ _ (.early 5 _) _ _))); (first | (refine wpF_skipE rfl rfl ?_; (try go_simp)) | (refine wpF_early rfl rfl ?_; intro K hK; (first | ((refine quiet_loadA_st  _ _ rfl rfl tk ag_laws_RxQueue lit rfl ?_); (try go_simp)) | go_big_quiet_op); (first | go_big_quiet_on | (refine ⟨_, fun _ => rfl, ?_⟩; go_big_quiet_on)))))
    | ((with_reducible ((show wpF _ _ _ _ _ (.early 8 _) _ _))); (first | (refine wpF_skipE rfl rfl ?_; (try go_simp)) | (refine wpF_early rfl rfl ?_; intro K hK; (first | ((refine quiet_loadA_st  _ _ rfl rfl tk ag_laws_Packet lit rfl ?_); (try go_simp)) | go_big_quiet_op); (first | go_big_quiet_on | (refine ⟨_, fun _ => rfl, ?_⟩; go_big_quiet_on)))))
    | ((with_reducible ((show OneF _ _ _ _ _ 1 1 _ _ _))); (first | (refine oneF_skip rfl rfl ?_; (try go_simp)) | (refine oneF_1 rfl rfl ?_; intro wq Fq HS K hK; go_simp; (first | (go_at_call 9; (with_reducible refine (toMappingS_any _ aListD _ (k1.ex HS.ex) (by omega)).mono ?_); rintro e w' ⟨A52, c52, rfl, ho, hx⟩; replace HS := HS.own ho hx; clear ho hx)); (try go_simp); refine hK _ _ _ ?_ (HS.take tk) ?_; (focus (exact stw HS)); clear HS hK K)))
    | ((with_reducible ((show OneF _ _ _ _ _ 3 1 _ _ _))); (first | (refine oneF_skip rfl rfl ?_; (try go_simp)) | (refine oneF_1 rfl rfl ?_; intro wq Fq HS K hK; go_simp; (first | (go_at_call 10; (with_reducible refine (toMemory_any _ aMD _ (k2.ex HS.ex) (by omega)).mono ?_); rintro e w' ⟨A54, c54, rfl, ho, hx⟩; replace HS := HS.own ho hx; clear ho hx)); (try go_simp); refine hK _ _ _ ?_ (HS.take tk) ?_; (focus (exact stw HS)); clear HS hK K)))
    | ((with_reducible ((show OneF _ _ _ _ _ 6 1 _ _ _))); (first | (refine oneF_skip rfl rfl ?_; (try go_simp)) | (refine oneF_1 rfl rfl ?_; intro wq Fq HS K hK; go_simp; (first | (go_at_call 11; (with_reducible refine (toRxQueue_w aQ_Ring_Base aQ_Ring_Size aQ_Ring_Head aQ_Ring_Tail aQ_Device_Base aQ_Device_Size aQ_Device_Count aQ_Driver_Base aQ_Driver_Size aQ_Driver_Count aQ_Held_Packet_DstMac aQ_Held_Packet_SrcMac aQ_Held_Packet_Vlan aQ_Held_Packet_Tos aQ_Held_Packet_Id aQ_Held_Packet_Ttl aQ_Held_Packet_SrcIp aQ_Held_Packet_DstIp aQ_Held_Packet_Seg_Kind aQ_Held_Packet_Seg_SrcPort aQ_Held_Packet_Seg_DstPort aQ_Held_Packet_Seg_Seq aQ_Held_Packet_Seg_Ack aQ_Held_Packet_Seg_Flags aQ_Held_Packet_Seg_Window aQ_Held_Packet_Seg_Body aQ_Held_Size aQ_Held_Count aQ_Holding aQ_Dropped _).mono ?_); rintro e w' ⟨rfl, hx⟩; replace HS := HS.grow hx; clear hx)); (try go_simp); refine hK _ _ _ ?_ (HS.take tk) ?_; (focus (exact stw HS)); clear HS hK K)))
    | ((with_reducible ((show OneF _ _ _ _ _ 9 1 _ _ _))); (first | (refine oneF_skip rfl rfl ?_; (try go_simp)) | (refine oneF_1 rfl rfl ?_; intro wq Fq HS K hK; go_simp; (first | (go_at_call 21; (with_reducible refine (toPacket_w aP_DstMac aP_SrcMac aP_Vlan aP_Tos aP_Id aP_Ttl aP_SrcIp aP_DstIp aP_Seg_Kind aP_Seg_SrcPort aP_Seg_DstPort aP_Seg_Seq aP_Seg_Ack aP_Seg_Flags aP_Seg_Window aP_Seg_Body _).mono ?_); rintro e w' ⟨rfl, hx⟩; replace HS := HS.grow hx; clear hx)); (try go_simp); refine hK _ _ _ ?_ (HS.take tk) ?_; (focus (exact stw HS)); clear HS hK K)))
    | ((with_reducible ((show OneF _ _ _ _ _ 11 1 _ _ _))); (first | (refine oneF_skip rfl rfl ?_; (try go_simp)) | (refine oneF_1 rfl rfl ?_; intro wq Fq HS K hK; go_simp; (first | (go_at_call 20; (with_reducible refine (HP.out _ _ _ (HS.holds tk) (HS.holds tk)).mono ?_); rintro e w' ⟨A62, c62, rfl, ho, hx⟩; replace HS := HS.own ho hx; clear ho hx)); (try go_simp); refine hK _ _ _ ?_ (HS.take tk) ?_; (focus (exact stw HS)); clear HS hK K)))
    | ((with_reducible ((show wpF _ _ _ _ _ (.pure _ _) _ _))); (first | (refine wpF_skipP rfl rfl ?_; (try go_simp)) | (refine wpF_pure rfl rfl ?_; intro K hK; go_big_quiet_op; (first | go_big_quiet_on | (refine ⟨_, fun _ => rfl, ?_⟩; go_big_quiet_on)))))
    | ((with_reducible ((show wpF _ _ _ _ _ (.land 15 _) _ _))); (refine wpF_land rfl rfl zc_impl_Memory ?_; intro b16; (try go_simp)))
    | ((with_reducible ((show wpF _ _ _ _ _ (.land 16 _) _ _))); (refine wpF_land rfl rfl zc_impl_RxQueue ?_; intro b17; (try go_simp)))
    | ((with_reducible ((show OneF _ _ _ _ _ 17 2 _ _ _))); (first | (refine oneF_skip rfl rfl ?_; (try go_simp)) | (refine oneF_2 rfl rfl ?_; intro wq Fq HS K hK; (first | (refine wp_store_st  _ _ _ rfl rfl (v := .agg (List.toArray _)) rfl HS tk sz_impl_Memory vcs rfx rfx (by simp) ?_ rfl; clear HS; intro w16_17 hz16_17 HS; simp only [nicL, Value.cells, List.append_nil] at HS) | (refine wp_store_st  _ _ _ rfl rfl (v := .agg _) rfl HS tk sz_impl_Memory vcs rfx rfx (by simp) ?_ rfl; clear HS; intro w16_17 hz16_17 HS; simp only [nicL, Value.cells, List.append_nil] at HS)); (try go_simp); refine hK _ _ _ (HS.take tk) ?_; clear HS hK K)))
    | ((with_reducible ((show OneF _ _ _ _ _ 18 2 _ _ _))); (first | (refine oneF_skip rfl rfl ?_; (try go_simp)) | (refine oneF_2 rfl rfl ?_; intro wq Fq HS K hK; (first | (refine wp_store_st  _ _ _ rfl rfl (v := .agg (List.toArray _)) rfl HS tk sz_impl_RxQueue vcs rfx rfx (by simp) ?_ rfl; clear HS; intro w16_18 hz16_18 HS; simp only [nicL, Value.cells, List.append_nil] at HS) | (refine wp_store_st  _ _ _ rfl rfl (v := .agg _) rfl HS tk sz_impl_RxQueue vcs rfx rfx (by simp) ?_ rfl; clear HS; intro w16_18 hz16_18 HS; simp only [nicL, Value.cells, List.append_nil] at HS)); (try go_simp); refine hK _ _ _ (HS.take tk) ?_; clear HS hK K)))
    | (with_reducible refine wpF_done ?_))
  all_goals intro w9 HS
  go_wp2_with (first
        | (go_at_call 9; (with_reducible refine (toMappingS_any _ aListD _ (k1.ex HS.ex) (by omega)).mono ?_); rintro e w' ⟨A66, c66, rfl, ho, hx⟩; replace HS := HS.own ho hx; clear ho hx)
        | (go_at_call 10; (with_reducible refine (toMemory_any _ aMD _ (k2.ex HS.ex) (by omega)).mono ?_); rintro e w' ⟨A68, c68, rfl, ho, hx⟩; replace HS := HS.own ho hx; clear ho hx)
        | ((with_reducible (show wpList _ _ _ (Oper.mk (some 8) (Op.box _ _) _ _ _ _ :: _) _ _)); refine wpList_box_st (o := ⟨some 8, .box _ _, _, _, _, _⟩) rfl _ _ rfl (v := .agg (List.toArray _)) rfl HS ?_; clear HS; intro w8 b8 hb8 HS; simp only [Value.cells] at HS)
        | ((with_reducible (show wpList _ _ _ (Oper.mk (some 8) (Op.box _ _) _ _ _ _ :: _) _ _)); refine wpList_box_st (o := ⟨some 8, .box _ _, _, _, _, _⟩) rfl _ _ rfl (v := .agg _) rfl HS ?_; clear HS; intro w8 b8 hb8 HS; simp only [Value.cells] at HS)
        | ((with_reducible (show wpList _ _ _ (Oper.mk (some 10) (Op.box _ _) _ _ _ _ :: _) _ _)); refine wpList_box_st (o := ⟨some 10, .box _ _, _, _, _, _⟩) rfl _ _ rfl (v := .agg (List.toArray _)) rfl HS ?_; clear HS; intro w10 b10 hb10 HS; simp only [Value.cells] at HS)
        | ((with_reducible (show wpList _ _ _ (Oper.mk (some 10) (Op.box _ _) _ _ _ _ :: _) _ _)); refine wpList_box_st (o := ⟨some 10, .box _ _, _, _, _, _⟩) rfl _ _ rfl (v := .agg _) rfl HS ?_; clear HS; intro w10 b10 hb10 HS; simp only [Value.cells] at HS)
        | ((with_reducible (show wpList _ _ _ (Oper.mk (some 12) (Op.box _ _) _ _ _ _ :: _) _ _)); refine wpList_box_st (o := ⟨some 12, .box _ _, _, _, _, _⟩) rfl _ _ rfl (v := .agg (List.toArray _)) rfl HS ?_; clear HS; intro w12 b12 hb12 HS; simp only [Value.cells] at HS)
        | ((with_reducible (show wpList _ _ _ (Oper.mk (some 12) (Op.box _ _) _ _ _ _ :: _) _ _)); refine wpList_box_st (o := ⟨some 12, .box _ _, _, _, _, _⟩) rfl _ _ rfl (v := .agg _) rfl HS ?_; clear HS; intro w12 b12 hb12 HS; simp only [Value.cells] at HS)
        | ((with_reducible (show wpList _ _ _ (Oper.mk (some 35) (Op.load _ _) _ _ _ _ :: _) _ _)); refine wpList_loadA_st (o := ⟨some 35, .load _ _, _, _, _, _⟩) rfl _ _ rfl rfl HS tk ag_laws_Memory lit rfl ?_)
        | ((with_reducible (show wpList _ _ _ (Oper.mk (some 40) (Op.load _ _) _ _ _ _ :: _) _ _)); refine wpList_loadA_st (o := ⟨some 40, .load _ _, _, _, _, _⟩) rfl _ _ rfl rfl HS tk ag_laws_RxQueue lit rfl ?_)
        | ((with_reducible (show wpList _ _ _ (Oper.mk (some 45) (Op.load _ _) _ _ _ _ :: _) _ _)); refine wpList_loadA_st (o := ⟨some 45, .load _ _, _, _, _, _⟩) rfl _ _ rfl rfl HS tk ag_laws_Packet lit rfl ?_)
        | ((with_reducible (show wpList _ _ _ (Oper.mk (some 67) (Op.load _ _) _ _ _ _ :: _) _ _)); refine wpList_loadA_st (o := ⟨some 67, .load _ _, _, _, _, _⟩) rfl _ _ rfl rfl HS tk ag_laws_Memory lit rfl ?_)
        | ((with_reducible (show wpList _ _ _ (Oper.mk (some 19) (Op.alloc _) _ _ _ _ :: _) _ _)); refine wpList_alloc_st (o := ⟨some 19, .alloc _, _, _, _, _⟩) rfl _ rfl zc_impl_Memory HS ?_; clear HS; intro w19 b19 hb19 HS)
        | ((with_reducible (show wpList _ _ _ (Oper.mk none (Op.store _ (.tmp 19) _) _ _ _ _ :: _) _ _)); refine wpList_store_st (o := ⟨none, .store _ (.tmp 19) _, _, _, _, _⟩) rfl _ _ _ rfl rfl (v := .agg (List.toArray _)) rfl HS tk sz_impl_Memory vcs rfx rfx (by simp) ?_ rfl; clear HS; intro w18_3 hz18_3 HS; simp only [nicL, Value.cells, List.append_nil] at HS)
        | ((with_reducible (show wpList _ _ _ (Oper.mk none (Op.store _ (.tmp 19) _) _ _ _ _ :: _) _ _)); refine wpList_store_st (o := ⟨none, .store _ (.tmp 19) _, _, _, _, _⟩) rfl _ _ _ rfl rfl (v := .agg _) rfl HS tk sz_impl_Memory vcs rfx rfx (by simp) ?_ rfl; clear HS; intro w18_3 hz18_3 HS; simp only [nicL, Value.cells, List.append_nil] at HS)
        | ((with_reducible (show wpList _ _ _ (Oper.mk (some 82) (Op.load _ _) _ _ _ _ :: _) _ _)); refine wpList_loadA_st (o := ⟨some 82, .load _ _, _, _, _, _⟩) rfl _ _ rfl rfl HS tk ag_impl_Memory lit rfl ?_)
        | ((with_reducible (show wpList _ _ _ (Oper.mk (some 83) (Op.load _ _) _ _ _ _ :: _) _ _)); refine wpList_loadA_st (o := ⟨some 83, .load _ _, _, _, _, _⟩) rfl _ _ rfl rfl HS tk ag_impl_Memory lit rfl ?_)
        | ((with_reducible (show wpList _ _ _ (Oper.mk (some 87) (Op.load _ _) _ _ _ _ :: _) _ _)); refine wpList_loadA_st (o := ⟨some 87, .load _ _, _, _, _, _⟩) rfl _ _ rfl rfl HS tk ag_impl_RxQueue lit rfl ?_)
        | ((with_reducible (show wpList _ _ _ (Oper.mk (some 88) (Op.load _ _) _ _ _ _ :: _) _ _)); refine wpList_loadA_st (o := ⟨some 88, .load _ _, _, _, _, _⟩) rfl _ _ rfl rfl HS tk ag_impl_RxQueue lit rfl ?_)
        | ((with_reducible (show wpList _ _ _ (Oper.mk (some 105) (Op.load _ _) _ _ _ _ :: _) _ _)); refine wpList_loadA_st (o := ⟨some 105, .load _ _, _, _, _, _⟩) rfl _ _ rfl rfl HS tk ag_impl_Memory lit rfl ?_)
        | ((with_reducible (show wpList _ _ _ (Oper.mk (some 111) (Op.load _ _) _ _ _ _ :: _) _ _)); refine wpList_loadA_st (o := ⟨some 111, .load _ _, _, _, _, _⟩) rfl _ _ rfl rfl HS tk ag_impl_Memory lit rfl ?_)
        | ((with_reducible (show wpList _ _ _ (Oper.mk (some 112) (Op.load _ _) _ _ _ _ :: _) _ _)); refine wpList_loadA_st (o := ⟨some 112, .load _ _, _, _, _, _⟩) rfl _ _ rfl rfl HS tk ag_impl_Memory lit rfl ?_)
        | ((with_reducible (show wpList _ _ _ (Oper.mk (some 117) (Op.load _ _) _ _ _ _ :: _) _ _)); refine wpList_loadA_st (o := ⟨some 117, .load _ _, _, _, _, _⟩) rfl _ _ rfl rfl HS tk ag_impl_RxQueue lit rfl ?_)
        | ((with_reducible (show wpList _ _ _ (Oper.mk (some 118) (Op.load _ _) _ _ _ _ :: _) _ _)); refine wpList_loadA_st (o := ⟨some 118, .load _ _, _, _, _, _⟩) rfl _ _ rfl rfl HS tk ag_impl_RxQueue lit rfl ?_)
        | ((with_reducible (show wpList _ _ _ (Oper.mk (some 122) (Op.load _ _) _ _ _ _ :: _) _ _)); refine wpList_loadA_st (o := ⟨some 122, .load _ _, _, _, _, _⟩) rfl _ _ rfl rfl HS tk ag_impl_Memory lit rfl ?_)
        | ((with_reducible (show wpList _ _ _ (Oper.mk (some 125) (Op.load _ _) _ _ _ _ :: _) _ _)); refine wpList_loadA_st (o := ⟨some 125, .load _ _, _, _, _, _⟩) rfl _ _ rfl rfl HS tk ag_impl_Memory lit rfl ?_)
        | ((with_reducible (show wpList _ _ _ (Oper.mk (some 148) (Op.load _ _) _ _ _ _ :: _) _ _)); refine wpList_loadA_st (o := ⟨some 148, .load _ _, _, _, _, _⟩) rfl _ _ rfl rfl HS tk ag_impl_Memory lit rfl ?_)
        | ((with_reducible (show wpList _ _ _ (Oper.mk (some 149) (Op.load _ _) _ _ _ _ :: _) _ _)); refine wpList_loadA_st (o := ⟨some 149, .load _ _, _, _, _, _⟩) rfl _ _ rfl rfl HS tk ag_impl_Memory lit rfl ?_)
        | ((with_reducible (show wpList _ _ _ (Oper.mk (some 153) (Op.load _ _) _ _ _ _ :: _) _ _)); refine wpList_loadA_st (o := ⟨some 153, .load _ _, _, _, _, _⟩) rfl _ _ rfl rfl HS tk ag_impl_RxQueue lit rfl ?_)
        | ((with_reducible (show wpList _ _ _ (Oper.mk (some 154) (Op.load _ _) _ _ _ _ :: _) _ _)); refine wpList_loadA_st (o := ⟨some 154, .load _ _, _, _, _, _⟩) rfl _ _ rfl rfl HS tk ag_impl_RxQueue lit rfl ?_)
        | ((with_reducible (show wpList _ _ _ (Oper.mk (some 158) (Op.load _ _) _ _ _ _ :: _) _ _)); refine wpList_loadA_st (o := ⟨some 158, .load _ _, _, _, _, _⟩) rfl _ _ rfl rfl HS tk ag_impl_Memory lit rfl ?_))
  refine wp_region_fl HS (show Arr _ [rowA b19 _ _, rowA b10 _ _, rowA b12 _ _] from ary) (.early 0 (.early 1 (.early 2 (.early 3 (.early 5 (.early 6 (.early 8 (.forced 4 1 (.forced 7 1 (.forced 9 1 (.pure 10 (.pure 11 (.pure 12 (.land 13 (.land 14 (.forced 15 2 (.forced 16 2 .done))))))))))))))))) [13, 14] (by kernel_rfl) (by as_aux_lemma => kernel_rfl) ?_
  intro hne
  clear HS
  try go_simp
  repeat' (first
    | (with_reducible refine wpF_forced ?_)
    | ((with_reducible (first | (show wpF _ _ _ _ _ (.early 0 _) _ _) | (show wpF _ _ _ _ _ (.early 2 _) _ _) | (show wpF _ _ _ _ _ (.early 5 _) _ _) | (show wpF _ _ _ _ _ (.early 8 _) _ _))); (first | (refine wpF_skipE rfl rfl ?_; (try go_simp)) | (refine wpF_early rfl rfl ?_; intro K hK; (first | go_big_quiet_op); (first | go_big_quiet_on | (refine ⟨_, fun _ => rfl, ?_⟩; go_big_quiet_on)))))
    | ((with_reducible ((show wpF _ _ _ _ _ (.early 1 _) _ _))); (first | (refine wpF_skipE rfl rfl ?_; (try go_simp)) | (refine wpF_early rfl rfl ?_; intro K hK; (first | ((refine quiet_loadA_st  _ _ rfl rfl tk ag_impl_Memory lit rfl ?_); (try go_simp)) | go_big_quiet_op); (first | go_big_quiet_on | (refine ⟨_, fun _ => rfl, ?_⟩; go_big_quiet_on)))))
    | ((with_reducible ((show wpF _ _ _ _ _ (.early 3 _) _ _))); (first | (refine wpF_skipE rfl rfl ?_; (try go_simp)) | (refine wpF_early rfl rfl ?_; intro K hK; (first | ((refine quiet_loadA_st  _ _ rfl rfl tk ag_laws_RxQueue lit rfl ?_); (try go_simp)) | go_big_quiet_op); (first | go_big_quiet_on | (refine ⟨_, fun _ => rfl, ?_⟩; go_big_quiet_on)))))
    | ((with_reducible ((show wpF _ _ _ _ _ (.early 6 _) _ _))); (first | (refine wpF_skipE rfl rfl ?_; (try go_simp)) | (refine wpF_early rfl rfl ?_; intro K hK; (first | ((refine quiet_loadA_st  _ _ rfl rfl tk ag_laws_Packet lit rfl ?_); (try go_simp)) | go_big_quiet_op); (first | go_big_quiet_on | (refine ⟨_, fun _ => rfl, ?_⟩; go_big_quiet_on)))))
    | ((with_reducible ((show OneF _ _ _ _ _ 4 1 _ _ _))); (first | (refine oneF_skip rfl rfl ?_; (try go_simp)) | (refine oneF_1 rfl rfl ?_; intro wq Fq HS K hK; go_simp; (first | (go_at_call 11; (with_reducible refine (toRxQueue_w aQ_Ring_Base aQ_Ring_Size aQ_Ring_Head aQ_Ring_Tail aQ_Device_Base aQ_Device_Size aQ_Device_Count aQ_Driver_Base aQ_Driver_Size aQ_Driver_Count aQ_Held_Packet_DstMac aQ_Held_Packet_SrcMac aQ_Held_Packet_Vlan aQ_Held_Packet_Tos aQ_Held_Packet_Id aQ_Held_Packet_Ttl aQ_Held_Packet_SrcIp aQ_Held_Packet_DstIp aQ_Held_Packet_Seg_Kind aQ_Held_Packet_Seg_SrcPort aQ_Held_Packet_Seg_DstPort aQ_Held_Packet_Seg_Seq aQ_Held_Packet_Seg_Ack aQ_Held_Packet_Seg_Flags aQ_Held_Packet_Seg_Window aQ_Held_Packet_Seg_Body aQ_Held_Size aQ_Held_Count aQ_Holding aQ_Dropped _).mono ?_); rintro e w' ⟨rfl, hx⟩; replace HS := HS.grow hx; clear hx)); (try go_simp); refine hK _ _ _ ?_ (HS.take tk) ?_; (focus (exact stw HS)); clear HS hK K)))
    | ((with_reducible ((show OneF _ _ _ _ _ 7 1 _ _ _))); (first | (refine oneF_skip rfl rfl ?_; (try go_simp)) | (refine oneF_1 rfl rfl ?_; intro wq Fq HS K hK; go_simp; (first | (go_at_call 21; (with_reducible refine (toPacket_w aP_DstMac aP_SrcMac aP_Vlan aP_Tos aP_Id aP_Ttl aP_SrcIp aP_DstIp aP_Seg_Kind aP_Seg_SrcPort aP_Seg_DstPort aP_Seg_Seq aP_Seg_Ack aP_Seg_Flags aP_Seg_Window aP_Seg_Body _).mono ?_); rintro e w' ⟨rfl, hx⟩; replace HS := HS.grow hx; clear hx)); (try go_simp); refine hK _ _ _ ?_ (HS.take tk) ?_; (focus (exact stw HS)); clear HS hK K)))
    | ((with_reducible ((show OneF _ _ _ _ _ 9 1 _ _ _))); (first | (refine oneF_skip rfl rfl ?_; (try go_simp)) | (refine oneF_1 rfl rfl ?_; intro wq Fq HS K hK; go_simp; (first | (go_at_call 22; (with_reducible refine (HI.out _ _ _ (HS.holds tk) (HS.holds tk)).mono ?_); rintro e w' ⟨A79, c79, rfl, ho, hx⟩; replace HS := HS.own ho hx; clear ho hx)); (try go_simp); refine hK _ _ _ ?_ (HS.take tk) ?_; (focus (exact stw HS)); clear HS hK K)))
    | ((with_reducible ((show wpF _ _ _ _ _ (.pure _ _) _ _))); (first | (refine wpF_skipP rfl rfl ?_; (try go_simp)) | (refine wpF_pure rfl rfl ?_; intro K hK; go_big_quiet_op; (first | go_big_quiet_on | (refine ⟨_, fun _ => rfl, ?_⟩; go_big_quiet_on)))))
    | ((with_reducible ((show wpF _ _ _ _ _ (.land 13 _) _ _))); (refine wpF_land rfl rfl zc_impl_Memory ?_; intro b20; (try go_simp)))
    | ((with_reducible ((show wpF _ _ _ _ _ (.land 14 _) _ _))); (refine wpF_land rfl rfl zc_impl_RxQueue ?_; intro b21; (try go_simp)))
    | ((with_reducible ((show OneF _ _ _ _ _ 15 2 _ _ _))); (first | (refine oneF_skip rfl rfl ?_; (try go_simp)) | (refine oneF_2 rfl rfl ?_; intro wq Fq HS K hK; (first | (refine wp_store_st  _ _ _ rfl rfl (v := .agg (List.toArray _)) rfl HS tk sz_impl_Memory vcs rfx rfx (by simp) ?_ rfl; clear HS; intro w19_15 hz19_15 HS; simp only [nicL, Value.cells, List.append_nil] at HS) | (refine wp_store_st  _ _ _ rfl rfl (v := .agg _) rfl HS tk sz_impl_Memory vcs rfx rfx (by simp) ?_ rfl; clear HS; intro w19_15 hz19_15 HS; simp only [nicL, Value.cells, List.append_nil] at HS)); (try go_simp); refine hK _ _ _ (HS.take tk) ?_; clear HS hK K)))
    | ((with_reducible ((show OneF _ _ _ _ _ 16 2 _ _ _))); (first | (refine oneF_skip rfl rfl ?_; (try go_simp)) | (refine oneF_2 rfl rfl ?_; intro wq Fq HS K hK; (first | (refine wp_store_st  _ _ _ rfl rfl (v := .agg (List.toArray _)) rfl HS tk sz_impl_RxQueue vcs rfx rfx (by simp) ?_ rfl; clear HS; intro w19_16 hz19_16 HS; simp only [nicL, Value.cells, List.append_nil] at HS) | (refine wp_store_st  _ _ _ rfl rfl (v := .agg _) rfl HS tk sz_impl_RxQueue vcs rfx rfx (by simp) ?_ rfl; clear HS; intro w19_16 hz19_16 HS; simp only [nicL, Value.cells, List.append_nil] at HS)); (try go_simp); refine hK _ _ _ (HS.take tk) ?_; clear HS hK K)))
    | (with_reducible refine wpF_done ?_))
  all_goals intro w9 HS
  go_wp2_with (first
        | (go_at_call 13; (with_reducible refine (eqMemory_same _ _ _ _ (HS.holds tk) (HS.holds tk)).mono ?_); rintro e w' ⟨rfl, hx⟩; replace HS := HS.grow hx; clear hx)
        | (go_at_call 14; (with_reducible refine (eqRxQueue_w aQ_Ring_Base9 aQ_Ring_Size9 aQ_Ring_Head9 aQ_Ring_Tail9 aQ_Device_Base9 aQ_Device_Size9 aQ_Device_Count9 aQ_Driver_Base9 aQ_Driver_Size9 aQ_Driver_Count9 aQ_Held_Packet_DstMac9 aQ_Held_Packet_SrcMac9 aQ_Held_Packet_Vlan9 aQ_Held_Packet_Tos9 aQ_Held_Packet_Id9 aQ_Held_Packet_Ttl9 aQ_Held_Packet_SrcIp9 aQ_Held_Packet_DstIp9 aQ_Held_Packet_Seg_Kind9 aQ_Held_Packet_Seg_SrcPort9 aQ_Held_Packet_Seg_DstPort9 aQ_Held_Packet_Seg_Seq9 aQ_Held_Packet_Seg_Ack9 aQ_Held_Packet_Seg_Flags9 aQ_Held_Packet_Seg_Window9 aQ_Held_Packet_Seg_Body9 aQ_Held_Size9 aQ_Held_Count9 aQ_Holding9 aQ_Dropped9 _).mono ?_); rintro e w' ⟨rfl, hx⟩; replace HS := HS.grow hx; clear hx)
        | (go_at_call 9; (with_reducible refine (toMappingS_any _ aListD _ (k1.ex HS.ex) (by omega)).mono ?_); rintro e w' ⟨A94, c94, rfl, ho, hx⟩; replace HS := HS.own ho hx; clear ho hx)
        | (go_at_call 15; (with_reducible refine (eqMappingS_same _ _ aListD _ (HS.holds tk) (HS.holds tk)).mono ?_); rintro e w' ⟨rfl, hx⟩; replace HS := HS.grow hx; clear hx)
        | ((with_reducible (show wpList _ _ _ (Oper.mk (some 8) (Op.box _ _) _ _ _ _ :: _) _ _)); refine wpList_box_st (o := ⟨some 8, .box _ _, _, _, _, _⟩) rfl _ _ rfl (v := .agg (List.toArray _)) rfl HS ?_; clear HS; intro w8 b8 hb8 HS; simp only [Value.cells] at HS)
        | ((with_reducible (show wpList _ _ _ (Oper.mk (some 8) (Op.box _ _) _ _ _ _ :: _) _ _)); refine wpList_box_st (o := ⟨some 8, .box _ _, _, _, _, _⟩) rfl _ _ rfl (v := .agg _) rfl HS ?_; clear HS; intro w8 b8 hb8 HS; simp only [Value.cells] at HS)
        | ((with_reducible (show wpList _ _ _ (Oper.mk (some 10) (Op.box _ _) _ _ _ _ :: _) _ _)); refine wpList_box_st (o := ⟨some 10, .box _ _, _, _, _, _⟩) rfl _ _ rfl (v := .agg (List.toArray _)) rfl HS ?_; clear HS; intro w10 b10 hb10 HS; simp only [Value.cells] at HS)
        | ((with_reducible (show wpList _ _ _ (Oper.mk (some 10) (Op.box _ _) _ _ _ _ :: _) _ _)); refine wpList_box_st (o := ⟨some 10, .box _ _, _, _, _, _⟩) rfl _ _ rfl (v := .agg _) rfl HS ?_; clear HS; intro w10 b10 hb10 HS; simp only [Value.cells] at HS)
        | ((with_reducible (show wpList _ _ _ (Oper.mk (some 12) (Op.box _ _) _ _ _ _ :: _) _ _)); refine wpList_box_st (o := ⟨some 12, .box _ _, _, _, _, _⟩) rfl _ _ rfl (v := .agg (List.toArray _)) rfl HS ?_; clear HS; intro w12 b12 hb12 HS; simp only [Value.cells] at HS)
        | ((with_reducible (show wpList _ _ _ (Oper.mk (some 12) (Op.box _ _) _ _ _ _ :: _) _ _)); refine wpList_box_st (o := ⟨some 12, .box _ _, _, _, _, _⟩) rfl _ _ rfl (v := .agg _) rfl HS ?_; clear HS; intro w12 b12 hb12 HS; simp only [Value.cells] at HS)
        | ((with_reducible (show wpList _ _ _ (Oper.mk (some 35) (Op.load _ _) _ _ _ _ :: _) _ _)); refine wpList_loadA_st (o := ⟨some 35, .load _ _, _, _, _, _⟩) rfl _ _ rfl rfl HS tk ag_laws_Memory lit rfl ?_)
        | ((with_reducible (show wpList _ _ _ (Oper.mk (some 40) (Op.load _ _) _ _ _ _ :: _) _ _)); refine wpList_loadA_st (o := ⟨some 40, .load _ _, _, _, _, _⟩) rfl _ _ rfl rfl HS tk ag_laws_RxQueue lit rfl ?_)
        | ((with_reducible (show wpList _ _ _ (Oper.mk (some 45) (Op.load _ _) _ _ _ _ :: _) _ _)); refine wpList_loadA_st (o := ⟨some 45, .load _ _, _, _, _, _⟩) rfl _ _ rfl rfl HS tk ag_laws_Packet lit rfl ?_)
        | ((with_reducible (show wpList _ _ _ (Oper.mk (some 67) (Op.load _ _) _ _ _ _ :: _) _ _)); refine wpList_loadA_st (o := ⟨some 67, .load _ _, _, _, _, _⟩) rfl _ _ rfl rfl HS tk ag_laws_Memory lit rfl ?_)
        | ((with_reducible (show wpList _ _ _ (Oper.mk (some 19) (Op.alloc _) _ _ _ _ :: _) _ _)); refine wpList_alloc_st (o := ⟨some 19, .alloc _, _, _, _, _⟩) rfl _ rfl zc_impl_Memory HS ?_; clear HS; intro w19 b19 hb19 HS)
        | ((with_reducible (show wpList _ _ _ (Oper.mk none (Op.store _ (.tmp 19) _) _ _ _ _ :: _) _ _)); refine wpList_store_st (o := ⟨none, .store _ (.tmp 19) _, _, _, _, _⟩) rfl _ _ _ rfl rfl (v := .agg (List.toArray _)) rfl HS tk sz_impl_Memory vcs rfx rfx (by simp) ?_ rfl; clear HS; intro w18_3 hz18_3 HS; simp only [nicL, Value.cells, List.append_nil] at HS)
        | ((with_reducible (show wpList _ _ _ (Oper.mk none (Op.store _ (.tmp 19) _) _ _ _ _ :: _) _ _)); refine wpList_store_st (o := ⟨none, .store _ (.tmp 19) _, _, _, _, _⟩) rfl _ _ _ rfl rfl (v := .agg _) rfl HS tk sz_impl_Memory vcs rfx rfx (by simp) ?_ rfl; clear HS; intro w18_3 hz18_3 HS; simp only [nicL, Value.cells, List.append_nil] at HS)
        | ((with_reducible (show wpList _ _ _ (Oper.mk (some 82) (Op.load _ _) _ _ _ _ :: _) _ _)); refine wpList_loadA_st (o := ⟨some 82, .load _ _, _, _, _, _⟩) rfl _ _ rfl rfl HS tk ag_impl_Memory lit rfl ?_)
        | ((with_reducible (show wpList _ _ _ (Oper.mk (some 83) (Op.load _ _) _ _ _ _ :: _) _ _)); refine wpList_loadA_st (o := ⟨some 83, .load _ _, _, _, _, _⟩) rfl _ _ rfl rfl HS tk ag_impl_Memory lit rfl ?_)
        | ((with_reducible (show wpList _ _ _ (Oper.mk (some 87) (Op.load _ _) _ _ _ _ :: _) _ _)); refine wpList_loadA_st (o := ⟨some 87, .load _ _, _, _, _, _⟩) rfl _ _ rfl rfl HS tk ag_impl_RxQueue lit rfl ?_)
        | ((with_reducible (show wpList _ _ _ (Oper.mk (some 88) (Op.load _ _) _ _ _ _ :: _) _ _)); refine wpList_loadA_st (o := ⟨some 88, .load _ _, _, _, _, _⟩) rfl _ _ rfl rfl HS tk ag_impl_RxQueue lit rfl ?_)
        | ((with_reducible (show wpList _ _ _ (Oper.mk (some 105) (Op.load _ _) _ _ _ _ :: _) _ _)); refine wpList_loadA_st (o := ⟨some 105, .load _ _, _, _, _, _⟩) rfl _ _ rfl rfl HS tk ag_impl_Memory lit rfl ?_)
        | ((with_reducible (show wpList _ _ _ (Oper.mk (some 111) (Op.load _ _) _ _ _ _ :: _) _ _)); refine wpList_loadA_st (o := ⟨some 111, .load _ _, _, _, _, _⟩) rfl _ _ rfl rfl HS tk ag_impl_Memory lit rfl ?_)
        | ((with_reducible (show wpList _ _ _ (Oper.mk (some 112) (Op.load _ _) _ _ _ _ :: _) _ _)); refine wpList_loadA_st (o := ⟨some 112, .load _ _, _, _, _, _⟩) rfl _ _ rfl rfl HS tk ag_impl_Memory lit rfl ?_)
        | ((with_reducible (show wpList _ _ _ (Oper.mk (some 117) (Op.load _ _) _ _ _ _ :: _) _ _)); refine wpList_loadA_st (o := ⟨some 117, .load _ _, _, _, _, _⟩) rfl _ _ rfl rfl HS tk ag_impl_RxQueue lit rfl ?_)
        | ((with_reducible (show wpList _ _ _ (Oper.mk (some 118) (Op.load _ _) _ _ _ _ :: _) _ _)); refine wpList_loadA_st (o := ⟨some 118, .load _ _, _, _, _, _⟩) rfl _ _ rfl rfl HS tk ag_impl_RxQueue lit rfl ?_)
        | ((with_reducible (show wpList _ _ _ (Oper.mk (some 122) (Op.load _ _) _ _ _ _ :: _) _ _)); refine wpList_loadA_st (o := ⟨some 122, .load _ _, _, _, _, _⟩) rfl _ _ rfl rfl HS tk ag_impl_Memory lit rfl ?_)
        | ((with_reducible (show wpList _ _ _ (Oper.mk (some 125) (Op.load _ _) _ _ _ _ :: _) _ _)); refine wpList_loadA_st (o := ⟨some 125, .load _ _, _, _, _, _⟩) rfl _ _ rfl rfl HS tk ag_impl_Memory lit rfl ?_)
        | ((with_reducible (show wpList _ _ _ (Oper.mk (some 148) (Op.load _ _) _ _ _ _ :: _) _ _)); refine wpList_loadA_st (o := ⟨some 148, .load _ _, _, _, _, _⟩) rfl _ _ rfl rfl HS tk ag_impl_Memory lit rfl ?_)
        | ((with_reducible (show wpList _ _ _ (Oper.mk (some 149) (Op.load _ _) _ _ _ _ :: _) _ _)); refine wpList_loadA_st (o := ⟨some 149, .load _ _, _, _, _, _⟩) rfl _ _ rfl rfl HS tk ag_impl_Memory lit rfl ?_)
        | ((with_reducible (show wpList _ _ _ (Oper.mk (some 153) (Op.load _ _) _ _ _ _ :: _) _ _)); refine wpList_loadA_st (o := ⟨some 153, .load _ _, _, _, _, _⟩) rfl _ _ rfl rfl HS tk ag_impl_RxQueue lit rfl ?_)
        | ((with_reducible (show wpList _ _ _ (Oper.mk (some 154) (Op.load _ _) _ _ _ _ :: _) _ _)); refine wpList_loadA_st (o := ⟨some 154, .load _ _, _, _, _, _⟩) rfl _ _ rfl rfl HS tk ag_impl_RxQueue lit rfl ?_)
        | ((with_reducible (show wpList _ _ _ (Oper.mk (some 158) (Op.load _ _) _ _ _ _ :: _) _ _)); refine wpList_loadA_st (o := ⟨some 158, .load _ _, _, _, _, _⟩) rfl _ _ rfl rfl HS tk ag_impl_Memory lit rfl ?_))
  refine wp_region_fl HS (take_all _) (.early 0 (.early 1 (.forced 2 1 (.forced 3 2 (.pure 4 .done))))) [] (by kernel_rfl) (by as_aux_lemma => kernel_rfl) ?_
  intro hne
  clear HS
  try go_simp
  repeat' (first
    | (with_reducible refine wpF_forced ?_)
    | ((with_reducible ((show wpF _ _ _ _ _ (.early 0 _) _ _))); (first | (refine wpF_skipE rfl rfl ?_; (try go_simp)) | (refine wpF_early rfl rfl ?_; intro K hK; (first | ((refine quiet_loadA_st  _ _ rfl rfl tk ag_impl_Memory lit rfl ?_); (try go_simp)) | go_big_quiet_op); (first | go_big_quiet_on | (refine ⟨_, fun _ => rfl, ?_⟩; go_big_quiet_on)))))
    | ((with_reducible ((show wpF _ _ _ _ _ (.early 1 _) _ _))); (first | (refine wpF_skipE rfl rfl ?_; (try go_simp)) | (refine wpF_early rfl rfl ?_; intro K hK; (first | ((refine quiet_loadA_st  _ _ rfl rfl tk ag_laws_Memory lit rfl ?_); (try go_simp)) | go_big_quiet_op); (first | go_big_quiet_on | (refine ⟨_, fun _ => rfl, ?_⟩; go_big_quiet_on)))))
    | ((with_reducible ((show OneF _ _ _ _ _ 2 1 _ _ _))); (first | (refine oneF_skip rfl rfl ?_; (try go_simp)) | (refine oneF_1 rfl rfl ?_; intro wq Fq HS K hK; go_simp; (first | (go_at_call 10; (with_reducible refine (toMemory_any _ aMD _ (k2.ex HS.ex) (by omega)).mono ?_); rintro e w' ⟨A99, c99, rfl, ho, hx⟩; replace HS := HS.own ho hx; clear ho hx)); (try go_simp); refine hK _ _ _ ?_ (HS.take tk) ?_; (focus (exact stw HS)); clear HS hK K)))
    | ((with_reducible ((show OneF _ _ _ _ _ 3 2 _ _ _))); (first | (refine oneF_skip rfl rfl ?_; (try go_simp)) | (refine oneF_2 rfl rfl ?_; intro wq Fq HS K hK; go_simp; (first | (go_at_call 13; (with_reducible refine (eqMemory_same _ _ _ _ (HS.holds tk) (HS.holds tk)).mono ?_); rintro e w' ⟨rfl, hx⟩; replace HS := HS.grow hx; clear hx)); (try go_simp); refine hK _ _ _ (HS.take tk) ?_; clear HS hK K)))
    | ((with_reducible ((show wpF _ _ _ _ _ (.pure _ _) _ _))); (first | (refine wpF_skipP rfl rfl ?_; (try go_simp)) | (refine wpF_pure rfl rfl ?_; intro K hK; go_big_quiet_op; (first | go_big_quiet_on | (refine ⟨_, fun _ => rfl, ?_⟩; go_big_quiet_on)))))
    | (with_reducible refine wpF_done ?_))
  all_goals intro w9 HS
  go_wp2_with (first
        | (go_at_call 13; (with_reducible refine (eqMemory_same _ _ _ _ (HS.holds tk) (HS.holds tk)).mono ?_); rintro e w' ⟨rfl, hx⟩; replace HS := HS.grow hx; clear hx)
        | (go_at_call 14; (with_reducible refine (eqRxQueue_w aQ_Ring_Base9 aQ_Ring_Size9 aQ_Ring_Head9 aQ_Ring_Tail9 aQ_Device_Base9 aQ_Device_Size9 aQ_Device_Count9 aQ_Driver_Base9 aQ_Driver_Size9 aQ_Driver_Count9 aQ_Held_Packet_DstMac9 aQ_Held_Packet_SrcMac9 aQ_Held_Packet_Vlan9 aQ_Held_Packet_Tos9 aQ_Held_Packet_Id9 aQ_Held_Packet_Ttl9 aQ_Held_Packet_SrcIp9 aQ_Held_Packet_DstIp9 aQ_Held_Packet_Seg_Kind9 aQ_Held_Packet_Seg_SrcPort9 aQ_Held_Packet_Seg_DstPort9 aQ_Held_Packet_Seg_Seq9 aQ_Held_Packet_Seg_Ack9 aQ_Held_Packet_Seg_Flags9 aQ_Held_Packet_Seg_Window9 aQ_Held_Packet_Seg_Body9 aQ_Held_Size9 aQ_Held_Count9 aQ_Holding9 aQ_Dropped9 _).mono ?_); rintro e w' ⟨rfl, hx⟩; replace HS := HS.grow hx; clear hx)
        | (go_at_call 16; (with_reducible refine (markMappingS_i 1 (HS.take tk) (by omega) (by omega)).mono ?_); rintro e w' ⟨rfl, HS9⟩; clear HS; have HS := HS9; clear HS9)
        | (go_at_call 17; (with_reducible refine (markMemory_i (ps := aMD) (1 + 4 * aListD.length) (HS.take tk) (by omega) (by omega) (by omega)).mono ?_); rintro e w' ⟨rfl, HS9⟩; clear HS; have HS := HS9; clear HS9)
        | ((with_reducible (show wpList _ _ _ (Oper.mk (some 8) (Op.box _ _) _ _ _ _ :: _) _ _)); refine wpList_box_st (o := ⟨some 8, .box _ _, _, _, _, _⟩) rfl _ _ rfl (v := .agg (List.toArray _)) rfl HS ?_; clear HS; intro w8 b8 hb8 HS; simp only [Value.cells] at HS)
        | ((with_reducible (show wpList _ _ _ (Oper.mk (some 8) (Op.box _ _) _ _ _ _ :: _) _ _)); refine wpList_box_st (o := ⟨some 8, .box _ _, _, _, _, _⟩) rfl _ _ rfl (v := .agg _) rfl HS ?_; clear HS; intro w8 b8 hb8 HS; simp only [Value.cells] at HS)
        | ((with_reducible (show wpList _ _ _ (Oper.mk (some 10) (Op.box _ _) _ _ _ _ :: _) _ _)); refine wpList_box_st (o := ⟨some 10, .box _ _, _, _, _, _⟩) rfl _ _ rfl (v := .agg (List.toArray _)) rfl HS ?_; clear HS; intro w10 b10 hb10 HS; simp only [Value.cells] at HS)
        | ((with_reducible (show wpList _ _ _ (Oper.mk (some 10) (Op.box _ _) _ _ _ _ :: _) _ _)); refine wpList_box_st (o := ⟨some 10, .box _ _, _, _, _, _⟩) rfl _ _ rfl (v := .agg _) rfl HS ?_; clear HS; intro w10 b10 hb10 HS; simp only [Value.cells] at HS)
        | ((with_reducible (show wpList _ _ _ (Oper.mk (some 12) (Op.box _ _) _ _ _ _ :: _) _ _)); refine wpList_box_st (o := ⟨some 12, .box _ _, _, _, _, _⟩) rfl _ _ rfl (v := .agg (List.toArray _)) rfl HS ?_; clear HS; intro w12 b12 hb12 HS; simp only [Value.cells] at HS)
        | ((with_reducible (show wpList _ _ _ (Oper.mk (some 12) (Op.box _ _) _ _ _ _ :: _) _ _)); refine wpList_box_st (o := ⟨some 12, .box _ _, _, _, _, _⟩) rfl _ _ rfl (v := .agg _) rfl HS ?_; clear HS; intro w12 b12 hb12 HS; simp only [Value.cells] at HS)
        | ((with_reducible (show wpList _ _ _ (Oper.mk (some 35) (Op.load _ _) _ _ _ _ :: _) _ _)); refine wpList_loadA_st (o := ⟨some 35, .load _ _, _, _, _, _⟩) rfl _ _ rfl rfl HS tk ag_laws_Memory lit rfl ?_)
        | ((with_reducible (show wpList _ _ _ (Oper.mk (some 40) (Op.load _ _) _ _ _ _ :: _) _ _)); refine wpList_loadA_st (o := ⟨some 40, .load _ _, _, _, _, _⟩) rfl _ _ rfl rfl HS tk ag_laws_RxQueue lit rfl ?_)
        | ((with_reducible (show wpList _ _ _ (Oper.mk (some 45) (Op.load _ _) _ _ _ _ :: _) _ _)); refine wpList_loadA_st (o := ⟨some 45, .load _ _, _, _, _, _⟩) rfl _ _ rfl rfl HS tk ag_laws_Packet lit rfl ?_)
        | ((with_reducible (show wpList _ _ _ (Oper.mk (some 67) (Op.load _ _) _ _ _ _ :: _) _ _)); refine wpList_loadA_st (o := ⟨some 67, .load _ _, _, _, _, _⟩) rfl _ _ rfl rfl HS tk ag_laws_Memory lit rfl ?_)
        | ((with_reducible (show wpList _ _ _ (Oper.mk (some 19) (Op.alloc _) _ _ _ _ :: _) _ _)); refine wpList_alloc_st (o := ⟨some 19, .alloc _, _, _, _, _⟩) rfl _ rfl zc_impl_Memory HS ?_; clear HS; intro w19 b19 hb19 HS)
        | ((with_reducible (show wpList _ _ _ (Oper.mk none (Op.store _ (.tmp 19) _) _ _ _ _ :: _) _ _)); refine wpList_store_st (o := ⟨none, .store _ (.tmp 19) _, _, _, _, _⟩) rfl _ _ _ rfl rfl (v := .agg (List.toArray _)) rfl HS tk sz_impl_Memory vcs rfx rfx (by simp) ?_ rfl; clear HS; intro w18_3 hz18_3 HS; simp only [nicL, Value.cells, List.append_nil] at HS)
        | ((with_reducible (show wpList _ _ _ (Oper.mk none (Op.store _ (.tmp 19) _) _ _ _ _ :: _) _ _)); refine wpList_store_st (o := ⟨none, .store _ (.tmp 19) _, _, _, _, _⟩) rfl _ _ _ rfl rfl (v := .agg _) rfl HS tk sz_impl_Memory vcs rfx rfx (by simp) ?_ rfl; clear HS; intro w18_3 hz18_3 HS; simp only [nicL, Value.cells, List.append_nil] at HS)
        | ((with_reducible (show wpList _ _ _ (Oper.mk (some 82) (Op.load _ _) _ _ _ _ :: _) _ _)); refine wpList_loadA_st (o := ⟨some 82, .load _ _, _, _, _, _⟩) rfl _ _ rfl rfl HS tk ag_impl_Memory lit rfl ?_)
        | ((with_reducible (show wpList _ _ _ (Oper.mk (some 83) (Op.load _ _) _ _ _ _ :: _) _ _)); refine wpList_loadA_st (o := ⟨some 83, .load _ _, _, _, _, _⟩) rfl _ _ rfl rfl HS tk ag_impl_Memory lit rfl ?_)
        | ((with_reducible (show wpList _ _ _ (Oper.mk (some 87) (Op.load _ _) _ _ _ _ :: _) _ _)); refine wpList_loadA_st (o := ⟨some 87, .load _ _, _, _, _, _⟩) rfl _ _ rfl rfl HS tk ag_impl_RxQueue lit rfl ?_)
        | ((with_reducible (show wpList _ _ _ (Oper.mk (some 88) (Op.load _ _) _ _ _ _ :: _) _ _)); refine wpList_loadA_st (o := ⟨some 88, .load _ _, _, _, _, _⟩) rfl _ _ rfl rfl HS tk ag_impl_RxQueue lit rfl ?_)
        | ((with_reducible (show wpList _ _ _ (Oper.mk (some 105) (Op.load _ _) _ _ _ _ :: _) _ _)); refine wpList_loadA_st (o := ⟨some 105, .load _ _, _, _, _, _⟩) rfl _ _ rfl rfl HS tk ag_impl_Memory lit rfl ?_)
        | ((with_reducible (show wpList _ _ _ (Oper.mk (some 111) (Op.load _ _) _ _ _ _ :: _) _ _)); refine wpList_loadA_st (o := ⟨some 111, .load _ _, _, _, _, _⟩) rfl _ _ rfl rfl HS tk ag_impl_Memory lit rfl ?_)
        | ((with_reducible (show wpList _ _ _ (Oper.mk (some 112) (Op.load _ _) _ _ _ _ :: _) _ _)); refine wpList_loadA_st (o := ⟨some 112, .load _ _, _, _, _, _⟩) rfl _ _ rfl rfl HS tk ag_impl_Memory lit rfl ?_)
        | ((with_reducible (show wpList _ _ _ (Oper.mk (some 117) (Op.load _ _) _ _ _ _ :: _) _ _)); refine wpList_loadA_st (o := ⟨some 117, .load _ _, _, _, _, _⟩) rfl _ _ rfl rfl HS tk ag_impl_RxQueue lit rfl ?_)
        | ((with_reducible (show wpList _ _ _ (Oper.mk (some 118) (Op.load _ _) _ _ _ _ :: _) _ _)); refine wpList_loadA_st (o := ⟨some 118, .load _ _, _, _, _, _⟩) rfl _ _ rfl rfl HS tk ag_impl_RxQueue lit rfl ?_)
        | ((with_reducible (show wpList _ _ _ (Oper.mk (some 122) (Op.load _ _) _ _ _ _ :: _) _ _)); refine wpList_loadA_st (o := ⟨some 122, .load _ _, _, _, _, _⟩) rfl _ _ rfl rfl HS tk ag_impl_Memory lit rfl ?_)
        | ((with_reducible (show wpList _ _ _ (Oper.mk (some 125) (Op.load _ _) _ _ _ _ :: _) _ _)); refine wpList_loadA_st (o := ⟨some 125, .load _ _, _, _, _, _⟩) rfl _ _ rfl rfl HS tk ag_impl_Memory lit rfl ?_)
        | ((with_reducible (show wpList _ _ _ (Oper.mk (some 148) (Op.load _ _) _ _ _ _ :: _) _ _)); refine wpList_loadA_st (o := ⟨some 148, .load _ _, _, _, _, _⟩) rfl _ _ rfl rfl HS tk ag_impl_Memory lit rfl ?_)
        | ((with_reducible (show wpList _ _ _ (Oper.mk (some 149) (Op.load _ _) _ _ _ _ :: _) _ _)); refine wpList_loadA_st (o := ⟨some 149, .load _ _, _, _, _, _⟩) rfl _ _ rfl rfl HS tk ag_impl_Memory lit rfl ?_)
        | ((with_reducible (show wpList _ _ _ (Oper.mk (some 153) (Op.load _ _) _ _ _ _ :: _) _ _)); refine wpList_loadA_st (o := ⟨some 153, .load _ _, _, _, _, _⟩) rfl _ _ rfl rfl HS tk ag_impl_RxQueue lit rfl ?_)
        | ((with_reducible (show wpList _ _ _ (Oper.mk (some 154) (Op.load _ _) _ _ _ _ :: _) _ _)); refine wpList_loadA_st (o := ⟨some 154, .load _ _, _, _, _, _⟩) rfl _ _ rfl rfl HS tk ag_impl_RxQueue lit rfl ?_)
        | ((with_reducible (show wpList _ _ _ (Oper.mk (some 158) (Op.load _ _) _ _ _ _ :: _) _ _)); refine wpList_loadA_st (o := ⟨some 158, .load _ _, _, _, _, _⟩) rfl _ _ rfl rfl HS tk ag_impl_Memory lit rfl ?_))
  go_wp2_with (first
        | (go_at_call 13; (with_reducible refine (eqMemory_same _ _ _ _ (HS.holds tk) (HS.holds tk)).mono ?_); rintro e w' ⟨rfl, hx⟩; replace HS := HS.grow hx; clear hx)
        | (go_at_call 14; (with_reducible refine (eqRxQueue_w aQ_Ring_Base9 aQ_Ring_Size9 aQ_Ring_Head9 aQ_Ring_Tail9 aQ_Device_Base9 aQ_Device_Size9 aQ_Device_Count9 aQ_Driver_Base9 aQ_Driver_Size9 aQ_Driver_Count9 aQ_Held_Packet_DstMac9 aQ_Held_Packet_SrcMac9 aQ_Held_Packet_Vlan9 aQ_Held_Packet_Tos9 aQ_Held_Packet_Id9 aQ_Held_Packet_Ttl9 aQ_Held_Packet_SrcIp9 aQ_Held_Packet_DstIp9 aQ_Held_Packet_Seg_Kind9 aQ_Held_Packet_Seg_SrcPort9 aQ_Held_Packet_Seg_DstPort9 aQ_Held_Packet_Seg_Seq9 aQ_Held_Packet_Seg_Ack9 aQ_Held_Packet_Seg_Flags9 aQ_Held_Packet_Seg_Window9 aQ_Held_Packet_Seg_Body9 aQ_Held_Size9 aQ_Held_Count9 aQ_Holding9 aQ_Dropped9 _).mono ?_); rintro e w' ⟨rfl, hx⟩; replace HS := HS.grow hx; clear hx)
        | (go_at_call 17; (with_reducible refine (markMemory_i (ps := qs) (1) (HS.take tk) (by omega) (by omega) (by omega)).mono ?_); rintro e w' ⟨rfl, HS9⟩; clear HS; have HS := HS9; clear HS9)
        | (go_at_call 18; (with_reducible refine (heldMemory_i qs.length 1 (HS.holds tk) (by omega) (by omega) (by omega)).mono ?_); rintro e w' ⟨rfl, hx⟩; replace HS := HS.grow hx; clear hx)
        | ((with_reducible (show wpList _ _ _ (Oper.mk (some 8) (Op.box _ _) _ _ _ _ :: _) _ _)); refine wpList_box_st (o := ⟨some 8, .box _ _, _, _, _, _⟩) rfl _ _ rfl (v := .agg (List.toArray _)) rfl HS ?_; clear HS; intro w8 b8 hb8 HS; simp only [Value.cells] at HS)
        | ((with_reducible (show wpList _ _ _ (Oper.mk (some 8) (Op.box _ _) _ _ _ _ :: _) _ _)); refine wpList_box_st (o := ⟨some 8, .box _ _, _, _, _, _⟩) rfl _ _ rfl (v := .agg _) rfl HS ?_; clear HS; intro w8 b8 hb8 HS; simp only [Value.cells] at HS)
        | ((with_reducible (show wpList _ _ _ (Oper.mk (some 10) (Op.box _ _) _ _ _ _ :: _) _ _)); refine wpList_box_st (o := ⟨some 10, .box _ _, _, _, _, _⟩) rfl _ _ rfl (v := .agg (List.toArray _)) rfl HS ?_; clear HS; intro w10 b10 hb10 HS; simp only [Value.cells] at HS)
        | ((with_reducible (show wpList _ _ _ (Oper.mk (some 10) (Op.box _ _) _ _ _ _ :: _) _ _)); refine wpList_box_st (o := ⟨some 10, .box _ _, _, _, _, _⟩) rfl _ _ rfl (v := .agg _) rfl HS ?_; clear HS; intro w10 b10 hb10 HS; simp only [Value.cells] at HS)
        | ((with_reducible (show wpList _ _ _ (Oper.mk (some 12) (Op.box _ _) _ _ _ _ :: _) _ _)); refine wpList_box_st (o := ⟨some 12, .box _ _, _, _, _, _⟩) rfl _ _ rfl (v := .agg (List.toArray _)) rfl HS ?_; clear HS; intro w12 b12 hb12 HS; simp only [Value.cells] at HS)
        | ((with_reducible (show wpList _ _ _ (Oper.mk (some 12) (Op.box _ _) _ _ _ _ :: _) _ _)); refine wpList_box_st (o := ⟨some 12, .box _ _, _, _, _, _⟩) rfl _ _ rfl (v := .agg _) rfl HS ?_; clear HS; intro w12 b12 hb12 HS; simp only [Value.cells] at HS)
        | ((with_reducible (show wpList _ _ _ (Oper.mk (some 35) (Op.load _ _) _ _ _ _ :: _) _ _)); refine wpList_loadA_st (o := ⟨some 35, .load _ _, _, _, _, _⟩) rfl _ _ rfl rfl HS tk ag_laws_Memory lit rfl ?_)
        | ((with_reducible (show wpList _ _ _ (Oper.mk (some 40) (Op.load _ _) _ _ _ _ :: _) _ _)); refine wpList_loadA_st (o := ⟨some 40, .load _ _, _, _, _, _⟩) rfl _ _ rfl rfl HS tk ag_laws_RxQueue lit rfl ?_)
        | ((with_reducible (show wpList _ _ _ (Oper.mk (some 45) (Op.load _ _) _ _ _ _ :: _) _ _)); refine wpList_loadA_st (o := ⟨some 45, .load _ _, _, _, _, _⟩) rfl _ _ rfl rfl HS tk ag_laws_Packet lit rfl ?_)
        | ((with_reducible (show wpList _ _ _ (Oper.mk (some 67) (Op.load _ _) _ _ _ _ :: _) _ _)); refine wpList_loadA_st (o := ⟨some 67, .load _ _, _, _, _, _⟩) rfl _ _ rfl rfl HS tk ag_laws_Memory lit rfl ?_)
        | ((with_reducible (show wpList _ _ _ (Oper.mk (some 19) (Op.alloc _) _ _ _ _ :: _) _ _)); refine wpList_alloc_st (o := ⟨some 19, .alloc _, _, _, _, _⟩) rfl _ rfl zc_impl_Memory HS ?_; clear HS; intro w19 b19 hb19 HS)
        | ((with_reducible (show wpList _ _ _ (Oper.mk none (Op.store _ (.tmp 19) _) _ _ _ _ :: _) _ _)); refine wpList_store_st (o := ⟨none, .store _ (.tmp 19) _, _, _, _, _⟩) rfl _ _ _ rfl rfl (v := .agg (List.toArray _)) rfl HS tk sz_impl_Memory vcs rfx rfx (by simp) ?_ rfl; clear HS; intro w18_3 hz18_3 HS; simp only [nicL, Value.cells, List.append_nil] at HS)
        | ((with_reducible (show wpList _ _ _ (Oper.mk none (Op.store _ (.tmp 19) _) _ _ _ _ :: _) _ _)); refine wpList_store_st (o := ⟨none, .store _ (.tmp 19) _, _, _, _, _⟩) rfl _ _ _ rfl rfl (v := .agg _) rfl HS tk sz_impl_Memory vcs rfx rfx (by simp) ?_ rfl; clear HS; intro w18_3 hz18_3 HS; simp only [nicL, Value.cells, List.append_nil] at HS)
        | ((with_reducible (show wpList _ _ _ (Oper.mk (some 82) (Op.load _ _) _ _ _ _ :: _) _ _)); refine wpList_loadA_st (o := ⟨some 82, .load _ _, _, _, _, _⟩) rfl _ _ rfl rfl HS tk ag_impl_Memory lit rfl ?_)
        | ((with_reducible (show wpList _ _ _ (Oper.mk (some 83) (Op.load _ _) _ _ _ _ :: _) _ _)); refine wpList_loadA_st (o := ⟨some 83, .load _ _, _, _, _, _⟩) rfl _ _ rfl rfl HS tk ag_impl_Memory lit rfl ?_)
        | ((with_reducible (show wpList _ _ _ (Oper.mk (some 87) (Op.load _ _) _ _ _ _ :: _) _ _)); refine wpList_loadA_st (o := ⟨some 87, .load _ _, _, _, _, _⟩) rfl _ _ rfl rfl HS tk ag_impl_RxQueue lit rfl ?_)
        | ((with_reducible (show wpList _ _ _ (Oper.mk (some 88) (Op.load _ _) _ _ _ _ :: _) _ _)); refine wpList_loadA_st (o := ⟨some 88, .load _ _, _, _, _, _⟩) rfl _ _ rfl rfl HS tk ag_impl_RxQueue lit rfl ?_)
        | ((with_reducible (show wpList _ _ _ (Oper.mk (some 105) (Op.load _ _) _ _ _ _ :: _) _ _)); refine wpList_loadA_st (o := ⟨some 105, .load _ _, _, _, _, _⟩) rfl _ _ rfl rfl HS tk ag_impl_Memory lit rfl ?_)
        | ((with_reducible (show wpList _ _ _ (Oper.mk (some 111) (Op.load _ _) _ _ _ _ :: _) _ _)); refine wpList_loadA_st (o := ⟨some 111, .load _ _, _, _, _, _⟩) rfl _ _ rfl rfl HS tk ag_impl_Memory lit rfl ?_)
        | ((with_reducible (show wpList _ _ _ (Oper.mk (some 112) (Op.load _ _) _ _ _ _ :: _) _ _)); refine wpList_loadA_st (o := ⟨some 112, .load _ _, _, _, _, _⟩) rfl _ _ rfl rfl HS tk ag_impl_Memory lit rfl ?_)
        | ((with_reducible (show wpList _ _ _ (Oper.mk (some 117) (Op.load _ _) _ _ _ _ :: _) _ _)); refine wpList_loadA_st (o := ⟨some 117, .load _ _, _, _, _, _⟩) rfl _ _ rfl rfl HS tk ag_impl_RxQueue lit rfl ?_)
        | ((with_reducible (show wpList _ _ _ (Oper.mk (some 118) (Op.load _ _) _ _ _ _ :: _) _ _)); refine wpList_loadA_st (o := ⟨some 118, .load _ _, _, _, _, _⟩) rfl _ _ rfl rfl HS tk ag_impl_RxQueue lit rfl ?_)
        | ((with_reducible (show wpList _ _ _ (Oper.mk (some 122) (Op.load _ _) _ _ _ _ :: _) _ _)); refine wpList_loadA_st (o := ⟨some 122, .load _ _, _, _, _, _⟩) rfl _ _ rfl rfl HS tk ag_impl_Memory lit rfl ?_)
        | ((with_reducible (show wpList _ _ _ (Oper.mk (some 125) (Op.load _ _) _ _ _ _ :: _) _ _)); refine wpList_loadA_st (o := ⟨some 125, .load _ _, _, _, _, _⟩) rfl _ _ rfl rfl HS tk ag_impl_Memory lit rfl ?_)
        | ((with_reducible (show wpList _ _ _ (Oper.mk (some 148) (Op.load _ _) _ _ _ _ :: _) _ _)); refine wpList_loadA_st (o := ⟨some 148, .load _ _, _, _, _, _⟩) rfl _ _ rfl rfl HS tk ag_impl_Memory lit rfl ?_)
        | ((with_reducible (show wpList _ _ _ (Oper.mk (some 149) (Op.load _ _) _ _ _ _ :: _) _ _)); refine wpList_loadA_st (o := ⟨some 149, .load _ _, _, _, _, _⟩) rfl _ _ rfl rfl HS tk ag_impl_Memory lit rfl ?_)
        | ((with_reducible (show wpList _ _ _ (Oper.mk (some 153) (Op.load _ _) _ _ _ _ :: _) _ _)); refine wpList_loadA_st (o := ⟨some 153, .load _ _, _, _, _, _⟩) rfl _ _ rfl rfl HS tk ag_impl_RxQueue lit rfl ?_)
        | ((with_reducible (show wpList _ _ _ (Oper.mk (some 154) (Op.load _ _) _ _ _ _ :: _) _ _)); refine wpList_loadA_st (o := ⟨some 154, .load _ _, _, _, _, _⟩) rfl _ _ rfl rfl HS tk ag_impl_RxQueue lit rfl ?_)
        | ((with_reducible (show wpList _ _ _ (Oper.mk (some 158) (Op.load _ _) _ _ _ _ :: _) _ _)); refine wpList_loadA_st (o := ⟨some 158, .load _ _, _, _, _, _⟩) rfl _ _ rfl rfl HS tk ag_impl_Memory lit rfl ?_))
  refine wp_region_fl HS (show Arr _ [rowA b8 _ _, rowA b10 _ _, rowA b12 _ _] from ary) (.early 0 (.early 2 (.early 4 (.early 5 (.early 7 (.early 8 (.early 10 (.forced 1 1 (.forced 3 1 (.forced 6 1 (.forced 9 1 (.forced 11 1 (.pure 12 (.pure 13 (.pure 14 (.land 15 (.land 16 (.forced 17 2 (.forced 18 2 .done))))))))))))))))))) [15, 16] (by kernel_rfl) (by as_aux_lemma => kernel_rfl) ?_
  intro hne
  clear HS
  try go_simp
  repeat' (first
    | (with_reducible refine wpF_forced ?_)
    | ((with_reducible (first | (show wpF _ _ _ _ _ (.early 0 _) _ _) | (show wpF _ _ _ _ _ (.early 4 _) _ _) | (show wpF _ _ _ _ _ (.early 7 _) _ _) | (show wpF _ _ _ _ _ (.early 10 _) _ _))); (first | (refine wpF_skipE rfl rfl ?_; (try go_simp)) | (refine wpF_early rfl rfl ?_; intro K hK; (first | go_big_quiet_op); (first | go_big_quiet_on | (refine ⟨_, fun _ => rfl, ?_⟩; go_big_quiet_on)))))
    | ((with_reducible ((show wpF _ _ _ _ _ (.early 2 _) _ _))); (first | (refine wpF_skipE rfl rfl ?_; (try go_simp)) | (refine wpF_early rfl rfl ?_; intro K hK; (first | ((refine quiet_loadA_st  _ _ rfl rfl tk ag_laws_Memory lit rfl ?_); (try go_simp)) | go_big_quiet_op); (first | go_big_quiet_on | (refine ⟨_, fun _ => rfl, ?_⟩; go_big_quiet_on)))))
    | ((with_reducible ((show wpF _ _ _ _ _ (.early 5 _) _ _))); (first | (refine wpF_skipE rfl rfl ?_; (try go_simp)) | (refine wpF_early rfl rfl ?_; intro K hK; (first | ((refine quiet_loadA_st  _ _ rfl rfl tk ag_laws_RxQueue lit rfl ?_); (try go_simp)) | go_big_quiet_op); (first | go_big_quiet_on | (refine ⟨_, fun _ => rfl, ?_⟩; go_big_quiet_on)))))
    | ((with_reducible ((show wpF _ _ _ _ _ (.early 8 _) _ _))); (first | (refine wpF_skipE rfl rfl ?_; (try go_simp)) | (refine wpF_early rfl rfl ?_; intro K hK; (first | ((refine quiet_loadA_st  _ _ rfl rfl tk ag_laws_Packet lit rfl ?_); (try go_simp)) | go_big_quiet_op); (first | go_big_quiet_on | (refine ⟨_, fun _ => rfl, ?_⟩; go_big_quiet_on)))))
    | ((with_reducible ((show OneF _ _ _ _ _ 1 1 _ _ _))); (first | (refine oneF_skip rfl rfl ?_; (try go_simp)) | (refine oneF_1 rfl rfl ?_; intro wq Fq HS K hK; go_simp; (first | (go_at_call 9; (with_reducible refine (toMappingS_any _ aListD _ (k1.ex HS.ex) (by omega)).mono ?_); rintro e w' ⟨A135, c135, rfl, ho, hx⟩; replace HS := HS.own ho hx; clear ho hx)); (try go_simp); refine hK _ _ _ ?_ (HS.take tk) ?_; (focus (exact stw HS)); clear HS hK K)))
    | ((with_reducible ((show OneF _ _ _ _ _ 3 1 _ _ _))); (first | (refine oneF_skip rfl rfl ?_; (try go_simp)) | (refine oneF_1 rfl rfl ?_; intro wq Fq HS K hK; go_simp; (first | (go_at_call 10; (with_reducible refine (toMemory_any _ aMD _ (k2.ex HS.ex) (by omega)).mono ?_); rintro e w' ⟨A137, c137, rfl, ho, hx⟩; replace HS := HS.own ho hx; clear ho hx)); (try go_simp); refine hK _ _ _ ?_ (HS.take tk) ?_; (focus (exact stw HS)); clear HS hK K)))
    | ((with_reducible ((show OneF _ _ _ _ _ 6 1 _ _ _))); (first | (refine oneF_skip rfl rfl ?_; (try go_simp)) | (refine oneF_1 rfl rfl ?_; intro wq Fq HS K hK; go_simp; (first | (go_at_call 11; (with_reducible refine (toRxQueue_w aQ_Ring_Base aQ_Ring_Size aQ_Ring_Head aQ_Ring_Tail aQ_Device_Base aQ_Device_Size aQ_Device_Count aQ_Driver_Base aQ_Driver_Size aQ_Driver_Count aQ_Held_Packet_DstMac aQ_Held_Packet_SrcMac aQ_Held_Packet_Vlan aQ_Held_Packet_Tos aQ_Held_Packet_Id aQ_Held_Packet_Ttl aQ_Held_Packet_SrcIp aQ_Held_Packet_DstIp aQ_Held_Packet_Seg_Kind aQ_Held_Packet_Seg_SrcPort aQ_Held_Packet_Seg_DstPort aQ_Held_Packet_Seg_Seq aQ_Held_Packet_Seg_Ack aQ_Held_Packet_Seg_Flags aQ_Held_Packet_Seg_Window aQ_Held_Packet_Seg_Body aQ_Held_Size aQ_Held_Count aQ_Holding aQ_Dropped _).mono ?_); rintro e w' ⟨rfl, hx⟩; replace HS := HS.grow hx; clear hx)); (try go_simp); refine hK _ _ _ ?_ (HS.take tk) ?_; (focus (exact stw HS)); clear HS hK K)))
    | ((with_reducible ((show OneF _ _ _ _ _ 9 1 _ _ _))); (first | (refine oneF_skip rfl rfl ?_; (try go_simp)) | (refine oneF_1 rfl rfl ?_; intro wq Fq HS K hK; go_simp; (first | (go_at_call 21; (with_reducible refine (toPacket_w aP_DstMac aP_SrcMac aP_Vlan aP_Tos aP_Id aP_Ttl aP_SrcIp aP_DstIp aP_Seg_Kind aP_Seg_SrcPort aP_Seg_DstPort aP_Seg_Seq aP_Seg_Ack aP_Seg_Flags aP_Seg_Window aP_Seg_Body _).mono ?_); rintro e w' ⟨rfl, hx⟩; replace HS := HS.grow hx; clear hx)); (try go_simp); refine hK _ _ _ ?_ (HS.take tk) ?_; (focus (exact stw HS)); clear HS hK K)))
    | ((with_reducible ((show OneF _ _ _ _ _ 11 1 _ _ _))); (first | (refine oneF_skip rfl rfl ?_; (try go_simp)) | (refine oneF_1 rfl rfl ?_; intro wq Fq HS K hK; go_simp; (first | (go_at_call 22; (with_reducible refine (HI.out _ _ _ (HS.holds tk) (HS.holds tk)).mono ?_); rintro e w' ⟨A145, c145, rfl, ho, hx⟩; replace HS := HS.own ho hx; clear ho hx)); (try go_simp); refine hK _ _ _ ?_ (HS.take tk) ?_; (focus (exact stw HS)); clear HS hK K)))
    | ((with_reducible ((show wpF _ _ _ _ _ (.pure _ _) _ _))); (first | (refine wpF_skipP rfl rfl ?_; (try go_simp)) | (refine wpF_pure rfl rfl ?_; intro K hK; go_big_quiet_op; (first | go_big_quiet_on | (refine ⟨_, fun _ => rfl, ?_⟩; go_big_quiet_on)))))
    | ((with_reducible ((show wpF _ _ _ _ _ (.land 15 _) _ _))); (refine wpF_land rfl rfl zc_impl_Memory ?_; intro b25; (try go_simp)))
    | ((with_reducible ((show wpF _ _ _ _ _ (.land 16 _) _ _))); (refine wpF_land rfl rfl zc_impl_RxQueue ?_; intro b26; (try go_simp)))
    | ((with_reducible ((show OneF _ _ _ _ _ 17 2 _ _ _))); (first | (refine oneF_skip rfl rfl ?_; (try go_simp)) | (refine oneF_2 rfl rfl ?_; intro wq Fq HS K hK; (first | (refine wp_store_st  _ _ _ rfl rfl (v := .agg (List.toArray _)) rfl HS tk sz_impl_Memory vcs rfx rfx (by simp) ?_ rfl; clear HS; intro w39_17 hz39_17 HS; simp only [nicL, Value.cells, List.append_nil] at HS) | (refine wp_store_st  _ _ _ rfl rfl (v := .agg _) rfl HS tk sz_impl_Memory vcs rfx rfx (by simp) ?_ rfl; clear HS; intro w39_17 hz39_17 HS; simp only [nicL, Value.cells, List.append_nil] at HS)); (try go_simp); refine hK _ _ _ (HS.take tk) ?_; clear HS hK K)))
    | ((with_reducible ((show OneF _ _ _ _ _ 18 2 _ _ _))); (first | (refine oneF_skip rfl rfl ?_; (try go_simp)) | (refine oneF_2 rfl rfl ?_; intro wq Fq HS K hK; (first | (refine wp_store_st  _ _ _ rfl rfl (v := .agg (List.toArray _)) rfl HS tk sz_impl_RxQueue vcs rfx rfx (by simp) ?_ rfl; clear HS; intro w39_18 hz39_18 HS; simp only [nicL, Value.cells, List.append_nil] at HS) | (refine wp_store_st  _ _ _ rfl rfl (v := .agg _) rfl HS tk sz_impl_RxQueue vcs rfx rfx (by simp) ?_ rfl; clear HS; intro w39_18 hz39_18 HS; simp only [nicL, Value.cells, List.append_nil] at HS)); (try go_simp); refine hK _ _ _ (HS.take tk) ?_; clear HS hK K)))
    | (with_reducible refine wpF_done ?_))
  all_goals intro w9 HS
  go_wp2_with (first
        | (go_at_call 13; (with_reducible refine (eqMemory_same _ _ _ _ (HS.holds tk) (HS.holds tk)).mono ?_); rintro e w' ⟨rfl, hx⟩; replace HS := HS.grow hx; clear hx)
        | (go_at_call 14; (with_reducible refine (eqRxQueue_w aQ_Ring_Base9 aQ_Ring_Size9 aQ_Ring_Head9 aQ_Ring_Tail9 aQ_Device_Base9 aQ_Device_Size9 aQ_Device_Count9 aQ_Driver_Base9 aQ_Driver_Size9 aQ_Driver_Count9 aQ_Held_Packet_DstMac9 aQ_Held_Packet_SrcMac9 aQ_Held_Packet_Vlan9 aQ_Held_Packet_Tos9 aQ_Held_Packet_Id9 aQ_Held_Packet_Ttl9 aQ_Held_Packet_SrcIp9 aQ_Held_Packet_DstIp9 aQ_Held_Packet_Seg_Kind9 aQ_Held_Packet_Seg_SrcPort9 aQ_Held_Packet_Seg_DstPort9 aQ_Held_Packet_Seg_Seq9 aQ_Held_Packet_Seg_Ack9 aQ_Held_Packet_Seg_Flags9 aQ_Held_Packet_Seg_Window9 aQ_Held_Packet_Seg_Body9 aQ_Held_Size9 aQ_Held_Count9 aQ_Holding9 aQ_Dropped9 _).mono ?_); rintro e w' ⟨rfl, hx⟩; replace HS := HS.grow hx; clear hx)
        | (go_at_call 18; (with_reducible refine (heldMemory_i qs.length 1 (HS.holds tk) (by omega) (by omega) (by omega)).mono ?_); rintro e w' ⟨rfl, hx⟩; replace HS := HS.grow hx; clear hx)
        | ((with_reducible (show wpList _ _ _ (Oper.mk (some 8) (Op.box _ _) _ _ _ _ :: _) _ _)); refine wpList_box_st (o := ⟨some 8, .box _ _, _, _, _, _⟩) rfl _ _ rfl (v := .agg (List.toArray _)) rfl HS ?_; clear HS; intro w8 b8 hb8 HS; simp only [Value.cells] at HS)
        | ((with_reducible (show wpList _ _ _ (Oper.mk (some 8) (Op.box _ _) _ _ _ _ :: _) _ _)); refine wpList_box_st (o := ⟨some 8, .box _ _, _, _, _, _⟩) rfl _ _ rfl (v := .agg _) rfl HS ?_; clear HS; intro w8 b8 hb8 HS; simp only [Value.cells] at HS)
        | ((with_reducible (show wpList _ _ _ (Oper.mk (some 10) (Op.box _ _) _ _ _ _ :: _) _ _)); refine wpList_box_st (o := ⟨some 10, .box _ _, _, _, _, _⟩) rfl _ _ rfl (v := .agg (List.toArray _)) rfl HS ?_; clear HS; intro w10 b10 hb10 HS; simp only [Value.cells] at HS)
        | ((with_reducible (show wpList _ _ _ (Oper.mk (some 10) (Op.box _ _) _ _ _ _ :: _) _ _)); refine wpList_box_st (o := ⟨some 10, .box _ _, _, _, _, _⟩) rfl _ _ rfl (v := .agg _) rfl HS ?_; clear HS; intro w10 b10 hb10 HS; simp only [Value.cells] at HS)
        | ((with_reducible (show wpList _ _ _ (Oper.mk (some 12) (Op.box _ _) _ _ _ _ :: _) _ _)); refine wpList_box_st (o := ⟨some 12, .box _ _, _, _, _, _⟩) rfl _ _ rfl (v := .agg (List.toArray _)) rfl HS ?_; clear HS; intro w12 b12 hb12 HS; simp only [Value.cells] at HS)
        | ((with_reducible (show wpList _ _ _ (Oper.mk (some 12) (Op.box _ _) _ _ _ _ :: _) _ _)); refine wpList_box_st (o := ⟨some 12, .box _ _, _, _, _, _⟩) rfl _ _ rfl (v := .agg _) rfl HS ?_; clear HS; intro w12 b12 hb12 HS; simp only [Value.cells] at HS)
        | ((with_reducible (show wpList _ _ _ (Oper.mk (some 35) (Op.load _ _) _ _ _ _ :: _) _ _)); refine wpList_loadA_st (o := ⟨some 35, .load _ _, _, _, _, _⟩) rfl _ _ rfl rfl HS tk ag_laws_Memory lit rfl ?_)
        | ((with_reducible (show wpList _ _ _ (Oper.mk (some 40) (Op.load _ _) _ _ _ _ :: _) _ _)); refine wpList_loadA_st (o := ⟨some 40, .load _ _, _, _, _, _⟩) rfl _ _ rfl rfl HS tk ag_laws_RxQueue lit rfl ?_)
        | ((with_reducible (show wpList _ _ _ (Oper.mk (some 45) (Op.load _ _) _ _ _ _ :: _) _ _)); refine wpList_loadA_st (o := ⟨some 45, .load _ _, _, _, _, _⟩) rfl _ _ rfl rfl HS tk ag_laws_Packet lit rfl ?_)
        | ((with_reducible (show wpList _ _ _ (Oper.mk (some 67) (Op.load _ _) _ _ _ _ :: _) _ _)); refine wpList_loadA_st (o := ⟨some 67, .load _ _, _, _, _, _⟩) rfl _ _ rfl rfl HS tk ag_laws_Memory lit rfl ?_)
        | ((with_reducible (show wpList _ _ _ (Oper.mk (some 19) (Op.alloc _) _ _ _ _ :: _) _ _)); refine wpList_alloc_st (o := ⟨some 19, .alloc _, _, _, _, _⟩) rfl _ rfl zc_impl_Memory HS ?_; clear HS; intro w19 b19 hb19 HS)
        | ((with_reducible (show wpList _ _ _ (Oper.mk none (Op.store _ (.tmp 19) _) _ _ _ _ :: _) _ _)); refine wpList_store_st (o := ⟨none, .store _ (.tmp 19) _, _, _, _, _⟩) rfl _ _ _ rfl rfl (v := .agg (List.toArray _)) rfl HS tk sz_impl_Memory vcs rfx rfx (by simp) ?_ rfl; clear HS; intro w18_3 hz18_3 HS; simp only [nicL, Value.cells, List.append_nil] at HS)
        | ((with_reducible (show wpList _ _ _ (Oper.mk none (Op.store _ (.tmp 19) _) _ _ _ _ :: _) _ _)); refine wpList_store_st (o := ⟨none, .store _ (.tmp 19) _, _, _, _, _⟩) rfl _ _ _ rfl rfl (v := .agg _) rfl HS tk sz_impl_Memory vcs rfx rfx (by simp) ?_ rfl; clear HS; intro w18_3 hz18_3 HS; simp only [nicL, Value.cells, List.append_nil] at HS)
        | ((with_reducible (show wpList _ _ _ (Oper.mk (some 82) (Op.load _ _) _ _ _ _ :: _) _ _)); refine wpList_loadA_st (o := ⟨some 82, .load _ _, _, _, _, _⟩) rfl _ _ rfl rfl HS tk ag_impl_Memory lit rfl ?_)
        | ((with_reducible (show wpList _ _ _ (Oper.mk (some 83) (Op.load _ _) _ _ _ _ :: _) _ _)); refine wpList_loadA_st (o := ⟨some 83, .load _ _, _, _, _, _⟩) rfl _ _ rfl rfl HS tk ag_impl_Memory lit rfl ?_)
        | ((with_reducible (show wpList _ _ _ (Oper.mk (some 87) (Op.load _ _) _ _ _ _ :: _) _ _)); refine wpList_loadA_st (o := ⟨some 87, .load _ _, _, _, _, _⟩) rfl _ _ rfl rfl HS tk ag_impl_RxQueue lit rfl ?_)
        | ((with_reducible (show wpList _ _ _ (Oper.mk (some 88) (Op.load _ _) _ _ _ _ :: _) _ _)); refine wpList_loadA_st (o := ⟨some 88, .load _ _, _, _, _, _⟩) rfl _ _ rfl rfl HS tk ag_impl_RxQueue lit rfl ?_)
        | ((with_reducible (show wpList _ _ _ (Oper.mk (some 105) (Op.load _ _) _ _ _ _ :: _) _ _)); refine wpList_loadA_st (o := ⟨some 105, .load _ _, _, _, _, _⟩) rfl _ _ rfl rfl HS tk ag_impl_Memory lit rfl ?_)
        | ((with_reducible (show wpList _ _ _ (Oper.mk (some 111) (Op.load _ _) _ _ _ _ :: _) _ _)); refine wpList_loadA_st (o := ⟨some 111, .load _ _, _, _, _, _⟩) rfl _ _ rfl rfl HS tk ag_impl_Memory lit rfl ?_)
        | ((with_reducible (show wpList _ _ _ (Oper.mk (some 112) (Op.load _ _) _ _ _ _ :: _) _ _)); refine wpList_loadA_st (o := ⟨some 112, .load _ _, _, _, _, _⟩) rfl _ _ rfl rfl HS tk ag_impl_Memory lit rfl ?_)
        | ((with_reducible (show wpList _ _ _ (Oper.mk (some 117) (Op.load _ _) _ _ _ _ :: _) _ _)); refine wpList_loadA_st (o := ⟨some 117, .load _ _, _, _, _, _⟩) rfl _ _ rfl rfl HS tk ag_impl_RxQueue lit rfl ?_)
        | ((with_reducible (show wpList _ _ _ (Oper.mk (some 118) (Op.load _ _) _ _ _ _ :: _) _ _)); refine wpList_loadA_st (o := ⟨some 118, .load _ _, _, _, _, _⟩) rfl _ _ rfl rfl HS tk ag_impl_RxQueue lit rfl ?_)
        | ((with_reducible (show wpList _ _ _ (Oper.mk (some 122) (Op.load _ _) _ _ _ _ :: _) _ _)); refine wpList_loadA_st (o := ⟨some 122, .load _ _, _, _, _, _⟩) rfl _ _ rfl rfl HS tk ag_impl_Memory lit rfl ?_)
        | ((with_reducible (show wpList _ _ _ (Oper.mk (some 125) (Op.load _ _) _ _ _ _ :: _) _ _)); refine wpList_loadA_st (o := ⟨some 125, .load _ _, _, _, _, _⟩) rfl _ _ rfl rfl HS tk ag_impl_Memory lit rfl ?_)
        | ((with_reducible (show wpList _ _ _ (Oper.mk (some 148) (Op.load _ _) _ _ _ _ :: _) _ _)); refine wpList_loadA_st (o := ⟨some 148, .load _ _, _, _, _, _⟩) rfl _ _ rfl rfl HS tk ag_impl_Memory lit rfl ?_)
        | ((with_reducible (show wpList _ _ _ (Oper.mk (some 149) (Op.load _ _) _ _ _ _ :: _) _ _)); refine wpList_loadA_st (o := ⟨some 149, .load _ _, _, _, _, _⟩) rfl _ _ rfl rfl HS tk ag_impl_Memory lit rfl ?_)
        | ((with_reducible (show wpList _ _ _ (Oper.mk (some 153) (Op.load _ _) _ _ _ _ :: _) _ _)); refine wpList_loadA_st (o := ⟨some 153, .load _ _, _, _, _, _⟩) rfl _ _ rfl rfl HS tk ag_impl_RxQueue lit rfl ?_)
        | ((with_reducible (show wpList _ _ _ (Oper.mk (some 154) (Op.load _ _) _ _ _ _ :: _) _ _)); refine wpList_loadA_st (o := ⟨some 154, .load _ _, _, _, _, _⟩) rfl _ _ rfl rfl HS tk ag_impl_RxQueue lit rfl ?_)
        | ((with_reducible (show wpList _ _ _ (Oper.mk (some 158) (Op.load _ _) _ _ _ _ :: _) _ _)); refine wpList_loadA_st (o := ⟨some 158, .load _ _, _, _, _, _⟩) rfl _ _ rfl rfl HS tk ag_impl_Memory lit rfl ?_))
  go_ret
  exact ⟨rfl, HS.ex⟩
end Go.Proofs.YtncmlleohgeofaaGreat
end

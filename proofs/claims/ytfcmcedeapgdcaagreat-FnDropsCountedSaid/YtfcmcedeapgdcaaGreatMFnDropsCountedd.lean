/- Part 4 of what the proof of FnDropsCounted rests on: an idealised machine, contracts of functions, and the walk of the law. No condition. -/
import Derived.Test.YtfcmcedeapgdcaaGreatMFnDropsCountedc
section
namespace Go.Vc
open Go Go.RowKit
set_option linter.unusedVariables false
set_option linter.unusedSectionVars false
set_option linter.unusedSimpArgs false
set_option linter.unnecessarySimpa false
def vQ (Ψ : Value → Prop) : RdP where
  P _ u := Ψ u ∧ u.oneCell' = true
  ex h _ := h
  one h := h.2
def pinQ (v : Value) (code : List UInt8) : RdP where
  P w u := u = v ∧ Holds w code [v] ∧ u.oneCell' = true
  ex h hx := ⟨h.1, h.2.1.ex hx, h.2.2⟩
  one h := h.2.2
def cpQ (b : Nat) (v : Value) (code : List UInt8) : RdP where
  P w u := u = .pointer (some ⟨b, 0, none⟩) ∧ Holds w code [v]
  ex h hx := ⟨h.1, h.2.ex hx⟩
  one h := by obtain ⟨rfl, _⟩ := h; rfl
def oneQ : RdP where
  P _ u := u.oneCell' = true
  ex h _ := h
  one h := h
def cuOw (CT : TypeId) (b : Nat) (v : Value) (n : Nat) : OwP where
  A u := { P := fun w F => u = .pointer (some ⟨b, 0, none⟩) ∧ (curA CT b v n).P w F
           stable := fun h hs => ⟨h.1, (curA CT b v n).stable h.2 hs⟩
           lt := fun h => (curA CT b v n).lt h.2 }
  Q := oneQ
  rd := by rintro w F u ⟨rfl, _⟩; rfl
def frOw (L : List Asn) : OwP where
  A u := { P := fun w F => u = .bool true ∧ SepL w L F
           stable := fun h hs => ⟨h.1, SepL.stable h.2 hs⟩
           lt := fun h b hb => SepL.lt h.2 b hb }
  Q := oneQ
  rd := by rintro w F u ⟨rfl, _⟩; rfl
def FnOk (P : Program) (f : FuncId) : Prop := ∃ fn, P.funcs[f]? = some fn ∧ (fn.name == "runtime.NumGoroutine") = false ∧ fn.body.isNone = false
def After (w0 : World) (base : Nat) (res : AV) (Hr : Hp) (Is Js : List Asn) (e : Ending) (w' : World) : Prop :=
  ∃ u ρ, e = .returned u ∧ AR w0 (dom (shH base Hr)) ρ (shA base res) u ∧ ((shH base Hr).map (·.1)).Nodup ∧ ∃ As, F2 (BR w0 (dom (shH base Hr)) ρ) (shH base Hr) As ∧ St w0 w' (Is ++ (As ++ Js))
def ConC (P : Program) (f : FuncId) (CT : TypeId) (b : Nat) (v : Value) (code : List UInt8) (us : List Value) {α : Type} (Φ : α → Prop) (res : α → AV) (Hr : α → Hp) : Prop :=
  FnOk P f ∧ ∀ (w0 w : World) (Js : List Asn), St w0 w (curA CT b v code.length :: Js) → Holds w0 code [v] → ∀ base : Nat, Calls P f (.pointer (some ⟨b, 0, none⟩) :: us).toArray w fun e w' => ∃ x, Φ x ∧ After w0 base (res x) (Hr x) [curA CT b v code.length] Js e w'
def ConV (P : Program) (f : FuncId) (v : Value) (code : List UInt8) {α : Type} (Φ : α → Prop) (res : α → AV) (Hr : α → Hp) : Prop :=
  FnOk P f ∧ ∀ (w0 w : World) (Js : List Asn), St w0 w Js → Holds w0 code [v] → ∀ base : Nat, Calls P f [v].toArray w fun e w' => ∃ x, Φ x ∧ After w0 base (res x) (Hr x) [] Js e w'
theorem upd_new : ∀ (δ H : Hp), (∀ k b, (k, b) ∈ δ → lk H k = none) → (δ.map (·.1)).Nodup → updH H δ = H ++ δ := by
  intro δ
  induction δ with
  | nil => intro H _ _; simp [updH]
  | cons x δ ih =>
    intro H hf hn
    obtain ⟨k, b⟩ := x
    simp only [List.map_cons, List.nodup_cons] at hn
    simp only [updH]
    rw [upd1_new b (hf k b (List.mem_cons_self ..)), ih _ (fun k' b' hb' => ?_) hn.2]
    · simp
    · have h0 := hf k' b' (List.mem_cons_of_mem _ hb')
      rw [← upd1_new b (hf k b (List.mem_cons_self ..)), lk_upd1, if_neg]
      · exact h0
      · rintro rfl; exact hn.1 (List.mem_map_of_mem (f := (·.1)) hb')
theorem BR.arrs {w0 : World} {D D' : Nat → Prop} {ρ ρ' : Nat → Value} {k k' : Nat} {b : Blk} {A : Asn} (ha : arrs [(k, b)] = true) (he : ρ' k' = ρ k) (h : BR w0 D ρ (k, b) A) : BR w0 D' ρ' (k', b) A := by
  cases b with
  | arr E sz es => exact ⟨h.1, by rw [he]; exact h.2⟩
  | own X => show A = X.A (ρ' k'); rw [he]; exact h
  | row T cs => simp [Go.Vc.arrs] at ha
  | byt s => simp [Go.Vc.arrs] at ha
  | dead => simp [Go.Vc.arrs] at ha
section
variable {P : Program} {w0 w w' : World} {ρ ρ' : Nat → Value} {n : Nat} {t : Tm} {H : Hp} {a : Act}
theorem run_enter {o : Oper} {f : FuncId} {args : Array Operand} {ats : Array TypeId} (ho : o.op = .call { callee := .value (.func f), args := args, argTypes := ats }) (hf : FnOk P f) : (execOp a.eval o).run P w = .ok (.enter f (args.map a.eval)) w := by
  obtain ⟨fn, hfn, hname, hbody⟩ := hf
  have hev : a.eval (.func f) = .func (.func f) #[] #[] := rfl
  have hn' : ¬ fn.name = "runtime.NumGoroutine" := by simpa using hname
  have hb' : ¬ fn.body = none := by intro e; simp [e] at hbody
  simp [execOp, ho, resolve, hev, Deferred.ofValue, invoke, callFunc, hfn, hn', hb']
theorem Rel.vals {us : List Value} : ∀ {xs : List Operand}, Rel w0 w ρ n t H a → xs.map (evo (gt t)) = us.map (fun u => .one (.v u)) → xs.map a.eval = us := by
  induction us with
  | nil => intro xs _ h; cases xs with
    | nil => rfl
    | cons x xs => simp at h
  | cons u us ih =>
    intro xs hr h
    cases xs with
    | nil => simp at h
    | cons x xs =>
      simp only [List.map_cons, List.cons.injEq] at h ⊢
      have := hr.ev x
      rw [h.1] at this
      exact ⟨this.1, ih hr h.2⟩
theorem Rel.draw {o : Oper} {f : FuncId} {c : Operand} {xs : List Operand} {ats : Array TypeId} {CT : TypeId} {b kc d : Nat} {v : Value} {code : List UInt8} {us : List Value} {α : Type} {Φ : α → Prop} {res : α → AV} {Hr : α → Hp} {Q : Exit → Act → World → Prop} {K : Act → World → Prop}
    (hr : Rel w0 w ρ n t H a) (ho : o.op = .call { callee := .value (.func f), args := (c :: xs).toArray, argTypes := ats }) (hc : ConC P f CT b v code us Φ res Hr) (hx : evo (gt t) c = .one (.rd (cpQ b v code))) (hy : xs.map (evo (gt t)) = us.map (fun u => .one (.v u))) (hk : lk H kc = some (.own (cuOw CT b v code.length)))
    (hfr : ∀ x k b, (k, b) ∈ shH d (Hr x) → lk H k = none) (hd : ∀ d, o.dst = some d → d < n)
    (h : ∀ x ρ' a' w', Φ x → Rel w0 w' ρ' n (putT t o.dst (shA d (res x))) (updH H (shH d (Hr x))) a' → K a' w') : o.wp P a w K Q := by
  obtain ⟨Bs, b1, b2⟩ := hr.hp
  have p1 : H.Perm ((kc, .own (cuOw CT b v code.length)) :: offK kc H) := by have := upd1_perm (.own (cuOw CT b v code.length)) hr.nd hk; rwa [upd1_same hk] at this
  obtain ⟨Ds, d1, d2⟩ := F2.perm p1 b1
  cases d2 with
  | @cons _ X _ Es x1 x2 =>
    have hX : X = (cuOw CT b v code.length).A (ρ kc) := x1
    subst hX
    have s1 : St w0 w ((cuOw CT b v code.length).A (ρ kc) :: Es) := St.perm b2 d1
    obtain ⟨F, hF⟩ := s1.head
    have hρ := hF.1
    have hcur : St w0 w (curA CT b v code.length :: Es) := s1.same fun F hF => ⟨F, hF.2, fun _ h => h⟩
    have hp := hr.ev c
    rw [hx] at hp
    obtain ⟨hp, hh⟩ := hp
    have hvs := hr.vals hy
    obtain ⟨hfn, hcall⟩ := hc
    unfold Oper.wp
    rw [run_enter ho hfn, Oper.upon_enter]
    have e2 : (c :: xs).toArray.map a.eval = (.pointer (some ⟨b, 0, none⟩) :: us).toArray := by
      rw [List.map_toArray, List.map_cons, hp, hvs]
    rw [e2]
    refine (hcall w0 w Es hcur hh d).mono fun e w' hq => ?_
    obtain ⟨x, hΦ, u, ρ', rfl, g1, g2, As, g3, g4⟩ := hq
    have hback : St w0 w' ((cuOw CT b v code.length).A (ρ kc) :: (As ++ Es)) := g4.same fun F hF => ⟨F, ⟨hρ, hF⟩, fun _ h => h⟩
    let ρ2 : Nat → Value := fun k => if k ∈ (shH d (Hr x)).map (·.1) then ρ' k else ρ k
    have e := upd_new (shH d (Hr x)) H (hfr x) g2
    have hnot : ∀ k, dom H k → k ∉ (shH d (Hr x)).map (·.1) := fun k hk hm => by
      obtain ⟨⟨k', b⟩, hb, rfl⟩ := List.mem_map.1 hm
      exact lk_nd (hfr x _ _ hb) hk
    have hD1 : ∀ k, dom H k → dom (updH H (shH d (Hr x))) k ∧ ρ2 k = ρ k := fun k hk => ⟨by rw [dom_mem, e, List.map_append]; exact List.mem_append_left _ (dom_mem.1 hk), if_neg (hnot k hk)⟩
    have hD2 : ∀ k, dom (shH d (Hr x)) k → dom (updH H (shH d (Hr x))) k ∧ ρ2 k = ρ' k := fun k hk => ⟨by rw [dom_mem, e, List.map_append]; exact List.mem_append_right _ (dom_mem.1 hk), if_pos (dom_mem.1 hk)⟩
    have c1 : F2 (BR w0 (dom (updH H (shH d (Hr x)))) ρ2) ((kc, .own (cuOw CT b v code.length)) :: offK kc H) ((cuOw CT b v code.length).A (ρ kc) :: Es) :=
      (F2.cons (show BR w0 (dom H) ρ (kc, .own (cuOw CT b v code.length)) _ from rfl) x2).mono fun y _ hy r => BR.ext hD1 (dom_mem.2 (by
        have := p1.symm.subset hy
        exact List.mem_map_of_mem (f := fun z : Nat × Blk => z.1) this)) r
    obtain ⟨Cs, c2, c3⟩ := F2.perm p1.symm c1
    have a2 : F2 (BR w0 (dom (updH H (shH d (Hr x)))) ρ2) (shH d (Hr x)) As := g3.mono fun y _ hy r => BR.ext hD2 (dom_mem.2 (List.mem_map_of_mem (f := fun z : Nat × Blk => z.1) hy)) r
    have hR : Rel w0 w' ρ2 n t (updH H (shH d (Hr x))) a := by
      refine ⟨hr.sz, hr.df, fun k => (hr.tm k).ext hD1, ⟨Cs ++ As, ?_, ?_⟩, ?_⟩
      · have a3 := F2.app c3 a2
        rw [e] at a3 ⊢
        exact a3
      · refine St.perm hback ?_
        exact (List.Perm.cons _ (List.perm_append_comm (l₁ := As) (l₂ := Es))).trans (c2.append_right As)
      · rw [e, List.map_append, List.nodup_append]
        exact ⟨hr.nd, g2, fun a ha b hb e => hnot a (dom_mem.2 ha) (e ▸ hb)⟩
    exact h x ρ2 _ w' hΦ (hR.put (g1.ext hD2) hd)
end
def SV (P : Program) (n : Nat) (ops : List Oper) (K : Tm → Hp → Prop) (os : List Oper) (t : Tm) (H : Hp) : Prop :=
  ∀ (w0 w : World) (ρ : Nat → Value) (a : Act) (Q : Exit → Act → World → Prop), Rel w0 w ρ n t H a → (∀ a w ρ t' H', Rel w0 w ρ n t' H' a → K t' H' → Q .normal a w) → wpList P ops.toArray Q os a w
section
variable {P : Program} [TyEnv P] {n : Nat} {ops os : List Oper} {K : Tm → Hp → Prop} {t t' : Tm} {H H' : Hp} {fp : List Fp} {o : Oper}
theorem vc_sv {K : Post} {id : Nat} {l : List Oper} (h : SV P n l (K .normal) l t H) : VC P n (.region id l.toArray false) K t H := fun w0 w ρ a hr =>
  wp_region_lit (h w0 w ρ a _ hr fun a w ρ t' H' h1 h2 => ⟨ρ, t', H', h1, h2⟩)
theorem sv_good {v : AV} {δ rs : Hp} (hd : ∀ d, o.dst = some d → d < n) (hg : o.guard = none) (hs : Good P o (gt t) H v δ rs) (h : SV P n ops K os (putT t o.dst v) (updH H δ)) : SV P n ops K (o :: os) t H := fun w0 w ρ a Q hr hQ => by
  simp only [wpList]
  have hw : Region.wanted o (yielded ops.toArray a.tmps) = true := by unfold Region.wanted; rw [hg]
  rw [if_pos hw]
  exact .inl (Oper.wp_mono (fun a' w' ⟨ρ', h'⟩ => h w0 w' ρ' a' Q h' hQ) (hs.1 w0 w ρ n _ _ a Q hr (fun k hk => rfl) hs.2.1 hs.2.2 hd))
theorem svo {v : AV} {δ rs : Hp} {k1 k2 : List Nat} (h : SV P n ops K os t' H') (hd : dstB o.dst n = true := by rfl) (hg : o.guard = none := by rfl) (hs : vstep P o (gt t) H (EqK v δ rs) := by repeat (first | exact eqK_i | refine onO_i rfl ?_ | refine onO2_i rfl ?_ | refine onO3_i rfl ?_ | refine need_i side ?_ | refine ldxm_i side ?_ | refine ldxb_i side ?_)) (ht : stF o.dst v δ rs t H = some (t', H', k1, k2) := by rfl) : SV P n ops K (o :: os) t H := by
  obtain ⟨e1, e2, _⟩ := stF_some ht
  exact sv_good (dstB_ok hd) hg (good_v hs) (by rw [e1, e2]; exact h)
theorem sve {f : FuncId} {c : Operand} {xs : List Operand} {ats : Array TypeId} {CT : TypeId} {b d : Nat} {v : Value} {code : List UInt8} {us : List Value} {α : Type} {Φ : α → Prop} {res : α → AV} {Hr : α → Hp} {tF : α → Tm} {HF : α → Hp} {k1 k2 : α → List Nat} (hc : ConC P f CT b v code us Φ res Hr) (h : ∀ x, Φ x → SV P n ops K os (tF x) (HF x)) (kc : Nat) (hd : dstB o.dst n = true := by rfl) (hg : o.guard = none := by rfl) (ho : o.op = .call { callee := .value (.func f), args := (c :: xs).toArray, argTypes := ats } := by rfl) (hx : evo (gt t) c = .one (.rd (cpQ b v code)) := by rfl) (hy : xs.map (evo (gt t)) = us.map (fun u => .one (.v u)) := by rfl) (hk : lk H kc = some (.own (cuOw CT b v code.length)) := by rfl) (hdd : o.dst = some d := by rfl)
    (hfr : ∀ x, (shH (8 * d) (Hr x)).all (fun p => (lk H p.1).isNone) = true := by intro x; rfl) (ht : ∀ x, stF o.dst (shA (8 * d) (res x)) (shH (8 * d) (Hr x)) [] t H = some (tF x, HF x, k1 x, k2 x) := by intro x; rfl) : SV P n ops K (o :: os) t H := fun w0 w ρ a Q hr hQ => by
  simp only [wpList]
  have hw : Region.wanted o (yielded ops.toArray a.tmps) = true := by unfold Region.wanted; rw [hg]
  rw [if_pos hw]
  refine .inl (hr.draw (d := 8 * d) ho hc hx hy hk (fun x k bb hb => ?_) (dstB_ok hd) fun x ρ' a' w' hΦ h' => ?_)
  · have := List.all_eq_true.1 (hfr x) _ hb
    simpa using this
  · obtain ⟨e1, e2, _⟩ := stF_some (ht x)
    rw [e1, e2] at h'
    exact h x hΦ w0 w' ρ' a' Q h' hQ
theorem svv {f : FuncId} {c : Operand} {ats : Array TypeId} {d : Nat} {v : Value} {code : List UInt8} {α : Type} {Φ : α → Prop} {res : α → AV} {Hr : α → Hp} {tF : α → Tm} {HF : α → Hp} {k1 k2 : α → List Nat} (hc : ConV P f v code Φ res Hr) (h : ∀ x, Φ x → SV P n ops K os (tF x) (HF x)) (hd : dstB o.dst n = true := by rfl) (hg : o.guard = none := by rfl) (ho : o.op = .call { callee := .value (.func f), args := #[c], argTypes := ats } := by rfl) (hx : evo (gt t) c = .one (.rd (pinQ v code)) := by rfl) (hdd : o.dst = some d := by rfl)
    (hfr : ∀ x, (shH (8 * d) (Hr x)).all (fun p => (lk H p.1).isNone) = true := by intro x; rfl) (ht : ∀ x, stF o.dst (shA (8 * d) (res x)) (shH (8 * d) (Hr x)) [] t H = some (tF x, HF x, k1 x, k2 x) := by intro x; rfl) : SV P n ops K (o :: os) t H := fun w0 w ρ a Q hr hQ => by
  simp only [wpList]
  have hw : Region.wanted o (yielded ops.toArray a.tmps) = true := by unfold Region.wanted; rw [hg]
  rw [if_pos hw]
  left
  obtain ⟨Bs, b1, b2⟩ := hr.hp
  have hp := hr.ev c
  rw [hx] at hp
  obtain ⟨hp, hh, _⟩ := hp
  obtain ⟨hfn, hcall⟩ := hc
  unfold Oper.wp
  rw [run_enter ho hfn, Oper.upon_enter]
  have e2 : #[c].map a.eval = [v].toArray := by simp [hp]
  rw [e2]
  refine (hcall w0 w Bs b2 hh (8 * d)).mono fun e w' hq => ?_
  obtain ⟨x, hΦ, u, ρ', rfl, g1, g2, As, g3, g4⟩ := hq
  have hf : ∀ k b, (k, b) ∈ shH (8 * d) (Hr x) → lk H k = none := fun k bb hb => by
    have := List.all_eq_true.1 (hfr x) _ hb
    simpa using this
  let ρ2 : Nat → Value := fun k => if k ∈ (shH (8 * d) (Hr x)).map (·.1) then ρ' k else ρ k
  have e := upd_new (shH (8 * d) (Hr x)) H hf g2
  have hnot : ∀ k, dom H k → k ∉ (shH (8 * d) (Hr x)).map (·.1) := fun k hk hm => by
    obtain ⟨⟨k', b⟩, hb, rfl⟩ := List.mem_map.1 hm
    exact lk_nd (hf _ _ hb) hk
  have hD1 : ∀ k, dom H k → dom (updH H (shH (8 * d) (Hr x))) k ∧ ρ2 k = ρ k := fun k hk => ⟨by rw [dom_mem, e, List.map_append]; exact List.mem_append_left _ (dom_mem.1 hk), if_neg (hnot k hk)⟩
  have hD2 : ∀ k, dom (shH (8 * d) (Hr x)) k → dom (updH H (shH (8 * d) (Hr x))) k ∧ ρ2 k = ρ' k := fun k hk => ⟨by rw [dom_mem, e, List.map_append]; exact List.mem_append_right _ (dom_mem.1 hk), if_pos (dom_mem.1 hk)⟩
  have hR : Rel w0 w' ρ2 n t (updH H (shH (8 * d) (Hr x))) a := by
    refine ⟨hr.sz, hr.df, fun k => (hr.tm k).ext hD1, ⟨Bs ++ As, ?_, ?_⟩, ?_⟩
    · have a1 : F2 (BR w0 (dom (updH H (shH (8 * d) (Hr x)))) ρ2) H Bs := b1.mono fun y _ hy r => BR.ext hD1 (dom_mem.2 (List.mem_map_of_mem (f := fun z : Nat × Blk => z.1) hy)) r
      have a2 : F2 (BR w0 (dom (updH H (shH (8 * d) (Hr x)))) ρ2) (shH (8 * d) (Hr x)) As := g3.mono fun y _ hy r => BR.ext hD2 (dom_mem.2 (List.mem_map_of_mem (f := fun z : Nat × Blk => z.1) hy)) r
      have a3 := F2.app a1 a2
      rw [e] at a3 ⊢
      exact a3
    · exact St.perm g4 (List.perm_append_comm (l₁ := As) (l₂ := Bs))
    · rw [e, List.map_append, List.nodup_append]
      exact ⟨hr.nd, g2, fun a ha b hb e => hnot a (dom_mem.2 ha) (e ▸ hb)⟩
  have h' := hR.put (d := o.dst) (g1.ext hD2) (dstB_ok hd)
  obtain ⟨e3, e4, _⟩ := stF_some (ht x)
  rw [e3, e4] at h'
  exact h x hΦ w0 w' ρ2 _ Q h' hQ
end
def cleanR : PV → Bool
  | .rp .. | .ptr .. | .hv .. | .hc .. => false
  | _ => true
def cleanR1 : AV → Bool
  | .one p => cleanR p
  | .agg ps => ps.all cleanR
  | .tup _ => false
  | .junk => true
def cleanRA : AV → Bool
  | .tup vs => vs.all cleanR1
  | x => cleanR1 x
section
variable {w0 : World} {ρ : Nat → Value}
theorem shR_ok {b : Nat} {Hr : Hp} {p : PV} {u : Value} (h : R w0 (dom Hr) ρ p u) (hc : cleanR p = true) : R w0 (dom (shH b Hr)) (fun k => ρ (k - b)) (shP b p) u := by
  cases p <;> first | exact h | (simp [cleanR] at hc; done) | skip
  rename_i k
  obtain ⟨h1, h2, h3⟩ := h
  refine ⟨?_, by simp only [Nat.add_sub_cancel_left]; exact h2, h3⟩
  rw [dom_mem] at h1 ⊢
  obtain ⟨x, hx, rfl⟩ := List.mem_map.1 h1
  unfold shH
  rw [List.map_map]
  exact List.mem_map.2 ⟨x, hx, rfl⟩
theorem shRL_ok {b : Nat} {Hr : Hp} : ∀ {ps : List PV} {us : List Value}, F2 (R w0 (dom Hr) ρ) ps us → ps.all cleanR = true → F2 (R w0 (dom (shH b Hr)) (fun k => ρ (k - b))) (ps.map (shP b)) us
  | [], _, .nil, _ => .nil
  | p :: ps, _, .cons h hr, hc => by
    simp only [List.all_cons, Bool.and_eq_true] at hc
    exact .cons (shR_ok h hc.1) (shRL_ok hr hc.2)
theorem shR1_ok {b : Nat} {Hr : Hp} {p : AV} {u : Value} (h : AR1 w0 (dom Hr) ρ p u) (hc : cleanR1 p = true) : AR1 w0 (dom (shH b Hr)) (fun k => ρ (k - b)) (shA1 b p) u := by
  cases p with
  | one p => exact shR_ok h hc
  | agg ps => obtain ⟨us, h1, h2⟩ := h; exact ⟨us, h1, shRL_ok h2 hc⟩
  | tup vs => exact h.elim
  | junk => trivial
theorem shRA_ok {b : Nat} {Hr : Hp} {p : AV} {u : Value} (h : AR w0 (dom Hr) ρ p u) (hc : cleanRA p = true) : AR w0 (dom (shH b Hr)) (fun k => ρ (k - b)) (shA b p) u := by
  cases p with
  | tup vs =>
    obtain ⟨us, h1, h2⟩ := h
    refine ⟨us, h1, ?_⟩
    replace hc : vs.all cleanR1 = true := hc
    clear h1
    induction h2 with
    | nil => exact .nil
    | cons h k ih =>
      simp only [List.all_cons, Bool.and_eq_true] at hc
      exact .cons (shR1_ok h hc.1) (ih hc.2)
  | one p => exact AR.of1 (p := .one (shP b p)) (shR1_ok (p := .one p) h hc)
  | agg p => exact AR.of1 (p := .agg (p.map (shP b))) (shR1_ok (p := .agg p) h hc)
  | junk => trivial
theorem brR_sh {D : Nat → Prop} {b : Nat} {Hr : Hp} : ∀ {G : Hp} {As : List Asn}, F2 (BR w0 D ρ) G As → arrs G = true → F2 (BR w0 (dom (shH b Hr)) (fun k => ρ (k - b))) (shH b G) As
  | [], _, .nil, _ => .nil
  | (k, x) :: G, _, .cons h hr, hc => by
    have h1 : arrs [(k, x)] = true := by
      simp only [arrs, List.all_cons, Bool.and_eq_true] at hc ⊢
      exact ⟨hc.1, rfl⟩
    have h2 : arrs G = true := by
      simp only [arrs, List.all_cons, Bool.and_eq_true] at hc ⊢
      exact hc.2
    exact .cons (BR.arrs (k := k) (k' := b + k) h1 (by simp) h) (brR_sh hr h2)
end
def FinG (P : Program) [TyEnv P] (rs : List ResultVar) (G : Hp) {α : Type} (Φ : α → Prop) (res : α → AV) (Hr : α → Hp) : Post := fun e t H =>
  (e = .normal ∨ e = .ret) ∧ ∃ vs, resL P t H rs = some vs ∧ vs.all untup = true ∧ ∃ x, Φ x ∧ cleanRA (res x) = true ∧ arrs (Hr x) = true ∧ ∃ r : Ren, AW r (Hr x) (res x) (resV vs) ∧ HW r (G ++ Hr x) H (G ++ Hr x) ∧ ((keys (G ++ Hr x)).filterMap (rk r)).Nodup ∧ (keys (G ++ Hr x)).Nodup
theorem fin_g {P : Program} [TyEnv P] {rs : List ResultVar} {G : Hp} {α : Type} {Φ : α → Prop} {res : α → AV} {Hr : α → Hp} {e : Exit} {t : Tm} {H : Hp} {vs : List AV} (x : α) (hΦ : Φ x) (r : Ren) (hv : resL P t H rs = some vs) (h3 : AW r (Hr x) (res x) (resV vs)) (h4 : HW r (G ++ Hr x) H (G ++ Hr x)) (he : e = .normal ∨ e = .ret := by first | exact .inr rfl | exact .inl rfl) (hu : vs.all untup = true := by rfl) (hc : cleanRA (res x) = true := by rfl) (ha : arrs (Hr x) = true := by rfl) (hn : renB r (G ++ Hr x) = true := by rfl) : FinG P rs G Φ res Hr e t H :=
  ⟨he, vs, hv, hu, x, hΦ, hc, ha, r, h3, h4, (renB_ok hn).2, (renB_ok hn).1⟩
section
variable {P : Program} [TyEnv P] {f : FuncId} {fn : Func} {c : Code} {n : Nat} {rs : List ResultVar} {α : Type} {Φ : α → Prop} {res : α → AV} {Hr : α → Hp} {v : Value} {code : List UInt8}
theorem fin_after {w0 w : World} {a : Act} {G : Hp} {Is Js : List Asn} {base : Nat} {fn : Func} (hrs : fn.results = rs.toArray) {e : Exit} (hq : CQ w0 n (FinG P rs G Φ res Hr) e a w) (hG : ∀ ρ As, F2 (BR w0 (fun _ => True) ρ) G As → ∀ Zs, St w0 w (As ++ Zs) → St w0 w (Is ++ (Zs ++ Js)))
    (hGa : arrs G = true) : a.defers = [] ∧ (e = .normal ∨ e = .ret) ∧ ∃ us : List Value, RVs P w a.tmps rs us ∧ ∃ x, Φ x ∧ After w0 base (res x) (Hr x) Is Js (.returned (if h : us.toArray.size = 1 then us.toArray[0] else .tuple us.toArray)) w := by
  obtain ⟨ρ, t, H, hr, he, vs, h1, h2, x, hΦ, hcl, har, r, h3, h4, h5, h6⟩ := hq
  obtain ⟨us, g1, g2⟩ := resL_ok hr h1 h2
  have hrr := Rel.ren hr (t' := []) r trivial h4 h5 h6
  have hval : AR w0 (dom (Hr x)) (mapr r ρ) (res x) (if h : us.toArray.size = 1 then us.toArray[0] else .tuple us.toArray) := by
    refine AW.ok (q := resV vs) h3 (D := dom H) ?_
    cases g1 with
    | nil => exact ⟨[], rfl, .nil⟩
    | cons a b =>
      cases b with
      | nil => exact AR.of1 a
      | cons c d =>
        rw [dif_neg (by simp)]
        exact ⟨_, rfl, .cons a (.cons c d)⟩
  obtain ⟨As, k1, k2⟩ := hrr.hp
  -- the parts of G, and those of the results
  have hsplit : ∀ (G : Hp) {As : List Asn}, F2 (BR w0 (dom (G ++ Hr x)) (mapr r ρ)) (G ++ Hr x) As → True := fun _ _ _ => trivial
  have sp : ∀ (L M : Hp) {D : Nat → Prop} {As : List Asn}, F2 (BR w0 D (mapr r ρ)) (L ++ M) As → ∃ A1 A2, As = A1 ++ A2 ∧ F2 (BR w0 D (mapr r ρ)) L A1 ∧ F2 (BR w0 D (mapr r ρ)) M A2 := by
    intro L
    induction L with
    | nil => intro M D As h; exact ⟨[], As, rfl, .nil, h⟩
    | cons y L ih =>
      intro M D As h
      cases h with
      | cons h k =>
        obtain ⟨A1, A2, rfl, q1, q2⟩ := ih M k
        exact ⟨_ :: A1, A2, rfl, .cons h q1, q2⟩
  obtain ⟨A1, A2, rfl, q1, q2⟩ := sp G (Hr x) k1
  have q1' : F2 (BR w0 (fun _ => True) (mapr r ρ)) G A1 := by
    refine q1.mono fun y A hy h => ?_
    obtain ⟨k, bb⟩ := y
    exact BR.arrs (by
      have := List.all_eq_true.1 hGa _ hy
      simp only [arrs, List.all_cons, List.all_nil, Bool.and_true]
      exact this) rfl h
  have hst := hG _ _ q1' A2 k2
  have hn9 : (((shH base (Hr x))).map (·.1)).Nodup := by
    refine nd_sh ?_
    have h6' : (keys G ++ keys (Hr x)).Nodup := by simpa only [keys, List.map_append] using h6
    exact (List.nodup_append.1 h6').2.1
  exact ⟨hr.df, he, us, g2, x, hΦ, _, fun k => mapr r ρ (k - base), rfl, shRA_ok hval hcl, hn9, A2, brR_sh q2 har, hst⟩
theorem conv_i (hf : P.funcs[f]? = some fn) (hn : fn.ntmps = n) (h : ∀ L : List Asn, VC P n c (FinG P rs [(1000003, .own (frOw L))] Φ res Hr) [(0, .one (.rd (pinQ v code)))] [(1000003, .own (frOw L))]) (hv : v.oneCell' = true) (hb : fn.body = some c := by rfl) (hnm : (fn.name == "runtime.NumGoroutine") = false := by kernel_rfl) (hrs : fn.results = rs.toArray := by rfl) (hargs : Nat.ble 1 n = true := by rfl) : ConV P f v code Φ res Hr := by
  refine ⟨⟨fn, hf, hnm, by rw [hb]; rfl⟩, fun w0 w Js hs hh base => ?_⟩
  refine calls_of_wp hf hb ?_
  rw [hn]
  have hn1 := Nat.le_of_ble_eq_true hargs
  have hrel : Rel w0 w (fun _ => .bool true) n [(0, .one (.rd (pinQ v code)))] [(1000003, .own (frOw Js))] { tmps := [v].toArray ++ Array.replicate (n - [v].toArray.size) undef, defers := [] } := by
    refine ⟨by simp; omega, rfl, fun k => ?_, ⟨[(frOw Js).A (.bool true)], .cons rfl .nil, ?_⟩, by simp⟩
    · simp only [gt]
      split
      · rename_i e; subst e
        have e0 : ([v].toArray ++ Array.replicate (n - [v].toArray.size) undef).getD 0 undef = v := by
          rw [Array.getD_eq_getD_getElem?, Array.getElem?_append_left (by simp)]; simp
        simp only [e0]
        exact ⟨rfl, hh, hv⟩
      · trivial
    · exact (St.joinL (L := Js) (Js := []) (by simpa using hs)).same fun F hF => ⟨F, ⟨rfl, hF⟩, fun _ h => h⟩
  refine Code.wp_mono (fun e a w' hq => ?_) (h Js w0 w _ _ hrel)
  obtain ⟨hdf, he, us, g2, x, hΦ, hA⟩ := fin_after (Is := []) (Js := Js) (base := base) hrs hq (fun ρ As hF Zs hst => by
    cases hF with
    | cons q1 q2 =>
      cases q2
      have q1' : _ = (frOw Js).A (ρ 1000003) := q1
      subst q1'
      have h2 : St w0 w' (joinA Js :: Zs) := hst.same fun F hF => ⟨F, hF.2, fun _ h => h⟩
      exact St.perm h2.unjoin List.perm_append_comm) rfl
  have hrun := g2.run hrs
  rcases he with rfl | rfl
  · exact ⟨hdf, _, hrun, x, hΦ, hA⟩
  · exact ⟨hdf, _, hrun, x, hΦ, hA⟩
theorem conc_i {CT : TypeId} {b : Nat} {us : List Value} (hf : P.funcs[f]? = some fn) (hn : fn.ntmps = n) (h : ∀ L : List Asn, VC P n c (FinG P rs [(1000001, .own (cuOw CT b v code.length)), (1000003, .own (frOw L))] Φ res Hr) ((0, .one (.rd (cpQ b v code))) :: argT 1 (us.map fun u => .one (.v u))) [(1000001, .own (cuOw CT b v code.length)), (1000003, .own (frOw L))]) (hone : us.all (·.oneCell') = true := by rfl) (hb : fn.body = some c := by rfl) (hnm : (fn.name == "runtime.NumGoroutine") = false := by kernel_rfl) (hrs : fn.results = rs.toArray := by rfl) (hargs : Nat.ble (us.length + 1) n = true := by rfl) : ConC P f CT b v code us Φ res Hr := by
  refine ⟨⟨fn, hf, hnm, by rw [hb]; rfl⟩, fun w0 w Js hs hh base => ?_⟩
  refine calls_of_wp hf hb ?_
  rw [hn]
  have hn1 := Nat.le_of_ble_eq_true hargs
  have hrel : Rel w0 w (fun k => if k = 1000003 then .bool true else .pointer (some ⟨b, 0, none⟩)) n ((0, .one (.rd (cpQ b v code))) :: argT 1 (us.map fun u => .one (.v u))) [(1000001, .own (cuOw CT b v code.length)), (1000003, .own (frOw Js))] { tmps := (.pointer (some ⟨b, 0, none⟩) :: us).toArray ++ Array.replicate (n - (Value.pointer (some ⟨b, 0, none⟩) :: us).toArray.size) undef, defers := [] } := by
    refine ⟨by simp; omega, rfl, fun k => ?_, ⟨[(cuOw CT b v code.length).A (.pointer (some ⟨b, 0, none⟩)), (frOw Js).A (.bool true)], .cons (by show _ = (cuOw CT b v code.length).A (if 1000001 = 1000003 then _ else _); rw [if_neg (by decide)]) (.cons (by show _ = (frOw Js).A (if 1000003 = 1000003 then _ else _); rw [if_pos rfl]) .nil), ?_⟩, by simp⟩
    · simp only [gt]
      split
      · rename_i e; subst e
        have e0 : ((.pointer (some ⟨b, 0, none⟩) :: us).toArray ++ Array.replicate (n - (Value.pointer (some ⟨b, 0, none⟩) :: us).toArray.size) undef).getD 0 undef = .pointer (some ⟨b, 0, none⟩) := by
          rw [Array.getD_eq_getD_getElem?, Array.getElem?_append_left (by simp)]; simp
        simp only [e0]
        exact ⟨rfl, hh⟩
      · rename_i e
        rw [gt_argT]
        split
        · rename_i h1
          cases hk : (us.map fun u => AV.one (.v u))[k - 1]? with
          | none => trivial
          | some y =>
            rw [List.getElem?_map] at hk
            obtain ⟨u, hu, rfl⟩ := Option.map_eq_some_iff.1 hk
            have hkl := (List.getElem?_eq_some_iff.1 hu).1
            have : ((.pointer (some ⟨b, 0, none⟩) :: us).toArray ++ Array.replicate (n - (Value.pointer (some ⟨b, 0, none⟩) :: us).toArray.size) undef).getD k undef = u := by
              obtain ⟨m, rfl⟩ : ∃ m, k = m + 1 := ⟨k - 1, by omega⟩
              simp only [Nat.add_sub_cancel] at hu hkl
              rw [Array.getD_eq_getD_getElem?, Array.getElem?_append_left (by simp; omega)]
              simp [hu]
            simp only [this, Option.getD_some]
            exact ⟨rfl, List.all_eq_true.1 hone u (List.mem_of_getElem? hu)⟩
        · trivial
    · have h1 : St w0 w ((cuOw CT b v code.length).A (.pointer (some ⟨b, 0, none⟩)) :: Js) := hs.same fun F hF => ⟨F, ⟨rfl, hF⟩, fun _ h => h⟩
      have h2 : St w0 w (Js ++ [(cuOw CT b v code.length).A (.pointer (some ⟨b, 0, none⟩))]) := St.perm h1 (List.perm_append_singleton _ _).symm
      have h3 : St w0 w ((frOw Js).A (.bool true) :: [(cuOw CT b v code.length).A (.pointer (some ⟨b, 0, none⟩))]) := (St.joinL (L := Js) h2).same fun F hF => ⟨F, ⟨rfl, hF⟩, fun _ h => h⟩
      exact St.perm h3 (.swap ..)
  refine Code.wp_mono (fun e a w' hq => ?_) (h Js w0 w _ _ hrel)
  obtain ⟨hdf, he, us', g2, x, hΦ, hA⟩ := fin_after (Is := [curA CT b v code.length]) (Js := Js) (base := base) hrs hq (fun ρ As hF Zs hst => by
    cases hF with
    | cons q1 q2 =>
      cases q2 with
      | cons q2 q3 =>
        cases q3
        have q1' : _ = (cuOw CT b v code.length).A (ρ 1000001) := q1
        have q2' : _ = (frOw Js).A (ρ 1000003) := q2
        subst q1' q2'
        have h2 : St w0 w' (curA CT b v code.length :: ((frOw Js).A (ρ 1000003) :: Zs)) := hst.same fun F hF => ⟨F, hF.2, fun _ h => h⟩
        have h3 : St w0 w' (joinA Js :: (curA CT b v code.length :: Zs)) := (St.perm h2 (.swap ..)).same fun F hF => ⟨F, hF.2, fun _ h => h⟩
        refine St.perm h3.unjoin ?_
        exact (List.perm_middle (l₁ := Js)).trans (List.Perm.cons _ List.perm_append_comm)) rfl
  have hrun := g2.run hrs
  rcases he with rfl | rfl
  · exact ⟨hdf, _, hrun, x, hΦ, hA⟩
  · exact ⟨hdf, _, hrun, x, hΦ, hA⟩
end
end Go.Vc
end
section
namespace Go.Vc
open Go Go.RowKit
set_option linter.unusedVariables false
set_option linter.unusedSectionVars false
set_option linter.unusedSimpArgs false
set_option linter.unnecessarySimpa false
section
variable {P : Program} [TyEnv P] {n : Nat} {ops os : List Oper} {K : Tm → Hp → Prop} {t t' : Tm} {H H' : Hp} {o : Oper} {v : AV} {δ rs : Hp} {k1 k2 : List Nat}
theorem svnil (h : K t H) : SV P n ops K [] t H := fun w0 w ρ a Q hr hQ => hQ a w ρ t H hr h
theorem sv_on {g : Nat} {want : Bool} (hd : dstB o.dst n = true) (hg : o.guard = some (g, want)) (hw : gBF ops (gt t) want g = some true) (hs : Good P o (gt t) H v δ rs) (ht : stF o.dst v δ rs t H = some (t', H', k1, k2)) (h : SV P n ops K os t' H') : SV P n ops K (o :: os) t H := fun w0 w ρ a Q hr hQ => by
  obtain ⟨e1, e2, _⟩ := stF_some ht
  have hok : gOk ops (gt t) o true := by
    unfold gOk
    rw [hg]
    unfold gBF at hw
    split at hw
    · rename_i c hc
      simp only [Option.some.injEq, beq_iff_eq] at hw
      subst hw
      exact ⟨_, hc, by simp⟩
    · cases hw
    · cases hw
  simp only [wpList]
  rw [gOk_w hr hok, if_pos rfl]
  exact .inl (Oper.wp_mono (fun a' w' ⟨ρ', h'⟩ => by rw [e1, e2] at h'; exact h w0 w' ρ' a' Q h' hQ) (hs.1 w0 w ρ n _ _ a Q hr (fun k hk => rfl) hs.2.1 hs.2.2 (dstB_ok hd)))
theorem svon {g : Nat} {want : Bool} (h : SV P n ops K os t' H') (hd : dstB o.dst n = true := by rfl) (hg : o.guard = some (g, want) := by rfl) (hw : gBF ops (gt t) want g = some true := by rfl) (hs : vstep P o (gt t) H (EqK v δ rs) := by repeat (first | exact eqK_i | refine onO_i rfl ?_ | refine onO2_i rfl ?_ | refine onO3_i rfl ?_ | refine need_i side ?_ | refine ldxm_i side ?_ | refine ldxb_i side ?_)) (ht : stF o.dst v δ rs t H = some (t', H', k1, k2) := by rfl) : SV P n ops K (o :: os) t H := sv_on hd hg hw (good_v hs) ht h
theorem svof {g : Nat} {want : Bool} (h : SV P n ops K os t' H) (hd : dstB o.dst n = true := by rfl) (hg : o.guard = some (g, want) := by rfl) (hw : gBF ops (gt t) want g = some false := by rfl) (ht : putF o.dst (.tup []) t = some t' := by rfl) : SV P n ops K (o :: os) t H := fun w0 w ρ a Q hr hQ => by
  have hok : gOk ops (gt t) o false := by
    unfold gOk
    rw [hg]
    unfold gBF at hw
    split at hw
    · rename_i c hc
      simp only [Option.some.injEq] at hw
      refine ⟨_, hc, ?_⟩
      cases c <;> cases want <;> simp_all
    · rename_i hc
      exact ⟨_, hc, by simp⟩
    · cases hw
  simp only [wpList]
  rw [gOk_w hr hok, if_neg (by simp)]
  have := hr.put (v := .tup []) (u := undef) ⟨[], rfl, .nil⟩ (dstB_ok hd)
  rw [putF_some ht] at this
  exact h w0 w ρ _ Q this hQ
theorem svwr {d : Nat} {x : Int} (h : SV P n ops K os ((d, .one (.v (.int .i64 x))) :: t) H) (hw : -9223372036854775808 ≤ x ∧ x ≤ 9223372036854775807 := by omega) : SV P n ops K os ((d, .one (.v (.int .i64 (wr x)))) :: t) H := by
  have : wr x = x := IntWalk.i64_in x hw
  rw [this]; exact h
theorem svsp {d : Nat} {c : Bool} {p q : Prop} (h1 : p → SV P n ops K os ((d, .one (.v (.bool true))) :: t) H) (h2 : q → SV P n ops K os ((d, .one (.v (.bool false))) :: t) H) (hp : (c = true) = p := by (conv => lhs; try simp only [decide_eq_true_eq, decide_eq_false_iff_not, Bool.not_eq_true', Bool.not_eq_false', beq_iff_eq, Int.toNat_natCast, Int.ofNat_lt, ge_iff_le, gt_iff_lt, Int.not_le, Int.not_lt])) (hq : (c = false) = q := by (conv => lhs; try simp only [decide_eq_true_eq, decide_eq_false_iff_not, Bool.not_eq_true', Bool.not_eq_false', beq_iff_eq, Int.toNat_natCast, Int.ofNat_lt, ge_iff_le, gt_iff_lt, Int.not_le, Int.not_lt])) : SV P n ops K os ((d, .one (.v (.bool c))) :: t) H := by
  subst hp hq
  cases c
  · exact h2 rfl
  · exact h1 rfl
theorem sven {f : FuncId} {c : Operand} {xs : List Operand} {ats : Array TypeId} {CT : TypeId} {b g d : Nat} {want : Bool} {v : Value} {code : List UInt8} {us : List Value} {α : Type} {Φ : α → Prop} {res : α → AV} {Hr : α → Hp} {tF : α → Tm} {HF : α → Hp} {k1 k2 : α → List Nat} (hc : ConC P f CT b v code us Φ res Hr) (h : ∀ x, Φ x → SV P n ops K os (tF x) (HF x)) (kc : Nat) (hd : dstB o.dst n = true := by rfl) (hg : o.guard = some (g, want) := by rfl) (hw : gBF ops (gt t) want g = some true := by rfl) (ho : o.op = .call { callee := .value (.func f), args := (c :: xs).toArray, argTypes := ats } := by rfl) (hx : evo (gt t) c = .one (.rd (cpQ b v code)) := by rfl) (hy : xs.map (evo (gt t)) = us.map (fun u => .one (.v u)) := by rfl) (hk : lk H kc = some (.own (cuOw CT b v code.length)) := by rfl) (hdd : o.dst = some d := by rfl)
    (hfr : ∀ x, (shH (8 * d) (Hr x)).all (fun p => (lk H p.1).isNone) = true := by intro x; rfl) (ht : ∀ x, stF o.dst (shA (8 * d) (res x)) (shH (8 * d) (Hr x)) [] t H = some (tF x, HF x, k1 x, k2 x) := by intro x; rfl) : SV P n ops K (o :: os) t H := fun w0 w ρ a Q hr hQ => by
  have hok : gOk ops (gt t) o true := by
    unfold gOk
    rw [hg]
    unfold gBF at hw
    split at hw
    · rename_i c hc
      simp only [Option.some.injEq, beq_iff_eq] at hw
      subst hw
      exact ⟨_, hc, by simp⟩
    · cases hw
    · cases hw
  simp only [wpList]
  rw [gOk_w hr hok, if_pos rfl]
  refine .inl (hr.draw (d := 8 * d) ho hc hx hy hk (fun x k bb hb => ?_) (dstB_ok hd) fun x ρ' a' w' hΦ h' => ?_)
  · have := List.all_eq_true.1 (hfr x) _ hb
    simpa using this
  · obtain ⟨e1, e2, _⟩ := stF_some (ht x)
    rw [e1, e2] at h'
    exact h x hΦ w0 w' ρ' a' Q h' hQ
theorem tri_lenP {T e : TypeId} {i : TyI} {rd : Nat → AV} {x : Operand} {v : Value} {code : List UInt8} (ho : o.op = .call { callee := .builtin .len, args := #[x], argTypes := #[T] }) (hi : TyEnv.ti P T = some i) (hk : i.k = .slice e) (hx : evo rd x = .one (.rd (pinQ v code))) : Tri P o rd [] (.one (.v (.int .i64 code.length))) [] := by
  refine tri_pure fun w0 w D ρ ac hh hex => ?_
  have h1 := hh x (by simp [ho, Op.operands, Call.operands])
  rw [hx] at h1
  obtain ⟨h1, h2, _⟩ := h1
  obtain ⟨A, c, hv, _⟩ := h2.bytes
  simp only [List.cons.injEq, and_true] at hv
  subst hv
  refine ⟨_, ?_, ar_v rfl⟩
  have hu := ty_slice hi hk
  have := run_len_slice (P := P) w T o.type A code.length c (by rw [elem_of hu]; exact hu)
  simp [execOp, ho, resolve, invoke, builtin, h1, this, goInt]
theorem vlp {dr : Bool} {fp : List Fp} {T e : TypeId} {i : TyI} {x : Operand} {v : Value} {code : List UInt8} (h : Vd P n ops dr (K := K) os t' H' ((k1, k2) :: fp)) (hd : dstB o.dst n = true := by rfl) (hg : o.guard = none := by rfl) (ho : o.op = .call { callee := .builtin .len, args := #[x], argTypes := #[T] } := by rfl) (hi : TyEnv.ti P T = some i := by rfl) (hk : i.k = .slice e := by rfl) (hx : evo (gt t) x = .one (.rd (pinQ v code)) := by rfl)
    (ht : stF o.dst (.one (.v (.int .i64 code.length))) [] [] t H = some (t', H', k1, k2) := by rfl) : Vd P n ops dr K (o :: os) t H fp := vd_plain hd hg (good0 (tri_lenP ho hi hk hx)) ht h
end
def setQ (xs : List Int) : RdP := vQ fun u => ∃ x ∈ xs, u = .int .i64 x
section
variable {P : Program} [TyEnv P] {n : Nat} {ops os : List Oper} {K : Tm → Hp → Prop} {t t' : Tm} {H H' : Hp} {o : Oper} {k1 k2 : List Nat}
def Pick (P : Program) (f : FuncId) (CT : TypeId) : Prop := FnOk P f ∧ ∀ (w0 w : World) (Js : List Asn) (b : Nat) (v lv : Value) (code : List UInt8) (xs : List Int), St w0 w (curA CT b v code.length :: Js) → Holds w0 code [v] → RB w (.sl 1 (xs.map intE)) lv → (∀ c ∈ lv.blk, c ≠ b) → (∀ x ∈ xs, i64ok x) → 1 ≤ xs.length → xs.length ≤ 1000000 →
  Calls P f #[.pointer (some ⟨b, 0, none⟩), lv] w fun e w' => ∃ x ∈ xs, e = .returned (.int .i64 x) ∧ St w0 w' (curA CT b v code.length :: Js)
theorem Rel.pick {w0 w : World} {ρ : Nat → Value} {a : Act} {f : FuncId} {c y : Operand} {ats : Array TypeId} {CT E : TypeId} {b kc m : Nat} {v : Value} {code : List UInt8} {xs : List Int} {Q : Exit → Act → World → Prop} {K : Act → World → Prop}
    (hr : Rel w0 w ρ n t H a) (ho : o.op = .call { callee := .value (.func f), args := #[c, y], argTypes := ats }) (hc : Pick P f CT) (hx : evo (gt t) c = .one (.rd (cpQ b v code))) (hy : evo (gt t) y = .one (.hs m)) (hk : lk H kc = some (.own (cuOw CT b v code.length))) (hm : lk H m = some (.arr E 1 (xs.map intE))) (hkm : kc ≠ m)
    (h64 : ∀ x ∈ xs, i64ok x) (h1 : 1 ≤ xs.length) (h2 : xs.length ≤ 1000000) (hd : ∀ d, o.dst = some d → d < n)
    (h : ∀ x a' w', x ∈ xs → Rel w0 w' ρ n (putT t o.dst (.one (.v (.int .i64 x)))) H a' → K a' w') : o.wp P a w K Q := by
  obtain ⟨Bs, b1, b2⟩ := hr.hp
  have p1 : H.Perm ((kc, .own (cuOw CT b v code.length)) :: offK kc H) := by have := upd1_perm (.own (cuOw CT b v code.length)) hr.nd hk; rwa [upd1_same hk] at this
  have hm1 : lk (offK kc H) m = some (.arr E 1 (xs.map intE)) := by rw [lk_offK (fun e => hkm e.symm)]; exact hm
  have p2 : (offK kc H).Perm ((m, .arr E 1 (xs.map intE)) :: offK m (offK kc H)) := by have := upd1_perm (.arr E 1 (xs.map intE)) (nd_offK (k := kc) hr.nd) hm1; rwa [upd1_same hm1] at this
  obtain ⟨Ds, d1, d2⟩ := F2.perm (p1.trans (p2.cons _)) b1
  cases d2 with
  | @cons _ X _ Es' x1 x2 =>
    cases x2 with
    | @cons _ Y _ Es x2 x3 =>
      have hX : X = (cuOw CT b v code.length).A (ρ kc) := x1
      subst hX
      obtain ⟨hes, rfl⟩ := x2
      have s1 : St w0 w ((cuOw CT b v code.length).A (ρ kc) :: slotA E 1 (ρ m) (xs.map intE).length (xs.map intE).flatten :: Es) := St.perm b2 d1
      obtain ⟨hx0, F, ⟨F1, F2, ⟨hρ, hF1⟩, ⟨G1, G2, hG1, hG2, g3, g4⟩, f3, f4⟩, f5⟩ := s1
      have s1 : St w0 w ((cuOw CT b v code.length).A (ρ kc) :: slotA E 1 (ρ m) (xs.map intE).length (xs.map intE).flatten :: Es) := St.perm b2 d1
      have hcur : St w0 w (curA CT b v code.length :: slotA E 1 (ρ m) (xs.map intE).length (xs.map intE).flatten :: Es) := s1.same fun F hF => ⟨F, hF.2, fun _ h => h⟩
      have hp := hr.ev c
      rw [hx] at hp
      obtain ⟨hp, hh⟩ := hp
      have hq := hr.ev y
      rw [hy] at hq
      obtain ⟨_, hq, _⟩ := hq
      have hdis : ∀ c ∈ (ρ m).blk, c ≠ b := fun c hc e => by
        subst e
        exact f3 c ((hF1.2 c).2 rfl) ((g4 c).2 (.inl ((hG1.2 c).2 hc)))
      obtain ⟨hfn, hcall⟩ := hc
      unfold Oper.wp
      rw [run_enter ho hfn, Oper.upon_enter]
      have e2 : #[c, y].map a.eval = #[.pointer (some ⟨b, 0, none⟩), ρ m] := by simp [hp, hq]
      rw [e2]
      refine (hcall w0 w _ b v (ρ m) code xs hcur hh (slot_RB hG1.1 hes) hdis h64 h1 h2).mono fun e w' hq2 => ?_
      obtain ⟨x, hxs, rfl, hS⟩ := hq2
      have hback : St w0 w' ((cuOw CT b v code.length).A (ρ kc) :: slotA E 1 (ρ m) (xs.map intE).length (xs.map intE).flatten :: Es) := hS.same fun F hF => ⟨F, ⟨hρ, hF⟩, fun _ h => h⟩
      have hR : Rel w0 w' ρ n t H a := ⟨hr.sz, hr.df, hr.tm, ⟨Bs, b1, St.perm hback d1.symm⟩, hr.nd⟩
      exact h x _ w' hxs (hR.put (v := .one (.v (.int .i64 x))) ⟨rfl, rfl⟩ hd)
theorem svp {f : FuncId} {c y : Operand} {ats : Array TypeId} {CT E : TypeId} {b m d : Nat} {v : Value} {code : List UInt8} (xs : List Int) (hc : Pick P f CT) (h : ∀ x, x ∈ xs → SV P n ops K os ((d, .one (.v (.int .i64 x))) :: t) H) (kc : Nat) (hd : dstB o.dst n = true := by rfl) (hg : o.guard = none := by rfl) (ho : o.op = .call { callee := .value (.func f), args := #[c, y], argTypes := ats } := by rfl) (hx : evo (gt t) c = .one (.rd (cpQ b v code)) := by rfl) (hy : evo (gt t) y = .one (.hs m) := by rfl) (hk : lk H kc = some (.own (cuOw CT b v code.length)) := by rfl) (hm : lk H m = some (.arr E 1 (xs.map intE)) := by rfl) (hkm : Nat.beq kc m = false := by rfl) (hdd : o.dst = some d := by rfl)
    (h64 : ∀ x ∈ xs, i64ok x := by (intro x hx; simp only [List.mem_cons, List.not_mem_nil, or_false] at hx; unfold i64ok; omega)) (h1 : Nat.ble 1 xs.length = true := by rfl) (h2 : Nat.ble xs.length 1000 = true := by rfl) : SV P n ops K (o :: os) t H := fun w0 w ρ a Q hr hQ => by
  simp only [wpList]
  have hw : Region.wanted o (yielded ops.toArray a.tmps) = true := by unfold Region.wanted; rw [hg]
  rw [if_pos hw]
  have h1' := Nat.le_of_ble_eq_true h1
  have h2' := Nat.le_of_ble_eq_true h2
  exact .inl (hr.pick ho hc hx hy hk hm (Nat.ne_of_beq_eq_false hkm) h64 h1' (by omega) (dstB_ok hd) fun x a' w' hxs h' => by
    rw [hdd] at h'
    exact h x hxs w0 w' ρ a' Q h' hQ)
theorem tri_pick' {f : FuncId} {c y : Operand} {ats : Array TypeId} {CT E : TypeId} {b kc m : Nat} {rd : Nat → AV} {v : Value} {code : List UInt8} {xs : List Int} (ho : o.op = .call { callee := .value (.func f), args := #[c, y], argTypes := ats }) (hc : Pick P f CT) (hx : evo rd c = .one (.rd (cpQ b v code))) (hy : evo rd y = .one (.hs m)) (hkm : kc ≠ m) (h64 : ∀ x ∈ xs, i64ok x) (h1 : 1 ≤ xs.length) (h2 : xs.length ≤ 1000000) :
    Tri P o rd [(kc, .own (cuOw CT b v code.length)), (m, .arr E 1 (xs.map intE))] (.one (.rd (setQ xs))) [] := by
  intro w0 w ρ n t H a Q hr ht hrs hfr hd
  refine hr.pick ho hc ?_ ?_ (hrs kc _ (List.mem_cons_self ..)) (hrs m _ (List.mem_cons_of_mem _ (List.mem_cons_self ..))) hkm h64 h1 h2 hd fun x a' w' hxs h' => ⟨ρ, ?_⟩
  · rw [evo_of (o := o) (by simp [ho, Op.operands, Call.operands]) ht]; exact hx
  · rw [evo_of (o := o) (by simp [ho, Op.operands, Call.operands]) ht]; exact hy
  · refine ⟨h'.sz, h'.df, fun k => ?_, h'.hp, h'.nd⟩
    have := h'.tm k
    rw [gt_putT] at this ⊢
    split
    · rename_i e
      rw [if_pos e] at this
      obtain ⟨q1, q2⟩ := this
      exact ⟨⟨x, hxs, q1⟩, by rw [q1]; rfl⟩
    · rename_i e
      rw [if_neg e] at this
      exact this
theorem vdp {dr : Bool} {fp : List Fp} {f : FuncId} {c y : Operand} {ats : Array TypeId} {CT E : TypeId} {b m : Nat} {v : Value} {code : List UInt8} (xs : List Int) (hc : Pick P f CT) (h : Vd P n ops dr K os t' H' ((k1, k2) :: fp)) (kc : Nat) (hd : dstB o.dst n = true := by rfl) (hg : o.guard = none := by rfl) (ho : o.op = .call { callee := .value (.func f), args := #[c, y], argTypes := ats } := by rfl) (hx : evo (gt t) c = .one (.rd (cpQ b v code)) := by rfl) (hy : evo (gt t) y = .one (.hs m) := by rfl) (hk : lk H kc = some (.own (cuOw CT b v code.length)) := by rfl) (hm : lk H m = some (.arr E 1 (xs.map intE)) := by rfl) (hkm : Nat.beq kc m = false := by rfl)
    (h64 : ∀ x ∈ xs, i64ok x := by (intro x hx; simp only [List.mem_cons, List.not_mem_nil, or_false] at hx; unfold i64ok; omega)) (h1 : Nat.ble 1 xs.length = true := by rfl) (h2 : Nat.ble xs.length 1000 = true := by rfl) (ht : stF o.dst (.one (.rd (setQ xs))) [] [(kc, .own (cuOw CT b v code.length)), (m, .arr E 1 (xs.map intE))] t H = some (t', H', k1, k2) := by rfl) : Vd P n ops dr K (o :: os) t H fp := by
  have h1' := Nat.le_of_ble_eq_true h1
  have h2' := Nat.le_of_ble_eq_true h2
  exact vd_plain hd hg (good_of (tri_pick' ho hc hx hy (Nat.ne_of_beq_eq_false hkm) h64 h1' (by omega)) (fun k b hb => by
    simp only [List.mem_cons, Prod.mk.injEq, List.not_mem_nil, or_false] at hb
    rcases hb with ⟨rfl, rfl⟩ | ⟨rfl, rfl⟩
    · exact hk
    · exact hm) fun k b hb => by cases hb) ht h
theorem vc_et {K : Post} {c : Code} {d : Nat} {xs : List Int} (h : ∀ x, x ∈ xs → VC P n c K ((d, .one (.v (.int .i64 x))) :: t) H) (hx : gt t d = .one (.rd (setQ xs)) := by rfl) : VC P n c K t H := fun w0 w ρ a hr => by
  have h1 := hr.tm d
  rw [hx] at h1
  obtain ⟨⟨x, hxs, hu⟩, _⟩ := h1
  refine h x hxs w0 w ρ a ⟨hr.sz, hr.df, fun k => ?_, hr.hp, hr.nd⟩
  simp only [gt]
  split
  · rename_i e; subst e; exact ⟨hu, rfl⟩
  · exact hr.tm k
end
end Go.Vc
end
section
namespace Go.Proofs.YtfcmcedeapgdcaaGreat
open Go Go.RowKit Go.Vc
set_option linter.unusedVariables false
set_option linter.unusedSimpArgs false
set_option linter.unnecessarySimpa false
theorem after_i {w0 w' : World} {base : Nat} {r : Int} {Is Js : List Asn} (hs : St w0 w' (Is ++ Js)) : After w0 base (.one (.v (.int .i64 r))) [] Is Js (.returned (.int .i64 r)) w' :=
  ⟨_, fun _ => .bool true, rfl, ⟨rfl, rfl⟩, .nil, [], .nil, by simpa using hs⟩
theorem c_spec_l01Byte {b : Nat} {v : Value} {code : List UInt8} : ConC Tryz.prog 57 112 b v code [] (α := Int) (fun x => 0 ≤ x ∧ x ≤ 255) (fun x => .one (.v (.int .i64 x))) (fun _ => []) :=
  ⟨⟨_, Tryz.func57, by kernel_rfl, rfl⟩, fun w0 w Js hs hh base => (l01Byte_any b v code w0 w (hs.cu .head hh)).mono fun e w' hd => by
    obtain ⟨r, h1, h2, rfl, h3⟩ := hs.drawn .head hd
    exact ⟨r, ⟨h1, h2⟩, after_i h3⟩⟩
theorem c_spec_l01Below {b : Nat} {v : Value} {code : List UInt8} {n : Int} (h0 : 1 ≤ n := by omega) (h1 : n ≤ 1000000000 := by omega) : ConC Tryz.prog 21 112 b v code [.int .i64 n] (α := Int) (fun x => 0 ≤ x ∧ x ≤ n - 1) (fun x => .one (.v (.int .i64 x))) (fun _ => []) :=
  ⟨⟨_, Tryz.func21, by kernel_rfl, rfl⟩, fun w0 w Js hs hh base => (l01Below_any b v code n w0 w (hs.cu .head hh) h0 h1).mono fun e w' hd => by
    obtain ⟨r, h1, h2, rfl, h3⟩ := hs.drawn .head hd
    exact ⟨r, ⟨h1, h2⟩, after_i h3⟩⟩
theorem c_spec_l01New {v : Value} {code : List UInt8} : ConV Tryz.prog 19 v code (α := Nat) (fun _ => True) (fun B => .one (.rd (cpQ B v code))) (fun B => [(0, .own (cuOw 112 B v code.length))]) :=
  ⟨⟨_, Tryz.func19, by kernel_rfl, rfl⟩, fun w0 w Js hs hh base => (l01New_any v code w (hh.ex hs.ex)).mono fun e w' hd => by
    obtain ⟨B, rfl, h3⟩ := hs.newCur hd code.length
    refine ⟨B, trivial, _, fun _ => .pointer (some ⟨B, 0, none⟩), rfl, ⟨rfl, hh⟩, by simp [shH], [_], .cons rfl .nil, ?_⟩
    exact h3.same fun F hF => ⟨F, ⟨rfl, hF⟩, fun _ h => h⟩⟩
set_option maxHeartbeats 1000000 in
theorem pick_any (B : Nat) (v : Value) (code : List UInt8) (lv : Value) (xs : List Int) (w0 w : World) (hcu : Cu 112 w0 B v code w) (k2 : RB w (.sl 1 (xs.map intE)) lv) (hne : ∀ b ∈ lv.blk, b ≠ B) (h1 : 1 ≤ xs.length) (h2 : xs.length ≤ 1000000) :
    Calls Tryz.prog 69 #[.pointer (some ⟨B, 0, none⟩), lv] w fun e w' => ∃ x ∈ xs, DrawnN 112 B v code.length x x w e w' := by
  obtain ⟨a, cap, rfl, m1, m2, m3⟩ := k2
  unfold maxLen at m2
  rw [List.length_map] at m1 ⊢
  have lB := hcu.lt
  have M3 : Hid (∀ k (hk : k < xs.length), ∃ b off, a = some ⟨b, off, none⟩ ∧ w.cell? ⟨b, off + k, none⟩ = some (.int .i64 xs[k])) := hid fun k hk => by
    obtain ⟨b, off, ha, hc⟩ := m3.2 (by intro e; simp at e; subst e; simp at hk)
    refine ⟨b, off, ha, ?_⟩
    have := hc k (intE xs[k]) (by simp [List.getElem?_eq_getElem hk]) 0 (by decide)
    simpa [intE] using this
  have HN := hid hne
  clear m3 hne
  go_enter Tryz.func69, Tryz.ntmps69
  go_wp2_with fail
  (with_reducible refine (l01Below_any B v code _ w0 _ hcu (by omega) (by omega)).mono ?_); rintro e w' ⟨r, i, h, g, r0, r1, i0, i1, rfl, rfl⟩
  obtain ⟨k, rfl⟩ := Int.eq_ofNat_of_zero_le r0
  have hk : k < xs.length := by omega
  obtain ⟨b, off, rfl, hc⟩ := M3.out k hk
  have hbB : b ≠ B := HN.out b (by simp [Value.blk])
  have lb : b < w.heap.size := World.block_lt_of_cell? _ _ hc
  have hx := List.getElem_mem hk
  generalize xs[k] = y at *
  go_wp2
  go_ret
  exact ⟨y, hx, y, i, h, g, Int.le_refl _, Int.le_refl _, i0, i1, rfl, rfl⟩
theorem c_pick : Pick Tryz.prog 69 112 := ⟨⟨_, Tryz.func69, by kernel_rfl, rfl⟩, fun w0 w Js b v lv code xs hs hh hr hb h64 h1 h2 => (pick_any b v code lv xs w0 w (hs.cu .head hh) hr hb h1 h2).mono fun e w' ⟨x, hx, hd⟩ => by
  obtain ⟨r, g1, g2, rfl, h3⟩ := hs.drawn .head hd
  obtain rfl : r = x := by omega
  exact ⟨r, hx, rfl, h3⟩⟩
set_option maxHeartbeats 4000000 in
theorem c_spec_l01Once {b : Nat} {v : Value} {code : List UInt8} {n : Int} (h0 : 1 ≤ n := by omega) (h1 : n ≤ 1000000000 := by omega) : ConC Tryz.prog 68 112 b v code [.int .i64 (n)] (α := Bool) (fun _ => True) (fun x => .one (.v (.bool x))) (fun _ => []) := by
  refine conc_i Tryz.func68 Tryz.ntmps68 (fun L => ?_)
  refine vc_nf rfl rfl ?_
  refine vc_sr ?_
  refine vo ?_
  refine vnt ?_
  refine vc_seq' ?_
  refine vc_sv ?_
  refine svo ?_
  refine svo ?_
  refine sve (c_spec_l01Below (n := n)) (fun x1 hx1 => ?_) 1000001
  refine svo ?_
  refine svo ?_
  refine svnil ?_
  refine thn ?_
  refine vc_ret ?_
  refine fin_g (decide (x1 = 0)) (trivial) [] rfl (fz ?_) (fz ?_) <;> first | trivial | rfl | trace_state
set_option maxHeartbeats 4000000 in
theorem c_spec_l06Host {b : Nat} {v : Value} {code : List UInt8}  : ConC Tryz.prog 102 112 b v code [] (α := Int) (fun x => 167772161 ≤ x ∧ x ≤ 167772163) (fun x => .one (.v (.int .i64 x))) (fun _ => []) := by
  refine conc_i Tryz.func102 Tryz.ntmps102 (fun L => ?_)
  refine vc_nf rfl rfl ?_
  refine vc_sr ?_
  refine vo ?_
  refine vnt ?_
  refine vc_seq' ?_
  refine vc_sv ?_
  refine svo ?_
  refine sve (c_spec_l01Below (n := 3)) (fun x1 hx1 => ?_) 1000001
  refine svo ?_
  try refine svwr ?_
  refine svo ?_
  refine svnil ?_
  refine thn ?_
  refine vc_ret ?_
  refine fin_g (167772161 + x1) (by omega) [] rfl (fz ?_) (fz ?_) <;> first | trivial | rfl | trace_state
set_option maxHeartbeats 4000000 in
theorem c_spec_l06Flags {b : Nat} {v : Value} {code : List UInt8}  : ConC Tryz.prog 123 112 b v code [] (α := Int) (fun x => x ∈ ([16, 16, 16, 24, 17, 2, 4, 31, 0] : List Int)) (fun x => .one (.v (.int .i64 x))) (fun _ => []) := by
  refine conc_i Tryz.func123 Tryz.ntmps123 (fun L => ?_)
  refine vc_nf rfl rfl ?_
  refine vc_sr ?_
  refine vo ?_
  refine vnt ?_
  refine vc_seq' ?_
  refine vc_sv ?_
  refine svo ?_
  refine svo ?_
  refine svp [16, 16, 16, 24, 17, 2, 4, 31, 0] c_pick (fun x1 hx1 => ?_) 1000001
  refine svo ?_
  refine svnil ?_
  refine thn ?_
  refine vc_ret ?_
  refine fin_g (x1) (hx1) [] rfl (fz ?_) (fz ?_) <;> first | trivial | rfl | trace_state
set_option maxHeartbeats 4000000 in
theorem c_spec_l01Text {b : Nat} {v : Value} {code : List UInt8} {n : Int} (h0 : 0 ≤ n := by omega) (h1 : n ≤ 5000 := by omega) : ConC Tryz.prog 70 112 b v code [.int .i64 (n)] (α := ByteArray) (fun x => (x.size : Int) = n) (fun x => .one (.v (.string x))) (fun _ => []) := by
  refine conc_i Tryz.func70 Tryz.ntmps70 (fun L => ?_)
  refine vc_nf rfl rfl ?_
  refine vc_sr ?_
  refine vo ?_
  refine vnt ?_
  refine vc_seq' ?_
  refine vc_sr ?_
  iterate 2 refine vo ?_
  refine vnt ?_
  refine vc_if (fun g1 => ?_) (fun g1 => ?_)
  · exact absurd g1 (by omega)
  · refine vc_skip ?_
    refine thn ?_
    refine vc_sr ?_
    iterate 2 refine vo ?_
    refine vnt ?_
    refine vc_seq' ?_
    refine vc_sr ?_
    refine vo ?_
    refine vnt ?_
    refine vc_block ?_
    refine vc_lp (σ := List Int) [0, 1] [1000001, 1000003] (fun L => [(5, .one (.hs 7)), (6, I (L.length : Int))]) (fun L => [(7, .arr 5 1 (L.map byE))]) (fun L => (L.length : Int) ≤ n ∧ ∀ x ∈ L, 0 ≤ x ∧ x ≤ 255) (fun L => n.toNat - L.length) [] rfl rfl (sub_i [(7, some 72)] (fz ?_) (fz ?_)) ?_ fun L hL => ?_
    · first | trivial | rfl | trace_state
    · first | trivial | rfl | trace_state
    · exact ⟨h0, fun _ h => nomatch h⟩
    refine vc_nf rfl rfl ?_
    refine vc_seq' ?_
    refine vc_sr ?_
    iterate 3 refine vo ?_
    refine vnt ?_
    refine vc_if (fun g2 => ?_) (fun g2 => ?_)
    · refine vc_skip ?_
      refine thn ?_
      refine vc_seq' ?_
      refine vc_block ?_
      refine vc_sv ?_
      refine svo ?_
      refine svo ?_
      refine sve c_spec_l01Byte (fun x1 hx1 => ?_) 1000001
      refine svo ?_
      refine svo ?_
      refine svo ?_
      refine svo ?_
      refine svnil ?_
      refine inB_n ?_
      refine thn ?_
      refine vc_region ?_
      iterate 2 refine vo ?_
      try refine vwr ?_
      refine vo ?_
      refine vnt ?_
      have hle : (((L ++ [IntKind.u8.wrap x1]).length : Nat) : Int) = (L.length : Int) + 1 := by simp
      refine ⟨L ++ [IntKind.u8.wrap x1], ⟨by omega, fun y hy => ?_⟩, by omega, sub_i [(7, some 160)] (fz ?_) (fz ?_)⟩
      · rcases List.mem_append.1 hy with h | h
        · exact hL.2 y h
        · rw [List.mem_singleton.1 h, u8w (by omega) (by omega)]; omega
      · first | trivial | (rw [hle]; done) | trace_state
      · first | trivial | (rw [List.map_append]; rfl) | trace_state
    · have hle : (L.length : Int) = n := by omega
      have hok := okE_by hL.2
      refine vc_exit ?_
      refine thn_x ?_
      refine thn_x ?_
      refine inB_x ?_
      refine thn ?_
      refine vc_sr ?_
      iterate 3 refine vo ?_
      refine vnt ?_
      refine vc_ret ?_
      refine fin_g (ofE (L.map byE)) (by rw [ofE_by, strOfNums_size]; exact hle) [] rfl (fz ?_) (fz ?_) <;> first | trivial | rfl | trace_state
theorem seg_t {sp seq ack fl win w : Int} {n : Nat} (h1 : 0 ≤ sp ∧ sp ≤ 1) (h2 : seq ∈ ([0, 100, 4294967290, w] : List Int)) (hw : 0 ≤ w ∧ w ≤ 65535) (h3 : ack ∈ ([0, 5, 4294967295] : List Int)) (h4 : fl ∈ ([16, 16, 16, 24, 17, 2, 4, 31, 0] : List Int)) (h5 : win ∈ ([0, 512, 65535] : List Int)) (h6 : n ≤ 320) : segOkB 6 (1000 + sp) 80 seq ack fl win n = true := by
  simp only [List.mem_cons, List.not_mem_nil, or_false] at h2 h3 h4 h5
  unfold segOkB
  simp only [Bool.and_eq_true, Bool.or_eq_true, inB_iff, Bool.not_eq_true', decide_eq_false_iff_not, beq_iff_eq]
  refine ⟨⟨⟨by omega, by omega⟩, by omega⟩, .inl ⟨trivial, by omega, by omega, by omega, by omega⟩⟩
theorem seg_u {sp : Int} {n : Nat} (h1 : 0 ≤ sp ∧ sp ≤ 1) (h6 : n ≤ 320) : segOkB 17 (1000 + sp) 53 0 0 0 0 n = true := by
  unfold segOkB
  simp only [Bool.and_eq_true, Bool.or_eq_true, inB_iff, Bool.not_eq_true', decide_eq_false_iff_not, beq_iff_eq]
  refine ⟨⟨⟨by omega, by omega⟩, by omega⟩, .inr ⟨by decide, trivial, trivial, trivial, trivial, trivial⟩⟩
set_option maxHeartbeats 4000000 in
theorem c_spec_l06Segment {b : Nat} {v : Value} {code : List UInt8} {most : Int} (h0 : 0 ≤ most := by omega) (h1 : most ≤ 320 := by omega) : ConC Tryz.prog 103 112 b v code [.int .i64 (most)] (α := SegX) (fun x => segOkB x.kind x.sp x.dp x.seq x.ack x.fl x.win x.body.size = true ∧ (x.body.size : Int) ≤ most) (fun x => .agg [V (x).kind, V (x).sp, V (x).dp, V (x).seq, V (x).ack, V (x).fl, V (x).win, VS (x).body]) (fun _ => []) := by
  refine conc_i Tryz.func103 Tryz.ntmps103 (fun L => ?_)
  refine vc_nf rfl rfl ?_
  refine vc_sr ?_
  refine vo ?_
  refine vnt ?_
  refine vc_seq' ?_
  refine vc_sv ?_
  refine svo ?_
  refine sve (c_spec_l01Below (n := 2)) (fun x1 hx1 => ?_) 1000001
  refine svo ?_
  try refine svwr ?_
  refine svo ?_
  refine svo ?_
  refine sve (c_spec_l01Below (n := 65536)) (fun x2 hx2 => ?_) 1000001
  refine svo ?_
  refine svp [0, 100, 4294967290, x2] c_pick (fun x3 hx3 => ?_) 1000001
  refine svo ?_
  refine svo ?_
  refine svp [0, 5, 4294967295] c_pick (fun x4 hx4 => ?_) 1000001
  refine svo ?_
  refine sve c_spec_l06Flags (fun x5 hx5 => ?_) 1000001
  refine svo ?_
  refine svo ?_
  refine svp [0, 512, 65535] c_pick (fun x6 hx6 => ?_) 1000001
  refine svo ?_
  refine svo ?_
  refine svo ?_
  refine svnil ?_
  refine thn ?_
  refine vc_seq' ?_
  refine vc_sv ?_
  refine svo ?_
  refine svo ?_
  refine svo ?_
  refine svo ?_
  try refine svwr ?_
  refine sve (c_spec_l01Below (n := most + 1)) (fun x7 hx7 => ?_) 1000001
  refine sve (c_spec_l01Text (n := x7)) (fun x8 hx8 => ?_) 1000001
  refine svo ?_
  refine svo ?_
  refine svnil ?_
  refine thn ?_
  refine vc_seq' ?_
  refine vc_seq' ?_
  refine vc_sv ?_
  refine svo ?_
  refine sve (c_spec_l01Once (n := 4)) (fun x9 hx9 => ?_) 1000001
  refine svnil ?_
  refine thn ?_
  refine vc_if (fun g1 => ?_) (fun g1 => ?_)
  · refine vc_sr ?_
    iterate 6 refine vo ?_
    refine vnt ?_
    refine vc_ret ?_
    refine thn_r ?_
    have hsz : x8.size ≤ 320 := by omega
    have hsm : (x8.size : Int) ≤ most := by omega
    refine fin_g (⟨17, 1000 + x1, 53, 0, 0, 0, 0, x8⟩) (⟨seg_u hx1 hsz, hsm⟩) [] rfl (fz ?_) (fz ?_) <;> first | trivial | rfl | trace_state
  · refine vc_skip ?_
    refine thn ?_
    refine vc_sr ?_
    iterate 2 refine vo ?_
    refine vnt ?_
    refine vc_ret ?_
    have hsz : x8.size ≤ 320 := by omega
    have hsm : (x8.size : Int) ≤ most := by omega
    refine fin_g (⟨6, 1000 + x1, 80, x3, x4, x5, x6, x8⟩) (⟨seg_t hx1 hx3 (by omega) hx4 hx5 hx6 hsz, hsm⟩) [] rfl (fz ?_) (fz ?_) <;> first | trivial | rfl | trace_state
theorem seg_n {kind sp dp seq ack fl win : Int} {n m : Nat} (h : segOkB kind sp dp seq ack fl win n = true) (hm : m ≤ 320) : segOkB kind sp dp seq ack fl win m = true := by
  unfold segOkB at *
  simp only [Bool.and_eq_true, Bool.not_eq_true', decide_eq_false_iff_not] at h ⊢
  exact ⟨⟨h.1.1, by omega⟩, h.2⟩
theorem pk_sup {dm sm vl tos id ttl si kind sp dp seq ack fl win : Int} {n : Nat} (h1 : dm ∈ ([2, 2, 2, 4, 281474976710655] : List Int)) (h2 : sm ∈ ([6, 8] : List Int)) (h3 : vl ∈ ([-1, -1, 7] : List Int)) (h4 : tos ∈ ([0, 0, 255] : List Int)) (h5 : id ∈ ([1, 65535, 65534] : List Int)) (h6 : ttl ∈ ([64, 64, 255] : List Int)) (h7 : 167772161 ≤ si ∧ si ≤ 167772163) (h8 : segOkB kind sp dp seq ack fl win n = true) (h9 : n ≤ 128 ∨ kind = 6 ∧ streamB fl = true) : superOkB dm sm vl tos id ttl si 167772161 kind sp dp seq ack fl win n = true := by
  simp only [List.mem_cons, List.not_mem_nil, or_false] at h1 h2 h3 h4 h5 h6
  unfold superOkB
  simp only [Bool.and_eq_true, Bool.or_eq_true, inB_iff, Bool.not_eq_true', decide_eq_false_iff_not, beq_iff_eq]
  refine ⟨by omega, by omega, by omega, by omega, by omega, by omega, by omega, by omega, h8, h9.imp (by omega) (fun h => h)⟩
set_option maxHeartbeats 4000000 in
theorem c_spec_l07Packet {b : Nat} {v : Value} {code : List UInt8} {most : Int} (h0 : 0 ≤ most := by omega) (h1 : most ≤ 320 := by omega) : ConC Tryz.prog 67 112 b v code [.int .i64 (most)] (α := Pk) (fun x => x.sup = true ∧ (x.body.size : Int) ≤ most) (fun x => .agg [V (x).dm, V (x).sm, V (x).vl, V (x).tos, V (x).id, V (x).ttl, V (x).si, V (x).di, V (x).kind, V (x).sp, V (x).dp, V (x).seq, V (x).ack, V (x).fl, V (x).win, VS (x).body]) (fun _ => []) := by
  refine conc_i Tryz.func67 Tryz.ntmps67 (fun L => ?_)
  refine vc_nf rfl rfl ?_
  refine vc_sr ?_
  refine vo ?_
  refine vnt ?_
  refine vc_seq' ?_
  refine vc_sv ?_
  refine svo ?_
  refine svo ?_
  refine svp [2, 2, 2, 4, 281474976710655] c_pick (fun x1 hx1 => ?_) 1000001
  refine svo ?_
  refine svo ?_
  refine svp [6, 8] c_pick (fun x2 hx2 => ?_) 1000001
  refine svo ?_
  refine svo ?_
  refine svp [-1, -1, 7] c_pick (fun x3 hx3 => ?_) 1000001
  refine svo ?_
  refine svo ?_
  refine svp [0, 0, 255] c_pick (fun x4 hx4 => ?_) 1000001
  refine svo ?_
  refine svo ?_
  refine svp [1, 65535, 65534] c_pick (fun x5 hx5 => ?_) 1000001
  refine svo ?_
  refine svo ?_
  refine svp [64, 64, 255] c_pick (fun x6 hx6 => ?_) 1000001
  refine svo ?_
  refine sve c_spec_l06Host (fun x7 hx7 => ?_) 1000001
  refine svo ?_
  refine svo ?_
  refine svo ?_
  refine svnil ?_
  refine thn ?_
  refine vc_seq' ?_
  refine vc_sv ?_
  refine svo ?_
  refine svo ?_
  refine svo ?_
  refine sve (c_spec_l06Segment (most := min most 128)) (fun x8 hx8 => ?_) 1000001
  refine svo ?_
  refine svo ?_
  refine svnil ?_
  refine thn ?_
  refine vc_seq' ?_
  refine vc_seq' ?_
  refine vc_sv ?_
  refine svo ?_
  refine svo ?_
  refine svo ?_
  refine svo ?_
  refine svo ?_
  refine svsp (fun g1 => ?_) (fun g1 => ?_)
  · refine svon ?_
    refine svon ?_
    refine svon ?_
    refine svon ?_
    refine svon ?_
    refine svo ?_
    refine svo ?_
    refine svsp (fun g2 => ?_) (fun g2 => ?_)
    · refine svon ?_
      refine svon ?_
      refine svo ?_
      refine svo ?_
      refine svsp (fun g3 => ?_) (fun g3 => ?_)
      · refine svon ?_
        refine sven (c_spec_l01Once (n := 2)) (fun x9 hx9 => ?_) 1000001
        refine svo ?_
        refine svnil ?_
        refine thn ?_
        refine vc_if (fun g4 => ?_) (fun g4 => ?_)
        · refine vc_sv ?_
          refine svo ?_
          refine svo ?_
          refine svo ?_
          refine svo ?_
          try refine svwr ?_
          refine svo ?_
          try refine svwr ?_
          refine sve (c_spec_l01Below (n := most - 128 + 1)) (fun x10 hx10 => ?_) 1000001
          refine svo ?_
          try refine svwr ?_
          refine sve (c_spec_l01Text (n := 128 + x10)) (fun x11 hx11 => ?_) 1000001
          refine svo ?_
          refine svo ?_
          refine svo ?_
          refine svnil ?_
          refine thn ?_
          refine vc_sr ?_
          iterate 2 refine vo ?_
          refine vnt ?_
          refine vc_ret ?_
          have hx8b := segOk_fl hx8.1
          have hst : streamB x8.fl = true := by rw [← andnot9 hx8b.1 hx8b.2 rfl]; exact beq_iff_eq.2 g2
          have hsz : x11.size ≤ 320 := by omega
          have hsm : (x11.size : Int) ≤ most := by omega
          refine fin_g (⟨x1, x2, x3, x4, x5, x6, x7, 167772161, x8.kind, x8.sp, x8.dp, x8.seq, x8.ack, x8.fl, x8.win, x11⟩) (⟨pk_sup hx1 hx2 hx3 hx4 hx5 hx6 hx7 (seg_n hx8.1 hsz) (.inr ⟨g1, hst⟩), hsm⟩) [] rfl (fz ?_) (fz ?_) <;> first | trivial | rfl | trace_state
        · refine vc_skip ?_
          refine thn ?_
          refine vc_sr ?_
          iterate 2 refine vo ?_
          refine vnt ?_
          refine vc_ret ?_
          have hsz : x8.body.size ≤ 128 := by have := hx8.2; omega
          have hsm : (x8.body.size : Int) ≤ most := by have := hx8.2; omega
          refine fin_g (⟨x1, x2, x3, x4, x5, x6, x7, 167772161, x8.kind, x8.sp, x8.dp, x8.seq, x8.ack, x8.fl, x8.win, x8.body⟩) (⟨pk_sup hx1 hx2 hx3 hx4 hx5 hx6 hx7 hx8.1 (.inl hsz), hsm⟩) [] rfl (fz ?_) (fz ?_) <;> first | trivial | rfl | trace_state
      · refine svof ?_
        refine svof ?_
        refine svo ?_
        refine svnil ?_
        refine thn ?_
        refine vc_else ?_
        refine vc_skip ?_
        refine thn ?_
        refine vc_sr ?_
        iterate 2 refine vo ?_
        refine vnt ?_
        refine vc_ret ?_
        have hsz : x8.body.size ≤ 128 := by have := hx8.2; omega
        have hsm : (x8.body.size : Int) ≤ most := by have := hx8.2; omega
        refine fin_g (⟨x1, x2, x3, x4, x5, x6, x7, 167772161, x8.kind, x8.sp, x8.dp, x8.seq, x8.ack, x8.fl, x8.win, x8.body⟩) (⟨pk_sup hx1 hx2 hx3 hx4 hx5 hx6 hx7 hx8.1 (.inl hsz), hsm⟩) [] rfl (fz ?_) (fz ?_) <;> first | trivial | rfl | trace_state
    · refine svof ?_
      refine svof ?_
      refine svo ?_
      refine svo ?_
      refine svof ?_
      refine svof ?_
      refine svo ?_
      refine svnil ?_
      refine thn ?_
      refine vc_else ?_
      refine vc_skip ?_
      refine thn ?_
      refine vc_sr ?_
      iterate 2 refine vo ?_
      refine vnt ?_
      refine vc_ret ?_
      have hsz : x8.body.size ≤ 128 := by have := hx8.2; omega
      have hsm : (x8.body.size : Int) ≤ most := by have := hx8.2; omega
      refine fin_g (⟨x1, x2, x3, x4, x5, x6, x7, 167772161, x8.kind, x8.sp, x8.dp, x8.seq, x8.ack, x8.fl, x8.win, x8.body⟩) (⟨pk_sup hx1 hx2 hx3 hx4 hx5 hx6 hx7 hx8.1 (.inl hsz), hsm⟩) [] rfl (fz ?_) (fz ?_) <;> first | trivial | rfl | trace_state
  · refine svof ?_
    refine svof ?_
    refine svof ?_
    refine svof ?_
    refine svof ?_
    refine svo ?_
    refine svo ?_
    refine svof ?_
    refine svof ?_
    refine svo ?_
    refine svo ?_
    refine svof ?_
    refine svof ?_
    refine svo ?_
    refine svnil ?_
    refine thn ?_
    refine vc_else ?_
    refine vc_skip ?_
    refine thn ?_
    refine vc_sr ?_
    iterate 2 refine vo ?_
    refine vnt ?_
    refine vc_ret ?_
    have hsz : x8.body.size ≤ 128 := by have := hx8.2; omega
    have hsm : (x8.body.size : Int) ≤ most := by have := hx8.2; omega
    refine fin_g (⟨x1, x2, x3, x4, x5, x6, x7, 167772161, x8.kind, x8.sp, x8.dp, x8.seq, x8.ack, x8.fl, x8.win, x8.body⟩) (⟨pk_sup hx1 hx2 hx3 hx4 hx5 hx6 hx7 hx8.1 (.inl hsz), hsm⟩) [] rfl (fz ?_) (fz ?_) <;> first | trivial | rfl | trace_state
end Go.Proofs.YtfcmcedeapgdcaaGreat
end
section
namespace Go.Proofs.YtfcmcedeapgdcaaGreat
open Go Go.RowKit Go.Vc
set_option linter.unusedVariables false
set_option linter.unusedSimpArgs false
set_option linter.unnecessarySimpa false
theorem sup_tcp9 {p : Pk} (h : p.sup = true) (hk : p.kind = 6) {fl : Int} (hf : fl ∈ ([16, 16, 16, 16, 16, 24, 17, 2] : List Int)) {b : ByteArray} (hb : b.size ≤ 128) : ({ p with fl := fl, body := b } : Pk).sup = true := by
  unfold Pk.sup superOkB segOkB at *
  simp only [List.mem_cons, List.not_mem_nil, or_false] at hf
  simp only [Bool.and_eq_true, Bool.or_eq_true, inB_iff, Bool.not_eq_true', decide_eq_false_iff_not, beq_iff_eq] at h ⊢
  omega
theorem sup_id9 {p : Pk} (h : p.sup = true) : ({ p with id := (p.id + 1) % 65536 } : Pk).sup = true := by
  unfold Pk.sup superOkB at *
  simp only [Bool.and_eq_true, inB_iff] at h ⊢
  refine ⟨h.1, h.2.1, h.2.2.1, h.2.2.2.1, h.2.2.2.2.1, by omega, h.2.2.2.2.2.2⟩
theorem seg_sq9 {kind sp dp seq ack fl win : Int} {n : Nat} (h : segOkB kind sp dp seq ack fl win n = true) (hk : kind = 6) (m : Int) : segOkB kind sp dp ((seq + m) % 4294967296) ack fl win n = true := by
  unfold segOkB at *
  simp only [Bool.and_eq_true, Bool.or_eq_true, inB_iff, Bool.not_eq_true', decide_eq_false_iff_not, beq_iff_eq] at h ⊢
  omega
theorem sup_sq9 {p : Pk} (h : p.sup = true) (hk : p.kind = 6) (n : Int) : ({ p with seq := (p.seq + n) % 4294967296 } : Pk).sup = true := by
  unfold Pk.sup superOkB at *
  simp only [Bool.and_eq_true] at h ⊢
  exact ⟨h.1, h.2.1, h.2.2.1, h.2.2.2.1, h.2.2.2.2.1, h.2.2.2.2.2.1, h.2.2.2.2.2.2.1, h.2.2.2.2.2.2.2.1, seg_sq9 h.2.2.2.2.2.2.2.2.1 hk n, h.2.2.2.2.2.2.2.2.2⟩
theorem sup_sqb9 {p : Pk} (h : p.sup = true) : 0 ≤ p.seq ∧ p.seq ≤ 4294967295 ∧ 0 ≤ p.id ∧ p.id ≤ 65535 := by
  unfold Pk.sup superOkB segOkB at *
  simp only [Bool.and_eq_true, Bool.or_eq_true, inB_iff, Bool.not_eq_true', decide_eq_false_iff_not, beq_iff_eq] at h
  omega
structure L9 where
  (L : List Pk)
  (p : Pk)
  (size : Int)
  (k : Nat)
structure L9.ok (S : L9) (n : Nat) : Prop where
  len : S.L.length + S.k = n
  all : ∀ x ∈ S.L, x.ok = true
  sup : S.p.sup = true
  bd : S.p.body.size ≤ 40
  s0 : 1 ≤ S.size
  s1 : S.size ≤ 40
theorem pk_ok_of {p : Pk} (h : p.sup = true) (hb : p.body.size ≤ 40) : p.ok = true := by
  unfold Pk.ok
  rw [h, decide_eq_true (show p.body.size ≤ 128 by omega)]; rfl
theorem l9_stp {S : L9} {n k : Nat} (h : S.ok n) (hk : S.k = k + 1) {p p' : Pk} {z : Int} (hp : p.sup = true) (hb : p.body.size ≤ 40) (hp' : p'.sup = true) (hb' : p'.body.size ≤ 40) (z0 : 1 ≤ z) (z1 : z ≤ 40) : L9.ok ⟨S.L ++ [p], p', z, k⟩ n :=
  ⟨by have := h.len; show (S.L ++ [p]).length + k = n; simp; omega, fun x hx => by
    rcases List.mem_append.1 hx with hx | hx
    · exact h.all x hx
    · rw [List.mem_singleton.1 hx]; exact pk_ok_of hp hb, hp', hb', z0, z1⟩
set_option maxHeartbeats 4000000 in
theorem c_spec_l09List {b : Nat} {v : Value} {code : List UInt8} {most : Int} (h0 : 1 ≤ most := by omega) (h1 : most ≤ 10 := by omega) : ConC Tryz.prog 25 112 b v code [.int .i64 (most)] (α := List Pk) (fun x => (1 ≤ x.length ∧ (x.length : Int) ≤ most) ∧ ∀ p ∈ x, p.ok = true) (fun x => .one (.hs 0)) (fun x => [(0, .arr 35 16 (x.map pkE))]) := by
  refine conc_i Tryz.func25 Tryz.ntmps25 (fun L => ?_)
  refine vc_nf rfl rfl ?_
  refine vc_sr ?_
  refine vo ?_
  refine vnt ?_
  refine vc_sr ?_
  iterate 2 refine vo ?_
  refine vnt ?_
  refine vc_seq' ?_
  refine vc_sv ?_
  refine svo ?_
  refine sve (c_spec_l07Packet (most := 40)) (fun p1 hp1 => ?_) 1000001
  refine svo ?_
  refine svo ?_
  refine svnil ?_
  refine thn ?_
  refine vc_seq' ?_
  refine vc_sv ?_
  refine svo ?_
  refine sve (c_spec_l01Below (n := 3)) (fun z hz => ?_) 1000001
  refine svo ?_
  try refine svwr ?_
  refine svo ?_
  try refine svwr ?_
  refine svo ?_
  refine svnil ?_
  refine thn ?_
  refine vc_seq' ?_
  refine vc_seq' ?_
  refine vc_sv ?_
  refine svo ?_
  refine svo ?_
  refine sve (c_spec_l01Below (n := most)) (fun x hx => ?_) 1000001
  refine svo ?_
  try refine svwr ?_
  refine svo ?_
  refine svnil ?_
  refine thn ?_
  refine vc_block ?_
  refine vc_lp (σ := L9) [0, 6] [1000001, 1000003] (fun S => [(5, .one (.hs 7)), (7, I S.size), (8, I (S.k : Int))]) (fun S => [(7, .arr 35 16 (S.L.map pkE)), (48, .row 35 [V (S.p).dm, V (S.p).sm, V (S.p).vl, V (S.p).tos, V (S.p).id, V (S.p).ttl, V (S.p).si, V (S.p).di, V (S.p).kind, V (S.p).sp, V (S.p).dp, V (S.p).seq, V (S.p).ack, V (S.p).fl, V (S.p).win, VS (S.p).body])]) (fun S => S.ok (1 + x).toNat) (fun S => S.k) ⟨[], p1, 8 + z * 8, (1 + x).toNat⟩ rfl rfl (sub_i [(7, some 72), (48, some 48)] (fz ?_) (fz ?_)) ?_ fun S hI => ?_
  · first | trivial | rfl | (show ((1 + x : Int)) = (((1 + x).toNat : Nat) : Int); omega) | omega | trace_state
  · first | trivial | rfl | exact ⟨rfl, rfl⟩ | trace_state
  · exact ⟨by simp, (fun x hx => nomatch hx), hp1.1, by show p1.body.size ≤ 40; omega, by show 1 ≤ 8 + z * 8; omega, by show 8 + z * 8 ≤ 40; omega⟩
  refine vc_nf rfl rfl ?_
  have hs0 := hI.s0
  have hs1 := hI.s1
  have hlen := hI.len
  have hsb := sup_sqb9 hI.sup
  have hbd := hI.bd
  refine vc_seq' ?_
  refine vc_sr ?_
  iterate 2 refine vo ?_
  refine vnt ?_
  refine vc_if (fun g1 => ?_) (fun g1 => ?_)
  · refine vc_skip ?_
    refine thn ?_
    refine vc_seq' ?_
    refine vc_block ?_
    refine vc_seq' ?_
    refine vc_seq' ?_
    refine vc_sv ?_
    refine svo ?_
    refine sve (c_spec_l01Once (n := 5)) (fun o5 ho5 => ?_) 1000001
    refine svnil ?_
    refine thn ?_
    refine vc_if (fun g2 => ?_) (fun g2 => ?_)
    · refine vc_sv ?_
      refine svo ?_
      refine sve (c_spec_l07Packet (most := 40)) (fun p2 hp2 => ?_) 1000001
      have hp2b : p2.body.size ≤ 40 := by have := hp2.2; omega
      have hqb := sup_sqb9 hp2.1
      refine svo ?_
      refine svnil ?_
      refine thn ?_
      refine vc_seq' ?_
      refine vc_seq' ?_
      refine vc_sv ?_
      refine svo ?_
      refine sve (c_spec_l01Once (n := 6)) (fun o6 ho6 => ?_) 1000001
      refine svnil ?_
      refine thn ?_
      refine vc_if (fun g3 => ?_) (fun g3 => ?_)
      · refine vc_sv ?_
        refine svo ?_
        refine sve (c_spec_l01Below (n := 40)) (fun z2 hz2 => ?_) 1000001
        refine svo ?_
        try refine svwr ?_
        refine svo ?_
        refine svnil ?_
        refine thn ?_
        refine vc_seq' ?_
        refine vc_sr ?_
        iterate 4 refine vo ?_
        refine vnt ?_
        refine vc_if (fun g4 => ?_) (fun g4 => ?_)
        · refine vc_seq' ?_
          refine vc_sv ?_
          refine svo ?_
          refine svo ?_
          refine svp [16, 16, 16, 16, 16, 24, 17, 2] c_pick (fun fl hfl => ?_) 1000001
          refine svo ?_
          refine svo ?_
          refine svo ?_
          refine svnil ?_
          refine thn ?_
          refine vc_sv ?_
          refine svo ?_
          refine svo ?_
          refine sve (c_spec_l01Text (n := 1 + z2)) (fun tx htx => ?_) 1000001
          refine svo ?_
          refine svo ?_
          refine svo ?_
          refine svnil ?_
          refine thn ?_
          refine vc_sr ?_
          iterate 5 refine vo ?_
          refine vnt ?_
          refine vc_sr ?_
          iterate 3 refine vo ?_
          try refine vwr ?_
          refine vo ?_
          try refine veq (Int.tmod_eq_emod_of_nonneg (by omega)) ?_
          iterate 2 refine vo ?_
          refine vnt ?_
          refine vc_seq' ?_
          refine vc_sv ?_
          refine svo ?_
          refine svo ?_
          refine svo ?_
          refine svo ?_
          refine svsp (fun h9 => ?_) (fun h9 => absurd g4 h9)
          refine svo ?_
          refine svon ?_
          refine sven (c_spec_l01Once (n := 8)) (fun o8 ho8 => ?_) 1000001
          refine svon ?_
          refine svo ?_
          refine svnil ?_
          refine thn ?_
          refine vc_if (fun g5 => ?_) (fun g5 => ?_)
          · refine vc_region ?_
            iterate 8 refine vo ?_
            try refine vwr ?_
            refine vo ?_
            try refine veq (Int.tmod_eq_emod_of_nonneg (by omega)) ?_
            iterate 3 refine vo ?_
            refine vnil ?_
            refine inB_n ?_
            refine thn ?_
            refine vc_region ?_
            iterate 2 refine vo ?_
            try refine vwr ?_
            refine vo ?_
            refine vnt ?_
            have htz : tx.size ≤ 40 := by omega
            have hP1 := sup_tcp9 (p := p2) hp2.1 g4 hfl (b := tx) (by omega)
            have hP2 := sup_id9 hP1
            have hP3 := sup_sq9 hP2 g4 (tx.size : Nat)
            refine ⟨⟨S.L ++ [{ p2 with fl := fl, body := tx }], { ({ ({ p2 with fl := fl, body := tx } : Pk) with id := ((p2).id + 1) % 65536 } : Pk) with seq := ((p2).seq + (tx.size : Nat)) % 4294967296 }, 1 + z2, S.k - 1⟩, l9_stp hI (show S.k = S.k - 1 + 1 by omega) hP1 htz hP3 htz (by omega) (by omega), by show S.k - 1 < S.k; omega, sub_i [(7, some 400), (48, some 48)] (fz ?_) (fz ?_)⟩
            · have hkk : 0 < S.k := by omega
              omega
            · rw [List.map_append]; rfl
          · refine vc_skip ?_
            refine inB_n ?_
            refine thn ?_
            refine vc_region ?_
            iterate 2 refine vo ?_
            try refine vwr ?_
            refine vo ?_
            refine vnt ?_
            have htz : tx.size ≤ 40 := by omega
            have hP1 := sup_tcp9 (p := p2) hp2.1 g4 hfl (b := tx) (by omega)
            have hP2 := sup_id9 hP1
            refine ⟨⟨S.L ++ [{ p2 with fl := fl, body := tx }], { ({ p2 with fl := fl, body := tx } : Pk) with id := ((p2).id + 1) % 65536 }, 1 + z2, S.k - 1⟩, l9_stp hI (show S.k = S.k - 1 + 1 by omega) hP1 htz hP2 htz (by omega) (by omega), by show S.k - 1 < S.k; omega, sub_i [(7, some 400), (48, some 48)] (fz ?_) (fz ?_)⟩
            · have hkk : 0 < S.k := by omega
              omega
            · rw [List.map_append]; rfl
        · refine vc_skip ?_
          refine thn ?_
          refine vc_sr ?_
          iterate 5 refine vo ?_
          refine vnt ?_
          refine vc_sr ?_
          iterate 3 refine vo ?_
          try refine vwr ?_
          refine vo ?_
          try refine veq (Int.tmod_eq_emod_of_nonneg (by omega)) ?_
          iterate 2 refine vo ?_
          refine vnt ?_
          refine vc_seq' ?_
          refine vc_sv ?_
          refine svo ?_
          refine svo ?_
          refine svo ?_
          refine svo ?_
          refine svsp (fun h9 => absurd h9 g4) (fun h9 => ?_)
          refine svo ?_
          refine svof ?_
          refine svof ?_
          refine svof ?_
          refine svo ?_
          refine svnil ?_
          refine thn ?_
          refine vc_else ?_
          refine vc_skip ?_
          refine inB_n ?_
          refine thn ?_
          refine vc_region ?_
          iterate 2 refine vo ?_
          try refine vwr ?_
          refine vo ?_
          refine vnt ?_
          have hP2 := sup_id9 hp2.1
          refine ⟨⟨S.L ++ [p2], { (p2 : Pk) with id := ((p2).id + 1) % 65536 }, 1 + z2, S.k - 1⟩, l9_stp hI (show S.k = S.k - 1 + 1 by omega) hp2.1 hp2b hP2 hp2b (by omega) (by omega), by show S.k - 1 < S.k; omega, sub_i [(7, some 400), (48, some 48)] (fz ?_) (fz ?_)⟩
          · have hkk : 0 < S.k := by omega
            omega
          · rw [List.map_append]; rfl
      · refine vc_skip ?_
        refine thn ?_
        refine vc_seq' ?_
        refine vc_sr ?_
        iterate 4 refine vo ?_
        refine vnt ?_
        refine vc_if (fun g6 => ?_) (fun g6 => ?_)
        · refine vc_seq' ?_
          refine vc_sv ?_
          refine svo ?_
          refine svo ?_
          refine svp [16, 16, 16, 16, 16, 24, 17, 2] c_pick (fun fl hfl => ?_) 1000001
          refine svo ?_
          refine svo ?_
          refine svo ?_
          refine svnil ?_
          refine thn ?_
          refine vc_sv ?_
          refine svo ?_
          refine svo ?_
          refine sve (c_spec_l01Text (n := S.size)) (fun tx htx => ?_) 1000001
          refine svo ?_
          refine svo ?_
          refine svo ?_
          refine svnil ?_
          refine thn ?_
          refine vc_sr ?_
          iterate 5 refine vo ?_
          refine vnt ?_
          refine vc_sr ?_
          iterate 3 refine vo ?_
          try refine vwr ?_
          refine vo ?_
          try refine veq (Int.tmod_eq_emod_of_nonneg (by omega)) ?_
          iterate 2 refine vo ?_
          refine vnt ?_
          refine vc_seq' ?_
          refine vc_sv ?_
          refine svo ?_
          refine svo ?_
          refine svo ?_
          refine svo ?_
          refine svsp (fun h9 => ?_) (fun h9 => absurd g6 h9)
          refine svo ?_
          refine svon ?_
          refine sven (c_spec_l01Once (n := 8)) (fun o8 ho8 => ?_) 1000001
          refine svon ?_
          refine svo ?_
          refine svnil ?_
          refine thn ?_
          refine vc_if (fun g7 => ?_) (fun g7 => ?_)
          · refine vc_region ?_
            iterate 8 refine vo ?_
            try refine vwr ?_
            refine vo ?_
            try refine veq (Int.tmod_eq_emod_of_nonneg (by omega)) ?_
            iterate 3 refine vo ?_
            refine vnil ?_
            refine inB_n ?_
            refine thn ?_
            refine vc_region ?_
            iterate 2 refine vo ?_
            try refine vwr ?_
            refine vo ?_
            refine vnt ?_
            have htz : tx.size ≤ 40 := by omega
            have hP1 := sup_tcp9 (p := p2) hp2.1 g6 hfl (b := tx) (by omega)
            have hP2 := sup_id9 hP1
            have hP3 := sup_sq9 hP2 g6 (tx.size : Nat)
            refine ⟨⟨S.L ++ [{ p2 with fl := fl, body := tx }], { ({ ({ p2 with fl := fl, body := tx } : Pk) with id := ((p2).id + 1) % 65536 } : Pk) with seq := ((p2).seq + (tx.size : Nat)) % 4294967296 }, S.size, S.k - 1⟩, l9_stp hI (show S.k = S.k - 1 + 1 by omega) hP1 htz hP3 htz (by omega) (by omega), by show S.k - 1 < S.k; omega, sub_i [(7, some 400), (48, some 48)] (fz ?_) (fz ?_)⟩
            · have hkk : 0 < S.k := by omega
              omega
            · rw [List.map_append]; rfl
          · refine vc_skip ?_
            refine inB_n ?_
            refine thn ?_
            refine vc_region ?_
            iterate 2 refine vo ?_
            try refine vwr ?_
            refine vo ?_
            refine vnt ?_
            have htz : tx.size ≤ 40 := by omega
            have hP1 := sup_tcp9 (p := p2) hp2.1 g6 hfl (b := tx) (by omega)
            have hP2 := sup_id9 hP1
            refine ⟨⟨S.L ++ [{ p2 with fl := fl, body := tx }], { ({ p2 with fl := fl, body := tx } : Pk) with id := ((p2).id + 1) % 65536 }, S.size, S.k - 1⟩, l9_stp hI (show S.k = S.k - 1 + 1 by omega) hP1 htz hP2 htz (by omega) (by omega), by show S.k - 1 < S.k; omega, sub_i [(7, some 400), (48, some 48)] (fz ?_) (fz ?_)⟩
            · have hkk : 0 < S.k := by omega
              omega
            · rw [List.map_append]; rfl
        · refine vc_skip ?_
          refine thn ?_
          refine vc_sr ?_
          iterate 5 refine vo ?_
          refine vnt ?_
          refine vc_sr ?_
          iterate 3 refine vo ?_
          try refine vwr ?_
          refine vo ?_
          try refine veq (Int.tmod_eq_emod_of_nonneg (by omega)) ?_
          iterate 2 refine vo ?_
          refine vnt ?_
          refine vc_seq' ?_
          refine vc_sv ?_
          refine svo ?_
          refine svo ?_
          refine svo ?_
          refine svo ?_
          refine svsp (fun h9 => absurd h9 g6) (fun h9 => ?_)
          refine svo ?_
          refine svof ?_
          refine svof ?_
          refine svof ?_
          refine svo ?_
          refine svnil ?_
          refine thn ?_
          refine vc_else ?_
          refine vc_skip ?_
          refine inB_n ?_
          refine thn ?_
          refine vc_region ?_
          iterate 2 refine vo ?_
          try refine vwr ?_
          refine vo ?_
          refine vnt ?_
          have hP2 := sup_id9 hp2.1
          refine ⟨⟨S.L ++ [p2], { (p2 : Pk) with id := ((p2).id + 1) % 65536 }, S.size, S.k - 1⟩, l9_stp hI (show S.k = S.k - 1 + 1 by omega) hp2.1 hp2b hP2 hp2b (by omega) (by omega), by show S.k - 1 < S.k; omega, sub_i [(7, some 400), (48, some 48)] (fz ?_) (fz ?_)⟩
          · have hkk : 0 < S.k := by omega
            omega
          · rw [List.map_append]; rfl
    · refine vc_skip ?_
      refine thn ?_
      refine vc_seq' ?_
      refine vc_seq' ?_
      refine vc_sv ?_
      refine svo ?_
      refine sve (c_spec_l01Once (n := 6)) (fun o6 ho6 => ?_) 1000001
      refine svnil ?_
      refine thn ?_
      refine vc_if (fun g8 => ?_) (fun g8 => ?_)
      · refine vc_sv ?_
        refine svo ?_
        refine sve (c_spec_l01Below (n := 40)) (fun z2 hz2 => ?_) 1000001
        refine svo ?_
        try refine svwr ?_
        refine svo ?_
        refine svnil ?_
        refine thn ?_
        refine vc_seq' ?_
        refine vc_sr ?_
        iterate 4 refine vo ?_
        refine vnt ?_
        refine vc_if (fun g9 => ?_) (fun g9 => ?_)
        · refine vc_seq' ?_
          refine vc_sv ?_
          refine svo ?_
          refine svo ?_
          refine svp [16, 16, 16, 16, 16, 24, 17, 2] c_pick (fun fl hfl => ?_) 1000001
          refine svo ?_
          refine svo ?_
          refine svo ?_
          refine svnil ?_
          refine thn ?_
          refine vc_sv ?_
          refine svo ?_
          refine svo ?_
          refine sve (c_spec_l01Text (n := 1 + z2)) (fun tx htx => ?_) 1000001
          refine svo ?_
          refine svo ?_
          refine svo ?_
          refine svnil ?_
          refine thn ?_
          refine vc_sr ?_
          iterate 5 refine vo ?_
          refine vnt ?_
          refine vc_sr ?_
          iterate 3 refine vo ?_
          try refine vwr ?_
          refine vo ?_
          try refine veq (Int.tmod_eq_emod_of_nonneg (by omega)) ?_
          iterate 2 refine vo ?_
          refine vnt ?_
          refine vc_seq' ?_
          refine vc_sv ?_
          refine svo ?_
          refine svo ?_
          refine svo ?_
          refine svo ?_
          refine svsp (fun h9 => ?_) (fun h9 => absurd g9 h9)
          refine svo ?_
          refine svon ?_
          refine sven (c_spec_l01Once (n := 8)) (fun o8 ho8 => ?_) 1000001
          refine svon ?_
          refine svo ?_
          refine svnil ?_
          refine thn ?_
          refine vc_if (fun g10 => ?_) (fun g10 => ?_)
          · refine vc_region ?_
            iterate 8 refine vo ?_
            try refine vwr ?_
            refine vo ?_
            try refine veq (Int.tmod_eq_emod_of_nonneg (by omega)) ?_
            iterate 3 refine vo ?_
            refine vnil ?_
            refine inB_n ?_
            refine thn ?_
            refine vc_region ?_
            iterate 2 refine vo ?_
            try refine vwr ?_
            refine vo ?_
            refine vnt ?_
            have htz : tx.size ≤ 40 := by omega
            have hP1 := sup_tcp9 (p := S.p) hI.sup g9 hfl (b := tx) (by omega)
            have hP2 := sup_id9 hP1
            have hP3 := sup_sq9 hP2 g9 (tx.size : Nat)
            refine ⟨⟨S.L ++ [{ S.p with fl := fl, body := tx }], { ({ ({ S.p with fl := fl, body := tx } : Pk) with id := ((S.p).id + 1) % 65536 } : Pk) with seq := ((S.p).seq + (tx.size : Nat)) % 4294967296 }, 1 + z2, S.k - 1⟩, l9_stp hI (show S.k = S.k - 1 + 1 by omega) hP1 htz hP3 htz (by omega) (by omega), by show S.k - 1 < S.k; omega, sub_i [(7, some 400), (48, some 48)] (fz ?_) (fz ?_)⟩
            · have hkk : 0 < S.k := by omega
              omega
            · rw [List.map_append]; rfl
          · refine vc_skip ?_
            refine inB_n ?_
            refine thn ?_
            refine vc_region ?_
            iterate 2 refine vo ?_
            try refine vwr ?_
            refine vo ?_
            refine vnt ?_
            have htz : tx.size ≤ 40 := by omega
            have hP1 := sup_tcp9 (p := S.p) hI.sup g9 hfl (b := tx) (by omega)
            have hP2 := sup_id9 hP1
            refine ⟨⟨S.L ++ [{ S.p with fl := fl, body := tx }], { ({ S.p with fl := fl, body := tx } : Pk) with id := ((S.p).id + 1) % 65536 }, 1 + z2, S.k - 1⟩, l9_stp hI (show S.k = S.k - 1 + 1 by omega) hP1 htz hP2 htz (by omega) (by omega), by show S.k - 1 < S.k; omega, sub_i [(7, some 400), (48, some 48)] (fz ?_) (fz ?_)⟩
            · have hkk : 0 < S.k := by omega
              omega
            · rw [List.map_append]; rfl
        · refine vc_skip ?_
          refine thn ?_
          refine vc_sr ?_
          iterate 5 refine vo ?_
          refine vnt ?_
          refine vc_sr ?_
          iterate 3 refine vo ?_
          try refine vwr ?_
          refine vo ?_
          try refine veq (Int.tmod_eq_emod_of_nonneg (by omega)) ?_
          iterate 2 refine vo ?_
          refine vnt ?_
          refine vc_seq' ?_
          refine vc_sv ?_
          refine svo ?_
          refine svo ?_
          refine svo ?_
          refine svo ?_
          refine svsp (fun h9 => absurd h9 g9) (fun h9 => ?_)
          refine svo ?_
          refine svof ?_
          refine svof ?_
          refine svof ?_
          refine svo ?_
          refine svnil ?_
          refine thn ?_
          refine vc_else ?_
          refine vc_skip ?_
          refine inB_n ?_
          refine thn ?_
          refine vc_region ?_
          iterate 2 refine vo ?_
          try refine vwr ?_
          refine vo ?_
          refine vnt ?_
          have hP2 := sup_id9 hI.sup
          refine ⟨⟨S.L ++ [S.p], { (S.p : Pk) with id := ((S.p).id + 1) % 65536 }, 1 + z2, S.k - 1⟩, l9_stp hI (show S.k = S.k - 1 + 1 by omega) hI.sup hI.bd hP2 hI.bd (by omega) (by omega), by show S.k - 1 < S.k; omega, sub_i [(7, some 400), (48, some 48)] (fz ?_) (fz ?_)⟩
          · have hkk : 0 < S.k := by omega
            omega
          · rw [List.map_append]; rfl
      · refine vc_skip ?_
        refine thn ?_
        refine vc_seq' ?_
        refine vc_sr ?_
        iterate 4 refine vo ?_
        refine vnt ?_
        refine vc_if (fun g11 => ?_) (fun g11 => ?_)
        · refine vc_seq' ?_
          refine vc_sv ?_
          refine svo ?_
          refine svo ?_
          refine svp [16, 16, 16, 16, 16, 24, 17, 2] c_pick (fun fl hfl => ?_) 1000001
          refine svo ?_
          refine svo ?_
          refine svo ?_
          refine svnil ?_
          refine thn ?_
          refine vc_sv ?_
          refine svo ?_
          refine svo ?_
          refine sve (c_spec_l01Text (n := S.size)) (fun tx htx => ?_) 1000001
          refine svo ?_
          refine svo ?_
          refine svo ?_
          refine svnil ?_
          refine thn ?_
          refine vc_sr ?_
          iterate 5 refine vo ?_
          refine vnt ?_
          refine vc_sr ?_
          iterate 3 refine vo ?_
          try refine vwr ?_
          refine vo ?_
          try refine veq (Int.tmod_eq_emod_of_nonneg (by omega)) ?_
          iterate 2 refine vo ?_
          refine vnt ?_
          refine vc_seq' ?_
          refine vc_sv ?_
          refine svo ?_
          refine svo ?_
          refine svo ?_
          refine svo ?_
          refine svsp (fun h9 => ?_) (fun h9 => absurd g11 h9)
          refine svo ?_
          refine svon ?_
          refine sven (c_spec_l01Once (n := 8)) (fun o8 ho8 => ?_) 1000001
          refine svon ?_
          refine svo ?_
          refine svnil ?_
          refine thn ?_
          refine vc_if (fun g12 => ?_) (fun g12 => ?_)
          · refine vc_region ?_
            iterate 8 refine vo ?_
            try refine vwr ?_
            refine vo ?_
            try refine veq (Int.tmod_eq_emod_of_nonneg (by omega)) ?_
            iterate 3 refine vo ?_
            refine vnil ?_
            refine inB_n ?_
            refine thn ?_
            refine vc_region ?_
            iterate 2 refine vo ?_
            try refine vwr ?_
            refine vo ?_
            refine vnt ?_
            have htz : tx.size ≤ 40 := by omega
            have hP1 := sup_tcp9 (p := S.p) hI.sup g11 hfl (b := tx) (by omega)
            have hP2 := sup_id9 hP1
            have hP3 := sup_sq9 hP2 g11 (tx.size : Nat)
            refine ⟨⟨S.L ++ [{ S.p with fl := fl, body := tx }], { ({ ({ S.p with fl := fl, body := tx } : Pk) with id := ((S.p).id + 1) % 65536 } : Pk) with seq := ((S.p).seq + (tx.size : Nat)) % 4294967296 }, S.size, S.k - 1⟩, l9_stp hI (show S.k = S.k - 1 + 1 by omega) hP1 htz hP3 htz (by omega) (by omega), by show S.k - 1 < S.k; omega, sub_i [(7, some 400), (48, some 48)] (fz ?_) (fz ?_)⟩
            · have hkk : 0 < S.k := by omega
              omega
            · rw [List.map_append]; rfl
          · refine vc_skip ?_
            refine inB_n ?_
            refine thn ?_
            refine vc_region ?_
            iterate 2 refine vo ?_
            try refine vwr ?_
            refine vo ?_
            refine vnt ?_
            have htz : tx.size ≤ 40 := by omega
            have hP1 := sup_tcp9 (p := S.p) hI.sup g11 hfl (b := tx) (by omega)
            have hP2 := sup_id9 hP1
            refine ⟨⟨S.L ++ [{ S.p with fl := fl, body := tx }], { ({ S.p with fl := fl, body := tx } : Pk) with id := ((S.p).id + 1) % 65536 }, S.size, S.k - 1⟩, l9_stp hI (show S.k = S.k - 1 + 1 by omega) hP1 htz hP2 htz (by omega) (by omega), by show S.k - 1 < S.k; omega, sub_i [(7, some 400), (48, some 48)] (fz ?_) (fz ?_)⟩
            · have hkk : 0 < S.k := by omega
              omega
            · rw [List.map_append]; rfl
        · refine vc_skip ?_
          refine thn ?_
          refine vc_sr ?_
          iterate 5 refine vo ?_
          refine vnt ?_
          refine vc_sr ?_
          iterate 3 refine vo ?_
          try refine vwr ?_
          refine vo ?_
          try refine veq (Int.tmod_eq_emod_of_nonneg (by omega)) ?_
          iterate 2 refine vo ?_
          refine vnt ?_
          refine vc_seq' ?_
          refine vc_sv ?_
          refine svo ?_
          refine svo ?_
          refine svo ?_
          refine svo ?_
          refine svsp (fun h9 => absurd h9 g11) (fun h9 => ?_)
          refine svo ?_
          refine svof ?_
          refine svof ?_
          refine svof ?_
          refine svo ?_
          refine svnil ?_
          refine thn ?_
          refine vc_else ?_
          refine vc_skip ?_
          refine inB_n ?_
          refine thn ?_
          refine vc_region ?_
          iterate 2 refine vo ?_
          try refine vwr ?_
          refine vo ?_
          refine vnt ?_
          have hP2 := sup_id9 hI.sup
          refine ⟨⟨S.L ++ [S.p], { (S.p : Pk) with id := ((S.p).id + 1) % 65536 }, S.size, S.k - 1⟩, l9_stp hI (show S.k = S.k - 1 + 1 by omega) hI.sup hI.bd hP2 hI.bd (by omega) (by omega), by show S.k - 1 < S.k; omega, sub_i [(7, some 400), (48, some 48)] (fz ?_) (fz ?_)⟩
          · have hkk : 0 < S.k := by omega
            omega
          · rw [List.map_append]; rfl
  · refine vc_exit ?_
    refine thn_x ?_
    refine thn_x ?_
    refine inB_x ?_
    refine thn ?_
    refine vc_sr ?_
    iterate 2 refine vo ?_
    refine vnt ?_
    refine vc_ret ?_
    have hlen := hI.len
    have hk0 : S.k = 0 := by omega
    refine fin_g (S.L) (⟨by omega, hI.all⟩) [(1000001, some 1000001), (1000003, some 1000003), (0, some 7)] rfl (fz ?_) (fz ?_) <;> first | trivial | rfl | trace_state
set_option maxHeartbeats 4000000 in
theorem c_spec_l11Key {b : Nat} {v : Value} {code : List UInt8}  : ConC Tryz.prog 26 112 b v code [] (α := ByteArray) (fun x => x.size = 16) (fun x => .one (.v (.string x))) (fun _ => []) := by
  refine conc_i Tryz.func26 Tryz.ntmps26 (fun L => ?_)
  refine vc_nf rfl rfl ?_
  refine vc_sr ?_
  refine vo ?_
  refine vnt ?_
  refine vc_seq' ?_
  refine vc_sv ?_
  refine svo ?_
  refine sve (c_spec_l01Text (n := 16)) (fun x1 hx1 => ?_) 1000001
  refine svo ?_
  refine svnil ?_
  refine thn ?_
  refine vc_ret ?_
  refine fin_g (x1) (by omega) [] rfl (fz ?_) (fz ?_) <;> first | trivial | rfl | trace_state
end Go.Proofs.YtfcmcedeapgdcaaGreat
end
section
namespace Go.Vc
open Go Go.RowKit
set_option linter.unusedVariables false
set_option linter.unusedSectionVars false
end Go.Vc
end
section
namespace Go.Vc
open Go Go.RowKit
set_option linter.unusedVariables false
set_option linter.unusedSectionVars false
set_option linter.unusedSimpArgs false
def strQ (Φ : ByteArray → Prop) : RdP := vQ fun u => ∃ s, Φ s ∧ u = .string s
section
variable {P : Program} [TyEnv P] {n : Nat} {ops os : List Oper} {K : Tm → Hp → Prop} {t t' : Tm} {H H' : Hp} {o : Oper} {k1 k2 : List Nat}
theorem tri_drawS {f : FuncId} {c : Operand} {xs : List Operand} {ats : Array TypeId} {CT : TypeId} {b kc : Nat} {rd : Nat → AV} {v : Value} {code : List UInt8} {us : List Value} {Φ : ByteArray → Prop} (ho : o.op = .call { callee := .value (.func f), args := (c :: xs).toArray, argTypes := ats }) (hc : ConC P f CT b v code us Φ (fun s => .one (.v (.string s))) (fun _ => [])) (hx : evo rd c = .one (.rd (cpQ b v code))) (hy : xs.map (evo rd) = us.map (fun u => .one (.v u))) :
    Tri P o rd [(kc, .own (cuOw CT b v code.length))] (.one (.rd (strQ Φ))) [] := by
  intro w0 w ρ n t H a Q hr ht hrs hfr hd
  refine hr.draw (d := 0) ho hc ?_ ?_ (hrs kc _ (List.mem_cons_self ..)) (fun x k b hb => by cases hb) hd fun x ρ' a' w' hΦ h' => ⟨ρ', ?_⟩
  · rw [evo_of (o := o) (by simp [ho, Op.operands, Call.operands]) ht]; exact hx
  · refine (List.map_congr_left fun y hy' => ?_).trans hy
    exact evo_of (o := o) (by simp [ho, Op.operands, Call.operands]; exact .inr (.inr hy')) ht
  · refine ⟨h'.sz, h'.df, fun k => ?_, h'.hp, h'.nd⟩
    have := h'.tm k
    rw [gt_putT] at this ⊢
    split
    · rename_i e
      rw [if_pos e] at this
      obtain ⟨q1, q2⟩ := this
      exact ⟨⟨x, hΦ, q1⟩, by rw [q1]; rfl⟩
    · rename_i e
      rw [if_neg e] at this
      exact this
theorem vds {dr : Bool} {fp : List Fp} {f : FuncId} {c : Operand} {xs : List Operand} {ats : Array TypeId} {CT : TypeId} {b : Nat} {v : Value} {code : List UInt8} {us : List Value} {Φ : ByteArray → Prop} (hc : ConC P f CT b v code us Φ (fun s => .one (.v (.string s))) (fun _ => [])) (h : Vd P n ops dr K os t' H' ((k1, k2) :: fp)) (kc : Nat) (hd : dstB o.dst n = true := by rfl) (hg : o.guard = none := by rfl) (ho : o.op = .call { callee := .value (.func f), args := (c :: xs).toArray, argTypes := ats } := by rfl) (hx : evo (gt t) c = .one (.rd (cpQ b v code)) := by rfl) (hy : xs.map (evo (gt t)) = us.map (fun u => .one (.v u)) := by rfl) (hk : lk H kc = some (.own (cuOw CT b v code.length)) := by rfl)
    (ht : stF o.dst (.one (.rd (strQ Φ))) [] [(kc, .own (cuOw CT b v code.length))] t H = some (t', H', k1, k2) := by rfl) : Vd P n ops dr K (o :: os) t H fp :=
  vd_plain hd hg (goodr (tri_drawS ho hc hx hy) hk) ht h
theorem vc_es {K : Post} {c : Code} {d : Nat} {Φ : ByteArray → Prop} (h : ∀ s, Φ s → VC P n c K ((d, .one (.v (.string s))) :: t) H) (hx : gt t d = .one (.rd (strQ Φ)) := by rfl) : VC P n c K t H := fun w0 w ρ a hr => by
  have h1 := hr.tm d
  rw [hx] at h1
  obtain ⟨⟨s, hs, hu⟩, _⟩ := h1
  refine h s hs w0 w ρ a ⟨hr.sz, hr.df, fun k => ?_, hr.hp, hr.nd⟩
  simp only [gt]
  split
  · rename_i e; subst e; exact ⟨hu, rfl⟩
  · exact hr.tm k
end
def exOw {α : Type} (E : TypeId) (sz : Nat) (Φ : α → Prop) (g : α → List (List Value)) : OwP where
  A u := { P := fun w F => ∃ x, Φ x ∧ (∀ e ∈ g x, e.length = sz ∧ e.all (·.oneCell') = true) ∧ (slotA E sz u (g x).length (g x).flatten).P w F
           stable := fun ⟨x, h1, h2, h3⟩ hs => ⟨x, h1, h2, (slotA E sz u (g x).length (g x).flatten).stable h3 hs⟩
           lt := fun ⟨x, h1, h2, h3⟩ => (slotA E sz u (g x).length (g x).flatten).lt h3 }
  Q := vQ fun _ => True
  rd := by
    rintro w F u ⟨x, h1, h2, h3⟩
    obtain ⟨_, ⟨rfl, _⟩ | ⟨b, off, cap, cur, rfl, _⟩⟩ := h3.1 <;> exact ⟨trivial, rfl⟩
section
variable {P : Program} [TyEnv P] {n : Nat} {t : Tm} {H : Hp}
theorem vc_eo {α : Type} {K : Post} {c : Code} {k : Nat} {E : TypeId} {sz : Nat} {Φ : α → Prop} {g : α → List (List Value)} (h : ∀ x, Φ x → VC P n c K t (updH H [(k, .arr E sz (g x))])) (hk : lk H k = some (.own (exOw E sz Φ g)) := by rfl) : VC P n c K t H := fun w0 w ρ a hr => by
  obtain ⟨Bs, b1, b2⟩ := hr.hp
  have p1 : H.Perm ((k, .own (exOw E sz Φ g)) :: offK k H) := by have := upd1_perm (.own (exOw E sz Φ g)) hr.nd hk; rwa [upd1_same hk] at this
  obtain ⟨Ds, d1, d2⟩ := F2.perm p1 b1
  cases d2 with
  | @cons _ X _ Es x1 x2 =>
    have hX : X = (exOw E sz Φ g).A (ρ k) := x1
    subst hX
    have s1 : St w0 w ((exOw E sz Φ g).A (ρ k) :: Es) := St.perm b2 d1
    obtain ⟨hx0, F, ⟨F1, F2', ⟨x, hΦ, hes, hp⟩, f2, f3, f4⟩, f5⟩ := s1
    have s2 : St w0 w (slotA E sz (ρ k) (g x).length (g x).flatten :: Es) := ⟨hx0, F, ⟨F1, F2', hp, f2, f3, f4⟩, f5⟩
    have hD : ∀ j, dom H j → dom (upd1 k (.arr E sz (g x)) H) j ∧ ρ j = ρ j := fun j hj => ⟨dom_upd1.2 (.inr hj), rfl⟩
    have p2 := upd1_perm (.arr E sz (g x)) hr.nd hk
    have hmem : ∀ y : Nat × Blk, y ∈ offK k H → dom H y.1 := fun y hy => by
      have hy' : y ∈ H := (List.mem_filter.1 hy).1
      exact dom_mem.2 (List.mem_map_of_mem (f := fun z : Nat × Blk => z.1) hy')
    have F3 : F2 (BR w0 (dom (upd1 k (.arr E sz (g x)) H)) ρ) ((k, .arr E sz (g x)) :: offK k H) (slotA E sz (ρ k) (g x).length (g x).flatten :: Es) := .cons ⟨hes, rfl⟩ (x2.mono fun y _ hy r => BR.ext hD (hmem y hy) r)
    obtain ⟨Cs, c2, c1⟩ := F2.perm p2.symm F3
    exact h x hΦ w0 w ρ a ⟨hr.sz, hr.df, fun i => (hr.tm i).ext hD, ⟨Cs, c1, St.perm s2 c2⟩, nd_upd1 _ _ hr.nd⟩
end
end Go.Vc
end
section
namespace Go.Vc
open Go Go.RowKit
set_option linter.unusedVariables false
set_option linter.unusedSectionVars false
set_option linter.unusedSimpArgs false
def paOw (v0 : Value) (E : TypeId) (sz : Nat) (es : List (List Value)) : OwP where
  A u := { P := fun w F => u = v0 ∧ (∀ e ∈ es, e.length = sz ∧ e.all (·.oneCell') = true) ∧ (slotA E sz v0 es.length es.flatten).P w F
           stable := fun ⟨h1, h2, h3⟩ hs => ⟨h1, h2, (slotA E sz v0 es.length es.flatten).stable h3 hs⟩
           lt := fun ⟨h1, h2, h3⟩ => (slotA E sz v0 es.length es.flatten).lt h3 }
  Q := vQ fun _ => True
  rd := by
    rintro w F u ⟨rfl, h2, h3⟩
    obtain ⟨_, ⟨rfl, _⟩ | ⟨b, off, cap, cur, rfl, _⟩⟩ := h3.1 <;> exact ⟨trivial, rfl⟩
section
variable {P : Program} [TyEnv P] {o : Oper} {rd : Nat → AV} {T e : TypeId} {i ei : TyI} {x y : Operand} {k : Nat} {v0 : Value} {E : TypeId} {sz : Nat} {es : List (List Value)}
theorem pa_focus {w0 w : World} {ρ : Nat → Value} {n : Nat} {t : Tm} {H : Hp} {a : Act} (hr : Rel w0 w ρ n t H a) (hk : lk H k = some (.own (paOw v0 E sz es))) : ∃ Js, (∀ e ∈ es, e.length = sz ∧ e.all (·.oneCell') = true) ∧ St w0 w (slotA E sz (ρ k) es.length es.flatten :: Js) := by
  obtain ⟨A, Js, hA, h2, _⟩ := hr.focus hk
  have hA' : A = (paOw v0 E sz es).A (ρ k) := hA
  subst hA'
  obtain ⟨F, hF⟩ := h2.head
  refine ⟨Js, hF.2.1, h2.same fun F hF => ⟨F, ?_, fun _ h => h⟩⟩
  obtain ⟨h1, _, h3⟩ := hF
  rw [h1]; exact h3
theorem tri_lenPA (ho : o.op = .call { callee := .builtin .len, args := #[x], argTypes := #[T] }) (hi : TyEnv.ti P T = some i) (hk : i.k = .slice e) (hx : evo rd x = .one (.hs k)) : Tri P o rd [(k, .own (paOw v0 E sz es))] (.one (.v (.int .i64 es.length))) [] := by
  intro w0 w ρ n t H a Q hr ht hrs hfr hd
  obtain ⟨Js, hes, h2⟩ := pa_focus hr (hrs k _ (List.mem_cons_self ..))
  have hx' := hr.ev x
  rw [evo_of (by simp [ho, Op.operands, Call.operands]) ht, hx] at hx'
  obtain ⟨hD, hx', _⟩ := hx'
  obtain ⟨B, c, g1, _⟩ : RB w (.sl sz es) (ρ k) := slot_RB (h2.slot .head) hes
  have hu := ty_slice hi hk
  have hrun := run_len_slice (P := P) w T o.type B es.length c (by rw [elem_of hu]; exact hu)
  unfold Oper.wp
  rw [show (execOp a.eval o).run P w = .ok (.value (.int .i64 es.length)) w by simp [execOp, ho, resolve, invoke, builtin, hx', g1, hrun, goInt]]
  exact ⟨ρ, hr.put (v := .one (.v (.int .i64 es.length))) (ar_v rfl) hd⟩
theorem tri_ixPA {n : Int} (ho : o.op = .indexAddr T x y) (hi : TyEnv.ti P T = some i) (hk : i.k = .slice e) (he : TyEnv.ti P e = some ei) (hsz : sz = ei.size) (hx : evo rd x = .one (.hs k)) (hy : evo rd y = .one (.v (.int .i64 n))) (h0 : 0 ≤ n ∧ n < es.length) : Tri P o rd [(k, .own (paOw v0 E sz es))] (.one (.ptr k n.toNat sz 0)) [] := by
  intro w0 w ρ m t H a Q hr ht hrs hfr hd
  obtain ⟨Js, hes, h2⟩ := pa_focus hr (hrs k _ (List.mem_cons_self ..))
  have hx' := hr.ev x
  rw [evo_of (by simp [ho, Op.operands]) ht, hx] at hx'
  obtain ⟨hD, hx', _⟩ := hx'
  have hy' := hr.ev y
  rw [evo_of (by simp [ho, Op.operands]) ht, hy] at hy'
  obtain ⟨A, c, g1, _, _, hc⟩ : RB w (.sl sz es) (ρ k) := slot_RB (h2.slot .head) hes
  obtain ⟨b, off, rfl, _⟩ := hc.2 (fun h => by subst h; simp at h0; omega)
  have hu := ty_slice hi hk
  have := run_indexAt_slice (P := P) w T ⟨b, off, none⟩ es.length c .i64 n (by rw [elem_of hu]; exact hu)
  rw [if_pos h0, elem_of hu, size_run he] at this
  simp only [Result.andThen_ok, add_plain] at this
  unfold Oper.wp
  rw [show (execOp a.eval o).run P w = .ok (.value (.pointer (some ⟨b, off + n.toNat * ei.size, none⟩))) w by simp only [execOp, ho, hx', g1, AR.int hy', Sem.run_bind, this, Result.andThen_ok, Sem.run_pure]]
  exact ⟨ρ, hr.put (v := .one (.ptr k n.toNat sz 0)) ⟨hD, b, off, by rw [g1]; rfl, by rw [hsz, Nat.add_zero]⟩ hd⟩
theorem tri_ldPA {j f : Nat} {e : List Value} {v : AV} (ho : o.op = .load T x) (hi : TyEnv.ti P T = some i) (hx : evo rd x = .one (.ptr k j sz f)) (he : es[j]? = some e) (hv : mkv i ((e.drop f).map .v) = some v) : Tri P o rd [(k, .own (paOw v0 E sz es))] v [] := by
  intro w0 w ρ n t H a Q hr ht hrs hfr hd
  obtain ⟨Js, hes, h2⟩ := pa_focus hr (hrs k _ (List.mem_cons_self ..))
  have hx' := hr.ev x
  rw [evo_of (o := o) (by rw [ho]; simp [Op.operands]) ht, hx] at hx'
  obtain ⟨_, b, off, e1, hx'⟩ := hx'
  have hj := (List.getElem?_eq_some_iff.1 he).1
  obtain ⟨b', off', cap, hv', hc⟩ := slot_cells (h2.slot .head) (by omega)
  rw [hv'] at e1
  simp only [base, Option.some.injEq, Prod.mk.injEq] at e1
  obtain ⟨rfl, rfl⟩ := e1
  obtain ⟨hl, h1⟩ := hes e (List.mem_of_getElem? he)
  have hm := mkv_R (w0 := w0) (D := dom H) (ρ := ρ) hv (F2.plain (all_drop h1 f))
  refine wp_loadX ho hi hx' (us := e.drop f) (fun m v hm => ?_) hm fun u hu => ⟨ρ, hr.put hu hd⟩
  rw [List.getElem?_drop] at hm
  have hlt := (List.getElem?_eq_some_iff.1 hm).1
  have hjj := Nat.mul_le_mul_right sz (show j + 1 ≤ es.length from hj)
  rw [Nat.succ_mul] at hjj
  rw [Nat.add_assoc, Nat.add_assoc, (hc (j * sz + (f + m)) (by omega)).1, flat_at hes he (by omega)]
  exact hm
end
end Go.Vc
end
section
namespace Go.Vc
open Go Go.RowKit
set_option linter.unusedVariables false
set_option linter.unusedSectionVars false
set_option linter.unusedSimpArgs false
section
variable {P : Program} [TyEnv P] {n : Nat} {ops os : List Oper} {K : Tm → Hp → Prop} {t t' : Tm} {H H' : Hp} {o : Oper} {k1 k2 : List Nat} {dr : Bool} {fp : List Fp} {T e : TypeId} {i ei : TyI} {x y : Operand} {k : Nat} {v0 : Value} {E : TypeId} {sz : Nat} {α : Type} [Inhabited α] {xs : List α} {g : α → List Value} {m : Int}
theorem vkl (h : Vd P n ops dr K os t' H' ((k1, k2) :: fp)) (hd : dstB o.dst n = true := by rfl) (hg : o.guard = none := by rfl) (ho : o.op = .call { callee := .builtin .len, args := #[x], argTypes := #[T] } := by rfl) (hi : TyEnv.ti P T = some i := by rfl) (hk : i.k = .slice e := by rfl) (hx : evo (gt t) x = .one (.hs k) := by rfl) (hj : lk H k = some (.own (paOw v0 E sz (xs.map g))) := by rfl)
    (ht : stF o.dst (.one (.v (.int .i64 (xs.length : Int)))) [] [(k, .own (paOw v0 E sz (xs.map g)))] t H = some (t', H', k1, k2) := by rfl) : Vd P n ops dr K (o :: os) t H fp := vd_plain hd hg (goodr (by have := tri_lenPA (v0 := v0) (E := E) (sz := sz) (es := xs.map g) ho hi hk hx; rwa [List.length_map] at this) hj) ht h
theorem vkx (h : Vd P n ops dr K os t' H' ((k1, k2) :: fp)) (hd : dstB o.dst n = true := by rfl) (hg : o.guard = none := by rfl) (ho : o.op = .indexAddr T x y := by rfl) (hi : TyEnv.ti P T = some i := by rfl) (hk : i.k = .slice e := by rfl) (he : TyEnv.ti P e = some ei := by rfl) (hz : sz = ei.size := by rfl) (hx : evo (gt t) x = .one (.hs k) := by rfl) (hy : evo (gt t) y = .one (.v (.int .i64 m)) := by rfl) (hj : lk H k = some (.own (paOw v0 E sz (xs.map g))) := by rfl)
    (ht : stF o.dst (.one (.ptr k m.toNat sz 0)) [] [(k, .own (paOw v0 E sz (xs.map g)))] t H = some (t', H', k1, k2) := by rfl) (hs : 0 ≤ m ∧ m < xs.length := by omega) : Vd P n ops dr K (o :: os) t H fp := vd_plain hd hg (goodr (tri_ixPA ho hi hk he hz hx hy (by rw [List.length_map]; exact hs)) hj) ht h
theorem vkd {j f : Nat} {v : AV} (h : Vd P n ops dr K os t' H' ((k1, k2) :: fp)) (hd : dstB o.dst n = true := by rfl) (hg : o.guard = none := by rfl) (ho : o.op = .load T x := by rfl) (hi : TyEnv.ti P T = some i := by rfl) (hx : evo (gt t) x = .one (.ptr k j sz f) := by rfl) (hj : lk H k = some (.own (paOw v0 E sz (xs.map g))) := by rfl) (hv : mkv i (((g (at' xs j)).drop f).map .v) = some v := by rfl)
    (ht : stF o.dst v [] [(k, .own (paOw v0 E sz (xs.map g)))] t H = some (t', H', k1, k2) := by rfl) (hs : j < xs.length := by omega) : Vd P n ops dr K (o :: os) t H fp := vd_plain hd hg (goodr (tri_ldPA ho hi hx (by rw [List.getElem?_map, List.getElem?_eq_getElem hs]; unfold at'; rw [List.getElem?_eq_getElem hs]; rfl) hv) hj) ht h
end
def ConD (P : Program) (f : FuncId) (CT : TypeId) (b : Nat) (v : Value) (code : List UInt8) (E : TypeId) (sz : Nat) (es : List (List Value)) {α : Type} (Φ : α → Prop) (res : α → AV) (Hr : α → Hp) : Prop :=
  FnOk P f ∧ ∀ (w0 w : World) (u : Value) (Js : List Asn), St w0 w (curA CT b v code.length :: slotA E sz u es.length es.flatten :: Js) → (∀ e ∈ es, e.length = sz ∧ e.all (·.oneCell') = true) → u.oneCell' = true → Holds w0 code [v] → ∀ base : Nat, Calls P f [.pointer (some ⟨b, 0, none⟩), u].toArray w fun e w' => ∃ x, Φ x ∧ After w0 base (res x) (Hr x) [curA CT b v code.length, slotA E sz u es.length es.flatten] Js e w'
theorem cond_i {P : Program} [TyEnv P] {f : FuncId} {fn : Func} {c : Code} {n : Nat} {rs : List ResultVar} {α : Type} {Φ : α → Prop} {res : α → AV} {Hr : α → Hp} {v : Value} {code : List UInt8} {CT : TypeId} {b : Nat} {E : TypeId} {sz : Nat} {es : List (List Value)} (hf : P.funcs[f]? = some fn) (hn : fn.ntmps = n) (h : ∀ (L : List Asn) (u : Value), VC P n c (FinG P rs [(1000001, .own (cuOw CT b v code.length)), (1000005, .own (paOw u E sz es)), (1000003, .own (frOw L))] Φ res Hr) [(0, .one (.rd (cpQ b v code))), (1, .one (.hs 1000005))] [(1000001, .own (cuOw CT b v code.length)), (1000005, .own (paOw u E sz es)), (1000003, .own (frOw L))]) (hb : fn.body = some c := by rfl) (hnm : (fn.name == "runtime.NumGoroutine") = false := by kernel_rfl) (hrs : fn.results = rs.toArray := by rfl) (hargs : Nat.ble 2 n = true := by rfl) : ConD P f CT b v code E sz es Φ res Hr := by
  refine ⟨⟨fn, hf, hnm, by rw [hb]; rfl⟩, fun w0 w u Js hs hes hu hh base => ?_⟩
  refine calls_of_wp hf hb ?_
  rw [hn]
  have hn1 := Nat.le_of_ble_eq_true hargs
  have hrel : Rel w0 w (fun k => if k = 1000003 then .bool true else if k = 1000005 then u else .pointer (some ⟨b, 0, none⟩)) n [(0, .one (.rd (cpQ b v code))), (1, .one (.hs 1000005))] [(1000001, .own (cuOw CT b v code.length)), (1000005, .own (paOw u E sz es)), (1000003, .own (frOw Js))] { tmps := [.pointer (some ⟨b, 0, none⟩), u].toArray ++ Array.replicate (n - [Value.pointer (some ⟨b, 0, none⟩), u].toArray.size) undef, defers := [] } := by
    refine ⟨by simp; omega, rfl, fun k => ?_, ⟨[(cuOw CT b v code.length).A (.pointer (some ⟨b, 0, none⟩)), (paOw u E sz es).A u, (frOw Js).A (.bool true)], .cons rfl (.cons rfl (.cons rfl .nil)), ?_⟩, by simp⟩
    · simp only [gt]
      split
      · rename_i e; subst e
        have e0 : ([.pointer (some ⟨b, 0, none⟩), u].toArray ++ Array.replicate (n - [Value.pointer (some ⟨b, 0, none⟩), u].toArray.size) undef).getD 0 undef = .pointer (some ⟨b, 0, none⟩) := by
          rw [Array.getD_eq_getD_getElem?, Array.getElem?_append_left (by simp)]; simp
        simp only [e0]
        exact ⟨rfl, hh⟩
      · split
        · rename_i e; subst e
          have e0 : ([.pointer (some ⟨b, 0, none⟩), u].toArray ++ Array.replicate (n - [Value.pointer (some ⟨b, 0, none⟩), u].toArray.size) undef).getD 1 undef = u := by
            rw [Array.getD_eq_getD_getElem?, Array.getElem?_append_left (by simp)]; simp
          simp only [e0]
          exact ⟨dom_mem.2 (by simp), rfl, hu⟩
        · trivial
    · have h1 : St w0 w ((cuOw CT b v code.length).A (.pointer (some ⟨b, 0, none⟩)) :: slotA E sz u es.length es.flatten :: Js) := hs.same fun F hF => ⟨F, ⟨rfl, hF⟩, fun _ h => h⟩
      have h2 : St w0 w ((paOw u E sz es).A u :: (cuOw CT b v code.length).A (.pointer (some ⟨b, 0, none⟩)) :: Js) := (St.perm h1 (.swap ..)).same fun F hF => ⟨F, ⟨rfl, hes, hF⟩, fun _ h => h⟩
      have h3 : St w0 w (Js ++ [(cuOw CT b v code.length).A (.pointer (some ⟨b, 0, none⟩)), (paOw u E sz es).A u]) := St.perm (St.perm h2 (.swap ..)) (List.perm_append_comm (l₁ := [(cuOw CT b v code.length).A (.pointer (some ⟨b, 0, none⟩)), (paOw u E sz es).A u]) (l₂ := Js))
      have h4 : St w0 w ((frOw Js).A (.bool true) :: [(cuOw CT b v code.length).A (.pointer (some ⟨b, 0, none⟩)), (paOw u E sz es).A u]) := (St.joinL (L := Js) h3).same fun F hF => ⟨F, ⟨rfl, hF⟩, fun _ h => h⟩
      exact St.perm h4 (List.perm_append_comm (l₁ := [(frOw Js).A (.bool true)]))
  refine Code.wp_mono (fun e a w' hq => ?_) (h Js u w0 w _ _ hrel)
  obtain ⟨hdf, he, us', g2, x, hΦ, hA⟩ := fin_after (Is := [curA CT b v code.length, slotA E sz u es.length es.flatten]) (Js := Js) (base := base) hrs hq (fun ρ As hF Zs hst => by
    cases hF with
    | cons q1 q2 =>
      cases q2 with
      | cons q2 q3 =>
        cases q3 with
        | cons q3 q4 =>
          cases q4
          have q1' : _ = (cuOw CT b v code.length).A (ρ 1000001) := q1
          have q2' : _ = (paOw u E sz es).A (ρ 1000005) := q2
          have q3' : _ = (frOw Js).A (ρ 1000003) := q3
          subst q1' q2' q3'
          have h2 : St w0 w' (curA CT b v code.length :: ((paOw u E sz es).A (ρ 1000005) :: ((frOw Js).A (ρ 1000003) :: Zs))) := hst.same fun F hF => ⟨F, hF.2, fun _ h => h⟩
          have h3 : St w0 w' (slotA E sz u es.length es.flatten :: (curA CT b v code.length :: ((frOw Js).A (ρ 1000003) :: Zs))) := (St.perm h2 (.swap ..)).same fun F hF => ⟨F, hF.2.2, fun _ h => h⟩
          have h4 : St w0 w' ((frOw Js).A (ρ 1000003) :: (Zs ++ [curA CT b v code.length, slotA E sz u es.length es.flatten])) := St.perm (St.perm h3 (.swap ..)) (List.perm_append_comm (l₁ := [curA CT b v code.length, slotA E sz u es.length es.flatten]) (l₂ := (frOw Js).A (ρ 1000003) :: Zs))
          have h5 : St w0 w' (joinA Js :: (Zs ++ [curA CT b v code.length, slotA E sz u es.length es.flatten])) := h4.same fun F hF => ⟨F, hF.2, fun _ h => h⟩
          refine St.perm h5.unjoin ?_
          refine List.perm_append_comm.trans ?_
          rw [List.append_assoc]
          refine (List.perm_append_comm (l₁ := Zs)).trans ?_
          rw [List.append_assoc]
          exact List.Perm.append_left _ List.perm_append_comm) rfl
  have hrun := g2.run hrs
  rcases he with rfl | rfl
  · exact ⟨hdf, _, hrun, x, hΦ, hA⟩
  · exact ⟨hdf, _, hrun, x, hΦ, hA⟩
end Go.Vc
end
section
namespace Go.Vc
open Go Go.RowKit
set_option linter.unusedVariables false
set_option linter.unusedSectionVars false
set_option linter.unusedSimpArgs false
section
variable {P : Program} [TyEnv P] {w0 w w' : World} {ρ ρ' : Nat → Value} {n : Nat} {t : Tm} {H : Hp} {a : Act}
theorem Rel.drawD {o : Oper} {f : FuncId} {c y : Operand} {ats : Array TypeId} {CT E : TypeId} {sz : Nat} {es : List (List Value)} {b kc m d : Nat} {v : Value} {code : List UInt8} {α : Type} {Φ : α → Prop} {res : α → AV} {Hr : α → Hp} {Q : Exit → Act → World → Prop} {K : Act → World → Prop}
    (hr : Rel w0 w ρ n t H a) (ho : o.op = .call { callee := .value (.func f), args := #[c, y], argTypes := ats }) (hc : ConD P f CT b v code E sz es Φ res Hr) (hx : evo (gt t) c = .one (.rd (cpQ b v code))) (hy : evo (gt t) y = .one (.hs m)) (hk : lk H kc = some (.own (cuOw CT b v code.length))) (hm : lk H m = some (.arr E sz es)) (hkm : kc ≠ m)
    (hfr : ∀ x k b, (k, b) ∈ shH d (Hr x) → lk H k = none) (hd : ∀ d, o.dst = some d → d < n)
    (h : ∀ x ρ' a' w', Φ x → Rel w0 w' ρ' n (putT t o.dst (shA d (res x))) (updH H (shH d (Hr x))) a' → K a' w') : o.wp P a w K Q := by
  obtain ⟨Bs, b1, b2⟩ := hr.hp
  have p1 : H.Perm ((kc, .own (cuOw CT b v code.length)) :: offK kc H) := by have := upd1_perm (.own (cuOw CT b v code.length)) hr.nd hk; rwa [upd1_same hk] at this
  have hm1 : lk (offK kc H) m = some (.arr E sz es) := by rw [lk_offK (fun e => hkm e.symm)]; exact hm
  have p2 : (offK kc H).Perm ((m, .arr E sz es) :: offK m (offK kc H)) := by have := upd1_perm (.arr E sz es) (nd_offK (k := kc) hr.nd) hm1; rwa [upd1_same hm1] at this
  have p3 := p1.trans (p2.cons _)
  obtain ⟨Ds, d1, d2⟩ := F2.perm p3 b1
  cases d2 with
  | @cons _ X _ Es' x1 x2 =>
    cases x2 with
    | @cons _ Y _ Es x2 x3 =>
      have hX : X = (cuOw CT b v code.length).A (ρ kc) := x1
      subst hX
      obtain ⟨hes, rfl⟩ := x2
      have s1 : St w0 w ((cuOw CT b v code.length).A (ρ kc) :: slotA E sz (ρ m) es.length es.flatten :: Es) := St.perm b2 d1
      obtain ⟨F, hF⟩ := s1.head
      have hρ := hF.1
      have hcur : St w0 w (curA CT b v code.length :: slotA E sz (ρ m) es.length es.flatten :: Es) := s1.same fun F hF => ⟨F, hF.2, fun _ h => h⟩
      have hp := hr.ev c
      rw [hx] at hp
      obtain ⟨hp, hh⟩ := hp
      have hq := hr.ev y
      rw [hy] at hq
      obtain ⟨_, hq, hone⟩ := hq
      rw [hq] at hone
      obtain ⟨hfn, hcall⟩ := hc
      unfold Oper.wp
      rw [run_enter ho hfn, Oper.upon_enter]
      have e2 : #[c, y].map a.eval = [.pointer (some ⟨b, 0, none⟩), ρ m].toArray := by simp [hp, hq]
      rw [e2]
      refine (hcall w0 w (ρ m) Es hcur hes hone hh d).mono fun e w' hq2 => ?_
      obtain ⟨x, hΦ, u, ρ', rfl, g1, g2, As, g3, g4⟩ := hq2
      have hback : St w0 w' ((cuOw CT b v code.length).A (ρ kc) :: slotA E sz (ρ m) es.length es.flatten :: (As ++ Es)) := g4.same fun F hF => ⟨F, ⟨hρ, hF⟩, fun _ h => h⟩
      let ρ2 : Nat → Value := fun k => if k ∈ (shH d (Hr x)).map (·.1) then ρ' k else ρ k
      have e := upd_new (shH d (Hr x)) H (hfr x) g2
      have hnot : ∀ k, dom H k → k ∉ (shH d (Hr x)).map (·.1) := fun k hk hm => by
        obtain ⟨⟨k', b⟩, hb, rfl⟩ := List.mem_map.1 hm
        exact lk_nd (hfr x _ _ hb) hk
      have hD1 : ∀ k, dom H k → dom (updH H (shH d (Hr x))) k ∧ ρ2 k = ρ k := fun k hk => ⟨by rw [dom_mem, e, List.map_append]; exact List.mem_append_left _ (dom_mem.1 hk), if_neg (hnot k hk)⟩
      have hD2 : ∀ k, dom (shH d (Hr x)) k → dom (updH H (shH d (Hr x))) k ∧ ρ2 k = ρ' k := fun k hk => ⟨by rw [dom_mem, e, List.map_append]; exact List.mem_append_right _ (dom_mem.1 hk), if_pos (dom_mem.1 hk)⟩
      have c1 : F2 (BR w0 (dom (updH H (shH d (Hr x)))) ρ2) ((kc, .own (cuOw CT b v code.length)) :: (m, .arr E sz es) :: offK m (offK kc H)) ((cuOw CT b v code.length).A (ρ kc) :: slotA E sz (ρ m) es.length es.flatten :: Es) :=
        (F2.cons (show BR w0 (dom H) ρ (kc, .own (cuOw CT b v code.length)) _ from rfl) (F2.cons (show BR w0 (dom H) ρ (m, .arr E sz es) _ from ⟨hes, rfl⟩) x3)).mono fun y _ hy r => BR.ext hD1 (dom_mem.2 (by
          have := p3.symm.subset hy
          exact List.mem_map_of_mem (f := fun z : Nat × Blk => z.1) this)) r
      obtain ⟨Cs, c2, c3⟩ := F2.perm p3.symm c1
      have a2 : F2 (BR w0 (dom (updH H (shH d (Hr x)))) ρ2) (shH d (Hr x)) As := g3.mono fun y _ hy r => BR.ext hD2 (dom_mem.2 (List.mem_map_of_mem (f := fun z : Nat × Blk => z.1) hy)) r
      have hR : Rel w0 w' ρ2 n t (updH H (shH d (Hr x))) a := by
        refine ⟨hr.sz, hr.df, fun k => (hr.tm k).ext hD1, ⟨Cs ++ As, ?_, ?_⟩, ?_⟩
        · have a3 := F2.app c3 a2
          rw [e] at a3 ⊢
          exact a3
        · refine St.perm hback ?_
          exact (((List.perm_append_comm (l₁ := As) (l₂ := Es)).cons _).cons _).trans (c2.append_right As)
        · rw [e, List.map_append, List.nodup_append]
          exact ⟨hr.nd, g2, fun a ha b hb e => hnot a (dom_mem.2 ha) (e ▸ hb)⟩
      exact h x ρ2 _ w' hΦ (hR.put (g1.ext hD2) hd)
theorem Rel.toEx {α : Type} {E : TypeId} {sz k : Nat} {Φ : α → Prop} {g : α → List (List Value)} {x : α} (h : Rel w0 w ρ n t (upd1 k (.arr E sz (g x)) H) a) (hk : lk H k = none) (hΦ : Φ x) : Rel w0 w ρ n t (upd1 k (.own (exOw E sz Φ g)) H) a := by
  have hn := h.nd
  rw [upd1_new _ hk] at h hn ⊢
  obtain ⟨Bs, q1, q2⟩ := h.hp
  obtain ⟨Ds, d1, d2⟩ := F2.perm (List.perm_append_singleton (k, Blk.arr E sz (g x)) H) q1
  cases d2 with
  | @cons _ X _ Es x1 x2 =>
    obtain ⟨hes, rfl⟩ := x1
    have hD : ∀ j, dom (H ++ [(k, .arr E sz (g x))]) j → dom (H ++ [(k, .own (exOw E sz Φ g))]) j ∧ ρ j = ρ j := fun j hj => ⟨by rw [dom_mem] at *; simpa using hj, rfl⟩
    have s1 : St w0 w (slotA E sz (ρ k) (g x).length (g x).flatten :: Es) := St.perm q2 d1
    have s2 : St w0 w ((exOw E sz Φ g).A (ρ k) :: Es) := s1.same fun F hF => ⟨F, ⟨x, hΦ, hes, hF⟩, fun _ h => h⟩
    have F3 : F2 (BR w0 (dom (H ++ [(k, .own (exOw E sz Φ g))])) ρ) ((k, .own (exOw E sz Φ g)) :: H) ((exOw E sz Φ g).A (ρ k) :: Es) := .cons rfl (x2.mono fun y _ hy r => BR.ext hD (dom_mem.2 (by rw [List.map_append]; exact List.mem_append_left _ (List.mem_map_of_mem (f := fun z : Nat × Blk => z.1) hy))) r)
    obtain ⟨Cs, c2, c1⟩ := F2.perm (List.perm_append_singleton (k, Blk.own (exOw E sz Φ g)) H).symm F3
    exact ⟨h.sz, h.df, fun i => (h.tm i).ext hD, ⟨Cs, c1, St.perm s2 c2⟩, by simpa using hn⟩
theorem tri_drawE {o : Oper} {f : FuncId} {c y : Operand} {ats : Array TypeId} {CT E E2 : TypeId} {sz sz2 : Nat} {es : List (List Value)} {b kc m d : Nat} {rd : Nat → AV} {v : Value} {code : List UInt8} {α : Type} {Φ : α → Prop} {g : α → List (List Value)} (ho : o.op = .call { callee := .value (.func f), args := #[c, y], argTypes := ats }) (hc : ConD P f CT b v code E sz es Φ (fun _ => .one (.hs 0)) (fun x => [(0, .arr E2 sz2 (g x))])) (hx : evo rd c = .one (.rd (cpQ b v code))) (hy : evo rd y = .one (.hs m)) (hkm : kc ≠ m) (h1 : 8 * d ≠ kc) (h2 : 8 * d ≠ m) :
    Tri P o rd [(kc, .own (cuOw CT b v code.length)), (m, .arr E sz es)] (.one (.hs (8 * d))) [(8 * d, .own (exOw E2 sz2 Φ g))] := by
  intro w0 w ρ n t H a Q hr ht hrs hfr hd
  have hnk : lk H (8 * d) = none := by
    rcases hfr (8 * d) _ (List.mem_cons_self ..) with ⟨b', hb⟩ | h
    · simp only [List.mem_cons, Prod.mk.injEq, List.not_mem_nil, or_false] at hb
      rcases hb with ⟨e, _⟩ | ⟨e, _⟩
      · exact (h1 e).elim
      · exact (h2 e).elim
    · exact h
  refine hr.drawD (d := 8 * d) ho hc ?_ ?_ (hrs kc _ (List.mem_cons_self ..)) (hrs m _ (List.mem_cons_of_mem _ (List.mem_cons_self ..))) hkm (fun x k b hb => ?_) hd fun x ρ' a' w' hΦ h' => ⟨ρ', ?_⟩
  · rw [evo_of (o := o) (by simp [ho, Op.operands, Call.operands]) ht]; exact hx
  · rw [evo_of (o := o) (by simp [ho, Op.operands, Call.operands]) ht]; exact hy
  · have hb' : (k, b) ∈ [(8 * d, Blk.arr E2 sz2 (g x))] := hb
    simp only [List.mem_singleton, Prod.mk.injEq] at hb'
    rw [hb'.1]; exact hnk
  · have h' : Rel w0 w' ρ' n (putT t o.dst (.one (.hs (8 * d)))) (upd1 (8 * d) (.arr E2 sz2 (g x)) H) a' := h'
    exact h'.toEx hnk hΦ
end
section
variable {P : Program} [TyEnv P] {n : Nat} {ops os : List Oper} {K : Tm → Hp → Prop} {t t' : Tm} {H H' : Hp} {o : Oper} {k1 k2 : List Nat}
theorem vdd {dr : Bool} {fp : List Fp} {f : FuncId} {c y : Operand} {ats : Array TypeId} {CT E E2 : TypeId} {sz sz2 : Nat} {es : List (List Value)} {b m d : Nat} {v : Value} {code : List UInt8} {α : Type} {Φ : α → Prop} {g : α → List (List Value)} (hc : ConD P f CT b v code E sz es Φ (fun _ => .one (.hs 0)) (fun x => [(0, .arr E2 sz2 (g x))])) (h : Vd P n ops dr K os t' H' ((k1, k2) :: fp)) (kc : Nat) (hd : dstB o.dst n = true := by rfl) (hg : o.guard = none := by rfl) (ho : o.op = .call { callee := .value (.func f), args := #[c, y], argTypes := ats } := by rfl) (hx : evo (gt t) c = .one (.rd (cpQ b v code)) := by rfl) (hy : evo (gt t) y = .one (.hs m) := by rfl) (hk : lk H kc = some (.own (cuOw CT b v code.length)) := by rfl) (hm : lk H m = some (.arr E sz es) := by rfl) (hkm : Nat.beq kc m = false := by rfl) (hdd : o.dst = some d := by rfl) (hn1 : Nat.beq (8 * d) kc = false := by rfl) (hn2 : Nat.beq (8 * d) m = false := by rfl) (hnk : lk H (8 * d) = none := by rfl)
    (ht : stF o.dst (.one (.hs (8 * d))) [(8 * d, .own (exOw E2 sz2 Φ g))] [(kc, .own (cuOw CT b v code.length)), (m, .arr E sz es)] t H = some (t', H', k1, k2) := by rfl) : Vd P n ops dr K (o :: os) t H fp :=
  vd_plain hd hg (good_of (tri_drawE ho hc hx hy (Nat.ne_of_beq_eq_false hkm) (Nat.ne_of_beq_eq_false hn1) (Nat.ne_of_beq_eq_false hn2)) (fun k b hb => by
    simp only [List.mem_cons, Prod.mk.injEq, List.not_mem_nil, or_false] at hb
    rcases hb with ⟨rfl, rfl⟩ | ⟨rfl, rfl⟩
    · exact hk
    · exact hm) fun k b hb => by
    simp only [List.mem_cons, Prod.mk.injEq, List.not_mem_nil, or_false] at hb
    obtain ⟨rfl, _⟩ := hb
    exact .inr hnk) ht h
end
end Go.Vc
end
section
namespace Go.Vc
open Go Go.RowKit
set_option linter.unusedVariables false
set_option linter.unusedSectionVars false
set_option linter.unusedSimpArgs false
def byC (code : List UInt8) (i : Nat) : Int := ((code.getD i 0).toNat : Int)
theorem byC_bd (code : List UInt8) (i : Nat) : 0 ≤ byC code i ∧ byC code i ≤ 255 := by
  have := (code.getD i 0).toNat_lt
  unfold byC; omega
def pbQ (code : List UInt8) (i : Nat) : RdP where
  P w u := ∃ b o, u = .pointer (some ⟨b, o, none⟩) ∧ w.cell? ⟨b, o, none⟩ = some (.int .u8 (byC code i))
  ex := by
    rintro w w' u ⟨b, o, rfl, h⟩ hx
    exact ⟨b, o, rfl, (hx.cell (World.block_lt_of_cell? _ _ h)).trans h⟩
  one := by rintro w u ⟨b, o, rfl, _⟩; rfl
section
variable {P : Program} [TyEnv P] {o : Oper} {rd : Nat → AV} {T e : TypeId} {i ei : TyI} {x y : Operand} {v : Value} {code : List UInt8} {n : Int}
theorem tri_ixC (ho : o.op = .indexAddr T x y) (hi : TyEnv.ti P T = some i) (hk : i.k = .slice e) (he : TyEnv.ti P e = some ei) (hsz : ei.size = 1) (hx : evo rd x = .one (.rd (pinQ v code))) (hy : evo rd y = .one (.v (.int .i64 n))) (h0 : 0 ≤ n ∧ n < code.length) : Tri P o rd [] (.one (.rd (pbQ code n.toNat))) [] := by
  refine tri_pure fun w0 w D ρ a hh hex => ?_
  have h1 := hh x (by simp [ho, Op.operands])
  have h2 := hh y (by simp [ho, Op.operands])
  rw [hx] at h1; rw [hy] at h2
  obtain ⟨h1, h3, _⟩ := h1
  obtain ⟨A, c, hv, _, _, hc⟩ := h3.bytes
  simp only [List.cons.injEq, and_true] at hv
  subst hv
  have hn : n.toNat < code.length := by omega
  obtain ⟨b, off, rfl, hcell⟩ := hc n.toNat hn
  have hu := ty_slice hi hk
  have := run_indexAt_slice (P := P) w T ⟨b, off, none⟩ code.length c .i64 n (by rw [elem_of hu]; exact hu)
  rw [if_pos (by omega), elem_of hu, size_run he] at this
  simp only [Result.andThen_ok, add_plain] at this
  refine ⟨.pointer (some ⟨b, off + n.toNat * ei.size, none⟩), by simp only [execOp, ho, h1, AR.int h2, Sem.run_bind, this, Result.andThen_ok, Sem.run_pure], b, off + n.toNat, by rw [hsz, Nat.mul_one], ?_⟩
  rw [hcell]
  unfold byC
  rw [List.getD_eq_getElem?_getD, List.getElem?_eq_getElem hn]
  rfl
theorem tri_ldC {j : Nat} {v : AV} (ho : o.op = .load T x) (hi : TyEnv.ti P T = some i) (hx : evo rd x = .one (.rd (pbQ code j))) (hv : mkv i [.v (.int .u8 (byC code j))] = some v) : Tri P o rd [] v [] := by
  intro w0 w ρ n t H a Q hr ht hrs hfr hd
  have hx' := hr.ev x
  rw [evo_of (o := o) (by rw [ho]; simp [Op.operands]) ht, hx] at hx'
  obtain ⟨As, h2, _⟩ := hr.parts
  obtain ⟨b, off, hx', hc⟩ := (pbQ code j).ex hx' h2.ex
  have hF2 : F2 (R w0 (dom H) ρ) [.v (.int .u8 (byC code j))] [Value.int .u8 (byC code j)] := .cons ⟨rfl, rfl⟩ .nil
  have hm := mkv_R (w0 := w0) (D := dom H) (ρ := ρ) hv hF2
  refine wp_loadX ho hi hx' (us := [Value.int .u8 (byC code j)]) (fun m v hm => ?_) hm fun u hu => ⟨ρ, hr.put hu hd⟩
  have hlt := (List.getElem?_eq_some_iff.1 hm).1
  have hm0 : m = 0 := by simpa using hlt
  subst hm0
  rw [Nat.add_zero, hc]
  exact hm
end
section
variable {P : Program} [TyEnv P] {n : Nat} {ops os : List Oper} {K : Tm → Hp → Prop} {t t' : Tm} {H H' : Hp} {o : Oper} {k1 k2 : List Nat} {dr : Bool} {fp : List Fp} {T e : TypeId} {i ei : TyI} {x y : Operand} {v0 : Value} {code : List UInt8} {m : Int}
theorem vcx (h : Vd P n ops dr K os t' H' ((k1, k2) :: fp)) (hd : dstB o.dst n = true := by rfl) (hg : o.guard = none := by rfl) (ho : o.op = .indexAddr T x y := by rfl) (hi : TyEnv.ti P T = some i := by rfl) (hk : i.k = .slice e := by rfl) (he : TyEnv.ti P e = some ei := by rfl) (hz : ei.size = 1 := by rfl) (hx : evo (gt t) x = .one (.rd (pinQ v0 code)) := by rfl) (hy : evo (gt t) y = .one (.v (.int .i64 m)) := by rfl)
    (ht : stF o.dst (.one (.rd (pbQ code m.toNat))) [] [] t H = some (t', H', k1, k2) := by rfl) (hs : 0 ≤ m ∧ m < code.length := by omega) : Vd P n ops dr K (o :: os) t H fp := vd_plain hd hg (good0 (tri_ixC ho hi hk he hz hx hy hs)) ht h
theorem vcd {j : Nat} {v : AV} (h : Vd P n ops dr K os t' H' ((k1, k2) :: fp)) (hd : dstB o.dst n = true := by rfl) (hg : o.guard = none := by rfl) (ho : o.op = .load T x := by rfl) (hi : TyEnv.ti P T = some i := by rfl) (hx : evo (gt t) x = .one (.rd (pbQ code j)) := by rfl) (hv : mkv i [.v (.int .u8 (byC code j))] = some v := by rfl)
    (ht : stF o.dst v [] [] t H = some (t', H', k1, k2) := by rfl) : Vd P n ops dr K (o :: os) t H fp := vd_plain hd hg (good0 (tri_ldC ho hi hx hv)) ht h
end
end Go.Vc
end
section
namespace Go.Proofs.YtfcmcedeapgdcaaGreat
open Go Go.RowKit Go.Vc
set_option linter.unusedVariables false
set_option linter.unusedSimpArgs false
set_option linter.unnecessarySimpa false
def atC (code : List UInt8) (k : Int) : Int := if code.length = 0 then 0 else byC code ((k * 5 + 1) % code.length).toNat
theorem atC_bd (code : List UInt8) (k : Int) : 0 ≤ atC code k ∧ atC code k ≤ 255 := by
  unfold atC
  split
  · omega
  · exact byC_bd _ _
theorem i64_by (code : List UInt8) (j : Nat) : IntKind.i64.wrap (byC code j) = byC code j := IntWalk.i64_in _ (by have := byC_bd code j; omega)
set_option maxHeartbeats 4000000 in
theorem c_laws_at {v : Value} {code : List UInt8} {k : Int} (h0 : 0 ≤ k := by omega) (h1 : k ≤ 1000000 := by omega) (hl : code.length ≤ 1048576 := by omega) : Con0 Tryz.prog 9 [.one (.rd (pinQ v code)), I k] (I (atC code k)) [] := by
  refine con_i Tryz.func9 Tryz.ntmps9 (t := [(0, .one (.rd (pinQ v code))), (1, I k)]) rfl ?_
  refine vc_sr ?_
  refine vo ?_
  refine vnt ?_
  refine vc_seq' ?_
  refine vc_sr ?_
  refine vo ?_
  first | refine vlp ?_ | refine vo ?_
  try first | refine vlb ?_ | refine vln ?_
  refine vo ?_
  refine vnt ?_
  refine vc_if (fun g1 => ?_) (fun g1 => ?_)
  · refine vc_sr ?_
    refine vo ?_
    refine vnt ?_
    refine vc_ret ?_
    refine thn_r ?_
    have hh : atC code k = 0 := if_pos (by omega)
    rw [hh]
    refine fin_i [] rfl (fz ?_) (fz ?_) <;> first | trivial | rfl
  · have hm0 := Int.emod_nonneg (k * 5 + 1) (show (code.length : Int) ≠ 0 by omega)
    have hm1 := Int.emod_lt_of_pos (k * 5 + 1) (show 0 < (code.length : Int) by omega)
    refine vc_skip ?_
    refine thn ?_
    refine vc_sr ?_
    iterate 3 refine vo ?_
    try refine vwr ?_
    refine vo ?_
    try refine vwr ?_
    refine vo ?_
    first | refine vlp ?_ | refine vo ?_
    try first | refine vlb ?_ | refine vln ?_
    refine vo ?_
    try refine veq (Int.tmod_eq_emod_of_nonneg (by omega)) ?_
    first | refine vcx ?_ | refine vo ?_
    try with_reducible (first | refine vep ?_ | refine vpt ?_)
    first | refine vcd ?_ | refine vo ?_
    refine vo ?_
    try refine veq (i64_byt _ _) ?_
    refine veq (i64_by code _) ?_
    refine vo ?_
    refine vnt ?_
    refine vc_ret ?_
    have hh : atC code k = byC code ((k * 5 + 1) % code.length).toNat := if_neg (by omega)
    rw [hh]
    refine fin_i [] rfl (fz ?_) (fz ?_) <;> first | trivial | rfl
end Go.Proofs.YtfcmcedeapgdcaaGreat
end
section
namespace Go.Vc
open Go Go.RowKit
set_option linter.unusedVariables false
set_option linter.unusedSectionVars false
set_option linter.unusedSimpArgs false
section
variable {P : Program} [TyEnv P] {o : Oper} {rd : Nat → AV} {T T' : TypeId} {x y : Operand} {a : Int} {xs : List Int}
theorem tri_addQ (ho : o.op = .binOp .add T x y T') (hx : evo rd x = .one (.v (.int .i64 a))) (hy : evo rd y = .one (.rd (setQ xs))) : Tri P o rd [] (.one (.rd (setQ (xs.map fun x => wr (a + x))))) [] := by
  refine tri_pure fun w0 w D ρ ac hh hex => ?_
  have h1 := hh x (by simp [ho, Op.operands])
  have h2 := hh y (by simp [ho, Op.operands])
  rw [hx] at h1; rw [hy] at h2
  obtain ⟨⟨z, hz, hu⟩, _⟩ := h2
  refine ⟨.int .i64 (wr (a + z)), ?_, ⟨_, List.mem_map_of_mem hz, rfl⟩, rfl⟩
  have := run_intB P w (show intB .add a z = some (.int .i64 (wr (a + z))) from rfl) T T' x y ac.eval (AR.int h1) hu o.dst o.type o.pos o.after o.guard
  rw [← this]
  cases o
  simp only at ho
  subst ho
  rfl
end
section
variable {P : Program} [TyEnv P] {n : Nat} {ops os : List Oper} {K : Tm → Hp → Prop} {t t' : Tm} {H H' : Hp} {o : Oper} {k1 k2 : List Nat} {dr : Bool} {fp : List Fp} {T T' : TypeId} {x y : Operand} {a : Int} {xs : List Int}
theorem vaq (h : Vd P n ops dr K os t' H' ((k1, k2) :: fp)) (hd : dstB o.dst n = true := by rfl) (hg : o.guard = none := by rfl) (ho : o.op = .binOp .add T x y T' := by rfl) (hx : evo (gt t) x = .one (.v (.int .i64 a)) := by rfl) (hy : evo (gt t) y = .one (.rd (setQ xs)) := by rfl)
    (ht : stF o.dst (.one (.rd (setQ (xs.map fun x => wr (a + x))))) [] [] t H = some (t', H', k1, k2) := by rfl) : Vd P n ops dr K (o :: os) t H fp := vd_plain hd hg (good0 (tri_addQ ho hx hy)) ht h
end
section
variable {P : Program} [TyEnv P] {n : Nat} {ops os : List Oper} {K : Tm → Hp → Prop} {t t' : Tm} {H H' : Hp} {o : Oper} {k1 k2 : List Nat}
theorem svocn {f : FuncId} {args : Array Operand} {ats : Array TypeId} {ys : List AV} {res v : AV} {Hr δ rs : Hp} {d : Nat} {g : Nat} {want : Bool} (hc : Con0 P f ys res Hr) (ho : o.op = .call { callee := .value (.func f), args := args, argTypes := ats }) (hf : frzAs H (args.toList.map (evo (gt t))) = some ys) (h : SV P n ops K os t' H') (hdd : o.dst = some d := by rfl) (hv : shA (8 * d) res = v := by rfl) (hδ : shH (8 * d) Hr = δ := by rfl) (hrs : rsOf H ((args.toList.map (evo (gt t))).flatMap hsA) = rs := by rfl) (hfr : δ.all (fun p => (lk H p.1).isNone) = true := by rfl) (hd : dstB o.dst n = true := by rfl) (hg : o.guard = some (g, want) := by rfl) (hw : gBF ops (gt t) want g = some true := by rfl) (ht : stF o.dst v δ rs t H = some (t', H', k1, k2) := by rfl) : SV P n ops K (o :: os) t H := sv_on hd hg hw (good_call hc ho hf hdd hv hδ hrs hfr) ht h
end
end Go.Vc
end
section
namespace Go.Proofs.YtfcmcedeapgdcaaGreat
open Go Go.RowKit Go.Vc
set_option linter.unusedVariables false
set_option linter.unusedSimpArgs false
set_option linter.unnecessarySimpa false
def WL (l : List Mp) : Prop := l.length ≤ 12 ∧ ∀ i (h : i < l.length), l[i].1 = 0 ∧ l[i].2.1 = (i : Int) ∧ l[i].2.2.1 = 11 - (i : Int) ∧ (i < 2 → l[i].2.2.2 = true)
def tenF (i : Nat) : List Int := (List.range i).map fun i : Nat => (i : Int)
theorem tenF_len (i : Nat) : (tenF i).length = i := by simp [tenF]
theorem mp_app (l : List Mp) (x : Mp) : l.map mpE ++ [[.int .i64 x.1, .int .i64 x.2.1, .int .i64 x.2.2.1, .bool x.2.2.2]] = (l ++ [x]).map mpE := by rw [List.map_append]; rfl
theorem rp_stp (i : Nat) (s : ByteArray) : (List.replicate i s).map strE ++ [[.string s]] = (List.replicate (i + 1) s).map strE := by
  rw [List.replicate_succ', List.map_append]; rfl
def page0 : ByteArray := repF 0 (Int.toNat 128)
theorem page0_sz : page0.size = 128 := by unfold page0; rw [repF, strOfNums_size]; rfl
set_option maxHeartbeats 4000000 in
theorem c_spec_MapPage {l : List Mp} {x : Mp} (hl : l.length ≤ 1099511627776 := by first | with_reducible assumption | omega) (h1 : mapsOk l = true) (h2 : mapsOk (l ++ [x]) = true) : Con0 Tryz.prog 20 [.one (.sl 4 (l.map mpE)), .agg [V x.1, V x.2.1, V x.2.2.1, .v (.bool x.2.2.2)]] (.tup [.one (.hs 0), B true]) [(0, .arr 68 4 ((l ++ [x]).map mpE))] := by
  refine con_i Tryz.func20 Tryz.ntmps20 (t := [(0, .one (.sl 4 (l.map mpE))), (1, .agg [V x.1, V x.2.1, V x.2.2.1, .v (.bool x.2.2.2)])]) rfl ?_
  refine vc_sr ?_
  iterate 3 refine vo ?_
  refine vnt ?_
  refine vc_sr ?_
  iterate 3 refine vo ?_
  rw [List.nil_append]
  iterate 3 refine vo ?_
  rw [mp_app]
  refine vo ?_
  refine vnt ?_
  refine vc_seq' ?_
  refine vc_sr ?_
  refine vo ?_
  refine voc c_spec_MappingsOk rfl rfl ?_
  iterate 2 refine vo ?_
  refine vsp (fun g1 => ?_) (fun g1 => ?_)
  · rw [h1] at g1; cases g1
  · refine von ?_
    refine vocn (c_spec_MappingsOk (l := l ++ [x]) (hl := by have := (mapsOk_iff.1 h2).1; omega)) rfl rfl ?_
    refine von ?_
    refine vo ?_
    refine vnt ?_
    refine vc_if (fun g2 => ?_) (fun g2 => ?_)
    · rw [h2] at g2; cases g2
    · refine vc_skip ?_
      refine thn ?_
      refine vc_sr ?_
      iterate 3 refine vo ?_
      refine vnt ?_
      refine vc_ret ?_
      refine fin_i [(0, some 96)] rfl (fz ?_) (fz ?_)
      · first | trivial | rfl | trace_state
      · first | trivial | rfl | trace_state
set_option maxHeartbeats 4000000 in
theorem c_spec_NewMemory {n : Int} (h0 : 0 ≤ n := by omega) (h1 : n ≤ 64 := by omega) : Con0 Tryz.prog 24 [I n] (.agg [.hs 0]) [(0, .arr 9 1 ((List.replicate n.toNat page0).map strE))] := by
  refine con_i Tryz.func24 Tryz.ntmps24 (t := [(0, I n)]) rfl ?_
  refine vc_sr ?_
  refine vo ?_
  refine vnt ?_
  refine vc_sr ?_
  iterate 3 refine vo ?_
  refine vnt ?_
  refine vc_seq' ?_
  refine vc_sr ?_
  refine vo ?_
  refine vnt ?_
  refine vc_block ?_
  refine vc_lp (σ := Nat) [0, 2, 3] [16] (fun i => [(4, I (i : Nat))]) (fun i => [(7, .arr 9 1 ((List.replicate i page0).map strE)), (24, .row 27 [.hs 7])]) (fun i => (i : Int) ≤ n) (fun i => n.toNat - i) 0 rfl rfl (sub_i [(24, some 24), (7, none)] (fz ?_) (fz ?_)) ?_ fun i hI => ?_
  · first | trivial | rfl | exact ⟨rfl, rfl⟩ | exact ⟨rfl, rfl, rfl⟩ | trace_state
  · first | trivial | rfl | exact ⟨rfl, rfl⟩ | exact ⟨rfl, rfl, rfl⟩ | trace_state
  · omega
  refine vc_nf rfl rfl ?_
  refine vc_seq' ?_
  refine vc_sr ?_
  iterate 4 refine vo ?_
  refine vsp (fun g1 => ?_) (fun g1 => ?_)
  · iterate 2 refine von ?_
    refine vo ?_
    refine vnt ?_
    refine vc_if (fun g2 => ?_) (fun g2 => ?_)
    · refine vc_skip ?_
      refine thn ?_
      refine vc_seq' ?_
      refine vc_block ?_
      refine vc_region ?_
      iterate 2 refine vo ?_
      refine voc c_spec_l01Long rfl rfl ?_
      refine vzs (rep_le _ _) fun z1 => ?_
      iterate 4 refine vo ?_
      refine vnil ?_
      refine inB_n ?_
      refine thn ?_
      refine vc_region ?_
      iterate 2 refine vo ?_
      try refine vwr ?_
      refine vo ?_
      refine vnt ?_
      refine ⟨i + 1, by omega, by omega, sub_i [(24, some 24), (7, some 152)] (fz ?_) (fz ?_)⟩
      · omega
      · exact (rp_stp i page0).symm
    · refine vc_exit ?_
      refine thn_x ?_
      refine thn_x ?_
      refine inB_x ?_
      refine thn ?_
      refine vc_sr ?_
      iterate 2 refine vo ?_
      refine vnt ?_
      refine vc_ret ?_
      have hi : i = n.toNat := by omega
      subst hi
      refine fin_i [(0, some 7)] rfl (fz ?_) (fz ?_) <;> first | trivial | rfl | trace_state
  · iterate 2 refine vof ?_
    refine vo ?_
    refine vnt ?_
    refine vc_else ?_
    refine vc_exit ?_
    refine thn_x ?_
    refine thn_x ?_
    refine inB_x ?_
    refine thn ?_
    refine vc_sr ?_
    iterate 2 refine vo ?_
    refine vnt ?_
    refine vc_ret ?_
    have hi : i = n.toNat := by omega
    subst hi
    refine fin_i [(0, some 7)] rfl (fz ?_) (fz ?_) <;> first | trivial | rfl | trace_state
theorem rng_stp (i : Nat) : (tenF i).map intE ++ [[.int .i64 (i : Int)]] = (tenF (i + 1)).map intE := by
  simp only [tenF, List.range_succ, List.map_append]; rfl
structure W22 where
  (l : List Mp)
  (s h nx : Int)
def W22.ok (x : W22) : Prop := WL x.l ∧ x.l.length = 12 ∧ (x.s = 8 ∨ x.s = 16) ∧ (0 ≤ x.h ∧ x.h ≤ 2 * x.s - 1) ∧ (x.nx = 0 ∨ x.nx = 7 ∨ x.nx = 65535)
structure DSx where
  (w : W22)
  (p : Pk)
  (size cut : Int)
def DSx.ok (x : DSx) : Prop := x.w.ok ∧ x.p.sup = true ∧ (8 ≤ x.size ∧ x.size ≤ 128) ∧ (x.cut = 40 ∨ x.cut = 60 ∨ x.cut = 100 ∨ x.cut = 128)
end Go.Proofs.YtfcmcedeapgdcaaGreat
end
section
namespace Go.Proofs.YtfcmcedeapgdcaaGreat
open Go Go.RowKit Go.Vc
set_option linter.unusedVariables false
set_option linter.unusedSimpArgs false
set_option linter.unnecessarySimpa false
theorem fl_n {l : List Mp} {ps : Pg} {d b s h t pb pz pc : Int} {fr : List Int} (hh : ringOkB b s h t = false ∨ poolB pb pz pc fr = false) : fillRF l ps d b s h t pb pz pc fr = (ps, t, fr, 0) := by
  refine if_neg ?_
  rcases hh with hh | hh <;> rw [hh] <;> simp
theorem fl_y {l : List Mp} {ps p : Pg} {d b s h t u pb pz pc : Int} {fr : List Int} {n : Nat} (h1 : ringOkB b s h t = true) (h2 : poolB pb pz pc fr = true) (h3 : fillG l d b s h pb pz fr ps t 0 = (p, u, n)) : fillRF l ps d b s h t pb pz pc fr = (p, u, fr.drop n, n) := by
  unfold fillRF
  rw [if_pos (by rw [h1, h2]; rfl), h3]
theorem fg_end {l : List Mp} {d b s h pb pz u : Int} {fr : List Int} {p : Pg} {i : Nat} (hi : ¬ i < fr.length) : fillG l d b s h pb pz (fr.drop i) p u i = (p, u, i) := by
  rw [List.drop_eq_nil_of_le (by omega)]; rfl
theorem fg_no {l : List Mp} {d b s h pb pz u : Int} {fr : List Int} {p : Pg} {i : Nat} (hi : i < fr.length) (hr : (rputF l p d b s h u (encDF 3 0 pz (pb + at' fr i * pz) 0 (at' fr i))).2.2 = false) : fillG l d b s h pb pz (fr.drop i) p u i = (p, u, i) := by
  rw [List.drop_eq_getElem_cons hi, ← atp_eq hi]
  unfold fillG
  split
  · rename_i g; rw [g] at hr; cases hr
  · rfl
theorem fg_go {l : List Mp} {d b s h pb pz u : Int} {fr : List Int} {p : Pg} {i : Nat} (hi : i < fr.length) (hr : (rputF l p d b s h u (encDF 3 0 pz (pb + at' fr i * pz) 0 (at' fr i))).2.2 = true) : fillG l d b s h pb pz (fr.drop i) p u i = fillG l d b s h pb pz (fr.drop (i + 1)) (rputF l p d b s h u (encDF 3 0 pz (pb + at' fr i * pz) 0 (at' fr i))).1 (rputF l p d b s h u (encDF 3 0 pz (pb + at' fr i * pz) 0 (at' fr i))).2.1 (i + 1) := by
  rw [List.drop_eq_getElem_cons hi, ← atp_eq hi]
  conv => lhs; unfold fillG
  split
  · rename_i g; rw [g]
  · rename_i g; rw [g] at hr; cases hr
theorem fg_fr {l : List Mp} {d b s h pb pz u : Int} {fr : List Int} {p : Pg} {i : Nat} (hf : freeF b s h u ≤ 0) : fillG l d b s h pb pz (fr.drop i) p u i = (p, u, i) := fillG_full (by have := freeF_nn b s h u; omega) _
theorem bufA_in {pb pz pc : Int} {fr : List Int} {i : Nat} (h1 : poolB pb pz pc fr = true) (hi : i < fr.length) : bufA pb pz pc fr (at' fr i) = pb + at' fr i * pz ∧ 0 ≤ pb ∧ pb ≤ 130944 := by
  obtain ⟨b0, b1, z0, z1, c0, c1, hk⟩ := poolB_facts h1
  have := hk _ (atp_mem hi)
  exact ⟨(bufA_y h1 (inB_iff.2 (by omega))).1, b0, b1⟩
theorem encDF_sz (op fl ln at_ sz ck : Int) : (encDF op fl ln at_ sz ck).size ≤ 1099511627776 := by
  unfold encDF
  split
  · rename_i h; have := encD_size h; omega
  · decide
theorem rpt_y {l : List Mp} {ps : Pg} {d b s h t : Int} {e : ByteArray} (hr : (rputF l ps d b s h t e).2.2 = true) : ringOkB b s h (rputF l ps d b s h t e).2.1 = true ∧ (rputF l ps d b s h t e).1.length = ps.length := by
  generalize hx : rputF l ps d b s h t e = x at hr
  obtain ⟨x1, x2, x3⟩ := x
  simp only at hr
  subst hr
  exact ⟨(rputF_t hx.symm).2, rputF_len hx.symm⟩
set_option maxHeartbeats 4000000 in
theorem c_spec_FillRing {l : List Mp} {ps : Pg} {d b s h t pb pz pc : Int} {fr : List Int} (hl : l.length ≤ 1099511627776 := by first | with_reducible assumption | omega) (hp : ps.length ≤ 1099511627776 := by first | with_reducible assumption | omega) (hl_fr : fr.length ≤ 1099511627776 := by first | with_reducible assumption | omega) : Con0 Tryz.prog 23 [.one (.sl 4 (l.map mpE)), .agg [.sl 1 (ps.map strE)], I d, .agg [V b, V s, V h, V t], .agg [V pb, V pz, V pc, .sl 1 (fr.map intE)]] (.tup [.agg [.hs 0], .agg [V b, V s, V h, V (fillRF l ps d b s h t pb pz pc fr).2.1], .agg [V pb, V pz, V pc, .hs 1], I ((fillRF l ps d b s h t pb pz pc fr).2.2.2 : Nat)]) [(0, .arr 9 1 ((fillRF l ps d b s h t pb pz pc fr).1.map strE)), (1, .arr 3 1 ((fillRF l ps d b s h t pb pz pc fr).2.2.1.map intE))] := by
  refine con_i Tryz.func23 Tryz.ntmps23 (t := [(0, .one (.sl 4 (l.map mpE))), (1, .agg [.sl 1 (ps.map strE)]), (2, I d), (3, .agg [V b, V s, V h, V t]), (4, .agg [V pb, V pz, V pc, .sl 1 (fr.map intE)])]) rfl ?_
  refine vc_sr ?_
  iterate 7 refine vo ?_
  refine vnt ?_
  refine vc_sr ?_
  refine vo ?_
  refine voc c_spec_l16Copy rfl rfl ?_
  iterate 2 refine vo ?_
  refine vnt ?_
  refine vc_sr ?_
  refine vo ?_
  refine voc c_spec_l21Copy rfl rfl ?_
  iterate 2 refine vo ?_
  refine vnt ?_
  refine vc_sr ?_
  refine vo ?_
  refine vnt ?_
  refine vc_seq' ?_
  refine vc_sr ?_
  refine vo ?_
  refine voc c_spec_RingOk rfl rfl ?_
  iterate 2 refine vo ?_
  refine vsp (fun g1 => ?_) (fun g1 => ?_)
  · iterate 3 refine vof ?_
    refine vo ?_
    refine vnt ?_
    refine vc_then ?_
    refine vc_sr ?_
    iterate 7 refine vo ?_
    refine vnt ?_
    refine vc_ret ?_
    refine thn_r ?_
    have hh : fillRF l ps d b s h t pb pz pc fr = _ := fl_n (.inl g1)
    refine fin_i [(0, some 176), (1, some 192)] rfl (fz ?_) (fz ?_)
    · rw [hh]; first | exact ⟨rfl, rfl⟩ | trivial | simp
    · rw [hh]; first | exact ⟨rfl, rfl⟩ | trivial | simp
  · refine von ?_
    refine vocn c_spec_PoolOk rfl rfl ?_
    refine von ?_
    refine vo ?_
    refine vnt ?_
    refine vc_if (fun g2 => ?_) (fun g2 => ?_)
    · refine vc_sr ?_
      iterate 7 refine vo ?_
      refine vnt ?_
      refine vc_ret ?_
      refine thn_r ?_
      have hh : fillRF l ps d b s h t pb pz pc fr = _ := fl_n (.inr g2)
      refine fin_i [(0, some 176), (1, some 192)] rfl (fz ?_) (fz ?_)
      · rw [hh]; first | exact ⟨rfl, rfl⟩ | trivial | simp
      · rw [hh]; first | exact ⟨rfl, rfl⟩ | trivial | simp
    · refine vc_skip ?_
      refine thn ?_
      refine vc_seq' ?_
      refine vc_block ?_
      refine vc_lp3 [0, 2, 8, 9, 10, 11, 12, 14, 15] [72, 80, 88, 96] (fun (i : Nat) (p : Pg) (u : Int) => [(16, I (i : Nat))]) (fun (i : Nat) (p : Pg) (u : Int) => [(7, .arr 9 1 (p.map strE)), (9, .arr 3 1 ((fr.drop i).map intE)), (64, .row 29 [V b, V s, V h, V u]), (112, .row 27 [.hs 7]), (120, .row 42 [V pb, V pz, V pc, .hs 9])]) (fun (i : Nat) (p : Pg) (u : Int) => fillG l d b s h pb pz fr ps t 0 = fillG l d b s h pb pz (fr.drop i) p u i ∧ i ≤ fr.length ∧ p.length = ps.length ∧ ringOkB b s h u = true) (fun (i : Nat) (p : Pg) (u : Int) => fr.length - i) 0 ps t rfl rfl (sub_i [(112, some 112), (64, some 64), (7, some 176), (120, some 120), (9, some 192)] (fz ?_) (fz ?_)) ?_ fun i p u hI => ?_
      · first | trivial | rfl
      · first | trivial | rfl | exact ⟨rfl, rfl⟩ | exact ⟨rfl, rfl, rfl⟩ | trace_state
      · exact ⟨rfl, Nat.zero_le _, rfl, g1⟩
      refine vc_nf rfl rfl ?_
      have hpl := hI.2.2.1
      have hdl : (fr.drop i).length = fr.length - i := List.length_drop
      have hdd : (List.drop 1 (List.map intE (fr.drop i))).length ≤ fr.length := by rw [List.length_drop, List.length_map]; omega
      refine vc_seq' ?_
      refine vc_sr ?_
      refine vo ?_
      refine voc c_spec_RingFree rfl rfl ?_
      iterate 2 refine vo ?_
      refine vsp (fun g3 => ?_) (fun g3 => ?_)
      · iterate 3 refine von ?_
        try first | refine vlb ?_ | refine vln ?_
        refine von ?_
        refine vo ?_
        refine vnt ?_
        refine vc_if (fun g4 => ?_) (fun g4 => ?_)
        · have hlt : i < fr.length := by omega
          obtain ⟨hbe, hb0, hb1⟩ := bufA_in g2 hlt
          have hze := encDF_sz 3 0 pz (pb + at' fr i * pz) 0 (at' fr i)
          have hat : at' (fr.drop i) 0 = at' fr i := by rw [atp_eq (by omega), atp_eq hlt, List.getElem_drop]; rfl
          refine vc_skip ?_
          refine thn ?_
          refine vc_block ?_
          refine vc_sr ?_
          iterate 3 refine vo ?_
          first | refine vepl (j := 0) rfl ?_ | refine vptl (j := 0) rfl ?_
          refine vo ?_
          refine veq hat ?_
          refine vo ?_
          refine vnt ?_
          refine vc_sr ?_
          iterate 8 refine vo ?_
          refine voc c_spec_BufferAddress rfl rfl ?_
          refine veq hbe ?_
          iterate 2 refine vo ?_
          refine voc c_spec_EncodeDesc rfl rfl ?_
          refine voc c_spec_RingPut rfl rfl ?_
          iterate 9 refine vo ?_
          refine vnt ?_
          refine vc_seq' ?_
          refine vc_sr ?_
          iterate 2 refine vo ?_
          refine vnt ?_
          refine vc_if (fun g5 => ?_) (fun g5 => ?_)
          · refine vc_exit ?_
            refine thn_x ?_
            refine inB_y ?_
            refine thn_x ?_
            refine inB_x ?_
            refine thn ?_
            refine vc_sr ?_
            iterate 8 refine vo ?_
            refine vnt ?_
            refine vc_ret ?_
            have hh : fillRF l ps d b s h t pb pz pc fr = _ := fl_y g1 g2 (hI.1.trans (fg_no hlt g5))
            refine fin_i [(0, some 7), (1, some 9)] rfl (fz ?_) (fz ?_)
            · rw [hh]; first | exact ⟨rfl, rfl⟩ | trivial | simp
            · rw [hh]; first | exact ⟨rfl, rfl⟩ | trivial | simp
          · refine vc_skip ?_
            refine thn ?_
            refine vc_sr ?_
            iterate 2 refine vo ?_
            refine vnt ?_
            refine vc_sr ?_
            iterate 2 refine vo ?_
            refine vnt ?_
            refine vc_sr ?_
            iterate 4 refine vo ?_
            try first | refine vdrl (j := 1) rfl ?_ | refine vhc (j := 1) rfl ?_
            refine vo ?_
            rw [List.nil_append, ← List.map_drop, List.drop_drop]
            iterate 2 refine vo ?_
            refine vnt ?_
            refine vc_region ?_
            iterate 2 refine vo ?_
            try refine vwr ?_
            refine vo ?_
            refine vnil ?_
            refine inB_n ?_
            refine thn ?_
            have hq := rpt_y (l := l) (ps := p) (d := d) (b := b) (s := s) (h := h) (t := u) (e := encDF 3 0 pz (pb + at' fr i * pz) 0 (at' fr i)) g5
            refine ⟨i + 1, (rputF l p d b s h u (encDF 3 0 pz (pb + at' fr i * pz) 0 (at' fr i))).1, (rputF l p d b s h u (encDF 3 0 pz (pb + at' fr i * pz) 0 (at' fr i))).2.1, ?_, ?_, sub_i [(112, some 112), (64, some 64), (7, some 496), (120, some 120), (9, some 592)] (fz ?_) (fz ?_)⟩
            · exact ⟨hI.1.trans (fg_go hlt g5), by omega, by rw [hq.2]; exact hI.2.2.1, hq.1⟩
            · omega
            · first | trivial | rfl | exact ⟨rfl, rfl⟩
            · first | trivial | rfl | exact ⟨rfl, rfl⟩ | exact ⟨rfl, rfl, rfl⟩ | exact ⟨rfl, rfl, rfl, rfl⟩ | trace_state
        · refine vc_exit ?_
          refine thn_x ?_
          refine thn_x ?_
          refine inB_x ?_
          refine thn ?_
          refine vc_sr ?_
          iterate 8 refine vo ?_
          refine vnt ?_
          refine vc_ret ?_
          have hh : fillRF l ps d b s h t pb pz pc fr = _ := fl_y g1 g2 (hI.1.trans (fg_end (by omega)))
          refine fin_i [(0, some 7), (1, some 9)] rfl (fz ?_) (fz ?_)
          · rw [hh]; first | exact ⟨rfl, rfl⟩ | trivial | simp
          · rw [hh]; first | exact ⟨rfl, rfl⟩ | trivial | simp
      · iterate 4 refine vof ?_
        refine vo ?_
        refine vnt ?_
        refine vc_else ?_
        refine vc_exit ?_
        refine thn_x ?_
        refine thn_x ?_
        refine inB_x ?_
        refine thn ?_
        refine vc_sr ?_
        iterate 8 refine vo ?_
        refine vnt ?_
        refine vc_ret ?_
        have hh : fillRF l ps d b s h t pb pz pc fr = _ := fl_y g1 g2 (hI.1.trans (fg_fr (by omega)))
        refine fin_i [(0, some 7), (1, some 9)] rfl (fz ?_) (fz ?_)
        · rw [hh]; first | exact ⟨rfl, rfl⟩ | trivial | simp
        · rw [hh]; first | exact ⟨rfl, rfl⟩ | trivial | simp
end Go.Proofs.YtfcmcedeapgdcaaGreat
end
section
namespace Go.Proofs.YtfcmcedeapgdcaaGreat
open Go Go.RowKit Go.Vc
set_option linter.unusedVariables false
set_option linter.unusedSimpArgs false
set_option linter.unnecessarySimpa false
end Go.Proofs.YtfcmcedeapgdcaaGreat
end
section
namespace Go.Proofs.YtfcmcedeapgdcaaGreat
open Go Go.RowKit Go.Vc
set_option linter.unusedVariables false
set_option linter.unusedSimpArgs false
set_option linter.unnecessarySimpa false
end Go.Proofs.YtfcmcedeapgdcaaGreat
end
section
namespace Go.Proofs.YtfcmcedeapgdcaaGreat
open Go Go.RowKit Go.Vc
set_option linter.unusedVariables false
set_option linter.unusedSimpArgs false
set_option linter.unnecessarySimpa false
end Go.Proofs.YtfcmcedeapgdcaaGreat
end
section
namespace Go.Proofs.YtfcmcedeapgdcaaGreat
open Go Go.RowKit Go.Vc
set_option linter.unusedVariables false
set_option linter.unusedSimpArgs false
set_option linter.unnecessarySimpa false
theorem c_laws_big {v : Value} {code : List UInt8} : Con0 Tryz.prog 6 [.one (.rd (pinQ v code))] (B (decide ((code.length : Int) > 1048576))) [] := by
  refine con_i Tryz.func6 Tryz.ntmps6 (t := [(0, .one (.rd (pinQ v code)))]) rfl ?_
  refine vc_sr ?_
  refine vo ?_
  refine vnt ?_
  refine vc_sr ?_
  refine vo ?_
  refine vlp ?_
  refine vo ?_
  refine vo ?_
  refine vnt ?_
  refine vc_ret ?_
  refine fin_i [] rfl (fz ?_) (fz ?_) <;> first | trivial | rfl | trace_state
end Go.Proofs.YtfcmcedeapgdcaaGreat
end
section
namespace Go.Proofs.YtfcmcedeapgdcaaGreat
open Go Go.RowKit Go.Vc
set_option linter.unusedVariables false
set_option linter.unusedSimpArgs false
set_option linter.unnecessarySimpa false
theorem rep0_at (n k : Nat) : bAt (strOfNums (List.replicate n 0)) k = 0 := by
  unfold bAt
  split
  · rename_i h
    rw [ByteArray.getElem_eq_getElem_data]
    simp [strOfNums]
  · rfl
theorem page0_at (k : Nat) : bAt page0 k = 0 := rep0_at _ _
end Go.Proofs.YtfcmcedeapgdcaaGreat
end
section
namespace Go.Proofs.YtfcmcedeapgdcaaGreat
open Go Go.RowKit Go.Vc
set_option linter.unusedVariables false
set_option linter.unusedSimpArgs false
set_option linter.unnecessarySimpa false
theorem get32_at {s : ByteArray} {i : Nat} (h : i + 4 ≤ s.size) : get32 s (i : Int) = ((bAt s i * 16777216 + bAt s (i + 1) * 65536 + bAt s (i + 2) * 256 + bAt s (i + 3) : Nat) : Int) := by
  unfold get32; rw [if_pos (by omega)]; rfl
theorem w32_at {v : Int} (h : inB v 0 4294967295 = true) : ((bAt (word32 v) 0 * 16777216 + bAt (word32 v) 1 * 65536 + bAt (word32 v) 2 * 256 + bAt (word32 v) 3 : Nat) : Int) = v := by
  obtain ⟨h1, h2⟩ := inB_iff.1 h
  have e : word32 v = strOfNums [v / 16777216, v / 65536 % 256, v / 256 % 256, v % 256] := by simp [word32, h]
  rw [e, bAt_lit (by simp), bAt_lit (by simp), bAt_lit (by simp), bAt_lit (by simp)]
  simp only [List.getElem_cons_zero, List.getElem_cons_succ]
  omega
theorem mid_at (a b r : ByteArray) {k : Nat} (h : k < b.size) : bAt (a ++ b ++ r) (a.size + k) = bAt b k := by
  rw [bAt_append, ByteArray.size_append, if_pos (by omega), bAt_append, if_neg (by omega)]
  congr 1; omega
theorem g16m {s a r : ByteArray} {v : Int} {i : Nat} (e : s = a ++ word16 v ++ r) (h : inB v 0 65535 = true) (hi : i = a.size) : get16 s (i : Int) = v := by rw [e]; exact get16_mid h hi
theorem g32m {s a r : ByteArray} {v : Int} {i : Nat} (e : s = a ++ word32 v ++ r) (h : inB v 0 4294967295 = true) (hi : i = a.size) : get32 s (i : Int) = v := by
  have hw := word32_size h
  subst e hi
  rw [get32_at (by rw [ByteArray.size_append, ByteArray.size_append]; omega)]
  have e0 := mid_at a (word32 v) r (k := 0) (by omega)
  rw [Nat.add_zero] at e0
  rw [e0, mid_at a (word32 v) r (k := 1) (by omega), mid_at a (word32 v) r (k := 2) (by omega), mid_at a (word32 v) r (k := 3) (by omega)]
  exact w32_at h
theorem bym {s a r : ByteArray} {xs : List Int} {i k : Nat} (e : s = a ++ strOfNums xs ++ r) (hk : k < xs.length) (hi : i = a.size + k) : bAt s i = xs[k].toNat % 256 := by
  subst e hi
  rw [mid_at _ _ _ (by rw [strOfNums_size]; exact hk), bAt_lit hk]
theorem g16_l {a b : ByteArray} {i : Nat} (h : i + 2 ≤ a.size) : get16 (a ++ b) (i : Int) = get16 a (i : Int) := by
  rw [get16_at (by rw [ByteArray.size_append]; omega), get16_at h, bAt_append, if_pos (by omega), bAt_append, if_pos (by omega)]
theorem g32_l {a b : ByteArray} {i : Nat} (h : i + 4 ≤ a.size) : get32 (a ++ b) (i : Int) = get32 a (i : Int) := by
  rw [get32_at (by rw [ByteArray.size_append]; omega), get32_at h, bAt_append, if_pos (by omega), bAt_append, if_pos (by omega), bAt_append, if_pos (by omega), bAt_append, if_pos (by omega)]
theorem by_l {a b : ByteArray} {i : Nat} (h : i < a.size) : bAt (a ++ b) i = bAt a i := by rw [bAt_append, if_pos h]
theorem get32_put {s p : ByteArray} {i j : Nat} (h : i + p.size ≤ s.size) (hj : j + 4 ≤ i ∨ i + p.size ≤ j) : get32 (putBF s (i : Int) p) (j : Int) = get32 s (j : Int) := by
  have hz := putBF_size s (i : Int) p
  by_cases hs : j + 4 ≤ s.size
  · rw [get32_at (by omega), get32_at hs, putBF_at h, if_neg (by omega), putBF_at h, if_neg (by omega), putBF_at h, if_neg (by omega), putBF_at h, if_neg (by omega)]
  · rw [get32, if_neg (by omega), get32, if_neg (by omega)]
theorem ex_mid (a b r : ByteArray) : (a ++ b ++ r).extract a.size (a.size + b.size) = b := by
  refine ba_ext (by rw [ByteArray.size_extract]; simp only [ByteArray.size_append]; omega) fun i hi => ?_
  rw [ByteArray.size_extract] at hi
  simp only [ByteArray.size_append] at hi
  rw [bAt_extract, if_pos (by omega), mid_at a b r (by omega)]
theorem ex_r (a b : ByteArray) {n m : Nat} (hn : n = a.size) (hm : m = (a ++ b).size) : (a ++ b).extract n m = b := by
  subst hn hm
  have := ex_mid a b ⟨#[]⟩
  rw [ba_append_nil] at this
  rw [ByteArray.size_append]; exact this
theorem ex_put {s p : ByteArray} {i a n : Nat} (h : i + p.size ≤ s.size) (ha : i + p.size ≤ a) : (putBF s (i : Int) p).extract a n = s.extract a n := by
  have hz := putBF_size s (i : Int) p
  refine ba_ext (by rw [ByteArray.size_extract, ByteArray.size_extract, hz]) fun k hk => ?_
  rw [bAt_extract, bAt_extract]
  split
  · rw [putBF_at h, if_neg (by omega)]
  · rfl
theorem mac_split (a : Int) (h : inB a 0 281474976710655 = true) : inB (a / 4294967296) 0 65535 = true ∧ inB (a % 4294967296) 0 4294967295 = true ∧ a / 4294967296 * 4294967296 + a % 4294967296 = a := by
  obtain ⟨h1, h2⟩ := inB_iff.1 h
  exact ⟨inB_iff.2 (by omega), inB_iff.2 (by omega), by omega⟩
theorem eth_fields {dm sm vl : Int} {b : ByteArray} (h1 : inB dm 0 281474976710655 = true) (h2 : inB sm 0 281474976710655 = true) (h3 : inB vl (-1) 4095 = true) (hb : 46 ≤ b.size) :
    ethX (ethF dm sm vl 2048 b) = ⟨dm, sm, vl, 2048, b⟩ ∧ 18 ≤ (ethF dm sm vl 2048 b).size ∧ ∃ E : ByteArray, ethF dm sm vl 2048 b = E ++ b ∧ sumsA (ethF dm sm vl 2048 b) = E.size := by
  obtain ⟨d1, d2, d3⟩ := mac_split dm h1
  obtain ⟨s1, s2, s3⟩ := mac_split sm h2
  have z1 := mac_sz h1
  have z2 := mac_sz h2
  have za := word16_size d1
  have zb := word32_size d2
  have zc := word16_size s1
  have zd := word32_size s2
  have w1 : (word16 33024).size = 2 := rfl
  have w2 : (word16 2048).size = 2 := rfl
  have hv := inB_iff.1 h3
  by_cases hv0 : 0 ≤ vl
  · have e : ethF dm sm vl 2048 b = macF dm ++ macF sm ++ (word16 33024 ++ word16 vl) ++ word16 2048 ++ b := if_pos hv0
    have i4 : inB vl 0 65535 = true := inB_iff.2 (by omega)
    have w3 := word16_size i4
    have hz : (ethF dm sm vl 2048 b).size = 18 + b.size := by rw [e]; simp only [ByteArray.size_append, z1, z2, w1, w2, w3]
    have q0 : get16 (ethF dm sm vl 2048 b) ((0 : Nat) : Int) = dm / 4294967296 := g16m (a := ⟨#[]⟩) (r := word32 (dm % 4294967296) ++ (macF sm ++ (word16 33024 ++ (word16 vl ++ (word16 2048 ++ b))))) (by rw [e, ba_empty]; simp only [macF, ByteArray.append_assoc]) d1 rfl
    have q2 : get32 (ethF dm sm vl 2048 b) ((2 : Nat) : Int) = dm % 4294967296 := g32m (a := word16 (dm / 4294967296)) (r := macF sm ++ (word16 33024 ++ (word16 vl ++ (word16 2048 ++ b)))) (by rw [e]; simp only [macF, ByteArray.append_assoc]) d2 za.symm
    have q6 : get16 (ethF dm sm vl 2048 b) ((6 : Nat) : Int) = sm / 4294967296 := g16m (a := macF dm) (r := word32 (sm % 4294967296) ++ (word16 33024 ++ (word16 vl ++ (word16 2048 ++ b)))) (by rw [e]; simp only [macF, ByteArray.append_assoc]) s1 z1.symm
    have q8 : get32 (ethF dm sm vl 2048 b) ((8 : Nat) : Int) = sm % 4294967296 := g32m (a := macF dm ++ word16 (sm / 4294967296)) (r := word16 33024 ++ (word16 vl ++ (word16 2048 ++ b))) (by rw [e]; simp only [macF, ByteArray.append_assoc]) s2 (by rw [ByteArray.size_append, z1, zc])
    have q12 : get16 (ethF dm sm vl 2048 b) ((12 : Nat) : Int) = 33024 := g16m (a := macF dm ++ macF sm) (r := word16 vl ++ (word16 2048 ++ b)) (by rw [e]; simp only [ByteArray.append_assoc]) (by decide) (by rw [ByteArray.size_append, z1, z2])
    have q14 : get16 (ethF dm sm vl 2048 b) ((14 : Nat) : Int) = vl := g16m (a := macF dm ++ macF sm ++ word16 33024) (r := word16 2048 ++ b) (by rw [e]; simp only [ByteArray.append_assoc]) i4 (by simp only [ByteArray.size_append, z1, z2, w1])
    have q16 : get16 (ethF dm sm vl 2048 b) ((16 : Nat) : Int) = 2048 := g16m (a := macF dm ++ macF sm ++ (word16 33024 ++ word16 vl)) (r := b) (by rw [e]) (by decide) (by simp only [ByteArray.size_append, z1, z2, w1, w3])
    have qb : (ethF dm sm vl 2048 b).extract (Int.toNat 18) (ethF dm sm vl 2048 b).size = b := by
      rw [e]
      exact ex_r _ b (by simp only [ByteArray.size_append, z1, z2, w1, w2, w3]; rfl) rfl
    refine ⟨?_, by omega, _, e, by unfold sumsA; rw [show get16 (ethF dm sm vl 2048 b) 12 = 33024 from q12, if_pos rfl]; simp only [ByteArray.size_append, z1, z2, w1, w2, w3]; rfl⟩
    unfold ethX m6
    rw [if_pos ⟨q12, by omega⟩, qb]
    simp only [Int.zero_add, show (6 : Int) + 2 = 8 from rfl]
    rw [show get16 (ethF dm sm vl 2048 b) 0 = dm / 4294967296 from q0, show get32 (ethF dm sm vl 2048 b) 2 = dm % 4294967296 from q2, show get16 (ethF dm sm vl 2048 b) 6 = sm / 4294967296 from q6, show get32 (ethF dm sm vl 2048 b) 8 = sm % 4294967296 from q8, show get16 (ethF dm sm vl 2048 b) 14 = vl from q14, show get16 (ethF dm sm vl 2048 b) 16 = 2048 from q16, d3, s3]
  · have e : ethF dm sm vl 2048 b = macF dm ++ macF sm ++ word16 2048 ++ b := if_neg hv0
    have hz : (ethF dm sm vl 2048 b).size = 14 + b.size := by rw [e]; simp only [ByteArray.size_append, z1, z2, w2]
    have q0 : get16 (ethF dm sm vl 2048 b) ((0 : Nat) : Int) = dm / 4294967296 := g16m (a := ⟨#[]⟩) (r := word32 (dm % 4294967296) ++ (macF sm ++ (word16 2048 ++ b))) (by rw [e, ba_empty]; simp only [macF, ByteArray.append_assoc]) d1 rfl
    have q2 : get32 (ethF dm sm vl 2048 b) ((2 : Nat) : Int) = dm % 4294967296 := g32m (a := word16 (dm / 4294967296)) (r := macF sm ++ (word16 2048 ++ b)) (by rw [e]; simp only [macF, ByteArray.append_assoc]) d2 za.symm
    have q6 : get16 (ethF dm sm vl 2048 b) ((6 : Nat) : Int) = sm / 4294967296 := g16m (a := macF dm) (r := word32 (sm % 4294967296) ++ (word16 2048 ++ b)) (by rw [e]; simp only [macF, ByteArray.append_assoc]) s1 z1.symm
    have q8 : get32 (ethF dm sm vl 2048 b) ((8 : Nat) : Int) = sm % 4294967296 := g32m (a := macF dm ++ word16 (sm / 4294967296)) (r := word16 2048 ++ b) (by rw [e]; simp only [macF, ByteArray.append_assoc]) s2 (by rw [ByteArray.size_append, z1, zc])
    have q12 : get16 (ethF dm sm vl 2048 b) ((12 : Nat) : Int) = 2048 := g16m (a := macF dm ++ macF sm) (r := b) (by rw [e]) (by decide) (by rw [ByteArray.size_append, z1, z2])
    have qb : (ethF dm sm vl 2048 b).extract (Int.toNat 14) (ethF dm sm vl 2048 b).size = b := by
      rw [e]
      exact ex_r _ b (by simp only [ByteArray.size_append, z1, z2, w2]; rfl) rfl
    have q12' : get16 (ethF dm sm vl 2048 b) 12 = 2048 := q12
    refine ⟨?_, by omega, _, e, by unfold sumsA; rw [q12', if_neg (by decide)]; simp only [ByteArray.size_append, z1, z2, w2]; rfl⟩
    unfold ethX m6
    rw [if_neg (by rw [q12']; omega), qb, q12']
    simp only [Int.zero_add, show (6 : Int) + 2 = 8 from rfl]
    rw [show get16 (ethF dm sm vl 2048 b) 0 = dm / 4294967296 from q0, show get32 (ethF dm sm vl 2048 b) 2 = dm % 4294967296 from q2, show get16 (ethF dm sm vl 2048 b) 6 = sm / 4294967296 from q6, show get32 (ethF dm sm vl 2048 b) 8 = sm % 4294967296 from q8, d3, s3, show (-1 : Int) = vl by omega]
theorem ip_hdr0 {tos id ttl pr src dst : Int} {n : Nat} (h : ipOkB tos id ttl pr src dst n = true) : (ipH0 tos id ttl pr src dst n).size = 20 ∧ bAt (ipH0 tos id ttl pr src dst n) 1 = tos.toNat ∧ get16 (ipH0 tos id ttl pr src dst n) ((2 : Nat) : Int) = 20 + n ∧ get16 (ipH0 tos id ttl pr src dst n) ((4 : Nat) : Int) = id ∧ bAt (ipH0 tos id ttl pr src dst n) 8 = ttl.toNat ∧ bAt (ipH0 tos id ttl pr src dst n) 9 = pr.toNat ∧ get16 (ipH0 tos id ttl pr src dst n) ((10 : Nat) : Int) = 0 ∧ get32 (ipH0 tos id ttl pr src dst n) ((12 : Nat) : Int) = src ∧ get32 (ipH0 tos id ttl pr src dst n) ((16 : Nat) : Int) = dst := by
  unfold ipOkB at h
  simp only [Bool.and_eq_true, decide_eq_true_eq] at h
  obtain ⟨⟨⟨⟨⟨⟨i1, i2⟩, i3⟩, i4⟩, i5⟩, i6⟩, i7⟩ := h
  have b1 := inB_iff.1 i1; have b2 := inB_iff.1 i2; have b3 := inB_iff.1 i3
  have i8 : inB (20 + (n : Int)) 0 65535 = true := inB_iff.2 (by omega)
  have z1 := word16_size i8; have z2 := word16_size i4; have z5 := word32_size i5; have z6 := word32_size i6
  have z3 : (word16 16384).size = 2 := rfl
  have z4 : (word16 0).size = 2 := rfl
  have zz : ∀ a b : Int, (strOfNums [a, b]).size = 2 := fun a b => by rw [strOfNums_size]; rfl
  unfold ipH0
  refine ⟨by simp only [ByteArray.size_append, z1, z2, z3, z4, z5, z6, zz], ?_, ?_, ?_, ?_, ?_, ?_, ?_, ?_⟩
  · rw [bym (a := ⟨#[]⟩) (xs := [69, tos]) (k := 1) (r := word16 (20 + n) ++ (word16 id ++ (word16 16384 ++ (strOfNums [ttl, pr] ++ (word16 0 ++ (word32 src ++ word32 dst)))))) (by rw [ba_empty]; simp only [ByteArray.append_assoc]) (by simp) (i := 1) rfl]
    simp only [List.getElem_cons_succ, List.getElem_cons_zero]; omega
  · exact g16m (a := strOfNums [69, tos]) (r := word16 id ++ (word16 16384 ++ (strOfNums [ttl, pr] ++ (word16 0 ++ (word32 src ++ word32 dst))))) (by simp only [ByteArray.append_assoc]) i8 (zz _ _).symm
  · exact g16m (a := strOfNums [69, tos] ++ word16 (20 + n)) (r := word16 16384 ++ (strOfNums [ttl, pr] ++ (word16 0 ++ (word32 src ++ word32 dst)))) (by simp only [ByteArray.append_assoc]) i4 (by simp only [ByteArray.size_append, zz, z1])
  · rw [bym (a := strOfNums [69, tos] ++ word16 (20 + n) ++ word16 id ++ word16 16384) (xs := [ttl, pr]) (k := 0) (r := word16 0 ++ (word32 src ++ word32 dst)) (by simp only [ByteArray.append_assoc]) (by simp) (by simp only [ByteArray.size_append, zz, z1, z2, z3])]
    simp only [List.getElem_cons_zero]; omega
  · rw [bym (a := strOfNums [69, tos] ++ word16 (20 + n) ++ word16 id ++ word16 16384) (xs := [ttl, pr]) (k := 1) (r := word16 0 ++ (word32 src ++ word32 dst)) (by simp only [ByteArray.append_assoc]) (by simp) (by simp only [ByteArray.size_append, zz, z1, z2, z3])]
    simp only [List.getElem_cons_succ, List.getElem_cons_zero]; omega
  · exact g16m (a := strOfNums [69, tos] ++ word16 (20 + n) ++ word16 id ++ word16 16384 ++ strOfNums [ttl, pr]) (r := word32 src ++ word32 dst) (by simp only [ByteArray.append_assoc]) (by decide) (by simp only [ByteArray.size_append, zz, z1, z2, z3])
  · exact g32m (a := strOfNums [69, tos] ++ word16 (20 + n) ++ word16 id ++ word16 16384 ++ strOfNums [ttl, pr] ++ word16 0) (r := word32 dst) (by simp only [ByteArray.append_assoc]) i5 (by simp only [ByteArray.size_append, zz, z1, z2, z3, z4])
  · exact g32m (a := strOfNums [69, tos] ++ word16 (20 + n) ++ word16 id ++ word16 16384 ++ strOfNums [ttl, pr] ++ word16 0 ++ word32 src) (r := ⟨#[]⟩) (by rw [ba_append_nil]) i6 (by simp only [ByteArray.size_append, zz, z1, z2, z3, z4, z5])
theorem checkF_in (s : ByteArray) : inB (checkF s) 0 65535 = true := by
  have := sumF_bd s
  exact inB_iff.2 (by unfold checkF; omega)
theorem ip_hdr {tos id ttl pr src dst : Int} {n : Nat} (h : ipOkB tos id ttl pr src dst n = true) : (ipHF tos id ttl pr src dst n).size = 20 ∧ bAt (ipHF tos id ttl pr src dst n) 1 = tos.toNat ∧ get16 (ipHF tos id ttl pr src dst n) ((2 : Nat) : Int) = 20 + n ∧ get16 (ipHF tos id ttl pr src dst n) ((4 : Nat) : Int) = id ∧ bAt (ipHF tos id ttl pr src dst n) 8 = ttl.toNat ∧ bAt (ipHF tos id ttl pr src dst n) 9 = pr.toNat ∧ get32 (ipHF tos id ttl pr src dst n) ((12 : Nat) : Int) = src ∧ get32 (ipHF tos id ttl pr src dst n) ((16 : Nat) : Int) = dst := by
  obtain ⟨z, f1, f2, f3, f4, f5, f6, f7, f8⟩ := ip_hdr0 h
  have hw := word16_size (checkF_in (ipH0 tos id ttl pr src dst n))
  have hl : 10 + (word16 (checkF (ipH0 tos id ttl pr src dst n))).size ≤ (ipH0 tos id ttl pr src dst n).size := by omega
  unfold ipHF
  generalize word16 (checkF (ipH0 tos id ttl pr src dst n)) = c at *
  have e : (10 : Int) = ((10 : Nat) : Int) := rfl
  rw [e]
  refine ⟨by rw [putBF_size, z], ?_, ?_, ?_, ?_, ?_, ?_, ?_⟩
  · rw [putBF_at hl, if_neg (by omega), f1]
  · rw [get16_put hl (by omega), f2]
  · rw [get16_put hl (by omega), f3]
  · rw [putBF_at hl, if_neg (by omega), f4]
  · rw [putBF_at hl, if_neg (by omega), f5]
  · rw [get32_put hl (by omega), f7]
  · rw [get32_put hl (by omega), f8]
theorem pad_app (d : ByteArray) : ∃ r, padF d = d ++ r := by
  unfold padF
  split
  · exact ⟨_, rfl⟩
  · exact ⟨⟨#[]⟩, (ba_append_nil d).symm⟩
theorem ip_fields {tos id ttl pr src dst : Int} {g : ByteArray} (h : ipOkB tos id ttl pr src dst g.size = true) : ipX (padF (ipR tos id ttl pr src dst g)) = ⟨tos, id, ttl, pr, src, dst, g⟩ ∧ ipPB (padF (ipR tos id ttl pr src dst g)) = true ∧ get16 (padF (ipR tos id ttl pr src dst g)) 2 = 20 + g.size := by
  obtain ⟨z, f1, f2, f3, f4, f5, f6, f7⟩ := ip_hdr h
  have hR : ipR tos id ttl pr src dst g = ipHF tos id ttl pr src dst g.size ++ g := if_pos h
  have hb : ipOkB tos id ttl pr src dst g.size = true := h
  unfold ipOkB at h
  simp only [Bool.and_eq_true, decide_eq_true_eq] at h
  obtain ⟨⟨⟨⟨⟨⟨i1, i2⟩, i3⟩, i4⟩, i5⟩, i6⟩, i7⟩ := h
  have b1 := inB_iff.1 i1; have b2 := inB_iff.1 i2; have b3 := inB_iff.1 i3
  obtain ⟨r, hr⟩ := pad_app (ipR tos id ttl pr src dst g)
  have hpz := padF_le (ipR tos id ttl pr src dst g)
  have hdz : (ipR tos id ttl pr src dst g).size = 20 + g.size := by rw [hR, ByteArray.size_append, z]
  have k2 : get16 (padF (ipR tos id ttl pr src dst g)) ((2 : Nat) : Int) = 20 + g.size := by rw [hr, hR, ByteArray.append_assoc, g16_l (by omega), f2]
  have k4 : get16 (padF (ipR tos id ttl pr src dst g)) ((4 : Nat) : Int) = id := by rw [hr, hR, ByteArray.append_assoc, g16_l (by omega), f3]
  have k12 : get32 (padF (ipR tos id ttl pr src dst g)) ((12 : Nat) : Int) = src := by rw [hr, hR, ByteArray.append_assoc, g32_l (by omega), f6]
  have k16 : get32 (padF (ipR tos id ttl pr src dst g)) ((16 : Nat) : Int) = dst := by rw [hr, hR, ByteArray.append_assoc, g32_l (by omega), f7]
  have k1 : bAt (padF (ipR tos id ttl pr src dst g)) 1 = tos.toNat := by rw [hr, hR, ByteArray.append_assoc, by_l (by omega), f1]
  have k8 : bAt (padF (ipR tos id ttl pr src dst g)) 8 = ttl.toNat := by rw [hr, hR, ByteArray.append_assoc, by_l (by omega), f4]
  have k9 : bAt (padF (ipR tos id ttl pr src dst g)) 9 = pr.toNat := by rw [hr, hR, ByteArray.append_assoc, by_l (by omega), f5]
  have kb : (padF (ipR tos id ttl pr src dst g)).extract (Int.toNat 20) (20 + (g.size : Int)).toNat = g := by
    have := ex_mid (ipHF tos id ttl pr src dst g.size) g r
    rw [z] at this
    rw [hr, hR, show Int.toNat 20 = 20 from rfl, show (20 + (g.size : Int)).toNat = 20 + g.size by omega, this]
  have kd : (padF (ipR tos id ttl pr src dst g)).extract (Int.toNat 0) (20 + (g.size : Int)).toNat = ipR tos id ttl pr src dst g := by
    have := ex_mid ⟨#[]⟩ (ipR tos id ttl pr src dst g) r
    rw [ba_empty, hdz] at this
    rw [hr, show Int.toNat 0 = 0 from rfl, show (20 + (g.size : Int)).toNat = 20 + g.size by omega]
    have z0 : (⟨#[]⟩ : ByteArray).size = 0 := rfl
    rw [z0, Nat.zero_add] at this
    exact this
  have k2' : get16 (padF (ipR tos id ttl pr src dst g)) 2 = 20 + g.size := k2
  have eX : ipX (padF (ipR tos id ttl pr src dst g)) = ⟨tos, id, ttl, pr, src, dst, g⟩ := by
    unfold ipX
    rw [k1, show get16 (padF (ipR tos id ttl pr src dst g)) 4 = id from k4, k8, k9, show get32 (padF (ipR tos id ttl pr src dst g)) 12 = src from k12, show get32 (padF (ipR tos id ttl pr src dst g)) 16 = dst from k16, k2', kb, show ((tos.toNat : Nat) : Int) = tos by omega, show ((ttl.toNat : Nat) : Int) = ttl by omega, show ((pr.toNat : Nat) : Int) = pr by omega]
  refine ⟨eX, ?_, k2'⟩
  unfold ipPB
  rw [eX, k2', kd, decide_eq_true (show 20 ≤ (padF (ipR tos id ttl pr src dst g)).size by omega), decide_eq_true (show (20 : Int) ≤ 20 + g.size by omega), decide_eq_true (show 20 + (g.size : Int) ≤ ((padF (ipR tos id ttl pr src dst g)).size : Int) by omega), show (IpX.mk tos id ttl pr src dst g).ok = true from hb, show (IpX.mk tos id ttl pr src dst g).im = ipR tos id ttl pr src dst g from rfl, decide_eq_true rfl]
  rfl
def csF (src dst kind sp dp seq ack fl win : Int) (body : ByteArray) : Int := checkF (psF src dst kind (bareF kind sp dp seq ack fl win body).size ++ bareF kind sp dp seq ack fl win body)
def cyF (src dst kind sp dp seq ack fl win : Int) (body : ByteArray) : Int := if kind = 17 ∧ csF src dst kind sp dp seq ack fl win body = 0 then 65535 else csF src dst kind sp dp seq ack fl win body
theorem cyF_in (src dst kind sp dp seq ack fl win : Int) (body : ByteArray) : inB (cyF src dst kind sp dp seq ack fl win body) 0 65535 = true := by
  unfold cyF
  split
  · decide
  · exact checkF_in _
theorem segF_eq (src dst kind sp dp seq ack fl win : Int) (body : ByteArray) : segF src dst kind sp dp seq ack fl win body = putBF (bareF kind sp dp seq ack fl win body) (sumPl kind) (word16 (cyF src dst kind sp dp seq ack fl win body)) := rfl
theorem bare_tcp {sp dp seq ack fl win : Int} {body : ByteArray} (h : segOkB 6 sp dp seq ack fl win body.size = true) : (bareF 6 sp dp seq ack fl win body).size = 20 + body.size ∧ get16 (bareF 6 sp dp seq ack fl win body) ((0 : Nat) : Int) = sp ∧ get16 (bareF 6 sp dp seq ack fl win body) ((2 : Nat) : Int) = dp ∧ get32 (bareF 6 sp dp seq ack fl win body) ((4 : Nat) : Int) = seq ∧ get32 (bareF 6 sp dp seq ack fl win body) ((8 : Nat) : Int) = ack ∧ bAt (bareF 6 sp dp seq ack fl win body) 13 = fl.toNat ∧ get16 (bareF 6 sp dp seq ack fl win body) ((14 : Nat) : Int) = win ∧ get16 (bareF 6 sp dp seq ack fl win body) ((16 : Nat) : Int) = 0 ∧ (bareF 6 sp dp seq ack fl win body).extract 20 (bareF 6 sp dp seq ack fl win body).size = body := by
  unfold segOkB at h
  simp at h
  obtain ⟨⟨⟨i1, i2⟩, _⟩, i3, i4, i5, i6⟩ := h
  have b5 := inB_iff.1 i5
  have z1 := word16_size i1; have z2 := word16_size i2; have z3 := word32_size i3; have z4 := word32_size i4; have z6 := word16_size i6
  have z0 : (word16 0).size = 2 := rfl
  have zz : ∀ a b : Int, (strOfNums [a, b]).size = 2 := fun a b => by rw [strOfNums_size]; rfl
  have e : bareF 6 sp dp seq ack fl win body = word16 sp ++ word16 dp ++ word32 seq ++ word32 ack ++ strOfNums [80, fl] ++ word16 win ++ word16 0 ++ word16 0 ++ body := if_pos rfl
  rw [e]
  refine ⟨by simp only [ByteArray.size_append, z1, z2, z3, z4, z6, z0, zz], ?_, ?_, ?_, ?_, ?_, ?_, ?_, ?_⟩
  · exact g16m (a := ⟨#[]⟩) (r := word16 dp ++ (word32 seq ++ (word32 ack ++ (strOfNums [80, fl] ++ (word16 win ++ (word16 0 ++ (word16 0 ++ body))))))) (by rw [ba_empty]; simp only [ByteArray.append_assoc]) i1 rfl
  · exact g16m (a := word16 sp) (r := word32 seq ++ (word32 ack ++ (strOfNums [80, fl] ++ (word16 win ++ (word16 0 ++ (word16 0 ++ body)))))) (by simp only [ByteArray.append_assoc]) i2 z1.symm
  · exact g32m (a := word16 sp ++ word16 dp) (r := word32 ack ++ (strOfNums [80, fl] ++ (word16 win ++ (word16 0 ++ (word16 0 ++ body))))) (by simp only [ByteArray.append_assoc]) i3 (by simp only [ByteArray.size_append, z1, z2])
  · exact g32m (a := word16 sp ++ word16 dp ++ word32 seq) (r := strOfNums [80, fl] ++ (word16 win ++ (word16 0 ++ (word16 0 ++ body)))) (by simp only [ByteArray.append_assoc]) i4 (by simp only [ByteArray.size_append, z1, z2, z3])
  · rw [bym (a := word16 sp ++ word16 dp ++ word32 seq ++ word32 ack) (xs := [80, fl]) (k := 1) (r := word16 win ++ (word16 0 ++ (word16 0 ++ body))) (by simp only [ByteArray.append_assoc]) (by simp) (by simp only [ByteArray.size_append, z1, z2, z3, z4])]
    simp only [List.getElem_cons_succ, List.getElem_cons_zero]; omega
  · exact g16m (a := word16 sp ++ word16 dp ++ word32 seq ++ word32 ack ++ strOfNums [80, fl]) (r := word16 0 ++ (word16 0 ++ body)) (by simp only [ByteArray.append_assoc]) i6 (by simp only [ByteArray.size_append, z1, z2, z3, z4, zz])
  · exact g16m (a := word16 sp ++ word16 dp ++ word32 seq ++ word32 ack ++ strOfNums [80, fl] ++ word16 win) (r := word16 0 ++ body) (by simp only [ByteArray.append_assoc]) (by decide) (by simp only [ByteArray.size_append, z1, z2, z3, z4, zz, z6])
  · exact ex_r _ body (by simp only [ByteArray.size_append, z1, z2, z3, z4, zz, z6, z0]) rfl
theorem bare_udp {sp dp : Int} {body : ByteArray} (h : segOkB 17 sp dp 0 0 0 0 body.size = true) : (bareF 17 sp dp 0 0 0 0 body).size = 8 + body.size ∧ get16 (bareF 17 sp dp 0 0 0 0 body) ((0 : Nat) : Int) = sp ∧ get16 (bareF 17 sp dp 0 0 0 0 body) ((2 : Nat) : Int) = dp ∧ get16 (bareF 17 sp dp 0 0 0 0 body) ((6 : Nat) : Int) = 0 ∧ (bareF 17 sp dp 0 0 0 0 body).extract 8 (bareF 17 sp dp 0 0 0 0 body).size = body := by
  unfold segOkB at h
  simp at h
  obtain ⟨⟨i1, i2⟩, i3⟩ := h
  have i8 : inB (8 + (body.size : Int)) 0 65535 = true := inB_iff.2 (by omega)
  have z1 := word16_size i1; have z2 := word16_size i2; have z3 := word16_size i8
  have z0 : (word16 0).size = 2 := rfl
  have e : bareF 17 sp dp 0 0 0 0 body = word16 sp ++ word16 dp ++ word16 (8 + body.size) ++ word16 0 ++ body := if_neg (by decide)
  rw [e]
  refine ⟨by simp only [ByteArray.size_append, z1, z2, z3, z0], ?_, ?_, ?_, ?_⟩
  · exact g16m (a := ⟨#[]⟩) (r := word16 dp ++ (word16 (8 + body.size) ++ (word16 0 ++ body))) (by rw [ba_empty]; simp only [ByteArray.append_assoc]) i1 rfl
  · exact g16m (a := word16 sp) (r := word16 (8 + body.size) ++ (word16 0 ++ body)) (by simp only [ByteArray.append_assoc]) i2 z1.symm
  · exact g16m (a := word16 sp ++ word16 dp ++ word16 (8 + body.size)) (r := body) (by simp only [ByteArray.append_assoc]) (by decide) (by simp only [ByteArray.size_append, z1, z2, z3])
  · exact ex_r _ body (by simp only [ByteArray.size_append, z1, z2, z3, z0]) rfl
theorem seg_fields {src dst kind sp dp seq ack fl win : Int} {body : ByteArray} (h : segC src dst kind sp dp seq ack fl win body = true) : segX kind (segR src dst kind sp dp seq ack fl win body) = ⟨kind, sp, dp, seq, ack, fl, win, body⟩ ∧ segPB src dst kind (segR src dst kind sp dp seq ack fl win body) = true ∧ (segR src dst kind sp dp seq ack fl win body).size = (bareF kind sp dp seq ack fl win body).size ∧ sumPl kind + 2 ≤ (segR src dst kind sp dp seq ack fl win body).size ∧ (kind = 6 ∨ kind = 17) := by
  have hR : segR src dst kind sp dp seq ack fl win body = putBF (bareF kind sp dp seq ack fl win body) (sumPl kind) (word16 (cyF src dst kind sp dp seq ack fl win body)) := (if_pos h).trans (segF_eq ..)
  have hS : segOkB kind sp dp seq ack fl win body.size = true := by unfold segC at h; rw [Bool.and_eq_true] at h; exact h.1
  have hz : (segR src dst kind sp dp seq ack fl win body).size = (bareF kind sp dp seq ack fl win body).size := by rw [hR, putBF_size]
  have hw := word16_size (cyF_in src dst kind sp dp seq ack fl win body)
  rcases (segOk_kind hS).1 with rfl | rfl
  · obtain ⟨z, f0, f2, f4, f8, f13, f14, f16, fb⟩ := bare_tcp hS
    have hfl := segOk_fl hS
    have hp : sumPl 6 = ((16 : Nat) : Int) := rfl
    have hl : 16 + (word16 (cyF src dst 6 sp dp seq ack fl win body)).size ≤ (bareF 6 sp dp seq ack fl win body).size := by omega
    have eX : segX 6 (segR src dst 6 sp dp seq ack fl win body) = ⟨6, sp, dp, seq, ack, fl, win, body⟩ := by
      unfold segX
      rw [if_pos rfl, hz]
      rw [hR, hp]
      rw [show (0 : Int) = ((0 : Nat) : Int) from rfl, show (2 : Int) = ((2 : Nat) : Int) from rfl, show (4 : Int) = ((4 : Nat) : Int) from rfl, show (8 : Int) = ((8 : Nat) : Int) from rfl, show (14 : Int) = ((14 : Nat) : Int) from rfl]
      rw [get16_put hl (by omega), get16_put hl (by omega), get32_put hl (by omega), get32_put hl (by omega), get16_put hl (by omega), putBF_at hl, if_neg (by omega), f0, f2, f4, f8, f13, f14, show Int.toNat 20 = 20 from rfl, ex_put hl (by omega), fb]
      rw [show ((fl.toNat : Nat) : Int) = fl by omega]
    refine ⟨eX, ?_, hz, by rw [hz, z]; unfold sumPl; rw [if_pos rfl]; omega, .inl rfl⟩
    unfold segPB
    rw [eX, show (SegX.mk 6 sp dp seq ack fl win body).ok src dst = true from h, show (SegX.mk 6 sp dp seq ack fl win body).im src dst = segR src dst 6 sp dp seq ack fl win body from rfl, decide_eq_true rfl, decide_eq_true (show 20 ≤ (segR src dst 6 sp dp seq ack fl win body).size by omega), decide_eq_true rfl]
    rfl
  · have hzero : seq = 0 ∧ ack = 0 ∧ fl = 0 ∧ win = 0 := by
      unfold segOkB at hS
      simp at hS
      exact hS.2
    obtain ⟨rfl, rfl, rfl, rfl⟩ := hzero
    obtain ⟨z, f0, f2, f6, fb⟩ := bare_udp hS
    have hp : sumPl 17 = ((6 : Nat) : Int) := rfl
    have hl : 6 + (word16 (cyF src dst 17 sp dp 0 0 0 0 body)).size ≤ (bareF 17 sp dp 0 0 0 0 body).size := by omega
    have eX : segX 17 (segR src dst 17 sp dp 0 0 0 0 body) = ⟨17, sp, dp, 0, 0, 0, 0, body⟩ := by
      unfold segX
      rw [if_neg (by decide), hz]
      rw [show get16 (segR src dst 17 sp dp 0 0 0 0 body) 0 = sp from by rw [hR, hp]; exact (get16_put (j := 0) hl (by omega)).trans f0, show get16 (segR src dst 17 sp dp 0 0 0 0 body) 2 = dp from by rw [hR, hp]; exact (get16_put (j := 2) hl (by omega)).trans f2]
      rw [hR, hp, show Int.toNat 8 = 8 from rfl, ex_put hl (by omega), fb]
    refine ⟨eX, ?_, hz, by rw [hz, z]; unfold sumPl; rw [if_neg (by decide)]; omega, .inr rfl⟩
    unfold segPB
    rw [eX, show (SegX.mk 17 sp dp 0 0 0 0 body).ok src dst = true from h, show (SegX.mk 17 sp dp 0 0 0 0 body).im src dst = segR src dst 17 sp dp 0 0 0 0 body from rfl, decide_eq_true rfl, decide_eq_true (show 8 ≤ (segR src dst 17 sp dp 0 0 0 0 body).size by omega), decide_eq_true rfl]
    rfl
def Pk.sg (p : Pk) : ByteArray := segR p.si p.di p.kind p.sp p.dp p.seq p.ack p.fl p.win p.body
def Pk.pd (p : Pk) : ByteArray := padF (ipR p.tos p.id p.ttl p.kind p.si p.di p.sg)
theorem sup_parts {p : Pk} (h : p.sup = true) : p.im = ethF p.dm p.sm p.vl 2048 p.pd ∧ 46 ≤ p.pd.size ∧ p.pd.size ≤ 400 ∧ ethOkB p.dm p.sm p.vl 2048 p.pd.size = true ∧ ipOkB p.tos p.id p.ttl p.kind p.si p.di p.sg.size = true ∧ segC p.si p.di p.kind p.sp p.dp p.seq p.ack p.fl p.win p.body = true := by
  obtain ⟨h1, h2, h3, h4, h5, h6, h7, h8, h9, h10⟩ := superOk_facts h
  have e := (sup_img h).1
  unfold supC at e
  rw [Bool.and_eq_true] at e
  have e2 : ethOkB p.dm p.sm p.vl 2048 p.pd.size = true := e.2
  have hi : p.im = ethF p.dm p.sm p.vl 2048 p.pd := by
    unfold Pk.im imgR
    rw [if_pos (show superOkB _ _ _ _ _ _ _ _ _ _ _ _ _ _ _ _ = true from h), ethR, if_pos e.2]; rfl
  have hb : inB (p.pd.size : Int) 46 400 = true := by
    unfold ethOkB at e2
    simp only [Bool.and_eq_true] at e2
    exact e2.2
  have hb2 := inB_iff.1 hb
  have hk := segOk_kind h9
  have hbz := bare_le p.kind p.sp p.dp p.seq p.ack p.fl p.win p.body
  have hkb : inB p.kind 0 255 = true := inB_iff.2 (by omega)
  have hC : segC p.si p.di p.kind p.sp p.dp p.seq p.ack p.fl p.win p.body = true := by
    unfold segC psOkB
    rw [h9, h7, h8, hkb, inB_iff.2 (show (0 : Int) ≤ ((bareF p.kind p.sp p.dp p.seq p.ack p.fl p.win p.body).size : Int) ∧ ((bareF p.kind p.sp p.dp p.seq p.ack p.fl p.win p.body).size : Int) ≤ 65535 by omega)]
    rfl
  have hsz : p.sg.size ≤ 340 := by
    have : p.sg.size = (bareF p.kind p.sp p.dp p.seq p.ack p.fl p.win p.body).size := (seg_fields hC).2.2.1
    omega
  refine ⟨hi, by omega, by omega, e2, ?_, hC⟩
  unfold ipOkB
  rw [h4, h5, hkb, h6, h7, h8, decide_eq_true (by omega)]
  rfl
theorem rd_im {p : Pk} (h : p.sup = true) : rdC p.im = 0 ∧ rdF p.im = p := by
  obtain ⟨hi, b1, b2, e1, e2, e3⟩ := sup_parts h
  obtain ⟨h1, h2, h3, h4, h5, h6, h7, h8, h9, h10⟩ := superOk_facts h
  obtain ⟨eE, z, _⟩ := eth_fields h1 h2 h3 b1
  obtain ⟨eI, pI, _⟩ := ip_fields e2
  obtain ⟨eS, pS, _⟩ := seg_fields e3
  rw [← hi] at eE z
  have pE : ethPB p.im = true := by
    unfold ethPB
    rw [eE, decide_eq_true z]
    exact e1
  have eI' : ipX (ethX p.im).body = ⟨p.tos, p.id, p.ttl, p.kind, p.si, p.di, p.sg⟩ := by rw [eE]; exact eI
  have hX : rdX p.im = p := by
    unfold rdX
    rw [eI']
    show mkPk (ethX p.im) ⟨p.tos, p.id, p.ttl, p.kind, p.si, p.di, p.sg⟩ (segX p.kind p.sg) = p
    rw [show segX p.kind p.sg = ⟨p.kind, p.sp, p.dp, p.seq, p.ack, p.fl, p.win, p.body⟩ from eS, eE]
    rfl
  have := rd_0 (s := p.im) pE (by rw [eE]) (by rw [eE]; exact pI) (by rw [eI']; exact pS) (by rw [hX]; exact h)
  exact ⟨this.2, this.1.trans hX⟩
end Go.Proofs.YtfcmcedeapgdcaaGreat
end
section
namespace Go.Proofs.YtfcmcedeapgdcaaGreat
open Go Go.RowKit Go.Vc
set_option linter.unusedVariables false
set_option linter.unusedSimpArgs false
set_option linter.unnecessarySimpa false
end Go.Proofs.YtfcmcedeapgdcaaGreat
end
section
namespace Go.Proofs.YtfcmcedeapgdcaaGreat
open Go Go.RowKit Go.Vc
set_option linter.unusedVariables false
set_option linter.unusedSimpArgs false
set_option linter.unnecessarySimpa false
def encT (d : Dsc) : ByteArray := encD d.1 d.2.1 d.2.2.1 d.2.2.2.1 d.2.2.2.2.1 d.2.2.2.2.2
theorem dec_enc {d : Dsc} (h : dOk d = true) : decDF (encT d) = (d, true) := by
  obtain ⟨op, fl, ln, at_, sz, ck⟩ := d
  have h' : descB op fl ln at_ sz ck = true := h
  have hb := descB_iff.1 h'
  obtain ⟨i1, i2, i3, i4, i5, i6⟩ := hb
  have z1 := word16_size (inB_iff.2 i3); have z2 := word32_size (inB_iff.2 i6); have z3 := word16_size (inB_iff.2 i4); have z4 := word16_size (inB_iff.2 i5)
  have zz : ∀ a b : Int, (strOfNums [a, b]).size = 2 := fun a b => by rw [strOfNums_size]; rfl
  have hz := encD_size h'
  have e : encD op fl ln at_ sz ck = strOfNums [op, fl] ++ word16 ln ++ word32 at_ ++ word16 sz ++ word16 ck ++ word32 0 := rfl
  have b0n : bAt (encD op fl ln at_ sz ck) 0 = op.toNat % 256 := bym (a := ⟨#[]⟩) (xs := [op, fl]) (k := 0) (r := word16 ln ++ (word32 at_ ++ (word16 sz ++ (word16 ck ++ word32 0)))) (by rw [ba_empty, e]; simp only [ByteArray.append_assoc]) (by simp) rfl
  have b1n : bAt (encD op fl ln at_ sz ck) 1 = fl.toNat % 256 := bym (a := ⟨#[]⟩) (xs := [op, fl]) (k := 1) (r := word16 ln ++ (word32 at_ ++ (word16 sz ++ (word16 ck ++ word32 0)))) (by rw [ba_empty, e]; simp only [ByteArray.append_assoc]) (by simp) rfl
  have b0 : (bAt (encD op fl ln at_ sz ck) 0 : Int) = op := by rw [b0n]; omega
  have b1 : (bAt (encD op fl ln at_ sz ck) 1 : Int) = fl := by rw [b1n]; omega
  have b2 : get16 (encD op fl ln at_ sz ck) ((2 : Nat) : Int) = ln := g16m (a := strOfNums [op, fl]) (r := word32 at_ ++ (word16 sz ++ (word16 ck ++ word32 0))) (by rw [e]; simp only [ByteArray.append_assoc]) (inB_iff.2 i3) (zz _ _).symm
  have b4 : get32 (encD op fl ln at_ sz ck) ((4 : Nat) : Int) = at_ := g32m (a := strOfNums [op, fl] ++ word16 ln) (r := word16 sz ++ (word16 ck ++ word32 0)) (by rw [e]; simp only [ByteArray.append_assoc]) (inB_iff.2 i6) (by simp only [ByteArray.size_append, zz, z1])
  have b8 : get16 (encD op fl ln at_ sz ck) ((8 : Nat) : Int) = sz := g16m (a := strOfNums [op, fl] ++ word16 ln ++ word32 at_) (r := word16 ck ++ word32 0) (by rw [e]; simp only [ByteArray.append_assoc]) (inB_iff.2 i4) (by simp only [ByteArray.size_append, zz, z1, z2])
  have b10 : get16 (encD op fl ln at_ sz ck) ((10 : Nat) : Int) = ck := g16m (a := strOfNums [op, fl] ++ word16 ln ++ word32 at_ ++ word16 sz) (r := word32 0) (by rw [e]) (inB_iff.2 i5) (by simp only [ByteArray.size_append, zz, z1, z2, z3])
  have b2' : get16 (encD op fl ln at_ sz ck) 2 = ln := b2
  have b4' : get32 (encD op fl ln at_ sz ck) 4 = at_ := b4
  have b8' : get16 (encD op fl ln at_ sz ck) 8 = sz := b8
  have b10' : get16 (encD op fl ln at_ sz ck) 10 = ck := b10
  show decDF (encD op fl ln at_ sz ck) = _
  unfold decDF decX
  have hen : encDF op fl ln at_ sz ck = encD op fl ln at_ sz ck := if_pos h'
  rw [if_pos hz, b0, b1, b2', b4', b8', b10', if_pos hen]
def pos (s h : Int) (i : Nat) : Int := (h + i) % (2 * s)
theorem pos_ok {s h t : Int} {i : Nat} (q : ringOkB 0 s h t = true) (hi : (i : Int) ≤ usedF s h t) : ringOkB 0 s (pos s h i) t = true ∧ usedF s (pos s h i) t = usedF s h t - i := by
  obtain ⟨hs, b0, b1, s0, s1, h0, h1, t0, t1, u1, u0⟩ := ringOk_facts q
  unfold usedF at *
  have key : 0 ≤ (h + i) % (2 * s) ∧ (h + i) % (2 * s) ≤ 2 * s - 1 ∧ (t - (h + i) % (2 * s)) % (2 * s) = (t - h) % (2 * s) - i := by
    rcases sizeB_cases hs with rfl | rfl | rfl | rfl <;> omega
  obtain ⟨k1, k2, k3⟩ := key
  refine ⟨?_, k3⟩
  simp only [ringOkB, Bool.and_eq_true, inB_iff, decide_eq_true_eq, pos]
  exact ⟨⟨⟨⟨⟨b0, b1⟩, hs⟩, k1, k2⟩, t0, t1⟩, by first | omega | exact decide_eq_true (by omega)⟩
def catP (ps : Pg) : List Pc → ByteArray
  | [] => ⟨#[]⟩
  | p :: r => fs 12 ps p.1 p.2.toNat ++ catP ps r
structure Lies (s : Int) (ps : Pg) (h : Int) (pcs : List Pc) (size ck : Int) (T : ByteArray) : Prop where
  db : descrB pcs size ck = true
  sl : ∀ j : Nat, j < pcs.length + 1 → fs 12 ps ((h + j) % s * 16) 16 = encT (dAt pcs size ck j)
  pb : ∀ p ∈ pcs, 0 ≤ p.1 ∧ p.1 + p.2 ≤ 1536
  tx : catP ps pcs = T
theorem Lies.ok {s : Int} {ps : Pg} {h : Int} {pcs : List Pc} {size ck : Int} {T : ByteArray} (L : Lies s ps h pcs size ck T) : 0 < pcs.length ∧ pcs.length ≤ 16 ∧ pcsOk pcs = true ∧ inB size 1 128 = true ∧ (∀ j, j < pcs.length + 1 → dOk (dAt pcs size ck j) = true) := by
  have h := L.db
  unfold descrB at h
  simp only [Bool.and_eq_true, Bool.not_eq_true', decide_eq_false_iff_not] at h
  obtain ⟨h1, h2, h3, h4⟩ := h
  refine ⟨List.length_pos_iff.2 h1, (pcsOk_iff.1 h2).2, h2, h3, fun j hj => ?_⟩
  have := List.all_eq_true.1 h4 (at' (dsF pcs size ck (pcs.length + 1)) j) (atp_mem (by rw [dsF_len]; exact hj))
  rwa [dsF_at hj] at this
end Go.Proofs.YtfcmcedeapgdcaaGreat
end
section
namespace Go.Proofs.YtfcmcedeapgdcaaGreat
open Go Go.RowKit Go.Vc
set_option linter.unusedVariables false
set_option linter.unusedSimpArgs false
set_option linter.unnecessarySimpa false
def fhOk (rb rs rh rt db ds dc vb vs vc dm sm vl tos id ttl si di kind sp dp seq ack fl win : Int) (body : ByteArray) (size count : Int) (hold : Bool) (dropped : Int) (key : ByteArray) : Bool := rxOkB rb rs rh rt db ds dc vb vs vc dm sm vl tos id ttl si di kind sp dp seq ack fl win body size count hold dropped && (hold && decide (key.size = 16))
def fhG (l : List Mp) (ps : Pg) (d rb rs rh rt db ds dc vb vs vc dm sm vl tos id ttl si di kind sp dp seq ack fl win : Int) (body : ByteArray) (size count : Int) (hold : Bool) (dropped : Int) (key : ByteArray) : Bool := fhOk rb rs rh rt db ds dc vb vs vc dm sm vl tos id ttl si di kind sp dp seq ack fl win body size count hold dropped key && ((rtakeF l ps d rb rs rh rt).2.2 && (stF l ps d db ds dc dm sm vl tos id ttl si di kind sp dp seq ack fl win body size count key (rtakeF l ps d rb rs rh rt).1).2.2)
def fhI (b : Bool) (x : Int) : Int := bif b then 0 else x
def fhS (b : Bool) (x : ByteArray) : ByteArray := bif b then ⟨#[]⟩ else x
def fhD (b g : Bool) (x y : Int) : Int := bif b then (bif g then x else x + y) else x
theorem rt_le (l : List Mp) (ps : Pg) (d b s h t : Int) : (rtakeF l ps d b s h t).1.size ≤ 16 := by
  rcases Bool.eq_false_or_eq_true (rtakeF l ps d b s h t).2.2 with h1 | h1
  · by_cases g1 : ringOkB b s h t = true
    · by_cases g2 : usedF s h t = 0
      · rw [rt_n (.inr (.inl g2))]; exact Nat.zero_le _
      · rcases Bool.eq_false_or_eq_true (dmaRF l ps d (rslot b s h) 16).2 with g3 | g3
        · rw [rt_y g1 g2 g3]
          have := dmaRF_size (l := l) (ps := ps) (d := d) (a := rslot b s h) (n := 16) (t := (dmaRF l ps d (rslot b s h) 16).1) (by rw [← g3])
          simp only
          omega
        · rw [rt_n (.inr (.inr g3))]; exact Nat.zero_le _
    · rw [rt_n (.inl (by simpa using g1))]; exact Nat.zero_le _
  · by_cases g1 : ringOkB b s h t = true
    · by_cases g2 : usedF s h t = 0
      · rw [rt_n (.inr (.inl g2))]; exact Nat.zero_le _
      · rcases Bool.eq_false_or_eq_true (dmaRF l ps d (rslot b s h) 16).2 with g3 | g3
        · rw [rt_y g1 g2 g3] at h1; cases h1
        · rw [rt_n (.inr (.inr g3))]; exact Nat.zero_le _
    · rw [rt_n (.inl (by simpa using g1))]; exact Nat.zero_le _
theorem rt_same {l : List Mp} {ps : Pg} {d b s h t : Int} (hh : (rtakeF l ps d b s h t).2.2 = false) : (rtakeF l ps d b s h t).2.1 = h := by
  by_cases g1 : ringOkB b s h t = true
  · by_cases g2 : usedF s h t = 0
    · rw [rt_n (.inr (.inl g2))]
    · rcases Bool.eq_false_or_eq_true (dmaRF l ps d (rslot b s h) 16).2 with g3 | g3
      · rw [rt_y g1 g2 g3] at hh; cases hh
      · rw [rt_n (.inr (.inr g3))]
  · rw [rt_n (.inl (by simpa using g1))]
theorem rx_held {rb rs rh rt db ds dc vb vs vc dm sm vl tos id ttl si di kind sp dp seq ack fl win size count dropped : Int} {body : ByteArray} {hold : Bool} (h2 : hold = true) (h : rxOkB rb rs rh rt db ds dc vb vs vc dm sm vl tos id ttl si di kind sp dp seq ack fl win body size count hold dropped = true) : superOkB dm sm vl tos id ttl si di kind sp dp seq ack fl win body.size = true ∧ (0 ≤ size ∧ size ≤ 320) ∧ (1 ≤ count ∧ count ≤ 320) ∧ 0 ≤ dropped ∧ dropped ≤ 1000000000000 := by
  subst h2
  simp only [rxOkB, if_true, Bool.and_eq_true] at h
  exact ⟨h.2.2.2.2.2.2.1, inB_iff.1 h.2.2.2.2.2.2.2.1, inB_iff.1 h.2.2.2.2.2.2.2.2, inB_iff.1 h.2.2.2.2.2.1⟩
theorem fh_no {l : List Mp} {ps : Pg} {d rb rs rh rt db ds dc vb vs vc dm sm vl tos id ttl si di kind sp dp seq ack fl win size count dropped : Int} {body key : ByteArray} {hold : Bool} (h : rxOkB rb rs rh rt db ds dc vb vs vc dm sm vl tos id ttl si di kind sp dp seq ack fl win body size count hold dropped = false ∨ hold = false ∨ ¬ key.size = 16) : fhOk rb rs rh rt db ds dc vb vs vc dm sm vl tos id ttl si di kind sp dp seq ack fl win body size count hold dropped key = false ∧ fhG l ps d rb rs rh rt db ds dc vb vs vc dm sm vl tos id ttl si di kind sp dp seq ack fl win body size count hold dropped key = false := by
  have h1 : fhOk rb rs rh rt db ds dc vb vs vc dm sm vl tos id ttl si di kind sp dp seq ack fl win body size count hold dropped key = false := by
    unfold fhOk
    rcases h with h | h | h
    · rw [h]; rfl
    · rw [h]; simp
    · rw [decide_eq_false h]; simp
  exact ⟨h1, by unfold fhG; rw [h1]; rfl⟩
theorem fh_yes {l : List Mp} {ps : Pg} {d rb rs rh rt db ds dc vb vs vc dm sm vl tos id ttl si di kind sp dp seq ack fl win size count dropped : Int} {body key : ByteArray} {hold : Bool} (h1 : rxOkB rb rs rh rt db ds dc vb vs vc dm sm vl tos id ttl si di kind sp dp seq ack fl win body size count hold dropped = true) (h2 : hold = true) (h3 : key.size = 16) : fhOk rb rs rh rt db ds dc vb vs vc dm sm vl tos id ttl si di kind sp dp seq ack fl win body size count hold dropped key = true ∧ fhG l ps d rb rs rh rt db ds dc vb vs vc dm sm vl tos id ttl si di kind sp dp seq ack fl win body size count hold dropped key = ((rtakeF l ps d rb rs rh rt).2.2 && (stF l ps d db ds dc dm sm vl tos id ttl si di kind sp dp seq ack fl win body size count key (rtakeF l ps d rb rs rh rt).1).2.2) := by
  have h : fhOk rb rs rh rt db ds dc vb vs vc dm sm vl tos id ttl si di kind sp dp seq ack fl win body size count hold dropped key = true := by unfold fhOk; rw [h1, h2, decide_eq_true h3]; rfl
  exact ⟨h, by unfold fhG; rw [h]; rfl⟩
set_option maxHeartbeats 4000000 in
theorem c_impl_FlushHeld {l : List Mp} {ps : Pg} {d rb rs rh rt db ds dc vb vs vc dm sm vl tos id ttl si di kind sp dp seq ack fl win size count dropped : Int} {body key : ByteArray} {hold : Bool} (hl : l.length ≤ 1099511627776 := by first | assumption | omega) (hp : ps.length ≤ 1099511627776 := by first | assumption | omega) (hsk : key.size ≤ 1099511627776 := by first | assumption | omega) : Con0 Tryz.prog 10 [.one (.sl 4 (l.map mpE)), .agg [.sl 1 (ps.map strE)], I d, .agg [V rb, V rs, V rh, V rt, V db, V ds, V dc, V vb, V vs, V vc, V dm, V sm, V vl, V tos, V id, V ttl, V si, V di, V kind, V sp, V dp, V seq, V ack, V fl, V win, VS body, V size, V count, VB hold, V dropped], Z key] (.tup [.agg [.hs 0], .agg [V rb, V rs, V (bif fhOk rb rs rh rt db ds dc vb vs vc dm sm vl tos id ttl si di kind sp dp seq ack fl win body size count hold dropped key then (rtakeF l ps d rb rs rh rt).2.1 else rh), V rt, V db, V ds, V (bif fhG l ps d rb rs rh rt db ds dc vb vs vc dm sm vl tos id ttl si di kind sp dp seq ack fl win body size count hold dropped key then (stF l ps d db ds dc dm sm vl tos id ttl si di kind sp dp seq ack fl win body size count key (rtakeF l ps d rb rs rh rt).1).2.1 else dc), V vb, V vs, V vc, V (fhI (fhOk rb rs rh rt db ds dc vb vs vc dm sm vl tos id ttl si di kind sp dp seq ack fl win body size count hold dropped key) dm), V (fhI (fhOk rb rs rh rt db ds dc vb vs vc dm sm vl tos id ttl si di kind sp dp seq ack fl win body size count hold dropped key) sm), V (fhI (fhOk rb rs rh rt db ds dc vb vs vc dm sm vl tos id ttl si di kind sp dp seq ack fl win body size count hold dropped key) vl), V (fhI (fhOk rb rs rh rt db ds dc vb vs vc dm sm vl tos id ttl si di kind sp dp seq ack fl win body size count hold dropped key) tos), V (fhI (fhOk rb rs rh rt db ds dc vb vs vc dm sm vl tos id ttl si di kind sp dp seq ack fl win body size count hold dropped key) id), V (fhI (fhOk rb rs rh rt db ds dc vb vs vc dm sm vl tos id ttl si di kind sp dp seq ack fl win body size count hold dropped key) ttl), V (fhI (fhOk rb rs rh rt db ds dc vb vs vc dm sm vl tos id ttl si di kind sp dp seq ack fl win body size count hold dropped key) si), V (fhI (fhOk rb rs rh rt db ds dc vb vs vc dm sm vl tos id ttl si di kind sp dp seq ack fl win body size count hold dropped key) di), V (fhI (fhOk rb rs rh rt db ds dc vb vs vc dm sm vl tos id ttl si di kind sp dp seq ack fl win body size count hold dropped key) kind), V (fhI (fhOk rb rs rh rt db ds dc vb vs vc dm sm vl tos id ttl si di kind sp dp seq ack fl win body size count hold dropped key) sp), V (fhI (fhOk rb rs rh rt db ds dc vb vs vc dm sm vl tos id ttl si di kind sp dp seq ack fl win body size count hold dropped key) dp), V (fhI (fhOk rb rs rh rt db ds dc vb vs vc dm sm vl tos id ttl si di kind sp dp seq ack fl win body size count hold dropped key) seq), V (fhI (fhOk rb rs rh rt db ds dc vb vs vc dm sm vl tos id ttl si di kind sp dp seq ack fl win body size count hold dropped key) ack), V (fhI (fhOk rb rs rh rt db ds dc vb vs vc dm sm vl tos id ttl si di kind sp dp seq ack fl win body size count hold dropped key) fl), V (fhI (fhOk rb rs rh rt db ds dc vb vs vc dm sm vl tos id ttl si di kind sp dp seq ack fl win body size count hold dropped key) win), VS (fhS (fhOk rb rs rh rt db ds dc vb vs vc dm sm vl tos id ttl si di kind sp dp seq ack fl win body size count hold dropped key) body), V (fhI (fhOk rb rs rh rt db ds dc vb vs vc dm sm vl tos id ttl si di kind sp dp seq ack fl win body size count hold dropped key) size), V (fhI (fhOk rb rs rh rt db ds dc vb vs vc dm sm vl tos id ttl si di kind sp dp seq ack fl win body size count hold dropped key) count), VB (bif fhOk rb rs rh rt db ds dc vb vs vc dm sm vl tos id ttl si di kind sp dp seq ack fl win body size count hold dropped key then false else hold), V (fhD (fhOk rb rs rh rt db ds dc vb vs vc dm sm vl tos id ttl si di kind sp dp seq ack fl win body size count hold dropped key) (fhG l ps d rb rs rh rt db ds dc vb vs vc dm sm vl tos id ttl si di kind sp dp seq ack fl win body size count hold dropped key) dropped count)]]) [(0, .arr 9 1 ((bif fhG l ps d rb rs rh rt db ds dc vb vs vc dm sm vl tos id ttl si di kind sp dp seq ack fl win body size count hold dropped key then (stF l ps d db ds dc dm sm vl tos id ttl si di kind sp dp seq ack fl win body size count key (rtakeF l ps d rb rs rh rt).1).1 else ps).map strE))] := by
  refine con_i Tryz.func10 Tryz.ntmps10 (t := [(0, .one (.sl 4 (l.map mpE))), (1, .agg [.sl 1 (ps.map strE)]), (2, I d), (3, .agg [V rb, V rs, V rh, V rt, V db, V ds, V dc, V vb, V vs, V vc, V dm, V sm, V vl, V tos, V id, V ttl, V si, V di, V kind, V sp, V dp, V seq, V ack, V fl, V win, VS body, V size, V count, VB hold, V dropped]), (4, Z key)]) rfl ?_
  refine vc_sr ?_
  iterate 4 refine vo ?_
  refine vnt ?_
  refine vc_seq' ?_
  refine vc_sr ?_
  refine vo ?_
  refine voc c_impl_RxOk rfl rfl ?_
  iterate 2 refine vo ?_
  refine vsp (fun g1 => ?_) (fun g1 => ?_)
  · iterate 3 refine vof ?_
    iterate 2 refine vo ?_
    iterate 3 refine vof ?_
    refine vo ?_
    refine vnt ?_
    refine vc_then ?_
    refine vc_sr ?_
    refine vo ?_
    refine voc c_impl_copyMemory rfl rfl ?_
    iterate 3 refine vo ?_
    refine vnt ?_
    refine vc_ret ?_
    refine thn_r ?_
    have hno : fhOk rb rs rh rt db ds dc vb vs vc dm sm vl tos id ttl si di kind sp dp seq ack fl win body size count hold dropped key = false ∧ fhG l ps d rb rs rh rt db ds dc vb vs vc dm sm vl tos id ttl si di kind sp dp seq ack fl win body size count hold dropped key = false := fh_no (.inl g1)
    obtain ⟨hok, hg⟩ := hno
    refine fin_i [(0, some 264)] rfl (fz ?_) (fz ?_)
    · simp only [hok, hg, fhI, fhS, fhD, cond_true, cond_false]; first | trivial | simp | trace_state
    · simp only [hok, hg, fhI, fhS, fhD, cond_true, cond_false]
  · iterate 3 refine von ?_
    iterate 2 refine vo ?_
    refine vsp (fun g2 => ?_) (fun g2 => ?_)
    · iterate 3 refine vof ?_
      refine vo ?_
      refine vnt ?_
      refine vc_then ?_
      refine vc_sr ?_
      refine vo ?_
      refine voc c_impl_copyMemory rfl rfl ?_
      iterate 3 refine vo ?_
      refine vnt ?_
      refine vc_ret ?_
      refine thn_r ?_
      have hno : fhOk rb rs rh rt db ds dc vb vs vc dm sm vl tos id ttl si di kind sp dp seq ack fl win body size count hold dropped key = false ∧ fhG l ps d rb rs rh rt db ds dc vb vs vc dm sm vl tos id ttl si di kind sp dp seq ack fl win body size count hold dropped key = false := fh_no (.inr (.inl g2))
      obtain ⟨hok, hg⟩ := hno
      refine fin_i [(0, some 264)] rfl (fz ?_) (fz ?_)
      · simp only [hok, hg, fhI, fhS, fhD, cond_true, cond_false]; first | trivial | simp | trace_state
      · simp only [hok, hg, fhI, fhS, fhD, cond_true, cond_false]
    · obtain ⟨hsp, hsz, hct, hdr⟩ := rx_held g2 g1
      have hen := rt_le l ps d rb rs rh rt
      iterate 3 refine von ?_
      refine vo ?_
      refine vnt ?_
      refine vc_if (fun g3 => ?_) (fun g3 => ?_)
      · refine vc_sr ?_
        refine vo ?_
        refine voc c_impl_copyMemory rfl rfl ?_
        iterate 3 refine vo ?_
        refine vnt ?_
        refine vc_ret ?_
        refine thn_r ?_
        have hno : fhOk rb rs rh rt db ds dc vb vs vc dm sm vl tos id ttl si di kind sp dp seq ack fl win body size count hold dropped key = false ∧ fhG l ps d rb rs rh rt db ds dc vb vs vc dm sm vl tos id ttl si di kind sp dp seq ack fl win body size count hold dropped key = false := fh_no (.inr (.inr (by omega)))
        obtain ⟨hok, hg⟩ := hno
        refine fin_i [(0, some 264)] rfl (fz ?_) (fz ?_)
        · simp only [hok, hg, fhI, fhS, fhD, cond_true, cond_false]; first | trivial | simp | trace_state
        · simp only [hok, hg, fhI, fhS, fhD, cond_true, cond_false]
      · have hk : key.size = 16 := by omega
        have hyy : fhOk rb rs rh rt db ds dc vb vs vc dm sm vl tos id ttl si di kind sp dp seq ack fl win body size count hold dropped key = true ∧ fhG l ps d rb rs rh rt db ds dc vb vs vc dm sm vl tos id ttl si di kind sp dp seq ack fl win body size count hold dropped key = ((rtakeF l ps d rb rs rh rt).2.2 && (stF l ps d db ds dc dm sm vl tos id ttl si di kind sp dp seq ack fl win body size count key (rtakeF l ps d rb rs rh rt).1).2.2) := fh_yes g1 g2 hk
        obtain ⟨hok, hgg⟩ := hyy
        refine vc_skip ?_
        refine thn ?_
        refine vc_sr ?_
        iterate 3 refine vo ?_
        refine vnt ?_
        refine vc_sr ?_
        iterate 3 refine vo ?_
        refine vnt ?_
        refine vc_sr ?_
        iterate 2 refine vo ?_
        refine vnt ?_
        refine vc_sr ?_
        iterate 5 refine vo ?_
        refine voc c_impl_RingTake rfl rfl ?_
        iterate 8 refine vo ?_
        refine vnt ?_
        refine vc_seq' ?_
        refine vc_sr ?_
        refine vo ?_
        refine vnt ?_
        refine vc_if (fun g4 => ?_) (fun g4 => ?_)
        · refine vc_sr ?_
          iterate 3 refine vo ?_
          refine vnt ?_
          refine vc_sr ?_
          iterate 6 refine vo ?_
          rcases Bool.eq_false_or_eq_true ((stF l ps d db ds dc dm sm vl tos id ttl si di kind sp dp seq ack fl win body size count key (rtakeF l ps d rb rs rh rt).1).2.2) with hst | hst
          · refine voc c_impl_storeHeld_y rfl rfl ?_
            iterate 9 refine vo ?_
            refine vnt ?_
            refine vc_sr ?_
            refine vo ?_
            refine vnt ?_
            refine vc_then ?_
            refine vc_sr ?_
            iterate 3 refine vo ?_
            refine vnt ?_
            refine vc_sr ?_
            iterate 4 refine vo ?_
            refine vnt ?_
            refine vc_ret ?_
            refine thn_r ?_
            have hg : fhG l ps d rb rs rh rt db ds dc vb vs vc dm sm vl tos id ttl si di kind sp dp seq ack fl win body size count hold dropped key = true := by rw [hgg, g4, hst]; rfl
            refine fin_i [(0, some 472)] rfl (fz ?_) (fz ?_)
            · simp only [hok, hg, fhI, fhS, fhD, cond_true, cond_false]; first | trivial | simp | trace_state
            · simp only [hok, hg, fhI, fhS, fhD, cond_true, cond_false]
          · refine voc c_impl_storeHeld_n rfl rfl ?_
            iterate 9 refine vo ?_
            refine vnt ?_
            refine vc_sr ?_
            refine vo ?_
            refine vnt ?_
            refine vc_else ?_
            refine vc_skip ?_
            refine thn ?_
            refine vc_sr ?_
            iterate 6 refine vo ?_
            try refine vwr ?_
            iterate 2 refine vo ?_
            refine vnt ?_
            refine vc_sr ?_
            refine vo ?_
            refine voc c_impl_copyMemory rfl rfl ?_
            iterate 3 refine vo ?_
            refine vnt ?_
            refine vc_ret ?_
            have hg : fhG l ps d rb rs rh rt db ds dc vb vs vc dm sm vl tos id ttl si di kind sp dp seq ack fl win body size count hold dropped key = false := by rw [hgg, g4, hst]; rfl
            refine fin_i [(0, some 608)] rfl (fz ?_) (fz ?_)
            · simp only [hok, hg, fhI, fhS, fhD, cond_true, cond_false]; first | trivial | simp | trace_state
            · simp only [hok, hg, fhI, fhS, fhD, cond_true, cond_false]
        · refine vc_skip ?_
          refine thn ?_
          refine vc_sr ?_
          iterate 6 refine vo ?_
          try refine vwr ?_
          iterate 2 refine vo ?_
          refine vnt ?_
          refine vc_sr ?_
          refine vo ?_
          refine voc c_impl_copyMemory rfl rfl ?_
          iterate 3 refine vo ?_
          refine vnt ?_
          refine vc_ret ?_
          have hg : fhG l ps d rb rs rh rt db ds dc vb vs vc dm sm vl tos id ttl si di kind sp dp seq ack fl win body size count hold dropped key = false := by rw [hgg, g4]; rfl
          have hrs := rt_same g4
          rw [hrs]
          refine fin_i [(0, some 608)] rfl (fz ?_) (fz ?_)
          · simp only [hok, hg, fhI, fhS, fhD, cond_true, cond_false]; first | trivial | simp | trace_state
          · simp only [hok, hg, fhI, fhS, fhD, cond_true, cond_false]
end Go.Proofs.YtfcmcedeapgdcaaGreat
end
section
namespace Go.Proofs.YtfcmcedeapgdcaaGreat
open Go Go.RowKit Go.Vc
set_option linter.unusedVariables false
set_option linter.unusedSimpArgs false
set_option linter.unnecessarySimpa false
def cjB (dm sm vl tos id ttl si di kind sp dp seq ack fl win : Int) (body : ByteArray) (size count dm2 sm2 vl2 tos2 id2 ttl2 si2 di2 kind2 sp2 dp2 seq2 ack2 fl2 win2 : Int) (body2 : ByteArray) : Bool :=
  superOkB dm sm vl tos id ttl si di kind sp dp seq ack fl win body.size && ((superOkB dm2 sm2 vl2 tos2 id2 ttl2 si2 di2 kind2 sp2 dp2 seq2 ack2 fl2 win2 body2.size && decide (body2.size ≤ 128)) && (samB dm sm vl tos id ttl si di kind sp dp seq ack fl win dm2 sm2 vl2 tos2 id2 ttl2 si2 di2 kind2 sp2 dp2 seq2 ack2 fl2 win2 && (decide (kind2 = 6) && (decide (fl = 16) && (streamB fl2 && (inB size 1 320 && (inB count 1 320 && (decide ((body.size : Int) = size * count) && (inB body2.size 1 size && (decide ((body.size : Int) + body2.size ≤ 320) && (decide (seq2 = (seq + body.size) % 4294967296) && decide (id2 = (id + count) % 65536))))))))))))
theorem sup_rng {dm sm vl tos id ttl si di kind sp dp seq ack fl win : Int} {n : Nat} (h : superOkB dm sm vl tos id ttl si di kind sp dp seq ack fl win n = true) : (n ≤ 320 ∧ (0 ≤ id ∧ id ≤ 65535)) ∧ (0 ≤ seq ∧ seq ≤ 4294967295) ∧ 0 ≤ fl ∧ fl ≤ 31 := by
  simp only [superOkB, segOkB, Bool.and_eq_true, Bool.or_eq_true, inB_iff, Bool.not_eq_true', decide_eq_false_iff_not, beq_iff_eq] at h
  obtain ⟨_, _, _, _, _, h1, _, _, ⟨h2, h3⟩, _⟩ := h
  refine ⟨⟨by omega, h1⟩, ?_⟩
  rcases h3 with ⟨_, a, _, b, _⟩ | ⟨_, _, a, _, b, _⟩
  · exact ⟨a, b⟩
  · omega
theorem cj_div {n size count : Int} (h : 0 ≤ n) (hc : 1 ≤ count) (h1 : n % count = 0) (h2 : n / count = size) : n = size * count := by
  have := Int.mul_ediv_add_emod n count
  rw [h1, h2, Int.mul_comm] at this; omega
theorem cj_div2 {n size count : Int} (hc : 1 ≤ count) (h : n = size * count) : n % count = 0 ∧ n / count = size := by
  subst h; exact ⟨Int.mul_emod_left .., Int.mul_ediv_cancel _ (by omega)⟩
theorem cj_le {n size count : Int} (hn : n ≤ 320) (h0 : 1 ≤ size) (hc : 1 ≤ count) (h : n = size * count) : size ≤ 320 := by
  have := Int.mul_le_mul_of_nonneg_left hc (show 0 ≤ size by omega)
  omega
set_option maxHeartbeats 4000000 in
theorem c_impl_CanJoin {dm sm vl tos id ttl si di kind sp dp seq ack fl win dm2 sm2 vl2 tos2 id2 ttl2 si2 di2 kind2 sp2 dp2 seq2 ack2 fl2 win2 size count : Int} {body body2 : ByteArray} : Con0 Tryz.prog 30 [.agg [V dm, V sm, V vl, V tos, V id, V ttl, V si, V di, V kind, V sp, V dp, V seq, V ack, V fl, V win, VS body, V size, V count], .agg [V dm2, V sm2, V vl2, V tos2, V id2, V ttl2, V si2, V di2, V kind2, V sp2, V dp2, V seq2, V ack2, V fl2, V win2, VS body2]] (B (cjB dm sm vl tos id ttl si di kind sp dp seq ack fl win body size count dm2 sm2 vl2 tos2 id2 ttl2 si2 di2 kind2 sp2 dp2 seq2 ack2 fl2 win2 body2)) [] := by
  refine con_i Tryz.func30 Tryz.ntmps30 (t := [(0, .agg [V dm, V sm, V vl, V tos, V id, V ttl, V si, V di, V kind, V sp, V dp, V seq, V ack, V fl, V win, VS body, V size, V count]), (1, .agg [V dm2, V sm2, V vl2, V tos2, V id2, V ttl2, V si2, V di2, V kind2, V sp2, V dp2, V seq2, V ack2, V fl2, V win2, VS body2])]) rfl ?_
  refine vc_sr ?_
  iterate 3 refine vo ?_
  refine vnt ?_
  refine vc_seq' ?_
  refine vc_sr ?_
  iterate 2 refine vo ?_
  refine voc c_impl_SuperOk rfl rfl ?_
  iterate 2 refine vo ?_
  refine vsp (fun g1 => ?_) (fun g1 => ?_)
  · iterate 3 refine vof ?_
    iterate 2 refine vo ?_
    iterate 5 refine vof ?_
    iterate 2 refine vo ?_
    iterate 4 refine vof ?_
    iterate 2 refine vo ?_
    iterate 5 refine vof ?_
    iterate 2 refine vo ?_
    iterate 5 refine vof ?_
    refine vo ?_
    refine vnt ?_
    refine vc_then ?_
    refine vc_sr ?_
    refine vo ?_
    refine vnt ?_
    refine vc_ret ?_
    refine thn_r ?_
    refine fin_i [] rfl (fz ?_) trivial
    refine Bool.eq_false_iff.2 fun hh => ?_
    simp only [cjB, Bool.and_eq_true, decide_eq_true_eq] at hh
    obtain ⟨k1, k2, k3, k4, k5, k6, k7, k8, k9, k10, k11, k12, k13⟩ := hh
    first | exact Bool.false_ne_true (g1.symm.trans k1) | exact g1 k1 | exact absurd k1 (by simpa using g1) | (have := inB_iff.1 k7; omega) | omega
  · obtain ⟨⟨hb1, hi1⟩, hq1, hf1⟩ := sup_rng g1
    refine von ?_
    refine vocn c_impl_PacketOk rfl rfl ?_
    refine von ?_
    iterate 2 refine vo ?_
    refine vsp (fun g2 => ?_) (fun g2 => ?_)
    · iterate 5 refine vof ?_
      iterate 2 refine vo ?_
      iterate 4 refine vof ?_
      iterate 2 refine vo ?_
      iterate 5 refine vof ?_
      iterate 2 refine vo ?_
      iterate 5 refine vof ?_
      refine vo ?_
      refine vnt ?_
      refine vc_then ?_
      refine vc_sr ?_
      refine vo ?_
      refine vnt ?_
      refine vc_ret ?_
      refine thn_r ?_
      refine fin_i [] rfl (fz ?_) trivial
      refine Bool.eq_false_iff.2 fun hh => ?_
      simp only [cjB, Bool.and_eq_true, decide_eq_true_eq] at hh
      obtain ⟨k1, k2, k3, k4, k5, k6, k7, k8, k9, k10, k11, k12, k13⟩ := hh
      first | exact Bool.false_ne_true (g2.symm.trans k2) | exact g2 k2 | exact absurd k2 (by simpa using g2) | (have := inB_iff.1 k7; omega) | omega
    · obtain ⟨⟨hb2, hi2⟩, hq2, hf2⟩ := sup_rng g2.1
      iterate 3 refine von ?_
      refine vocn c_impl_SamePath rfl rfl ?_
      refine von ?_
      iterate 2 refine vo ?_
      refine vsp (fun g3 => ?_) (fun g3 => ?_)
      · iterate 4 refine vof ?_
        iterate 2 refine vo ?_
        iterate 5 refine vof ?_
        iterate 2 refine vo ?_
        iterate 5 refine vof ?_
        refine vo ?_
        refine vnt ?_
        refine vc_then ?_
        refine vc_sr ?_
        refine vo ?_
        refine vnt ?_
        refine vc_ret ?_
        refine thn_r ?_
        refine fin_i [] rfl (fz ?_) trivial
        refine Bool.eq_false_iff.2 fun hh => ?_
        simp only [cjB, Bool.and_eq_true, decide_eq_true_eq] at hh
        obtain ⟨k1, k2, k3, k4, k5, k6, k7, k8, k9, k10, k11, k12, k13⟩ := hh
        first | exact Bool.false_ne_true (g3.symm.trans k3) | exact g3 k3 | exact absurd k3 (by simpa using g3) | (have := inB_iff.1 k7; omega) | omega
      · iterate 4 refine von ?_
        iterate 2 refine vo ?_
        refine vsp (fun g4 => ?_) (fun g4 => ?_)
        · iterate 5 refine vof ?_
          iterate 2 refine vo ?_
          iterate 5 refine vof ?_
          refine vo ?_
          refine vnt ?_
          refine vc_then ?_
          refine vc_sr ?_
          refine vo ?_
          refine vnt ?_
          refine vc_ret ?_
          refine thn_r ?_
          refine fin_i [] rfl (fz ?_) trivial
          refine Bool.eq_false_iff.2 fun hh => ?_
          simp only [cjB, Bool.and_eq_true, decide_eq_true_eq] at hh
          obtain ⟨k1, k2, k3, k4, k5, k6, k7, k8, k9, k10, k11, k12, k13⟩ := hh
          first | exact Bool.false_ne_true (g4.symm.trans k4) | exact g4 k4 | exact absurd k4 (by simpa using g4) | (have := inB_iff.1 k7; omega) | omega
        · iterate 5 refine von ?_
          iterate 2 refine vo ?_
          refine vsp (fun g5 => ?_) (fun g5 => ?_)
          · iterate 5 refine vof ?_
            refine vo ?_
            refine vnt ?_
            refine vc_then ?_
            refine vc_sr ?_
            refine vo ?_
            refine vnt ?_
            refine vc_ret ?_
            refine thn_r ?_
            refine fin_i [] rfl (fz ?_) trivial
            refine Bool.eq_false_iff.2 fun hh => ?_
            simp only [cjB, Bool.and_eq_true, decide_eq_true_eq] at hh
            obtain ⟨k1, k2, k3, k4, k5, k6, k7, k8, k9, k10, k11, k12, k13⟩ := hh
            first | exact Bool.false_ne_true (g5.symm.trans k5) | exact g5 k5 | exact absurd k5 (by simpa using g5) | (have := inB_iff.1 k7; omega) | omega
          · iterate 3 refine von ?_
            refine vocn c_impl_streaming rfl rfl ?_
            refine von ?_
            refine vo ?_
            refine vnt ?_
            refine vc_if (fun g6 => ?_) (fun g6 => ?_)
            · refine vc_sr ?_
              refine vo ?_
              refine vnt ?_
              refine vc_ret ?_
              refine thn_r ?_
              refine fin_i [] rfl (fz ?_) trivial
              refine Bool.eq_false_iff.2 fun hh => ?_
              simp only [cjB, Bool.and_eq_true, decide_eq_true_eq] at hh
              obtain ⟨k1, k2, k3, k4, k5, k6, k7, k8, k9, k10, k11, k12, k13⟩ := hh
              first | exact Bool.false_ne_true (g6.symm.trans k6) | exact g6 k6 | exact absurd k6 (by simpa using g6) | (have := inB_iff.1 k7; omega) | omega
            · refine vc_skip ?_
              refine thn ?_
              refine vc_sr ?_
              iterate 11 refine vo ?_
              refine vnt ?_
              refine vc_seq' ?_
              refine vc_sr ?_
              iterate 4 refine vo ?_
              refine vsp (fun g7 => ?_) (fun g7 => ?_)
              · iterate 4 refine vof ?_
                iterate 2 refine vo ?_
                iterate 5 refine vof ?_
                iterate 2 refine vo ?_
                iterate 7 refine vof ?_
                refine vo ?_
                refine vnt ?_
                refine vc_then ?_
                refine vc_sr ?_
                refine vo ?_
                refine vnt ?_
                refine vc_ret ?_
                refine thn_r ?_
                refine fin_i [] rfl (fz ?_) trivial
                refine Bool.eq_false_iff.2 fun hh => ?_
                simp only [cjB, Bool.and_eq_true, decide_eq_true_eq] at hh
                obtain ⟨k1, k2, k3, k4, k5, k6, k7, k8, k9, k10, k11, k12, k13⟩ := hh
                first | exact Bool.false_ne_true (g7.symm.trans k7) | exact g7 k7 | exact absurd k7 (by simpa using g7) | (have := inB_iff.1 k7; omega) | omega
              · iterate 2 refine von ?_
                refine vocn c_impl_between rfl rfl ?_
                refine von ?_
                iterate 2 refine vo ?_
                refine vsp (fun g8 => ?_) (fun g8 => ?_)
                · iterate 5 refine vof ?_
                  iterate 2 refine vo ?_
                  iterate 7 refine vof ?_
                  refine vo ?_
                  refine vnt ?_
                  refine vc_then ?_
                  refine vc_sr ?_
                  refine vo ?_
                  refine vnt ?_
                  refine vc_ret ?_
                  refine thn_r ?_
                  refine fin_i [] rfl (fz ?_) trivial
                  refine Bool.eq_false_iff.2 fun hh => ?_
                  simp only [cjB, Bool.and_eq_true, decide_eq_true_eq] at hh
                  obtain ⟨k1, k2, k3, k4, k5, k6, k7, k8, k9, k10, k11, k12, k13⟩ := hh
                  first | exact Bool.false_ne_true (g8.symm.trans k8) | exact g8 k8 | exact absurd k8 (by simpa using g8) | (have := inB_iff.1 k7; omega) | omega
                · have hc8 := inB_iff.1 g8
                  iterate 4 refine von ?_
                  try refine veq (Int.tmod_eq_emod_of_nonneg (by omega)) ?_
                  refine von ?_
                  iterate 2 refine vo ?_
                  refine vsp (fun g9 => ?_) (fun g9 => ?_)
                  · iterate 7 refine vof ?_
                    refine vo ?_
                    refine vnt ?_
                    refine vc_then ?_
                    refine vc_sr ?_
                    refine vo ?_
                    refine vnt ?_
                    refine vc_ret ?_
                    refine thn_r ?_
                    refine fin_i [] rfl (fz ?_) trivial
                    refine Bool.eq_false_iff.2 fun hh => ?_
                    simp only [cjB, Bool.and_eq_true, decide_eq_true_eq] at hh
                    obtain ⟨k1, k2, k3, k4, k5, k6, k7, k8, k9, k10, k11, k12, k13⟩ := hh
                    exact g9 (cj_div2 hc8.1 k9).1
                  · iterate 4 refine von ?_
                    try refine veq (IntWalk.i64_quo _ _ (by omega)) ?_
                    iterate 3 refine von ?_
                    refine vo ?_
                    refine vnt ?_
                    refine vc_if (fun g10 => ?_) (fun g10 => ?_)
                    · refine vc_sr ?_
                      refine vo ?_
                      refine vnt ?_
                      refine vc_ret ?_
                      refine thn_r ?_
                      refine fin_i [] rfl (fz ?_) trivial
                      refine Bool.eq_false_iff.2 fun hh => ?_
                      simp only [cjB, Bool.and_eq_true, decide_eq_true_eq] at hh
                      obtain ⟨k1, k2, k3, k4, k5, k6, k7, k8, k9, k10, k11, k12, k13⟩ := hh
                      exact g10 (cj_div2 hc8.1 k9).2
                    · refine vc_skip ?_
                      refine thn ?_
                      refine vc_sr ?_
                      iterate 3 refine vo ?_
                      refine voc c_impl_between rfl rfl ?_
                      refine vo ?_
                      refine vsp (fun g11 => ?_) (fun g11 => ?_)
                      · iterate 3 refine von ?_
                        try refine vwr ?_
                        refine von ?_
                        iterate 2 refine vo ?_
                        refine vsp (fun g12 => ?_) (fun g12 => ?_)
                        · iterate 9 refine von ?_
                          try refine vwr ?_
                          refine von ?_
                          try refine veq (Int.tmod_eq_emod_of_nonneg (by omega)) ?_
                          refine von ?_
                          iterate 2 refine vo ?_
                          refine vsp (fun g13 => ?_) (fun g13 => ?_)
                          · iterate 8 refine von ?_
                            try refine vwr ?_
                            refine von ?_
                            try refine veq (Int.tmod_eq_emod_of_nonneg (by omega)) ?_
                            refine von ?_
                            iterate 2 refine vo ?_
                            refine vnt ?_
                            refine vc_ret ?_
                            refine fin_i [] rfl (fz ?_) trivial
                            rw [Bool.eq_iff_iff]
                            simp only [cjB, Bool.and_eq_true, decide_eq_true_eq]
                            refine ⟨fun hh => ?_, fun k13 => ?_⟩
                            · obtain ⟨k1, k2, k3, k4, k5, k6, k7, k8, k9, k10, k11, k12, k13⟩ := hh; first | exact k13 | exact ⟨k12, k13⟩
                            · have e := cj_div (by omega) (by omega) g9 g10
                              exact ⟨g1, g2, g3, g4, g5, g6, inB_iff.2 ⟨g7, cj_le (by omega) g7 (by omega) e⟩, g8, e, g11, g12, g13, k13⟩
                          · iterate 10 refine vof ?_
                            iterate 2 refine vo ?_
                            refine vnt ?_
                            refine vc_ret ?_
                            refine fin_i [] rfl (fz ?_) trivial
                            refine Bool.eq_false_iff.2 fun hh => ?_
                            simp only [cjB, Bool.and_eq_true, decide_eq_true_eq] at hh
                            obtain ⟨k1, k2, k3, k4, k5, k6, k7, k8, k9, k10, k11, k12, k13⟩ := hh
                            first | exact Bool.false_ne_true (g13.symm.trans k12) | exact g13 k12 | exact absurd k12 (by simpa using g13) | (have := inB_iff.1 k7; omega) | omega
                        · iterate 11 refine vof ?_
                          iterate 2 refine vo ?_
                          iterate 10 refine vof ?_
                          iterate 2 refine vo ?_
                          refine vnt ?_
                          refine vc_ret ?_
                          refine fin_i [] rfl (fz ?_) trivial
                          refine Bool.eq_false_iff.2 fun hh => ?_
                          simp only [cjB, Bool.and_eq_true, decide_eq_true_eq] at hh
                          obtain ⟨k1, k2, k3, k4, k5, k6, k7, k8, k9, k10, k11, k12, k13⟩ := hh
                          first | exact Bool.false_ne_true (g12.symm.trans k11) | exact g12 k11 | exact absurd k11 (by simpa using g12) | (have := inB_iff.1 k7; omega) | omega
                      · iterate 4 refine vof ?_
                        iterate 2 refine vo ?_
                        iterate 11 refine vof ?_
                        iterate 2 refine vo ?_
                        iterate 10 refine vof ?_
                        iterate 2 refine vo ?_
                        refine vnt ?_
                        refine vc_ret ?_
                        refine fin_i [] rfl (fz ?_) trivial
                        refine Bool.eq_false_iff.2 fun hh => ?_
                        simp only [cjB, Bool.and_eq_true, decide_eq_true_eq] at hh
                        obtain ⟨k1, k2, k3, k4, k5, k6, k7, k8, k9, k10, k11, k12, k13⟩ := hh
                        first | exact Bool.false_ne_true (g11.symm.trans k10) | exact g11 k10 | exact absurd k10 (by simpa using g11) | (have := inB_iff.1 k7; omega) | omega
end Go.Proofs.YtfcmcedeapgdcaaGreat
end
section
namespace Go.Proofs.YtfcmcedeapgdcaaGreat
open Go Go.RowKit Go.Vc
set_option linter.unusedVariables false
set_option linter.unusedSimpArgs false
set_option linter.unnecessarySimpa false
structure Rx where
  (rb rs rh rt db ds dc vb vs vc dm sm vl tos id ttl si di kind sp dp seq ack fl win : Int)
  (body : ByteArray)
  (size count : Int)
  (hold : Bool)
  (dropped : Int)
def fhF (l : List Mp) (ps : Pg) (d : Int) (q : Rx) (key : ByteArray) : Pg × Rx := (bif fhG l ps d q.rb q.rs q.rh q.rt q.db q.ds q.dc q.vb q.vs q.vc q.dm q.sm q.vl q.tos q.id q.ttl q.si q.di q.kind q.sp q.dp q.seq q.ack q.fl q.win q.body q.size q.count q.hold q.dropped key then (stF l ps d q.db q.ds q.dc q.dm q.sm q.vl q.tos q.id q.ttl q.si q.di q.kind q.sp q.dp q.seq q.ack q.fl q.win q.body q.size q.count key (rtakeF l ps d q.rb q.rs q.rh q.rt).1).1 else ps, ⟨q.rb, q.rs, (bif fhOk q.rb q.rs q.rh q.rt q.db q.ds q.dc q.vb q.vs q.vc q.dm q.sm q.vl q.tos q.id q.ttl q.si q.di q.kind q.sp q.dp q.seq q.ack q.fl q.win q.body q.size q.count q.hold q.dropped key then (rtakeF l ps d q.rb q.rs q.rh q.rt).2.1 else q.rh), q.rt, q.db, q.ds, (bif fhG l ps d q.rb q.rs q.rh q.rt q.db q.ds q.dc q.vb q.vs q.vc q.dm q.sm q.vl q.tos q.id q.ttl q.si q.di q.kind q.sp q.dp q.seq q.ack q.fl q.win q.body q.size q.count q.hold q.dropped key then (stF l ps d q.db q.ds q.dc q.dm q.sm q.vl q.tos q.id q.ttl q.si q.di q.kind q.sp q.dp q.seq q.ack q.fl q.win q.body q.size q.count key (rtakeF l ps d q.rb q.rs q.rh q.rt).1).2.1 else q.dc), q.vb, q.vs, q.vc, (fhI (fhOk q.rb q.rs q.rh q.rt q.db q.ds q.dc q.vb q.vs q.vc q.dm q.sm q.vl q.tos q.id q.ttl q.si q.di q.kind q.sp q.dp q.seq q.ack q.fl q.win q.body q.size q.count q.hold q.dropped key) q.dm), (fhI (fhOk q.rb q.rs q.rh q.rt q.db q.ds q.dc q.vb q.vs q.vc q.dm q.sm q.vl q.tos q.id q.ttl q.si q.di q.kind q.sp q.dp q.seq q.ack q.fl q.win q.body q.size q.count q.hold q.dropped key) q.sm), (fhI (fhOk q.rb q.rs q.rh q.rt q.db q.ds q.dc q.vb q.vs q.vc q.dm q.sm q.vl q.tos q.id q.ttl q.si q.di q.kind q.sp q.dp q.seq q.ack q.fl q.win q.body q.size q.count q.hold q.dropped key) q.vl), (fhI (fhOk q.rb q.rs q.rh q.rt q.db q.ds q.dc q.vb q.vs q.vc q.dm q.sm q.vl q.tos q.id q.ttl q.si q.di q.kind q.sp q.dp q.seq q.ack q.fl q.win q.body q.size q.count q.hold q.dropped key) q.tos), (fhI (fhOk q.rb q.rs q.rh q.rt q.db q.ds q.dc q.vb q.vs q.vc q.dm q.sm q.vl q.tos q.id q.ttl q.si q.di q.kind q.sp q.dp q.seq q.ack q.fl q.win q.body q.size q.count q.hold q.dropped key) q.id), (fhI (fhOk q.rb q.rs q.rh q.rt q.db q.ds q.dc q.vb q.vs q.vc q.dm q.sm q.vl q.tos q.id q.ttl q.si q.di q.kind q.sp q.dp q.seq q.ack q.fl q.win q.body q.size q.count q.hold q.dropped key) q.ttl), (fhI (fhOk q.rb q.rs q.rh q.rt q.db q.ds q.dc q.vb q.vs q.vc q.dm q.sm q.vl q.tos q.id q.ttl q.si q.di q.kind q.sp q.dp q.seq q.ack q.fl q.win q.body q.size q.count q.hold q.dropped key) q.si), (fhI (fhOk q.rb q.rs q.rh q.rt q.db q.ds q.dc q.vb q.vs q.vc q.dm q.sm q.vl q.tos q.id q.ttl q.si q.di q.kind q.sp q.dp q.seq q.ack q.fl q.win q.body q.size q.count q.hold q.dropped key) q.di), (fhI (fhOk q.rb q.rs q.rh q.rt q.db q.ds q.dc q.vb q.vs q.vc q.dm q.sm q.vl q.tos q.id q.ttl q.si q.di q.kind q.sp q.dp q.seq q.ack q.fl q.win q.body q.size q.count q.hold q.dropped key) q.kind), (fhI (fhOk q.rb q.rs q.rh q.rt q.db q.ds q.dc q.vb q.vs q.vc q.dm q.sm q.vl q.tos q.id q.ttl q.si q.di q.kind q.sp q.dp q.seq q.ack q.fl q.win q.body q.size q.count q.hold q.dropped key) q.sp), (fhI (fhOk q.rb q.rs q.rh q.rt q.db q.ds q.dc q.vb q.vs q.vc q.dm q.sm q.vl q.tos q.id q.ttl q.si q.di q.kind q.sp q.dp q.seq q.ack q.fl q.win q.body q.size q.count q.hold q.dropped key) q.dp), (fhI (fhOk q.rb q.rs q.rh q.rt q.db q.ds q.dc q.vb q.vs q.vc q.dm q.sm q.vl q.tos q.id q.ttl q.si q.di q.kind q.sp q.dp q.seq q.ack q.fl q.win q.body q.size q.count q.hold q.dropped key) q.seq), (fhI (fhOk q.rb q.rs q.rh q.rt q.db q.ds q.dc q.vb q.vs q.vc q.dm q.sm q.vl q.tos q.id q.ttl q.si q.di q.kind q.sp q.dp q.seq q.ack q.fl q.win q.body q.size q.count q.hold q.dropped key) q.ack), (fhI (fhOk q.rb q.rs q.rh q.rt q.db q.ds q.dc q.vb q.vs q.vc q.dm q.sm q.vl q.tos q.id q.ttl q.si q.di q.kind q.sp q.dp q.seq q.ack q.fl q.win q.body q.size q.count q.hold q.dropped key) q.fl), (fhI (fhOk q.rb q.rs q.rh q.rt q.db q.ds q.dc q.vb q.vs q.vc q.dm q.sm q.vl q.tos q.id q.ttl q.si q.di q.kind q.sp q.dp q.seq q.ack q.fl q.win q.body q.size q.count q.hold q.dropped key) q.win), (fhS (fhOk q.rb q.rs q.rh q.rt q.db q.ds q.dc q.vb q.vs q.vc q.dm q.sm q.vl q.tos q.id q.ttl q.si q.di q.kind q.sp q.dp q.seq q.ack q.fl q.win q.body q.size q.count q.hold q.dropped key) q.body), (fhI (fhOk q.rb q.rs q.rh q.rt q.db q.ds q.dc q.vb q.vs q.vc q.dm q.sm q.vl q.tos q.id q.ttl q.si q.di q.kind q.sp q.dp q.seq q.ack q.fl q.win q.body q.size q.count q.hold q.dropped key) q.size), (fhI (fhOk q.rb q.rs q.rh q.rt q.db q.ds q.dc q.vb q.vs q.vc q.dm q.sm q.vl q.tos q.id q.ttl q.si q.di q.kind q.sp q.dp q.seq q.ack q.fl q.win q.body q.size q.count q.hold q.dropped key) q.count), (bif fhOk q.rb q.rs q.rh q.rt q.db q.ds q.dc q.vb q.vs q.vc q.dm q.sm q.vl q.tos q.id q.ttl q.si q.di q.kind q.sp q.dp q.seq q.ack q.fl q.win q.body q.size q.count q.hold q.dropped key then false else q.hold), (fhD (fhOk q.rb q.rs q.rh q.rt q.db q.ds q.dc q.vb q.vs q.vc q.dm q.sm q.vl q.tos q.id q.ttl q.si q.di q.kind q.sp q.dp q.seq q.ack q.fl q.win q.body q.size q.count q.hold q.dropped key) (fhG l ps d q.rb q.rs q.rh q.rt q.db q.ds q.dc q.vb q.vs q.vc q.dm q.sm q.vl q.tos q.id q.ttl q.si q.di q.kind q.sp q.dp q.seq q.ack q.fl q.win q.body q.size q.count q.hold q.dropped key) q.dropped q.count)⟩)
def rpF (l : List Mp) (ps : Pg) (d : Int) (q : Rx) (key : ByteArray) (dm2 sm2 vl2 tos2 id2 ttl2 si2 di2 kind2 sp2 dp2 seq2 ack2 fl2 win2 : Int) (body2 : ByteArray) (coal : Bool) : Pg × Rx :=
  if rxOkB q.rb q.rs q.rh q.rt q.db q.ds q.dc q.vb q.vs q.vc q.dm q.sm q.vl q.tos q.id q.ttl q.si q.di q.kind q.sp q.dp q.seq q.ack q.fl q.win q.body q.size q.count q.hold q.dropped = true ∧ (superOkB dm2 sm2 vl2 tos2 id2 ttl2 si2 di2 kind2 sp2 dp2 seq2 ack2 fl2 win2 body2.size && decide (body2.size ≤ 128)) = true ∧ key.size = 16 then
    if (coal && (q.hold && cjB q.dm q.sm q.vl q.tos q.id q.ttl q.si q.di q.kind q.sp q.dp q.seq q.ack q.fl q.win q.body q.size q.count dm2 sm2 vl2 tos2 id2 ttl2 si2 di2 kind2 sp2 dp2 seq2 ack2 fl2 win2 body2)) = true then (ps, ⟨q.rb, q.rs, q.rh, q.rt, q.db, q.ds, q.dc, q.vb, q.vs, q.vc, q.dm, q.sm, q.vl, q.tos, q.id, q.ttl, q.si, q.di, q.kind, q.sp, q.dp, q.seq, q.ack, fl2, q.win, (q.body ++ body2), q.size, (q.count + 1), q.hold, q.dropped⟩)
    else bif coal then ((fhF l ps d q key).1, ⟨(fhF l ps d q key).2.rb, (fhF l ps d q key).2.rs, (fhF l ps d q key).2.rh, (fhF l ps d q key).2.rt, (fhF l ps d q key).2.db, (fhF l ps d q key).2.ds, (fhF l ps d q key).2.dc, (fhF l ps d q key).2.vb, (fhF l ps d q key).2.vs, (fhF l ps d q key).2.vc, dm2, sm2, vl2, tos2, id2, ttl2, si2, di2, kind2, sp2, dp2, seq2, ack2, fl2, win2, body2, (body2.size : Int), 1, true, (fhF l ps d q key).2.dropped⟩) else fhF l (fhF l ps d q key).1 d ⟨(fhF l ps d q key).2.rb, (fhF l ps d q key).2.rs, (fhF l ps d q key).2.rh, (fhF l ps d q key).2.rt, (fhF l ps d q key).2.db, (fhF l ps d q key).2.ds, (fhF l ps d q key).2.dc, (fhF l ps d q key).2.vb, (fhF l ps d q key).2.vs, (fhF l ps d q key).2.vc, dm2, sm2, vl2, tos2, id2, ttl2, si2, di2, kind2, sp2, dp2, seq2, ack2, fl2, win2, body2, (body2.size : Int), 1, true, (fhF l ps d q key).2.dropped⟩ key
  else (ps, q)
theorem rp_bad {l : List Mp} {ps : Pg} {d rb rs rh rt db ds dc vb vs vc dm sm vl tos id ttl si di kind sp dp seq ack fl win size count dropped dm2 sm2 vl2 tos2 id2 ttl2 si2 di2 kind2 sp2 dp2 seq2 ack2 fl2 win2 : Int} {body key body2 : ByteArray} {hold coal : Bool} (h : rxOkB rb rs rh rt db ds dc vb vs vc dm sm vl tos id ttl si di kind sp dp seq ack fl win body size count hold dropped = false ∨ (superOkB dm2 sm2 vl2 tos2 id2 ttl2 si2 di2 kind2 sp2 dp2 seq2 ack2 fl2 win2 body2.size && decide (body2.size ≤ 128)) = false ∨ ¬ key.size = 16) : rpF l ps d ⟨rb, rs, rh, rt, db, ds, dc, vb, vs, vc, dm, sm, vl, tos, id, ttl, si, di, kind, sp, dp, seq, ack, fl, win, body, size, count, hold, dropped⟩ key dm2 sm2 vl2 tos2 id2 ttl2 si2 di2 kind2 sp2 dp2 seq2 ack2 fl2 win2 body2 coal = (ps, ⟨rb, rs, rh, rt, db, ds, dc, vb, vs, vc, dm, sm, vl, tos, id, ttl, si, di, kind, sp, dp, seq, ack, fl, win, body, size, count, hold, dropped⟩) := by
  unfold rpF
  rw [if_neg]
  rintro ⟨h1, h2, h3⟩
  rcases h with h | h | h
  · rw [h] at h1; cases h1
  · rw [h] at h2; cases h2
  · exact h h3
theorem rp_join {l : List Mp} {ps : Pg} {d rb rs rh rt db ds dc vb vs vc dm sm vl tos id ttl si di kind sp dp seq ack fl win size count dropped dm2 sm2 vl2 tos2 id2 ttl2 si2 di2 kind2 sp2 dp2 seq2 ack2 fl2 win2 : Int} {body key body2 : ByteArray} {hold coal : Bool} (h1 : rxOkB rb rs rh rt db ds dc vb vs vc dm sm vl tos id ttl si di kind sp dp seq ack fl win body size count hold dropped = true) (h2 : (superOkB dm2 sm2 vl2 tos2 id2 ttl2 si2 di2 kind2 sp2 dp2 seq2 ack2 fl2 win2 body2.size && decide (body2.size ≤ 128)) = true) (h3 : key.size = 16) (h4 : coal = true) (h5 : hold = true) (h6 : cjB dm sm vl tos id ttl si di kind sp dp seq ack fl win body size count dm2 sm2 vl2 tos2 id2 ttl2 si2 di2 kind2 sp2 dp2 seq2 ack2 fl2 win2 body2 = true) : rpF l ps d ⟨rb, rs, rh, rt, db, ds, dc, vb, vs, vc, dm, sm, vl, tos, id, ttl, si, di, kind, sp, dp, seq, ack, fl, win, body, size, count, hold, dropped⟩ key dm2 sm2 vl2 tos2 id2 ttl2 si2 di2 kind2 sp2 dp2 seq2 ack2 fl2 win2 body2 coal = (ps, ⟨rb, rs, rh, rt, db, ds, dc, vb, vs, vc, dm, sm, vl, tos, id, ttl, si, di, kind, sp, dp, seq, ack, fl2, win, (body ++ body2), size, (count + 1), hold, dropped⟩) := by
  unfold rpF
  rw [if_pos ⟨h1, h2, h3⟩, if_pos (by rw [h4, h5, h6]; rfl)]
theorem rp_one {l : List Mp} {ps : Pg} {d rb rs rh rt db ds dc vb vs vc dm sm vl tos id ttl si di kind sp dp seq ack fl win size count dropped dm2 sm2 vl2 tos2 id2 ttl2 si2 di2 kind2 sp2 dp2 seq2 ack2 fl2 win2 : Int} {body key body2 : ByteArray} {hold coal : Bool} {r1 : Pg × Rx} (hr : fhF l ps d ⟨rb, rs, rh, rt, db, ds, dc, vb, vs, vc, dm, sm, vl, tos, id, ttl, si, di, kind, sp, dp, seq, ack, fl, win, body, size, count, hold, dropped⟩ key = r1) (h1 : rxOkB rb rs rh rt db ds dc vb vs vc dm sm vl tos id ttl si di kind sp dp seq ack fl win body size count hold dropped = true) (h2 : (superOkB dm2 sm2 vl2 tos2 id2 ttl2 si2 di2 kind2 sp2 dp2 seq2 ack2 fl2 win2 body2.size && decide (body2.size ≤ 128)) = true) (h3 : key.size = 16) (h4 : coal = true) (h5 : (hold && cjB dm sm vl tos id ttl si di kind sp dp seq ack fl win body size count dm2 sm2 vl2 tos2 id2 ttl2 si2 di2 kind2 sp2 dp2 seq2 ack2 fl2 win2 body2) = false) : rpF l ps d ⟨rb, rs, rh, rt, db, ds, dc, vb, vs, vc, dm, sm, vl, tos, id, ttl, si, di, kind, sp, dp, seq, ack, fl, win, body, size, count, hold, dropped⟩ key dm2 sm2 vl2 tos2 id2 ttl2 si2 di2 kind2 sp2 dp2 seq2 ack2 fl2 win2 body2 coal = (r1.1, ⟨r1.2.rb, r1.2.rs, r1.2.rh, r1.2.rt, r1.2.db, r1.2.ds, r1.2.dc, r1.2.vb, r1.2.vs, r1.2.vc, dm2, sm2, vl2, tos2, id2, ttl2, si2, di2, kind2, sp2, dp2, seq2, ack2, fl2, win2, body2, (body2.size : Int), 1, true, r1.2.dropped⟩) := by
  subst hr
  unfold rpF
  rw [if_pos ⟨h1, h2, h3⟩, if_neg (by rw [h4]; show ¬ (true && (hold && _)) = true; rw [h5]; decide), h4]
  rfl
theorem rp_two {l : List Mp} {ps : Pg} {d rb rs rh rt db ds dc vb vs vc dm sm vl tos id ttl si di kind sp dp seq ack fl win size count dropped dm2 sm2 vl2 tos2 id2 ttl2 si2 di2 kind2 sp2 dp2 seq2 ack2 fl2 win2 : Int} {body key body2 : ByteArray} {hold coal : Bool} {r1 : Pg × Rx} (hr : fhF l ps d ⟨rb, rs, rh, rt, db, ds, dc, vb, vs, vc, dm, sm, vl, tos, id, ttl, si, di, kind, sp, dp, seq, ack, fl, win, body, size, count, hold, dropped⟩ key = r1) (h1 : rxOkB rb rs rh rt db ds dc vb vs vc dm sm vl tos id ttl si di kind sp dp seq ack fl win body size count hold dropped = true) (h2 : (superOkB dm2 sm2 vl2 tos2 id2 ttl2 si2 di2 kind2 sp2 dp2 seq2 ack2 fl2 win2 body2.size && decide (body2.size ≤ 128)) = true) (h3 : key.size = 16) (h4 : coal = false) : rpF l ps d ⟨rb, rs, rh, rt, db, ds, dc, vb, vs, vc, dm, sm, vl, tos, id, ttl, si, di, kind, sp, dp, seq, ack, fl, win, body, size, count, hold, dropped⟩ key dm2 sm2 vl2 tos2 id2 ttl2 si2 di2 kind2 sp2 dp2 seq2 ack2 fl2 win2 body2 coal = fhF l r1.1 d ⟨r1.2.rb, r1.2.rs, r1.2.rh, r1.2.rt, r1.2.db, r1.2.ds, r1.2.dc, r1.2.vb, r1.2.vs, r1.2.vc, dm2, sm2, vl2, tos2, id2, ttl2, si2, di2, kind2, sp2, dp2, seq2, ack2, fl2, win2, body2, (body2.size : Int), 1, true, r1.2.dropped⟩ key := by
  subst hr
  unfold rpF
  rw [if_pos ⟨h1, h2, h3⟩, if_neg (by rw [h4]; exact Bool.false_ne_true), h4]
  rfl
theorem c_impl_FlushHeld_r {l : List Mp} {ps : Pg} {d rb rs rh rt db ds dc vb vs vc dm sm vl tos id ttl si di kind sp dp seq ack fl win size count dropped : Int} {body key : ByteArray} {hold : Bool} {r : Pg × Rx} (hr : fhF l ps d ⟨rb, rs, rh, rt, db, ds, dc, vb, vs, vc, dm, sm, vl, tos, id, ttl, si, di, kind, sp, dp, seq, ack, fl, win, body, size, count, hold, dropped⟩ key = r) (hl : l.length ≤ 1099511627776 := by first | assumption | omega) (hp : ps.length ≤ 1099511627776 := by first | assumption | omega) (hsk : key.size ≤ 1099511627776 := by first | assumption | omega) : Con0 Tryz.prog 10 [.one (.sl 4 (l.map mpE)), .agg [.sl 1 (ps.map strE)], I d, .agg [V rb, V rs, V rh, V rt, V db, V ds, V dc, V vb, V vs, V vc, V dm, V sm, V vl, V tos, V id, V ttl, V si, V di, V kind, V sp, V dp, V seq, V ack, V fl, V win, VS body, V size, V count, VB hold, V dropped], Z key] (.tup [.agg [.hs 0], .agg [V r.2.rb, V r.2.rs, V r.2.rh, V r.2.rt, V r.2.db, V r.2.ds, V r.2.dc, V r.2.vb, V r.2.vs, V r.2.vc, V r.2.dm, V r.2.sm, V r.2.vl, V r.2.tos, V r.2.id, V r.2.ttl, V r.2.si, V r.2.di, V r.2.kind, V r.2.sp, V r.2.dp, V r.2.seq, V r.2.ack, V r.2.fl, V r.2.win, VS r.2.body, V r.2.size, V r.2.count, VB r.2.hold, V r.2.dropped]]) [(0, .arr 9 1 (r.1.map strE))] := by subst hr; exact c_impl_FlushHeld
theorem cj_rng {dm sm vl tos id ttl si di kind sp dp seq ack fl win dm2 sm2 vl2 tos2 id2 ttl2 si2 di2 kind2 sp2 dp2 seq2 ack2 fl2 win2 size count : Int} {body body2 : ByteArray} (h : cjB dm sm vl tos id ttl si di kind sp dp seq ack fl win body size count dm2 sm2 vl2 tos2 id2 ttl2 si2 di2 kind2 sp2 dp2 seq2 ack2 fl2 win2 body2 = true) : 1 ≤ count ∧ count ≤ 320 := by
  simp only [cjB, Bool.and_eq_true, inB_iff] at h
  exact h.2.2.2.2.2.2.2.1
set_option maxHeartbeats 4000000 in
theorem c_impl_Join {dm sm vl tos id ttl si di kind sp dp seq ack fl win dm2 sm2 vl2 tos2 id2 ttl2 si2 di2 kind2 sp2 dp2 seq2 ack2 fl2 win2 size count : Int} {body body2 : ByteArray} (hj : cjB dm sm vl tos id ttl si di kind sp dp seq ack fl win body size count dm2 sm2 vl2 tos2 id2 ttl2 si2 di2 kind2 sp2 dp2 seq2 ack2 fl2 win2 body2 = true) (hs_1 : body.size ≤ 1099511627776 := by first | assumption | omega) (hs_2 : body2.size ≤ 1099511627776 := by first | assumption | omega) : Con0 Tryz.prog 31 [.agg [V dm, V sm, V vl, V tos, V id, V ttl, V si, V di, V kind, V sp, V dp, V seq, V ack, V fl, V win, VS body, V size, V count], .agg [V dm2, V sm2, V vl2, V tos2, V id2, V ttl2, V si2, V di2, V kind2, V sp2, V dp2, V seq2, V ack2, V fl2, V win2, VS body2]] (.agg [V dm, V sm, V vl, V tos, V id, V ttl, V si, V di, V kind, V sp, V dp, V seq, V ack, V fl2, V win, VS (body ++ body2), V size, V (count + 1)]) [] := by
  have hcr := cj_rng hj
  refine con_i Tryz.func31 Tryz.ntmps31 (t := [(0, .agg [V dm, V sm, V vl, V tos, V id, V ttl, V si, V di, V kind, V sp, V dp, V seq, V ack, V fl, V win, VS body, V size, V count]), (1, .agg [V dm2, V sm2, V vl2, V tos2, V id2, V ttl2, V si2, V di2, V kind2, V sp2, V dp2, V seq2, V ack2, V fl2, V win2, VS body2])]) rfl ?_
  refine vc_sr ?_
  iterate 3 refine vo ?_
  refine vnt ?_
  refine vc_seq' ?_
  refine vc_sr ?_
  iterate 2 refine vo ?_
  refine voc c_impl_CanJoin rfl rfl ?_
  refine vo ?_
  refine vnt ?_
  refine vc_if (fun g1 => ?_) (fun g1 => ?_)
  · rw [hj] at g1; cases g1
  · refine vc_skip ?_
    refine thn ?_
    refine vc_sr ?_
    iterate 12 refine vo ?_
    refine vnt ?_
    refine vc_sr ?_
    iterate 7 refine vo ?_
    refine vnt ?_
    refine vc_sr ?_
    iterate 3 refine vo ?_
    try refine vwr ?_
    iterate 2 refine vo ?_
    refine vnt ?_
    refine vc_sr ?_
    iterate 2 refine vo ?_
    refine vnt ?_
    refine vc_ret ?_
    refine fin_i [] rfl (fz ?_) trivial
    simp
theorem dma_ln (l : List Mp) (ps : Pg) (d a : Int) (s : ByteArray) (wt : Bool) : (dmaWF l ps d a s wt).1.length = ps.length := dmaWF_len (ok := (dmaWF l ps d a s wt).2) rfl
theorem putC_ln (l : List Mp) (ps : Pg) (d b s c x1 x2 x3 x4 x5 : Int) : (putC l ps d b s c x1 x2 x3 x4 x5).1.length = ps.length := by
  unfold putC
  split
  · split
    · have h := dma_ln l ps d (slotC b s c) (encC x1 x2 x3 x4 x5 (phaseC s c)) true
      split <;> rename_i e
      · rw [e] at h; exact h
      · rfl
    · rfl
  · rfl
theorem stF_ln (l : List Mp) (ps : Pg) (d db ds dc dm sm vl tos id ttl si di kind sp dp seq ack fl win : Int) (body : ByteArray) (size count : Int) (key entry : ByteArray) : (stF l ps d db ds dc dm sm vl tos id ttl si di kind sp dp seq ack fl win body size count key entry).1.length = ps.length := by
  unfold stF
  split
  · split
    · rw [putC_ln, dma_ln]
    · rfl
  · rfl
theorem fhF_len (l : List Mp) (ps : Pg) (d : Int) (q : Rx) (key : ByteArray) : (fhF l ps d q key).1.length = ps.length := by
  unfold fhF
  simp only
  cases fhG l ps d q.rb q.rs q.rh q.rt q.db q.ds q.dc q.vb q.vs q.vc q.dm q.sm q.vl q.tos q.id q.ttl q.si q.di q.kind q.sp q.dp q.seq q.ack q.fl q.win q.body q.size q.count q.hold q.dropped key
  · rfl
  · exact stF_ln ..
theorem rp_sz {dm sm vl tos id ttl si di kind sp dp seq ack fl win : Int} {n : Nat} (h : (superOkB dm sm vl tos id ttl si di kind sp dp seq ack fl win n && decide (n ≤ 128)) = true) : superOkB dm sm vl tos id ttl si di kind sp dp seq ack fl win n = true ∧ n ≤ 128 := by
  rw [Bool.and_eq_true, decide_eq_true_eq] at h; exact h
set_option maxHeartbeats 4000000 in
theorem c_impl_ReceivePacket {l : List Mp} {ps : Pg} {d rb rs rh rt db ds dc vb vs vc dm sm vl tos id ttl si di kind sp dp seq ack fl win size count dropped dm2 sm2 vl2 tos2 id2 ttl2 si2 di2 kind2 sp2 dp2 seq2 ack2 fl2 win2 : Int} {body key body2 : ByteArray} {hold coal : Bool} {r : Pg × Rx} (hr : rpF l ps d ⟨rb, rs, rh, rt, db, ds, dc, vb, vs, vc, dm, sm, vl, tos, id, ttl, si, di, kind, sp, dp, seq, ack, fl, win, body, size, count, hold, dropped⟩ key dm2 sm2 vl2 tos2 id2 ttl2 si2 di2 kind2 sp2 dp2 seq2 ack2 fl2 win2 body2 coal = r) (hl : l.length ≤ 1099511627776 := by first | assumption | omega) (hp : ps.length ≤ 1099511627776 := by first | assumption | omega) (hsk : key.size ≤ 1099511627776 := by first | assumption | omega) : Con0 Tryz.prog 8 [.one (.sl 4 (l.map mpE)), .agg [.sl 1 (ps.map strE)], I d, .agg [V rb, V rs, V rh, V rt, V db, V ds, V dc, V vb, V vs, V vc, V dm, V sm, V vl, V tos, V id, V ttl, V si, V di, V kind, V sp, V dp, V seq, V ack, V fl, V win, VS body, V size, V count, VB hold, V dropped], Z key, .agg [V dm2, V sm2, V vl2, V tos2, V id2, V ttl2, V si2, V di2, V kind2, V sp2, V dp2, V seq2, V ack2, V fl2, V win2, VS body2], B coal] (.tup [.agg [.hs 0], .agg [V r.2.rb, V r.2.rs, V r.2.rh, V r.2.rt, V r.2.db, V r.2.ds, V r.2.dc, V r.2.vb, V r.2.vs, V r.2.vc, V r.2.dm, V r.2.sm, V r.2.vl, V r.2.tos, V r.2.id, V r.2.ttl, V r.2.si, V r.2.di, V r.2.kind, V r.2.sp, V r.2.dp, V r.2.seq, V r.2.ack, V r.2.fl, V r.2.win, VS r.2.body, V r.2.size, V r.2.count, VB r.2.hold, V r.2.dropped]]) [(0, .arr 9 1 (r.1.map strE))] := by
  obtain ⟨r1, hr1⟩ : ∃ r, fhF l ps d ⟨rb, rs, rh, rt, db, ds, dc, vb, vs, vc, dm, sm, vl, tos, id, ttl, si, di, kind, sp, dp, seq, ack, fl, win, body, size, count, hold, dropped⟩ key = r := ⟨_, rfl⟩
  obtain ⟨r2, hr2⟩ : ∃ r, fhF l r1.1 d ⟨r1.2.rb, r1.2.rs, r1.2.rh, r1.2.rt, r1.2.db, r1.2.ds, r1.2.dc, r1.2.vb, r1.2.vs, r1.2.vc, dm2, sm2, vl2, tos2, id2, ttl2, si2, di2, kind2, sp2, dp2, seq2, ack2, fl2, win2, body2, (body2.size : Int), 1, true, r1.2.dropped⟩ key = r := ⟨_, rfl⟩
  have hp1 : r1.1.length ≤ 1099511627776 := by rw [← hr1, fhF_len]; exact hp
  refine con_i Tryz.func8 Tryz.ntmps8 (t := [(0, .one (.sl 4 (l.map mpE))), (1, .agg [.sl 1 (ps.map strE)]), (2, I d), (3, .agg [V rb, V rs, V rh, V rt, V db, V ds, V dc, V vb, V vs, V vc, V dm, V sm, V vl, V tos, V id, V ttl, V si, V di, V kind, V sp, V dp, V seq, V ack, V fl, V win, VS body, V size, V count, VB hold, V dropped]), (4, Z key), (5, .agg [V dm2, V sm2, V vl2, V tos2, V id2, V ttl2, V si2, V di2, V kind2, V sp2, V dp2, V seq2, V ack2, V fl2, V win2, VS body2]), (6, B coal)]) rfl ?_
  refine vc_sr ?_
  iterate 5 refine vo ?_
  refine vnt ?_
  refine vc_seq' ?_
  refine vc_sr ?_
  refine vo ?_
  refine voc c_impl_RxOk rfl rfl ?_
  iterate 2 refine vo ?_
  refine vsp (fun g1 => ?_) (fun g1 => ?_)
  · iterate 3 refine vof ?_
    iterate 2 refine vo ?_
    iterate 3 refine vof ?_
    refine vo ?_
    refine vnt ?_
    refine vc_then ?_
    refine vc_sr ?_
    refine vo ?_
    refine voc c_impl_copyMemory rfl rfl ?_
    iterate 3 refine vo ?_
    refine vnt ?_
    refine vc_ret ?_
    refine thn_r ?_
    obtain rfl : r = (ps, ⟨rb, rs, rh, rt, db, ds, dc, vb, vs, vc, dm, sm, vl, tos, id, ttl, si, di, kind, sp, dp, seq, ack, fl, win, body, size, count, hold, dropped⟩) := hr.symm.trans (rp_bad (.inl g1))
    refine fin_i [(0, some 256)] rfl (fz ?_) (fz ?_) <;> first | trivial | rfl | simp
  · refine von ?_
    refine vocn c_impl_PacketOk rfl rfl ?_
    refine von ?_
    iterate 2 refine vo ?_
    refine vsp (fun g2 => ?_) (fun g2 => ?_)
    · have pq : (superOkB dm2 sm2 vl2 tos2 id2 ttl2 si2 di2 kind2 sp2 dp2 seq2 ack2 fl2 win2 body2.size && decide (body2.size ≤ 128)) = false := by simpa using g2
      iterate 3 refine vof ?_
      refine vo ?_
      refine vnt ?_
      refine vc_then ?_
      refine vc_sr ?_
      refine vo ?_
      refine voc c_impl_copyMemory rfl rfl ?_
      iterate 3 refine vo ?_
      refine vnt ?_
      refine vc_ret ?_
      refine thn_r ?_
      obtain rfl : r = (ps, ⟨rb, rs, rh, rt, db, ds, dc, vb, vs, vc, dm, sm, vl, tos, id, ttl, si, di, kind, sp, dp, seq, ack, fl, win, body, size, count, hold, dropped⟩) := hr.symm.trans (rp_bad (.inr (.inl pq)))
      refine fin_i [(0, some 256)] rfl (fz ?_) (fz ?_) <;> first | trivial | rfl | simp
    · have pq : (superOkB dm2 sm2 vl2 tos2 id2 ttl2 si2 di2 kind2 sp2 dp2 seq2 ack2 fl2 win2 body2.size && decide (body2.size ≤ 128)) = true := by simpa using g2
      iterate 3 refine von ?_
      refine vo ?_
      refine vnt ?_
      refine vc_if (fun g3 => ?_) (fun g3 => ?_)
      · refine vc_sr ?_
        refine vo ?_
        refine voc c_impl_copyMemory rfl rfl ?_
        iterate 3 refine vo ?_
        refine vnt ?_
        refine vc_ret ?_
        refine thn_r ?_
        obtain rfl : r = (ps, ⟨rb, rs, rh, rt, db, ds, dc, vb, vs, vc, dm, sm, vl, tos, id, ttl, si, di, kind, sp, dp, seq, ack, fl, win, body, size, count, hold, dropped⟩) := hr.symm.trans (rp_bad (.inr (.inr (by omega))))
        refine fin_i [(0, some 256)] rfl (fz ?_) (fz ?_) <;> first | trivial | rfl | simp
      · have hk : key.size = 16 := by omega
        obtain ⟨hsp, hbz⟩ := rp_sz pq
        refine vc_skip ?_
        refine thn ?_
        refine vc_seq' ?_
        refine vc_sr ?_
        iterate 2 refine vo ?_
        refine vsp (fun g4 => ?_) (fun g4 => ?_)
        · iterate 2 refine von ?_
          iterate 2 refine vo ?_
          refine vsp (fun g5 => ?_) (fun g5 => ?_)
          · have hbh := (sup_rng (rx_held g5 g1).1).1.1
            iterate 3 refine von ?_
            refine vocn c_impl_CanJoin rfl rfl ?_
            refine vo ?_
            refine vnt ?_
            refine vc_if (fun g6 => ?_) (fun g6 => ?_)
            · refine vc_sr ?_
              iterate 3 refine vo ?_
              refine voc (c_impl_Join g6) rfl rfl ?_
              iterate 2 refine vo ?_
              refine vnt ?_
              refine vc_sr ?_
              refine vo ?_
              refine voc c_impl_copyMemory rfl rfl ?_
              iterate 3 refine vo ?_
              refine vnt ?_
              refine vc_ret ?_
              refine thn_r ?_
              obtain rfl : r = (ps, ⟨rb, rs, rh, rt, db, ds, dc, vb, vs, vc, dm, sm, vl, tos, id, ttl, si, di, kind, sp, dp, seq, ack, fl2, win, (body ++ body2), size, (count + 1), hold, dropped⟩) := hr.symm.trans (rp_join g1 pq hk g4 g5 g6)
              refine fin_i [(0, some 408)] rfl (fz ?_) (fz ?_) <;> first | trivial | rfl | simp
            · refine vc_skip ?_
              refine thn ?_
              refine vc_sr ?_
              iterate 5 refine vo ?_
              refine voc (c_impl_FlushHeld_r hr1) rfl rfl ?_
              iterate 7 refine vo ?_
              refine vnt ?_
              refine vc_sr ?_
              refine vo ?_
              refine voc c_impl_Single rfl rfl ?_
              iterate 2 refine vo ?_
              refine vnt ?_
              refine vc_sr ?_
              iterate 2 refine vo ?_
              refine vnt ?_
              refine vc_seq' ?_
              refine vc_sr ?_
              iterate 2 refine vo ?_
              refine vnt ?_
              refine vc_if (fun g7 => ?_) (fun g7 => ?_)
              · rw [g4] at g7; cases g7
              · refine vc_skip ?_
                refine thn ?_
                refine vc_sr ?_
                iterate 4 refine vo ?_
                refine vnt ?_
                refine vc_ret ?_
                obtain rfl : r = (r1.1, ⟨r1.2.rb, r1.2.rs, r1.2.rh, r1.2.rt, r1.2.db, r1.2.ds, r1.2.dc, r1.2.vb, r1.2.vs, r1.2.vc, dm2, sm2, vl2, tos2, id2, ttl2, si2, di2, kind2, sp2, dp2, seq2, ack2, fl2, win2, body2, (body2.size : Int), 1, true, r1.2.dropped⟩) := hr.symm.trans (rp_one hr1 g1 pq hk g4 (by rw [g5, g6]; rfl))
                refine fin_i [(0, some 472)] rfl (fz ?_) (fz ?_) <;> first | trivial | rfl | simp
          · iterate 4 refine vof ?_
            refine vo ?_
            refine vnt ?_
            refine vc_else ?_
            refine vc_skip ?_
            refine thn ?_
            refine vc_sr ?_
            iterate 5 refine vo ?_
            refine voc (c_impl_FlushHeld_r hr1) rfl rfl ?_
            iterate 7 refine vo ?_
            refine vnt ?_
            refine vc_sr ?_
            refine vo ?_
            refine voc c_impl_Single rfl rfl ?_
            iterate 2 refine vo ?_
            refine vnt ?_
            refine vc_sr ?_
            iterate 2 refine vo ?_
            refine vnt ?_
            refine vc_seq' ?_
            refine vc_sr ?_
            iterate 2 refine vo ?_
            refine vnt ?_
            refine vc_if (fun g8 => ?_) (fun g8 => ?_)
            · rw [g4] at g8; cases g8
            · refine vc_skip ?_
              refine thn ?_
              refine vc_sr ?_
              iterate 4 refine vo ?_
              refine vnt ?_
              refine vc_ret ?_
              obtain rfl : r = (r1.1, ⟨r1.2.rb, r1.2.rs, r1.2.rh, r1.2.rt, r1.2.db, r1.2.ds, r1.2.dc, r1.2.vb, r1.2.vs, r1.2.vc, dm2, sm2, vl2, tos2, id2, ttl2, si2, di2, kind2, sp2, dp2, seq2, ack2, fl2, win2, body2, (body2.size : Int), 1, true, r1.2.dropped⟩) := hr.symm.trans (rp_one hr1 g1 pq hk g4 (by rw [g5]; rfl))
              refine fin_i [(0, some 472)] rfl (fz ?_) (fz ?_) <;> first | trivial | rfl | simp
        · iterate 2 refine vof ?_
          iterate 2 refine vo ?_
          iterate 4 refine vof ?_
          refine vo ?_
          refine vnt ?_
          refine vc_else ?_
          refine vc_skip ?_
          refine thn ?_
          refine vc_sr ?_
          iterate 5 refine vo ?_
          refine voc (c_impl_FlushHeld_r hr1) rfl rfl ?_
          iterate 7 refine vo ?_
          refine vnt ?_
          refine vc_sr ?_
          refine vo ?_
          refine voc c_impl_Single rfl rfl ?_
          iterate 2 refine vo ?_
          refine vnt ?_
          refine vc_sr ?_
          iterate 2 refine vo ?_
          refine vnt ?_
          refine vc_seq' ?_
          refine vc_sr ?_
          iterate 2 refine vo ?_
          refine vnt ?_
          refine vc_if (fun g9 => ?_) (fun g9 => ?_)
          · refine vc_region ?_
            iterate 5 refine vo ?_
            refine voc (c_impl_FlushHeld_r hr2) rfl rfl ?_
            iterate 5 refine vo ?_
            refine vnt ?_
            refine vc_sr ?_
            iterate 4 refine vo ?_
            refine vnt ?_
            refine vc_ret ?_
            obtain rfl : r = r2 := hr.symm.trans ((rp_two hr1 g1 pq hk g4).trans hr2)
            refine fin_i [(0, some 592)] rfl (fz ?_) (fz ?_) <;> first | trivial | rfl | simp
          · rw [g4] at g9; cases g9
end Go.Proofs.YtfcmcedeapgdcaaGreat
end
section
namespace Go.Proofs.YtfcmcedeapgdcaaGreat
open Go Go.RowKit Go.Vc
set_option linter.unusedVariables false
set_option linter.unusedSimpArgs false
set_option linter.unnecessarySimpa false
def L16 : List Mp := (List.range 16).map fun v : Nat => ((0 : Int), (v : Int), 15 - (v : Int), true)
theorem L16_len : L16.length = 16 := by simp [L16]
theorem L16_ok : mapsOk L16 = true := by decide +kernel
theorem L16_at {i : Nat} (h : i < L16.length) : L16[i] = ((0 : Int), (i : Int), 15 - (i : Int), true) := by simp [L16]
theorem L16_page {v : Int} (wr : Bool) (h0 : 0 ≤ v) (h1 : v < 16) : mpPage L16 0 v wr = 15 - v := by
  obtain ⟨i, rfl⟩ := Int.eq_ofNat_of_zero_le h0
  have hi : i < L16.length := by rw [L16_len]; omega
  have e := L16_at hi
  rw [mpPage_at hi (fun j g => hit_no.2 fun q => by rw [L16_at] at q; simp only at q; omega) (hit_iff.2 ⟨by rw [e], by rw [e]⟩), e]
  simp
theorem L16_t (wr : Bool) : Turned 16 16 L16 0 wr := ⟨L16_ok, Nat.le_refl _, fun v h0 h1 => by rw [L16_page wr h0 (by omega)]; rfl⟩
structure Dl where
  (k n size count hash : Int)
  (im : ByteArray)
instance : Inhabited Dl := ⟨⟨0, 0, 0, 0, 0, ⟨#[]⟩⟩⟩
structure RI (ps : Pg) (h t dc vc : Int) (E : List Int) (D : List Dl) (fr : List Int) : Prop where
  mem : MemOk ps
  len : ps.length = 16
  ring : ringOkB 0 4 h t = true
  used : usedF 4 h t = E.length
  sl : ∀ j : Nat, j < E.length → fs 16 ps ((h + j) % 4 * 16) 16 = encD 3 0 384 (256 + at' E j * 384) 0 (at' E j)
  cnt : 0 ≤ vc ∧ vc ≤ 7
  dcq : dc = (vc + D.length) % 8
  cmp : ∀ j : Nat, j < D.length → fs 16 ps (128 + (vc + j) % 4 * 16) 16 = encC (at' D j).k (at' D j).n (at' D j).size (at' D j).count (at' D j).hash (phaseC 4 ((vc + j) % 8))
  emp : ∀ j : Nat, D.length ≤ j → j < 4 → ¬ get32 (fs 16 ps (128 + (vc + j) % 4 * 16) 16) 12 = phaseC 4 ((vc + j) % 8)
  img : ∀ c ∈ D, completionOkB c.k c.n c.size c.count c.hash = true ∧ c.n = c.im.size ∧ c.im.size ≤ 384 ∧ fs 16 ps (256 + c.k * 384) c.im.size = c.im
  perm : poolB 256 384 4 (fr ++ (E ++ D.map (·.k))) = true
  tot : fr.length + (E.length + D.length) = 4
theorem pool4_iff {fr : List Int} : poolB 256 384 4 fr = true ↔ (∀ k ∈ fr, 0 ≤ k ∧ k ≤ 3) ∧ fr.Pairwise (· ≠ ·) := by
  unfold poolB
  simp only [Bool.and_eq_true, decide_eq_true_eq, List.all_eq_true, inB_iff]
  constructor
  · rintro ⟨⟨_, h1⟩, h2⟩
    exact ⟨fun k hk => by have := h1 k hk; omega, h2⟩
  · rintro ⟨h1, h2⟩
    exact ⟨⟨by decide, fun k hk => by have := h1 k hk; omega⟩, h2⟩
theorem pool4_perm {a b : List Int} (h : a.Perm b) (k : poolB 256 384 4 a = true) : poolB 256 384 4 b = true := by
  rw [pool4_iff] at *
  exact ⟨fun x hx => k.1 x (h.symm.subset hx), (h.pairwise_iff (fun {x y} hxy => hxy.symm)).1 k.2⟩
theorem encC_sz {a b c d e p : Int} (h : completionOkB a b c d e = true) (hp : 0 ≤ p ∧ p ≤ 1) : (encC a b c d e p).size = 16 := by
  obtain ⟨h1, h2, h3, h4, h5⟩ := cok_in h
  unfold encC
  simp only [ByteArray.size_append, word16_size h1, word16_size h2, word16_size h3, word16_size h4, word32_size h5, word32_size (inB_iff.2 (show 0 ≤ p ∧ p ≤ 4294967295 by omega))]
theorem desc_ok {k : Int} (h : 0 ≤ k ∧ k ≤ 3) : dOk (3, 0, 384, 256 + k * 384, 0, k) = true := show descB 3 0 384 (256 + k * 384) 0 k = true from descB_iff.2 ⟨by decide, by decide, by decide, by decide, by omega, by omega⟩
theorem RI.bd {ps : Pg} {h t dc vc : Int} {E : List Int} {D : List Dl} {fr : List Int} (R : RI ps h t dc vc E D fr) : (∀ k ∈ E, 0 ≤ k ∧ k ≤ 3) ∧ (∀ c ∈ D, 0 ≤ c.k ∧ c.k ≤ 3) ∧ (∀ k ∈ fr, 0 ≤ k ∧ k ≤ 3) := by
  have h1 := (pool4_iff.1 R.perm).1
  refine ⟨fun k hk => h1 k (List.mem_append_right _ (List.mem_append_left _ hk)), fun c hc => h1 _ (List.mem_append_right _ (List.mem_append_right _ (List.mem_map_of_mem hc))), fun k hk => h1 k (List.mem_append_left _ hk)⟩
theorem ri_take {ps : Pg} {h t dc vc k : Int} {E : List Int} {D : List Dl} {fr : List Int} (R : RI ps h t dc vc (k :: E) D fr) : rtakeF L16 ps 0 0 4 h t = (encD 3 0 384 (256 + k * 384) 0 k, rnext 4 h, true) := by
  obtain ⟨hs, b0, b1, s0, s1, h0, h1, t0, t1, u1, u0⟩ := ringOk_facts R.ring
  have hu := R.used
  simp only [List.length_cons] at hu
  have hsl := R.sl 0 (by simp)
  have e0 : at' (k :: E) 0 = k := rfl
  rw [e0, show ((0 : Nat) : Int) = 0 from rfl, Int.add_zero] at hsl
  have hr : rslot 0 4 h = h % 4 * 16 := by unfold rslot; omega
  have hd := dmaR_fs (a := rslot 0 4 h) (n := 16) (L16_t false) R.mem R.len (by rw [hr]; omega) (by decide) (by decide) (by rw [hr]; omega)
  rw [rt_y R.ring (by omega) (by rw [hd]), hd]
  simp only
  rw [hr, show Int.toNat 16 = 16 from rfl, hsl]
set_option maxHeartbeats 1000000 in
/-- An image is stored and told of. -/
theorem ri_store {ps : Pg} {h t dc vc k : Int} {E : List Int} {D : List Dl} {fr : List Int} (R : RI ps h t dc vc (k :: E) D fr) {im : ByteArray} {size count hash : Int} (him : im.size ≤ 384) (hc : completionOkB k im.size size count hash = true) :
    ∃ q1 qs, dmaWF L16 ps 0 (256 + k * 384) im true = (q1, true) ∧ putC L16 q1 0 128 4 dc k im.size size count hash = (qs, nextC 4 dc, true) ∧ RI qs (rnext 4 h) t (nextC 4 dc) vc E (D ++ [⟨k, im.size, size, count, hash, im⟩]) fr := by
  obtain ⟨hs, b0, b1, s0, s1, h0, h1, t0, t1, u1, u0⟩ := ringOk_facts R.ring
  obtain ⟨bE, bD, bF⟩ := R.bd
  have hk := bE k (List.mem_cons_self ..)
  have hv := R.cnt
  have htot := R.tot
  have hdc := R.dcq
  have hu := R.used
  simp only [List.length_cons] at hu htot
  obtain ⟨q1, w1, w2, w3, w4⟩ := dmaW_fb (a := 256 + k * 384) (s := im) (L16_t true) R.mem R.len (by omega) (by omega) (by omega)
  have hph := phaseC_bd 4 dc
  have hez := encC_sz (p := phaseC 4 dc) hc hph
  have hqok : queueOkB 128 4 dc = true := by
    unfold queueOkB
    simp only [Bool.and_eq_true, inB_iff]
    first | exact ⟨⟨by decide, by decide⟩, by omega, by omega⟩ | exact ⟨by decide, by decide, by omega, by omega⟩ | (refine ⟨⟨by omega, ?_⟩, by omega⟩; rfl)
  have hsc : slotC 128 4 dc = 128 + dc % 4 * 16 := rfl
  obtain ⟨qs, v1, v2, v3, v4⟩ := dmaW_fb (a := slotC 128 4 dc) (s := encC k im.size size count hash (phaseC 4 dc)) (L16_t true) w2 w3 (by rw [hsc]; omega) (by omega) (by rw [hsc]; omega)
  refine ⟨q1, qs, w1, by unfold putC; rw [if_pos hqok, if_pos hc, v1], ?_⟩
  rw [hsc] at v4
  have dcm : dc % 4 = (vc + D.length) % 4 := by omega
  -- what lies apart from both
  have off : ∀ (a : Int) (n : Nat), 0 ≤ a → a + n ≤ 2048 → (a + n ≤ 256 + k * 384 ∨ 256 + k * 384 + im.size ≤ a) → (a + n ≤ 128 + dc % 4 * 16 ∨ 128 + dc % 4 * 16 + 16 ≤ a) → fs 16 qs a n = fs 16 ps a n := fun a n a0 a1 o1 o2 => by
    rw [fs_off v4 a0 (by omega) (by rw [hez]; exact o2), fs_off w4 a0 (by omega) o1]
  obtain ⟨n1, n2⟩ : ringOkB 0 4 (rnext 4 h) t = true ∧ usedF 4 (rnext 4 h) t = usedF 4 h t - 1 := by
    have := pos_ok (s := 4) (i := 1) R.ring (by omega)
    have e : pos 4 h 1 = rnext 4 h := rfl
    rw [e] at this
    exact this
  have hn : (D ++ [(⟨k, im.size, size, count, hash, im⟩ : Dl)]).length = D.length + 1 := by simp
  have atO : ∀ j, j < D.length → at' (D ++ [(⟨k, im.size, size, count, hash, im⟩ : Dl)]) j = at' D j := fun j hj => by rw [atp_eq (by rw [hn]; omega), List.getElem_append_left hj, atp_eq hj]
  have atN : at' (D ++ [(⟨k, im.size, size, count, hash, im⟩ : Dl)]) D.length = ⟨k, im.size, size, count, hash, im⟩ := by rw [atp_eq (by rw [hn]; omega), List.getElem_append_right (Nat.le_refl _)]; simp
  have hpw := (pool4_iff.1 R.perm).2
  have hkD : ∀ c ∈ D, c.k ≠ k := fun c hc' e => by
    have h2 := (List.pairwise_append.1 (List.pairwise_append.1 hpw).2.1).2.2 k (List.mem_cons_self ..) c.k (List.mem_map_of_mem hc')
    exact h2 e.symm
  exact {
    mem := v2
    len := v3
    ring := n1
    used := by rw [n2]; omega
    sl := fun j hj => by
      have e : (rnext 4 h + (j : Int)) % 4 = (h + ((j + 1 : Nat) : Int)) % 4 := by unfold rnext; omega
      have e2 : at' (k :: E) (j + 1) = at' E j := rfl
      have := R.sl (j + 1) (by simp; exact hj)
      rw [e2] at this
      rw [e, ← this]
      exact off _ 16 (by omega) (by omega) (by omega) (by omega)
    cnt := hv
    dcq := by rw [hn]; unfold nextC; omega
    cmp := fun j hj => by
      rw [hn] at hj
      rcases (show j < D.length ∨ j = D.length by omega) with hj | hj
      · rw [atO j hj, ← R.cmp j hj]
        exact off _ 16 (by omega) (by omega) (by omega) (by omega)
      · subst hj
        rw [atN, ← dcm, ← hdc]
        have := fs_here v4 (by omega) (by rw [hez]; omega)
        rw [hez] at this
        exact this
    emp := fun j h4 hj4 => by
      rw [hn] at h4
      have := R.emp j (by omega) hj4
      rw [off (128 + (vc + j) % 4 * 16) 16 (by omega) (by omega) (by omega) (by omega)]
      exact this
    img := fun c hc' => by
      rcases List.mem_append.1 hc' with h | h
      · obtain ⟨i1, i2, i3, i4⟩ := R.img c h
        have hck := bD c h
        have hne := hkD c h
        refine ⟨i1, i2, i3, ?_⟩
        rw [off (256 + c.k * 384) c.im.size (by omega) (by omega) (by omega) (by omega)]
        exact i4
      · rw [List.mem_singleton.1 h]
        refine ⟨hc, rfl, him, ?_⟩
        show fs 16 qs (256 + k * 384) im.size = im
        rw [fs_off v4 (by omega) (by omega) (by rw [hez]; omega)]
        exact fs_here w4 (by omega) (by omega)
    perm := by
      refine pool4_perm ?_ R.perm
      refine List.Perm.append_left _ ?_
      rw [List.map_append]
      show (k :: E ++ D.map (·.k)).Perm (E ++ (D.map (·.k) ++ [k]))
      rw [← List.append_assoc]
      exact (List.perm_append_singleton k _).symm
    tot := by rw [hn]; omega }
end Go.Proofs.YtfcmcedeapgdcaaGreat
end
section
namespace Go.Proofs.YtfcmcedeapgdcaaGreat
open Go Go.RowKit Go.Vc
set_option linter.unusedVariables false
set_option linter.unusedSimpArgs false
set_option linter.unnecessarySimpa false
theorem xor_u32 {a b : Int} (ha : 0 ≤ a ∧ a ≤ 4294967295) (hb : 0 ≤ b ∧ b ≤ 4294967295) : 0 ≤ xorI a b ∧ xorI a b ≤ 4294967295 := by
  obtain ⟨m, rfl⟩ := Int.eq_ofNat_of_zero_le ha.1
  obtain ⟨n, rfl⟩ := Int.eq_ofNat_of_zero_le hb.1
  have hx : m ^^^ n < 2 ^ 32 := Nat.xor_lt_two_pow (by omega) (by omega)
  have e : xorI (m : Int) (n : Int) = ((m ^^^ n : Nat) : Int) := by
    show IntKind.i64.wrap (((BitVec.ofInt 64 (m : Int)) ^^^ (BitVec.ofInt 64 (n : Int))).toNat : Int) = _
    rw [BitVec.ofInt_natCast, BitVec.ofInt_natCast, BitVec.toNat_xor, BitVec.toNat_ofNat, BitVec.toNat_ofNat, Nat.mod_eq_of_lt (show m < 2 ^ 64 by omega), Nat.mod_eq_of_lt (show n < 2 ^ 64 by omega)]
    exact IntWalk.i64_in _ (by omega)
  rw [e]; omega
theorem hash_u32 (key x : ByteArray) : ∀ n, 0 ≤ hashF key x n ∧ hashF key x n ≤ 4294967295
  | 0 => by simp [hashF]
  | n + 1 => by
    have ih := hash_u32 key x n
    unfold hashF
    split
    · have := kwF_lt key n 32
      exact xor_u32 ih (by omega)
    · exact ih
theorem im_384 {p : Pk} (h : p.sup = true) : p.im.size ≤ 384 := by
  have h' : superOkB p.dm p.sm p.vl p.tos p.id p.ttl p.si p.di p.kind p.sp p.dp p.seq p.ack p.fl p.win p.body.size = true := h
  obtain ⟨h1, h2, h3, h4, h5, h6, h7, h8, h9, h10⟩ := superOk_facts h'
  have a1 := segR_le p.si p.di p.kind p.sp p.dp p.seq p.ack p.fl p.win p.body
  have a2 := ipR_le p.tos p.id p.ttl p.kind p.si p.di (segR p.si p.di p.kind p.sp p.dp p.seq p.ack p.fl p.win p.body)
  have a3 := padF_le (ipR p.tos p.id p.ttl p.kind p.si p.di (segR p.si p.di p.kind p.sp p.dp p.seq p.ack p.fl p.win p.body))
  have e2 := (sup_img h').1
  unfold supC at e2
  rw [Bool.and_eq_true] at e2
  unfold Pk.im imgR
  rw [if_pos h', ethR, if_pos e2.2, ethF]
  have b1 := mac_le p.dm; have b2 := mac_le p.sm; have b3 := word16_le 33024; have b4 := word16_le p.vl; have b5 := word16_le 2048
  split <;> simp only [ByteArray.size_append] <;> omega
def Rx.hp (q : Rx) : Pk := ⟨q.dm, q.sm, q.vl, q.tos, q.id, q.ttl, q.si, q.di, q.kind, q.sp, q.dp, q.seq, q.ack, q.fl, q.win, q.body⟩
def Rx.ok (q : Rx) : Bool := rxOkB q.rb q.rs q.rh q.rt q.db q.ds q.dc q.vb q.vs q.vc q.dm q.sm q.vl q.tos q.id q.ttl q.si q.di q.kind q.sp q.dp q.seq q.ack q.fl q.win q.body q.size q.count q.hold q.dropped
def Rx.fo (q : Rx) (key : ByteArray) : Bool := fhOk q.rb q.rs q.rh q.rt q.db q.ds q.dc q.vb q.vs q.vc q.dm q.sm q.vl q.tos q.id q.ttl q.si q.di q.kind q.sp q.dp q.seq q.ack q.fl q.win q.body q.size q.count q.hold q.dropped key
def Rx.fg (q : Rx) (l : List Mp) (ps : Pg) (d : Int) (key : ByteArray) : Bool := fhG l ps d q.rb q.rs q.rh q.rt q.db q.ds q.dc q.vb q.vs q.vc q.dm q.sm q.vl q.tos q.id q.ttl q.si q.di q.kind q.sp q.dp q.seq q.ack q.fl q.win q.body q.size q.count q.hold q.dropped key
def Rx.stq (q : Rx) (l : List Mp) (ps : Pg) (d : Int) (key : ByteArray) : Pg × Int × Bool := stF l ps d q.db q.ds q.dc q.dm q.sm q.vl q.tos q.id q.ttl q.si q.di q.kind q.sp q.dp q.seq q.ack q.fl q.win q.body q.size q.count key (rtakeF l ps d q.rb q.rs q.rh q.rt).1
def Rx.emp (q : Rx) (h dc dr : Int) : Rx := ⟨q.rb, q.rs, h, q.rt, q.db, q.ds, dc, q.vb, q.vs, q.vc, 0, 0, 0, 0, 0, 0, 0, 0, 0, 0, 0, 0, 0, 0, 0, ⟨#[]⟩, 0, 0, false, dr⟩
theorem fhq_no {l : List Mp} {ps : Pg} {d : Int} {q : Rx} {key : ByteArray} (h : q.fo key = false) : fhF l ps d q key = (ps, q) := by
  have hg : q.fg l ps d key = false := by
    show (q.fo key && _) = false
    rw [h]; rfl
  unfold Rx.fo at h
  unfold Rx.fg at hg
  unfold fhF
  rw [hg, h]
  rfl
theorem fh_y {l : List Mp} {ps : Pg} {d : Int} {q : Rx} {key : ByteArray} (h : q.fo key = true) (h2 : (rtakeF l ps d q.rb q.rs q.rh q.rt).2.2 = true) (h3 : (q.stq l ps d key).2.2 = true) : fhF l ps d q key = ((q.stq l ps d key).1, q.emp (rtakeF l ps d q.rb q.rs q.rh q.rt).2.1 (q.stq l ps d key).2.1 q.dropped) := by
  have hg : q.fg l ps d key = true := by
    show (q.fo key && ((rtakeF l ps d q.rb q.rs q.rh q.rt).2.2 && (q.stq l ps d key).2.2)) = true
    rw [h, h2, h3]; rfl
  unfold Rx.fo at h
  unfold Rx.fg at hg
  unfold fhF
  rw [hg, h]
  rfl
theorem fh_n {l : List Mp} {ps : Pg} {d : Int} {q : Rx} {key : ByteArray} (h : q.fo key = true) (h2 : (rtakeF l ps d q.rb q.rs q.rh q.rt).2.2 = false) : fhF l ps d q key = (ps, q.emp (rtakeF l ps d q.rb q.rs q.rh q.rt).2.1 q.dc (q.dropped + q.count)) := by
  have hg : q.fg l ps d key = false := by
    show (q.fo key && ((rtakeF l ps d q.rb q.rs q.rh q.rt).2.2 && (q.stq l ps d key).2.2)) = false
    rw [h2]; simp
  unfold Rx.fo at h
  unfold Rx.fg at hg
  unfold fhF
  rw [hg, h]
  rfl
structure Rx.at (q : Rx) (h t dc vc : Int) : Prop where
  rb : q.rb = 0
  rs : q.rs = 4
  rh : q.rh = h
  rt : q.rt = t
  db : q.db = 128
  ds : q.ds = 4
  dc' : q.dc = dc
  vb : q.vb = 128
  vs : q.vs = 4
  vc' : q.vc = vc
structure Rx.held (q : Rx) : Prop where
  sup : q.hp.sup = true
  size : 0 ≤ q.size ∧ q.size ≤ 320
  count : 1 ≤ q.count ∧ q.count ≤ 320
def Rx.bare (q : Rx) : Prop := noHeld q.dm q.sm q.vl q.tos q.id q.ttl q.si q.di q.kind q.sp q.dp q.seq q.ack q.fl q.win q.body q.size q.count = true
theorem q4_ok {c : Int} (h : 0 ≤ c ∧ c ≤ 7) : queueOkB 128 4 c = true := by
  unfold queueOkB
  simp only [Bool.and_eq_true, inB_iff]
  first | exact ⟨⟨by decide, by decide⟩, by omega, by omega⟩ | exact ⟨by decide, by decide, by omega, by omega⟩ | (refine ⟨⟨by omega, ?_⟩, by omega⟩; rfl)
theorem rx_ok {ps : Pg} {h t dc vc : Int} {E : List Int} {D : List Dl} {fr : List Int} {q : Rx} (R : RI ps h t dc vc E D fr) (A : q.at h t dc vc) (hd : 0 ≤ q.dropped ∧ q.dropped ≤ 1000000000000) (hh : if q.hold then q.held else q.bare) : q.ok = true := by
  have hv := R.cnt
  have hdc := R.dcq
  have h1 : ringOkB q.rb q.rs q.rh q.rt = true := by rw [A.rb, A.rs, A.rh, A.rt]; exact R.ring
  have h2 : queueOkB q.db q.ds q.dc = true := by rw [A.db, A.ds, A.dc']; exact q4_ok (by omega)
  have h3 : queueOkB q.vb q.vs q.vc = true := by rw [A.vb, A.vs, A.vc']; exact q4_ok (by omega)
  have h4 : q.db = q.vb := by rw [A.db, A.vb]
  have h5 : q.ds = q.vs := by rw [A.ds, A.vs]
  unfold Rx.ok rxOkB
  rw [h1, h2, h3, decide_eq_true h4, decide_eq_true h5, inB_iff.2 hd]
  simp only [Bool.true_and]
  cases hq : q.hold with
  | true =>
    rw [hq] at hh
    have hh : q.held := hh
    rw [if_pos rfl, inB_iff.2 hh.size, inB_iff.2 hh.count]
    have := hh.sup
    unfold Pk.sup at this
    show (superOkB _ _ _ _ _ _ _ _ _ _ _ _ _ _ _ _ && (true && true)) = true
    rw [show superOkB q.dm q.sm q.vl q.tos q.id q.ttl q.si q.di q.kind q.sp q.dp q.seq q.ack q.fl q.win q.body.size = true from this]; rfl
  | false =>
    rw [hq] at hh
    have hh : q.bare := hh
    rw [if_neg (by decide)]
    exact hh
set_option maxHeartbeats 1000000 in
/-- What is held goes to the next buffer, if there is one. -/
theorem fh_step {ps : Pg} {h t dc vc : Int} {E : List Int} {D : List Dl} {fr : List Int} {q : Rx} {key : ByteArray} (R : RI ps h t dc vc E D fr) (A : q.at h t dc vc) (hk : key.size = 16) (hd : 0 ≤ q.dropped ∧ q.dropped ≤ 1000000000000) (hh : q.hold = true) (hl : q.held) :
    ∃ qs h' dc' E' D' x, fhF L16 ps 0 q key = (qs, q.emp h' dc' (q.dropped + x)) ∧ RI qs h' t dc' vc E' D' fr ∧ (q.emp h' dc' (q.dropped + x)).at h' t dc' vc ∧
      ((E = [] ∧ E' = [] ∧ D' = D ∧ x = q.count) ∨ (∃ k z, E = k :: E' ∧ x = 0 ∧ D' = D ++ [⟨k, q.hp.im.size, q.size, q.count, z, q.hp.im⟩])) := by
  have hok := rx_ok R A hd (by rw [hh]; exact hl)
  have hfo : q.fo key = true := by
    show (q.ok && (q.hold && decide (key.size = 16))) = true
    rw [hok, hh, decide_eq_true hk]; rfl
  cases E with
  | nil =>
    have hu : usedF 4 h t = 0 := R.used
    have ht : rtakeF L16 ps 0 q.rb q.rs q.rh q.rt = (⟨#[]⟩, h, false) := by
      rw [A.rb, A.rs, A.rh, A.rt]
      exact rt_n (.inr (.inl hu))
    refine ⟨ps, h, dc, [], D, q.count, ?_, R, ⟨A.rb, A.rs, rfl, A.rt, A.db, A.ds, rfl, A.vb, A.vs, A.vc'⟩, .inl ⟨rfl, rfl, rfl, rfl⟩⟩
    rw [fh_n hfo (by rw [ht]), ht, A.dc']
  | cons k E =>
    have hkb := R.bd.1 k (List.mem_cons_self ..)
    have ht : rtakeF L16 ps 0 q.rb q.rs q.rh q.rt = (encD 3 0 384 (256 + k * 384) 0 k, rnext 4 h, true) := by
      rw [A.rb, A.rs, A.rh, A.rt]
      exact ri_take R
    have him := im_384 hl.sup
    have hc : completionOkB k q.hp.im.size q.size q.count (hflF key q.si q.di q.sp q.dp) = true := by
      have := hash_u32 key (hinF q.si q.di q.sp q.dp) (8 * (hinF q.si q.di q.sp q.dp).size)
      unfold completionOkB
      have a1 := hl.size; have a2 := hl.count
      simp only [Bool.and_eq_true, inB_iff]
      refine ⟨⟨⟨⟨?_, ?_⟩, ?_⟩, ?_⟩, this⟩ <;> omega
    obtain ⟨q1, qs, s1, s2, s3⟩ := ri_store R him hc
    have hen : encT (3, 0, 384, 256 + k * 384, 0, k) = encD 3 0 384 (256 + k * 384) 0 k := rfl
    have hdec : decDF (encD 3 0 384 (256 + k * 384) 0 k) = ((3, 0, 384, 256 + k * 384, 0, k), true) := by rw [← hen]; exact dec_enc (desc_ok hkb)
    have hst : q.stq L16 ps 0 key = (qs, nextC 4 dc, true) := by
      unfold Rx.stq
      rw [ht]
      simp only
      have e := st_y (l := L16) (ps := ps) (d := 0) (db := q.db) (ds := q.ds) (dc := q.dc) (dm := q.dm) (sm := q.sm) (vl := q.vl) (tos := q.tos) (id := q.id) (ttl := q.ttl) (si := q.si) (di := q.di) (kind := q.kind) (sp := q.sp) (dp := q.dp) (seq := q.seq) (ack := q.ack) (fl := q.fl) (win := q.win) (size := q.size) (count := q.count) (body := q.body) (key := key) (entry := encD 3 0 384 (256 + k * 384) 0 k) (by rw [hdec]) (by rw [hdec]) (by rw [hdec]; show ((q.hp.im.size : Nat) : Int) ≤ 384; omega) (by rw [hdec]; show (dmaWF L16 ps 0 (256 + k * 384) q.hp.im true).2 = true; rw [s1])
      rw [e, hdec]
      show putC L16 (dmaWF L16 ps 0 (256 + k * 384) q.hp.im true).1 0 q.db q.ds q.dc k q.hp.im.size q.size q.count _ = _
      rw [s1, A.db, A.ds, A.dc']
      exact s2
    refine ⟨qs, rnext 4 h, nextC 4 dc, E, _, 0, ?_, s3, ⟨A.rb, A.rs, rfl, A.rt, A.db, A.ds, rfl, A.vb, A.vs, A.vc'⟩, .inr ⟨k, _, rfl, rfl, rfl⟩⟩
    rw [fh_y hfo (by rw [ht]) (by rw [hst]), ht, hst, Int.add_zero]
end Go.Proofs.YtfcmcedeapgdcaaGreat
end
section
namespace Go.Proofs.YtfcmcedeapgdcaaGreat
open Go Go.RowKit Go.Vc
set_option linter.unusedVariables false
set_option linter.unusedSimpArgs false
set_option linter.unnecessarySimpa false
def Rx.join (q : Rx) (p : Pk) : Rx := ⟨q.rb, q.rs, q.rh, q.rt, q.db, q.ds, q.dc, q.vb, q.vs, q.vc, q.dm, q.sm, q.vl, q.tos, q.id, q.ttl, q.si, q.di, q.kind, q.sp, q.dp, q.seq, q.ack, p.fl, q.win, (q.body ++ p.body), q.size, (q.count + 1), q.hold, q.dropped⟩
def Rx.take (q : Rx) (p : Pk) : Rx := ⟨q.rb, q.rs, q.rh, q.rt, q.db, q.ds, q.dc, q.vb, q.vs, q.vc, p.dm, p.sm, p.vl, p.tos, p.id, p.ttl, p.si, p.di, p.kind, p.sp, p.dp, p.seq, p.ack, p.fl, p.win, p.body, (p.body.size : Int), 1, true, q.dropped⟩
def Rx.cj (q : Rx) (p : Pk) : Bool := cjB q.dm q.sm q.vl q.tos q.id q.ttl q.si q.di q.kind q.sp q.dp q.seq q.ack q.fl q.win q.body q.size q.count p.dm p.sm p.vl p.tos p.id p.ttl p.si p.di p.kind p.sp p.dp p.seq p.ack p.fl p.win p.body
def rp (ps : Pg) (q : Rx) (key : ByteArray) (p : Pk) (coal : Bool) : Pg × Rx := rpF L16 ps 0 q key p.dm p.sm p.vl p.tos p.id p.ttl p.si p.di p.kind p.sp p.dp p.seq p.ack p.fl p.win p.body coal
theorem pk_ok2 {p : Pk} (h : p.ok = true) : (superOkB p.dm p.sm p.vl p.tos p.id p.ttl p.si p.di p.kind p.sp p.dp p.seq p.ack p.fl p.win p.body.size && decide (p.body.size ≤ 128)) = true := h
theorem rp_j {ps : Pg} {q : Rx} {key : ByteArray} {p : Pk} {coal : Bool} (h1 : q.ok = true) (h2 : p.ok = true) (h3 : key.size = 16) (h4 : coal = true) (h5 : q.hold = true) (h6 : q.cj p = true) : rp ps q key p coal = (ps, q.join p) := by
  unfold rp rpF
  unfold Rx.ok at h1
  unfold Rx.cj at h6
  rw [if_pos ⟨h1, pk_ok2 h2, h3⟩, if_pos (by rw [h4, h5, h6]; rfl)]
  rfl
theorem rp_1 {ps : Pg} {q : Rx} {key : ByteArray} {p : Pk} {coal : Bool} {r1 : Pg × Rx} (hr : fhF L16 ps 0 q key = r1) (h1 : q.ok = true) (h2 : p.ok = true) (h3 : key.size = 16) (h4 : coal = true) (h5 : (q.hold && q.cj p) = false) : rp ps q key p coal = (r1.1, r1.2.take p) := by
  subst hr
  unfold rp rpF
  unfold Rx.ok at h1
  unfold Rx.cj at h5
  rw [if_pos ⟨h1, pk_ok2 h2, h3⟩, if_neg (by rw [h4]; show ¬ (true && (q.hold && _)) = true; rw [h5]; decide), h4]
  rfl
theorem rp_2 {ps : Pg} {q : Rx} {key : ByteArray} {p : Pk} {coal : Bool} {r1 : Pg × Rx} (hr : fhF L16 ps 0 q key = r1) (h1 : q.ok = true) (h2 : p.ok = true) (h3 : key.size = 16) (h4 : coal = false) : rp ps q key p coal = fhF L16 r1.1 0 (r1.2.take p) key := by
  subst hr
  unfold rp rpF
  unfold Rx.ok at h1
  rw [if_pos ⟨h1, pk_ok2 h2, h3⟩, if_neg (by rw [h4]; exact Bool.false_ne_true), h4]
  rfl
def sumC (D : List Dl) : Int := (D.map (·.count)).sum
theorem sumC_app (D : List Dl) (c : Dl) : sumC (D ++ [c]) = sumC D + c.count := by unfold sumC; rw [List.map_append, List.sum_append]; simp
def Rx.hc (q : Rx) : Int := if q.hold then q.count else 0
def Rx.hb (q : Rx) : Prop := if q.hold then q.held else q.bare
theorem emp_hb (q : Rx) (h dc dr : Int) : (q.emp h dc dr).hb := by
  show noHeld 0 0 0 0 0 0 0 0 0 0 0 0 0 0 0 ⟨#[]⟩ 0 0 = true
  decide
theorem take_held (q : Rx) {p : Pk} (h : p.ok = true) : (q.take p).held := by
  have h' : (p.sup && decide (p.body.size ≤ 128)) = true := h
  rw [Bool.and_eq_true, decide_eq_true_eq] at h'
  exact ⟨h'.1, ⟨by show (0 : Int) ≤ p.body.size; omega, by show (p.body.size : Int) ≤ 320; omega⟩, ⟨Int.le_refl _, by show (1 : Int) ≤ 320; decide⟩⟩
theorem join_held {q : Rx} {p : Pk} (h : q.held) (hj : q.cj p = true) : (q.join p).held := by
  unfold Rx.cj cjB at hj
  simp only [Bool.and_eq_true, decide_eq_true_eq, inB_iff] at hj
  obtain ⟨j1, ⟨j2, j2b⟩, j3, j4, j5, j6, j7, j8, j9, j10, j11, j12, j13⟩ := hj
  have hq := h.size
  have hcn := h.count
  have hmul : q.count ≤ q.size * q.count := by
    have := Int.mul_le_mul_of_nonneg_right (show 1 ≤ q.size by omega) (show 0 ≤ q.count by omega)
    rwa [Int.one_mul] at this
  refine ⟨?_, hq, ⟨by show 1 ≤ q.count + 1; omega, by show q.count + 1 ≤ 320; omega⟩⟩
  show superOkB q.dm q.sm q.vl q.tos q.id q.ttl q.si q.di q.kind q.sp q.dp q.seq q.ack p.fl q.win (q.body ++ p.body).size = true
  have hk : q.kind = 6 := by
    unfold samB at j3
    simp only [Bool.and_eq_true, decide_eq_true_eq] at j3
    omega
  have hfl := (sup_rng j2).2.2
  unfold superOkB segOkB at j1 ⊢
  simp only [Bool.and_eq_true, Bool.or_eq_true, inB_iff, Bool.not_eq_true', decide_eq_false_iff_not, beq_iff_eq] at j1 ⊢
  obtain ⟨a1, a2, a3, a4, a5, a6, a7, a8, ⟨⟨⟨b1, b2⟩, b3⟩, b4⟩, a9⟩ := j1
  rw [ByteArray.size_append]
  refine ⟨a1, a2, a3, a4, a5, a6, a7, a8, ⟨⟨⟨b1, b2⟩, by omega⟩, ?_⟩, .inr ⟨hk, j6⟩⟩
  rcases b4 with ⟨c1, c2, c3, c4, c5⟩ | ⟨c1, _⟩
  · exact .inl ⟨c1, c2, c3, hfl, c5⟩
  · rw [hk] at c1; exact absurd c1 (by decide)
theorem hold_true {q : Rx} (h : q.hold = true) : q.hc = q.count := by unfold Rx.hc; rw [h, if_pos rfl]
theorem hold_false {q : Rx} (h : q.hold = false) : q.hc = 0 := by unfold Rx.hc; rw [h, if_neg (by decide)]
end Go.Proofs.YtfcmcedeapgdcaaGreat
end

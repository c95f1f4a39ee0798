/- Part 4 of what the proof of FnSentInOrder rests on: an idealised machine, contracts of functions, and the walk of the law. No condition. -/
import Derived.Test.YtbdcaacpemkloaaGreatMFnSentInOrderc
section
namespace Go.Vc
open Go Go.RowKit
set_option linter.unusedVariables false
set_option linter.unusedSectionVars false
set_option linter.unusedSimpArgs false
set_option linter.unnecessarySimpa false
def offK (k : Nat) (H : Hp) : Hp := H.filter fun x => x.1 != k
theorem offK_id {k : Nat} : ∀ {H : Hp}, k ∉ H.map (·.1) → offK k H = H
  | [], _ => rfl
  | (d, v) :: t, h => by
    simp only [List.map_cons, List.mem_cons, not_or] at h
    unfold offK
    rw [List.filter_cons, if_pos (by simp only [bne_iff_ne, ne_eq]; exact fun e => h.1 e.symm)]
    exact congrArg _ (offK_id h.2)
theorem upd1_perm {k : Nat} {b : Blk} (b' : Blk) : ∀ {H : Hp}, (H.map (·.1)).Nodup → lk H k = some b → (upd1 k b' H).Perm ((k, b') :: offK k H)
  | [], _, h => by cases h
  | (d, v) :: t, hn, h => by
    simp only [List.map_cons, List.nodup_cons] at hn
    simp only [lk] at h
    simp only [upd1]
    by_cases e : d = k
    · subst e
      have : offK d ((d, v) :: t) = t := by
        unfold offK
        rw [List.filter_cons, if_neg (by simp)]
        exact offK_id hn.1
      rw [if_pos rfl, this]
    · rw [if_neg e] at h ⊢
      have : offK k ((d, v) :: t) = (d, v) :: offK k t := by
        unfold offK
        rw [List.filter_cons, if_pos (by simpa using e)]
      rw [this]
      exact ((upd1_perm b' hn.2 h).cons _).trans (.swap ..)
theorem upd1_same {k : Nat} {b : Blk} : ∀ {H : Hp}, lk H k = some b → upd1 k b H = H
  | [], h => by cases h
  | (d, v) :: t, h => by
    simp only [lk] at h
    simp only [upd1]
    split at h
    · rename_i e; subst e; simp at h; subst h; simp
    · rename_i e; rw [if_neg e, upd1_same h]
theorem lk_offK {k m : Nat} (h : m ≠ k) : ∀ {H : Hp}, lk (offK k H) m = lk H m
  | [] => rfl
  | (d, v) :: t => by
    unfold offK
    rw [List.filter_cons]
    by_cases e : d = k
    · rw [if_neg (by simp [e])]
      simp only [lk]
      rw [if_neg (fun e2 => h (e2.symm.trans e))]
      exact lk_offK h
    · rw [if_pos (by simpa using e)]
      simp only [lk]
      split
      · rfl
      · exact lk_offK h
theorem nd_offK {k : Nat} {H : Hp} (h : (H.map (·.1)).Nodup) : ((offK k H).map (·.1)).Nodup :=
  h.sublist (List.filter_sublist.map _)
section
variable {P : Program} [TyEnv P] {w0 w : World} {ρ : Nat → Value} {n : Nat} {t : Tm} {H : Hp} {a : Act}
theorem Rel.focus2 (h : Rel w0 w ρ n t H a) {j m q : Nat} {b c : Blk} (hj : lk H j = some b) (hm : lk H m = some c) (hjm : j ≠ m) (hq : lk H q = none) : ∃ A B Js, BR w0 (dom H) ρ (j, b) A ∧ BR w0 (dom H) ρ (m, c) B ∧ St w0 w (A :: B :: Js) ∧
    ∀ (w' : World) (b1 : Blk) (u : Value) (A' : Asn), (∀ D, BR w0 D (upρ ρ q u) (q, b1) A') → St w0 w' (A' :: Js) → Rel w0 w' (upρ ρ q u) n t (upd1 q b1 (upd1 m .dead (upd1 j .dead H))) a := by
  obtain ⟨As, h1, h2⟩ := h.hp
  have p1 : H.Perm ((j, b) :: offK j H) := by have := upd1_perm b h.nd hj; rwa [upd1_same hj] at this
  have hm1 : lk (offK j H) m = some c := by rw [lk_offK (fun e => hjm e.symm)]; exact hm
  have p2 : (offK j H).Perm ((m, c) :: offK m (offK j H)) := by have := upd1_perm c (nd_offK (k := j) h.nd) hm1; rwa [upd1_same hm1] at this
  obtain ⟨Bs, g2, g1⟩ := F2.perm (p1.trans (p2.cons _)) h1
  cases g1 with
  | @cons _ A _ l1 f1 f2 =>
    cases f2 with
    | @cons _ B _ Ks f2 f3 =>
      refine ⟨A, B, Ks, f1, f2, St.perm h2 g2, fun w' b1 u A' k1 k2 => ?_⟩
      have hqj : q ≠ j := fun e => by subst e; rw [hq] at hj; cases hj
      have hqm : q ≠ m := fun e => by subst e; rw [hq] at hm; cases hm
      have hD : ∀ i, dom H i → dom (upd1 q b1 (upd1 m .dead (upd1 j .dead H))) i ∧ upρ ρ q u i = ρ i := fun i hi => ⟨dom_upd1.2 (.inr (dom_upd1.2 (.inr (dom_upd1.2 (.inr hi))))), upρ_ne _ _ (fun e => lk_nd hq (e ▸ hi))⟩
      have nd1 := nd_upd1 j .dead h.nd
      have hmj : lk (upd1 j .dead H) m = some c := by rw [lk_upd1, if_neg (fun e => hjm e.symm)]; exact hm
      have nd2 := nd_upd1 m .dead nd1
      have hq2 : lk (upd1 m .dead (upd1 j .dead H)) q = none := by rw [lk_upd1, if_neg hqm, lk_upd1, if_neg hqj]; exact hq
      have pj := upd1_perm .dead h.nd hj
      have pm := upd1_perm .dead nd1 hmj
      have pf : (offK m (upd1 j .dead H)).Perm ((j, .dead) :: offK m (offK j H)) := by
        have := pj.filter (fun x : Nat × Blk => x.1 != m)
        have e : List.filter (fun x : Nat × Blk => x.1 != m) ((j, .dead) :: offK j H) = (j, .dead) :: offK m (offK j H) := by
          rw [List.filter_cons, if_pos (by simpa using hjm)]; rfl
        rw [e] at this; exact this
      have pall : ((q, b1) :: (m, .dead) :: (j, .dead) :: offK m (offK j H)).Perm (upd1 q b1 (upd1 m .dead (upd1 j .dead H))) := by
        rw [upd1_new b1 hq2]
        exact ((pm.trans (pf.cons _)).symm.cons _).trans (List.perm_append_singleton _ _).symm
      have hmem : ∀ x : Nat × Blk, x ∈ offK m (offK j H) → dom H x.1 := fun x hx => by
        have hx' : x ∈ H := (List.mem_filter.1 (List.mem_filter.1 hx).1).1
        exact dom_mem.2 (List.mem_map_of_mem (f := fun y : Nat × Blk => y.1) hx')
      have F : F2 (BR w0 (dom (upd1 q b1 (upd1 m .dead (upd1 j .dead H)))) (upρ ρ q u)) ((q, b1) :: (m, .dead) :: (j, .dead) :: offK m (offK j H)) (A' :: deadA :: deadA :: Ks) :=
        .cons (k1 _) (.cons rfl (.cons rfl (f3.mono fun x _ hx r => BR.ext hD (hmem x hx) r)))
      obtain ⟨Cs, c2, c1⟩ := F2.perm pall F
      refine ⟨h.sz, h.df, fun i => (h.tm i).ext hD, ⟨Cs, c1, St.perm ?_ c2⟩, nd_upd1 _ _ nd2⟩
      refine St.perm (St.dead (St.dead k2)) ?_
      exact ((List.Perm.swap ..).cons _).trans (.swap ..) |>.trans (((List.Perm.refl _)))
end
abbrev Snt := Int × Int × List (List Value)
def sntR (w : World) (x : Snt) (e : List Value) : Prop := ∃ v, e = [.int .i64 x.1, .int .i64 x.2.1, v] ∧ RB w (.sl 1 x.2.2) v
theorem sntR.ex {w w' : World} {x : Snt} {e : List Value} (h : sntR w x e) (hx : Ex w w') : sntR w' x e := by
  obtain ⟨v, h1, h2⟩ := h
  exact ⟨v, h1, RB.ex (p := .sl 1 x.2.2) h2 hx⟩
theorem sl_one {w : World} {sz : Nat} {es : List (List Value)} {u : Value} (h : RB w (.sl sz es) u) : u.oneCell' = true := by
  obtain ⟨a, cap, rfl, _⟩ := h; rfl
def snQ (xs : List Snt) : RdP where
  P w u := ∃ es, RB w (.sl 3 es) u ∧ F2 (sntR w) xs es
  ex := by
    rintro w w' u ⟨es, h1, h2⟩ hx
    exact ⟨es, RB.ex (p := .sl 3 es) h1 hx, h2.mono fun _ _ _ h => h.ex hx⟩
  one := by
    rintro w u ⟨es, h1, _⟩
    exact sl_one h1
def spQ (xs : List Snt) (i o : Nat) : RdP where
  P w u := ∃ b off es, u = .pointer (some ⟨b, off + i * 3 + o, none⟩) ∧ Cel w (some ⟨b, off, none⟩) 3 es ∧ F2 (sntR w) xs es
  ex := by
    rintro w w' u ⟨b, off, es, h1, h2, h3⟩ hx
    exact ⟨b, off, es, h1, h2.ex hx, h3.mono fun _ _ _ h => h.ex hx⟩
  one := by
    rintro w u ⟨b, off, es, rfl, _⟩
    rfl
def joinA (L : List Asn) : Asn where
  P w F := SepL w L F
  stable h hs := SepL.stable h hs
  lt h b hb := SepL.lt h b hb
theorem SepL.app {w : World} : ∀ {L M : List Asn} {F G : Nat → Prop}, SepL w L F → SepL w M G → (∀ b, F b → ¬ G b) → SepL w (L ++ M) fun b => F b ∨ G b
  | [], M, F, G, h, k, hd => by
    have : (fun b => F b ∨ G b) = G := by funext b; exact propext ⟨fun x => x.elim (fun x => (h b x).elim) id, .inr⟩
    rw [this]; exact k
  | A :: L, M, F, G, ⟨F1, F2, h1, h2, h3, h4⟩, k, hd => by
    refine ⟨F1, fun b => F2 b ∨ G b, h1, SepL.app h2 k fun b hb => hd b ((h4 b).2 (.inr hb)), fun b hb hg => ?_, fun b => ?_⟩
    · rcases hg with hg | hg
      · exact h3 b hb hg
      · exact hd b ((h4 b).2 (.inl hb)) hg
    · show (F b ∨ G b) ↔ (F1 b ∨ (F2 b ∨ G b))
      rw [h4, or_assoc]
theorem SepL.unapp {w : World} : ∀ {L M : List Asn} {F : Nat → Prop}, SepL w (L ++ M) F → ∃ F1 F2, SepL w L F1 ∧ SepL w M F2 ∧ (∀ b, F1 b → ¬ F2 b) ∧ ∀ b, F b ↔ (F1 b ∨ F2 b)
  | [], M, F, h => ⟨fun _ => False, F, fun _ h => h, h, fun _ h => h.elim, fun b => ⟨.inr, fun x => x.elim False.elim id⟩⟩
  | A :: L, M, F, ⟨F1, F2, h1, h2, h3, h4⟩ => by
    obtain ⟨G1, G2, g1, g2, g3, g4⟩ := SepL.unapp h2
    refine ⟨fun b => F1 b ∨ G1 b, G2, ⟨F1, G1, h1, g1, fun b hb hg => h3 b hb ((g4 b).2 (.inl hg)), fun _ => Iff.rfl⟩, g2, fun b hb hg => ?_, fun b => ?_⟩
    · rcases hb with hb | hb
      · exact h3 b hb ((g4 b).2 (.inr hg))
      · exact g3 b hb hg
    · rw [h4, g4, or_assoc]
section
variable {w0 w : World} {Js : List Asn}
theorem _root_.Go.St.joinL {L : List Asn} (h : St w0 w (L ++ Js)) : St w0 w (joinA L :: Js) := by
  obtain ⟨h1, F, h2, h3⟩ := h
  obtain ⟨F1, F2, g1, g2, g3, g4⟩ := SepL.unapp h2
  exact ⟨h1, F, ⟨F1, F2, g1, g2, g3, g4⟩, h3⟩
theorem _root_.Go.St.unjoin {L : List Asn} (h : St w0 w (joinA L :: Js)) : St w0 w (L ++ Js) := by
  obtain ⟨h1, F, ⟨F1, F2, g1, g2, g3, g4⟩, h3⟩ := h
  have := SepL.app (L := L) (M := Js) g1 g2 g3
  refine ⟨h1, _, this, fun b hb => h3 b ((g4 b).2 hb)⟩
end
def sntC : List Snt → List Value → List (List Value)
  | x :: xs, v :: vs => [.int .i64 x.1, .int .i64 x.2.1, v] :: sntC xs vs
  | _, _ => []
def sntO (E' : TypeId) : List Snt → List Value → List Asn
  | x :: xs, v :: vs => slotA E' 1 v x.2.2.length x.2.2.flatten :: sntO E' xs vs
  | _, _ => []
def fl1 (es : List (List Value)) : Prop := ∀ e ∈ es, e.length = 1 ∧ e.all (·.oneCell') = true
theorem sntC_len : ∀ {xs : List Snt} {vs : List Value}, vs.length = xs.length → (sntC xs vs).length = xs.length
  | [], [], _ => rfl
  | x :: xs, v :: vs, h => by simp only [sntC, List.length_cons]; rw [sntC_len (by simpa using h)]
theorem sntC_app {x : Snt} {v : Value} : ∀ {xs : List Snt} {vs : List Value}, vs.length = xs.length → sntC (xs ++ [x]) (vs ++ [v]) = sntC xs vs ++ [[.int .i64 x.1, .int .i64 x.2.1, v]]
  | [], [], _ => rfl
  | y :: xs, u :: vs, h => by simp only [sntC, List.cons_append]; rw [sntC_app (by simpa using h)]
theorem sntO_app {E' : TypeId} {x : Snt} {v : Value} : ∀ {xs : List Snt} {vs : List Value}, vs.length = xs.length → sntO E' (xs ++ [x]) (vs ++ [v]) = sntO E' xs vs ++ [slotA E' 1 v x.2.2.length x.2.2.flatten]
  | [], [], _ => rfl
  | y :: xs, u :: vs, h => by simp only [sntO, List.cons_append]; rw [sntO_app (by simpa using h)]
theorem slot_RB {w : World} {E : TypeId} {sz : Nat} {v : Value} {es : List (List Value)} (h : Slot 0 w E sz v es.length es.flatten) (hes : ∀ e ∈ es, e.length = sz ∧ e.all (·.oneCell') = true) : RB w (.sl sz es) v := by
  obtain ⟨hl, ⟨hv, h0⟩ | ⟨b, off, cap, cur, hv, _, hb, c1, c2, c3, c4⟩⟩ := h
  · have : es = [] := List.eq_nil_of_length_eq_zero h0
    subst this
    exact ⟨none, 0, by rw [hv]; rfl, Nat.le_refl _, Nat.zero_le _, hes, fun h => (h rfl).elim⟩
  · refine ⟨some ⟨b, off, none⟩, cap, hv, c1, c2, hes, fun _ => ⟨b, off, rfl, fun i e he j hj => ?_⟩⟩
    have hi := (List.getElem?_eq_some_iff.1 he).1
    have := Nat.mul_le_mul_right sz (show i + 1 ≤ es.length from hi)
    rw [Nat.succ_mul] at this
    rw [cell_row hb, Nat.add_assoc, c4 (i * sz + j) (by omega), flat_at hes he hj]
theorem sntO_read {E' : TypeId} {w : World} : ∀ {xs : List Snt} {vs : List Value} {F : Nat → Prop}, vs.length = xs.length → (∀ x ∈ xs, fl1 x.2.2) → SepL w (sntO E' xs vs) F → F2 (sntR w) xs (sntC xs vs) ∧ ∀ v ∈ vs, v.oneCell' = true
  | [], [], _, _, _, _ => ⟨.nil, fun v h => (by cases h)⟩
  | x :: xs, v :: vs, F, hl, hf, ⟨F1, F2, h1, h2, _, _⟩ => by
    obtain ⟨r1, r2⟩ := sntO_read (by simpa using hl) (fun y hy => hf y (List.mem_cons_of_mem _ hy)) h2
    have hr : RB w (.sl 1 x.2.2) v := slot_RB h1.1 (hf x (List.mem_cons_self ..))
    refine ⟨.cons ⟨v, rfl, hr⟩ r1, fun u hu => ?_⟩
    rcases List.mem_cons.1 hu with rfl | hu
    · exact sl_one hr
    · exact r2 u hu
theorem sntC_ok : ∀ {xs : List Snt} {vs : List Value}, (∀ v ∈ vs, v.oneCell' = true) → ∀ e ∈ sntC xs vs, e.length = 3 ∧ e.all (·.oneCell') = true
  | [], _, _, e, he => by cases he
  | _ :: _, [], _, e, he => by cases he
  | x :: xs, v :: vs, h, e, he => by
    simp only [sntC, List.mem_cons] at he
    rcases he with rfl | he
    · have := h v (List.mem_cons_self ..)
      exact ⟨rfl, by simp only [List.all_cons, List.all_nil, this, Bool.and_true]; rfl⟩
    · exact sntC_ok (fun u hu => h u (List.mem_cons_of_mem _ hu)) e he
def sntA (E E' : TypeId) (xs : List Snt) (v : Value) : Asn where
  P w F := (∀ x ∈ xs, fl1 x.2.2) ∧ ∃ vs : List Value, vs.length = xs.length ∧ SepL w (slotA E 3 v xs.length (sntC xs vs).flatten :: sntO E' xs vs) F
  stable := by
    rintro w w' F ⟨h0, vs, h1, h2⟩ hs
    exact ⟨h0, vs, h1, SepL.stable h2 hs⟩
  lt := by
    rintro w F ⟨h0, vs, h1, h2⟩ b hb
    exact SepL.lt h2 b hb
def sntOw (E E' : TypeId) (xs : List Snt) : OwP where
  A := sntA E E' xs
  Q := snQ xs
  rd := by
    rintro w F v ⟨h0, vs, h1, F1, F2, h2, h3, _, _⟩
    obtain ⟨r1, r2⟩ := sntO_read h1 h0 h3
    refine ⟨sntC xs vs, slot_RB (E := E) ?_ (sntC_ok r2), r1⟩
    rw [sntC_len h1]
    exact h2.1
def litA (E E' : TypeId) (x : Snt) (v : Value) : Asn where
  P w F := fl1 x.2.2 ∧ ∃ b u, v = .slice (some ⟨b, 0, none⟩) 1 1 ∧ SepL w [rowA b [.int .i64 x.1, .int .i64 x.2.1, u] E, slotA E' 1 u x.2.2.length x.2.2.flatten] F
  stable := by
    rintro w w' F ⟨h0, b, u, h1, h2⟩ hs
    exact ⟨h0, b, u, h1, SepL.stable h2 hs⟩
  lt := by
    rintro w F ⟨h0, b, u, h1, h2⟩ c hc
    exact SepL.lt h2 c hc
def litOw (E E' : TypeId) (x : Snt) : OwP where
  A := litA E E' x
  Q := ⟨fun w u => u.oneCell' = true, fun h _ => h, fun h => h⟩
  rd := by
    rintro w F v ⟨h0, b, u, rfl, _⟩
    rfl
theorem snt_nil (E E' : TypeId) (w : World) : (sntA E E' [] (.slice none 0 0)).P w fun _ => False :=
  ⟨fun x h => (by cases h), [], rfl, fun _ => False, fun _ => False, ⟨⟨by simp [sntC], .inl ⟨rfl, rfl⟩⟩, fun b => by simp [Value.blk]⟩, fun _ h => h, fun _ h => h.elim, fun b => by simp⟩
theorem snt_arr {E E' : TypeId} {v : Value} {w : World} {F : Nat → Prop} (h : (slotA E 3 v 0 []).P w F) : (sntA E E' [] v).P w F :=
  ⟨fun x h => (by cases h), [], rfl, F, fun _ => False, h, fun _ h => h, fun _ _ h => h, fun b => by simp⟩
theorem _root_.Go.St.drop1 {w0 w : World} {A : Asn} {Js : List Asn} (h : St w0 w (A :: Js)) : St w0 w Js := by
  obtain ⟨h1, F, ⟨F1, F2, _, g2, _, g4⟩, h3⟩ := h
  exact ⟨h1, F2, g2, fun b hb => h3 b ((g4 b).2 (.inr hb))⟩
theorem _root_.Go.St.snt_o {w0 w : World} {E E' : TypeId} {xs : List Snt} {v : Value} {Js : List Asn} (h : St w0 w (sntA E E' xs v :: Js)) : (∀ x ∈ xs, fl1 x.2.2) ∧ ∃ vs : List Value, vs.length = xs.length ∧ St w0 w (slotA E 3 v xs.length (sntC xs vs).flatten :: (sntO E' xs vs ++ Js)) := by
  obtain ⟨h1, F, ⟨F1, F2, ⟨h0, vs, k1, k2⟩, k3, k4, k5⟩, g3⟩ := h
  exact ⟨h0, vs, k1, St.unjoin (L := slotA E 3 v xs.length (sntC xs vs).flatten :: sntO E' xs vs) ⟨h1, F, ⟨F1, F2, k2, k3, k4, k5⟩, g3⟩⟩
theorem _root_.Go.St.lit_o {w0 w : World} {E E' : TypeId} {x : Snt} {v : Value} {Js : List Asn} (h : St w0 w (litA E E' x v :: Js)) : fl1 x.2.2 ∧ ∃ b u, v = .slice (some ⟨b, 0, none⟩) 1 1 ∧ St w0 w (rowA b [.int .i64 x.1, .int .i64 x.2.1, u] E :: slotA E' 1 u x.2.2.length x.2.2.flatten :: Js) := by
  obtain ⟨h1, F, ⟨F1, F2, ⟨h0, b, u, k1, k2⟩, k3, k4, k5⟩, g3⟩ := h
  exact ⟨h0, b, u, k1, St.unjoin (L := [rowA b [.int .i64 x.1, .int .i64 x.2.1, u] E, slotA E' 1 u x.2.2.length x.2.2.flatten]) ⟨h1, F, ⟨F1, F2, k2, k3, k4, k5⟩, g3⟩⟩
section
variable {P : Program} [TyEnv P] {o : Oper} {rd : Nat → AV} {T e : TypeId} {i : TyI} {k j m : Nat}
theorem tri_lenQ {x : Operand} {xs : List Snt} (ho : o.op = .call { callee := .builtin .len, args := #[x], argTypes := #[T] }) (hi : TyEnv.ti P T = some i) (hk : i.k = .slice e) (hx : evo rd x = .one (.rd (snQ xs))) : Tri P o rd [] (.one (.v (.int .i64 xs.length))) [] := by
  refine tri_pure fun w0 w D ρ ac hh hex => ?_
  have h1 := hh x (by simp [ho, Op.operands, Call.operands])
  rw [hx] at h1
  obtain ⟨es, ⟨A, c, h1, _⟩, h2⟩ := h1
  refine ⟨_, ?_, ar_v rfl⟩
  have hu := ty_slice hi hk
  have := run_len_slice (P := P) w T o.type A es.length c (by rw [elem_of hu]; exact hu)
  rw [h2.len]
  simp [execOp, ho, resolve, invoke, builtin, h1, this, goInt]
theorem tri_ixQ {x y : Operand} {xs : List Snt} {ei : TyI} {n : Int} (ho : o.op = .indexAddr T x y) (hi : TyEnv.ti P T = some i) (hk : i.k = .slice e) (he : TyEnv.ti P e = some ei) (hsz : ei.size = 3) (hx : evo rd x = .one (.rd (snQ xs))) (hy : evo rd y = .one (.v (.int .i64 n))) (h0 : 0 ≤ n ∧ n < xs.length) : Tri P o rd [] (.one (.rd (spQ xs n.toNat 0))) [] := by
  refine tri_pure fun w0 w D ρ a hh hex => ?_
  have h1 := hh x (by simp [ho, Op.operands])
  have h2 := hh y (by simp [ho, Op.operands])
  rw [hx] at h1; rw [hy] at h2
  obtain ⟨es, ⟨A, c, h1, _, _, hc⟩, hF⟩ := h1
  have hl := hF.len
  have hu := ty_slice hi hk
  obtain ⟨b, off, rfl, _⟩ := hc.2 (fun h => by subst h; simp at hl; subst hl; simp at h0; omega)
  have := run_indexAt_slice (P := P) w T ⟨b, off, none⟩ es.length c .i64 n (by rw [elem_of hu]; exact hu)
  rw [if_pos (by omega), elem_of hu, size_run he] at this
  simp only [Result.andThen_ok, add_plain] at this
  exact ⟨.pointer (some ⟨b, off + n.toNat * ei.size, none⟩), by simp only [execOp, ho, h1, AR.int h2, Sem.run_bind, this, Result.andThen_ok, Sem.run_pure], b, off, es, by rw [hsz, Nat.add_zero], hc, hF⟩
def sntP (x : Snt) : List PV := [.v (.int .i64 x.1), .v (.int .i64 x.2.1), .sl 1 x.2.2]
theorem tri_ldQ {x : Operand} {xs : List Snt} {y : Snt} {f : Nat} {v : AV} (ho : o.op = .load T x) (hi : TyEnv.ti P T = some i) (hx : evo rd x = .one (.rd (spQ xs j f))) (hy : xs[j]? = some y) (hv : mkv i ((sntP y).drop f) = some v) : Tri P o rd [] v [] := by
  intro w0 w ρ n t H a Q hr ht hrs hfr hd
  have hx' := hr.ev x
  rw [evo_of (o := o) (by rw [ho]; simp [Op.operands]) ht, hx] at hx'
  obtain ⟨b, off, es, hx', hc, hF⟩ := hx'
  obtain ⟨As, h2, _⟩ := hr.parts
  obtain ⟨e, he, u, rfl, hu⟩ := hF.get hy
  obtain ⟨b', off', e1, e2⟩ := (hc.ex h2.ex).2 (fun h => by subst h; simp at he)
  simp only [Option.some.injEq, Addr.mk.injEq, and_true] at e1
  obtain ⟨rfl, rfl⟩ := e1
  have hF2 : F2 (R w0 (dom H) ρ) (sntP y) [.int .i64 y.1, .int .i64 y.2.1, u] := .cons ⟨rfl, rfl⟩ (.cons ⟨rfl, rfl⟩ (.cons hu .nil))
  have hm := mkv_R (w0 := w0) (D := dom H) (ρ := ρ) hv (hF2.drop f)
  refine wp_loadX ho hi hx' (us := [Value.int .i64 y.1, .int .i64 y.2.1, u].drop f) (fun m v hm => ?_) hm fun u hu => ⟨ρ, hr.put hu hd⟩
  rw [List.getElem?_drop] at hm
  have hlt := (List.getElem?_eq_some_iff.1 hm).1
  rw [Nat.add_assoc, e2 j _ he (f + m) (by simpa using hlt)]
  exact hm
theorem tri_fieldQ {x : Operand} {f off fsz g0 : Nat} {xs : List Snt} {fs : List (Nat × Nat)} (ho : o.op = .fieldAddr T x f) (hi : TyEnv.ti P T = some i) (hk : i.k = .struct fs) (hf : fs[f]? = some (off, fsz)) (h0 : 0 < fsz) (hx : evo rd x = .one (.rd (spQ xs j g0))) : Tri P o rd [] (.one (.rd (spQ xs j (g0 + off)))) [] := by
  refine tri_pure fun w0 w D ρ ac hh hex => ?_
  have h1 := hh x (by simp [ho, Op.operands])
  rw [hx] at h1
  have hkd := ty_kind hi
  rw [hk] at hkd
  obtain ⟨hu, hfs, hall⟩ := hkd
  rw [← hfs, List.getElem?_map, Option.map_eq_some_iff] at hf
  obtain ⟨fd, hfd, he⟩ := hf
  simp only [Prod.mk.injEq] at he
  obtain ⟨rfl, hsz⟩ := he
  have hin := List.all_eq_true.1 hall fd (List.mem_of_getElem? hfd)
  obtain ⟨inf, hinf⟩ := Option.isSome_iff_exists.1 hin
  rw [hinf] at hsz
  simp only [Option.map_some, Option.getD_some] at hsz
  have hfd' : (P.fieldsOf T)[f]? = some fd := by rw [← Array.getElem?_toList]; exact hfd
  have key : ∀ b g, (Instr.fieldAt T (.pointer (some ⟨b, g, none⟩)) f).run P w = .ok (.pointer (some ⟨b, g + fd.offset, none⟩)) w := by
    intro b g
    have hs : (sizeOf fd.type).run P w = .ok fsz w := by simp [sizeOf, typeInfo, hinf, hsz]
    have hne : ¬ fsz = 0 := by omega
    simp [Instr.fieldAt, Sem.run_bind, run_underlying hu, hfd', Instr.sureAddr, fieldPlace, hs, hne, add_plain]
  obtain ⟨b, g, es, hx', hc, hF⟩ := h1
  exact ⟨.pointer (some ⟨b, _, none⟩), by simp only [execOp, ho, hx', Sem.run_bind, key, Result.andThen_ok, Sem.run_pure]; rfl, b, g, es, by rw [Nat.add_assoc], hc, hF⟩
theorem tri_litQ {E' : TypeId} {ei : TyI} {y : Operand} {p q : Int} {es : List (List Value)} (ho : o.op = .buildSlice T 1 #[(0, y)]) (hi : TyEnv.ti P T = some i) (hk : i.k = .slice e) (hei : TyEnv.ti P e = some ei) (hsz : ei.size = 3) (hy : evo rd y = .agg [.v (.int .i64 p), .v (.int .i64 q), .hs m]) (hkm : k ≠ m) : Tri P o rd [(m, .arr E' 1 es)] (.one (.hs k)) [(m, .dead), (k, .own (litOw e E' (p, q, es)))] := by
  intro w0 w ρ n t H a Q hr ht hrs hfr hd
  have hlm := hrs m _ (List.mem_cons_self ..)
  have hlk : lk H k = none := (hfr k _ (List.mem_cons_of_mem _ (List.mem_cons_self ..))).resolve_left (by
    rintro ⟨b, hb⟩
    simp only [List.mem_singleton, Prod.mk.injEq] at hb
    exact hkm hb.1)
  obtain ⟨A, Js, ⟨hes, rfl⟩, h2, _, h4⟩ := hr.focus hlm
  have hu : P.underlying T = some (.slice e) := by have := ty_kind hi; rw [hk] at this; exact this
  obtain ⟨z, hz, _⟩ := ty_info hei
  have hy' := hr.ev y
  rw [evo_of (o := o) (by rw [ho]; simp [Op.operands]) ht, hy] at hy'
  obtain ⟨us, hus, hF⟩ := hy'
  cases hF with
  | cons f1 hF =>
    cases hF with
    | cons f2 hF =>
      cases hF with
      | cons f3 hF =>
        cases hF
        obtain ⟨rfl, _⟩ := f1
        obtain ⟨rfl, _⟩ := f2
        obtain ⟨hD, rfl, _⟩ := f3
        refine wp_bsliceN_st T 1 #[(0, y)] ho e hu hz (ty_pos hei) [y] rfl rfl (by omega) (by rw [hsz]; decide) (vs := [.agg [.int .i64 p, .int .i64 q, ρ m].toArray]) (by simp [hus]) (by rw [hsz]; rfl) (cs := [.int .i64 p, .int .i64 q, ρ m]) rfl h2 fun w' b hb hS => ?_
        have g := h4 w' k (.own (litOw e E' (p, q, es))) (.slice (some ⟨b, 0, none⟩) 1 1) (litA e E' (p, q, es) (.slice (some ⟨b, 0, none⟩) 1 1)) hlk (fun D => by show _ = litA e E' (p, q, es) (upρ ρ k _ k); rw [upρ_self]) ?_
        · exact ⟨_, g.put ⟨dom_upd1.2 (.inl rfl), (upρ_self ..).symm, rfl⟩ hd⟩
        · have hJ := St.joinL (L := [_, _]) hS
          exact hJ.same fun F hF => ⟨F, ⟨hes, b, ρ m, rfl, hF⟩, fun _ h => h⟩
theorem tri_appQ {E' : TypeId} {ei : TyI} {x y : Operand} {xs : List Snt} {s : Snt} (ho : o.op = .call { callee := .builtin .append, args := #[x, y], argTypes := #[T, T] }) (hi : TyEnv.ti P T = some i) (hk : i.k = .slice e) (hei : TyEnv.ti P e = some ei) (hsz : ei.size = 3) (hx : evo rd x = .one (.hs j)) (hy : evo rd y = .one (.hs m))
    (hm : xs.length + 1 ≤ maxLen) (hb : (xs.length + 1) * ei.bytes ≤ 140737488355328) (hjm : j ≠ m) (hkj : k ≠ j) (hkm : k ≠ m) : Tri P o rd [(j, .own (sntOw e E' xs)), (m, .own (litOw e E' s))] (.one (.hs k)) [(j, .dead), (m, .dead), (k, .own (sntOw e E' (xs ++ [s])))] := by
  intro w0 w ρ n t H a Q hr ht hrs hfr hd
  have hlj := hrs j _ (List.mem_cons_self ..)
  have hlm := hrs m _ (List.mem_cons_of_mem _ (List.mem_cons_self ..))
  have hlk : lk H k = none := (hfr k _ (List.mem_cons_of_mem _ (List.mem_cons_of_mem _ (List.mem_cons_self ..)))).resolve_left (by
    rintro ⟨b, hb⟩
    simp only [List.mem_cons, Prod.mk.injEq, List.not_mem_nil, or_false] at hb
    rcases hb with hb | hb
    · exact hkj hb.1
    · exact hkm hb.1)
  obtain ⟨A, B, Js, hA, hB, h2, h4⟩ := hr.focus2 hlj hlm hjm hlk
  have hA' : A = sntA e E' xs (ρ j) := hA
  have hB' : B = litA e E' s (ρ m) := hB
  subst hA' hB'
  have hu : P.underlying T = some (.slice e) := by have := ty_kind hi; rw [hk] at this; exact this
  obtain ⟨z, hz, _⟩ := ty_info hei
  have hx' := hr.ev x
  rw [evo_of (o := o) (by rw [ho]; simp [Op.operands, Call.operands]) ht, hx] at hx'
  obtain ⟨_, hx', _⟩ := hx'
  have hy' := hr.ev y
  rw [evo_of (o := o) (by rw [ho]; simp [Op.operands, Call.operands]) ht, hy] at hy'
  obtain ⟨_, hy', _⟩ := hy'
  obtain ⟨hF0, vs, hvl, s1⟩ := h2.snt_o
  have s2 : St w0 w (litA e E' s (ρ m) :: (slotA e 3 (ρ j) xs.length (sntC xs vs).flatten :: (sntO E' xs vs ++ Js))) := St.perm s1 (List.perm_middle (l₁ := slotA e 3 (ρ j) xs.length (sntC xs vs).flatten :: sntO E' xs vs))
  obtain ⟨hG0, b, u, hv, s3⟩ := s2.lit_o
  have s4 : St w0 w (slotA e 3 (ρ j) xs.length (sntC xs vs).flatten :: rowA b [.int .i64 s.1, .int .i64 s.2.1, u] e :: slotA E' 1 u s.2.2.length s.2.2.flatten :: (sntO E' xs vs ++ Js)) := St.perm s3 (((List.Perm.swap _ _ _).cons _).trans (.swap _ _ _))
  have hone : u.oneCell' = true := by
    obtain ⟨F, hF⟩ := (s4.take (.tail (.tail .head))).head
    exact sl_one (slot_RB hF.1 hG0)
  have hrow := s4.row (.tail .head)
  rw [hv] at hy'
  have hsrc : Src P 3 T (a.eval y) 1 [.int .i64 s.1, .int .i64 s.2.1, u] w := by
    rw [hy']
    exact src_cells (new := [[.int .i64 s.1, .int .i64 s.2.1, u]]) hu (fun e' he => by simp only [List.mem_singleton] at he; subst he; exact ⟨rfl, by simp only [List.all_cons, List.all_nil, hone, Bool.and_true]; rfl⟩) rfl fun q hq => by
      rw [cell_row hrow]
      simp
  rw [← hsz] at hsrc s4
  refine wp_app_st x y T T ho e hu hz hx' s4 .head rfl hsrc hm hb fun A c w' hsz' hS => ?_
  rw [hsz] at hS
  have hS2 : St w0 w' ((slotA e 3 (.slice A (xs.length + 1) c) (xs.length + 1) ((sntC xs vs).flatten ++ [.int .i64 s.1, .int .i64 s.2.1, u]) :: (sntO E' xs vs ++ [slotA E' 1 u s.2.2.length s.2.2.flatten])) ++ Js) := by
    have := (St.perm hS (.swap _ _ _)).drop1
    refine St.perm this ?_
    refine List.Perm.cons _ ?_
    show List.Perm _ ((sntO E' xs vs ++ [slotA E' 1 u s.2.2.length s.2.2.flatten]) ++ Js)
    rw [List.append_assoc]
    exact (List.perm_middle (l₁ := sntO E' xs vs) (l₂ := Js)).symm
  have hS3 : St w0 w' (sntA e E' (xs ++ [s]) (.slice A (xs.length + 1) c) :: Js) := by
    refine hS2.joinL.same fun F hF => ⟨F, ⟨fun x hx => ?_, vs ++ [u], by simp [hvl], ?_⟩, fun _ h => h⟩
    · rcases List.mem_append.1 hx with hx | hx
      · exact hF0 x hx
      · simp only [List.mem_singleton] at hx; subst hx; exact hG0
    · rw [sntC_app hvl, sntO_app hvl, List.length_append, List.flatten_append]
      exact hF
  have g := h4 w' (.own (sntOw e E' (xs ++ [s]))) (.slice A (xs.length + 1) c) _ (fun D => by show _ = sntA e E' (xs ++ [s]) (upρ ρ k _ k); rw [upρ_self]) hS3
  exact ⟨_, g.put ⟨dom_upd1.2 (.inl rfl), (upρ_self ..).symm, rfl⟩ hd⟩
end
end Go.Vc
end
section
namespace Go.Vc
open Go Go.RowKit
set_option linter.unusedVariables false
set_option linter.unusedSectionVars false
set_option linter.unusedSimpArgs false
set_option linter.unnecessarySimpa false
abbrev Sn := Int × Int × List Int
def snE (x : Sn) : Snt := (x.1, x.2.1, x.2.2.map intE)
section
variable {P : Program} [TyEnv P] {o : Oper} {rd : Nat → AV} {T e : TypeId} {i : TyI} {j : Nat}
theorem equalIn_nil (w : World) (d : Nat) (t e : TypeId) (a : Option Addr) (l c : Nat) (h : P.underlying t = some (.slice e)) : (Op.equalIn (d + 1) t (.slice a l c) (.slice none 0 0)).run P w = .ok a.isNone w := by
  cases a <;> simp [Op.equalIn, run_underlying h]
theorem equal_nil (w : World) (t e : TypeId) (a : Option Addr) (l c : Nat) (h : P.underlying t = some (.slice e)) : (Op.equal t (.slice a l c) (.slice none 0 0)).run P w = .ok a.isNone w := equalIn_nil w 9999 t e a l c h
theorem tri_eqNilH {E T' : TypeId} {sz : Nat} {es : List (List Value)} {x : Operand} (ho : o.op = .binOp .eql T x (.const (.slice none 0 0)) T') (hi : TyEnv.ti P T = some i) (hk : i.k = .slice e) (hx : evo rd x = .one (.hs j)) (hne : 0 < es.length) : Tri P o rd [(j, .arr E sz es)] (.one (.v (.bool false))) [] := by
  refine tri_head (by simp [ho, Op.operands]) hx fun w0 w D ρ a A c hh hD hx' hρ hA => ?_
  obtain ⟨b, off, rfl⟩ := hA hne
  have hu := ty_slice hi hk
  have hc : a.eval (.const (.slice none 0 0)) = .slice none 0 0 := rfl
  have := equal_nil (P := P) w T e (some ⟨b, off, none⟩) es.length c hu
  refine ⟨_, ?_, ar_v rfl⟩
  generalize a.eval = f at hx' hc ⊢
  simp [execOp, ho, hx', hc, go_sem, binOp, eqGuard, this]
theorem tri_eqNilN {T' : TypeId} {x : Operand} (ho : o.op = .binOp .eql T x (.const (.slice none 0 0)) T') (hi : TyEnv.ti P T = some i) (hk : i.k = .slice e) (hx : evo rd x = .one .nil) : Tri P o rd [] (.one (.v (.bool true))) [] := by
  refine tri_pure fun w0 w D ρ a hh hex => ?_
  have h1 := hh x (by simp [ho, Op.operands])
  rw [hx] at h1
  have h1 : a.eval x = .slice none 0 0 := h1
  have hu := ty_slice hi hk
  have hc : a.eval (.const (.slice none 0 0)) = .slice none 0 0 := rfl
  have := equal_nil (P := P) w T e none 0 0 hu
  refine ⟨_, ?_, ar_v rfl⟩
  clear hh
  generalize a.eval = f at h1 hc ⊢
  simp [execOp, ho, h1, hc, go_sem, binOp, eqGuard, this]
end
section
variable {P : Program} [TyEnv P] {n : Nat} {ops os : List Oper} {dr : Bool} {K : Tm → Hp → Prop} {t t' : Tm} {H H' : Hp} {fp : List Fp} {o : Oper} {k1 k2 : List Nat} {T e : TypeId} {i ei : TyI} {x y : Operand}
theorem good_of {v : AV} {δ rs : Hp} (h : Tri P o (gt t) rs v δ) (h1 : ∀ k b, (k, b) ∈ rs → lk H k = some b) (h2 : ∀ k b, (k, b) ∈ δ → (∃ b', (k, b') ∈ rs) ∨ lk H k = none) : Good P o (gt t) H v δ rs := ⟨h, h1, h2⟩
theorem vql {xs : List Snt} (h : Vd P n ops dr K os t' H' ((k1, k2) :: fp)) (hd : dstB o.dst n = true := by rfl) (hg : o.guard = none := by rfl) (ho : o.op = .call { callee := .builtin .len, args := #[x], argTypes := #[T] } := by rfl) (hi : TyEnv.ti P T = some i := by rfl) (hk : i.k = .slice e := by rfl) (hx : evo (gt t) x = .one (.rd (snQ xs)) := by rfl)
    (ht : stF o.dst (.one (.v (.int .i64 xs.length))) [] [] t H = some (t', H', k1, k2) := by rfl) : Vd P n ops dr K (o :: os) t H fp := vd_plain hd hg (good0 (tri_lenQ ho hi hk hx)) ht h
theorem vqln {xs : List Snt} {g : Nat} {want : Bool} (h : Vd P n ops dr K os t' H' ((k1, k2) :: fp)) (hd : dstB o.dst n = true := by rfl) (hg : o.guard = some (g, want) := by rfl) (hw : gBF ops (gt t) want g = some true := by rfl) (ho : o.op = .call { callee := .builtin .len, args := #[x], argTypes := #[T] } := by rfl) (hi : TyEnv.ti P T = some i := by rfl) (hk : i.k = .slice e := by rfl) (hx : evo (gt t) x = .one (.rd (snQ xs)) := by rfl)
    (ht : stF o.dst (.one (.v (.int .i64 xs.length))) [] [] t H = some (t', H', k1, k2) := by rfl) : Vd P n ops dr K (o :: os) t H fp := vd_on hd hg hw (good0 (tri_lenQ ho hi hk hx)) ht h
theorem vqx {ws : List Sn} {m : Int} (h : Vd P n ops dr K os t' H' ((k1, k2) :: fp)) (hd : dstB o.dst n = true := by rfl) (hg : o.guard = none := by rfl) (ho : o.op = .indexAddr T x y := by rfl) (hi : TyEnv.ti P T = some i := by rfl) (hk : i.k = .slice e := by rfl) (he : TyEnv.ti P e = some ei := by rfl) (hz : ei.size = 3 := by rfl) (hx : evo (gt t) x = .one (.rd (snQ (ws.map snE))) := by rfl) (hy : evo (gt t) y = .one (.v (.int .i64 m)) := by rfl)
    (ht : stF o.dst (.one (.rd (spQ (ws.map snE) m.toNat 0))) [] [] t H = some (t', H', k1, k2) := by rfl) (hs : 0 ≤ m ∧ m < ws.length := by omega) : Vd P n ops dr K (o :: os) t H fp := vd_plain hd hg (good0 (tri_ixQ ho hi hk he hz hx hy (by rw [List.length_map]; exact hs))) ht h
theorem vepS {d j f : Nat} {xs : List Snt} (h : Vd P n ops dr K os ((d, .one (.rd (spQ xs j f))) :: t) H fp) : Vd P n ops dr K os ((d, .one (.rd (spQ xs (j : Int).toNat f))) :: t) H fp := h
theorem vqf {xs : List Snt} {j f off fsz g0 g1 : Nat} {fs : List (Nat × Nat)} (h : Vd P n ops dr K os t' H' ((k1, k2) :: fp)) (hd : dstB o.dst n = true := by rfl) (hg : o.guard = none := by rfl) (ho : o.op = .fieldAddr T x f := by rfl) (hi : TyEnv.ti P T = some i := by rfl) (hk : i.k = .struct fs := by rfl) (hf : fs[f]? = some (off, fsz) := by rfl) (h0 : Nat.blt 0 fsz = true := by rfl) (hx : evo (gt t) x = .one (.rd (spQ xs j g0)) := by rfl) (h1 : g0 + off = g1 := by rfl)
    (ht : stF o.dst (.one (.rd (spQ xs j g1))) [] [] t H = some (t', H', k1, k2) := by rfl) : Vd P n ops dr K (o :: os) t H fp := vd_plain hd hg (good0 (h1 ▸ tri_fieldQ ho hi hk hf (by simp [Nat.blt] at h0; omega) hx)) ht h
theorem vlnS {d : Nat} {ws : List Sn} (h : Vd P n ops dr K os ((d, .one (.v (.int .i64 (ws.length : Int)))) :: t) H fp) : Vd P n ops dr K os ((d, .one (.v (.int .i64 ((ws.map snE).length : Int)))) :: t) H fp := by
  rw [List.length_map]; exact h
theorem vqd {ws : List Sn} {j f : Nat} {v : AV} (h : Vd P n ops dr K os t' H' ((k1, k2) :: fp)) (hd : dstB o.dst n = true := by rfl) (hg : o.guard = none := by rfl) (ho : o.op = .load T x := by rfl) (hi : TyEnv.ti P T = some i := by rfl) (hx : evo (gt t) x = .one (.rd (spQ (ws.map snE) j f)) := by rfl)
    (hv : mkv i (([V (at' ws j).1, V (at' ws j).2.1, .sl 1 ((at' ws j).2.2.map intE)] : List PV).drop f) = some v := by rfl) (ht : stF o.dst v [] [] t H = some (t', H', k1, k2) := by rfl) (hs : j < ws.length := by omega) : Vd P n ops dr K (o :: os) t H fp :=
  vd_plain hd hg (good0 (tri_ldQ (y := snE (at' ws j)) ho hi hx (by
    rw [List.getElem?_map, List.getElem?_eq_getElem hs]
    have : at' ws j = ws[j] := by unfold at'; rw [List.getElem?_eq_getElem hs]; rfl
    rw [this]; rfl) hv)) ht h
theorem vqb {E' : TypeId} {d k m : Nat} {p q : Int} {es : List (List Value)} (h : Vd P n ops dr K os t' H' ((k1, k2) :: fp)) (hd : dstB o.dst n = true := by rfl) (hg : o.guard = none := by rfl) (ho : o.op = .buildSlice T 1 #[(0, y)] := by rfl) (hi : TyEnv.ti P T = some i := by rfl) (hk : i.k = .slice e := by rfl) (he : TyEnv.ti P e = some ei := by rfl) (hz : ei.size = 3 := by rfl) (hy : evo (gt t) y = .agg [.v (.int .i64 p), .v (.int .i64 q), .hs m] := by rfl)
    (hl : lk H m = some (.arr E' 1 es) := by rfl) (hdd : o.dst = some d := by rfl) (hkk : 8 * d = k := by rfl) (hf : lk H k = none := by rfl) (hne : Nat.beq k m = false := by rfl) (ht : stF o.dst (.one (.hs k)) [(m, .dead), (k, .own (litOw e E' (p, q, es)))] [(m, .arr E' 1 es)] t H = some (t', H', k1, k2) := by rfl) : Vd P n ops dr K (o :: os) t H fp :=
  vd_plain hd hg (good_of (tri_litQ ho hi hk he hz hy (Nat.ne_of_beq_eq_false hne)) (fun a b hb => by
    simp only [List.mem_singleton, Prod.mk.injEq] at hb; obtain ⟨rfl, rfl⟩ := hb; exact hl) fun a b hb => by
    simp only [List.mem_cons, Prod.mk.injEq, List.not_mem_nil, or_false] at hb
    rcases hb with ⟨rfl, rfl⟩ | ⟨rfl, rfl⟩
    · exact .inl ⟨_, List.mem_singleton.2 rfl⟩
    · exact .inr hf) ht h
theorem vqa {E' : TypeId} {d k m j : Nat} {xs : List Snt} {s : Snt} (h : Vd P n ops dr K os t' H' ((k1, k2) :: fp)) (hd : dstB o.dst n = true := by rfl) (hg : o.guard = none := by rfl) (ho : o.op = .call { callee := .builtin .append, args := #[x, y], argTypes := #[T, T] } := by rfl) (hi : TyEnv.ti P T = some i := by rfl) (hk : i.k = .slice e := by rfl) (he : TyEnv.ti P e = some ei := by rfl) (hz : ei.size = 3 := by rfl) (hx : evo (gt t) x = .one (.hs j) := by rfl) (hy : evo (gt t) y = .one (.hs m) := by rfl)
    (hl : lk H j = some (.own (sntOw e E' xs)) := by rfl) (hl2 : lk H m = some (.own (litOw e E' s)) := by rfl) (hdd : o.dst = some d := by rfl) (hkk : 8 * d = k := by rfl) (hf : lk H k = none := by rfl) (hne : Nat.beq j m = false := by rfl) (hne2 : Nat.beq k j = false := by rfl) (hne3 : Nat.beq k m = false := by rfl) (hby : Nat.ble ei.bytes 100 = true := by rfl)
    (ht : stF o.dst (.one (.hs k)) [(j, .dead), (m, .dead), (k, .own (sntOw e E' (xs ++ [s])))] [(j, .own (sntOw e E' xs)), (m, .own (litOw e E' s))] t H = some (t', H', k1, k2) := by rfl) (hs : xs.length ≤ 1099511627776 := by first | omega | (simp only [List.length_map, List.length_take]; omega)) : Vd P n ops dr K (o :: os) t H fp :=
  vd_plain hd hg (good_of (tri_appQ ho hi hk he hz hx hy (by unfold maxLen; omega) (by
    have h9 := Nat.le_of_ble_eq_true hby
    have : (xs.length + 1) * ei.bytes ≤ (xs.length + 1) * 100 := Nat.mul_le_mul_left _ h9
    omega) (Nat.ne_of_beq_eq_false hne) (Nat.ne_of_beq_eq_false hne2) (Nat.ne_of_beq_eq_false hne3)) (fun a b hb => by
    simp only [List.mem_cons, Prod.mk.injEq, List.not_mem_nil, or_false] at hb
    rcases hb with ⟨rfl, rfl⟩ | ⟨rfl, rfl⟩
    · exact hl
    · exact hl2) fun a b hb => by
    simp only [List.mem_cons, Prod.mk.injEq, List.not_mem_nil, or_false] at hb
    rcases hb with ⟨rfl, rfl⟩ | ⟨rfl, rfl⟩ | ⟨rfl, rfl⟩
    · exact .inl ⟨_, List.mem_cons_self ..⟩
    · exact .inl ⟨_, List.mem_cons_of_mem _ (List.mem_cons_self ..)⟩
    · exact .inr hf) ht h
theorem vqnf {E T' : TypeId} {sz j g : Nat} {want : Bool} {es : List (List Value)} (h : Vd P n ops dr K os t' H' ((k1, k2) :: fp)) (hd : dstB o.dst n = true := by rfl) (hg : o.guard = some (g, want) := by rfl) (hw : gBF ops (gt t) want g = some true := by rfl) (ho : o.op = .binOp .eql T x (.const (.slice none 0 0)) T' := by rfl) (hi : TyEnv.ti P T = some i := by rfl) (hk : i.k = .slice e := by rfl) (hx : evo (gt t) x = .one (.hs j) := by rfl) (hl : lk H j = some (.arr E sz es) := by rfl)
    (ht : stF o.dst (.one (.v (.bool false))) [] [(j, .arr E sz es)] t H = some (t', H', k1, k2) := by rfl) (hs : 0 < es.length := by first | omega | (simp only [List.length_map]; omega)) : Vd P n ops dr K (o :: os) t H fp :=
  vd_on hd hg hw (goodr (tri_eqNilH ho hi hk hx hs) hl) ht h
theorem vqnt {T' : TypeId} {g : Nat} {want : Bool} (h : Vd P n ops dr K os t' H' ((k1, k2) :: fp)) (hd : dstB o.dst n = true := by rfl) (hg : o.guard = some (g, want) := by rfl) (hw : gBF ops (gt t) want g = some true := by rfl) (ho : o.op = .binOp .eql T x (.const (.slice none 0 0)) T' := by rfl) (hi : TyEnv.ti P T = some i := by rfl) (hk : i.k = .slice e := by rfl) (hx : evo (gt t) x = .one .nil := by rfl)
    (ht : stF o.dst (.one (.v (.bool true))) [] [] t H = some (t', H', k1, k2) := by rfl) : Vd P n ops dr K (o :: os) t H fp := vd_on hd hg hw (good0 (tri_eqNilN ho hi hk hx)) ht h
theorem vc_lpp {P : Program} [TyEnv P] {n : Nat} {K : Post} {t t0 : Tm} {H H0 : Hp} {c : Code} {σ : Type} (live keep : List Nat) (ov0 : Tm) (gv0 : Hp) (ov : σ → Tm) (gv : σ → Hp) (I : σ → Prop) (μ : σ → Nat) (M : Nat) (ht : keepF t live = some t0) (hH : keepH H keep = some H0) (hs : Sub t H (ov0 ++ t0) (gv0 ++ H0))
    (h1 : VC P n c (thenP (fun t H => ∃ s', I s' ∧ μ s' ≤ M ∧ Sub t H (ov s' ++ t0) (gv s' ++ H0)) K) (ov0 ++ t0) (gv0 ++ H0))
    (h : ∀ s, I s → VC P n c (thenP (fun t H => ∃ s', I s' ∧ μ s' < μ s ∧ Sub t H (ov s' ++ t0) (gv s' ++ H0)) K) (ov s ++ t0) (gv s ++ H0)) : VC P n (.loop c) K t H := by
  refine vc_loop (σ := Option σ) (fun | none => ov0 ++ t0 | some s => ov s ++ t0) (fun | none => gv0 ++ H0 | some s => gv s ++ H0) (fun | none => True | some s => I s) (fun | none => M + 1 | some s => μ s) none hs trivial fun s hi K1 hK => ?_
  cases s with
  | none =>
    refine vc_mono h1 fun e t H hk => ?_
    cases e <;> first | exact hk | skip
    obtain ⟨s', a, b, d⟩ := hk
    exact hK _ _ ⟨some s', a, Nat.lt_succ_of_le b, d⟩
  | some s =>
    refine vc_mono (h s hi) fun e t H hk => ?_
    cases e <;> first | exact hk | skip
    obtain ⟨s', a, b, d⟩ := hk
    exact hK _ _ ⟨some s', a, b, d⟩
theorem snt_stp {E E' : TypeId} {ws : List Sn} {j : Nat} (h : j < ws.length) : sntOw E E' ((ws.take j).map snE ++ [((at' ws j).1, (at' ws j).2.1, (at' ws j).2.2.map intE)]) = sntOw E E' ((ws.take (j + 1)).map snE) := by
  rw [List.take_succ_eq_append_getElem h, List.map_append]
  have : at' ws j = ws[j] := by unfold at'; rw [List.getElem?_eq_getElem h]; rfl
  rw [this]; rfl
theorem snt_end {E E' : TypeId} {ws : List Sn} {j : Nat} (h : ¬ j < ws.length) : sntOw E E' ((ws.take j).map snE) = sntOw E E' (ws.map snE) := by rw [List.take_of_length_le (by omega)]
theorem vc_lpp2 {P : Program} [TyEnv P] {n : Nat} {K : Post} {t t0 : Tm} {H H0 : Hp} {c : Code} {A B : Type} (live keep : List Nat) (ov0 : Tm) (gv0 : Hp) (ov : A → B → Tm) (gv : A → B → Hp) (I : A → B → Prop) (μ : A → B → Nat) (M : Nat) (ht : keepF t live = some t0) (hH : keepH H keep = some H0) (hs : Sub t H (ov0 ++ t0) (gv0 ++ H0))
    (h1 : VC P n c (thenP (fun t H => ∃ a b, I a b ∧ μ a b ≤ M ∧ Sub t H (ov a b ++ t0) (gv a b ++ H0)) K) (ov0 ++ t0) (gv0 ++ H0))
    (h : ∀ a b, I a b → VC P n c (thenP (fun t H => ∃ a' b', I a' b' ∧ μ a' b' < μ a b ∧ Sub t H (ov a' b' ++ t0) (gv a' b' ++ H0)) K) (ov a b ++ t0) (gv a b ++ H0)) : VC P n (.loop c) K t H :=
  vc_lpp (σ := A × B) live keep ov0 gv0 (fun s => ov s.1 s.2) (fun s => gv s.1 s.2) (fun s => I s.1 s.2) (fun s => μ s.1 s.2) M ht hH hs
    (vc_mono h1 fun e t H hk => by
      cases e <;> first | exact hk | skip
      obtain ⟨a, b, h1, h2, h3⟩ := hk
      exact ⟨(a, b), h1, h2, h3⟩)
    fun s hi => vc_mono (h s.1 s.2 hi) fun e t H hk => by
      cases e <;> first | exact hk | skip
      obtain ⟨a, b, h1, h2, h3⟩ := hk
      exact ⟨(a, b), h1, h2, h3⟩
end
end Go.Vc
end
section
namespace Go.Proofs.YtbdcaacpemkloaaGreat
open Go Go.RowKit Go.Vc
set_option linter.unusedVariables false
set_option linter.unusedSimpArgs false
set_option linter.unnecessarySimpa false
def slotsF (ws : List Sn) : Int := (ws.map fun x => x.2.1).sum
def bufsF (ws : List Sn) : List Int := ws.flatMap fun x => x.2.2
def snOk (x : Sn) : Bool := decide (1 ≤ x.2.1) && inB x.1 0 65535
def txS (s : Int) (ws : List Sn) : Bool := ws.all snOk && decide (slotsF ws ≤ s)
def txOkB (b s h t pb pz pc : Int) (fr : List Int) (ws : List Sn) (nx : Int) : Bool := ringOkB b s h t && (poolB pb pz pc fr && (inB nx 0 65535 && (txS s ws && giveB pb pz pc fr (bufsF ws))))
theorem snOk_iff {x : Sn} : snOk x = true ↔ 1 ≤ x.2.1 ∧ inB x.1 0 65535 = true := by unfold snOk; rw [Bool.and_eq_true, decide_eq_true_eq]
theorem slots_app (a b : List Sn) : slotsF (a ++ b) = slotsF a + slotsF b := by unfold slotsF; rw [List.map_append, List.sum_append]
theorem slots_stp {ws : List Sn} {i : Nat} (h : i < ws.length) : slotsF (ws.take (i + 1)) = slotsF (ws.take i) + (at' ws i).2.1 := by
  rw [List.take_succ_eq_append_getElem h, slots_app, ← atp_eq h]
  unfold slotsF; simp
theorem bufs_stp {ws : List Sn} {i : Nat} (h : i < ws.length) : bufsF (ws.take i) ++ (at' ws i).2.2 = bufsF (ws.take (i + 1)) := by
  rw [List.take_succ_eq_append_getElem h, ← atp_eq h]
  unfold bufsF; simp
theorem slots_nn : ∀ {ws : List Sn}, ws.all snOk = true → 0 ≤ slotsF ws ∧ (ws.length : Int) ≤ slotsF ws
  | [], _ => by decide
  | x :: ws, h => by
    simp only [List.all_cons, Bool.and_eq_true] at h
    have h1 := snOk_iff.1 h.1
    have h2 := slots_nn h.2
    have e : slotsF (x :: ws) = x.2.1 + slotsF ws := by unfold slotsF; rw [List.map_cons, List.sum_cons]
    rw [e, List.length_cons]
    omega
theorem slots_le {ws : List Sn} (h : ws.all snOk = true) (i : Nat) : slotsF (ws.take i) ≤ slotsF ws := by
  have e : slotsF ws = slotsF (ws.take i) + slotsF (ws.drop i) := by rw [← slots_app, List.take_append_drop]
  have : (ws.drop i).all snOk = true := by
    rw [List.all_eq_true] at h ⊢
    exact fun x hx => h x (List.mem_of_mem_drop hx)
  have := slots_nn this
  omega
theorem bufs_le (ws : List Sn) (i : Nat) : (bufsF (ws.take i)).length ≤ (bufsF ws).length := by
  have e : bufsF ws = bufsF (ws.take i) ++ bufsF (ws.drop i) := by unfold bufsF; rw [← List.flatMap_append, List.take_append_drop]
  rw [e, List.length_append]; omega
theorem buf_le {ws : List Sn} {i : Nat} (h : i < ws.length) : (at' ws i).2.2.length ≤ (bufsF ws).length := by
  have h1 := bufs_le ws (i + 1)
  rw [← bufs_stp h, List.length_append] at h1
  omega
theorem tx_bad {s : Int} {ws : List Sn} {i : Nat} (hi : i < ws.length) (h : (at' ws i).2.1 < 1 ∨ inB (at' ws i).1 0 65535 = false ∨ s < slotsF (ws.take (i + 1))) : txS s ws = false := by
  rw [Bool.eq_false_iff]
  intro hc
  unfold txS at hc
  rw [Bool.and_eq_true, decide_eq_true_eq] at hc
  have h1 := snOk_iff.1 (List.all_eq_true.1 hc.1 _ (atp_mem hi))
  have h2 := slots_le hc.1 (i + 1)
  rcases h with h | h | h
  · omega
  · rw [h1.2] at h; cases h
  · omega
theorem all_take {ws : List Sn} {i : Nat} (h : (ws.take i).all snOk = true) (hi : i < ws.length) (h1 : 1 ≤ (at' ws i).2.1) (h2 : inB (at' ws i).1 0 65535 = true) : (ws.take (i + 1)).all snOk = true := by
  rw [List.take_succ_eq_append_getElem hi, List.all_append, h, ← atp_eq hi]
  simp [snOk_iff.2 ⟨h1, h2⟩]
theorem tx_end {s : Int} {ws : List Sn} {i : Nat} (h : (ws.take i).all snOk = true) (hi : ¬ i < ws.length) (hs : slotsF (ws.take i) ≤ s) : txS s ws = true := by
  rw [List.take_of_length_le (by omega)] at h hs
  unfold txS
  rw [h, decide_eq_true hs]; rfl
theorem tx_endn {s : Int} {ws : List Sn} {i : Nat} (hi : ¬ i < ws.length) (hs : s < slotsF (ws.take i)) : txS s ws = false := by
  rw [List.take_of_length_le (by omega)] at hs
  unfold txS
  rw [decide_eq_false (by omega), Bool.and_false]
theorem bufs_end {ws : List Sn} {i : Nat} (hi : ¬ i < ws.length) : bufsF (ws.take i) = bufsF ws := by rw [List.take_of_length_le (by omega)]
theorem slots_end {ws : List Sn} {i : Nat} (hi : ¬ i < ws.length) : slotsF (ws.take i) = slotsF ws := by rw [List.take_of_length_le (by omega)]
theorem all_tk {ws : List Sn} (h : ws.all snOk = true) (i : Nat) : (ws.take i).all snOk = true := by
  rw [List.all_eq_true] at h ⊢
  exact fun x hx => h x (List.mem_of_mem_take hx)
theorem inB_no {x a c : Int} (h : inB x a c = false) : x < a ∨ c < x := by
  rcases (show x < a ∨ a ≤ x by omega) with g | g
  · exact .inl g
  · rcases (show c < x ∨ x ≤ c by omega) with g2 | g2
    · exact .inr g2
    · rw [inB_iff.2 ⟨g, g2⟩] at h; cases h
theorem txS_facts {s : Int} {ws : List Sn} (h : txS s ws = true) : ws.all snOk = true ∧ 0 ≤ slotsF ws ∧ slotsF ws ≤ s := by
  unfold txS at h
  rw [Bool.and_eq_true, decide_eq_true_eq] at h
  exact ⟨h.1, (slots_nn h.1).1, h.2⟩
def takeB (pb pz pc : Int) (fr : List Int) (n : Int) : Bool := poolB pb pz pc fr && inB n 0 fr.length
def takeR (pb pz pc : Int) (fr : List Int) (n : Int) : List Int := if takeB pb pz pc fr n then fr.drop n.toNat else fr
def takeL (pb pz pc : Int) (fr : List Int) (n : Int) : List Int := if takeB pb pz pc fr n then fr.take n.toNat else []
theorem take_n {pb pz pc n : Int} {fr : List Int} (h : poolB pb pz pc fr = false ∨ inB n 0 fr.length = false) : takeR pb pz pc fr n = fr ∧ takeL pb pz pc fr n = [] ∧ takeB pb pz pc fr n = false := by
  have : takeB pb pz pc fr n = false := by
    unfold takeB
    rcases h with h | h <;> rw [h] <;> simp
  unfold takeR takeL
  rw [this]
  exact ⟨rfl, rfl, rfl⟩
theorem take_y {pb pz pc n : Int} {fr : List Int} (h1 : poolB pb pz pc fr = true) (h2 : inB n 0 fr.length = true) : takeR pb pz pc fr n = fr.drop n.toNat ∧ takeL pb pz pc fr n = fr.take n.toNat ∧ takeB pb pz pc fr n = true := by
  have : takeB pb pz pc fr n = true := by unfold takeB; rw [h1, h2]; rfl
  unfold takeR takeL
  rw [this]
  exact ⟨rfl, rfl, rfl⟩
def rpa (l : List Mp) (d b s h : Int) : List ByteArray → Pg → Int → Pg × Int × Bool
  | [], ps, t => (ps, t, true)
  | e :: r, ps, t => if (rputF l ps d b s h t e).2.2 = true then rpa l d b s h r (rputF l ps d b s h t e).1 (rputF l ps d b s h t e).2.1 else (ps, t, false)
def rpaF (l : List Mp) (ps : Pg) (d b s h t : Int) (es : List ByteArray) : Pg × Int × Bool := if (rpa l d b s h es ps t).2.2 = true then rpa l d b s h es ps t else (ps, t, false)
theorem rpa_stp {l : List Mp} {ps : Pg} {d b s h t : Int} {es : List ByteArray} {i : Nat} (hi : i < es.length) (hr : (rputF l ps d b s h t (at' es i)).2.2 = true) : rpa l d b s h (es.drop i) ps t = rpa l d b s h (es.drop (i + 1)) (rputF l ps d b s h t (at' es i)).1 (rputF l ps d b s h t (at' es i)).2.1 := by
  rw [drop_at hi]
  simp only [rpa]
  rw [if_pos hr]
theorem rpa_no {l : List Mp} {ps qs : Pg} {d b s h t u : Int} {es : List ByteArray} {i : Nat} (hq : rpa l d b s h es ps t = rpa l d b s h (es.drop i) qs u) (hi : i < es.length) (hr : (rputF l qs d b s h u (at' es i)).2.2 = false) : rpaF l ps d b s h t es = (ps, t, false) := by
  refine if_neg ?_
  rw [hq, drop_at hi]
  simp only [rpa]
  rw [if_neg (by rw [hr]; decide)]
  simp
theorem rpa_end {l : List Mp} {ps qs : Pg} {d b s h t u : Int} {es : List ByteArray} {i : Nat} (hq : rpa l d b s h es ps t = rpa l d b s h (es.drop i) qs u) (hi : ¬ i < es.length) : rpaF l ps d b s h t es = (qs, u, true) := by
  rw [List.drop_eq_nil_of_le (by omega)] at hq
  unfold rpaF
  rw [hq, if_pos (by rfl)]
  rfl
def sdN (T : ByteArray) (cut : Int) : Int := ((T.size : Int) + cut - 1) / cut
def sdP (T : ByteArray) (cut : Int) (k : Nat) : ByteArray := T.extract ((k : Int) * cut).toNat (min (T.size : Int) (((k : Int) + 1) * cut)).toNat
def sdW (l : List Mp) (d pb pz pc : Int) (fr : List Int) (T : ByteArray) (cut : Int) : List Int → Nat → Pg → Pg × Bool
  | [], _, ps => (ps, true)
  | k :: r, i, ps => if (dmaWF l ps d (bufA pb pz pc fr k) (sdP T cut i) false).2 = true then sdW l d pb pz pc fr T cut r (i + 1) (dmaWF l ps d (bufA pb pz pc fr k) (sdP T cut i) false).1 else (ps, false)
def sdQ (pb pz pc : Int) (fr : List Int) (T : ByteArray) (cut : Int) (ks : List Int) (n : Nat) : List Pc := (List.range n).map fun i => (bufA pb pz pc fr (at' ks i), ((sdP T cut i).size : Int))
theorem sdQ_stp (pb pz pc : Int) (fr : List Int) (T : ByteArray) (cut : Int) (ks : List Int) (n : Nat) : sdQ pb pz pc fr T cut ks n ++ [(bufA pb pz pc fr (at' ks n), ((sdP T cut n).size : Int))] = sdQ pb pz pc fr T cut ks (n + 1) := by
  unfold sdQ
  rw [List.range_succ, List.map_append]; rfl
theorem sdQ_len (pb pz pc : Int) (fr : List Int) (T : ByteArray) (cut : Int) (ks : List Int) (n : Nat) : (sdQ pb pz pc fr T cut ks n).length = n := by unfold sdQ; rw [List.length_map, List.length_range]
theorem sdW_stp {l : List Mp} {d pb pz pc : Int} {fr : List Int} {T : ByteArray} {cut : Int} {ks : List Int} {i : Nat} {ps : Pg} (hi : i < ks.length) (hr : (dmaWF l ps d (bufA pb pz pc fr (at' ks i)) (sdP T cut i) false).2 = true) : sdW l d pb pz pc fr T cut (ks.drop i) i ps = sdW l d pb pz pc fr T cut (ks.drop (i + 1)) (i + 1) (dmaWF l ps d (bufA pb pz pc fr (at' ks i)) (sdP T cut i) false).1 := by
  rw [drop_at hi]
  simp only [sdW]
  rw [if_pos hr]
theorem sdW_no {l : List Mp} {d pb pz pc : Int} {fr : List Int} {T : ByteArray} {cut : Int} {ks : List Int} {i : Nat} {ps : Pg} (hi : i < ks.length) (hr : (dmaWF l ps d (bufA pb pz pc fr (at' ks i)) (sdP T cut i) false).2 = false) : sdW l d pb pz pc fr T cut (ks.drop i) i ps = (ps, false) := by
  rw [drop_at hi]
  simp only [sdW]
  rw [if_neg (by rw [hr]; decide)]
theorem sdW_end {l : List Mp} {d pb pz pc : Int} {fr : List Int} {T : ByteArray} {cut : Int} {ks : List Int} {i : Nat} {ps : Pg} (hi : ¬ i < ks.length) : sdW l d pb pz pc fr T cut (ks.drop i) i ps = (ps, true) := by
  rw [List.drop_eq_nil_of_le (by omega)]; rfl
theorem ext_ext (s : ByteArray) (a b c e : Nat) : (s.extract a b).extract c e = s.extract (a + c) (min (a + e) b) := by
  refine ba_ext (by simp only [ByteArray.size_extract]; omega) fun i hi => ?_
  simp only [ByteArray.size_extract] at hi
  rw [bAt_extract, if_pos (by omega), bAt_extract, if_pos (by omega), bAt_extract, if_pos (by omega)]
  congr 1; omega
theorem ext_clip (s : ByteArray) (a b : Nat) : s.extract a b = s.extract a (min b s.size) := by
  refine ba_ext (by simp only [ByteArray.size_extract]; omega) fun i hi => ?_
  simp only [ByteArray.size_extract] at hi
  rw [bAt_extract, if_pos (by omega), bAt_extract, if_pos (by omega)]
theorem ext_none (s : ByteArray) {a b a' b' : Nat} (h : min b s.size ≤ a) (h' : min b' s.size ≤ a') : s.extract a b = s.extract a' b' := by
  refine ba_ext (by simp only [ByteArray.size_extract]; omega) fun i hi => ?_
  simp only [ByteArray.size_extract] at hi
  omega
theorem mul_nnI {a b : Int} (h : 0 ≤ a) (h2 : 0 ≤ b) : 0 ≤ a * b := Int.mul_nonneg h h2
theorem suc_mul (k : Nat) (cut : Int) : ((k : Int) + 1) * cut = (k : Int) * cut + cut := by rw [Int.add_mul, Int.one_mul]
theorem sdP_sz (T : ByteArray) (cut : Int) (k : Nat) : (sdP T cut k).size ≤ T.size := by unfold sdP; rw [ByteArray.size_extract]; omega
theorem sd_pf {T : ByteArray} {cut : Int} {k : Nat} (h : 1 ≤ cut) : (T.extract ((k : Int) * cut).toNat T.size).extract (Int.toNat 0) (min cut ((T.extract ((k : Int) * cut).toNat T.size).size : Int)).toNat = sdP T cut k := by
  have h0 := mul_nnI (a := (k : Int)) (b := cut) (by omega) (by omega)
  unfold sdP
  rw [ext_ext, suc_mul, ByteArray.size_extract, show Int.toNat 0 = 0 from rfl, Nat.add_zero]
  rw [ext_clip T _ (min _ _), ext_clip T _ (Int.toNat _)]
  by_cases hc : (k : Int) * cut ≤ T.size
  · congr 1; omega
  · exact ext_none T (by omega) (by omega)
theorem sd_tl {T : ByteArray} {cut : Int} {k : Nat} (h : 1 ≤ cut) : (T.extract ((k : Int) * cut).toNat T.size).extract ((sdP T cut k).size : Int).toNat ((T.extract ((k : Int) * cut).toNat T.size).size : Int).toNat = T.extract (((k + 1 : Nat) : Int) * cut).toNat T.size := by
  have h0 := mul_nnI (a := (k : Int)) (b := cut) (by omega) (by omega)
  have h1 : ((k + 1 : Nat) : Int) * cut = (k : Int) * cut + cut := by rw [← suc_mul]; rfl
  have hz : (sdP T cut k).size = min (min (T.size : Int) ((k : Int) * cut + cut)).toNat T.size - ((k : Int) * cut).toNat := by unfold sdP; rw [ByteArray.size_extract, suc_mul]
  rw [ext_ext, h1, hz, ByteArray.size_extract]
  by_cases hc : (k : Int) * cut + cut ≤ T.size
  · congr 1 <;> omega
  · exact ext_none T (by omega) (by omega)
theorem sdP_le {T : ByteArray} {cut : Int} {k : Nat} : (sdP T cut k).size ≤ (T.extract ((k : Int) * cut).toNat T.size).size := by
  unfold sdP
  simp only [ByteArray.size_extract]; omega
theorem sd_pf0 {T : ByteArray} {cut : Int} (h : 1 ≤ cut) : T.extract (Int.toNat 0) (min cut (T.size : Int)).toNat = sdP T cut 0 := by
  have := sd_pf (T := T) (k := 0) h
  rw [show (((0 : Nat) : Int) * cut).toNat = 0 by simp, ByteArray.extract_zero_size] at this
  exact this
theorem sd_tl0 {T : ByteArray} {cut : Int} (h : 1 ≤ cut) : T.extract ((sdP T cut 0).size : Int).toNat (T.size : Int).toNat = T.extract (((1 : Nat) : Int) * cut).toNat T.size := by
  have := sd_tl (T := T) (k := 0) h
  rw [show (((0 : Nat) : Int) * cut).toNat = 0 by simp, ByteArray.extract_zero_size] at this
  exact this
def encL (ds : List Dsc) : List ByteArray := ds.map fun x => encDF x.1 x.2.1 x.2.2.1 x.2.2.2.1 x.2.2.2.2.1 x.2.2.2.2.2
theorem encL_stp {ds : List Dsc} {j : Nat} (h : j < ds.length) : (encL (ds.take j)).map strE ++ [[.string (encDF (at' ds j).1 (at' ds j).2.1 (at' ds j).2.2.1 (at' ds j).2.2.2.1 (at' ds j).2.2.2.2.1 (at' ds j).2.2.2.2.2)]] = (encL (ds.take (j + 1))).map strE := by
  rw [List.take_succ_eq_append_getElem h, ← atp_eq h]
  unfold encL
  rw [List.map_append, List.map_append]; rfl
theorem encL_end {ds : List Dsc} {j : Nat} (h : ¬ j < ds.length) : encL (ds.take j) = encL ds := by rw [List.take_of_length_le (by omega)]
theorem encL_sz (ds : List Dsc) : ∀ x ∈ encL ds, x.size ≤ 1099511627776 := fun x hx => by
  obtain ⟨y, _, rfl⟩ := List.mem_map.1 hx
  unfold encDF
  split
  · rename_i h; have := encD_size h; omega
  · decide
theorem encL_len (ds : List Dsc) : (encL ds).length = ds.length := by unfold encL; rw [List.length_map]
theorem sdW_ln {l : List Mp} {d pb pz pc : Int} {fr : List Int} {T : ByteArray} {cut : Int} : ∀ (ks : List Int) (i : Nat) (ps : Pg), (sdW l d pb pz pc fr T cut ks i ps).1.length = ps.length
  | [], _, _ => rfl
  | k :: r, i, ps => by
    unfold sdW
    split
    · rw [sdW_ln r (i + 1)]
      exact dmaWF_ln (qs := (dmaWF l ps d (bufA pb pz pc fr k) (sdP T cut i) false).1) (ok := (dmaWF l ps d (bufA pb pz pc fr k) (sdP T cut i) false).2) rfl
    · rfl
theorem txOk_facts {b s h t pb pz pc nx : Int} {fr : List Int} {ws : List Sn} (g : txOkB b s h t pb pz pc fr ws nx = true) : ringOkB b s h t = true ∧ poolB pb pz pc fr = true ∧ inB nx 0 65535 = true ∧ txS s ws = true ∧ giveB pb pz pc fr (bufsF ws) = true := by
  unfold txOkB at g
  simp only [Bool.and_eq_true] at g
  exact ⟨g.1, g.2.1, g.2.2.1, g.2.2.2.1, g.2.2.2.2⟩
theorem tm_sz {p : Pk} (h : p.sup = true) : 60 ≤ p.tm.size ∧ p.tm.size ≤ 418 := by
  obtain ⟨l1, l2, l3, l4⟩ := img_lay h
  obtain ⟨t1, t2, t3, t4, t5, t6⟩ := tm_facts h rfl
  have := sumsA_bd p.im
  omega
theorem sdN_bd {T : ByteArray} {cut : Int} (h : 1 ≤ cut) (h1 : 1 ≤ T.size) : 1 ≤ sdN T cut ∧ sdN T cut ≤ T.size ∧ (sdN T cut - 1) * cut < T.size ∧ T.size ≤ sdN T cut * cut := by
  have e := Int.emod_add_mul_ediv ((T.size : Int) + cut - 1) cut
  have m0 := Int.emod_nonneg ((T.size : Int) + cut - 1) (show cut ≠ 0 by omega)
  have m1 := Int.emod_lt_of_pos ((T.size : Int) + cut - 1) (show 0 < cut by omega)
  have hx : sdN T cut = ((T.size : Int) + cut - 1) / cut := rfl
  rw [← hx, Int.mul_comm] at e
  have e2 : (sdN T cut - 1) * cut = sdN T cut * cut - cut := by rw [Int.sub_mul, Int.one_mul]
  have p1 : 1 ≤ sdN T cut := by
    rcases (show sdN T cut < 1 ∨ 1 ≤ sdN T cut by omega) with g | g
    · have : sdN T cut * cut ≤ 0 := Int.mul_nonpos_of_nonpos_of_nonneg (by omega) (by omega)
      omega
    · exact g
  have p2 : sdN T cut - 1 ≤ (sdN T cut - 1) * cut := by
    have := Int.mul_le_mul_of_nonneg_left h (show 0 ≤ sdN T cut - 1 by omega)
    rwa [Int.mul_one] at this
  exact ⟨p1, by omega, by omega, by omega⟩
theorem sd_in {T : ByteArray} {cut : Int} {i : Nat} (h : 1 ≤ cut) (h1 : 1 ≤ T.size) (hi : (i : Int) < sdN T cut) : 0 ≤ (i : Int) * cut ∧ (i : Int) * cut < T.size := by
  obtain ⟨a, b, c, d⟩ := sdN_bd h h1
  have := Int.mul_le_mul_of_nonneg_right (show (i : Int) ≤ sdN T cut - 1 by omega) (show 0 ≤ cut by omega)
  exact ⟨mul_nnI (by omega) (by omega), by omega⟩
abbrev TxR := Pg × Int × List Int × List Sn × Int × Bool
def sdKs (pb pz pc : Int) (fr : List Int) (T : ByteArray) (cut : Int) : List Int := takeL pb pz pc fr (sdN T cut)
def sdPc (pb pz pc : Int) (fr : List Int) (T : ByteArray) (cut : Int) : List Pc := sdQ pb pz pc fr T cut (sdKs pb pz pc fr T cut) (sdKs pb pz pc fr T cut).length
def sdWr (l : List Mp) (ps : Pg) (d pb pz pc : Int) (fr : List Int) (T : ByteArray) (cut : Int) : Pg × Bool := sdW l d pb pz pc fr T cut (sdKs pb pz pc fr T cut) 0 ps
def sdRg (l : List Mp) (ps : Pg) (d b s h t pb pz pc : Int) (fr : List Int) (nx : Int) (T : ByteArray) (size cut : Int) : Pg × Int × Bool := rpaF l (sdWr l ps d pb pz pc fr T cut).1 d b s h t (encL (descrF (sdPc pb pz pc fr T cut) size nx))
def sdB (l : List Mp) (ps : Pg) (d b s h t pb pz pc : Int) (fr : List Int) (ws : List Sn) (nx : Int) (p : Pk) (size cut : Int) : Bool :=
  (txOkB b s h t pb pz pc fr ws nx && (p.sup && (inB cut 1 pz && inB size 1 128))) && ((decide (sdN p.tm cut ≤ 16) && (decide (sdN p.tm cut + 1 ≤ freeF b s h t) && (decide (slotsF ws + sdN p.tm cut + 1 ≤ s) && takeB pb pz pc fr (sdN p.tm cut)))) && ((sdWr l ps d pb pz pc fr p.tm cut).2 && (descrB (sdPc pb pz pc fr p.tm cut) size nx && (sdRg l ps d b s h t pb pz pc fr nx p.tm size cut).2.2)))
def sdF (l : List Mp) (ps : Pg) (d b s h t pb pz pc : Int) (fr : List Int) (ws : List Sn) (nx : Int) (p : Pk) (size cut : Int) : TxR :=
  if sdB l ps d b s h t pb pz pc fr ws nx p size cut then ((sdRg l ps d b s h t pb pz pc fr nx p.tm size cut).1, (sdRg l ps d b s h t pb pz pc fr nx p.tm size cut).2.1, takeR pb pz pc fr (sdN p.tm cut), ws ++ [(nx, sdN p.tm cut + 1, sdKs pb pz pc fr p.tm cut)], (nx + 1) % 65536, true)
  else (ps, t, fr, ws, nx, false)
theorem sd_no {l : List Mp} {ps : Pg} {d b s h t pb pz pc : Int} {fr : List Int} {ws : List Sn} {nx : Int} {p : Pk} {size cut : Int} (hb : sdB l ps d b s h t pb pz pc fr ws nx p size cut = false) : sdF l ps d b s h t pb pz pc fr ws nx p size cut = (ps, t, fr, ws, nx, false) := if_neg (by rw [hb]; decide)
theorem sd_yes {l : List Mp} {ps : Pg} {d b s h t pb pz pc : Int} {fr : List Int} {ws : List Sn} {nx : Int} {p : Pk} {size cut : Int} {R : Pg × Int × Bool} (h1 : txOkB b s h t pb pz pc fr ws nx = true) (h2 : p.sup = true) (h3 : inB cut 1 pz = true) (h4 : inB size 1 128 = true) (h5 : sdN p.tm cut ≤ 16) (h6 : sdN p.tm cut + 1 ≤ freeF b s h t) (h7 : slotsF ws + sdN p.tm cut + 1 ≤ s) (h8 : takeB pb pz pc fr (sdN p.tm cut) = true) (h9 : (sdWr l ps d pb pz pc fr p.tm cut).2 = true) (h10 : descrB (sdPc pb pz pc fr p.tm cut) size nx = true) (h11 : sdRg l ps d b s h t pb pz pc fr nx p.tm size cut = R) (h12 : R.2.2 = true) :
    sdF l ps d b s h t pb pz pc fr ws nx p size cut = (R.1, R.2.1, takeR pb pz pc fr (sdN p.tm cut), ws ++ [(nx, sdN p.tm cut + 1, sdKs pb pz pc fr p.tm cut)], (nx + 1) % 65536, true) := by
  subst h11
  refine if_pos ?_
  unfold sdB
  rw [h1, h2, h3, h4, h8, h9, h10, h12, decide_eq_true h5, decide_eq_true h6, decide_eq_true h7]
  rfl
theorem takeL_len {pb pz pc n : Int} {fr : List Int} (h : takeB pb pz pc fr n = true) : ((takeL pb pz pc fr n).length : Int) = n := by
  have hh := h
  unfold takeB at hh
  rw [Bool.and_eq_true] at hh
  have := inB_iff.1 hh.2
  unfold takeL
  rw [if_pos h, List.length_take]; omega
theorem sdPc_len (pb pz pc : Int) (fr : List Int) (T : ByteArray) (cut : Int) : (sdPc pb pz pc fr T cut).length = (sdKs pb pz pc fr T cut).length := sdQ_len ..
theorem descr_len {l : List Pc} {size ck : Int} (h : descrB l size ck = true) : (descrF l size ck).length = l.length + 1 := by
  unfold descrF
  rw [if_pos h, dsF_len]
theorem descr_nil {l : List Pc} {size ck : Int} (h : descrB l size ck = false) : descrF l size ck = [] := if_neg (by rw [h]; decide)
end Go.Proofs.YtbdcaacpemkloaaGreat
end
section
namespace Go.Proofs.YtbdcaacpemkloaaGreat
open Go Go.RowKit Go.Vc
set_option linter.unusedVariables false
set_option linter.unusedSimpArgs false
set_option linter.unnecessarySimpa false
def bitF (s : ByteArray) (i : Nat) : Nat := bAt s (i / 8) / 2 ^ (7 - i % 8) % 2
def kwF (key : ByteArray) (b : Nat) : Nat → Nat
  | 0 => 0
  | n + 1 => 2 * kwF key b n + bitF key (b + n)
def hashF (key x : ByteArray) : Nat → Int
  | 0 => 0
  | n + 1 => if bitF x n = 1 then xorI (hashF key x n) (kwF key n 32) else hashF key x n
def hinF (si di sp dp : Int) : ByteArray := word32 si ++ word32 di ++ word16 sp ++ word16 dp
def hflF (key : ByteArray) (si di sp dp : Int) : Int := hashF key (hinF si di sp dp) (8 * (hinF si di sp dp).size)
end Go.Proofs.YtbdcaacpemkloaaGreat
end
section
namespace Go.Vc
open Go Go.RowKit
set_option linter.unusedVariables false
set_option linter.unusedSectionVars false
set_option linter.unusedSimpArgs false
set_option linter.unnecessarySimpa false
def fldK (g : TypeId → Option (List Nat)) (sz : TypeId → Option Nat) : Nat → List Field → Option (List Nat)
  | _, [] => some []
  | off, f :: fs => if f.name = "_" then none else if f.offset = off then match g f.type with
    | some k1 => if sz f.type = some k1.length then match fldK g sz (off + k1.length) fs with
      | some k2 => some (k1 ++ k2)
      | none => none else none
    | none => none else none
def szT (P : Program) [TyEnv P] (T : TypeId) : Option Nat := (TyEnv.ti P T).map (·.size)
def ksOf (P : Program) [TyEnv P] : Nat → TypeId → Option (List Nat)
  | 0, _ => none
  | d + 1, T => match TyEnv.ti P T with
    | some i => match i.k with
      | .int .i64 => some [0]
      | .bool => some [1]
      | .str => some [2]
      | .struct _ => if P.stoodInHeld T then none else fldK (ksOf P d) (szT P) 0 (P.fieldsOf T).toList
      | _ => none
    | none => none
def rowT (P : Program) [TyEnv P] (T : TypeId) : Bool := match TyEnv.ti P T with
  | some i => i.k.row
  | none => false
def VL (row : Bool) (xs : List Value) (v : Value) : Prop := if row then v = .agg xs.toArray else xs = [v]
theorem kd_0 {a : Value} (h : kd a = 0) : ∃ x, a = .int .i64 x := by
  cases a <;> simp [kd] at h
  rename_i k n
  cases k <;> simp [kd] at h
  exact ⟨n, rfl⟩
theorem kd_1 {a : Value} (h : kd a = 1) : ∃ x, a = .bool x := by
  cases a <;> simp [kd] at h
  · exact ⟨_, rfl⟩
  · rename_i k n; cases k <;> simp [kd] at h
theorem kd_2 {a : Value} (h : kd a = 2) : ∃ x, a = .string x := by
  cases a <;> simp [kd] at h
  · rename_i k n; cases k <;> simp [kd] at h
  · exact ⟨_, rfl⟩
theorem ceqV_app : ∀ (k1 : List Nat) {a1 b1 a2 b2 : List Value}, (∀ k ∈ k1, k < 3) → a1.map kd = k1 → b1.map kd = k1 → ceqV (a1 ++ a2) (b1 ++ b2) = (ceqV a1 b1 && ceqV a2 b2)
  | [], [], [], _, _, _, _, _ => by simp [ceqV]
  | k :: k1, a :: a1, b :: b1, a2, b2, h, ha, hb => by
    simp only [List.map_cons, List.cons.injEq] at ha hb
    have ih := ceqV_app k1 (a2 := a2) (b2 := b2) (fun k hk => h k (List.mem_cons_of_mem _ hk)) ha.2 hb.2
    have hk := h k (List.mem_cons_self ..)
    have : k = 0 ∨ k = 1 ∨ k = 2 := by omega
    rcases this with rfl | rfl | rfl
    · obtain ⟨x, rfl⟩ := kd_0 ha.1
      obtain ⟨y, rfl⟩ := kd_0 hb.1
      simp only [List.cons_append, ceqV, ih, Bool.and_assoc]
    · obtain ⟨x, rfl⟩ := kd_1 ha.1
      obtain ⟨y, rfl⟩ := kd_1 hb.1
      simp only [List.cons_append, ceqV, ih, Bool.and_assoc]
    · obtain ⟨x, rfl⟩ := kd_2 ha.1
      obtain ⟨y, rfl⟩ := kd_2 hb.1
      simp only [List.cons_append, ceqV, ih, Bool.and_assoc]
section
variable {P : Program} [TyEnv P]
theorem fldK_lt {g : TypeId → Option (List Nat)} {sz : TypeId → Option Nat} (hg : ∀ T ks, g T = some ks → ∀ k ∈ ks, k < 3) : ∀ {fs : List Field} {off : Nat} {ks : List Nat}, fldK g sz off fs = some ks → ∀ k ∈ ks, k < 3
  | [], _, _, h => by simp only [fldK, Option.some.injEq] at h; subst h; simp
  | f :: fs, off, ks, h => by
    simp only [fldK] at h
    split at h
    · cases h
    · split at h
      · split at h
        · rename_i k1 h1
          split at h
          · split at h
            · rename_i k2 h2
              simp only [Option.some.injEq] at h
              subst h
              intro k hk
              rcases List.mem_append.1 hk with hk | hk
              · exact hg _ _ h1 k hk
              · exact fldK_lt hg h2 k hk
            · cases h
          · cases h
        · cases h
      · cases h
theorem ksOf_lt : ∀ {d : Nat} {T : TypeId} {ks : List Nat}, ksOf P d T = some ks → ∀ k ∈ ks, k < 3
  | d + 1, T, ks, h => by
    simp only [ksOf] at h
    split at h
    · split at h
      · simp only [Option.some.injEq] at h; subst h; simp
      · simp only [Option.some.injEq] at h; subst h; simp
      · simp only [Option.some.injEq] at h; subst h; simp
      · split at h
        · cases h
        · exact fldK_lt (fun T ks h => ksOf_lt (d := d) h) h
      · cases h
    · cases h
theorem part_ok {T : TypeId} {i : TyI} (hi : TyEnv.ti P T = some i) {xs : List Value} {off : Nat} (h : off + i.size ≤ xs.length) (w : World) : ∃ v, (part T xs.toArray off).run P w = .ok v w ∧ VL i.k.row ((xs.drop off).take i.size) v := by
  obtain ⟨d, hu, hr⟩ := ty_und hi
  cases hrow : i.k.row with
  | true =>
    have hagg : (isAgg T).run P w = .ok true w := by
      unfold isAgg
      rw [Sem.run_bind, run_underlying hu w]
      rw [hrow] at hr
      cases d <;> first | rfl | (cases hr)
    have hz : (Go.sizeOf T).run P w = .ok i.size w := by
      obtain ⟨inf, h1, h2⟩ := Option.map_eq_some_iff.1 (ty_size hi)
      simp [sizeOf, typeInfo, h1, h2]
    refine ⟨.agg (xs.toArray.extract off (off + i.size)), ?_, ?_⟩
    · simp [part, Sem.run_bind, hagg, hz]
    · simp only [VL, if_true]
      congr 1
      rw [List.extract_toArray]
      simp [List.extract, Nat.add_sub_cancel_left]
  | false =>
    have hagg : (isAgg T).run P w = .ok false w := by
      unfold isAgg
      rw [Sem.run_bind, run_underlying hu w]
      rw [hrow] at hr
      cases d <;> first | rfl | (cases hr)
    have h1 := ty_one hi hrow
    have hx : xs[off]? = some (xs[off]'(by omega)) := List.getElem?_eq_getElem (by omega)
    refine ⟨xs[off]'(by omega), ?_, ?_⟩
    · simp [part, Sem.run_bind, hagg, hx]
    · simp only [VL, Bool.false_eq_true, if_false]
      rw [h1, List.drop_eq_getElem_cons (by omega)]; rfl
def EqD (P : Program) [TyEnv P] (N : Nat) (T : TypeId) (ks : List Nat) : Prop := ∀ (w : World) (xs ys : List Value) (u v : Value), xs.map kd = ks → ys.map kd = ks → VL (rowT P T) xs u → VL (rowT P T) ys v → (Op.equalIn N T u v).run P w = .ok (ceqV xs ys) w
theorem flds_ok {N : Nat} {g : TypeId → Option (List Nat)} (hg : ∀ T ks, g T = some ks → EqD P N T ks ∧ ∀ k ∈ ks, k < 3) : ∀ {fs : List Field} {off : Nat} {ks : List Nat}, fldK g (szT P) off fs = some ks → ∀ (w : World) (xs ys : List Value), (xs.drop off).map kd = ks → (ys.drop off).map kd = ks → (Op.eqFields N xs.toArray ys.toArray fs).run P w = .ok (ceqV (xs.drop off) (ys.drop off)) w
  | [], off, ks, h, w, xs, ys, hx, hy => by
    simp only [fldK, Option.some.injEq] at h
    subst h
    have e1 : xs.drop off = [] := by simpa using hx
    have e2 : ys.drop off = [] := by simpa using hy
    simp [Op.eqFields, e1, e2, ceqV]
  | f :: fs, off, ks, h, w, xs, ys, hx, hy => by
    simp only [fldK] at h
    split at h
    · cases h
    · rename_i hn
      split at h
      · rename_i ho
        split at h
        · rename_i k1 h1
          split at h
          · rename_i hs
            split at h
            · rename_i k2 h2
              simp only [Option.some.injEq] at h
              subst h
              obtain ⟨i, hi, hsz⟩ := Option.map_eq_some_iff.1 hs
              have lx := congrArg List.length hx
              have ly := congrArg List.length hy
              simp only [List.length_map, List.length_drop, List.length_append] at lx ly
              have hpos := ty_pos hi
              obtain ⟨u, u1, u2⟩ := part_ok hi (xs := xs) (off := off) (by omega) w
              obtain ⟨v, v1, v2⟩ := part_ok hi (xs := ys) (off := off) (by omega) w
              have hrow : rowT P f.type = i.k.row := by unfold rowT; rw [hi]
              have sx : xs.drop off = (xs.drop off).take i.size ++ xs.drop (off + i.size) := by rw [← List.drop_drop]; exact (List.take_append_drop _ _).symm
              have sy : ys.drop off = (ys.drop off).take i.size ++ ys.drop (off + i.size) := by rw [← List.drop_drop]; exact (List.take_append_drop _ _).symm
              rw [sx, List.map_append] at hx
              rw [sy, List.map_append] at hy
              have hx' := List.append_inj hx (by rw [List.length_map, List.length_take, List.length_drop]; omega)
              have hy' := List.append_inj hy (by rw [List.length_map, List.length_take, List.length_drop]; omega)
              obtain ⟨gE, gl⟩ := hg _ _ h1
              have hr := gE w _ _ u v hx'.1 hy'.1 (by rw [hrow]; exact u2) (by rw [hrow]; exact v2)
              have ih := flds_ok hg h2 w xs ys (by rw [← hsz]; exact hx'.2) (by rw [← hsz]; exact hy'.2)
              simp only [Op.eqFields]
              rw [if_pos hn, ho]
              simp only [Sem.run_bind, u1, v1, hr, Result.andThen_ok]
              have hc : ceqV (xs.drop off) (ys.drop off) = (ceqV ((xs.drop off).take i.size) ((ys.drop off).take i.size) && ceqV (xs.drop (off + i.size)) (ys.drop (off + i.size))) := by
                rw [sx, sy]
                have := ceqV_app k1 (a2 := xs.drop (off + i.size)) (b2 := ys.drop (off + i.size)) gl hx'.1 hy'.1
                rw [← sx, ← sy] at this ⊢
                exact this
              rw [hc]
              cases hb : ceqV ((xs.drop off).take i.size) ((ys.drop off).take i.size) with
              | false => simp
              | true =>
                simp only [Bool.not_true, Bool.false_eq_true, if_false, Bool.true_and]
                rw [hsz]; exact ih
            · cases h
          · cases h
        · cases h
      · cases h
theorem ksOf_ok : ∀ {d N : Nat} {T : TypeId} {ks : List Nat}, ksOf P d T = some ks → d ≤ N → EqD P N T ks
  | d + 1, 0, T, ks, h, hN => by omega
  | d + 1, N + 1, T, ks, h, hN => by
    intro w xs ys u v hx hy hu hv
    simp only [ksOf] at h
    split at h
    · rename_i i hi
      have hrow : rowT P T = i.k.row := by unfold rowT; rw [hi]
      rw [hrow] at hu hv
      have hkind := ty_kind hi
      split at h
      · rename_i hk
        simp only [Option.some.injEq] at h; subst h
        rw [hk] at hu hv hkind
        simp only [VL, TK.row, Bool.false_eq_true, if_false] at hu hv
        subst hu hv
        simp only [List.map_cons, List.map_nil, List.cons.injEq, and_true] at hx hy
        obtain ⟨a, rfl⟩ := kd_0 hx
        obtain ⟨b, rfl⟩ := kd_0 hy
        rw [run_equalIn_int w N T _ _ a b hkind]
        simp only [ceqV, Bool.and_true]
        congr 1
      · rename_i hk
        simp only [Option.some.injEq] at h; subst h
        rw [hk] at hu hv hkind
        simp only [VL, TK.row, Bool.false_eq_true, if_false] at hu hv
        subst hu hv
        simp only [List.map_cons, List.map_nil, List.cons.injEq, and_true] at hx hy
        obtain ⟨a, rfl⟩ := kd_1 hx
        obtain ⟨b, rfl⟩ := kd_1 hy
        rw [run_equalIn_bool' w N T a b hkind]
        simp only [ceqV, Bool.and_true]
      · rename_i hk
        simp only [Option.some.injEq] at h; subst h
        rw [hk] at hu hv hkind
        simp only [VL, TK.row, Bool.false_eq_true, if_false] at hu hv
        subst hu hv
        simp only [List.map_cons, List.map_nil, List.cons.injEq, and_true] at hx hy
        obtain ⟨a, rfl⟩ := kd_2 hx
        obtain ⟨b, rfl⟩ := kd_2 hy
        rw [run_equalIn_string w N T a b hkind, str_beq]
        simp only [ceqV, Bool.and_true]
      · rename_i fs hk
        split at h
        · cases h
        · rename_i hst
          rw [hk] at hu hv hkind
          simp only [VL, TK.row, if_true] at hu hv
          subst hu hv
          rw [run_equalIn_struct w N T _ _ hkind.1 (by simpa using hst)]
          have := flds_ok (N := N) (g := ksOf P d) (fun T ks h => ⟨ksOf_ok h (by omega), ksOf_lt h⟩) h w xs ys (by rw [List.drop_zero]; exact hx) (by rw [List.drop_zero]; exact hy)
          rw [List.drop_zero, List.drop_zero] at this
          exact this
      · cases h
    · cases h
theorem eqOk_of {T : TypeId} {ks : List Nat} (d : Nat) (h : ksOf P d T = some ks) (hd : d ≤ 10000) (hr : rowT P T = true) (hg : P.eqGuardType P.depth T = false) : EqOk P T ks := by
  refine ⟨hg, fun w xs ys hx hy => ?_⟩
  have := ksOf_ok h hd w xs ys _ _ hx hy (by rw [hr]; exact rfl) (by rw [hr]; exact rfl)
  simpa [Op.equal, Op.maxDepth] using this
end
end Go.Vc
end
section
namespace Go.Proofs.YtbdcaacpemkloaaGreat
open Go Go.RowKit Go.Vc
set_option linter.unusedVariables false
set_option linter.unusedSimpArgs false
set_option linter.unnecessarySimpa false
end Go.Proofs.YtbdcaacpemkloaaGreat
end
section
namespace Go.Proofs.YtbdcaacpemkloaaGreat
open Go Go.RowKit Go.Vc
set_option linter.unusedVariables false
set_option linter.unusedSimpArgs false
set_option linter.unnecessarySimpa false
theorem dec_n {s : ByteArray} (h : ¬ s.size = 16 ∨ ¬ encDF (bAt s 0) (bAt s 1) (get16 s 2) (get32 s 4) (get16 s 8) (get16 s 10) = s) : decDF s = ((0, 0, 0, 0, 0, 0), false) := by
  unfold decDF
  split
  · split
    · rename_i h1 h2
      rcases h with h | h
      · exact (h h1).elim
      · exact (h h2).elim
    · rfl
  · rfl
theorem dec_y {s : ByteArray} (h1 : s.size = 16) (h2 : encDF (bAt s 0) (bAt s 1) (get16 s 2) (get32 s 4) (get16 s 8) (get16 s 10) = s) : decDF s = (decX s, true) := by
  unfold decDF
  rw [if_pos h1, if_pos h2]
set_option maxHeartbeats 4000000 in
theorem c_impl_DecodeDesc {s : ByteArray} (hs_s : s.size ≤ 1099511627776 := by first | with_reducible assumption | omega | (simp only [ByteArray.size_append, ByteArray.size_extract, strOfNums_size, List.length_cons, List.length_nil]; omega)) : Con0 Tryz.prog 177 [Z s] (.tup [.agg [V (decDF s).1.1, V (decDF s).1.2.1, V (decDF s).1.2.2.1, V (decDF s).1.2.2.2.1, V (decDF s).1.2.2.2.2.1, V (decDF s).1.2.2.2.2.2], B (decDF s).2]) [] := by
  refine con_i Tryz.func177 Tryz.ntmps177 (t := [(0, Z s)]) rfl ?_
  refine vc_sr ?_
  iterate 2 refine vo ?_
  refine vnt ?_
  refine vc_seq' ?_
  refine vc_sr ?_
  iterate 3 refine vo ?_
  refine vnt ?_
  refine vc_if (fun g1 => ?_) (fun g1 => ?_)
  · refine vc_sr ?_
    iterate 3 refine vo ?_
    refine vnt ?_
    refine vc_ret ?_
    refine thn_r ?_
    refine fin_i [] rfl (fz ?_) trivial
    rw [dec_n (.inl (by omega))]
    simp
  · refine vc_skip ?_
    refine thn ?_
    refine vc_sr ?_
    iterate 3 refine vo ?_
    refine veq (i64_byt s 0) ?_
    iterate 3 refine vo ?_
    refine veq (i64_byt s 1) ?_
    refine vo ?_
    refine voc c_impl_Get16 rfl rfl ?_
    refine vo ?_
    refine voc c_impl_Get32 rfl rfl ?_
    refine vo ?_
    refine voc c_impl_Get16 rfl rfl ?_
    refine vo ?_
    refine voc c_impl_Get16 rfl rfl ?_
    iterate 3 refine vo ?_
    refine vnt ?_
    refine vc_seq' ?_
    refine vc_sr ?_
    refine vo ?_
    refine voc c_impl_EncodeDesc rfl rfl ?_
    iterate 2 refine vo ?_
    refine vnt ?_
    refine vc_if (fun g2 => ?_) (fun g2 => ?_)
    · refine vc_sr ?_
      iterate 3 refine vo ?_
      refine vnt ?_
      refine vc_ret ?_
      refine thn_r ?_
      refine fin_i [] rfl (fz ?_) trivial
      rw [dec_n (.inr g2)]
      simp
    · refine vc_skip ?_
      refine thn ?_
      refine vc_sr ?_
      iterate 3 refine vo ?_
      refine vnt ?_
      refine vc_ret ?_
      refine fin_i [] rfl (fz ?_) trivial
      rw [dec_y (by omega) g2]
      simp [decX]
def stF (l : List Mp) (ps : Pg) (d db ds dc dm sm vl tos id ttl si di kind sp dp seq ack fl win : Int) (body : ByteArray) (size count : Int) (key entry : ByteArray) : Pg × Int × Bool :=
  if (decDF entry).2 = true ∧ (decDF entry).1.1 = 3 ∧ ¬ (decDF entry).1.2.2.1 < ((imgR dm sm vl tos id ttl si di kind sp dp seq ack fl win body).size : Int) then
    if (dmaWF l ps d (decDF entry).1.2.2.2.1 (imgR dm sm vl tos id ttl si di kind sp dp seq ack fl win body) true).2 = true then putC l (dmaWF l ps d (decDF entry).1.2.2.2.1 (imgR dm sm vl tos id ttl si di kind sp dp seq ack fl win body) true).1 d db ds dc (decDF entry).1.2.2.2.2.2 (imgR dm sm vl tos id ttl si di kind sp dp seq ack fl win body).size size count (hflF key si di sp dp) else (ps, dc, false)
  else (ps, dc, false)
end Go.Proofs.YtbdcaacpemkloaaGreat
end
section
namespace Go.Vc
open Go Go.RowKit
set_option linter.unusedVariables false
section
variable {P : Program} [TyEnv P] {n : Nat} {ops os : List Oper} {dr : Bool} {K : Tm → Hp → Prop} {t : Tm} {H : Hp} {fp : List Fp} {d : Nat}
theorem vepl {sz k j : Nat} {c : Int} {es : List (List Value)} (hj : c.toNat = j) (h : Vd P n ops dr K os ((d, .one (.ep sz es j k)) :: t) H fp) : Vd P n ops dr K os ((d, .one (.ep sz es c.toNat k)) :: t) H fp := by rw [hj]; exact h
theorem vptl {i sz k j : Nat} {c : Int} (hj : c.toNat = j) (h : Vd P n ops dr K os ((d, .one (.ptr i j sz k)) :: t) H fp) : Vd P n ops dr K os ((d, .one (.ptr i c.toNat sz k)) :: t) H fp := by rw [hj]; exact h
theorem vdrl {sz j : Nat} {c : Int} {α : Type} {l : List α} {f : α → List Value} (hj : c.toNat = j) (h : Vd P n ops dr K os ((d, .one (.sl sz ((l.drop j).map f))) :: t) H fp) : Vd P n ops dr K os ((d, .one (.sl sz ((l.map f).drop c.toNat))) :: t) H fp := by
  rw [hj]; rw [List.map_drop] at h; exact h
theorem vh1 {k sz : Nat} {E : TypeId} {es es' : List (List Value)} (he : es = es') (h : Vd P n ops dr K os t [(k, .arr E sz es')] fp) : Vd P n ops dr K os t [(k, .arr E sz es)] fp := he ▸ h
theorem vhc {k sz j : Nat} {c : Int} (hj : c.toNat = j) (h : Vd P n ops dr K os ((d, .one (.hc k j sz)) :: t) H fp) : Vd P n ops dr K os ((d, .one (.hc k c.toNat sz)) :: t) H fp := by rw [hj]; exact h
end
end Go.Vc
end
section
namespace Go.Proofs.YtbdcaacpemkloaaGreat
open Go Go.RowKit Go.Vc
set_option linter.unusedVariables false
set_option linter.unusedSimpArgs false
set_option linter.unnecessarySimpa false
theorem seen_at {n : Nat} {xs : List Int} {k : Int} (h0 : 0 ≤ k) (h1 : k < n) : at' (seenF n xs) k.toNat = xs.contains k := by
  obtain ⟨i, rfl⟩ := Int.eq_ofNat_of_zero_le h0
  rw [atp_eq (by rw [seenF_length]; omega)]
  have := seenF_get xs (show i < n by omega)
  rw [List.getElem?_eq_getElem (by rw [seenF_length]; omega)] at this
  simpa using this
theorem seen_set {n : Nat} {xs : List Int} {k : Int} (h0 : 0 ≤ k) (h1 : k < n) : ((seenF n xs).map booE).set k.toNat [.bool true] = (seenF n (xs ++ [k])).map booE := by
  obtain ⟨i, rfl⟩ := Int.eq_ofNat_of_zero_le h0
  rw [← seenF_set xs (show i < n by omega), List.map_set]; rfl
theorem seen_nil (n : Nat) : (seenF n []).map booE = List.replicate (n : Int).toNat [Value.bool false] := by
  rw [seenF_nil, List.map_replicate]; rfl
theorem take_at {α : Type} [Inhabited α] {l : List α} {i : Nat} (h : i < l.length) : l.take (i + 1) = l.take i ++ [at' l i] := by
  rw [List.take_succ_eq_append_getElem h, atp_eq h]
theorem pool_no {b z c : Int} {fr : List Int} (h : inB b 0 130944 = false ∨ inB z 1 512 = false ∨ inB c 0 16 = false) : poolB b z c fr = false := by
  unfold poolB
  rcases h with h | h | h <;> rw [h] <;> simp
theorem pool_rng {b z : Int} {n : Nat} {fr : List Int} {i : Nat} (hi : i < fr.length) (h : inB (at' fr i) 0 ((n : Int) - 1) = false) : poolB b z n fr = false := poolB_range hi (atp_eq hi).symm h
theorem pool_dup {b z : Int} {n : Nat} {fr : List Int} {i : Nat} (hi : i < fr.length) (h : (fr.take i).contains (at' fr i) = true) : poolB b z n fr = false := poolB_dup hi (atp_eq hi).symm h
theorem pool_stp {n : Nat} {fr : List Int} {i : Nat} (hi : i < fr.length) (g : poolG n fr i) (h1 : inB (at' fr i) 0 ((n : Int) - 1) = true) (h2 : (fr.take i).contains (at' fr i) = false) : poolG n fr (i + 1) := poolG_step hi (atp_eq hi).symm g h1 h2
theorem pool_all {b z : Int} {n : Nat} {fr : List Int} {i : Nat} (h0 : inB b 0 130944 = true) (h1 : inB z 1 512 = true) (h2 : inB (n : Int) 0 16 = true) (g : poolG n fr i) (hi : i ≤ fr.length) (hh : ¬ i < fr.length) : poolB b z n fr = true := by
  obtain rfl : i = fr.length := by omega
  exact poolB_all h0 h1 h2 g
theorem rpu_n {l : List Mp} {ps : Pg} {d b s h t : Int} {e : ByteArray} (hh : freeF b s h t = 0 ∨ ¬ e.size = 16 ∨ (dmaWF l ps d (rslot b s t) e true).2 = false) : rputF l ps d b s h t e = (ps, t, false) := by
  unfold rputF
  split
  · rfl
  · split
    · rename_i g1 g2
      have h3 : (dmaWF l ps d (rslot b s t) e true).2 = false := by
        rcases hh with hh | hh | hh
        · exact (g1 hh).elim
        · exact (hh g2).elim
        · exact hh
      generalize dmaWF l ps d (rslot b s t) e true = x at h3 ⊢
      obtain ⟨x1, x2⟩ := x
      simp only at h3
      subst h3; rfl
    · rfl
theorem rpu_y {l : List Mp} {ps : Pg} {d b s h t : Int} {e : ByteArray} (h1 : ¬ freeF b s h t = 0) (h2 : e.size = 16) (h3 : (dmaWF l ps d (rslot b s t) e true).2 = true) : rputF l ps d b s h t e = ((dmaWF l ps d (rslot b s t) e true).1, rnext s t, true) := by
  unfold rputF
  rw [if_neg h1, if_pos h2]
  generalize dmaWF l ps d (rslot b s t) e true = x at h3 ⊢
  obtain ⟨x1, x2⟩ := x
  simp only at h3
  subst h3; rfl
set_option maxHeartbeats 4000000 in
theorem c_impl_copyInts {fr : List Int} (hl_fr : fr.length ≤ 1099511627776 := by first | with_reducible assumption | omega) : Con0 Tryz.prog 170 [.one (.sl 1 (fr.map intE))] (.one (.hs 0)) [(0, .arr 3 1 (fr.map intE))] := by
  refine con_i Tryz.func170 Tryz.ntmps170 (t := [(0, .one (.sl 1 (fr.map intE)))]) rfl ?_
  refine vc_sr ?_
  refine vo ?_
  refine vnt ?_
  refine vc_sr ?_
  iterate 4 refine vo ?_
  refine vnt ?_
  refine vc_ret ?_
  refine fin_i [(0, some 40)] rfl (fz ?_) (fz ?_) <;> first | trivial | rfl | simp
set_option maxHeartbeats 4000000 in
theorem c_impl_copyPool {pb pz pc : Int} {fr : List Int} (hl_fr : fr.length ≤ 1099511627776 := by first | with_reducible assumption | omega) : Con0 Tryz.prog 129 [.agg [V pb, V pz, V pc, .sl 1 (fr.map intE)]] (.agg [V pb, V pz, V pc, .hs 0]) [(0, .arr 3 1 (fr.map intE))] := by
  refine con_i Tryz.func129 Tryz.ntmps129 (t := [(0, .agg [V pb, V pz, V pc, .sl 1 (fr.map intE)])]) rfl ?_
  refine vc_sr ?_
  iterate 2 refine vo ?_
  refine vnt ?_
  refine vc_sr ?_
  iterate 2 refine vo ?_
  refine voc c_impl_copyInts rfl rfl ?_
  iterate 2 refine vo ?_
  refine vnt ?_
  refine vc_sr ?_
  iterate 2 refine vo ?_
  refine vnt ?_
  refine vc_ret ?_
  refine fin_i [(0, some 40)] rfl (fz ?_) (fz ?_) <;> first | trivial | rfl | simp
set_option maxHeartbeats 4000000 in
theorem c_spec_l21Copy {pb pz pc : Int} {fr : List Int} (hl_fr : fr.length ≤ 1099511627776 := by first | with_reducible assumption | omega) : Con0 Tryz.prog 116 [.agg [V pb, V pz, V pc, .sl 1 (fr.map intE)]] (.agg [V pb, V pz, V pc, .hs 0]) [(0, .arr 3 1 (fr.map intE))] := by
  refine con_i Tryz.func116 Tryz.ntmps116 (t := [(0, .agg [V pb, V pz, V pc, .sl 1 (fr.map intE)])]) rfl ?_
  refine vc_sr ?_
  iterate 2 refine vo ?_
  refine vnt ?_
  refine vc_sr ?_
  iterate 12 refine vo ?_
  refine vnt ?_
  refine vc_ret ?_
  refine fin_i [(0, some 96)] rfl (fz ?_) (fz ?_) <;> first | trivial | rfl | simp
set_option maxHeartbeats 4000000 in
theorem c_impl_PoolOk {pb pz pc : Int} {fr : List Int} (hl_fr : fr.length ≤ 1099511627776 := by first | with_reducible assumption | omega) : Con0 Tryz.prog 94 [.agg [V pb, V pz, V pc, .sl 1 (fr.map intE)]] (B (poolB pb pz pc fr)) [] := by
  refine con_i Tryz.func94 Tryz.ntmps94 (t := [(0, .agg [V pb, V pz, V pc, .sl 1 (fr.map intE)])]) rfl ?_
  refine vc_sr ?_
  iterate 2 refine vo ?_
  refine vnt ?_
  refine vc_seq' ?_
  refine vc_sr ?_
  iterate 2 refine vo ?_
  refine voc c_impl_between rfl rfl ?_
  iterate 2 refine vo ?_
  refine vsp (fun g1 => ?_) (fun g1 => ?_)
  · iterate 4 refine vof ?_
    iterate 2 refine vo ?_
    iterate 4 refine vof ?_
    refine vo ?_
    refine vnt ?_
    refine vc_then ?_
    refine vc_sr ?_
    refine vo ?_
    refine vnt ?_
    refine vc_ret ?_
    refine thn_r ?_
    refine fin_i [] rfl (fz ?_) trivial
    exact pool_no (.inl g1)
  · iterate 2 refine von ?_
    refine vocn c_impl_between rfl rfl ?_
    refine von ?_
    iterate 2 refine vo ?_
    refine vsp (fun g2 => ?_) (fun g2 => ?_)
    · iterate 4 refine vof ?_
      refine vo ?_
      refine vnt ?_
      refine vc_then ?_
      refine vc_sr ?_
      refine vo ?_
      refine vnt ?_
      refine vc_ret ?_
      refine thn_r ?_
      refine fin_i [] rfl (fz ?_) trivial
      exact pool_no (.inr (.inl g2))
    · iterate 2 refine von ?_
      refine vocn c_impl_between rfl rfl ?_
      refine von ?_
      refine vo ?_
      refine vnt ?_
      refine vc_if (fun g3 => ?_) (fun g3 => ?_)
      · refine vc_sr ?_
        refine vo ?_
        refine vnt ?_
        refine vc_ret ?_
        refine thn_r ?_
        refine fin_i [] rfl (fz ?_) trivial
        exact pool_no (.inr (.inr g3))
      · have hz3 := inB_iff.1 g3
        obtain ⟨n, rfl⟩ := Int.eq_ofNat_of_zero_le hz3.1
        refine vc_skip ?_
        refine thn ?_
        refine vc_sr ?_
        iterate 4 refine vo ?_
        refine vnt ?_
        refine vc_seq' ?_
        refine vc_sr ?_
        iterate 3 refine vo ?_
        try first | refine vlb ?_ | refine vln ?_
        refine vo ?_
        refine vnt ?_
        refine vc_block ?_
        refine vc_lp (σ := Nat) [1, 3, 26, 27] [8] (fun i => [(28, I (i : Nat))]) (fun i => [(192, .arr 4 1 ((seenF n (fr.take i)).map booE))]) (fun i => i ≤ fr.length ∧ poolG n fr i) (fun i => fr.length - i) 0 rfl rfl (sub_i [(192, some 192)] (fz ?_) (fz ?_)) ?_ fun i hI => ?_
        · first | trivial | rfl
        · first | trivial | exact (seen_nil n).symm | exact seen_nil n | (simp [seen_nil]; done) | trace_state
        · exact ⟨Nat.zero_le _, poolG_zero n fr⟩
        refine vc_nf rfl rfl ?_
        have hsl := seenF_length n (fr.take i)
        refine vc_sr ?_
        refine vo ?_
        refine vnt ?_
        refine vc_seq' ?_
        refine vc_if (fun g4 => ?_) (fun g4 => ?_)
        · refine vc_skip ?_
          refine thn ?_
          refine vc_seq' ?_
          refine vc_block ?_
          refine vc_sr ?_
          refine vo ?_
          try with_reducible (first | refine vep ?_ | refine vpt ?_)
          iterate 2 refine vo ?_
          refine vnt ?_
          refine vc_seq' ?_
          refine vc_sr ?_
          iterate 4 refine vo ?_
          try refine vwr ?_
          refine voc c_impl_between rfl rfl ?_
          iterate 2 refine vo ?_
          refine vsp (fun g5 => ?_) (fun g5 => ?_)
          · iterate 4 refine vof ?_
            refine vo ?_
            refine vnt ?_
            refine vc_then ?_
            refine vc_sr ?_
            refine vo ?_
            refine vnt ?_
            refine vc_ret ?_
            refine thn_r ?_
            refine inB_r ?_
            refine thn_r ?_
            refine thn_r ?_
            refine inB_r ?_
            refine thn_r ?_
            refine fin_i [] rfl (fz ?_) trivial
            exact pool_rng g4 g5
          · have hkb := inB_iff.1 g5
            iterate 3 refine von ?_
            try with_reducible (first | refine vep ?_ | refine vpt ?_)
            refine von ?_
            refine vo ?_
            refine vnt ?_
            refine vc_if (fun g6 => ?_) (fun g6 => ?_)
            · rw [seen_at (by omega) (by omega)] at g6
              have hct : (fr.take i).contains (at' fr i) = true := by first | exact g6 | simpa using g6
              refine vc_sr ?_
              refine vo ?_
              refine vnt ?_
              refine vc_ret ?_
              refine thn_r ?_
              refine inB_r ?_
              refine thn_r ?_
              refine thn_r ?_
              refine inB_r ?_
              refine thn_r ?_
              refine fin_i [] rfl (fz ?_) trivial
              exact pool_dup g4 hct
            · rw [seen_at (by omega) (by omega)] at g6
              have hct : (fr.take i).contains (at' fr i) = false := by first | exact g6 | simpa using g6
              refine vc_skip ?_
              refine thn ?_
              refine vc_region ?_
              iterate 3 refine vo ?_
              try with_reducible (first | refine vep ?_ | refine vpt ?_)
              refine vo ?_
              refine vnil ?_
              refine inB_n ?_
              refine thn ?_
              refine vc_region ?_
              refine vo ?_
              try refine vwr ?_
              refine vo ?_
              refine vnt ?_
              refine ⟨i + 1, ?_, ?_, sub_i [(192, some 192)] (fz ?_) (fz ?_)⟩
              · exact ⟨by omega, pool_stp g4 hI.2 g5 hct⟩
              · omega
              · first | trivial | rfl | exact ⟨rfl, rfl⟩
              · first | (rw [take_at g4]; exact (seen_set (by omega) (by omega)).symm) | (rw [take_at g4, seen_set (by omega) (by omega)]; done) | trace_state
        · refine vc_exit ?_
          refine thn_x ?_
          refine thn_x ?_
          refine inB_x ?_
          refine thn ?_
          refine vc_sr ?_
          refine vo ?_
          refine vnt ?_
          refine vc_ret ?_
          refine fin_i [] rfl (fz ?_) trivial
          exact pool_all g1 g2 g3 hI.2 hI.1 (by omega)
set_option maxHeartbeats 4000000 in
theorem c_spec_PoolOk {pb pz pc : Int} {fr : List Int} (hl_fr : fr.length ≤ 1099511627776 := by first | with_reducible assumption | omega) : Con0 Tryz.prog 118 [.agg [V pb, V pz, V pc, .sl 1 (fr.map intE)]] (B (poolB pb pz pc fr)) [] := by
  refine con_i Tryz.func118 Tryz.ntmps118 (t := [(0, .agg [V pb, V pz, V pc, .sl 1 (fr.map intE)])]) rfl ?_
  refine vc_sr ?_
  iterate 2 refine vo ?_
  refine vnt ?_
  refine vc_seq' ?_
  refine vc_sr ?_
  iterate 2 refine vo ?_
  refine voc c_spec_l01In rfl rfl ?_
  iterate 2 refine vo ?_
  refine vsp (fun g1 => ?_) (fun g1 => ?_)
  · iterate 4 refine vof ?_
    iterate 2 refine vo ?_
    iterate 4 refine vof ?_
    refine vo ?_
    refine vnt ?_
    refine vc_then ?_
    refine vc_sr ?_
    refine vo ?_
    refine vnt ?_
    refine vc_ret ?_
    refine thn_r ?_
    refine fin_i [] rfl (fz ?_) trivial
    exact pool_no (.inl g1)
  · iterate 2 refine von ?_
    refine vocn c_spec_l01In rfl rfl ?_
    refine von ?_
    iterate 2 refine vo ?_
    refine vsp (fun g2 => ?_) (fun g2 => ?_)
    · iterate 4 refine vof ?_
      refine vo ?_
      refine vnt ?_
      refine vc_then ?_
      refine vc_sr ?_
      refine vo ?_
      refine vnt ?_
      refine vc_ret ?_
      refine thn_r ?_
      refine fin_i [] rfl (fz ?_) trivial
      exact pool_no (.inr (.inl g2))
    · iterate 2 refine von ?_
      refine vocn c_spec_l01In rfl rfl ?_
      refine von ?_
      refine vo ?_
      refine vnt ?_
      refine vc_if (fun g3 => ?_) (fun g3 => ?_)
      · refine vc_sr ?_
        refine vo ?_
        refine vnt ?_
        refine vc_ret ?_
        refine thn_r ?_
        refine fin_i [] rfl (fz ?_) trivial
        exact pool_no (.inr (.inr g3))
      · have hz3 := inB_iff.1 g3
        obtain ⟨n, rfl⟩ := Int.eq_ofNat_of_zero_le hz3.1
        refine vc_skip ?_
        refine thn ?_
        refine vc_sr ?_
        iterate 4 refine vo ?_
        refine vnt ?_
        refine vc_seq' ?_
        refine vc_sr ?_
        refine vo ?_
        refine vnt ?_
        refine vc_block ?_
        refine vc_lp (σ := Nat) [1, 3] [8] (fun i => [(4, I (i : Nat))]) (fun i => [(184, .arr 4 1 ((seenF n (fr.take i)).map booE))]) (fun i => i ≤ fr.length ∧ poolG n fr i) (fun i => fr.length - i) 0 rfl rfl (sub_i [(184, some 184)] (fz ?_) (fz ?_)) ?_ fun i hI => ?_
        · first | trivial | rfl
        · first | trivial | exact (seen_nil n).symm | exact seen_nil n | (simp [seen_nil]; done) | trace_state
        · exact ⟨Nat.zero_le _, poolG_zero n fr⟩
        refine vc_nf rfl rfl ?_
        have hsl := seenF_length n (fr.take i)
        refine vc_seq' ?_
        refine vc_sr ?_
        iterate 4 refine vo ?_
        try first | refine vlb ?_ | refine vln ?_
        refine vo ?_
        refine vnt ?_
        refine vc_if (fun g4 => ?_) (fun g4 => ?_)
        · refine vc_skip ?_
          refine thn ?_
          refine vc_seq' ?_
          refine vc_block ?_
          refine vc_seq' ?_
          refine vc_sr ?_
          iterate 4 refine vo ?_
          try with_reducible (first | refine vep ?_ | refine vpt ?_)
          iterate 4 refine vo ?_
          try refine vwr ?_
          refine voc c_spec_l01In rfl rfl ?_
          iterate 2 refine vo ?_
          refine vsp (fun g5 => ?_) (fun g5 => ?_)
          · iterate 8 refine vof ?_
            refine vo ?_
            refine vnt ?_
            refine vc_then ?_
            refine vc_sr ?_
            refine vo ?_
            refine vnt ?_
            refine vc_ret ?_
            refine thn_r ?_
            refine inB_r ?_
            refine thn_r ?_
            refine thn_r ?_
            refine inB_r ?_
            refine thn_r ?_
            refine fin_i [] rfl (fz ?_) trivial
            exact pool_rng g4 g5
          · have hkb := inB_iff.1 g5
            iterate 5 refine von ?_
            try with_reducible (first | refine vep ?_ | refine vpt ?_)
            iterate 2 refine von ?_
            try with_reducible (first | refine vep ?_ | refine vpt ?_)
            refine von ?_
            refine vo ?_
            refine vnt ?_
            refine vc_if (fun g6 => ?_) (fun g6 => ?_)
            · rw [seen_at (by omega) (by omega)] at g6
              have hct : (fr.take i).contains (at' fr i) = true := by first | exact g6 | simpa using g6
              refine vc_sr ?_
              refine vo ?_
              refine vnt ?_
              refine vc_ret ?_
              refine thn_r ?_
              refine inB_r ?_
              refine thn_r ?_
              refine thn_r ?_
              refine inB_r ?_
              refine thn_r ?_
              refine fin_i [] rfl (fz ?_) trivial
              exact pool_dup g4 hct
            · rw [seen_at (by omega) (by omega)] at g6
              have hct : (fr.take i).contains (at' fr i) = false := by first | exact g6 | simpa using g6
              refine vc_skip ?_
              refine thn ?_
              refine vc_region ?_
              iterate 5 refine vo ?_
              try with_reducible (first | refine vep ?_ | refine vpt ?_)
              iterate 2 refine vo ?_
              try with_reducible (first | refine vep ?_ | refine vpt ?_)
              refine vo ?_
              refine vnil ?_
              refine inB_n ?_
              refine thn ?_
              refine vc_region ?_
              iterate 2 refine vo ?_
              try refine vwr ?_
              refine vo ?_
              refine vnt ?_
              refine ⟨i + 1, ?_, ?_, sub_i [(184, some 184)] (fz ?_) (fz ?_)⟩
              · exact ⟨by omega, pool_stp g4 hI.2 g5 hct⟩
              · omega
              · first | trivial | rfl | exact ⟨rfl, rfl⟩
              · first | (rw [take_at g4]; exact (seen_set (by omega) (by omega)).symm) | (rw [take_at g4, seen_set (by omega) (by omega)]; done) | trace_state
        · refine vc_exit ?_
          refine thn_x ?_
          refine thn_x ?_
          refine inB_x ?_
          refine thn ?_
          refine vc_sr ?_
          refine vo ?_
          refine vnt ?_
          refine vc_ret ?_
          refine fin_i [] rfl (fz ?_) trivial
          exact pool_all g1 g2 g3 hI.2 hI.1 (by omega)
set_option maxHeartbeats 4000000 in
theorem c_impl_BufferAddress {pb pz pc k : Int} {fr : List Int} (hl_fr : fr.length ≤ 1099511627776 := by first | with_reducible assumption | omega) : Con0 Tryz.prog 134 [.agg [V pb, V pz, V pc, .sl 1 (fr.map intE)], I k] (I (bufA pb pz pc fr k)) [] := by
  refine con_i Tryz.func134 Tryz.ntmps134 (t := [(0, .agg [V pb, V pz, V pc, .sl 1 (fr.map intE)]), (1, I k)]) rfl ?_
  refine vc_sr ?_
  iterate 2 refine vo ?_
  refine vnt ?_
  refine vc_seq' ?_
  refine vc_sr ?_
  refine vo ?_
  refine voc c_impl_PoolOk rfl rfl ?_
  iterate 2 refine vo ?_
  refine vsp (fun g1 => ?_) (fun g1 => ?_)
  · iterate 6 refine vof ?_
    refine vo ?_
    refine vnt ?_
    refine vc_then ?_
    refine vc_sr ?_
    refine vo ?_
    refine vnt ?_
    refine vc_ret ?_
    refine thn_r ?_
    refine fin_i [] rfl (fz ?_) trivial
    rw [bufA_n (.inl g1)]
  · have hpf := poolB_facts g1
    iterate 4 refine von ?_
    try refine vwr ?_
    refine vocn c_impl_between rfl rfl ?_
    refine von ?_
    refine vo ?_
    refine vnt ?_
    refine vc_if (fun g2 => ?_) (fun g2 => ?_)
    · refine vc_sr ?_
      refine vo ?_
      refine vnt ?_
      refine vc_ret ?_
      refine thn_r ?_
      refine fin_i [] rfl (fz ?_) trivial
      rw [bufA_n (.inr g2)]
    · have hba := bufA_y g1 g2
      refine vc_skip ?_
      refine thn ?_
      refine vc_sr ?_
      iterate 6 refine vo ?_
      try refine vwr ?_
      refine vo ?_
      try refine vwr ?_
      refine vo ?_
      refine vnt ?_
      refine vc_ret ?_
      refine fin_i [] rfl (fz ?_) trivial
      exact hba.1
set_option maxHeartbeats 4000000 in
theorem c_impl_GiveBuffers {pb pz pc : Int} {fr ks : List Int} (hl_fr : fr.length ≤ 1000000000 := by first | with_reducible assumption | omega) (hl_ks : ks.length ≤ 1000000000 := by first | with_reducible assumption | omega) : Con0 Tryz.prog 95 [.agg [V pb, V pz, V pc, .sl 1 (fr.map intE)], .one (.sl 1 (ks.map intE))] (.tup [.agg [V pb, V pz, V pc, .hs 0], B (giveB pb pz pc fr ks)]) [(0, .arr 3 1 ((giveF pb pz pc fr ks).map intE))] := by
  have hla : (fr ++ ks).length = fr.length + ks.length := List.length_append
  refine con_i Tryz.func95 Tryz.ntmps95 (t := [(0, .agg [V pb, V pz, V pc, .sl 1 (fr.map intE)]), (1, .one (.sl 1 (ks.map intE)))]) rfl ?_
  refine vc_sr ?_
  iterate 3 refine vo ?_
  refine vnt ?_
  refine vc_sr ?_
  refine vo ?_
  refine voc c_impl_copyPool rfl rfl ?_
  iterate 2 refine vo ?_
  refine vnt ?_
  refine vc_sr ?_
  iterate 4 refine vo ?_
  rw [← List.map_append]
  iterate 2 refine vo ?_
  refine vnt ?_
  refine vc_seq' ?_
  refine vc_sr ?_
  refine vo ?_
  refine voc c_impl_PoolOk rfl rfl ?_
  iterate 2 refine vo ?_
  refine vsp (fun g1 => ?_) (fun g1 => ?_)
  · iterate 3 refine vof ?_
    refine vo ?_
    refine vnt ?_
    refine vc_then ?_
    refine vc_sr ?_
    refine vo ?_
    refine voc c_impl_copyPool rfl rfl ?_
    iterate 2 refine vo ?_
    refine vnt ?_
    refine vc_ret ?_
    refine thn_r ?_
    have hh := give_n (pb := pb) (pz := pz) (pc := pc) (fr := fr) (ks := ks) (.inl g1)
    refine fin_i [(0, some 184)] rfl (fz ?_) (fz ?_)
    · rw [hh.2]
    · first | (rw [hh.1]; done) | (rw [hh.1]; simp)
  · refine von ?_
    refine vocn c_impl_PoolOk rfl rfl ?_
    refine von ?_
    refine vo ?_
    refine vnt ?_
    refine vc_if (fun g2 => ?_) (fun g2 => ?_)
    · refine vc_sr ?_
      refine vo ?_
      refine voc c_impl_copyPool rfl rfl ?_
      iterate 2 refine vo ?_
      refine vnt ?_
      refine vc_ret ?_
      refine thn_r ?_
      have hh := give_n (pb := pb) (pz := pz) (pc := pc) (fr := fr) (ks := ks) (.inr g2)
      refine fin_i [(0, some 184)] rfl (fz ?_) (fz ?_)
      · rw [hh.2]
      · first | (rw [hh.1]; done) | (rw [hh.1]; simp)
    · refine vc_skip ?_
      refine thn ?_
      refine vc_sr ?_
      iterate 3 refine vo ?_
      refine vnt ?_
      refine vc_ret ?_
      have hh := give_y (pb := pb) (pz := pz) (pc := pc) (fr := fr) (ks := ks) g1 g2
      refine fin_i [(0, some 96)] rfl (fz ?_) (fz ?_)
      · rw [hh.2]
      · first | (rw [hh.1]; done) | (rw [hh.1]; simp)
set_option maxHeartbeats 4000000 in
theorem c_spec_BufferAddress {pb pz pc k : Int} {fr : List Int} (hl_fr : fr.length ≤ 1099511627776 := by first | with_reducible assumption | omega) : Con0 Tryz.prog 67 [.agg [V pb, V pz, V pc, .sl 1 (fr.map intE)], I k] (I (bufA pb pz pc fr k)) [] := by
  refine con_i Tryz.func67 Tryz.ntmps67 (t := [(0, .agg [V pb, V pz, V pc, .sl 1 (fr.map intE)]), (1, I k)]) rfl ?_
  refine vc_sr ?_
  iterate 2 refine vo ?_
  refine vnt ?_
  refine vc_seq' ?_
  refine vc_sr ?_
  refine vo ?_
  refine voc c_spec_PoolOk rfl rfl ?_
  iterate 2 refine vo ?_
  refine vsp (fun g1 => ?_) (fun g1 => ?_)
  · iterate 6 refine vof ?_
    refine vo ?_
    refine vnt ?_
    refine vc_then ?_
    refine vc_sr ?_
    refine vo ?_
    refine vnt ?_
    refine vc_ret ?_
    refine thn_r ?_
    refine fin_i [] rfl (fz ?_) trivial
    rw [bufA_n (.inl g1)]
  · have hpf := poolB_facts g1
    iterate 4 refine von ?_
    try refine vwr ?_
    refine vocn c_spec_l01In rfl rfl ?_
    refine von ?_
    refine vo ?_
    refine vnt ?_
    refine vc_if (fun g2 => ?_) (fun g2 => ?_)
    · refine vc_sr ?_
      refine vo ?_
      refine vnt ?_
      refine vc_ret ?_
      refine thn_r ?_
      refine fin_i [] rfl (fz ?_) trivial
      rw [bufA_n (.inr g2)]
    · have hba := bufA_y g1 g2
      refine vc_skip ?_
      refine thn ?_
      refine vc_sr ?_
      iterate 6 refine vo ?_
      try refine vwr ?_
      refine vo ?_
      try refine vwr ?_
      refine vo ?_
      refine vnt ?_
      refine vc_ret ?_
      refine fin_i [] rfl (fz ?_) trivial
      exact hba.1
set_option maxHeartbeats 4000000 in
theorem c_spec_GiveBuffers {pb pz pc : Int} {fr ks : List Int} (hl_fr : fr.length ≤ 1000000000 := by first | with_reducible assumption | omega) (hl_ks : ks.length ≤ 1000000000 := by first | with_reducible assumption | omega) : Con0 Tryz.prog 123 [.agg [V pb, V pz, V pc, .sl 1 (fr.map intE)], .one (.sl 1 (ks.map intE))] (.tup [.agg [V pb, V pz, V pc, .hs 0], B (giveB pb pz pc fr ks)]) [(0, .arr 3 1 ((giveF pb pz pc fr ks).map intE))] := by
  have hla : (fr ++ ks).length = fr.length + ks.length := List.length_append
  refine con_i Tryz.func123 Tryz.ntmps123 (t := [(0, .agg [V pb, V pz, V pc, .sl 1 (fr.map intE)]), (1, .one (.sl 1 (ks.map intE)))]) rfl ?_
  refine vc_sr ?_
  iterate 3 refine vo ?_
  refine vnt ?_
  refine vc_sr ?_
  refine vo ?_
  refine voc c_spec_l21Copy rfl rfl ?_
  iterate 2 refine vo ?_
  refine vnt ?_
  refine vc_sr ?_
  iterate 4 refine vo ?_
  rw [← List.map_append]
  iterate 2 refine vo ?_
  refine vnt ?_
  refine vc_seq' ?_
  refine vc_sr ?_
  refine vo ?_
  refine voc c_spec_PoolOk rfl rfl ?_
  iterate 2 refine vo ?_
  refine vsp (fun g1 => ?_) (fun g1 => ?_)
  · iterate 3 refine vof ?_
    refine vo ?_
    refine vnt ?_
    refine vc_then ?_
    refine vc_sr ?_
    refine vo ?_
    refine voc c_spec_l21Copy rfl rfl ?_
    iterate 2 refine vo ?_
    refine vnt ?_
    refine vc_ret ?_
    refine thn_r ?_
    have hh := give_n (pb := pb) (pz := pz) (pc := pc) (fr := fr) (ks := ks) (.inl g1)
    refine fin_i [(0, some 184)] rfl (fz ?_) (fz ?_)
    · rw [hh.2]
    · first | (rw [hh.1]; done) | (rw [hh.1]; simp)
  · refine von ?_
    refine vocn c_spec_PoolOk rfl rfl ?_
    refine von ?_
    refine vo ?_
    refine vnt ?_
    refine vc_if (fun g2 => ?_) (fun g2 => ?_)
    · refine vc_sr ?_
      refine vo ?_
      refine voc c_spec_l21Copy rfl rfl ?_
      iterate 2 refine vo ?_
      refine vnt ?_
      refine vc_ret ?_
      refine thn_r ?_
      have hh := give_n (pb := pb) (pz := pz) (pc := pc) (fr := fr) (ks := ks) (.inr g2)
      refine fin_i [(0, some 184)] rfl (fz ?_) (fz ?_)
      · rw [hh.2]
      · first | (rw [hh.1]; done) | (rw [hh.1]; simp)
    · refine vc_skip ?_
      refine thn ?_
      refine vc_sr ?_
      iterate 3 refine vo ?_
      refine vnt ?_
      refine vc_ret ?_
      have hh := give_y (pb := pb) (pz := pz) (pc := pc) (fr := fr) (ks := ks) g1 g2
      refine fin_i [(0, some 96)] rfl (fz ?_) (fz ?_)
      · rw [hh.2]
      · first | (rw [hh.1]; done) | (rw [hh.1]; simp)
set_option maxHeartbeats 4000000 in
theorem c_impl_RingFree {b s h t : Int} : Con0 Tryz.prog 77 [.agg [V b, V s, V h, V t]] (I (freeF b s h t)) [] := by
  refine con_i Tryz.func77 Tryz.ntmps77 (t := [(0, .agg [V b, V s, V h, V t])]) rfl ?_
  refine vc_sr ?_
  iterate 2 refine vo ?_
  refine vnt ?_
  refine vc_seq' ?_
  refine vc_sr ?_
  refine vo ?_
  refine voc c_impl_RingOk rfl rfl ?_
  refine vo ?_
  refine vnt ?_
  refine vc_if (fun g1 => ?_) (fun g1 => ?_)
  · refine vc_sr ?_
    refine vo ?_
    refine vnt ?_
    refine vc_ret ?_
    refine thn_r ?_
    refine fin_i [] rfl (fz ?_) trivial
    rw [freeF, g1]
    simp
  · have hr := ringOk_facts g1
    have hs0 := hr.1
    have hub : 0 ≤ usedF s h t ∧ usedF s h t ≤ 16 := by unfold usedF; have hsz := sizeB_cases hs0; omega
    refine vc_skip ?_
    refine thn ?_
    refine vc_sr ?_
    iterate 3 refine vo ?_
    refine voc c_impl_RingUsed rfl rfl ?_
    refine vo ?_
    try refine vwr ?_
    refine vo ?_
    refine vnt ?_
    refine vc_ret ?_
    refine fin_i [] rfl (fz ?_) trivial
    rw [freeF, g1]
    simp [usedF]
set_option maxHeartbeats 4000000 in
theorem c_impl_RingPut {l : List Mp} {ps : Pg} {d b s h t : Int} {e : ByteArray} (hl : l.length ≤ 1099511627776 := by first | with_reducible assumption | omega) (hp : ps.length ≤ 1099511627776 := by first | with_reducible assumption | omega) (hs_e : e.size ≤ 1099511627776 := by first | with_reducible assumption | omega | (simp only [ByteArray.size_append, ByteArray.size_extract, strOfNums_size, List.length_cons, List.length_nil]; omega)) : Con0 Tryz.prog 175 [.one (.sl 4 (l.map mpE)), .agg [.sl 1 (ps.map strE)], I d, .agg [V b, V s, V h, V t], Z e] (.tup [.agg [.hs 0], .agg [V b, V s, V h, V (rputF l ps d b s h t e).2.1], B (rputF l ps d b s h t e).2.2]) [(0, .arr 9 1 ((rputF l ps d b s h t e).1.map strE))] := by
  refine con_i Tryz.func175 Tryz.ntmps175 (t := [(0, .one (.sl 4 (l.map mpE))), (1, .agg [.sl 1 (ps.map strE)]), (2, I d), (3, .agg [V b, V s, V h, V t]), (4, Z e)]) rfl ?_
  refine vc_sr ?_
  iterate 5 refine vo ?_
  refine vnt ?_
  refine vc_seq' ?_
  refine vc_sr ?_
  refine vo ?_
  refine voc c_impl_RingFree rfl rfl ?_
  iterate 2 refine vo ?_
  refine vsp (fun g1 => ?_) (fun g1 => ?_)
  · iterate 3 refine vof ?_
    refine vo ?_
    refine vnt ?_
    refine vc_then ?_
    refine vc_sr ?_
    refine vo ?_
    refine voc c_impl_copyMemory rfl rfl ?_
    iterate 4 refine vo ?_
    refine vnt ?_
    refine vc_ret ?_
    refine thn_r ?_
    have hh : rputF l ps d b s h t e = _ := rpu_n (.inl g1)
    refine fin_i [(0, some 192)] rfl (fz ?_) (fz ?_)
    · rw [hh]; first | exact ⟨rfl, rfl⟩ | simp [rnext]
    · first | (rw [hh]; done) | (rw [hh, dw_no g3]; done)
  · have hr0 := freeF_ok g1
    have hr := ringOk_facts hr0
    have hsl := rslot_bd hr0 t
    have hsz := sizeB_cases hr.1
    iterate 3 refine von ?_
    refine vo ?_
    refine vnt ?_
    refine vc_if (fun g2 => ?_) (fun g2 => ?_)
    · refine vc_sr ?_
      refine vo ?_
      refine voc c_impl_copyMemory rfl rfl ?_
      iterate 4 refine vo ?_
      refine vnt ?_
      refine vc_ret ?_
      refine thn_r ?_
      have hh : rputF l ps d b s h t e = _ := rpu_n (.inr (.inl (by omega)))
      refine fin_i [(0, some 192)] rfl (fz ?_) (fz ?_)
      · rw [hh]; first | exact ⟨rfl, rfl⟩ | simp [rnext]
      · first | (rw [hh]; done) | (rw [hh, dw_no g3]; done)
    · refine vc_skip ?_
      refine thn ?_
      refine vc_sr ?_
      iterate 6 refine vo ?_
      refine voc c_impl_SlotAddress rfl rfl ?_
      refine vo ?_
      refine voc c_impl_DmaWrite rfl rfl ?_
      iterate 6 refine vo ?_
      refine vnt ?_
      refine vc_seq' ?_
      refine vc_sr ?_
      iterate 2 refine vo ?_
      refine vnt ?_
      refine vc_if (fun g3 => ?_) (fun g3 => ?_)
      · refine vc_sr ?_
        iterate 5 refine vo ?_
        refine vnt ?_
        refine vc_ret ?_
        refine thn_r ?_
        have hh : rputF l ps d b s h t e = _ := rpu_n (.inr (.inr g3))
        refine fin_i [(0, some 280)] rfl (fz ?_) (fz ?_)
        · rw [hh]; first | exact ⟨rfl, rfl⟩ | simp [rnext]
        · first | (rw [hh]; done) | (rw [hh, dw_no g3]; done)
      · refine vc_skip ?_
        refine thn ?_
        refine vc_sr ?_
        iterate 3 refine vo ?_
        try refine vwr ?_
        iterate 3 refine vo ?_
        try refine vwr ?_
        refine vo ?_
        try refine veq (Int.tmod_eq_emod_of_nonneg (by omega)) ?_
        iterate 2 refine vo ?_
        refine vnt ?_
        refine vc_sr ?_
        iterate 5 refine vo ?_
        refine vnt ?_
        refine vc_ret ?_
        have hh : rputF l ps d b s h t e = _ := rpu_y g1 (by omega) g3
        refine fin_i [(0, some 280)] rfl (fz ?_) (fz ?_)
        · rw [hh]; first | exact ⟨rfl, rfl⟩ | simp [rnext]
        · first | (rw [hh]; done) | (rw [hh, dw_no g3]; done)
set_option maxHeartbeats 4000000 in
theorem c_spec_RingFree {b s h t : Int} : Con0 Tryz.prog 65 [.agg [V b, V s, V h, V t]] (I (freeF b s h t)) [] := by
  refine con_i Tryz.func65 Tryz.ntmps65 (t := [(0, .agg [V b, V s, V h, V t])]) rfl ?_
  refine vc_sr ?_
  iterate 2 refine vo ?_
  refine vnt ?_
  refine vc_seq' ?_
  refine vc_sr ?_
  refine vo ?_
  refine voc c_spec_RingOk rfl rfl ?_
  refine vo ?_
  refine vnt ?_
  refine vc_if (fun g1 => ?_) (fun g1 => ?_)
  · refine vc_sr ?_
    refine vo ?_
    refine vnt ?_
    refine vc_ret ?_
    refine thn_r ?_
    refine fin_i [] rfl (fz ?_) trivial
    rw [freeF, g1]
    simp
  · have hr := ringOk_facts g1
    have hs0 := hr.1
    have hub : 0 ≤ usedF s h t ∧ usedF s h t ≤ 16 := by unfold usedF; have hsz := sizeB_cases hs0; omega
    refine vc_skip ?_
    refine thn ?_
    refine vc_sr ?_
    iterate 3 refine vo ?_
    refine voc c_spec_RingUsed rfl rfl ?_
    refine vo ?_
    try refine vwr ?_
    refine vo ?_
    refine vnt ?_
    refine vc_ret ?_
    refine fin_i [] rfl (fz ?_) trivial
    rw [freeF, g1]
    simp [usedF]
set_option maxHeartbeats 4000000 in
theorem c_spec_RingPut {l : List Mp} {ps : Pg} {d b s h t : Int} {e : ByteArray} (hl : l.length ≤ 1099511627776 := by first | with_reducible assumption | omega) (hp : ps.length ≤ 1099511627776 := by first | with_reducible assumption | omega) (hs_e : e.size ≤ 1099511627776 := by first | with_reducible assumption | omega | (simp only [ByteArray.size_append, ByteArray.size_extract, strOfNums_size, List.length_cons, List.length_nil]; omega)) : Con0 Tryz.prog 162 [.one (.sl 4 (l.map mpE)), .agg [.sl 1 (ps.map strE)], I d, .agg [V b, V s, V h, V t], Z e] (.tup [.agg [.hs 0], .agg [V b, V s, V h, V (rputF l ps d b s h t e).2.1], B (rputF l ps d b s h t e).2.2]) [(0, .arr 9 1 ((rputF l ps d b s h t e).1.map strE))] := by
  refine con_i Tryz.func162 Tryz.ntmps162 (t := [(0, .one (.sl 4 (l.map mpE))), (1, .agg [.sl 1 (ps.map strE)]), (2, I d), (3, .agg [V b, V s, V h, V t]), (4, Z e)]) rfl ?_
  refine vc_sr ?_
  iterate 5 refine vo ?_
  refine vnt ?_
  refine vc_seq' ?_
  refine vc_sr ?_
  refine vo ?_
  refine voc c_spec_RingFree rfl rfl ?_
  iterate 2 refine vo ?_
  refine vsp (fun g1 => ?_) (fun g1 => ?_)
  · iterate 3 refine vof ?_
    refine vo ?_
    refine vnt ?_
    refine vc_then ?_
    refine vc_sr ?_
    refine vo ?_
    refine voc c_spec_l16Copy rfl rfl ?_
    iterate 4 refine vo ?_
    refine vnt ?_
    refine vc_ret ?_
    refine thn_r ?_
    have hh : rputF l ps d b s h t e = _ := rpu_n (.inl g1)
    refine fin_i [(0, some 192)] rfl (fz ?_) (fz ?_)
    · rw [hh]; first | exact ⟨rfl, rfl⟩ | simp [rnext]
    · first | (rw [hh]; done) | (rw [hh, dw_no g3]; done)
  · have hr0 := freeF_ok g1
    have hr := ringOk_facts hr0
    have hsl := rslot_bd hr0 t
    have hsz := sizeB_cases hr.1
    iterate 3 refine von ?_
    refine vo ?_
    refine vnt ?_
    refine vc_if (fun g2 => ?_) (fun g2 => ?_)
    · refine vc_sr ?_
      refine vo ?_
      refine voc c_spec_l16Copy rfl rfl ?_
      iterate 4 refine vo ?_
      refine vnt ?_
      refine vc_ret ?_
      refine thn_r ?_
      have hh : rputF l ps d b s h t e = _ := rpu_n (.inr (.inl (by omega)))
      refine fin_i [(0, some 192)] rfl (fz ?_) (fz ?_)
      · rw [hh]; first | exact ⟨rfl, rfl⟩ | simp [rnext]
      · first | (rw [hh]; done) | (rw [hh, dw_no g3]; done)
    · refine vc_skip ?_
      refine thn ?_
      refine vc_sr ?_
      iterate 6 refine vo ?_
      refine voc c_spec_SlotAddress rfl rfl ?_
      refine vo ?_
      refine voc c_spec_DmaWrite rfl rfl ?_
      iterate 6 refine vo ?_
      refine vnt ?_
      refine vc_seq' ?_
      refine vc_sr ?_
      iterate 2 refine vo ?_
      refine vnt ?_
      refine vc_if (fun g3 => ?_) (fun g3 => ?_)
      · refine vc_sr ?_
        refine vo ?_
        refine voc c_spec_l16Copy rfl rfl ?_
        iterate 4 refine vo ?_
        refine vnt ?_
        refine vc_ret ?_
        refine thn_r ?_
        have hh : rputF l ps d b s h t e = _ := rpu_n (.inr (.inr g3))
        refine fin_i [(0, some 328)] rfl (fz ?_) (fz ?_)
        · rw [hh]; first | exact ⟨rfl, rfl⟩ | simp [rnext]
        · first | (rw [hh]; done) | (rw [hh, dw_no g3]; done)
      · refine vc_skip ?_
        refine thn ?_
        refine vc_sr ?_
        iterate 3 refine vo ?_
        try refine vwr ?_
        iterate 3 refine vo ?_
        try refine vwr ?_
        refine vo ?_
        try refine veq (Int.tmod_eq_emod_of_nonneg (by omega)) ?_
        iterate 2 refine vo ?_
        refine vnt ?_
        refine vc_sr ?_
        iterate 5 refine vo ?_
        refine vnt ?_
        refine vc_ret ?_
        have hh : rputF l ps d b s h t e = _ := rpu_y g1 (by omega) g3
        refine fin_i [(0, some 280)] rfl (fz ?_) (fz ?_)
        · rw [hh]; first | exact ⟨rfl, rfl⟩ | simp [rnext]
        · first | (rw [hh]; done) | (rw [hh, dw_no g3]; done)
end Go.Proofs.YtbdcaacpemkloaaGreat
end
section
namespace Go.Proofs.YtbdcaacpemkloaaGreat
open Go Go.RowKit Go.Vc
set_option linter.unusedVariables false
set_option linter.unusedSimpArgs false
set_option linter.unnecessarySimpa false
set_option maxHeartbeats 4000000 in
theorem c_impl_copySent {ws : List Sn} (hl_ws : ws.length ≤ 100000000 := by first | with_reducible assumption | omega) (hz_ws : (bufsF ws).length ≤ 100000000 := by first | with_reducible assumption | omega) : Con0 Tryz.prog 112 [.one (.rd (snQ (ws.map snE)))] (.one (.hs 0)) [(0, .own (sntOw 140 3 (ws.map snE)))] := by
  refine con_i Tryz.func112 Tryz.ntmps112 (t := [(0, .one (.rd (snQ (ws.map snE))))]) rfl ?_
  refine vc_sr ?_
  refine vo ?_
  refine vnt ?_
  refine vc_sr ?_
  iterate 2 refine vo ?_
  refine vnt ?_
  refine vc_seq' ?_
  refine vc_sr ?_
  refine vo ?_
  first | (refine vql ?_; refine vlnS ?_) | refine vo ?_
  try first | refine vlb ?_ | refine vln ?_
  refine vo ?_
  refine vnt ?_
  refine vc_block ?_
  refine vc_lp (σ := Nat) [7, 8] [] (fun i => [(3, .one (.hs 7)), (9, I (i : Nat))]) (fun i => [(7, .own (sntOw 140 3 ((ws.take i).map snE)))]) (fun i => i ≤ ws.length) (fun i => ws.length - i) 0 rfl rfl (sub_i [(7, some 48)] (fz ?_) (fz ?_)) ?_ fun i hI => ?_
  · first | trivial | rfl
  · first | trivial | rfl | exact fun v w F h => snt_arr h | exact ⟨rfl, rfl⟩ | trace_state
  · exact Nat.zero_le _
  refine vc_nf rfl rfl ?_
  refine vc_sr ?_
  refine vo ?_
  refine vnt ?_
  refine vc_seq' ?_
  refine vc_if (fun g1 => ?_) (fun g1 => ?_)
  · have hzi := buf_le g1
    refine vc_skip ?_
    refine thn ?_
    refine vc_seq' ?_
    refine vc_block ?_
    refine vc_sr ?_
    refine vqx ?_
    refine vepS ?_
    try with_reducible (first | refine vep ?_ | refine vpt ?_)
    refine vqd ?_
    iterate 2 refine vo ?_
    refine vnt ?_
    refine vc_region ?_
    iterate 7 refine vo ?_
    refine voc c_impl_copyInts rfl rfl ?_
    refine vo ?_
    refine vqb ?_
    refine vqa ?_
    refine vo ?_
    refine vnil ?_
    refine inB_n ?_
    refine thn ?_
    refine vc_region ?_
    refine vo ?_
    try refine vwr ?_
    refine vo ?_
    refine vnt ?_
    refine ⟨i + 1, by omega, by omega, sub_i [(7, some 184)] (fz ?_) (fz ?_)⟩
    · first | trivial | rfl | simp
    · exact (snt_stp g1).symm
  · refine vc_exit ?_
    refine thn_x ?_
    refine thn_x ?_
    refine inB_x ?_
    refine thn ?_
    refine vc_sr ?_
    iterate 2 refine vo ?_
    refine vnt ?_
    refine vc_ret ?_
    refine fin_i [(0, some 7)] rfl (fz ?_) (fz ?_)
    · first | trivial | rfl
    · exact (snt_end g1).symm
set_option maxHeartbeats 4000000 in
theorem c_impl_copyTx {b s h t pb pz pc nx : Int} {fr : List Int} (hl_fr : fr.length ≤ 100000000 := by first | with_reducible assumption | omega) {ws : List Sn} (hl_ws : ws.length ≤ 100000000 := by first | with_reducible assumption | omega) (hz_ws : (bufsF ws).length ≤ 100000000 := by first | with_reducible assumption | omega) : Con0 Tryz.prog 73 [.agg [V b, V s, V h, V t, V pb, V pz, V pc, .sl 1 (fr.map intE), .rd (snQ (ws.map snE)), V nx]] (.agg [V b, V s, V h, V t, V pb, V pz, V pc, .hs 0, .hs 1, V nx]) [(0, .arr 3 1 (fr.map intE)), (1, .own (sntOw 140 3 (ws.map snE)))] := by
  refine con_i Tryz.func73 Tryz.ntmps73 (t := [(0, .agg [V b, V s, V h, V t, V pb, V pz, V pc, .sl 1 (fr.map intE), .rd (snQ (ws.map snE)), V nx])]) rfl ?_
  refine vc_sr ?_
  iterate 2 refine vo ?_
  refine vnt ?_
  refine vc_sr ?_
  iterate 4 refine vo ?_
  refine voc c_impl_copyPool rfl rfl ?_
  iterate 2 refine vo ?_
  refine voc c_impl_copySent rfl rfl ?_
  iterate 4 refine vo ?_
  refine vnt ?_
  refine vc_ret ?_
  refine fin_i [(0, some 56), (1, some 80)] rfl (fz ?_) (fz ?_) <;> first | trivial | rfl | exact ⟨rfl, rfl⟩
set_option maxHeartbeats 4000000 in
theorem c_spec_l22Copy {b s h t pb pz pc nx : Int} {fr : List Int} (hl_fr : fr.length ≤ 100000000 := by first | with_reducible assumption | omega) {ws : List Sn} (hl_ws : ws.length ≤ 100000000 := by first | with_reducible assumption | omega) (hz_ws : (bufsF ws).length ≤ 100000000 := by first | with_reducible assumption | omega) : Con0 Tryz.prog 63 [.agg [V b, V s, V h, V t, V pb, V pz, V pc, .sl 1 (fr.map intE), .rd (snQ (ws.map snE)), V nx]] (.agg [V b, V s, V h, V t, V pb, V pz, V pc, .hs 0, .hs 1, V nx]) [(0, .arr 3 1 (fr.map intE)), (1, .own (sntOw 140 3 (ws.map snE)))] := by
  refine con_i Tryz.func63 Tryz.ntmps63 (t := [(0, .agg [V b, V s, V h, V t, V pb, V pz, V pc, .sl 1 (fr.map intE), .rd (snQ (ws.map snE)), V nx])]) rfl ?_
  refine vc_sr ?_
  iterate 2 refine vo ?_
  refine vnt ?_
  refine vc_sr ?_
  iterate 4 refine vo ?_
  refine voc c_spec_l21Copy rfl rfl ?_
  iterate 5 refine vo ?_
  refine vnt ?_
  refine vc_seq' ?_
  refine vc_sr ?_
  refine vo ?_
  refine vnt ?_
  refine vc_block ?_
  refine vc_lp (σ := Nat) [1, 2, 3] [8, 16] (fun i => [(4, I (i : Nat))]) (fun i => [(7, .arr 3 1 (fr.map intE)), (9, .own (sntOw 140 3 ((ws.take i).map snE))), (24, .row 35 [V b, V s, V h, V t, V pb, V pz, V pc, .hs 7, .hs 9, V nx])]) (fun i => i ≤ ws.length) (fun i => ws.length - i) 0 rfl rfl (sub_i [(24, some 24), (7, some 80), (9, none)] (fz ?_) (fz ?_)) ?_ fun i hI => ?_
  · first | trivial | rfl
  · first | trivial | rfl | exact ⟨by simp, fun w => snt_nil _ _ w⟩ | exact fun w => snt_nil _ _ w | trace_state
  · exact Nat.zero_le _
  refine vc_nf rfl rfl ?_
  refine vc_seq' ?_
  refine vc_sr ?_
  iterate 3 refine vo ?_
  first | (refine vql ?_; refine vlnS ?_) | refine vo ?_
  try first | refine vlb ?_ | refine vln ?_
  refine vo ?_
  refine vnt ?_
  refine vc_if (fun g1 => ?_) (fun g1 => ?_)
  · have hzi := buf_le g1
    refine vc_skip ?_
    refine thn ?_
    refine vc_seq' ?_
    refine vc_block ?_
    refine vc_sr ?_
    iterate 3 refine vo ?_
    refine vqx ?_
    refine vepS ?_
    try with_reducible (first | refine vep ?_ | refine vpt ?_)
    refine vqd ?_
    iterate 2 refine vo ?_
    refine vnt ?_
    refine vc_region ?_
    iterate 10 refine vo ?_
    rw [List.nil_append]
    refine vo ?_
    refine vqb ?_
    refine vqa ?_
    iterate 2 refine vo ?_
    refine vnil ?_
    refine inB_n ?_
    refine thn ?_
    refine vc_region ?_
    iterate 2 refine vo ?_
    try refine vwr ?_
    refine vo ?_
    refine vnt ?_
    refine ⟨i + 1, by omega, by omega, sub_i [(24, some 24), (7, some 7), (9, some 304)] (fz ?_) (fz ?_)⟩
    · first | trivial | rfl | simp
    · first | exact (snt_stp g1).symm | exact ⟨rfl, (snt_stp g1).symm⟩ | trace_state
  · refine vc_exit ?_
    refine thn_x ?_
    refine thn_x ?_
    refine inB_x ?_
    refine thn ?_
    refine vc_sr ?_
    iterate 2 refine vo ?_
    refine vnt ?_
    refine vc_ret ?_
    refine fin_i [(0, some 7), (1, some 9)] rfl (fz ?_) (fz ?_)
    · first | trivial | rfl
    · first | exact (snt_end g1).symm | exact ⟨rfl, (snt_end g1).symm⟩ | trace_state
set_option maxHeartbeats 4000000 in
theorem c_impl_TxOk {b s h t pb pz pc nx : Int} {fr : List Int} (hl_fr : fr.length ≤ 100000000 := by first | with_reducible assumption | omega) {ws : List Sn} (hl_ws : ws.length ≤ 100000000 := by first | with_reducible assumption | omega) (hz_ws : (bufsF ws).length ≤ 100000000 := by first | with_reducible assumption | omega) : Con0 Tryz.prog 17 [.agg [V b, V s, V h, V t, V pb, V pz, V pc, .sl 1 (fr.map intE), .rd (snQ (ws.map snE)), V nx]] (B (txOkB b s h t pb pz pc fr ws nx)) [] := by
  refine con_i Tryz.func17 Tryz.ntmps17 (t := [(0, .agg [V b, V s, V h, V t, V pb, V pz, V pc, .sl 1 (fr.map intE), .rd (snQ (ws.map snE)), V nx])]) rfl ?_
  refine vc_sr ?_
  iterate 2 refine vo ?_
  refine vnt ?_
  refine vc_seq' ?_
  refine vc_sr ?_
  iterate 2 refine vo ?_
  refine voc c_impl_RingOk rfl rfl ?_
  iterate 2 refine vo ?_
  refine vsp (fun g1 => ?_) (fun g1 => ?_)
  · iterate 4 refine vof ?_
    iterate 2 refine vo ?_
    iterate 4 refine vof ?_
    refine vo ?_
    refine vnt ?_
    refine vc_then ?_
    refine vc_sr ?_
    refine vo ?_
    refine vnt ?_
    refine vc_ret ?_
    refine thn_r ?_
    refine fin_i [] rfl (fz ?_) trivial
    have hh : txOkB b s h t pb pz pc fr ws nx = false := by unfold txOkB; rw [g1]; rfl
    rw [hh]
  · obtain ⟨hs_, b0, b1, s0, s1, h0, h1, t0, t1, u1, u0⟩ := ringOk_facts g1
    iterate 2 refine von ?_
    refine vocn c_impl_PoolOk rfl rfl ?_
    refine von ?_
    iterate 2 refine vo ?_
    refine vsp (fun g2 => ?_) (fun g2 => ?_)
    · iterate 4 refine vof ?_
      refine vo ?_
      refine vnt ?_
      refine vc_then ?_
      refine vc_sr ?_
      refine vo ?_
      refine vnt ?_
      refine vc_ret ?_
      refine thn_r ?_
      refine fin_i [] rfl (fz ?_) trivial
      have hh : txOkB b s h t pb pz pc fr ws nx = false := by unfold txOkB; rw [g2]; simp
      rw [hh]
    · iterate 2 refine von ?_
      refine vocn c_impl_between rfl rfl ?_
      refine von ?_
      refine vo ?_
      refine vnt ?_
      refine vc_if (fun g3 => ?_) (fun g3 => ?_)
      · refine vc_sr ?_
        refine vo ?_
        refine vnt ?_
        refine vc_ret ?_
        refine thn_r ?_
        refine fin_i [] rfl (fz ?_) trivial
        have hh : txOkB b s h t pb pz pc fr ws nx = false := by unfold txOkB; rw [g3]; simp
        rw [hh]
      · refine vc_skip ?_
        refine thn ?_
        refine vc_sr ?_
        iterate 4 refine vo ?_
        refine vnt ?_
        refine vc_sr ?_
        iterate 2 refine vo ?_
        refine vnt ?_
        refine vc_seq' ?_
        refine vc_sr ?_
        iterate 2 refine vo ?_
        first | (refine vql ?_; refine vlnS ?_) | refine vo ?_
        try first | refine vlb ?_ | refine vln ?_
        refine vo ?_
        refine vnt ?_
        refine vc_block ?_
        refine vc_lp (σ := Nat) [1, 30, 31] [8] (fun i => [(3, I (s - slotsF (ws.take i))), (4, .one (.hs 7)), (32, I (i : Nat))]) (fun i => [(7, .arr 3 1 ((bufsF (ws.take i)).map intE))]) (fun i => i ≤ ws.length ∧ (ws.take i).all snOk = true ∧ slotsF (ws.take i) ≤ s ∧ 0 ≤ slotsF (ws.take i)) (fun i => ws.length - i) 0 rfl rfl (sub_i [(7, some 224)] (fz ?_) (fz ?_)) ?_ fun i hI => ?_
        · first | trivial | rfl | (simp [slotsF]; done) | trace_state
        · first | trivial | rfl | exact ⟨rfl, rfl⟩ | trace_state
        · exact ⟨Nat.zero_le _, rfl, by show (0 : Int) ≤ s; omega, Int.le_refl _⟩
        refine vc_nf rfl rfl ?_
        have hbl := bufs_le ws i
        refine vc_sr ?_
        refine vo ?_
        refine vnt ?_
        refine vc_seq' ?_
        refine vc_if (fun g4 => ?_) (fun g4 => ?_)
        · have hzi := buf_le g4
          refine vc_skip ?_
          refine thn ?_
          refine vc_seq' ?_
          refine vc_block ?_
          refine vc_sr ?_
          refine vqx ?_
          refine vepS ?_
          try with_reducible (first | refine vep ?_ | refine vpt ?_)
          refine vqd ?_
          iterate 2 refine vo ?_
          refine vnt ?_
          refine vc_seq' ?_
          refine vc_sr ?_
          iterate 4 refine vo ?_
          refine vsp (fun g5 => ?_) (fun g5 => ?_)
          · iterate 4 refine vof ?_
            iterate 2 refine vo ?_
            iterate 4 refine vof ?_
            refine vo ?_
            refine vnt ?_
            refine vc_then ?_
            refine vc_sr ?_
            refine vo ?_
            refine vnt ?_
            refine vc_ret ?_
            refine thn_r ?_
            refine inB_r ?_
            refine thn_r ?_
            refine thn_r ?_
            refine inB_r ?_
            refine thn_r ?_
            refine fin_i [] rfl (fz ?_) trivial
            have hh : txOkB b s h t pb pz pc fr ws nx = false := by unfold txOkB; rw [tx_bad (s := s) g4 (.inl (by omega))]; simp
            rw [hh]
          · iterate 4 refine von ?_
            iterate 2 refine vo ?_
            refine vsp (fun g6 => ?_) (fun g6 => ?_)
            · iterate 4 refine vof ?_
              refine vo ?_
              refine vnt ?_
              refine vc_then ?_
              refine vc_sr ?_
              refine vo ?_
              refine vnt ?_
              refine vc_ret ?_
              refine thn_r ?_
              refine inB_r ?_
              refine thn_r ?_
              refine thn_r ?_
              refine inB_r ?_
              refine thn_r ?_
              refine fin_i [] rfl (fz ?_) trivial
              have hh : txOkB b s h t pb pz pc fr ws nx = false := by unfold txOkB; rw [tx_bad (s := s) g4 (.inr (.inr (by rw [slots_stp g4]; omega)))]; simp
              rw [hh]
            · iterate 2 refine von ?_
              refine vocn c_impl_between rfl rfl ?_
              refine von ?_
              refine vo ?_
              refine vnt ?_
              refine vc_if (fun g7 => ?_) (fun g7 => ?_)
              · refine vc_sr ?_
                refine vo ?_
                refine vnt ?_
                refine vc_ret ?_
                refine thn_r ?_
                refine inB_r ?_
                refine thn_r ?_
                refine thn_r ?_
                refine inB_r ?_
                refine thn_r ?_
                refine fin_i [] rfl (fz ?_) trivial
                have hh : txOkB b s h t pb pz pc fr ws nx = false := by unfold txOkB; rw [tx_bad (s := s) g4 (.inr (.inl g7))]; simp
                rw [hh]
              · refine vc_skip ?_
                refine thn ?_
                refine vc_sr ?_
                iterate 4 refine vo ?_
                try refine vwr ?_
                refine vo ?_
                refine vnt ?_
                refine vc_region ?_
                iterate 5 refine vo ?_
                refine vnil ?_
                refine inB_n ?_
                refine thn ?_
                refine vc_region ?_
                refine vo ?_
                try refine vwr ?_
                refine vo ?_
                refine vnt ?_
                have hst := slots_stp g4
                refine ⟨i + 1, ⟨by omega, all_take hI.2.1 g4 (by omega) g7, by omega, by omega⟩, by omega, sub_i [(7, some 464)] (fz ?_) (fz ?_)⟩
                · first | trivial | (rw [hst]; simp; omega) | (rw [hst]; omega) | trace_state
                · first | (rw [← bufs_stp g4, List.map_append]; done) | (rw [← bufs_stp g4, List.map_append]; rfl) | trace_state
        · have hbl2 := bufs_le ws i
          refine vc_exit ?_
          refine thn_x ?_
          refine thn_x ?_
          refine inB_x ?_
          refine thn ?_
          refine vc_sr ?_
          iterate 3 refine vo ?_
          refine voc c_impl_GiveBuffers rfl rfl ?_
          iterate 6 refine vo ?_
          refine vnt ?_
          refine vc_sr ?_
          iterate 2 refine vo ?_
          refine vnt ?_
          refine vc_ret ?_
          refine fin_i [] rfl (fz ?_) trivial
          have hh : txOkB b s h t pb pz pc fr ws nx = giveB pb pz pc fr (bufsF ws) := by unfold txOkB; rw [g1, g2, g3, tx_end hI.2.1 g4 hI.2.2.1]; simp
          rw [hh, bufs_end g4]
set_option maxHeartbeats 4000000 in
theorem c_spec_TxOk {b s h t pb pz pc nx : Int} {fr : List Int} (hl_fr : fr.length ≤ 100000000 := by first | with_reducible assumption | omega) {ws : List Sn} (hl_ws : ws.length ≤ 100000000 := by first | with_reducible assumption | omega) (hz_ws : (bufsF ws).length ≤ 100000000 := by first | with_reducible assumption | omega) : Con0 Tryz.prog 60 [.agg [V b, V s, V h, V t, V pb, V pz, V pc, .sl 1 (fr.map intE), .rd (snQ (ws.map snE)), V nx]] (B (txOkB b s h t pb pz pc fr ws nx)) [] := by
  refine con_i Tryz.func60 Tryz.ntmps60 (t := [(0, .agg [V b, V s, V h, V t, V pb, V pz, V pc, .sl 1 (fr.map intE), .rd (snQ (ws.map snE)), V nx])]) rfl ?_
  refine vc_sr ?_
  iterate 2 refine vo ?_
  refine vnt ?_
  refine vc_seq' ?_
  refine vc_sr ?_
  iterate 2 refine vo ?_
  refine voc c_spec_RingOk rfl rfl ?_
  iterate 2 refine vo ?_
  refine vsp (fun g1 => ?_) (fun g1 => ?_)
  · iterate 4 refine vof ?_
    iterate 2 refine vo ?_
    iterate 4 refine vof ?_
    refine vo ?_
    refine vnt ?_
    refine vc_then ?_
    refine vc_sr ?_
    refine vo ?_
    refine vnt ?_
    refine vc_ret ?_
    refine thn_r ?_
    refine fin_i [] rfl (fz ?_) trivial
    have hh : txOkB b s h t pb pz pc fr ws nx = false := by unfold txOkB; rw [g1]; rfl
    rw [hh]
  · obtain ⟨hs_, b0, b1, s0, s1, h0, h1, t0, t1, u1, u0⟩ := ringOk_facts g1
    have hsz := sizeB_cases hs_
    iterate 2 refine von ?_
    refine vocn c_spec_PoolOk rfl rfl ?_
    refine von ?_
    iterate 2 refine vo ?_
    refine vsp (fun g2 => ?_) (fun g2 => ?_)
    · iterate 4 refine vof ?_
      refine vo ?_
      refine vnt ?_
      refine vc_then ?_
      refine vc_sr ?_
      refine vo ?_
      refine vnt ?_
      refine vc_ret ?_
      refine thn_r ?_
      refine fin_i [] rfl (fz ?_) trivial
      have hh : txOkB b s h t pb pz pc fr ws nx = false := by unfold txOkB; rw [g2]; simp
      rw [hh]
    · iterate 2 refine von ?_
      refine vocn c_spec_l01In rfl rfl ?_
      refine von ?_
      refine vo ?_
      refine vnt ?_
      refine vc_if (fun g3 => ?_) (fun g3 => ?_)
      · refine vc_sr ?_
        refine vo ?_
        refine vnt ?_
        refine vc_ret ?_
        refine thn_r ?_
        refine fin_i [] rfl (fz ?_) trivial
        have hh : txOkB b s h t pb pz pc fr ws nx = false := by unfold txOkB; rw [g3]; simp
        rw [hh]
      · refine vc_skip ?_
        refine thn ?_
        refine vc_sr ?_
        refine vo ?_
        refine vnt ?_
        refine vc_sr ?_
        iterate 2 refine vo ?_
        refine vnt ?_
        refine vc_seq' ?_
        refine vc_sr ?_
        refine vo ?_
        refine vnt ?_
        refine vc_block ?_
        refine vc_lp (σ := Nat) [1] [8] (fun i => [(3, I (slotsF (ws.take i))), (4, .one (.hs 7)), (5, I (i : Nat))]) (fun i => [(7, .arr 3 1 ((bufsF (ws.take i)).map intE))]) (fun i => i ≤ ws.length ∧ (ws.take i).all snOk = true ∧ slotsF (ws.take i) ≤ 16 * i ∧ 0 ≤ slotsF (ws.take i)) (fun i => ws.length - i) 0 rfl rfl (sub_i [(7, some 200)] (fz ?_) (fz ?_)) ?_ fun i hI => ?_
        · first | trivial | rfl | (simp [slotsF]; done) | trace_state
        · first | trivial | rfl | exact ⟨rfl, rfl⟩ | trace_state
        · exact ⟨Nat.zero_le _, rfl, Int.le_refl _, Int.le_refl _⟩
        refine vc_nf rfl rfl ?_
        have hbl := bufs_le ws i
        refine vc_seq' ?_
        refine vc_sr ?_
        iterate 3 refine vo ?_
        first | (refine vql ?_; refine vlnS ?_) | refine vo ?_
        try first | refine vlb ?_ | refine vln ?_
        refine vo ?_
        refine vnt ?_
        refine vc_if (fun g4 => ?_) (fun g4 => ?_)
        · have hzi := buf_le g4
          refine vc_skip ?_
          refine thn ?_
          refine vc_seq' ?_
          refine vc_block ?_
          refine vc_sr ?_
          iterate 3 refine vo ?_
          refine vqx ?_
          refine vepS ?_
          try with_reducible (first | refine vep ?_ | refine vpt ?_)
          refine vqd ?_
          iterate 2 refine vo ?_
          refine vnt ?_
          refine vc_seq' ?_
          refine vc_sr ?_
          iterate 5 refine vo ?_
          refine voc c_spec_l01In rfl rfl ?_
          iterate 2 refine vo ?_
          refine vsp (fun g5 => ?_) (fun g5 => ?_)
          · iterate 4 refine vof ?_
            refine vo ?_
            refine vnt ?_
            refine vc_then ?_
            refine vc_sr ?_
            refine vo ?_
            refine vnt ?_
            refine vc_ret ?_
            refine thn_r ?_
            refine inB_r ?_
            refine thn_r ?_
            refine thn_r ?_
            refine inB_r ?_
            refine thn_r ?_
            refine fin_i [] rfl (fz ?_) trivial
            have hh : txOkB b s h t pb pz pc fr ws nx = false := by unfold txOkB; rw [tx_bad (s := s) g4 ((inB_no g5).elim .inl fun hx => .inr (.inr (by rw [slots_stp g4]; omega)))]; simp
            rw [hh]
          · iterate 2 refine von ?_
            refine vocn c_spec_l01In rfl rfl ?_
            refine von ?_
            refine vo ?_
            refine vnt ?_
            refine vc_if (fun g6 => ?_) (fun g6 => ?_)
            · refine vc_sr ?_
              refine vo ?_
              refine vnt ?_
              refine vc_ret ?_
              refine thn_r ?_
              refine inB_r ?_
              refine thn_r ?_
              refine thn_r ?_
              refine inB_r ?_
              refine thn_r ?_
              refine fin_i [] rfl (fz ?_) trivial
              have hh : txOkB b s h t pb pz pc fr ws nx = false := by unfold txOkB; rw [tx_bad (s := s) g4 (.inr (.inl g6))]; simp
              rw [hh]
            · have hgi := inB_iff.1 g5
              refine vc_skip ?_
              refine thn ?_
              refine vc_sr ?_
              iterate 4 refine vo ?_
              try refine vwr ?_
              refine vo ?_
              refine vnt ?_
              refine vc_region ?_
              iterate 5 refine vo ?_
              refine vnil ?_
              refine inB_n ?_
              refine thn ?_
              refine vc_region ?_
              iterate 2 refine vo ?_
              try refine vwr ?_
              refine vo ?_
              refine vnt ?_
              have hst := slots_stp g4
              have hgi := inB_iff.1 g5
              refine ⟨i + 1, ⟨by omega, all_take hI.2.1 g4 (by omega) g6, by omega, by omega⟩, by omega, sub_i [(7, some 464)] (fz ?_) (fz ?_)⟩
              · first | trivial | (rw [hst]; simp; done) | (rw [hst]; exact ⟨by simp, rfl⟩) | trace_state
              · first | (rw [← bufs_stp g4, List.map_append]; done) | (rw [← bufs_stp g4, List.map_append]; rfl) | trace_state
        · have hbl2 := bufs_le ws i
          refine vc_exit ?_
          refine thn_x ?_
          refine thn_x ?_
          refine inB_x ?_
          refine thn ?_
          refine vc_sr ?_
          iterate 3 refine vo ?_
          refine voc c_spec_GiveBuffers rfl rfl ?_
          iterate 6 refine vo ?_
          refine vnt ?_
          refine vc_sr ?_
          iterate 2 refine vo ?_
          refine vsp (fun g7 => ?_) (fun g7 => ?_)
          · iterate 5 refine von ?_
            iterate 2 refine vo ?_
            refine vnt ?_
            refine vc_ret ?_
            refine fin_i [] rfl (fz ?_) trivial
            have hh : txOkB b s h t pb pz pc fr ws nx = decide (slotsF (ws.take i) ≤ s) := by
              unfold txOkB
              rw [g1, g2, g3]
              by_cases hc : slotsF (ws.take i) ≤ s
              · rw [tx_end hI.2.1 g4 hc, decide_eq_true hc, ← bufs_end g4, g7]; rfl
              · rw [tx_endn g4 (by omega), decide_eq_false hc]; simp
            rw [hh]
          · iterate 5 refine vof ?_
            iterate 2 refine vo ?_
            refine vnt ?_
            refine vc_ret ?_
            refine fin_i [] rfl (fz ?_) trivial
            have hh : txOkB b s h t pb pz pc fr ws nx = false := by unfold txOkB; rw [← bufs_end g4, g7]; simp
            rw [hh]
set_option maxHeartbeats 4000000 in
theorem c_impl_slotsWaiting {b s h t pb pz pc nx : Int} {fr : List Int} {ws : List Sn} (hl_ws : ws.length ≤ 100000000 := by first | with_reducible assumption | omega) (h1 : ws.all snOk = true) (h2 : slotsF ws ≤ 100) : Con0 Tryz.prog 78 [.agg [V b, V s, V h, V t, V pb, V pz, V pc, .sl 1 (fr.map intE), .rd (snQ (ws.map snE)), V nx]] (I (slotsF ws)) [] := by
  refine con_i Tryz.func78 Tryz.ntmps78 (t := [(0, .agg [V b, V s, V h, V t, V pb, V pz, V pc, .sl 1 (fr.map intE), .rd (snQ (ws.map snE)), V nx])]) rfl ?_
  refine vc_sr ?_
  iterate 2 refine vo ?_
  refine vnt ?_
  refine vc_sr ?_
  refine vo ?_
  refine vnt ?_
  refine vc_seq' ?_
  refine vc_sr ?_
  iterate 2 refine vo ?_
  first | (refine vql ?_; refine vlnS ?_) | refine vo ?_
  try first | refine vlb ?_ | refine vln ?_
  refine vo ?_
  refine vnt ?_
  refine vc_block ?_
  refine vc_lp (σ := Nat) [7, 8] [] (fun i => [(3, I (slotsF (ws.take i))), (9, I (i : Nat))]) (fun i => []) (fun i => i ≤ ws.length) (fun i => ws.length - i) 0 rfl rfl (sub_i [] (fz ?_) (fz ?_)) ?_ fun i hI => ?_
  · first | trivial | rfl | (simp [slotsF]; done) | trace_state
  · first | trivial | rfl | trace_state
  · exact Nat.zero_le _
  refine vc_nf rfl rfl ?_
  refine vc_sr ?_
  refine vo ?_
  refine vnt ?_
  refine vc_seq' ?_
  refine vc_if (fun g1 => ?_) (fun g1 => ?_)
  · have hst := slots_stp g1
    have ha := slots_le h1 (i + 1)
    have hb := slots_nn (all_tk h1 i)
    have hc := slots_nn (all_tk h1 (i + 1))
    refine vc_skip ?_
    refine thn ?_
    refine vc_seq' ?_
    refine vc_block ?_
    refine vc_sr ?_
    refine vqx ?_
    refine vepS ?_
    try with_reducible (first | refine vep ?_ | refine vpt ?_)
    refine vqd ?_
    iterate 2 refine vo ?_
    refine vnt ?_
    refine vc_region ?_
    iterate 4 refine vo ?_
    try refine vwr ?_
    refine vo ?_
    refine vnil ?_
    refine inB_n ?_
    refine thn ?_
    refine vc_region ?_
    refine vo ?_
    try refine vwr ?_
    refine vo ?_
    refine vnt ?_
    refine ⟨i + 1, by omega, by omega, sub_i [] (fz ?_) (fz ?_)⟩
    · first | trivial | (rw [hst]; simp; done) | (rw [hst]; exact ⟨by simp, rfl⟩) | (rw [hst]; exact ⟨rfl, by simp⟩) | trace_state
    · first | trivial | rfl
  · refine vc_exit ?_
    refine thn_x ?_
    refine thn_x ?_
    refine inB_x ?_
    refine thn ?_
    refine vc_sr ?_
    iterate 2 refine vo ?_
    refine vnt ?_
    refine vc_ret ?_
    refine fin_i [] rfl (fz ?_) trivial
    rw [slots_end g1]
set_option maxHeartbeats 4000000 in
theorem c_spec_l22Slots {b s h t pb pz pc nx : Int} {fr : List Int} {ws : List Sn} (hl_ws : ws.length ≤ 100000000 := by first | with_reducible assumption | omega) (h1 : ws.all snOk = true) (h2 : slotsF ws ≤ 100) : Con0 Tryz.prog 66 [.agg [V b, V s, V h, V t, V pb, V pz, V pc, .sl 1 (fr.map intE), .rd (snQ (ws.map snE)), V nx]] (I (slotsF ws)) [] := by
  refine con_i Tryz.func66 Tryz.ntmps66 (t := [(0, .agg [V b, V s, V h, V t, V pb, V pz, V pc, .sl 1 (fr.map intE), .rd (snQ (ws.map snE)), V nx])]) rfl ?_
  refine vc_sr ?_
  iterate 2 refine vo ?_
  refine vnt ?_
  refine vc_sr ?_
  refine vo ?_
  refine vnt ?_
  refine vc_seq' ?_
  refine vc_sr ?_
  refine vo ?_
  refine vnt ?_
  refine vc_block ?_
  refine vc_lp (σ := Nat) [1] [8] (fun i => [(3, I (slotsF (ws.take i))), (4, I (i : Nat))]) (fun i => []) (fun i => i ≤ ws.length) (fun i => ws.length - i) 0 rfl rfl (sub_i [] (fz ?_) (fz ?_)) ?_ fun i hI => ?_
  · first | trivial | rfl | (simp [slotsF]; done) | trace_state
  · first | trivial | rfl | trace_state
  · exact Nat.zero_le _
  refine vc_nf rfl rfl ?_
  refine vc_seq' ?_
  refine vc_sr ?_
  iterate 3 refine vo ?_
  first | (refine vql ?_; refine vlnS ?_) | refine vo ?_
  try first | refine vlb ?_ | refine vln ?_
  refine vo ?_
  refine vnt ?_
  refine vc_if (fun g1 => ?_) (fun g1 => ?_)
  · have hst := slots_stp g1
    have ha := slots_le h1 (i + 1)
    have hb := slots_nn (all_tk h1 i)
    have hc := slots_nn (all_tk h1 (i + 1))
    refine vc_skip ?_
    refine thn ?_
    refine vc_seq' ?_
    refine vc_block ?_
    refine vc_region ?_
    iterate 4 refine vo ?_
    refine vqx ?_
    refine vepS ?_
    try with_reducible (first | refine vep ?_ | refine vpt ?_)
    refine vqf ?_
    refine vqd ?_
    refine vo ?_
    try refine vwr ?_
    refine vo ?_
    refine vnil ?_
    refine inB_n ?_
    refine thn ?_
    refine vc_region ?_
    iterate 2 refine vo ?_
    try refine vwr ?_
    refine vo ?_
    refine vnt ?_
    refine ⟨i + 1, by omega, by omega, sub_i [] (fz ?_) (fz ?_)⟩
    · first | trivial | (rw [hst]; simp; done) | (rw [hst]; exact ⟨by simp, rfl⟩) | (rw [hst]; exact ⟨rfl, by simp⟩) | trace_state
    · first | trivial | rfl
  · refine vc_exit ?_
    refine thn_x ?_
    refine thn_x ?_
    refine inB_x ?_
    refine thn ?_
    refine vc_sr ?_
    iterate 2 refine vo ?_
    refine vnt ?_
    refine vc_ret ?_
    refine fin_i [] rfl (fz ?_) trivial
    rw [slots_end g1]
set_option maxHeartbeats 4000000 in
theorem c_impl_TakeBuffers {pb pz pc n : Int} {fr : List Int} (hl_fr : fr.length ≤ 100000000 := by first | with_reducible assumption | omega) : Con0 Tryz.prog 79 [.agg [V pb, V pz, V pc, .sl 1 (fr.map intE)], I n] (.tup [.agg [V pb, V pz, V pc, .hs 0], .one (.hs 1), B (takeB pb pz pc fr n)]) [(0, .arr 3 1 ((takeR pb pz pc fr n).map intE)), (1, .arr 3 1 ((takeL pb pz pc fr n).map intE))] := by
  refine con_i Tryz.func79 Tryz.ntmps79 (t := [(0, .agg [V pb, V pz, V pc, .sl 1 (fr.map intE)]), (1, I n)]) rfl ?_
  refine vc_sr ?_
  iterate 4 refine vo ?_
  refine vnt ?_
  refine vc_sr ?_
  refine vo ?_
  refine voc c_impl_copyPool rfl rfl ?_
  iterate 2 refine vo ?_
  refine vnt ?_
  refine vc_seq' ?_
  refine vc_sr ?_
  refine vo ?_
  refine voc c_impl_PoolOk rfl rfl ?_
  iterate 2 refine vo ?_
  refine vsp (fun g1 => ?_) (fun g1 => ?_)
  · iterate 6 refine vof ?_
    refine vo ?_
    refine vnt ?_
    refine vc_then ?_
    refine vc_sr ?_
    iterate 4 refine vo ?_
    refine vnt ?_
    refine vc_ret ?_
    refine thn_r ?_
    have hh := take_n (pz := pz) (n := n) (.inl g1)
    refine fin_i [(0, some 72), (1, none)] rfl (fz ?_) (fz ?_)
    · rw [hh.2.2]; first | trivial | rfl | exact ⟨rfl, rfl⟩ | trace_state
    · rw [hh.1, hh.2.1]; first | trivial | rfl | exact ⟨rfl, rfl⟩ | trace_state
  · iterate 4 refine von ?_
    try first | refine vlb ?_ | refine vln ?_
    refine vocn c_impl_between rfl rfl ?_
    refine von ?_
    refine vo ?_
    refine vnt ?_
    refine vc_if (fun g2 => ?_) (fun g2 => ?_)
    · refine vc_sr ?_
      iterate 4 refine vo ?_
      refine vnt ?_
      refine vc_ret ?_
      refine thn_r ?_
      have hh := take_n (pb := pb) (pz := pz) (pc := pc) (.inr g2)
      refine fin_i [(0, some 72), (1, none)] rfl (fz ?_) (fz ?_)
      · rw [hh.2.2]; first | trivial | rfl | exact ⟨rfl, rfl⟩ | trace_state
      · rw [hh.1, hh.2.1]; first | trivial | rfl | exact ⟨rfl, rfl⟩ | trace_state
    · have hn := inB_iff.1 g2
      have hd1 : (fr.drop n.toNat).length ≤ 100000000 := by rw [List.length_drop]; omega
      have hd2 : (fr.take n.toNat).length ≤ 100000000 := by rw [List.length_take]; omega
      refine vc_skip ?_
      refine thn ?_
      refine vc_sr ?_
      iterate 4 refine vo ?_
      try first | refine vdr ?_ | refine vtk ?_
      refine voc c_impl_copyInts rfl rfl ?_
      iterate 2 refine vo ?_
      refine vnt ?_
      refine vc_sr ?_
      iterate 5 refine vo ?_
      try first | refine vdr ?_ | refine vtk ?_
      refine voc c_impl_copyInts rfl rfl ?_
      iterate 3 refine vo ?_
      refine vnt ?_
      refine vc_ret ?_
      have hh := take_y g1 g2
      refine fin_i [(0, some 208), (1, some 264)] rfl (fz ?_) (fz ?_)
      · rw [hh.2.2]; first | trivial | rfl | exact ⟨rfl, rfl⟩ | trace_state
      · rw [hh.1, hh.2.1]; first | trivial | rfl | exact ⟨rfl, rfl⟩ | trace_state
set_option maxHeartbeats 4000000 in
theorem c_spec_TakeBuffers {pb pz pc n : Int} {fr : List Int} (hl_fr : fr.length ≤ 100000000 := by first | with_reducible assumption | omega) : Con0 Tryz.prog 64 [.agg [V pb, V pz, V pc, .sl 1 (fr.map intE)], I n] (.tup [.agg [V pb, V pz, V pc, .hs 0], .one (.hs 1), B (takeB pb pz pc fr n)]) [(0, .arr 3 1 ((takeR pb pz pc fr n).map intE)), (1, .arr 3 1 ((takeL pb pz pc fr n).map intE))] := by
  refine con_i Tryz.func64 Tryz.ntmps64 (t := [(0, .agg [V pb, V pz, V pc, .sl 1 (fr.map intE)]), (1, I n)]) rfl ?_
  refine vc_sr ?_
  iterate 4 refine vo ?_
  refine vnt ?_
  refine vc_sr ?_
  refine vo ?_
  refine voc c_spec_l21Copy rfl rfl ?_
  iterate 2 refine vo ?_
  refine vnt ?_
  refine vc_seq' ?_
  refine vc_sr ?_
  refine vo ?_
  refine voc c_spec_PoolOk rfl rfl ?_
  iterate 2 refine vo ?_
  refine vsp (fun g1 => ?_) (fun g1 => ?_)
  · iterate 6 refine vof ?_
    refine vo ?_
    refine vnt ?_
    refine vc_then ?_
    refine vc_sr ?_
    iterate 5 refine vo ?_
    refine vnt ?_
    refine vc_ret ?_
    refine thn_r ?_
    have hh := take_n (pz := pz) (n := n) (.inl g1)
    refine fin_i [(0, some 80), (1, some 184)] rfl (fz ?_) (fz ?_)
    · rw [hh.2.2]; first | trivial | rfl | exact ⟨rfl, rfl⟩ | trace_state
    · rw [hh.1, hh.2.1]; first | trivial | rfl | exact ⟨rfl, rfl⟩ | trace_state
  · iterate 4 refine von ?_
    try first | refine vlb ?_ | refine vln ?_
    refine vocn c_spec_l01In rfl rfl ?_
    refine von ?_
    refine vo ?_
    refine vnt ?_
    refine vc_if (fun g2 => ?_) (fun g2 => ?_)
    · refine vc_sr ?_
      iterate 5 refine vo ?_
      refine vnt ?_
      refine vc_ret ?_
      refine thn_r ?_
      have hh := take_n (pb := pb) (pz := pz) (pc := pc) (.inr g2)
      refine fin_i [(0, some 80), (1, some 184)] rfl (fz ?_) (fz ?_)
      · rw [hh.2.2]; first | trivial | rfl | exact ⟨rfl, rfl⟩ | trace_state
      · rw [hh.1, hh.2.1]; first | trivial | rfl | exact ⟨rfl, rfl⟩ | trace_state
    · have hn := inB_iff.1 g2
      have hd1 : (fr.drop n.toNat).length ≤ 100000000 := by rw [List.length_drop]; omega
      have hd2 : (fr.take n.toNat).length ≤ 100000000 := by rw [List.length_take]; omega
      refine vc_skip ?_
      refine thn ?_
      refine vc_sr ?_
      iterate 5 refine vo ?_
      try first | refine vdr ?_ | refine vtk ?_
      refine vo ?_
      rw [List.nil_append]
      refine vo ?_
      refine vnt ?_
      refine vc_sr ?_
      iterate 5 refine vo ?_
      try first | refine vdr ?_ | refine vtk ?_
      refine vo ?_
      rw [List.nil_append]
      iterate 2 refine vo ?_
      refine vnt ?_
      refine vc_sr ?_
      iterate 5 refine vo ?_
      refine vnt ?_
      refine vc_ret ?_
      have hh := take_y g1 g2
      refine fin_i [(0, some 280), (1, some 232)] rfl (fz ?_) (fz ?_)
      · rw [hh.2.2]; first | trivial | rfl | exact ⟨rfl, rfl⟩ | trace_state
      · rw [hh.1, hh.2.1]; first | trivial | rfl | exact ⟨rfl, rfl⟩ | trace_state
end Go.Proofs.YtbdcaacpemkloaaGreat
end
section
namespace Go.Proofs.YtbdcaacpemkloaaGreat
open Go Go.RowKit Go.Vc
set_option linter.unusedVariables false
set_option linter.unusedSimpArgs false
set_option linter.unnecessarySimpa false
theorem dmaWF_open (l : List Mp) (ps : Pg) (d a : Int) (s : ByteArray) : dmaWF (mpOpen l) ps d a s true = dmaWF l ps d a s false := by
  unfold dmaWF
  rw [dmaW_open]
theorem op_stp {l : List Mp} {i : Nat} (h : i < l.length) : (mpOpen (l.take i)).map mpE ++ [[.int .i64 (at' l i).1, .int .i64 (at' l i).2.1, .int .i64 (at' l i).2.2.1, .bool true]] = (mpOpen (l.take (i + 1))).map mpE := by
  rw [List.take_succ_eq_append_getElem h, ← atp_eq h]
  unfold mpOpen
  rw [List.map_append, List.map_append]; rfl
theorem op_end {l : List Mp} {ps : Pg} {d a : Int} {s : ByteArray} {i : Nat} (h : ¬ i < l.length) : dmaWF (mpOpen (l.take i)) ps d a s true = dmaWF l ps d a s false := by
  rw [List.take_of_length_le (by omega), dmaWF_open]
theorem dw_ln (l : List Mp) (ps : Pg) (d a : Int) (s : ByteArray) (wt : Bool) : (dmaWF l ps d a s wt).1.length = ps.length := dmaWF_ln (qs := (dmaWF l ps d a s wt).1) (ok := (dmaWF l ps d a s wt).2) rfl
theorem rp_ln (l : List Mp) (ps : Pg) (d b s h t : Int) (e : ByteArray) : (rputF l ps d b s h t e).1.length = ps.length := rputF_len (qs := (rputF l ps d b s h t e).1) (t2 := (rputF l ps d b s h t e).2.1) (ok := (rputF l ps d b s h t e).2.2) rfl
set_option maxHeartbeats 4000000 in
theorem c_impl_HostWrite {l : List Mp} {ps : Pg} {d a : Int} {s : ByteArray} (hl : l.length ≤ 1099511627776 := by first | with_reducible assumption | omega) (hp : ps.length ≤ 1099511627776 := by first | with_reducible assumption | omega) (hs_s : s.size ≤ 1099511627776 := by first | with_reducible assumption | omega | (simp only [ByteArray.size_append, ByteArray.size_extract, strOfNums_size, List.length_cons, List.length_nil]; omega)) (ha : a ≤ 9223372036854775807 := by omega) : Con0 Tryz.prog 171 [.one (.sl 4 (l.map mpE)), .agg [.sl 1 (ps.map strE)], I d, I a, Z s] (.tup [.agg [.hs 0], B (dmaWF l ps d a s false).2]) [(0, .arr 9 1 (((dmaWF l ps d a s false).1).map strE))] := by
  refine con_i Tryz.func171 Tryz.ntmps171 (t := [(0, .one (.sl 4 (l.map mpE))), (1, .agg [.sl 1 (ps.map strE)]), (2, I d), (3, I a), (4, Z s)]) rfl ?_
  refine vc_sr ?_
  iterate 3 refine vo ?_
  refine vnt ?_
  refine vc_sr ?_
  iterate 5 refine vo ?_
  refine voc c_impl_put rfl rfl ?_
  iterate 4 refine vo ?_
  refine vnt ?_
  refine vc_ret ?_
  refine fin_i [(0, some 136)] rfl (fz ?_) (fz ?_) <;> first | trivial | rfl
set_option maxHeartbeats 4000000 in
theorem c_spec_HostWrite {l : List Mp} {ps : Pg} {d a : Int} {s : ByteArray} (hl : l.length ≤ 1099511627776 := by first | with_reducible assumption | omega) (hp : ps.length ≤ 1099511627776 := by first | with_reducible assumption | omega) (hs_s : s.size ≤ 1099511627776 := by first | with_reducible assumption | omega | (simp only [ByteArray.size_append, ByteArray.size_extract, strOfNums_size, List.length_cons, List.length_nil]; omega)) (ha : a ≤ 9223372036854775807 := by omega) : Con0 Tryz.prog 68 [.one (.sl 4 (l.map mpE)), .agg [.sl 1 (ps.map strE)], I d, I a, Z s] (.tup [.agg [.hs 0], B (dmaWF l ps d a s false).2]) [(0, .arr 9 1 (((dmaWF l ps d a s false).1).map strE))] := by
  refine con_i Tryz.func68 Tryz.ntmps68 (t := [(0, .one (.sl 4 (l.map mpE))), (1, .agg [.sl 1 (ps.map strE)]), (2, I d), (3, I a), (4, Z s)]) rfl ?_
  refine vc_sr ?_
  iterate 3 refine vo ?_
  refine vnt ?_
  refine vc_sr ?_
  iterate 2 refine vo ?_
  refine vnt ?_
  refine vc_seq' ?_
  refine vc_sr ?_
  refine vo ?_
  refine vnt ?_
  refine vc_block ?_
  refine vc_lp (σ := Nat) [0, 2, 3, 4, 6, 10] [48, 80] (fun i => [(12, .one (.hs 7)), (13, I (i : Nat))]) (fun i => [(7, .arr 52 4 ((mpOpen (l.take i)).map mpE))]) (fun i => i ≤ l.length) (fun i => l.length - i) 0 rfl rfl (sub_i [(7, some 120)] (fz ?_) (fz ?_)) ?_ fun i hI => ?_
  · first | trivial | rfl | exact ⟨rfl, rfl⟩ | exact ⟨rfl, rfl, rfl⟩ | trace_state
  · first | trivial | rfl | exact ⟨rfl, rfl⟩ | exact ⟨rfl, rfl, rfl⟩ | trace_state
  · exact Nat.zero_le _
  refine vc_nf rfl rfl ?_
  have hoi : (mpOpen (l.take i)).length ≤ i := by rw [mpOpen_length, List.length_take]; omega
  refine vc_seq' ?_
  refine vc_sr ?_
  iterate 3 refine vo ?_
  try first | refine vlb ?_ | refine vln ?_
  refine vo ?_
  refine vnt ?_
  refine vc_if (fun g1 => ?_) (fun g1 => ?_)
  · refine vc_skip ?_
    refine thn ?_
    refine vc_seq' ?_
    refine vc_block ?_
    refine vc_sr ?_
    iterate 3 refine vo ?_
    try with_reducible (first | refine vep ?_ | refine vpt ?_)
    iterate 3 refine vo ?_
    refine vnt ?_
    refine vc_sr ?_
    iterate 2 refine vo ?_
    refine vnt ?_
    refine vc_region ?_
    iterate 5 refine vo ?_
    refine vnil ?_
    refine inB_n ?_
    refine thn ?_
    refine vc_region ?_
    iterate 2 refine vo ?_
    try refine vwr ?_
    refine vo ?_
    refine vnt ?_
    refine ⟨i + 1, by omega, by omega, sub_i [(7, some 240)] (fz ?_) (fz ?_)⟩
    · first | trivial | rfl | simp
    · first | exact (op_stp g1).symm | trace_state
  · have hol : (mpOpen (l.take i)).length ≤ 1099511627776 := by rw [mpOpen_length, List.length_take]; omega
    refine vc_exit ?_
    refine thn_x ?_
    refine thn_x ?_
    refine inB_x ?_
    refine thn ?_
    refine vc_sr ?_
    iterate 5 refine vo ?_
    refine voc c_spec_DmaWrite rfl rfl ?_
    iterate 4 refine vo ?_
    refine vnt ?_
    refine vc_ret ?_
    have hh := op_end (ps := ps) (d := d) (a := a) (s := s) g1
    rw [← hh]
    refine fin_i [(0, some 288)] rfl (fz ?_) (fz ?_) <;> first | trivial | rfl | exact ⟨rfl, rfl⟩ | trace_state
set_option maxHeartbeats 4000000 in
theorem c_impl_RingPutAll {l : List Mp} {ps : Pg} {d b s h t : Int} {es : List ByteArray} (hl : l.length ≤ 1099511627776 := by first | with_reducible assumption | omega) (hp : ps.length ≤ 1099511627776 := by first | with_reducible assumption | omega) (hl_es : es.length ≤ 100000000 := by first | with_reducible assumption | omega) (hz_es : ∀ x ∈ es, x.size ≤ 1099511627776 := by with_reducible assumption) : Con0 Tryz.prog 83 [.one (.sl 4 (l.map mpE)), .agg [.sl 1 (ps.map strE)], I d, .agg [V b, V s, V h, V t], .one (.sl 1 (es.map strE))] (.tup [.agg [.hs 0], .agg [V b, V s, V h, V (rpaF l ps d b s h t es).2.1], B (rpaF l ps d b s h t es).2.2]) [(0, .arr 9 1 (((rpaF l ps d b s h t es).1).map strE))] := by
  refine con_i Tryz.func83 Tryz.ntmps83 (t := [(0, .one (.sl 4 (l.map mpE))), (1, .agg [.sl 1 (ps.map strE)]), (2, I d), (3, .agg [V b, V s, V h, V t]), (4, .one (.sl 1 (es.map strE)))]) rfl ?_
  refine vc_sr ?_
  iterate 5 refine vo ?_
  refine vnt ?_
  refine vc_sr ?_
  refine vo ?_
  refine voc c_impl_copyMemory rfl rfl ?_
  iterate 5 refine vo ?_
  refine vnt ?_
  refine vc_seq' ?_
  refine vc_sr ?_
  iterate 2 refine vo ?_
  try first | refine vlb ?_ | refine vln ?_
  refine vo ?_
  refine vnt ?_
  refine vc_block ?_
  refine vc_lp3 [0, 2, 6, 8, 10, 11, 13, 14, 21, 22] [48, 64, 80, 88] (fun (i : Nat) (q : Pg) (u : Int) => [(23, I (i : Nat))]) (fun (i : Nat) (q : Pg) (u : Int) => [(7, .arr 9 1 (q.map strE)), (104, .row 27 [.hs 7]), (112, .row 29 [V b, V s, V h, V u])]) (fun (i : Nat) (q : Pg) (u : Int) => rpa l d b s h es ps t = rpa l d b s h (es.drop i) q u ∧ i ≤ es.length ∧ q.length = ps.length) (fun (i : Nat) (q : Pg) (u : Int) => es.length - i) 0 ps t rfl rfl (sub_i [(104, some 104), (112, some 112), (7, some 152)] (fz ?_) (fz ?_)) ?_ fun i q u hI => ?_
  · first | trivial | rfl | exact ⟨rfl, rfl⟩ | exact ⟨rfl, rfl, rfl⟩ | trace_state
  · first | trivial | rfl | exact ⟨rfl, rfl⟩ | exact ⟨rfl, rfl, rfl⟩ | trace_state
  · exact ⟨rfl, Nat.zero_le _, rfl⟩
  refine vc_nf rfl rfl ?_
  have hql := hI.2.2
  refine vc_sr ?_
  refine vo ?_
  refine vnt ?_
  refine vc_seq' ?_
  refine vc_if (fun g1 => ?_) (fun g1 => ?_)
  · have hze := hz_es _ (atp_mem g1)
    refine vc_skip ?_
    refine thn ?_
    refine vc_seq' ?_
    refine vc_block ?_
    refine vc_sr ?_
    refine vo ?_
    try with_reducible (first | refine vep ?_ | refine vpt ?_)
    iterate 2 refine vo ?_
    refine vnt ?_
    refine vc_sr ?_
    refine vo ?_
    refine vnt ?_
    refine vc_sr ?_
    iterate 5 refine vo ?_
    refine voc c_impl_RingPut rfl rfl ?_
    iterate 7 refine vo ?_
    refine vnt ?_
    refine vc_sr ?_
    iterate 2 refine vo ?_
    refine vnt ?_
    refine vc_if (fun g2 => ?_) (fun g2 => ?_)
    · refine vc_sr ?_
      refine vo ?_
      refine voc c_impl_copyMemory rfl rfl ?_
      iterate 4 refine vo ?_
      refine vnt ?_
      refine vc_ret ?_
      refine inB_r ?_
      refine thn_r ?_
      refine thn_r ?_
      refine inB_r ?_
      refine thn_r ?_
      have hh := rpa_no hI.1 g1 g2
      refine fin_i [(0, some 320)] rfl (fz ?_) (fz ?_)
      · rw [hh]; first | trivial | rfl | exact ⟨rfl, rfl⟩ | trace_state
      · rw [hh]; first | trivial | rfl | exact ⟨rfl, rfl⟩ | trace_state
    · refine vc_skip ?_
      refine inB_n ?_
      refine thn ?_
      refine vc_region ?_
      refine vo ?_
      try refine vwr ?_
      refine vo ?_
      refine vnt ?_
      refine ⟨i + 1, (rputF l q d b s h u (at' es i)).1, (rputF l q d b s h u (at' es i)).2.1, ⟨hI.1.trans (rpa_stp g1 g2), by omega, by rw [rp_ln]; exact hql⟩, by omega, sub_i [(104, some 104), (112, some 112), (7, some 264)] (fz ?_) (fz ?_)⟩
      · first | trivial | rfl | simp
      · first | trivial | rfl | exact ⟨rfl, rfl⟩ | exact ⟨rfl, rfl, rfl⟩ | trace_state
  · refine vc_exit ?_
    refine thn_x ?_
    refine thn_x ?_
    refine inB_x ?_
    refine thn ?_
    refine vc_sr ?_
    iterate 5 refine vo ?_
    refine vnt ?_
    refine vc_ret ?_
    have hh := rpa_end hI.1 g1
    refine fin_i [(0, some 7)] rfl (fz ?_) (fz ?_)
    · rw [hh]; first | trivial | rfl | exact ⟨rfl, rfl⟩ | trace_state
    · rw [hh]; first | trivial | rfl | exact ⟨rfl, rfl⟩ | trace_state
set_option maxHeartbeats 4000000 in
theorem c_spec_RingPutAll {l : List Mp} {ps : Pg} {d b s h t : Int} {es : List ByteArray} (hl : l.length ≤ 1099511627776 := by first | with_reducible assumption | omega) (hp : ps.length ≤ 1099511627776 := by first | with_reducible assumption | omega) (hl_es : es.length ≤ 100000000 := by first | with_reducible assumption | omega) (hz_es : ∀ x ∈ es, x.size ≤ 1099511627776 := by with_reducible assumption) : Con0 Tryz.prog 71 [.one (.sl 4 (l.map mpE)), .agg [.sl 1 (ps.map strE)], I d, .agg [V b, V s, V h, V t], .one (.sl 1 (es.map strE))] (.tup [.agg [.hs 0], .agg [V b, V s, V h, V (rpaF l ps d b s h t es).2.1], B (rpaF l ps d b s h t es).2.2]) [(0, .arr 9 1 (((rpaF l ps d b s h t es).1).map strE))] := by
  refine con_i Tryz.func71 Tryz.ntmps71 (t := [(0, .one (.sl 4 (l.map mpE))), (1, .agg [.sl 1 (ps.map strE)]), (2, I d), (3, .agg [V b, V s, V h, V t]), (4, .one (.sl 1 (es.map strE)))]) rfl ?_
  refine vc_sr ?_
  iterate 5 refine vo ?_
  refine vnt ?_
  refine vc_sr ?_
  refine vo ?_
  refine voc c_spec_l16Copy rfl rfl ?_
  iterate 2 refine vo ?_
  refine vnt ?_
  refine vc_sr ?_
  iterate 3 refine vo ?_
  refine vnt ?_
  refine vc_seq' ?_
  refine vc_sr ?_
  refine vo ?_
  refine vnt ?_
  refine vc_block ?_
  refine vc_lp3 [0, 2, 4, 6, 8, 10, 11, 13, 14] [48, 64, 80, 88] (fun (i : Nat) (q : Pg) (u : Int) => [(15, I (i : Nat))]) (fun (i : Nat) (q : Pg) (u : Int) => [(7, .arr 9 1 (q.map strE)), (104, .row 27 [.hs 7]), (112, .row 29 [V b, V s, V h, V u])]) (fun (i : Nat) (q : Pg) (u : Int) => rpa l d b s h es ps t = rpa l d b s h (es.drop i) q u ∧ i ≤ es.length ∧ q.length = ps.length) (fun (i : Nat) (q : Pg) (u : Int) => es.length - i) 0 ps t rfl rfl (sub_i [(104, some 104), (112, some 112), (7, some 144)] (fz ?_) (fz ?_)) ?_ fun i q u hI => ?_
  · first | trivial | rfl | exact ⟨rfl, rfl⟩ | exact ⟨rfl, rfl, rfl⟩ | trace_state
  · first | trivial | rfl | exact ⟨rfl, rfl⟩ | exact ⟨rfl, rfl, rfl⟩ | trace_state
  · exact ⟨rfl, Nat.zero_le _, rfl⟩
  refine vc_nf rfl rfl ?_
  have hql := hI.2.2
  refine vc_seq' ?_
  refine vc_sr ?_
  iterate 3 refine vo ?_
  try first | refine vlb ?_ | refine vln ?_
  refine vo ?_
  refine vnt ?_
  refine vc_if (fun g1 => ?_) (fun g1 => ?_)
  · have hze := hz_es _ (atp_mem g1)
    refine vc_skip ?_
    refine thn ?_
    refine vc_seq' ?_
    refine vc_block ?_
    refine vc_sr ?_
    refine vo ?_
    refine vnt ?_
    refine vc_sr ?_
    iterate 7 refine vo ?_
    try with_reducible (first | refine vep ?_ | refine vpt ?_)
    refine vo ?_
    refine voc c_spec_RingPut rfl rfl ?_
    iterate 7 refine vo ?_
    refine vnt ?_
    refine vc_sr ?_
    iterate 2 refine vo ?_
    refine vnt ?_
    refine vc_if (fun g2 => ?_) (fun g2 => ?_)
    · refine vc_sr ?_
      refine vo ?_
      refine voc c_spec_l16Copy rfl rfl ?_
      iterate 4 refine vo ?_
      refine vnt ?_
      refine vc_ret ?_
      refine inB_r ?_
      refine thn_r ?_
      refine thn_r ?_
      refine inB_r ?_
      refine thn_r ?_
      have hh := rpa_no hI.1 g1 g2
      refine fin_i [(0, some 336)] rfl (fz ?_) (fz ?_)
      · rw [hh]; first | trivial | rfl | exact ⟨rfl, rfl⟩ | trace_state
      · rw [hh]; first | trivial | rfl | exact ⟨rfl, rfl⟩ | trace_state
    · refine vc_skip ?_
      refine inB_n ?_
      refine thn ?_
      refine vc_region ?_
      iterate 2 refine vo ?_
      try refine vwr ?_
      refine vo ?_
      refine vnt ?_
      refine ⟨i + 1, (rputF l q d b s h u (at' es i)).1, (rputF l q d b s h u (at' es i)).2.1, ⟨hI.1.trans (rpa_stp g1 g2), by omega, by rw [rp_ln]; exact hql⟩, by omega, sub_i [(104, some 104), (112, some 112), (7, some 280)] (fz ?_) (fz ?_)⟩
      · first | trivial | rfl | simp
      · first | trivial | rfl | exact ⟨rfl, rfl⟩ | exact ⟨rfl, rfl, rfl⟩ | trace_state
  · refine vc_exit ?_
    refine thn_x ?_
    refine thn_x ?_
    refine inB_x ?_
    refine thn ?_
    refine vc_sr ?_
    iterate 5 refine vo ?_
    refine vnt ?_
    refine vc_ret ?_
    have hh := rpa_end hI.1 g1
    refine fin_i [(0, some 7)] rfl (fz ?_) (fz ?_)
    · rw [hh]; first | trivial | rfl | exact ⟨rfl, rfl⟩ | trace_state
    · rw [hh]; first | trivial | rfl | exact ⟨rfl, rfl⟩ | trace_state
set_option maxHeartbeats 4000000 in
theorem c_impl_fillBuffers_y {l : List Mp} {ps : Pg} {d pb pz pc cut : Int} {fr ks : List Int} {T : ByteArray} (hl : l.length ≤ 1099511627776 := by first | with_reducible assumption | omega) (hp : ps.length ≤ 1099511627776 := by first | with_reducible assumption | omega) (hl_fr : fr.length ≤ 100000000 := by first | with_reducible assumption | omega) (hl_ks : ks.length ≤ 100000000 := by first | with_reducible assumption | omega) (hs_T : T.size ≤ 1000000 := by first | with_reducible assumption | omega) (h0 : 1 ≤ cut) (h1 : cut ≤ 1000000) (hy : (sdW l d pb pz pc fr T cut ks 0 ps).2 = true) (hne : 0 < ks.length) : Con0 Tryz.prog 80 [.one (.sl 4 (l.map mpE)), .agg [.sl 1 (ps.map strE)], I d, .agg [V pb, V pz, V pc, .sl 1 (fr.map intE)], .one (.sl 1 (ks.map intE)), Z T, I cut] (.tup [.agg [.hs 0], .one (.hs 1), B true]) [(0, .arr 9 1 ((sdW l d pb pz pc fr T cut ks 0 ps).1.map strE)), (1, .arr 131 2 ((sdQ pb pz pc fr T cut ks ks.length).map pcE))] := by
  refine con_i Tryz.func80 Tryz.ntmps80 (t := [(0, .one (.sl 4 (l.map mpE))), (1, .agg [.sl 1 (ps.map strE)]), (2, I d), (3, .agg [V pb, V pz, V pc, .sl 1 (fr.map intE)]), (4, .one (.sl 1 (ks.map intE))), (5, Z T), (6, I cut)]) rfl ?_
  refine vc_sr ?_
  iterate 5 refine vo ?_
  refine vnt ?_
  refine vc_sr ?_
  iterate 2 refine vo ?_
  refine vnt ?_
  refine vc_seq' ?_
  refine vc_sr ?_
  iterate 2 refine vo ?_
  try first | refine vlb ?_ | refine vln ?_
  refine vo ?_
  refine vnt ?_
  refine vc_block ?_
  refine vc_lpp2 [0, 2, 6, 8, 10, 14, 24, 25] [80, 112] [(5, Z T), (17, .one (.hs 9)), (26, I ((0 : Nat) : Int))] [(9, .arr 131 2 []), (64, .row 27 [.sl 1 (ps.map strE)])] (fun (i : Nat) (q : Pg) => [(5, Z (T.extract ((i : Int) * cut).toNat T.size)), (17, .one (.hs 9)), (26, I (i : Nat))]) (fun (i : Nat) (q : Pg) => [(7, .arr 9 1 (q.map strE)), (9, .arr 131 2 ((sdQ pb pz pc fr T cut ks i).map pcE)), (64, .row 27 [.hs 7])]) (fun (i : Nat) (q : Pg) => sdW l d pb pz pc fr T cut ks 0 ps = sdW l d pb pz pc fr T cut (ks.drop i) i q ∧ 1 ≤ i ∧ i ≤ ks.length ∧ q.length = ps.length) (fun (i : Nat) (q : Pg) => ks.length - i) (ks.length) rfl rfl (sub_i [(64, some 64), (9, some 184)] (fz ?_) (fz ?_)) ?_ fun i q hI => ?_
  · first | trivial | rfl | exact ⟨rfl, rfl⟩ | exact ⟨rfl, rfl, rfl⟩ | trace_state
  · first | trivial | rfl | exact ⟨rfl, rfl⟩ | exact ⟨rfl, rfl, rfl⟩ | trace_state
  · refine vc_nf rfl rfl ?_
    refine vc_sr ?_
    refine vo ?_
    refine vnt ?_
    refine vc_seq' ?_
    refine vc_if (fun g1 => ?_) (fun g1 => ?_)
    · have hbb := bufA_bd pb pz pc fr (at' ks 0)
      have hpz := sdP_sz T cut 0
      refine vc_skip ?_
      refine thn ?_
      refine vc_seq' ?_
      refine vc_block ?_
      refine vc_sr ?_
      refine vo ?_
      try with_reducible (first | refine vep ?_ | refine vpt ?_)
      iterate 2 refine vo ?_
      refine vnt ?_
      refine vc_sr ?_
      iterate 6 refine vo ?_
      try first | refine vdr ?_ | refine vtk ?_
      refine vstr (sd_pf0 h0) ?_
      refine vo ?_
      refine vnt ?_
      refine vc_sr ?_
      iterate 4 refine vo ?_
      try first | refine vdr ?_ | refine vtk ?_
      refine vstr (sd_tl0 h0) ?_
      refine vo ?_
      refine vnt ?_
      refine vc_sr ?_
      iterate 5 refine vo ?_
      refine voc c_impl_BufferAddress rfl rfl ?_
      refine vo ?_
      refine voc c_impl_HostWrite rfl rfl ?_
      iterate 6 refine vo ?_
      refine vnt ?_
      refine vc_seq' ?_
      refine vc_sr ?_
      iterate 2 refine vo ?_
      refine vnt ?_
      refine vc_if (fun g2 => ?_) (fun g2 => ?_)
      · refine vc_sr ?_
        iterate 4 refine vo ?_
        refine vnt ?_
        refine vc_ret ?_
        refine thn_r ?_
        refine inB_r ?_
        refine thn_r ?_
        refine thn_r ?_
        refine inB_r ?_
        refine thn_r ?_
        have hh : (sdW l d pb pz pc fr T cut ks 0 ps).2 = false := by rw [show sdW l d pb pz pc fr T cut ks 0 ps = sdW l d pb pz pc fr T cut (ks.drop 0) 0 ps from rfl, sdW_no g1 g2]
        rw [hy] at hh; cases hh
      · refine vc_skip ?_
        refine thn ?_
        refine vc_sr ?_
        iterate 2 refine vo ?_
        refine vnt ?_
        refine vc_region ?_
        iterate 3 refine vo ?_
        refine voc c_impl_BufferAddress rfl rfl ?_
        iterate 6 refine vo ?_
        refine vnil ?_
        refine inB_n ?_
        refine thn ?_
        refine vc_region ?_
        refine vo ?_
        try refine vwr ?_
        refine vo ?_
        refine vnt ?_
        refine ⟨1, (dmaWF l ps d (bufA pb pz pc fr (at' ks 0)) (sdP T cut 0) false).1, ⟨sdW_stp (ks := ks) (i := 0) g1 g2, by omega, by omega, by rw [dw_ln]⟩, by omega, sub_i [(64, some 64), (7, some 384), (9, some 504)] (fz ?_) (fz ?_)⟩
        · first | trivial | rfl | simp | trace_state
        · first | exact (by rw [← sdQ_stp, List.map_append]; rfl) | (rw [← sdQ_stp, List.map_append]; exact ⟨rfl, rfl⟩) | trace_state
    · exfalso; omega
  refine vc_nf rfl rfl ?_
  have hql := hI.2.2.2
  have hsq := sdQ_len pb pz pc fr T cut ks i
  have hez : (T.extract ((i : Int) * cut).toNat T.size).size ≤ T.size := by rw [ByteArray.size_extract]; omega
  refine vc_sr ?_
  refine vo ?_
  refine vnt ?_
  refine vc_seq' ?_
  refine vc_if (fun g3 => ?_) (fun g3 => ?_)
  · have hbb := bufA_bd pb pz pc fr (at' ks i)
    have hpz := sdP_sz T cut i
    have hpz2 := sdP_le (T := T) (cut := cut) (k := i)
    refine vc_skip ?_
    refine thn ?_
    refine vc_seq' ?_
    refine vc_block ?_
    refine vc_sr ?_
    refine vo ?_
    try with_reducible (first | refine vep ?_ | refine vpt ?_)
    iterate 2 refine vo ?_
    refine vnt ?_
    refine vc_sr ?_
    iterate 6 refine vo ?_
    try first | refine vdr ?_ | refine vtk ?_
    refine vstr (sd_pf h0) ?_
    refine vo ?_
    refine vnt ?_
    refine vc_sr ?_
    iterate 4 refine vo ?_
    try first | refine vdr ?_ | refine vtk ?_
    refine vstr (sd_tl h0) ?_
    refine vo ?_
    refine vnt ?_
    refine vc_sr ?_
    iterate 5 refine vo ?_
    refine voc c_impl_BufferAddress rfl rfl ?_
    refine vo ?_
    refine voc c_impl_HostWrite rfl rfl ?_
    iterate 6 refine vo ?_
    refine vnt ?_
    refine vc_seq' ?_
    refine vc_sr ?_
    iterate 2 refine vo ?_
    refine vnt ?_
    refine vc_if (fun g4 => ?_) (fun g4 => ?_)
    · refine vc_sr ?_
      iterate 4 refine vo ?_
      refine vnt ?_
      refine vc_ret ?_
      refine thn_r ?_
      refine inB_r ?_
      refine thn_r ?_
      refine thn_r ?_
      refine inB_r ?_
      refine thn_r ?_
      have hh : (sdW l d pb pz pc fr T cut ks 0 ps).2 = false := by rw [hI.1, sdW_no g3 g4]
      rw [hy] at hh; cases hh
    · refine vc_skip ?_
      refine thn ?_
      refine vc_sr ?_
      iterate 2 refine vo ?_
      refine vnt ?_
      refine vc_region ?_
      iterate 3 refine vo ?_
      refine voc c_impl_BufferAddress rfl rfl ?_
      iterate 6 refine vo ?_
      refine vnil ?_
      refine inB_n ?_
      refine thn ?_
      refine vc_region ?_
      refine vo ?_
      try refine vwr ?_
      refine vo ?_
      refine vnt ?_
      refine ⟨i + 1, (dmaWF l q d (bufA pb pz pc fr (at' ks i)) (sdP T cut i) false).1, ⟨hI.1.trans (sdW_stp g3 g4), by omega, by omega, by rw [dw_ln]; exact hql⟩, by omega, sub_i [(64, some 64), (7, some 384), (9, some 504)] (fz ?_) (fz ?_)⟩
      · first | trivial | rfl | simp | trace_state
      · first | exact (by rw [← sdQ_stp, List.map_append]; rfl) | (rw [← sdQ_stp, List.map_append]; exact ⟨rfl, rfl⟩) | trace_state
  · refine vc_exit ?_
    refine thn_x ?_
    refine thn_x ?_
    refine inB_x ?_
    refine thn ?_
    refine vc_sr ?_
    iterate 5 refine vo ?_
    refine vnt ?_
    refine vc_ret ?_
    have hh : sdW l d pb pz pc fr T cut ks 0 ps = _ := hI.1.trans (sdW_end g3)
    obtain rfl : i = ks.length := by omega
    refine fin_i [(0, some 7), (1, some 9)] rfl (fz ?_) (fz ?_)
    · first | trivial | rfl | exact ⟨rfl, rfl⟩ | trace_state
    · rw [hh]; first | trivial | rfl | exact ⟨rfl, rfl⟩ | trace_state
set_option maxHeartbeats 4000000 in
theorem c_impl_fillBuffers_n {l : List Mp} {ps : Pg} {d pb pz pc cut : Int} {fr ks : List Int} {T : ByteArray} (hl : l.length ≤ 1099511627776 := by first | with_reducible assumption | omega) (hp : ps.length ≤ 1099511627776 := by first | with_reducible assumption | omega) (hl_fr : fr.length ≤ 100000000 := by first | with_reducible assumption | omega) (hl_ks : ks.length ≤ 100000000 := by first | with_reducible assumption | omega) (hs_T : T.size ≤ 1000000 := by first | with_reducible assumption | omega) (h0 : 1 ≤ cut) (h1 : cut ≤ 1000000) (hy : (sdW l d pb pz pc fr T cut ks 0 ps).2 = false) (hne : 0 < ks.length) : Con0 Tryz.prog 80 [.one (.sl 4 (l.map mpE)), .agg [.sl 1 (ps.map strE)], I d, .agg [V pb, V pz, V pc, .sl 1 (fr.map intE)], .one (.sl 1 (ks.map intE)), Z T, I cut] (.tup [.agg [.junk], .one .nil, B false]) [] := by
  refine con_i Tryz.func80 Tryz.ntmps80 (t := [(0, .one (.sl 4 (l.map mpE))), (1, .agg [.sl 1 (ps.map strE)]), (2, I d), (3, .agg [V pb, V pz, V pc, .sl 1 (fr.map intE)]), (4, .one (.sl 1 (ks.map intE))), (5, Z T), (6, I cut)]) rfl ?_
  refine vc_sr ?_
  iterate 5 refine vo ?_
  refine vnt ?_
  refine vc_sr ?_
  iterate 2 refine vo ?_
  refine vnt ?_
  refine vc_seq' ?_
  refine vc_sr ?_
  iterate 2 refine vo ?_
  try first | refine vlb ?_ | refine vln ?_
  refine vo ?_
  refine vnt ?_
  refine vc_block ?_
  refine vc_lpp2 [0, 2, 6, 8, 10, 14, 24, 25] [80, 112] [(5, Z T), (17, .one (.hs 9)), (26, I ((0 : Nat) : Int))] [(9, .arr 131 2 []), (64, .row 27 [.sl 1 (ps.map strE)])] (fun (i : Nat) (q : Pg) => [(5, Z (T.extract ((i : Int) * cut).toNat T.size)), (17, .one (.hs 9)), (26, I (i : Nat))]) (fun (i : Nat) (q : Pg) => [(7, .arr 9 1 (q.map strE)), (9, .arr 131 2 ((sdQ pb pz pc fr T cut ks i).map pcE)), (64, .row 27 [.hs 7])]) (fun (i : Nat) (q : Pg) => sdW l d pb pz pc fr T cut ks 0 ps = sdW l d pb pz pc fr T cut (ks.drop i) i q ∧ 1 ≤ i ∧ i ≤ ks.length ∧ q.length = ps.length) (fun (i : Nat) (q : Pg) => ks.length - i) (ks.length) rfl rfl (sub_i [(64, some 64), (9, some 184)] (fz ?_) (fz ?_)) ?_ fun i q hI => ?_
  · first | trivial | rfl | exact ⟨rfl, rfl⟩ | exact ⟨rfl, rfl, rfl⟩ | trace_state
  · first | trivial | rfl | exact ⟨rfl, rfl⟩ | exact ⟨rfl, rfl, rfl⟩ | trace_state
  · refine vc_nf rfl rfl ?_
    refine vc_sr ?_
    refine vo ?_
    refine vnt ?_
    refine vc_seq' ?_
    refine vc_if (fun g1 => ?_) (fun g1 => ?_)
    · have hbb := bufA_bd pb pz pc fr (at' ks 0)
      have hpz := sdP_sz T cut 0
      refine vc_skip ?_
      refine thn ?_
      refine vc_seq' ?_
      refine vc_block ?_
      refine vc_sr ?_
      refine vo ?_
      try with_reducible (first | refine vep ?_ | refine vpt ?_)
      iterate 2 refine vo ?_
      refine vnt ?_
      refine vc_sr ?_
      iterate 6 refine vo ?_
      try first | refine vdr ?_ | refine vtk ?_
      refine vstr (sd_pf0 h0) ?_
      refine vo ?_
      refine vnt ?_
      refine vc_sr ?_
      iterate 4 refine vo ?_
      try first | refine vdr ?_ | refine vtk ?_
      refine vstr (sd_tl0 h0) ?_
      refine vo ?_
      refine vnt ?_
      refine vc_sr ?_
      iterate 5 refine vo ?_
      refine voc c_impl_BufferAddress rfl rfl ?_
      refine vo ?_
      refine voc c_impl_HostWrite rfl rfl ?_
      iterate 6 refine vo ?_
      refine vnt ?_
      refine vc_seq' ?_
      refine vc_sr ?_
      iterate 2 refine vo ?_
      refine vnt ?_
      refine vc_if (fun g2 => ?_) (fun g2 => ?_)
      · refine vc_sr ?_
        iterate 4 refine vo ?_
        refine vnt ?_
        refine vc_ret ?_
        refine thn_r ?_
        refine inB_r ?_
        refine thn_r ?_
        refine thn_r ?_
        refine inB_r ?_
        refine thn_r ?_
        refine fin_i [] rfl (fz ?_) (fz ?_) <;> first | trivial | rfl | exact ⟨rfl, rfl⟩ | trace_state
      · refine vc_skip ?_
        refine thn ?_
        refine vc_sr ?_
        iterate 2 refine vo ?_
        refine vnt ?_
        refine vc_region ?_
        iterate 3 refine vo ?_
        refine voc c_impl_BufferAddress rfl rfl ?_
        iterate 6 refine vo ?_
        refine vnil ?_
        refine inB_n ?_
        refine thn ?_
        refine vc_region ?_
        refine vo ?_
        try refine vwr ?_
        refine vo ?_
        refine vnt ?_
        refine ⟨1, (dmaWF l ps d (bufA pb pz pc fr (at' ks 0)) (sdP T cut 0) false).1, ⟨sdW_stp (ks := ks) (i := 0) g1 g2, by omega, by omega, by rw [dw_ln]⟩, by omega, sub_i [(64, some 64), (7, some 384), (9, some 504)] (fz ?_) (fz ?_)⟩
        · first | trivial | rfl | simp | trace_state
        · first | exact (by rw [← sdQ_stp, List.map_append]; rfl) | (rw [← sdQ_stp, List.map_append]; exact ⟨rfl, rfl⟩) | trace_state
    · exfalso; omega
  refine vc_nf rfl rfl ?_
  have hql := hI.2.2.2
  have hsq := sdQ_len pb pz pc fr T cut ks i
  have hez : (T.extract ((i : Int) * cut).toNat T.size).size ≤ T.size := by rw [ByteArray.size_extract]; omega
  refine vc_sr ?_
  refine vo ?_
  refine vnt ?_
  refine vc_seq' ?_
  refine vc_if (fun g3 => ?_) (fun g3 => ?_)
  · have hbb := bufA_bd pb pz pc fr (at' ks i)
    have hpz := sdP_sz T cut i
    have hpz2 := sdP_le (T := T) (cut := cut) (k := i)
    refine vc_skip ?_
    refine thn ?_
    refine vc_seq' ?_
    refine vc_block ?_
    refine vc_sr ?_
    refine vo ?_
    try with_reducible (first | refine vep ?_ | refine vpt ?_)
    iterate 2 refine vo ?_
    refine vnt ?_
    refine vc_sr ?_
    iterate 6 refine vo ?_
    try first | refine vdr ?_ | refine vtk ?_
    refine vstr (sd_pf h0) ?_
    refine vo ?_
    refine vnt ?_
    refine vc_sr ?_
    iterate 4 refine vo ?_
    try first | refine vdr ?_ | refine vtk ?_
    refine vstr (sd_tl h0) ?_
    refine vo ?_
    refine vnt ?_
    refine vc_sr ?_
    iterate 5 refine vo ?_
    refine voc c_impl_BufferAddress rfl rfl ?_
    refine vo ?_
    refine voc c_impl_HostWrite rfl rfl ?_
    iterate 6 refine vo ?_
    refine vnt ?_
    refine vc_seq' ?_
    refine vc_sr ?_
    iterate 2 refine vo ?_
    refine vnt ?_
    refine vc_if (fun g4 => ?_) (fun g4 => ?_)
    · refine vc_sr ?_
      iterate 4 refine vo ?_
      refine vnt ?_
      refine vc_ret ?_
      refine thn_r ?_
      refine inB_r ?_
      refine thn_r ?_
      refine thn_r ?_
      refine inB_r ?_
      refine thn_r ?_
      refine fin_i [] rfl (fz ?_) (fz ?_) <;> first | trivial | rfl | exact ⟨rfl, rfl⟩ | trace_state
    · refine vc_skip ?_
      refine thn ?_
      refine vc_sr ?_
      iterate 2 refine vo ?_
      refine vnt ?_
      refine vc_region ?_
      iterate 3 refine vo ?_
      refine voc c_impl_BufferAddress rfl rfl ?_
      iterate 6 refine vo ?_
      refine vnil ?_
      refine inB_n ?_
      refine thn ?_
      refine vc_region ?_
      refine vo ?_
      try refine vwr ?_
      refine vo ?_
      refine vnt ?_
      refine ⟨i + 1, (dmaWF l q d (bufA pb pz pc fr (at' ks i)) (sdP T cut i) false).1, ⟨hI.1.trans (sdW_stp g3 g4), by omega, by omega, by rw [dw_ln]; exact hql⟩, by omega, sub_i [(64, some 64), (7, some 384), (9, some 504)] (fz ?_) (fz ?_)⟩
      · first | trivial | rfl | simp | trace_state
      · first | exact (by rw [← sdQ_stp, List.map_append]; rfl) | (rw [← sdQ_stp, List.map_append]; exact ⟨rfl, rfl⟩) | trace_state
  · refine vc_exit ?_
    refine thn_x ?_
    refine thn_x ?_
    refine inB_x ?_
    refine thn ?_
    refine vc_sr ?_
    iterate 5 refine vo ?_
    refine vnt ?_
    refine vc_ret ?_
    have hh : sdW l d pb pz pc fr T cut ks 0 ps = _ := hI.1.trans (sdW_end g3)
    rw [hh] at hy; cases hy
end Go.Proofs.YtbdcaacpemkloaaGreat
end
section
namespace Go.Proofs.YtbdcaacpemkloaaGreat
open Go Go.RowKit Go.Vc
set_option linter.unusedVariables false
set_option linter.unusedSimpArgs false
set_option linter.unnecessarySimpa false
theorem eqk_Desc : EqOk Tryz.prog 136 [0, 0, 0, 0, 0, 0] := eqOk_of 4 (by kernel_rfl) (by decide) (by kernel_rfl) (by kernel_rfl)
theorem and1 (n : Int) : andI n 1 = n % 2 := by
  rw [andI_eq]; exact and_mask_i64 n 1 (by decide)
theorem ds_all {l : List Pc} {size ck : Int} {n : Nat} (h : ∀ j, j < n → dOk (dAt l size ck j) = true) : (dsF l size ck n).all dOk = true := by
  rw [List.all_eq_true]
  intro x hx
  unfold dsF at hx
  obtain ⟨j, hj, rfl⟩ := List.mem_map.1 hx
  exact h j (List.mem_range.1 hj)
theorem upto_stp {Q : Nat → Prop} {k : Nat} (h : ∀ j, j < k → Q j) (hk : Q k) : ∀ j, j < k + 1 → Q j := fun j g => by
  rcases Nat.lt_or_ge j k with g2 | g2
  · exact h j g2
  · obtain rfl : j = k := by omega
    exact hk
theorem ds_at {l : List Pc} {size ck v : Int} {i : Nat} (hfl : (if i + 1 = l.length then (1 : Int) else 0) = v) : dAt l size ck (i + 1) = (1, v, (at' l i).2, (at' l i).1, 0, ck) := by rw [← hfl]; rfl
theorem pcs_len {l : List Pc} (h : pcsOk l = true) : l.length ≤ 16 := (pcsOk_iff.1 h).2
theorem ceq_no {a b : Dsc} (h : ceqV (dscE a) (dscE b) = false) : ¬ a = b := by
  rw [ceq_dsc] at h
  exact of_decide_eq_false h
theorem ceq_yes {a b : Dsc} (h : ceqV (dscE a) (dscE b) = true) : a = b := by
  rw [ceq_dsc] at h
  exact of_decide_eq_true h
theorem pod_at {l : List Dsc} (h : podB l = true) : pcsOk (podL l) = true ∧ ∀ x ∈ podL l, x.1 ≤ 4294967295 := by
  unfold podB at h
  rw [Bool.and_eq_true, decide_eq_true_eq, decide_eq_true_eq] at h
  obtain ⟨h1, h2⟩ := h
  have hb : descrB (podL l) (at' l 0).2.2.2.2.1 (at' l 0).2.2.2.2.2 = true := by
    cases hb : descrB (podL l) (at' l 0).2.2.2.2.1 (at' l 0).2.2.2.2.2 with
    | true => rfl
    | false =>
      unfold descrF at h2
      rw [hb, if_neg (by decide)] at h2
      rw [← h2] at h1
      simp at h1
  unfold descrB at hb
  simp only [Bool.and_eq_true] at hb
  obtain ⟨_, hp, _, ha⟩ := hb
  refine ⟨hp, fun x hx => ?_⟩
  obtain ⟨i, hi, rfl⟩ := List.getElem_of_mem hx
  have hm : dAt (podL l) (at' l 0).2.2.2.2.1 (at' l 0).2.2.2.2.2 (i + 1) ∈ dsF (podL l) (at' l 0).2.2.2.2.1 (at' l 0).2.2.2.2.2 ((podL l).length + 1) := List.mem_map.2 ⟨i + 1, List.mem_range.2 (by omega), rfl⟩
  have := List.all_eq_true.1 ha _ hm
  unfold dOk descB at this
  simp only [Bool.and_eq_true, dAt] at this
  have := inB_iff.1 this.2
  rw [atq_eq hi] at this
  exact this.2
set_option maxHeartbeats 4000000 in
theorem c_impl_PiecesOk {l : List Pc} (hl_l : l.length ≤ 1099511627776 := by first | assumption | omega) : Con0 Tryz.prog 172 [.one (.sl 2 (l.map pcE))] (B (pcsOk l)) [] := by
  refine con_i Tryz.func172 Tryz.ntmps172 (t := [(0, .one (.sl 2 (l.map pcE)))]) rfl ?_
  refine vc_sr ?_
  refine vo ?_
  refine vnt ?_
  refine vc_seq' ?_
  refine vc_sr ?_
  iterate 2 refine vo ?_
  try first | refine vlb ?_ | refine vln ?_
  refine vo ?_
  refine vnt ?_
  refine vc_block ?_
  refine vc_lp (σ := Nat) [0, 5, 6] [] (fun i => [(7, I (i : Nat))]) (fun i => []) (fun i => i ≤ l.length ∧ (l.take i).all pcOk = true) (fun i => l.length - i) 0 rfl rfl (sub_i [] (fz ?_) (fz ?_)) ?_ fun i hI => ?_
  · first | trivial | rfl
  · first | trivial | rfl
  · exact ⟨Nat.zero_le _, rfl⟩
  refine vc_nf rfl rfl ?_
  refine vc_sr ?_
  refine vo ?_
  refine vnt ?_
  refine vc_seq' ?_
  refine vc_if (fun g1 => ?_) (fun g1 => ?_)
  · refine vc_skip ?_
    refine thn ?_
    refine vc_seq' ?_
    refine vc_block ?_
    refine vc_sr ?_
    refine vo ?_
    try with_reducible (first | refine vep ?_ | refine vpt ?_)
    iterate 3 refine vo ?_
    refine vnt ?_
    refine vc_sr ?_
    iterate 4 refine vo ?_
    refine vsp (fun g2 => ?_) (fun g2 => ?_)
    · iterate 4 refine vof ?_
      refine vo ?_
      refine vnt ?_
      refine vc_then ?_
      refine vc_sr ?_
      refine vo ?_
      refine vnt ?_
      refine vc_ret ?_
      refine inB_r ?_
      refine thn_r ?_
      refine thn_r ?_
      refine inB_r ?_
      refine thn_r ?_
      refine fin_i [] rfl (fz ?_) trivial
      exact pcsOk_bad g1 (.inl g2)
    · iterate 2 refine von ?_
      refine vocn c_impl_between rfl rfl ?_
      refine von ?_
      refine vo ?_
      refine vnt ?_
      refine vc_if (fun g3 => ?_) (fun g3 => ?_)
      · refine vc_sr ?_
        refine vo ?_
        refine vnt ?_
        refine vc_ret ?_
        refine inB_r ?_
        refine thn_r ?_
        refine thn_r ?_
        refine inB_r ?_
        refine thn_r ?_
        refine fin_i [] rfl (fz ?_) trivial
        exact pcsOk_bad g1 (.inr g3)
      · refine vc_skip ?_
        refine inB_n ?_
        refine thn ?_
        refine vc_region ?_
        refine vo ?_
        try refine vwr ?_
        refine vo ?_
        refine vnt ?_
        refine ⟨i + 1, ?_, ?_, sub_i [] (fz ?_) (fz ?_)⟩
        · exact ⟨by omega, all_stp hI.2 g1 (pcOk_yes (by omega) g3)⟩
        · omega
        · first | rfl | trivial | exact ⟨rfl, rfl⟩
        · first | rfl | trivial
  · refine vc_exit ?_
    refine thn_x ?_
    refine thn_x ?_
    refine inB_x ?_
    refine thn ?_
    refine vc_sr ?_
    iterate 2 refine vo ?_
    try first | refine vlb ?_ | refine vln ?_
    iterate 2 refine vo ?_
    refine vnt ?_
    refine vc_ret ?_
    refine fin_i [] rfl (fz ?_) trivial
    exact pcsOk_end hI.2 g1
set_option maxHeartbeats 4000000 in
theorem c_spec_PiecesOk {l : List Pc} (hl_l : l.length ≤ 1099511627776 := by first | assumption | omega) : Con0 Tryz.prog 159 [.one (.sl 2 (l.map pcE))] (B (pcsOk l)) [] := by
  refine con_i Tryz.func159 Tryz.ntmps159 (t := [(0, .one (.sl 2 (l.map pcE)))]) rfl ?_
  refine vc_sr ?_
  refine vo ?_
  refine vnt ?_
  refine vc_seq' ?_
  refine vc_sr ?_
  refine vo ?_
  refine vnt ?_
  refine vc_block ?_
  refine vc_lp (σ := Nat) [0] [] (fun i => [(3, I (i : Nat))]) (fun i => []) (fun i => i ≤ l.length ∧ (l.take i).all pcOk = true) (fun i => l.length - i) 0 rfl rfl (sub_i [] (fz ?_) (fz ?_)) ?_ fun i hI => ?_
  · first | trivial | rfl
  · first | trivial | rfl
  · exact ⟨Nat.zero_le _, rfl⟩
  refine vc_nf rfl rfl ?_
  refine vc_seq' ?_
  refine vc_sr ?_
  iterate 3 refine vo ?_
  try first | refine vlb ?_ | refine vln ?_
  refine vo ?_
  refine vnt ?_
  refine vc_if (fun g1 => ?_) (fun g1 => ?_)
  · refine vc_skip ?_
    refine thn ?_
    refine vc_seq' ?_
    refine vc_block ?_
    refine vc_sr ?_
    iterate 3 refine vo ?_
    try with_reducible (first | refine vep ?_ | refine vpt ?_)
    iterate 4 refine vo ?_
    refine vsp (fun g2 => ?_) (fun g2 => ?_)
    · iterate 7 refine vof ?_
      refine vo ?_
      refine vnt ?_
      refine vc_then ?_
      refine vc_sr ?_
      refine vo ?_
      refine vnt ?_
      refine vc_ret ?_
      refine inB_r ?_
      refine thn_r ?_
      refine thn_r ?_
      refine inB_r ?_
      refine thn_r ?_
      refine fin_i [] rfl (fz ?_) trivial
      exact pcsOk_bad g1 (.inl g2)
    · iterate 3 refine von ?_
      try with_reducible (first | refine vep ?_ | refine vpt ?_)
      iterate 2 refine von ?_
      refine vocn c_spec_l01In rfl rfl ?_
      refine von ?_
      refine vo ?_
      refine vnt ?_
      refine vc_if (fun g3 => ?_) (fun g3 => ?_)
      · refine vc_sr ?_
        refine vo ?_
        refine vnt ?_
        refine vc_ret ?_
        refine inB_r ?_
        refine thn_r ?_
        refine thn_r ?_
        refine inB_r ?_
        refine thn_r ?_
        refine fin_i [] rfl (fz ?_) trivial
        exact pcsOk_bad g1 (.inr g3)
      · refine vc_skip ?_
        refine inB_n ?_
        refine thn ?_
        refine vc_region ?_
        iterate 2 refine vo ?_
        try refine vwr ?_
        refine vo ?_
        refine vnt ?_
        refine ⟨i + 1, ?_, ?_, sub_i [] (fz ?_) (fz ?_)⟩
        · exact ⟨by omega, all_stp hI.2 g1 (pcOk_yes (by omega) g3)⟩
        · omega
        · first | rfl | trivial | exact ⟨rfl, rfl⟩
        · first | rfl | trivial
  · refine vc_exit ?_
    refine thn_x ?_
    refine thn_x ?_
    refine inB_x ?_
    refine thn ?_
    refine vc_sr ?_
    iterate 2 refine vo ?_
    try first | refine vlb ?_ | refine vln ?_
    iterate 2 refine vo ?_
    refine vnt ?_
    refine vc_ret ?_
    refine fin_i [] rfl (fz ?_) trivial
    exact pcsOk_end hI.2 g1
set_option maxHeartbeats 4000000 in
theorem c_impl_DescribePacket {l : List Pc} {size ck : Int} (hl_l : l.length ≤ 1099511627776 := by first | assumption | omega) : Con0 Tryz.prog 81 [.one (.sl 2 (l.map pcE)), I size, I ck] (.one (.hs 0)) [(0, .arr 136 6 ((descrF l size ck).map dscE))] := by
  refine con_i Tryz.func81 Tryz.ntmps81 (t := [(0, .one (.sl 2 (l.map pcE))), (1, I size), (2, I ck)]) rfl ?_
  refine vc_sr ?_
  refine vo ?_
  refine vnt ?_
  refine vc_seq' ?_
  refine vc_sr ?_
  iterate 2 refine vo ?_
  try first | refine vlb ?_ | refine vln ?_
  iterate 2 refine vo ?_
  refine vsp (fun g1 => ?_) (fun g1 => ?_)
  · iterate 3 refine vof ?_
    iterate 2 refine vo ?_
    iterate 3 refine vof ?_
    refine vo ?_
    refine vnt ?_
    refine vc_then ?_
    refine vc_sr ?_
    refine vo ?_
    refine vnt ?_
    refine vc_ret ?_
    refine thn_r ?_
    refine fin_i [(0, none)] rfl (fz ?_) (fz ?_)
    · trivial
    · rw [descr_n (.inl (List.eq_nil_of_length_eq_zero (by omega)))]; rfl
  · refine von ?_
    refine vocn c_impl_PiecesOk rfl rfl ?_
    refine von ?_
    iterate 2 refine vo ?_
    refine vsp (fun g2 => ?_) (fun g2 => ?_)
    · iterate 3 refine vof ?_
      refine vo ?_
      refine vnt ?_
      refine vc_then ?_
      refine vc_sr ?_
      refine vo ?_
      refine vnt ?_
      refine vc_ret ?_
      refine thn_r ?_
      refine fin_i [(0, none)] rfl (fz ?_) (fz ?_)
      · trivial
      · rw [descr_n (.inr (.inl g2))]; rfl
    · refine von ?_
      refine vocn c_impl_between rfl rfl ?_
      refine von ?_
      refine vo ?_
      refine vnt ?_
      refine vc_if (fun g3 => ?_) (fun g3 => ?_)
      · refine vc_sr ?_
        refine vo ?_
        refine vnt ?_
        refine vc_ret ?_
        refine thn_r ?_
        refine fin_i [(0, none)] rfl (fz ?_) (fz ?_)
        · trivial
        · rw [descr_n (.inr (.inr (.inl g3)))]; rfl
      · have hpl := pcs_len g2
        have hne : ¬ l = [] := fun h => by subst h; simp at g1
        have hz2 := inB_iff.1 g3
        refine vc_skip ?_
        refine thn ?_
        refine vc_sr ?_
        iterate 5 refine vo ?_
        refine vnt ?_
        refine vc_seq' ?_
        refine vc_sr ?_
        iterate 2 refine vo ?_
        try first | refine vlb ?_ | refine vln ?_
        refine vo ?_
        refine vnt ?_
        refine vc_block ?_
        refine vc_lp (σ := Nat) [0, 2, 30, 31] [] (fun i => [(7, .one (.hs 7)), (32, I (i : Nat))]) (fun i => [(7, .arr 136 6 ((dsF l size ck (i + 1)).map dscE))]) (fun i => i ≤ l.length) (fun i => l.length - i) 0 rfl rfl (sub_i [(7, some 232)] (fz ?_) (fz ?_)) ?_ fun i hI => ?_
        · first | trivial | rfl
        · first | trivial | rfl | simp [dsF, dAt, dscE]
        · exact Nat.zero_le _
        refine vc_nf rfl rfl ?_
        have hdl := dsF_len l size ck (i + 1)
        refine vc_sr ?_
        refine vo ?_
        refine vnt ?_
        refine vc_seq' ?_
        refine vc_if (fun g4 => ?_) (fun g4 => ?_)
        · refine vc_skip ?_
          refine thn ?_
          refine vc_seq' ?_
          refine vc_block ?_
          refine vc_sr ?_
          iterate 2 refine vo ?_
          try with_reducible (first | refine vep ?_ | refine vpt ?_)
          iterate 4 refine vo ?_
          refine vnt ?_
          refine vc_sr ?_
          iterate 8 refine vo ?_
          refine vnt ?_
          refine vc_seq' ?_
          refine vc_sr ?_
          iterate 3 refine vo ?_
          try first | refine vlb ?_ | refine vln ?_
          refine vo ?_
          try refine vwr ?_
          refine vo ?_
          refine vnt ?_
          refine vc_if (fun g5 => ?_) (fun g5 => ?_)
          · have hfl : (if i + 1 = l.length then (1 : Int) else 0) = 1 := if_pos (by omega)
            refine vc_region ?_
            iterate 2 refine vo ?_
            refine vnt ?_
            refine vc_region ?_
            iterate 5 refine vo ?_
            refine vnil ?_
            refine inB_n ?_
            refine thn ?_
            refine vc_region ?_
            refine vo ?_
            try refine vwr ?_
            refine vo ?_
            refine vnt ?_
            refine ⟨i + 1, ?_, ?_, sub_i [(7, some 416)] (fz ?_) (fz ?_)⟩
            · first | omega | exact ⟨by omega, by assumption⟩
            · omega
            · first | trivial | rfl | exact ⟨rfl, rfl⟩
            · rw [← dsF_stp]; simp [dscE, dAt, hfl]
          · have hfl : (if i + 1 = l.length then (1 : Int) else 0) = 0 := if_neg (by omega)
            refine vc_skip ?_
            refine thn ?_
            refine vc_region ?_
            iterate 5 refine vo ?_
            refine vnil ?_
            refine inB_n ?_
            refine thn ?_
            refine vc_region ?_
            refine vo ?_
            try refine vwr ?_
            refine vo ?_
            refine vnt ?_
            refine ⟨i + 1, ?_, ?_, sub_i [(7, some 416)] (fz ?_) (fz ?_)⟩
            · first | omega | exact ⟨by omega, by assumption⟩
            · omega
            · first | trivial | rfl | exact ⟨rfl, rfl⟩
            · rw [← dsF_stp]; simp [dscE, dAt, hfl]
        · have hil : i = l.length := by omega
          subst hil
          refine vc_exit ?_
          refine thn_x ?_
          refine thn_x ?_
          refine inB_x ?_
          refine thn ?_
          refine vc_seq' ?_
          refine vc_sr ?_
          iterate 2 refine vo ?_
          try first | refine vlb ?_ | refine vln ?_
          refine vo ?_
          refine vnt ?_
          refine vc_block ?_
          refine vc_lp (σ := Nat) [7, 54, 55] [7] (fun j => [(56, I (j : Nat))]) (fun j => []) (fun j => j ≤ l.length + 1 ∧ ∀ q, q < j → dOk (dAt l size ck q) = true) (fun j => l.length + 1 - j) 0 rfl rfl (sub_i [] (fz ?_) (fz ?_)) ?_ fun j hJ => ?_
          · first | trivial | rfl
          · first | trivial | rfl
          · exact ⟨Nat.zero_le _, fun q h => by omega⟩
          refine vc_nf rfl rfl ?_
          have hda : j < l.length + 1 → at' (dsF l size ck (l.length + 1)) j = dAt l size ck j := fun h => dsF_at h
          have hdl := dsF_len l size ck (l.length + 1)
          refine vc_sr ?_
          refine vo ?_
          refine vnt ?_
          refine vc_seq' ?_
          refine vc_if (fun g6 => ?_) (fun g6 => ?_)
          · refine vc_skip ?_
            refine thn ?_
            refine vc_seq' ?_
            refine vc_block ?_
            refine vc_sr ?_
            refine vo ?_
            try with_reducible (first | refine vep ?_ | refine vpt ?_)
            iterate 3 refine vo ?_
            refine vnt ?_
            refine vc_sr ?_
            refine vo ?_
            refine voc c_impl_DescOk rfl rfl ?_
            refine vo ?_
            refine vnt ?_
            refine vc_if (fun g7 => ?_) (fun g7 => ?_)
            · refine vc_sr ?_
              refine vo ?_
              refine vnt ?_
              refine vc_ret ?_
              refine inB_r ?_
              refine thn_r ?_
              refine thn_r ?_
              refine inB_r ?_
              refine thn_r ?_
              refine fin_i [(0, none)] rfl (fz ?_) (fz ?_)
              · trivial
              · rw [descr_bad (i := j) (by omega) (by rw [← hda (by omega)]; exact g7)]; rfl
            · refine vc_skip ?_
              refine inB_n ?_
              refine thn ?_
              refine vc_region ?_
              refine vo ?_
              try refine vwr ?_
              refine vo ?_
              refine vnt ?_
              refine ⟨j + 1, ?_, ?_, sub_i [] (fz ?_) (fz ?_)⟩
              · exact ⟨by omega, upto_stp hJ.2 (by rw [← hda (by omega)]; assumption)⟩
              · omega
              · first | trivial | rfl | exact ⟨rfl, rfl⟩
              · first | trivial | rfl
          · refine vc_exit ?_
            refine thn_x ?_
            refine thn_x ?_
            refine inB_x ?_
            refine thn ?_
            refine vc_sr ?_
            iterate 2 refine vo ?_
            refine vnt ?_
            refine vc_ret ?_
            refine fin_i [(0, some 7)] rfl (fz ?_) (fz ?_)
            · trivial
            · rw [descr_y hne g2 g3 (ds_all fun q hq => hJ.2 q (by omega))]
set_option maxHeartbeats 4000000 in
theorem c_spec_DescribePacket {l : List Pc} {size ck : Int} (hl_l : l.length ≤ 1099511627776 := by first | assumption | omega) : Con0 Tryz.prog 69 [.one (.sl 2 (l.map pcE)), I size, I ck] (.one (.hs 0)) [(0, .arr 136 6 ((descrF l size ck).map dscE))] := by
  refine con_i Tryz.func69 Tryz.ntmps69 (t := [(0, .one (.sl 2 (l.map pcE))), (1, I size), (2, I ck)]) rfl ?_
  refine vc_sr ?_
  refine vo ?_
  refine vnt ?_
  refine vc_sr ?_
  iterate 4 refine vo ?_
  refine vh1 (es' := [((2, 0, 0, 0, size, ck) : Dsc)].map dscE) rfl ?_
  refine vo ?_
  refine vnt ?_
  refine vc_seq' ?_
  refine vc_sr ?_
  iterate 2 refine vo ?_
  try first | refine vlb ?_ | refine vln ?_
  iterate 2 refine vo ?_
  refine vsp (fun g1 => ?_) (fun g1 => ?_)
  · iterate 3 refine vof ?_
    iterate 2 refine vo ?_
    iterate 3 refine vof ?_
    iterate 2 refine vo ?_
    iterate 5 refine vof ?_
    refine vo ?_
    refine vnt ?_
    refine vc_then ?_
    refine vc_sr ?_
    iterate 2 refine vo ?_
    refine vnt ?_
    refine vc_ret ?_
    refine thn_r ?_
    refine fin_i [(0, some 272)] rfl (fz ?_) (fz ?_)
    · trivial
    · rw [descr_n (.inl (List.eq_nil_of_length_eq_zero (by omega)))]; rfl
  · refine von ?_
    refine vocn c_spec_PiecesOk rfl rfl ?_
    refine von ?_
    iterate 2 refine vo ?_
    refine vsp (fun g2 => ?_) (fun g2 => ?_)
    · iterate 3 refine vof ?_
      iterate 2 refine vo ?_
      iterate 5 refine vof ?_
      refine vo ?_
      refine vnt ?_
      refine vc_then ?_
      refine vc_sr ?_
      iterate 2 refine vo ?_
      refine vnt ?_
      refine vc_ret ?_
      refine thn_r ?_
      refine fin_i [(0, some 272)] rfl (fz ?_) (fz ?_)
      · trivial
      · rw [descr_n (.inr (.inl g2))]; rfl
    · refine von ?_
      refine vocn c_spec_l01In rfl rfl ?_
      refine von ?_
      iterate 2 refine vo ?_
      refine vsp (fun g3 => ?_) (fun g3 => ?_)
      · iterate 5 refine vof ?_
        refine vo ?_
        refine vnt ?_
        refine vc_then ?_
        refine vc_sr ?_
        iterate 2 refine vo ?_
        refine vnt ?_
        refine vc_ret ?_
        refine thn_r ?_
        refine fin_i [(0, some 272)] rfl (fz ?_) (fz ?_)
        · trivial
        · rw [descr_n (.inr (.inr (.inl g3)))]; rfl
      · have hpl := pcs_len g2
        have hne : ¬ l = [] := fun h => by subst h; simp at g1
        have hz2 := inB_iff.1 g3
        iterate 2 refine von ?_
        first | refine vepl (j := 0) rfl ?_ | refine vptl (j := 0) rfl ?_
        refine von ?_
        refine vocn c_spec_DescOk rfl rfl ?_
        refine von ?_
        refine vo ?_
        refine vnt ?_
        refine vc_if (fun g4 => ?_) (fun g4 => ?_)
        · refine vc_sr ?_
          iterate 2 refine vo ?_
          refine vnt ?_
          refine vc_ret ?_
          refine thn_r ?_
          refine fin_i [(0, some 272)] rfl (fz ?_) (fz ?_)
          · trivial
          · rw [descr_bad (l := l) (size := size) (ck := ck) (i := 0) (by omega) g4]; rfl
        · have g4 : dOk (dAt l size ck 0) = true := g4
          refine vc_skip ?_
          refine thn ?_
          refine vc_seq' ?_
          refine vc_sr ?_
          refine vo ?_
          refine vnt ?_
          refine vc_block ?_
          refine vc_lp (σ := Nat) [0, 2] [] (fun i => [(7, .one (.hs 7)), (8, I (i : Nat))]) (fun i => [(7, .arr 136 6 ((dsF l size ck (i + 1)).map dscE))]) (fun i => i ≤ l.length ∧ ∀ q, q < i + 1 → dOk (dAt l size ck q) = true) (fun i => l.length - i) 0 rfl rfl (sub_i [(7, some 104)] (fz ?_) (fz ?_)) ?_ fun i hI => ?_
          · first | trivial | rfl
          · first | trivial | rfl | simp [dsF, dAt, dscE]
          · exact ⟨Nat.zero_le _, fun q h => by obtain rfl : q = 0 := (by omega); exact g4⟩
          refine vc_nf rfl rfl ?_
          have hdl := dsF_len l size ck (i + 1)
          refine vc_seq' ?_
          refine vc_sr ?_
          iterate 3 refine vo ?_
          try first | refine vlb ?_ | refine vln ?_
          refine vo ?_
          refine vnt ?_
          refine vc_if (fun g5 => ?_) (fun g5 => ?_)
          · refine vc_skip ?_
            refine thn ?_
            refine vc_seq' ?_
            refine vc_block ?_
            refine vc_sr ?_
            iterate 3 refine vo ?_
            try with_reducible (first | refine vep ?_ | refine vpt ?_)
            iterate 5 refine vo ?_
            try with_reducible (first | refine vep ?_ | refine vpt ?_)
            iterate 6 refine vo ?_
            refine vnt ?_
            refine vc_seq' ?_
            refine vc_sr ?_
            iterate 3 refine vo ?_
            try first | refine vlb ?_ | refine vln ?_
            refine vo ?_
            try refine vwr ?_
            refine vo ?_
            refine vnt ?_
            refine vc_if (fun g6 => ?_) (fun g6 => ?_)
            · have hfl : (if i + 1 = l.length then (1 : Int) else 0) = 1 := if_pos (by omega)
              refine vc_region ?_
              iterate 2 refine vo ?_
              refine vnt ?_
              refine vc_seq' ?_
              refine vc_sr ?_
              refine vo ?_
              refine voc c_spec_DescOk rfl rfl ?_
              refine vo ?_
              refine vnt ?_
              refine vc_if (fun g7 => ?_) (fun g7 => ?_)
              · refine vc_sr ?_
                iterate 2 refine vo ?_
                refine vnt ?_
                refine vc_ret ?_
                refine thn_r ?_
                refine inB_r ?_
                refine thn_r ?_
                refine thn_r ?_
                refine inB_r ?_
                refine thn_r ?_
                refine fin_i [(0, some 496)] rfl (fz ?_) (fz ?_)
                · trivial
                · rw [descr_bad (l := l) (size := size) (ck := ck) (i := i + 1) (by omega) (by rw [ds_at hfl]; exact g7)]; rfl
              · refine vc_skip ?_
                refine thn ?_
                refine vc_region ?_
                iterate 5 refine vo ?_
                refine vnil ?_
                refine inB_n ?_
                refine thn ?_
                refine vc_region ?_
                iterate 2 refine vo ?_
                try refine vwr ?_
                refine vo ?_
                refine vnt ?_
                refine ⟨i + 1, ?_, ?_, sub_i [(7, some 528)] (fz ?_) (fz ?_)⟩
                · exact ⟨by omega, upto_stp hI.2 (by rw [ds_at hfl]; assumption)⟩
                · omega
                · first | trivial | rfl | exact ⟨rfl, rfl⟩
                · rw [← dsF_stp]; simp [dscE, dAt, hfl]
            · have hfl : (if i + 1 = l.length then (1 : Int) else 0) = 0 := if_neg (by omega)
              refine vc_skip ?_
              refine thn ?_
              refine vc_seq' ?_
              refine vc_sr ?_
              refine vo ?_
              refine voc c_spec_DescOk rfl rfl ?_
              refine vo ?_
              refine vnt ?_
              refine vc_if (fun g8 => ?_) (fun g8 => ?_)
              · refine vc_sr ?_
                iterate 2 refine vo ?_
                refine vnt ?_
                refine vc_ret ?_
                refine thn_r ?_
                refine inB_r ?_
                refine thn_r ?_
                refine thn_r ?_
                refine inB_r ?_
                refine thn_r ?_
                refine fin_i [(0, some 496)] rfl (fz ?_) (fz ?_)
                · trivial
                · rw [descr_bad (l := l) (size := size) (ck := ck) (i := i + 1) (by omega) (by rw [ds_at hfl]; exact g8)]; rfl
              · refine vc_skip ?_
                refine thn ?_
                refine vc_region ?_
                iterate 5 refine vo ?_
                refine vnil ?_
                refine inB_n ?_
                refine thn ?_
                refine vc_region ?_
                iterate 2 refine vo ?_
                try refine vwr ?_
                refine vo ?_
                refine vnt ?_
                refine ⟨i + 1, ?_, ?_, sub_i [(7, some 528)] (fz ?_) (fz ?_)⟩
                · exact ⟨by omega, upto_stp hI.2 (by rw [ds_at hfl]; assumption)⟩
                · omega
                · first | trivial | rfl | exact ⟨rfl, rfl⟩
                · rw [← dsF_stp]; simp [dscE, dAt, hfl]
          · refine vc_exit ?_
            refine thn_x ?_
            refine thn_x ?_
            refine inB_x ?_
            refine thn ?_
            refine vc_sr ?_
            iterate 2 refine vo ?_
            refine vnt ?_
            refine vc_ret ?_
            refine fin_i [(0, some 7)] rfl (fz ?_) (fz ?_)
            · trivial
            · rw [descr_y hne g2 g3 (ds_all fun q hq => hI.2 q (by omega)), show l.length = i by omega]
set_option maxHeartbeats 4000000 in
theorem c_impl_PiecesOfDescs {l : List Dsc} (hl_l : l.length ≤ 1000000 := by first | assumption | omega) : Con0 Tryz.prog 85 [.one (.sl 6 (l.map dscE))] (.tup [.one (.hs 0), I (podS l), I (podC l), B (podB l)]) [(0, .arr 131 2 ((podF l).map pcE))] := by
  have hE := eqk_Desc
  refine con_i Tryz.func85 Tryz.ntmps85 (t := [(0, .one (.sl 6 (l.map dscE)))]) rfl ?_
  refine vc_sr ?_
  iterate 4 refine vo ?_
  refine vnt ?_
  refine vc_seq' ?_
  refine vc_sr ?_
  iterate 2 refine vo ?_
  try first | refine vlb ?_ | refine vln ?_
  refine vo ?_
  refine vnt ?_
  refine vc_if (fun g1 => ?_) (fun g1 => ?_)
  · refine vc_sr ?_
    iterate 4 refine vo ?_
    refine vnt ?_
    refine vc_ret ?_
    refine thn_r ?_
    have hh := pod_n (l := l) (.inl (by omega))
    refine fin_i [(0, none)] rfl (fz ?_) (fz ?_)
    · rw [hh.2.1, hh.2.2.1, hh.2.2.2]; trivial
    · rw [hh.1]; rfl
  · refine vc_skip ?_
    refine thn ?_
    refine vc_sr ?_
    iterate 2 refine vo ?_
    refine vnt ?_
    refine vc_seq' ?_
    refine vc_sr ?_
    iterate 2 refine vo ?_
    try first | refine vdrl (j := 1) rfl ?_ | refine vhc (j := 1) rfl ?_
    refine vo ?_
    try first | refine vlb ?_ | refine vln ?_
    refine vo ?_
    refine vnt ?_
    refine vc_block ?_
    refine vc_lp (σ := Nat) [0, 18, 19] [] (fun i => [(6, .one (.hs 7)), (20, I (i : Nat))]) (fun i => [(7, .arr 131 2 ((((l.drop 1).take i).map podP).map pcE))]) (fun i => i ≤ (l.drop 1).length) (fun i => (l.drop 1).length - i) 0 rfl rfl (sub_i [(7, some 128)] (fz ?_) (fz ?_)) ?_ fun i hI => ?_
    · first | trivial | rfl
    · first | trivial | rfl
    · exact Nat.zero_le _
    refine vc_nf rfl rfl ?_
    have hdl : (l.drop 1).length = l.length - 1 := List.length_drop
    have htl : (((l.drop 1).take i).map podP).length = i := by rw [List.length_map, List.length_take]; omega
    refine vc_sr ?_
    refine vo ?_
    refine vnt ?_
    refine vc_seq' ?_
    refine vc_if (fun g2 => ?_) (fun g2 => ?_)
    · refine vc_skip ?_
      refine thn ?_
      refine vc_seq' ?_
      refine vc_block ?_
      refine vc_sr ?_
      refine vo ?_
      try with_reducible (first | refine vep ?_ | refine vpt ?_)
      iterate 3 refine vo ?_
      refine vnt ?_
      refine vc_region ?_
      iterate 9 refine vo ?_
      refine vnil ?_
      refine inB_n ?_
      refine thn ?_
      refine vc_region ?_
      refine vo ?_
      try refine vwr ?_
      refine vo ?_
      refine vnt ?_
      refine ⟨i + 1, ?_, ?_, sub_i [(7, some 248)] (fz ?_) (fz ?_)⟩
      · omega
      · omega
      · first | trivial | rfl | exact ⟨rfl, rfl⟩
      · rw [← podL_stp (by omega)]; simp [pcE, podP]
    · rw [podL_end (by omega)]
      have hpl := podL_len l
      have hwl := descrF_le (podL l) (at' l 0).2.2.2.2.1 (at' l 0).2.2.2.2.2
      refine vc_exit ?_
      refine thn_x ?_
      refine thn_x ?_
      refine inB_x ?_
      refine thn ?_
      refine vc_sr ?_
      iterate 2 refine vo ?_
      first | refine vepl (j := 0) rfl ?_ | refine vptl (j := 0) rfl ?_
      iterate 4 refine vo ?_
      first | refine vepl (j := 0) rfl ?_ | refine vptl (j := 0) rfl ?_
      iterate 4 refine vo ?_
      refine vnt ?_
      refine vc_sr ?_
      iterate 3 refine vo ?_
      refine voc c_impl_DescribePacket rfl rfl ?_
      refine vo ?_
      refine vnt ?_
      refine vc_seq' ?_
      refine vc_sr ?_
      iterate 2 refine vo ?_
      try first | refine vlb ?_ | refine vln ?_
      iterate 2 refine vo ?_
      try first | refine vlb ?_ | refine vln ?_
      refine vo ?_
      refine vnt ?_
      refine vc_if (fun g3 => ?_) (fun g3 => ?_)
      · refine vc_sr ?_
        iterate 4 refine vo ?_
        refine vnt ?_
        refine vc_ret ?_
        refine thn_r ?_
        have hh := pod_n (l := l) (.inr fun h => g3 (by rw [h]))
        refine fin_i [(0, none)] rfl (fz ?_) (fz ?_)
        · rw [hh.2.1, hh.2.2.1, hh.2.2.2]; trivial
        · rw [hh.1]; rfl
      · refine vc_skip ?_
        refine thn ?_
        refine vc_seq' ?_
        refine vc_sr ?_
        iterate 2 refine vo ?_
        try first | refine vlb ?_ | refine vln ?_
        refine vo ?_
        refine vnt ?_
        refine vc_block ?_
        refine vc_lp (σ := Nat) [0, 6, 9, 10, 11, 51] [7, 352] (fun j => [(52, I (j : Nat))]) (fun j => []) (fun j => j ≤ (descrF (podL l) (at' l 0).2.2.2.2.1 (at' l 0).2.2.2.2.2).length ∧ ∀ q, q < j → at' (descrF (podL l) (at' l 0).2.2.2.2.1 (at' l 0).2.2.2.2.2) q = at' l q) (fun j => (descrF (podL l) (at' l 0).2.2.2.2.1 (at' l 0).2.2.2.2.2).length - j) 0 rfl rfl (sub_i [] (fz ?_) (fz ?_)) ?_ fun j hJ => ?_
        · first | trivial | rfl
        · first | trivial | rfl
        · exact ⟨Nat.zero_le _, fun q h => by omega⟩
        refine vc_nf rfl rfl ?_
        refine vc_sr ?_
        refine vo ?_
        refine vnt ?_
        refine vc_seq' ?_
        refine vc_if (fun g4 => ?_) (fun g4 => ?_)
        · refine vc_skip ?_
          refine thn ?_
          refine vc_seq' ?_
          refine vc_block ?_
          refine vc_sr ?_
          iterate 2 refine vo ?_
          refine vnt ?_
          refine vc_sr ?_
          iterate 3 refine vo ?_
          try with_reducible (first | refine vep ?_ | refine vpt ?_)
          iterate 4 refine vo ?_
          try with_reducible (first | refine vep ?_ | refine vpt ?_)
          iterate 2 refine vo ?_
          refine vnt ?_
          refine vc_if (fun g5 => ?_) (fun g5 => ?_)
          · refine vc_sr ?_
            iterate 4 refine vo ?_
            refine vnt ?_
            refine vc_ret ?_
            refine inB_r ?_
            refine thn_r ?_
            refine thn_r ?_
            refine inB_r ?_
            refine thn_r ?_
            have hh := pod_n (l := l) (.inr fun h => ceq_no g5 (by rw [h]))
            refine fin_i [(0, none)] rfl (fz ?_) (fz ?_)
            · rw [hh.2.1, hh.2.2.1, hh.2.2.2]; trivial
            · rw [hh.1]; rfl
          · refine vc_skip ?_
            refine inB_n ?_
            refine thn ?_
            refine vc_region ?_
            refine vo ?_
            try refine vwr ?_
            refine vo ?_
            refine vnt ?_
            refine ⟨j + 1, ?_, ?_, sub_i [] (fz ?_) (fz ?_)⟩
            · exact ⟨by omega, same_stp hJ.2 (ceq_yes (by assumption))⟩
            · omega
            · first | trivial | rfl | exact ⟨rfl, rfl⟩
            · first | trivial | rfl
        · refine vc_exit ?_
          refine thn_x ?_
          refine thn_x ?_
          refine inB_x ?_
          refine thn ?_
          refine vc_sr ?_
          iterate 7 refine vo ?_
          refine vnt ?_
          refine vc_ret ?_
          have hh := pod_y (l := l) (by omega) (same_end (by omega) hJ.2 (by omega))
          refine fin_i [(0, some 7)] rfl (fz ?_) (fz ?_)
          · rw [hh.2.1, hh.2.2.1, hh.2.2.2]; trivial
          · rw [hh.1]
theorem atp_mem' {α : Type} [Inhabited α] {l : List α} {i : Nat} (h : i < l.length) : at' l i ∈ l := by rw [atq_eq h]; exact List.getElem_mem h
set_option maxHeartbeats 4000000 in
theorem c_impl_GatherPieces {l : List Mp} {ps : Pg} {d : Int} {pcs : List Pc} (hl : l.length ≤ 1099511627776 := by first | assumption | omega) (hp : ps.length ≤ 1099511627776 := by first | assumption | omega) (hl_pcs : pcs.length ≤ 1099511627776 := by first | assumption | omega) (hb : ∀ x ∈ pcs, x.1 ≤ 9223372036854775807 := by assumption) : Con0 Tryz.prog 86 [.one (.sl 4 (l.map mpE)), .agg [.sl 1 (ps.map strE)], I d, .one (.sl 2 (pcs.map pcE))] (.tup [Z (gathF l ps d pcs).1, B (gathF l ps d pcs).2]) [] := by
  refine con_i Tryz.func86 Tryz.ntmps86 (t := [(0, .one (.sl 4 (l.map mpE))), (1, .agg [.sl 1 (ps.map strE)]), (2, I d), (3, .one (.sl 2 (pcs.map pcE)))]) rfl ?_
  refine vc_sr ?_
  iterate 3 refine vo ?_
  refine vnt ?_
  refine vc_seq' ?_
  refine vc_sr ?_
  refine vo ?_
  refine voc c_impl_PiecesOk rfl rfl ?_
  refine vo ?_
  refine vnt ?_
  refine vc_if (fun g1 => ?_) (fun g1 => ?_)
  · refine vc_sr ?_
    iterate 2 refine vo ?_
    refine vnt ?_
    refine vc_ret ?_
    refine thn_r ?_
    refine fin_i [] rfl (fz ?_) trivial
    rw [gathF_n g1]
    trivial
  · refine vc_skip ?_
    refine thn ?_
    refine vc_sr ?_
    refine vo ?_
    refine vnt ?_
    refine vc_seq' ?_
    refine vc_sr ?_
    iterate 2 refine vo ?_
    try first | refine vlb ?_ | refine vln ?_
    refine vo ?_
    refine vnt ?_
    refine vc_block ?_
    refine vc_lp2 [0, 2, 5, 18, 19] [40] (fun (i : Nat) (o : ByteArray) => [(10, Z o), (20, I (i : Nat))]) (fun (i : Nat) (o : ByteArray) => []) (fun (i : Nat) (o : ByteArray) => i ≤ pcs.length ∧ gath l ps d pcs ⟨#[]⟩ = gath l ps d (pcs.drop i) o ∧ o.size ≤ 4096 * i) (fun (i : Nat) (o : ByteArray) => pcs.length - i) 0 ⟨#[]⟩ rfl rfl (sub_i [] (fz ?_) (fz ?_)) ?_ fun i o hI => ?_
    · first | trivial | rfl | exact ⟨rfl, rfl⟩
    · first | trivial | rfl
    · exact ⟨Nat.zero_le _, rfl, Nat.zero_le _⟩
    refine vc_nf rfl rfl ?_
    refine vc_sr ?_
    refine vo ?_
    refine vnt ?_
    refine vc_seq' ?_
    refine vc_if (fun g2 => ?_) (fun g2 => ?_)
    · have hbi := hb _ (atp_mem' g2)
      have hpi := (pcsOk_iff.1 g1).1 i g2
      have hdz := dmaRF_le l ps d (at' pcs i).1 (at' pcs i).2 hpi.2.2
      have hpl := (pcsOk_iff.1 g1).2
      refine vc_skip ?_
      refine thn ?_
      refine vc_seq' ?_
      refine vc_block ?_
      refine vc_sr ?_
      refine vo ?_
      try with_reducible (first | refine vep ?_ | refine vpt ?_)
      iterate 3 refine vo ?_
      refine vnt ?_
      refine vc_sr ?_
      iterate 7 refine vo ?_
      refine voc c_impl_DmaRead rfl rfl ?_
      iterate 5 refine vo ?_
      refine vnt ?_
      refine vc_seq' ?_
      refine vc_sr ?_
      iterate 2 refine vo ?_
      refine vnt ?_
      refine vc_if (fun g3 => ?_) (fun g3 => ?_)
      · refine vc_sr ?_
        iterate 2 refine vo ?_
        refine vnt ?_
        refine vc_ret ?_
        refine thn_r ?_
        refine inB_r ?_
        refine thn_r ?_
        refine thn_r ?_
        refine inB_r ?_
        refine thn_r ?_
        refine fin_i [] rfl (fz ?_) trivial
        rw [gathF_y g1, gath_bad hI.2.1 g2 g3]
        trivial
      · refine vc_skip ?_
        refine thn ?_
        refine vc_region ?_
        iterate 4 refine vo ?_
        refine vnil ?_
        refine inB_n ?_
        refine thn ?_
        refine vc_region ?_
        refine vo ?_
        try refine vwr ?_
        refine vo ?_
        refine vnt ?_
        refine ⟨i + 1, o ++ (dmaRF l ps d (at' pcs i).1 (at' pcs i).2).1, ?_, ?_, sub_i [] (fz ?_) (fz ?_)⟩
        · exact ⟨by omega, gath_stp hI.2.1 g2 g3, by rw [ByteArray.size_append]; omega⟩
        · omega
        · first | trivial | rfl | exact ⟨rfl, rfl⟩
        · first | trivial | rfl
    · refine vc_exit ?_
      refine thn_x ?_
      refine thn_x ?_
      refine inB_x ?_
      refine thn ?_
      refine vc_sr ?_
      iterate 3 refine vo ?_
      refine vnt ?_
      refine vc_ret ?_
      refine fin_i [] rfl (fz ?_) trivial
      rw [gathF_y g1, gath_end hI.2.1 (by omega)]
      trivial
set_option maxHeartbeats 4000000 in
theorem c_impl_TakeChain {l : List Mp} {ps : Pg} {d b s h t : Int} (hl : l.length ≤ 1099511627776 := by first | assumption | omega) (hp : ps.length ≤ 1099511627776 := by first | assumption | omega) : Con0 Tryz.prog 84 [.one (.sl 4 (l.map mpE)), .agg [.sl 1 (ps.map strE)], I d, .agg [V b, V s, V h, V t]] (.tup [.one (.hs 0), .agg [V b, V s, V (tcF l ps d b s h t).2.1, V t], B (tcF l ps d b s h t).2.2]) [(0, .arr 136 6 ((tcF l ps d b s h t).1.map dscE))] := by
  refine con_i Tryz.func84 Tryz.ntmps84 (t := [(0, .one (.sl 4 (l.map mpE))), (1, .agg [.sl 1 (ps.map strE)]), (2, I d), (3, .agg [V b, V s, V h, V t])]) rfl ?_
  refine vc_sr ?_
  iterate 5 refine vo ?_
  refine vnt ?_
  refine vc_seq' ?_
  refine vc_sr ?_
  refine vo ?_
  refine voc c_impl_RingOk rfl rfl ?_
  iterate 2 refine vo ?_
  refine vsp (fun g1 => ?_) (fun g1 => ?_)
  · iterate 3 refine vof ?_
    refine vo ?_
    refine vnt ?_
    refine vc_then ?_
    refine vc_sr ?_
    iterate 4 refine vo ?_
    refine vnt ?_
    refine vc_ret ?_
    refine thn_r ?_
    have hh := tc_n (l := l) (ps := ps) (d := d) (b := b) (s := s) (h := h) (t := t) (.inl g1)
    refine fin_i [(0, none)] rfl (fz ?_) (fz ?_)
    · rw [hh]; trivial
    · first | (rw [hh]; done) | (rw [hh]; simp [dscE, dsc1])
  · have hs0 := (ringOk_facts g1).1
    refine von ?_
    refine vocn c_impl_RingUsed rfl rfl ?_
    refine von ?_
    refine vo ?_
    refine vnt ?_
    refine vc_if (fun g2 => ?_) (fun g2 => ?_)
    · refine vc_sr ?_
      iterate 4 refine vo ?_
      refine vnt ?_
      refine vc_ret ?_
      refine thn_r ?_
      have hh := tc_n (l := l) (ps := ps) (d := d) (b := b) (s := s) (h := h) (t := t) (.inr g2)
      refine fin_i [(0, none)] rfl (fz ?_) (fz ?_)
      · rw [hh]; trivial
      · first | (rw [hh]; done) | (rw [hh]; simp [dscE, dsc1])
    · refine vc_skip ?_
      refine thn ?_
      refine vc_sr ?_
      iterate 3 refine vo ?_
      refine vnt ?_
      refine vc_sr ?_
      iterate 4 refine vo ?_
      refine vnt ?_
      refine vc_sr ?_
      iterate 2 refine vo ?_
      refine vnt ?_
      refine vc_seq' ?_
      refine vc_block ?_
      refine vc_lp2 [0, 2, 5, 7, 9, 11] [40, 88] (fun (h1 : Int) (o : List Dsc) => [(12, .one (.hs 7))]) (fun (h1 : Int) (o : List Dsc) => [(7, .arr 136 6 (o.map dscE)), (56, .row 29 [V b, V s, V h1, V t]), (72, .row 29 [V 0, V 0, V 0, V 0])]) (fun (h1 : Int) (o : List Dsc) => ringOkB b s h1 t = true ∧ chn l ps d b s t (usedF s h t).toNat h [] = chn l ps d b s t (usedF s h1 t).toNat h1 o ∧ (o.length : Int) + usedF s h1 t ≤ 16) (fun (h1 : Int) (o : List Dsc) => (usedF s h1 t).toNat) h [] rfl rfl (sub_i [(56, some 56), (72, some 72), (7, some 240)] (fz ?_) (fz ?_)) ?_ fun h1 o hI => ?_
      · first | trivial | rfl
      · first | trivial | rfl | exact ⟨rfl, rfl⟩
      · exact ⟨g1, rfl, by have := used_bd g1; simp; omega⟩
      refine vc_nf rfl rfl ?_
      have hr := hI.1
      have hsz := sizeB_cases (ringOk_facts hr).1
      have hs1 := (ringOk_facts hr).1
      have hub := used_bd hr
      have hrz := rt_sz l ps d b s h1 t
      refine vc_seq' ?_
      refine vc_sr ?_
      refine vo ?_
      refine voc c_impl_RingUsed rfl rfl ?_
      refine vo ?_
      refine vnt ?_
      refine vc_if (fun g3 => ?_) (fun g3 => ?_)
      · refine vc_skip ?_
        refine thn ?_
        refine vc_block ?_
        refine vc_sr ?_
        iterate 4 refine vo ?_
        refine voc c_impl_RingTake rfl rfl ?_
        iterate 8 refine vo ?_
        refine vnt ?_
        refine vc_seq' ?_
        refine vc_sr ?_
        iterate 2 refine vo ?_
        refine vnt ?_
        refine vc_if (fun g4 => ?_) (fun g4 => ?_)
        · refine vc_sr ?_
          iterate 4 refine vo ?_
          refine vnt ?_
          refine vc_ret ?_
          refine thn_r ?_
          refine inB_r ?_
          refine thn_r ?_
          refine inB_r ?_
          refine thn_r ?_
          have hc : chn l ps d b s t (usedF s h t).toNat h [] = none := by rw [hI.2.1, chn_no (by omega) (.inl g4)]
          have hh := tc_f g1 g2 hc
          refine fin_i [(0, none)] rfl (fz ?_) (fz ?_)
          · rw [hh]; trivial
          · first | (rw [hh]; done) | (rw [hh]; simp [dscE, dsc1])
        · have gr := g4
          obtain ⟨e2, q2, u2, z2⟩ := rt_true hr g4
          rw [e2]
          refine vc_skip ?_
          refine thn ?_
          refine vc_sr ?_
          refine vo ?_
          refine voc c_impl_DecodeDesc rfl rfl ?_
          iterate 6 refine vo ?_
          refine vnt ?_
          refine vc_seq' ?_
          refine vc_sr ?_
          iterate 2 refine vo ?_
          refine vnt ?_
          refine vc_if (fun g5 => ?_) (fun g5 => ?_)
          · refine vc_sr ?_
            iterate 4 refine vo ?_
            refine vnt ?_
            refine vc_ret ?_
            refine thn_r ?_
            refine inB_r ?_
            refine thn_r ?_
            refine inB_r ?_
            refine thn_r ?_
            have hc : chn l ps d b s t (usedF s h t).toNat h [] = none := by rw [hI.2.1, chn_no (by omega) (.inr g5)]
            have hh := tc_f g1 g2 hc
            refine fin_i [(0, none)] rfl (fz ?_) (fz ?_)
            · rw [hh]; trivial
            · first | (rw [hh]; done) | (rw [hh]; simp [dscE, dsc1])
          · have gd : (dsc1 l ps d b s t h1).2 = true := g5
            refine vc_skip ?_
            refine thn ?_
            refine vc_sr ?_
            iterate 2 refine vo ?_
            refine vnt ?_
            refine vc_sr ?_
            iterate 5 refine vo ?_
            refine vnt ?_
            refine vc_sr ?_
            iterate 4 refine vo ?_
            refine vsp (fun g6 => ?_) (fun g6 => ?_)
            · have ga : (dsc1 l ps d b s t h1).1.1 = 1 := g6
              have hm := and1 (dsc1 l ps d b s t h1).1.2.1
              iterate 4 refine von ?_
              refine vo ?_
              refine vnt ?_
              refine vc_if (fun g7 => ?_) (fun g7 => ?_)
              · have hl : (dsc1 l ps d b s t h1).1.2.1 % 2 = 1 := by have g7 : ¬ andI (dsc1 l ps d b s t h1).1.2.1 1 = 0 := g7; omega
                refine vc_exit ?_
                refine inB_y ?_
                refine thn_x ?_
                refine inB_x ?_
                refine thn ?_
                refine vc_sr ?_
                iterate 5 refine vo ?_
                refine vnt ?_
                refine vc_ret ?_
                have hc : chn l ps d b s t (usedF s h t).toNat h [] = some (o ++ [(dsc1 l ps d b s t h1).1], rnext s h1) := by rw [hI.2.1, chn_last (by omega) gr gd ga hl]
                have hh := tc_y g1 g2 hc
                refine fin_i [(0, some 464)] rfl (fz ?_) (fz ?_)
                · rw [hh]; trivial
                · first | (rw [hh]; done) | (rw [hh]; simp [dscE, dsc1])
              · have hf : ¬ ((dsc1 l ps d b s t h1).1.1 = 1 ∧ (dsc1 l ps d b s t h1).1.2.1 % 2 = 1) := fun hh => by have g7 : andI (dsc1 l ps d b s t h1).1.2.1 1 = 0 := g7; omega
                refine vc_skip ?_
                refine inB_n ?_
                refine thn ?_
                refine ⟨rnext s h1, o ++ [(dsc1 l ps d b s t h1).1], ?_, ?_, sub_i [(56, some 56), (72, some 72), (7, some 464)] (fz ?_) (fz ?_)⟩
                · exact ⟨q2, by rw [hI.2.1, chn_go (by omega) gr gd hf, u2]; congr 1; omega, by simp only [List.length_append, List.length_cons, List.length_nil]; omega⟩
                · omega
                · first | trivial | rfl
                · first | trivial | rfl | (simp [dscE, dsc1]; done) | (refine ⟨?_, ?_⟩ <;> first | rfl | simp [dscE, dsc1]) | trace_state
            · have hf : ¬ ((dsc1 l ps d b s t h1).1.1 = 1 ∧ (dsc1 l ps d b s t h1).1.2.1 % 2 = 1) := fun hh => g6 hh.1
              iterate 4 refine vof ?_
              refine vo ?_
              refine vnt ?_
              refine vc_else ?_
              refine vc_skip ?_
              refine inB_n ?_
              refine thn ?_
              refine ⟨rnext s h1, o ++ [(dsc1 l ps d b s t h1).1], ?_, ?_, sub_i [(56, some 56), (72, some 72), (7, some 464)] (fz ?_) (fz ?_)⟩
              · exact ⟨q2, by rw [hI.2.1, chn_go (by omega) gr gd hf, u2]; congr 1; omega, by simp only [List.length_append, List.length_cons, List.length_nil]; omega⟩
              · omega
              · first | trivial | rfl
              · first | trivial | rfl | (simp [dscE, dsc1]; done) | (refine ⟨?_, ?_⟩ <;> first | rfl | simp [dscE, dsc1]) | trace_state
      · refine vc_exit ?_
        refine thn_x ?_
        refine thn_x ?_
        refine inB_x ?_
        refine thn ?_
        refine vc_sr ?_
        iterate 5 refine vo ?_
        refine vnt ?_
        refine vc_ret ?_
        have hc : chn l ps d b s t (usedF s h t).toNat h [] = some (o, h1) := by rw [hI.2.1, show (usedF s h1 t).toNat = 0 by omega]; rfl
        have hh := tc_y g1 g2 hc
        refine fin_i [(0, some 7)] rfl (fz ?_) (fz ?_)
        · rw [hh]; trivial
        · first | (rw [hh]; done) | (rw [hh]; simp [dscE, dsc1])
end Go.Proofs.YtbdcaacpemkloaaGreat
end
section
namespace Go.Proofs.YtbdcaacpemkloaaGreat
open Go Go.RowKit Go.Vc
set_option linter.unusedVariables false
set_option linter.unusedSimpArgs false
set_option linter.unnecessarySimpa false
theorem eth_sz {s : ByteArray} (h : (ethX s).ok = true) : 18 ≤ s.size := by
  have h2 : inB ((ethX s).body.size : Int) 46 400 = true := by
    unfold EthX.ok ethOkB at h
    simp only [Bool.and_eq_true] at h
    exact h.2
  have := inB_iff.1 h2
  have := ethX_body s
  omega
theorem eth_n {s : ByteArray} {e : EthX} (hx : ethX s = e) (h : s.size < 18 ∨ e.ok = false) : ethPF s = ⟨0, 0, 0, 0, ⟨#[]⟩⟩ ∧ ethPB s = false := by
  have hb : ethPB s = false := by
    unfold ethPB
    rcases h with h | h
    · rw [decide_eq_false (by omega)]; rfl
    · rw [hx, h, Bool.and_false]
  exact ⟨ethPF_n hb, hb⟩
theorem eth_y {s : ByteArray} {e : EthX} (hx : ethX s = e) (h : e.ok = true) : ethPF s = e ∧ ethPB s = true := by
  have hb : ethPB s = true := by
    have := eth_sz (hx ▸ h)
    unfold ethPB
    rw [decide_eq_true this, hx, h]; rfl
  exact ⟨(ethPF_y hb).trans hx, hb⟩
theorem ip_n {s : ByteArray} (h : s.size < 20 ∨ get16 s 2 < 20 ∨ (s.size : Int) < get16 s 2 ∨ (ipX s).ok = false ∨ ¬ (ipX s).im = s.extract (Int.toNat 0) (get16 s 2).toNat) : ipPF s = ⟨0, 0, 0, 0, 0, 0, ⟨#[]⟩⟩ ∧ ipPB s = false := by
  have hb : ipPB s = false := by
    unfold ipPB
    rcases h with h | h | h | h | h
    · rw [decide_eq_false (by omega)]; rfl
    · rw [decide_eq_false (p := 20 ≤ get16 s 2) (by omega)]; simp
    · rw [decide_eq_false (p := get16 s 2 ≤ s.size) (by omega)]; simp
    · rw [h]; simp
    · rw [decide_eq_false h]; simp
  exact ⟨ipPF_n hb, hb⟩
theorem ip_y {s : ByteArray} (h1 : 20 ≤ s.size) (h2 : 20 ≤ get16 s 2) (h3 : get16 s 2 ≤ s.size) (h4 : (ipX s).ok = true) (h5 : (ipX s).im = s.extract (Int.toNat 0) (get16 s 2).toNat) : ipPF s = ipX s ∧ ipPB s = true := by
  have hb : ipPB s = true := by
    unfold ipPB
    rw [decide_eq_true h1, decide_eq_true h2, decide_eq_true h3, h4, decide_eq_true h5]; rfl
  exact ⟨ipPF_y hb, hb⟩
theorem seg_n0 {src dst kind : Int} {s : ByteArray} (h1 : ¬ (kind = 6 ∧ 20 ≤ s.size)) (h2 : ¬ (kind = 17 ∧ 8 ≤ s.size)) : segPF src dst kind s = ⟨0, 0, 0, 0, 0, 0, 0, ⟨#[]⟩⟩ ∧ segPB src dst kind s = false := by
  have hb : segPB src dst kind s = false := by
    unfold segPB
    have e1 : (decide (kind = 6) && decide (20 ≤ s.size)) = false := by rw [← Bool.decide_and]; exact decide_eq_false h1
    have e2 : (decide (kind = 17) && decide (8 ≤ s.size)) = false := by rw [← Bool.decide_and]; exact decide_eq_false h2
    rw [e1, e2]; rfl
  exact ⟨segPF_n hb, hb⟩
theorem seg_nx {src dst kind : Int} {s : ByteArray} {g : SegX} (hx : segX kind s = g) (h : g.ok src dst = false ∨ ¬ g.im src dst = s) : segPF src dst kind s = ⟨0, 0, 0, 0, 0, 0, 0, ⟨#[]⟩⟩ ∧ segPB src dst kind s = false := by
  have hb : segPB src dst kind s = false := by
    unfold segPB
    rw [hx]
    rcases h with h | h
    · rw [h]; simp
    · rw [decide_eq_false h]; simp
  exact ⟨segPF_n hb, hb⟩
theorem seg_yx {src dst kind : Int} {s : ByteArray} {g : SegX} (hx : segX kind s = g) (hk : (kind = 6 ∧ 20 ≤ s.size) ∨ (kind = 17 ∧ 8 ≤ s.size)) (h1 : g.ok src dst = true) (h2 : g.im src dst = s) : segPF src dst kind s = g ∧ segPB src dst kind s = true := by
  have hb : segPB src dst kind s = true := by
    unfold segPB
    rw [hx, h1, decide_eq_true h2]
    rcases hk with ⟨a, b⟩ | ⟨a, b⟩ <;> rw [decide_eq_true a, decide_eq_true b] <;> simp
  exact ⟨(segPF_y hb).trans hx, hb⟩
set_option maxHeartbeats 4000000 in
theorem c_impl_ParseEth {s : ByteArray} (hs_s : s.size ≤ 1099511627776 := by first | assumption | omega | (simp only [ByteArray.size_append, ByteArray.size_extract, strOfNums_size, List.length_cons, List.length_nil]; omega)) : Con0 Tryz.prog 178 [Z s] (.tup [.agg [V (ethPF s).dst, V (ethPF s).src, V (ethPF s).vl, V (ethPF s).ty, VS (ethPF s).body], B (ethPB s)]) [] := by
  refine con_i Tryz.func178 Tryz.ntmps178 (t := [(0, Z s)]) rfl ?_
  refine vc_sr ?_
  iterate 2 refine vo ?_
  refine vnt ?_
  refine vc_seq' ?_
  refine vc_sr ?_
  iterate 3 refine vo ?_
  refine vnt ?_
  refine vc_if (fun g1 => ?_) (fun g1 => ?_)
  · refine vc_sr ?_
    iterate 3 refine vo ?_
    refine vnt ?_
    refine vc_ret ?_
    refine thn_r ?_
    refine fin_i [] rfl (fz ?_) trivial
    have hh := eth_n (s := s) rfl (.inl (by omega))
    rw [hh.1, hh.2]
    trivial
  · have k0 := get16_in (s := s) (i := 0) (by omega) (by omega)
    have k1 := get32_in (s := s) (i := 2) (by omega) (by omega)
    have k2 := get16_in (s := s) (i := 6) (by omega) (by omega)
    have k3 := get32_in (s := s) (i := 8) (by omega) (by omega)
    refine vc_skip ?_
    refine thn ?_
    refine vc_sr ?_
    refine vo ?_
    refine voc c_impl_Get16 rfl rfl ?_
    iterate 2 refine vo ?_
    refine voc c_impl_Get32 rfl rfl ?_
    refine vo ?_
    refine veq (m6_sh k0 k1) ?_
    refine vo ?_
    refine voc c_impl_Get16 rfl rfl ?_
    iterate 2 refine vo ?_
    refine voc c_impl_Get32 rfl rfl ?_
    refine vo ?_
    refine veq (m6_sh k2 k3) ?_
    refine vo ?_
    refine voc c_impl_Get16 rfl rfl ?_
    iterate 2 refine vo ?_
    try first | refine vdr ?_ | refine vtk ?_
    iterate 3 refine vo ?_
    refine vnt ?_
    refine vc_seq' ?_
    refine vc_sr ?_
    iterate 4 refine vo ?_
    refine vsp (fun g2 => ?_) (fun g2 => ?_)
    · iterate 3 refine von ?_
      refine vo ?_
      refine vnt ?_
      refine vc_if (fun g3 => ?_) (fun g3 => ?_)
      · refine vc_sr ?_
        refine vo ?_
        refine voc c_impl_Get16 rfl rfl ?_
        iterate 2 refine vo ?_
        refine vnt ?_
        refine vc_sr ?_
        refine vo ?_
        refine voc c_impl_Get16 rfl rfl ?_
        iterate 2 refine vo ?_
        refine vnt ?_
        refine vc_region ?_
        iterate 2 refine vo ?_
        try first | refine vdr ?_ | refine vtk ?_
        iterate 2 refine vo ?_
        refine vnt ?_
        refine vc_seq' ?_
        refine vc_sr ?_
        refine vo ?_
        refine voc c_impl_EthOk rfl rfl ?_
        refine vo ?_
        refine vnt ?_
        refine vc_if (fun g4 => ?_) (fun g4 => ?_)
        · refine vc_sr ?_
          iterate 3 refine vo ?_
          refine vnt ?_
          refine vc_ret ?_
          refine thn_r ?_
          refine fin_i [] rfl (fz ?_) trivial
          have hx : ethX s = ⟨m6 s 0, m6 s 6, get16 s 14, get16 s 16, s.extract (Int.toNat 18) s.size⟩ := if_pos ⟨by omega, by omega⟩
          have hh := eth_n hx (.inr g4)
          rw [hh.1, hh.2]
          trivial
        · refine vc_skip ?_
          refine thn ?_
          refine vc_sr ?_
          iterate 3 refine vo ?_
          refine vnt ?_
          refine vc_ret ?_
          refine fin_i [] rfl (fz ?_) trivial
          have hx : ethX s = ⟨m6 s 0, m6 s 6, get16 s 14, get16 s 16, s.extract (Int.toNat 18) s.size⟩ := if_pos ⟨by omega, by omega⟩
          have hh := eth_y hx g4
          rw [hh.1, hh.2]
          first | trivial | (repeat' (refine And.intro ?_ ?_)) <;> first | rfl | trivial | omega | simp [m6]
      · refine vc_skip ?_
        refine thn ?_
        refine vc_seq' ?_
        refine vc_sr ?_
        refine vo ?_
        refine voc c_impl_EthOk rfl rfl ?_
        refine vo ?_
        refine vnt ?_
        refine vc_if (fun g5 => ?_) (fun g5 => ?_)
        · refine vc_sr ?_
          iterate 3 refine vo ?_
          refine vnt ?_
          refine vc_ret ?_
          refine thn_r ?_
          refine fin_i [] rfl (fz ?_) trivial
          have hx : ethX s = ⟨m6 s 0, m6 s 6, -1, get16 s 12, s.extract (Int.toNat 14) s.size⟩ := if_neg (by omega)
          have hh := eth_n hx (.inr g5)
          rw [hh.1, hh.2]
          trivial
        · refine vc_skip ?_
          refine thn ?_
          refine vc_sr ?_
          iterate 3 refine vo ?_
          refine vnt ?_
          refine vc_ret ?_
          refine fin_i [] rfl (fz ?_) trivial
          have hx : ethX s = ⟨m6 s 0, m6 s 6, -1, get16 s 12, s.extract (Int.toNat 14) s.size⟩ := if_neg (by omega)
          have hh := eth_y hx g5
          rw [hh.1, hh.2]
          first | trivial | (repeat' (refine And.intro ?_ ?_)) <;> first | rfl | trivial | omega | simp [m6]
    · iterate 3 refine vof ?_
      refine vo ?_
      refine vnt ?_
      refine vc_else ?_
      refine vc_skip ?_
      refine thn ?_
      refine vc_seq' ?_
      refine vc_sr ?_
      refine vo ?_
      refine voc c_impl_EthOk rfl rfl ?_
      refine vo ?_
      refine vnt ?_
      refine vc_if (fun g6 => ?_) (fun g6 => ?_)
      · refine vc_sr ?_
        iterate 3 refine vo ?_
        refine vnt ?_
        refine vc_ret ?_
        refine thn_r ?_
        refine fin_i [] rfl (fz ?_) trivial
        have hx : ethX s = ⟨m6 s 0, m6 s 6, -1, get16 s 12, s.extract (Int.toNat 14) s.size⟩ := if_neg (by omega)
        have hh := eth_n hx (.inr g6)
        rw [hh.1, hh.2]
        trivial
      · refine vc_skip ?_
        refine thn ?_
        refine vc_sr ?_
        iterate 3 refine vo ?_
        refine vnt ?_
        refine vc_ret ?_
        refine fin_i [] rfl (fz ?_) trivial
        have hx : ethX s = ⟨m6 s 0, m6 s 6, -1, get16 s 12, s.extract (Int.toNat 14) s.size⟩ := if_neg (by omega)
        have hh := eth_y hx g6
        rw [hh.1, hh.2]
        first | trivial | (repeat' (refine And.intro ?_ ?_)) <;> first | rfl | trivial | omega | simp [m6]
set_option maxHeartbeats 4000000 in
theorem c_impl_ParseIp {s : ByteArray} (hs_s : s.size ≤ 1099511627776 := by first | assumption | omega | (simp only [ByteArray.size_append, ByteArray.size_extract, strOfNums_size, List.length_cons, List.length_nil]; omega)) : Con0 Tryz.prog 184 [Z s] (.tup [.agg [V (ipPF s).tos, V (ipPF s).id, V (ipPF s).ttl, V (ipPF s).pr, V (ipPF s).src, V (ipPF s).dst, VS (ipPF s).body], B (ipPB s)]) [] := by
  refine con_i Tryz.func184 Tryz.ntmps184 (t := [(0, Z s)]) rfl ?_
  refine vc_sr ?_
  iterate 2 refine vo ?_
  refine vnt ?_
  refine vc_sr ?_
  refine vo ?_
  refine voc c_impl_Get16 rfl rfl ?_
  refine vo ?_
  refine vnt ?_
  refine vc_seq' ?_
  refine vc_sr ?_
  iterate 4 refine vo ?_
  refine vsp (fun g1 => ?_) (fun g1 => ?_)
  · iterate 2 refine vof ?_
    iterate 2 refine vo ?_
    iterate 4 refine vof ?_
    refine vo ?_
    refine vnt ?_
    refine vc_then ?_
    refine vc_sr ?_
    iterate 3 refine vo ?_
    refine vnt ?_
    refine vc_ret ?_
    refine thn_r ?_
    refine fin_i [] rfl (fz ?_) trivial
    have hh := ip_n (s := s) (.inl (by omega))
    rw [hh.1, hh.2]
    trivial
  · iterate 2 refine von ?_
    iterate 2 refine vo ?_
    refine vsp (fun g2 => ?_) (fun g2 => ?_)
    · iterate 4 refine vof ?_
      refine vo ?_
      refine vnt ?_
      refine vc_then ?_
      refine vc_sr ?_
      iterate 3 refine vo ?_
      refine vnt ?_
      refine vc_ret ?_
      refine thn_r ?_
      refine fin_i [] rfl (fz ?_) trivial
      have hh := ip_n (s := s) (.inr (.inl (by omega)))
      rw [hh.1, hh.2]
      trivial
    · iterate 4 refine von ?_
      refine vo ?_
      refine vnt ?_
      refine vc_if (fun g3 => ?_) (fun g3 => ?_)
      · refine vc_sr ?_
        iterate 3 refine vo ?_
        refine vnt ?_
        refine vc_ret ?_
        refine thn_r ?_
        refine fin_i [] rfl (fz ?_) trivial
        have hh := ip_n (s := s) (.inr (.inr (.inl (by omega))))
        rw [hh.1, hh.2]
        trivial
      · refine vc_skip ?_
        refine thn ?_
        refine vc_sr ?_
        iterate 3 refine vo ?_
        try refine veq (i64_byt _ _) ?_
        refine vo ?_
        refine voc c_impl_Get16 rfl rfl ?_
        iterate 3 refine vo ?_
        try refine veq (i64_byt _ _) ?_
        iterate 3 refine vo ?_
        try refine veq (i64_byt _ _) ?_
        refine vo ?_
        refine voc c_impl_Get32 rfl rfl ?_
        refine vo ?_
        refine voc c_impl_Get32 rfl rfl ?_
        iterate 3 refine vo ?_
        try first | refine vdr ?_ | refine vtk ?_
        iterate 3 refine vo ?_
        refine vnt ?_
        refine vc_sr ?_
        refine vo ?_
        refine voc c_impl_BuildIp rfl rfl ?_
        iterate 5 refine vo ?_
        refine vnt ?_
        refine vc_seq' ?_
        refine vc_sr ?_
        iterate 3 refine vo ?_
        refine vsp (fun g4 => ?_) (fun g4 => ?_)
        · iterate 5 refine vof ?_
          refine vo ?_
          refine vnt ?_
          refine vc_then ?_
          refine vc_sr ?_
          iterate 3 refine vo ?_
          refine vnt ?_
          refine vc_ret ?_
          refine thn_r ?_
          refine fin_i [] rfl (fz ?_) trivial
          have hh := ip_n (s := s) (.inr (.inr (.inr (.inl g4))))
          rw [hh.1, hh.2]
          trivial
        · iterate 4 refine von ?_
          try first | refine vdr ?_ | refine vtk ?_
          refine von ?_
          refine vo ?_
          refine vnt ?_
          refine vc_if (fun g5 => ?_) (fun g5 => ?_)
          · refine vc_sr ?_
            iterate 3 refine vo ?_
            refine vnt ?_
            refine vc_ret ?_
            refine thn_r ?_
            refine fin_i [] rfl (fz ?_) trivial
            have hh := ip_n (s := s) (.inr (.inr (.inr (.inr g5))))
            rw [hh.1, hh.2]
            trivial
          · refine vc_skip ?_
            refine thn ?_
            refine vc_sr ?_
            iterate 3 refine vo ?_
            refine vnt ?_
            refine vc_ret ?_
            refine fin_i [] rfl (fz ?_) trivial
            have hh := ip_y (s := s) (by omega) (by omega) (by omega) g4 g5
            rw [hh.1, hh.2]
            first | trivial | (repeat' (refine And.intro ?_ ?_)) <;> first | rfl | trivial | omega | simp [m6]
set_option maxHeartbeats 4000000 in
theorem c_impl_ParseSegment {src dst kind : Int} {s : ByteArray} (hs_s : s.size ≤ 1099511627776 := by first | assumption | omega | (simp only [ByteArray.size_append, ByteArray.size_extract, strOfNums_size, List.length_cons, List.length_nil]; omega)) : Con0 Tryz.prog 185 [I src, I dst, I kind, Z s] (.tup [.agg [V (segPF src dst kind s).kind, V (segPF src dst kind s).sp, V (segPF src dst kind s).dp, V (segPF src dst kind s).seq, V (segPF src dst kind s).ack, V (segPF src dst kind s).fl, V (segPF src dst kind s).win, VS (segPF src dst kind s).body], B (segPB src dst kind s)]) [] := by
  refine con_i Tryz.func185 Tryz.ntmps185 (t := [(0, I src), (1, I dst), (2, I kind), (3, Z s)]) rfl ?_
  refine vc_sr ?_
  iterate 2 refine vo ?_
  refine vnt ?_
  refine vc_sr ?_
  iterate 2 refine vo ?_
  refine voc c_impl_Get16 rfl rfl ?_
  refine vo ?_
  refine voc c_impl_Get16 rfl rfl ?_
  iterate 3 refine vo ?_
  refine vnt ?_
  refine vc_seq' ?_
  refine vc_block ?_
  refine vc_sr ?_
  iterate 3 refine vo ?_
  refine vsp (fun g1 => ?_) (fun g1 => ?_)
  · iterate 3 refine von ?_
    iterate 2 refine vo ?_
    refine vnt ?_
    refine vc_if (fun g2 => ?_) (fun g2 => ?_)
    · refine vc_sr ?_
      refine vo ?_
      refine voc c_impl_Get32 rfl rfl ?_
      iterate 2 refine vo ?_
      refine vnt ?_
      refine vc_sr ?_
      refine vo ?_
      refine voc c_impl_Get32 rfl rfl ?_
      iterate 2 refine vo ?_
      refine vnt ?_
      refine vc_sr ?_
      iterate 3 refine vo ?_
      try refine veq (i64_byt _ _) ?_
      iterate 2 refine vo ?_
      refine vnt ?_
      refine vc_sr ?_
      refine vo ?_
      refine voc c_impl_Get16 rfl rfl ?_
      iterate 2 refine vo ?_
      refine vnt ?_
      refine vc_region ?_
      iterate 2 refine vo ?_
      try first | refine vdr ?_ | refine vtk ?_
      iterate 2 refine vo ?_
      refine vnil ?_
      refine inB_n ?_
      refine thn ?_
      refine vc_sr ?_
      iterate 3 refine vo ?_
      refine voc c_impl_BuildSegment rfl rfl ?_
      iterate 5 refine vo ?_
      refine vnt ?_
      refine vc_seq' ?_
      refine vc_sr ?_
      iterate 3 refine vo ?_
      refine vsp (fun g3 => ?_) (fun g3 => ?_)
      · iterate 3 refine vof ?_
        refine vo ?_
        refine vnt ?_
        refine vc_then ?_
        refine vc_sr ?_
        iterate 3 refine vo ?_
        refine vnt ?_
        refine vc_ret ?_
        refine thn_r ?_
        refine fin_i [] rfl (fz ?_) trivial
        have hx : segX kind s = ⟨kind, get16 s 0, get16 s 2, get32 s 4, get32 s 8, bAt s 13, get16 s 14, s.extract (Int.toNat 20) s.size⟩ := if_pos (by omega)
        have hh := seg_nx (src := src) (dst := dst) hx (.inl g3)
        rw [hh.1, hh.2]
        trivial
      · iterate 3 refine von ?_
        refine vo ?_
        refine vnt ?_
        refine vc_if (fun g4 => ?_) (fun g4 => ?_)
        · refine vc_sr ?_
          iterate 3 refine vo ?_
          refine vnt ?_
          refine vc_ret ?_
          refine thn_r ?_
          refine fin_i [] rfl (fz ?_) trivial
          have hx : segX kind s = ⟨kind, get16 s 0, get16 s 2, get32 s 4, get32 s 8, bAt s 13, get16 s 14, s.extract (Int.toNat 20) s.size⟩ := if_pos (by omega)
          have hh := seg_nx (src := src) (dst := dst) hx (.inr g4)
          rw [hh.1, hh.2]
          trivial
        · refine vc_skip ?_
          refine thn ?_
          refine vc_sr ?_
          iterate 3 refine vo ?_
          refine vnt ?_
          refine vc_ret ?_
          refine fin_i [] rfl (fz ?_) trivial
          have hx : segX kind s = ⟨kind, get16 s 0, get16 s 2, get32 s 4, get32 s 8, bAt s 13, get16 s 14, s.extract (Int.toNat 20) s.size⟩ := if_pos (by omega)
          have hh := seg_yx (src := src) (dst := dst) hx (.inl ⟨by omega, by omega⟩) g3 g4
          rw [hh.1, hh.2]
          first | trivial | (repeat' (refine And.intro ?_ ?_)) <;> first | rfl | trivial | omega | simp [m6]
    · refine vc_sr ?_
      iterate 3 refine vo ?_
      refine vsp (fun g5 => ?_) (fun g5 => ?_)
      · iterate 3 refine von ?_
        iterate 2 refine vo ?_
        refine vnt ?_
        refine vc_if (fun g6 => ?_) (fun g6 => ?_)
        · refine vc_region ?_
          iterate 2 refine vo ?_
          try first | refine vdr ?_ | refine vtk ?_
          iterate 2 refine vo ?_
          refine vnil ?_
          refine inB_n ?_
          refine thn ?_
          refine vc_sr ?_
          iterate 3 refine vo ?_
          refine voc c_impl_BuildSegment rfl rfl ?_
          iterate 5 refine vo ?_
          refine vnt ?_
          refine vc_seq' ?_
          refine vc_sr ?_
          iterate 3 refine vo ?_
          refine vsp (fun g7 => ?_) (fun g7 => ?_)
          · iterate 3 refine vof ?_
            refine vo ?_
            refine vnt ?_
            refine vc_then ?_
            refine vc_sr ?_
            iterate 3 refine vo ?_
            refine vnt ?_
            refine vc_ret ?_
            refine thn_r ?_
            refine fin_i [] rfl (fz ?_) trivial
            have hx : segX kind s = ⟨kind, get16 s 0, get16 s 2, 0, 0, 0, 0, s.extract (Int.toNat 8) s.size⟩ := if_neg (by omega)
            have hh := seg_nx (src := src) (dst := dst) hx (.inl g7)
            rw [hh.1, hh.2]
            trivial
          · iterate 3 refine von ?_
            refine vo ?_
            refine vnt ?_
            refine vc_if (fun g8 => ?_) (fun g8 => ?_)
            · refine vc_sr ?_
              iterate 3 refine vo ?_
              refine vnt ?_
              refine vc_ret ?_
              refine thn_r ?_
              refine fin_i [] rfl (fz ?_) trivial
              have hx : segX kind s = ⟨kind, get16 s 0, get16 s 2, 0, 0, 0, 0, s.extract (Int.toNat 8) s.size⟩ := if_neg (by omega)
              have hh := seg_nx (src := src) (dst := dst) hx (.inr g8)
              rw [hh.1, hh.2]
              trivial
            · refine vc_skip ?_
              refine thn ?_
              refine vc_sr ?_
              iterate 3 refine vo ?_
              refine vnt ?_
              refine vc_ret ?_
              refine fin_i [] rfl (fz ?_) trivial
              have hx : segX kind s = ⟨kind, get16 s 0, get16 s 2, 0, 0, 0, 0, s.extract (Int.toNat 8) s.size⟩ := if_neg (by omega)
              have hh := seg_yx (src := src) (dst := dst) hx (.inr ⟨by omega, by omega⟩) g7 g8
              rw [hh.1, hh.2]
              first | trivial | (repeat' (refine And.intro ?_ ?_)) <;> first | rfl | trivial | omega | simp [m6]
        · refine vc_sr ?_
          iterate 3 refine vo ?_
          refine vnt ?_
          refine vc_ret ?_
          refine inB_r ?_
          refine thn_r ?_
          refine fin_i [] rfl (fz ?_) trivial
          have hh := seg_n0 (src := src) (dst := dst) (kind := kind) (s := s) (by omega) (by omega)
          rw [hh.1, hh.2]
          trivial
      · iterate 3 refine vof ?_
        iterate 2 refine vo ?_
        refine vnt ?_
        refine vc_else ?_
        refine vc_sr ?_
        iterate 3 refine vo ?_
        refine vnt ?_
        refine vc_ret ?_
        refine inB_r ?_
        refine thn_r ?_
        refine fin_i [] rfl (fz ?_) trivial
        have hh := seg_n0 (src := src) (dst := dst) (kind := kind) (s := s) (by omega) (by omega)
        rw [hh.1, hh.2]
        trivial
  · iterate 3 refine vof ?_
    iterate 2 refine vo ?_
    refine vnt ?_
    refine vc_else ?_
    refine vc_sr ?_
    iterate 3 refine vo ?_
    refine vsp (fun g9 => ?_) (fun g9 => ?_)
    · iterate 3 refine von ?_
      iterate 2 refine vo ?_
      refine vnt ?_
      refine vc_if (fun g10 => ?_) (fun g10 => ?_)
      · refine vc_region ?_
        iterate 2 refine vo ?_
        try first | refine vdr ?_ | refine vtk ?_
        iterate 2 refine vo ?_
        refine vnil ?_
        refine inB_n ?_
        refine thn ?_
        refine vc_sr ?_
        iterate 3 refine vo ?_
        refine voc c_impl_BuildSegment rfl rfl ?_
        iterate 5 refine vo ?_
        refine vnt ?_
        refine vc_seq' ?_
        refine vc_sr ?_
        iterate 3 refine vo ?_
        refine vsp (fun g11 => ?_) (fun g11 => ?_)
        · iterate 3 refine vof ?_
          refine vo ?_
          refine vnt ?_
          refine vc_then ?_
          refine vc_sr ?_
          iterate 3 refine vo ?_
          refine vnt ?_
          refine vc_ret ?_
          refine thn_r ?_
          refine fin_i [] rfl (fz ?_) trivial
          have hx : segX kind s = ⟨kind, get16 s 0, get16 s 2, 0, 0, 0, 0, s.extract (Int.toNat 8) s.size⟩ := if_neg (by omega)
          have hh := seg_nx (src := src) (dst := dst) hx (.inl g11)
          rw [hh.1, hh.2]
          trivial
        · iterate 3 refine von ?_
          refine vo ?_
          refine vnt ?_
          refine vc_if (fun g12 => ?_) (fun g12 => ?_)
          · refine vc_sr ?_
            iterate 3 refine vo ?_
            refine vnt ?_
            refine vc_ret ?_
            refine thn_r ?_
            refine fin_i [] rfl (fz ?_) trivial
            have hx : segX kind s = ⟨kind, get16 s 0, get16 s 2, 0, 0, 0, 0, s.extract (Int.toNat 8) s.size⟩ := if_neg (by omega)
            have hh := seg_nx (src := src) (dst := dst) hx (.inr g12)
            rw [hh.1, hh.2]
            trivial
          · refine vc_skip ?_
            refine thn ?_
            refine vc_sr ?_
            iterate 3 refine vo ?_
            refine vnt ?_
            refine vc_ret ?_
            refine fin_i [] rfl (fz ?_) trivial
            have hx : segX kind s = ⟨kind, get16 s 0, get16 s 2, 0, 0, 0, 0, s.extract (Int.toNat 8) s.size⟩ := if_neg (by omega)
            have hh := seg_yx (src := src) (dst := dst) hx (.inr ⟨by omega, by omega⟩) g11 g12
            rw [hh.1, hh.2]
            first | trivial | (repeat' (refine And.intro ?_ ?_)) <;> first | rfl | trivial | omega | simp [m6]
      · refine vc_sr ?_
        iterate 3 refine vo ?_
        refine vnt ?_
        refine vc_ret ?_
        refine inB_r ?_
        refine thn_r ?_
        refine fin_i [] rfl (fz ?_) trivial
        have hh := seg_n0 (src := src) (dst := dst) (kind := kind) (s := s) (by omega) (by omega)
        rw [hh.1, hh.2]
        trivial
    · iterate 3 refine vof ?_
      iterate 2 refine vo ?_
      refine vnt ?_
      refine vc_else ?_
      refine vc_sr ?_
      iterate 3 refine vo ?_
      refine vnt ?_
      refine vc_ret ?_
      refine inB_r ?_
      refine thn_r ?_
      refine fin_i [] rfl (fz ?_) trivial
      have hh := seg_n0 (src := src) (dst := dst) (kind := kind) (s := s) (by omega) (by omega)
      rw [hh.1, hh.2]
      trivial
set_option maxHeartbeats 4000000 in
theorem c_impl_ReadImage {s : ByteArray} (hs_s : s.size ≤ 1099511627776 := by first | assumption | omega | (simp only [ByteArray.size_append, ByteArray.size_extract, strOfNums_size, List.length_cons, List.length_nil]; omega)) : Con0 Tryz.prog 88 [Z s] (.tup [.agg [V (rdF s).dm, V (rdF s).sm, V (rdF s).vl, V (rdF s).tos, V (rdF s).id, V (rdF s).ttl, V (rdF s).si, V (rdF s).di, V (rdF s).kind, V (rdF s).sp, V (rdF s).dp, V (rdF s).seq, V (rdF s).ack, V (rdF s).fl, V (rdF s).win, VS (rdF s).body], I (rdC s)]) [] := by
  refine con_i Tryz.func88 Tryz.ntmps88 (t := [(0, Z s)]) rfl ?_
  refine vc_sr ?_
  iterate 2 refine vo ?_
  refine vnt ?_
  refine vc_sr ?_
  refine vo ?_
  refine voc c_impl_ParseEth rfl rfl ?_
  iterate 6 refine vo ?_
  refine vnt ?_
  refine vc_seq' ?_
  refine vc_sr ?_
  iterate 3 refine vo ?_
  refine vsp (fun g1 => ?_) (fun g1 => ?_)
  · iterate 3 refine vof ?_
    refine vo ?_
    refine vnt ?_
    refine vc_then ?_
    refine vc_sr ?_
    iterate 3 refine vo ?_
    refine vnt ?_
    refine vc_ret ?_
    refine thn_r ?_
    refine fin_i [] rfl (fz ?_) trivial
    have hh := rd_2 (.inl g1)
    rw [hh.1, hh.2]
    trivial
  · rw [ethPF_y g1]
    have z1 : (ethX s).body.size ≤ 1099511627776 := Nat.le_trans (ethX_body s) hs_s
    iterate 3 refine von ?_
    refine vo ?_
    refine vnt ?_
    refine vc_if (fun g2 => ?_) (fun g2 => ?_)
    · refine vc_sr ?_
      iterate 3 refine vo ?_
      refine vnt ?_
      refine vc_ret ?_
      refine thn_r ?_
      refine fin_i [] rfl (fz ?_) trivial
      have hh := rd_2 (.inr g2)
      rw [hh.1, hh.2]
      trivial
    · refine vc_skip ?_
      refine thn ?_
      refine vc_sr ?_
      iterate 2 refine vo ?_
      refine voc c_impl_ParseIp rfl rfl ?_
      iterate 6 refine vo ?_
      refine vnt ?_
      refine vc_seq' ?_
      refine vc_sr ?_
      iterate 2 refine vo ?_
      refine vnt ?_
      refine vc_if (fun g3 => ?_) (fun g3 => ?_)
      · refine vc_sr ?_
        iterate 3 refine vo ?_
        refine vnt ?_
        refine vc_ret ?_
        refine thn_r ?_
        refine fin_i [] rfl (fz ?_) trivial
        have hh := rd_3 g1 g2 g3
        rw [hh.1, hh.2]
        trivial
      · rw [ipPF_y g3]
        have z2 : (ipX (ethX s).body).body.size ≤ 1099511627776 := Nat.le_trans (ipX_body (ethX s).body) z1
        refine vc_skip ?_
        refine thn ?_
        refine vc_sr ?_
        iterate 8 refine vo ?_
        refine voc c_impl_ParseSegment rfl rfl ?_
        iterate 6 refine vo ?_
        refine vnt ?_
        refine vc_seq' ?_
        refine vc_sr ?_
        iterate 2 refine vo ?_
        refine vnt ?_
        refine vc_if (fun g4 => ?_) (fun g4 => ?_)
        · refine vc_sr ?_
          iterate 3 refine vo ?_
          refine vnt ?_
          refine vc_ret ?_
          refine thn_r ?_
          refine fin_i [] rfl (fz ?_) trivial
          have hh := rd_4 g1 g2 g3 g4
          rw [hh.1, hh.2]
          trivial
        · rw [segPF_y g4]
          have z3 : (segX (ipX (ethX s).body).pr (ipX (ethX s).body).body).body.size ≤ 1099511627776 := Nat.le_trans (segX_body _ _) z2
          refine vc_skip ?_
          refine thn ?_
          refine vc_sr ?_
          iterate 20 refine vo ?_
          refine vnt ?_
          refine vc_seq' ?_
          refine vc_sr ?_
          refine vo ?_
          refine voc c_impl_SuperOk rfl rfl ?_
          refine vo ?_
          refine vnt ?_
          refine vc_if (fun g5 => ?_) (fun g5 => ?_)
          · refine vc_sr ?_
            iterate 3 refine vo ?_
            refine vnt ?_
            refine vc_ret ?_
            refine thn_r ?_
            refine fin_i [] rfl (fz ?_) trivial
            have hh := rd_5 g1 g2 g3 g4 g5
            rw [hh.1, hh.2]
            trivial
          · refine vc_skip ?_
            refine thn ?_
            refine vc_sr ?_
            iterate 3 refine vo ?_
            refine vnt ?_
            refine vc_ret ?_
            refine fin_i [] rfl (fz ?_) trivial
            have hh := rd_0 g1 g2 g3 g4 g5
            rw [hh.1, hh.2]
            simp only [rdX, mkPk, and_self]
end Go.Proofs.YtbdcaacpemkloaaGreat
end
section
namespace Go.Proofs.YtbdcaacpemkloaaGreat
open Go Go.RowKit Go.Vc
set_option linter.unusedVariables false
set_option linter.unusedSimpArgs false
set_option linter.unnecessarySimpa false
theorem eb_body {t : ByteArray} (h : ethPB t = true) : (ethX t).body = t.extract (sumsA t).toNat t.size ∧ sumsA t + 46 ≤ t.size := by
  unfold ethPB at h
  rw [Bool.and_eq_true, decide_eq_true_eq] at h
  obtain ⟨h1, h2⟩ := h
  have h3 : inB ((ethX t).body.size : Int) 46 400 = true := by
    unfold EthX.ok ethOkB at h2
    simp only [Bool.and_eq_true] at h2
    exact h2.2
  have h4 := inB_iff.1 h3
  have e14 : Int.toNat 14 = 14 := rfl
  have e18 : Int.toNat 18 = 18 := rfl
  by_cases g : get16 t 12 = 33024
  · have hx : (ethX t).body = t.extract (Int.toNat 18) t.size := by unfold ethX; rw [if_pos ⟨g, h1⟩]
    have ha : sumsA t = 18 := if_pos g
    rw [hx, ByteArray.size_extract] at h4
    rw [hx, ha]
    exact ⟨rfl, by omega⟩
  · have hx : (ethX t).body = t.extract (Int.toNat 14) t.size := by unfold ethX; rw [if_neg (fun hh => g hh.1)]
    have ha : sumsA t = 14 := if_neg g
    rw [hx, ByteArray.size_extract] at h4
    rw [hx, ha]
    exact ⟨rfl, by omega⟩
theorem get16_ex {t : ByteArray} {a i : Int} (h0 : 0 ≤ a) (ha : a ≤ t.size) (hi : 0 ≤ i) : get16 (t.extract a.toNat t.size) i = get16 t (a + i) := by
  unfold get16
  rw [ByteArray.size_extract]
  by_cases h : i + 2 ≤ (t.size : Int) - a
  · rw [if_pos (by omega), if_pos (by omega), bAt_extract, if_pos (by omega), bAt_extract, if_pos (by omega), show a.toNat + i.toNat = (a + i).toNat by omega, show a.toNat + (i.toNat + 1) = (a + i).toNat + 1 by omega]
  · rw [if_neg (by omega), if_neg (by omega)]
theorem get32_ex {t : ByteArray} {a i : Int} (h0 : 0 ≤ a) (ha : a ≤ t.size) (hi : 0 ≤ i) : get32 (t.extract a.toNat t.size) i = get32 t (a + i) := by
  unfold get32
  rw [ByteArray.size_extract]
  by_cases h : i + 4 ≤ (t.size : Int) - a
  · rw [if_pos (by omega), if_pos (by omega), bAt_extract, if_pos (by omega), bAt_extract, if_pos (by omega), bAt_extract, if_pos (by omega), bAt_extract, if_pos (by omega), show a.toNat + i.toNat = (a + i).toNat by omega, show a.toNat + (i.toNat + 1) = (a + i).toNat + 1 by omega, show a.toNat + (i.toNat + 2) = (a + i).toNat + 2 by omega, show a.toNat + (i.toNat + 3) = (a + i).toNat + 3 by omega]
  · rw [if_neg (by omega), if_neg (by omega)]
theorem ex_ex {t : ByteArray} {a i j : Nat} (h : a + j ≤ t.size) : (t.extract a t.size).extract i j = t.extract (a + i) (a + j) := by
  rw [ByteArray.extract_extract, Nat.min_eq_left h]
theorem fe_n {t : ByteArray} (h : ethPB t = true) : get16 (ethX t).body 2 = fsN t := by
  obtain ⟨hb, hs⟩ := eb_body h
  have := sumsA_bd t
  rw [hb, get16_ex (by omega) (by omega) (by omega)]; rfl
theorem fe_32 {t : ByteArray} (h : ethPB t = true) {i : Int} (hi : 0 ≤ i) : get32 (ethX t).body i = get32 t (sumsA t + i) := by
  obtain ⟨hb, hs⟩ := eb_body h
  have := sumsA_bd t
  rw [hb, get32_ex (by omega) (by omega) hi]
theorem fe_k {t : ByteArray} (h : ethPB t = true) : (bAt (ethX t).body (Int.toNat 9) : Int) = sumsK t := by
  obtain ⟨hb, hs⟩ := eb_body h
  have := sumsA_bd t
  have e9 : Int.toNat 9 = 9 := rfl
  unfold sumsK
  rw [hb, bAt_extract, if_pos (by omega), show (sumsA t).toNat + Int.toNat 9 = (sumsA t + 9).toNat by omega]
theorem fe_z {t : ByteArray} (h : ethPB t = true) : ((ethX t).body.size : Int) = t.size - sumsA t := by
  obtain ⟨hb, hs⟩ := eb_body h
  have := sumsA_bd t
  rw [hb, ByteArray.size_extract]; omega
theorem fe_g {t : ByteArray} (h : ethPB t = true) (h1 : 20 ≤ fsN t) (h2 : fsN t ≤ t.size - sumsA t) : (ethX t).body.extract (Int.toNat 20) (fsN t).toNat = t.extract (sumsA t + 20).toNat (sumsA t + fsN t).toNat := by
  obtain ⟨hb, hs⟩ := eb_body h
  have := sumsA_bd t
  have e20 : Int.toNat 20 = 20 := rfl
  rw [hb, ex_ex (by omega), show (sumsA t).toNat + Int.toNat 20 = (sumsA t + 20).toNat by omega, show (sumsA t).toNat + (fsN t).toNat = (sumsA t + fsN t).toNat by omega]
theorem fe_h {t : ByteArray} (h : ethPB t = true) : (ethX t).body.extract (Int.toNat 0) (Int.toNat 20) = t.extract (sumsA t).toNat (sumsA t + 20).toNat := by
  obtain ⟨hb, hs⟩ := eb_body h
  have := sumsA_bd t
  have e20 : Int.toNat 20 = 20 := rfl
  have e0 : Int.toNat 0 = 0 := rfl
  rw [hb, ex_ex (by omega), show (sumsA t).toNat + Int.toNat 20 = (sumsA t + 20).toNat by omega, show (sumsA t).toNat + Int.toNat 0 = (sumsA t).toNat by omega]
theorem fs_ps {t : ByteArray} (h : sumsA t + 46 ≤ t.size) (h1 : 20 ≤ fsN t) : psOkB (get32 t (sumsA t + 12)) (get32 t (sumsA t + 16)) (sumsK t) (fsN t - 20) = true := by
  have ha := sumsA_bd t
  have a := get32_in (s := t) (i := sumsA t + 12) (by omega) (by omega)
  have b := get32_in (s := t) (i := sumsA t + 16) (by omega) (by omega)
  have c := bAt_lt t (sumsA t + 9).toNat
  have d := (get16_bd t (sumsA t + 2)).2
  unfold psOkB
  rw [inB_iff.2 a, inB_iff.2 b, inB_iff.2 (show 0 ≤ sumsK t ∧ sumsK t ≤ 255 by unfold sumsK; omega), inB_iff.2 (show 0 ≤ fsN t - 20 ∧ fsN t - 20 ≤ 65535 by unfold fsN at *; omega)]
  rfl
def smA (s : ByteArray) : Int := if sumsA s + 46 ≤ s.size then sumsA s + 10 else -1
def smB (s : ByteArray) : Int := if sumsA s + 46 ≤ s.size then sumsB s else -1
theorem fs_bad {t : ByteArray} (h : fsOk t = false ∨ ¬ rdC (fsS t) = 0 ∨ ¬ (rdF (fsS t)).tm = t) : fsF t = ⟨#[]⟩ ∧ fsB t = false := by
  refine fs_no ?_
  unfold fsB
  rcases h with h | h | h
  · rw [h]; rfl
  · rw [decide_eq_false h]; simp
  · rw [decide_eq_false h]; simp
theorem fsOk_n {t : ByteArray} (h : t.size < sumsA t + 46 ∨ fsN t < sumsB t + 2 - sumsA t ∨ t.size - sumsA t < fsN t) : fsOk t = false := by
  unfold fsOk
  rcases h with h | h | h
  · rw [decide_eq_false (by omega)]; rfl
  · rw [decide_eq_false (p := sumsB t + 2 - sumsA t ≤ fsN t) (by omega)]; simp
  · rw [decide_eq_false (p := fsN t ≤ t.size - sumsA t) (by omega)]; simp
theorem fsOk_y {t : ByteArray} (h1 : sumsA t + 46 ≤ t.size) (h2 : sumsB t + 2 - sumsA t ≤ fsN t) (h3 : fsN t ≤ t.size - sumsA t) : fsOk t = true := by
  unfold fsOk
  rw [decide_eq_true h1, decide_eq_true h2, decide_eq_true h3]; rfl
theorem fs_eth {t : ByteArray} (h : ethPB t = false) : fsF t = ⟨#[]⟩ ∧ fsB t = false := by
  refine fs_no ?_
  rw [Bool.eq_false_iff]
  intro hh
  have := (fs_facts hh).2.2.2.2.2
  rw [h] at this; cases this
end Go.Proofs.YtbdcaacpemkloaaGreat
end

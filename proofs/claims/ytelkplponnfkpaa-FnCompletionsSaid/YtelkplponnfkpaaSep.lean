/- What is held of a world, part by part: rows, owned data, slices under way, each in blocks of its own. No program in sight. -/
import Derived.Test.YtelkplponnfkpaaFlat
import Derived.Deep.MidRow
import Derived.Great.BuildSlice
namespace Go
open Go.RowKit
set_option linter.unusedVariables false

/-- A part: P w F says what lies in the blocks F of the world w. -/
structure Asn where
  P : World → (Nat → Prop) → Prop
  stable : ∀ {w w' : World} {F : Nat → Prop}, P w F → (∀ b, F b → w'.heap[b]? = w.heap[b]?) → P w' F
  lt : ∀ {w : World} {F : Nat → Prop}, P w F → ∀ b, F b → b < w.heap.size
def SepL (w : World) : List Asn → (Nat → Prop) → Prop
  | [], F => ∀ b, ¬ F b
  | A :: Is, F => ∃ F1 F2, A.P w F1 ∧ SepL w Is F2 ∧ (∀ b, F1 b → ¬ F2 b) ∧ ∀ b, F b ↔ (F1 b ∨ F2 b)
theorem SepL.stable {w w' : World} : ∀ {Is : List Asn} {F : Nat → Prop}, SepL w Is F → (∀ b, F b → w'.heap[b]? = w.heap[b]?) → SepL w' Is F
  | [], _, h, _ => h
  | A :: Is, F, ⟨F1, F2, h1, h2, h3, h4⟩, hs => ⟨F1, F2, A.stable h1 fun b hb => hs b ((h4 b).2 (.inl hb)), SepL.stable h2 fun b hb => hs b ((h4 b).2 (.inr hb)), h3, h4⟩
theorem SepL.lt {w : World} : ∀ {Is : List Asn} {F : Nat → Prop}, SepL w Is F → ∀ b, F b → b < w.heap.size
  | [], _, h, b, hb => (h b hb).elim
  | A :: Is, F, ⟨F1, F2, h1, h2, h3, h4⟩, b, hb => ((h4 b).1 hb).elim (fun h => A.lt h1 b h) fun h => SepL.lt h2 b h
/-- Since w0 there are at most new blocks, and in them, apart from one another, the parts Is. -/
def St (w0 w : World) (Is : List Asn) : Prop := Ex w0 w ∧ ∃ F, SepL w Is F ∧ ∀ b, F b → w0.heap.size ≤ b
inductive Take : List Asn → Asn → List Asn → Prop
  | head {A : Asn} {l : List Asn} : Take (A :: l) A l
  | tail {A B : Asn} {l k : List Asn} : Take l A k → Take (B :: l) A (B :: k)
inductive Arr : List Asn → List Asn → Prop
  | nil {l : List Asn} : Arr l []
  | cons {A : Asn} {l k m : List Asn} : Take l A k → Arr k m → Arr l (A :: m)
theorem Take.sep {w : World} {l : List Asn} {A : Asn} {k : List Asn} (t : Take l A k) : ∀ {F : Nat → Prop}, SepL w l F → SepL w (A :: k) F := by
  induction t with
  | head => exact fun h => h
  | tail t ih =>
    rintro F ⟨F1, F2, h1, h2, h3, h4⟩
    obtain ⟨G1, G2, g1, g2, g3, g4⟩ := ih h2
    refine ⟨G1, fun b => F1 b ∨ G2 b, g1, ⟨F1, G2, h1, g2, fun b hb hg => h3 b hb ((g4 b).2 (.inr hg)), fun b => Iff.rfl⟩, fun b hb hg => ?_, fun b => ?_⟩
    · rcases hg with hg | hg
      · exact h3 b hg ((g4 b).2 (.inl hb))
      · exact g3 b hb hg
    · rw [h4, g4]
      constructor
      · rintro (h | h | h)
        · exact .inr (.inl h)
        · exact .inl h
        · exact .inr (.inr h)
      · rintro (h | h | h)
        · exact .inr (.inl h)
        · exact .inl h
        · exact .inr (.inr h)
theorem Arr.sep {w : World} {l m : List Asn} (a : Arr l m) : ∀ {F : Nat → Prop}, SepL w l F → ∃ G, SepL w m G ∧ ∀ b, G b → F b := by
  induction a with
  | nil => exact fun h => ⟨fun _ => False, fun _ h => h, fun _ h => h.elim⟩
  | cons t _ ih =>
    intro F h
    obtain ⟨F1, F2, h1, h2, h3, h4⟩ := t.sep h
    obtain ⟨G, g1, g2⟩ := ih h2
    refine ⟨fun b => F1 b ∨ G b, ⟨F1, G, h1, g1, fun b hb hg => h3 b hb (g2 b hg), fun b => Iff.rfl⟩, fun b hb => (h4 b).2 ?_⟩
    rcases hb with hb | hb
    · exact .inl hb
    · exact .inr (g2 b hb)
section
variable {w0 w w' : World} {Is Js : List Asn} {A A' : Asn}
theorem St.ex (h : St w0 w Is) : Ex w0 w := h.1
theorem St.start (w : World) : St w w [] := ⟨Ex.refl w, fun _ => False, fun _ h => h, fun _ h => h.elim⟩
theorem St.grow (h : St w0 w Is) (hx : Ex w w') : St w0 w' Is := by
  obtain ⟨h1, F, h2, h3⟩ := h
  exact ⟨h1.trans hx, F, h2.stable fun b hb => hx.block (h2.lt b hb), h3⟩
theorem St.drew (h : St w0 w Is) : St w0 w.drew Is := h.grow (Ex.refl w).drew
theorem St.plus (h : St w0 w Is) (g : Gr) : St w0 (w.plus g) Is := h.grow ((Ex.refl w).plus g)
theorem St.arr (h : St w0 w Is) (a : Arr Is Js) : St w0 w Js := by
  obtain ⟨h1, F, h2, h3⟩ := h
  obtain ⟨G, g1, g2⟩ := a.sep h2
  exact ⟨h1, G, g1, fun b hb => h3 b (g2 b hb)⟩
theorem St.take (h : St w0 w Is) (t : Take Is A Js) : St w0 w (A :: Js) := by
  obtain ⟨h1, F, h2, h3⟩ := h
  exact ⟨h1, F, t.sep h2, h3⟩
theorem St.add (h : St w0 w Is) (hx : Ex w w') {F : Nat → Prop} (hA : A.P w' F) (hF : ∀ b, F b → w.heap.size ≤ b) : St w0 w' (A :: Is) := by
  obtain ⟨h1, G, h2, h3⟩ := h
  refine ⟨h1.trans hx, fun b => F b ∨ G b, ⟨F, G, hA, h2.stable fun b hb => hx.block (h2.lt b hb), fun b hb hg => by have := hF b hb; have := h2.lt b hg; omega, fun b => Iff.rfl⟩, fun b hb => ?_⟩
  rcases hb with hb | hb
  · have := hF b hb; have := h1.size; omega
  · exact h3 b hb
theorem St.head (h : St w0 w (A :: Is)) : ∃ F, A.P w F := by
  obtain ⟨h1, F, ⟨F1, F2, h2, _⟩, h3⟩ := h
  exact ⟨F1, h2⟩
theorem St.get (h : St w0 w Is) (t : Take Is A Js) : ∃ F, A.P w F := (h.take t).head
/-- A part turns; new blocks may come. -/
theorem St.turn (h : St w0 w (A :: Is)) (ho : w'.os = w.os) (ht : w'.tape = w.tape) (hp : w'.output = w.output) (hs : w.heap.size ≤ w'.heap.size)
    (step : ∀ F, A.P w F → (∀ b, b < w.heap.size → ¬ F b → w'.heap[b]? = w.heap[b]?) ∧ ∃ F', A'.P w' F' ∧ ∀ b, F' b → F b ∨ w.heap.size ≤ b) : St w0 w' (A' :: Is) := by
  obtain ⟨h1, F, ⟨F1, F2, h2, h3, h4, h5⟩, h6⟩ := h
  obtain ⟨s1, F', s2, s3⟩ := step F1 h2
  refine ⟨Ex.of_below ⟨ho.trans h1.below.os, ht.trans h1.below.tape, hp.trans h1.below.output, Nat.le_trans h1.size hs, fun k hk => ?_⟩, fun b => F' b ∨ F2 b, ⟨F', F2, s2, h3.stable fun b hb => s1 b (h3.lt b hb) fun h => h4 b h hb, fun b hb hg => ?_, fun b => Iff.rfl⟩, fun b hb => ?_⟩
  · rw [s1 k (Nat.lt_of_lt_of_le hk h1.size) (fun h => by have := h6 k ((h5 k).2 (.inl h)); omega)]
    exact h1.block hk
  · rcases s3 b hb with h | h
    · exact h4 b h hg
    · have := h3.lt b hg; omega
  · rcases hb with hb | hb
    · rcases s3 b hb with h | h
      · exact h6 b ((h5 b).2 (.inl h))
      · have := h1.size; omega
    · exact h6 b ((h5 b).2 (.inr hb))
/-- A part told otherwise. -/
theorem St.same (h : St w0 w (A :: Is)) (step : ∀ F, A.P w F → ∃ F', A'.P w F' ∧ ∀ b, F' b → F b) : St w0 w (A' :: Is) :=
  h.turn rfl rfl rfl (Nat.le_refl _) fun F hF => ⟨fun _ _ _ => rfl, let ⟨F', h1, h2⟩ := step F hF; ⟨F', h1, fun b hb => .inl (h2 b hb)⟩⟩
end

/-- A whole block: the row cs. -/
def rowA (b : Nat) (cs : List Value) (T : TypeId) : Asn where
  P w F := w.heap[b]? = some (.cells cs.toArray T (0, 0)) ∧ ∀ c, F c ↔ c = b
  stable h hs := ⟨(hs b ((h.2 b).2 rfl)).trans h.1, h.2⟩
  lt h b hb := by rw [(h.2 b).1 hb]; exact row_lt h.1
/-- Data that is owned. -/
def ownA {α : Type} [Rep α] (x : α) (vs : List Value) : Asn where
  P w F := ∃ bs, Rep.tree w x vs bs ∧ bs.Nodup ∧ (∀ b ∈ bs, ∀ o, w.frozen? ⟨b, o, none⟩ = false) ∧ ∀ b, F b ↔ b ∈ bs
  stable := by
    rintro w w' F ⟨bs, h1, h2, h3, h4⟩ hs
    have hb : ∀ b ∈ bs, w'.heap[b]? = w.heap[b]? := fun b hb => hs b ((h4 b).2 hb)
    exact ⟨bs, Rep.stable h1 hb, h2, fun b hm o => by rw [World.frozen?_of_block (w := w) (hb b hm)]; exact h3 b hm o, h4⟩
  lt := by
    rintro w F ⟨bs, h1, h2, h3, h4⟩ b hb
    exact Rep.lt h1 b ((h4 b).1 hb)
/-- A slice that is owned, with its spare room. -/
def slotA (E : TypeId) (size : Nat) (v : Value) (n : Nat) (xs : List Value) : Asn where
  P w F := Slot 0 w E size v n xs ∧ ∀ b, F b ↔ b ∈ v.blk
  stable h hs := ⟨h.1.stay fun b hb => hs b ((h.2 b).2 hb), h.2⟩
  lt h b hb := (h.1.blk_lt b ((h.2 b).1 hb)).2
/-- A slice under way, whose elements own data of their own. -/
def listA {α : Type} [Rep α] (E : TypeId) (xs : List α) (v : Value) (vs : List Value) : Asn where
  P w F := ∃ bs, OwnL 0 w E xs v vs bs ∧ ∀ b, F b ↔ b ∈ bs
  stable := by
    rintro w w' F ⟨bs, h1, h2⟩ hs
    refine ⟨bs, ?_, h2⟩
    have hb : ∀ b ∈ bs, w'.heap[b]? = w.heap[b]? := fun b hb => hs b ((h2 b).2 hb)
    obtain ⟨hs', ds, k1, rfl, k2, k3⟩ := h1
    have hin : ∀ i, i < xs.length → ∀ b ∈ ds i, w'.heap[b]? = w.heap[b]? := fun i hi b hm => hb b (List.mem_append_right _ (List.mem_flatMap.2 ⟨i, List.mem_range.2 hi, hm⟩))
    refine ⟨hs'.stay fun b hm => hb b (List.mem_append_left _ hm), ds, fun i hi => ?_, rfl, k2, fun i hi b hm => ?_⟩
    · obtain ⟨u, hu, ht⟩ := k1 i hi
      exact ⟨u, hu, Rep.stable ht (hin i hi)⟩
    · obtain ⟨_, q2, q3⟩ := k3 i hi b hm
      refine ⟨Nat.zero_le _, ?_, fun o => by rw [World.frozen?_of_block (w := w) (hin i hi b hm)]; exact q3 o⟩
      have e := hin i hi b hm
      rw [Array.getElem?_eq_getElem q2] at e
      exact row_lt e
  lt := by
    rintro w F ⟨bs, h1, h2⟩ b hb
    exact (h1.rng b ((h2 b).1 hb)).2

section
variable {w0 w w' : World} {Is Js : List Asn}
theorem St.row {b : Nat} {cs : List Value} {T : TypeId} (h : St w0 w Is) (t : Take Is (rowA b cs T) Js) : w.heap[b]? = some (.cells cs.toArray T (0, 0)) := let ⟨_, h, _⟩ := h.get t; h
theorem St.holds {α : Type} [Rep α] {x : α} {vs : List Value} (h : St w0 w Is) (t : Take Is (ownA x vs) Js) : Holds w x vs := let ⟨_, bs, h, _⟩ := h.get t; ⟨bs, h⟩
theorem St.slot {E : TypeId} {size : Nat} {v : Value} {n : Nat} {xs : List Value} (h : St w0 w Is) (t : Take Is (slotA E size v n xs) Js) : Slot 0 w E size v n xs := let ⟨_, h, _⟩ := h.get t; h
theorem St.own {α : Type} [Rep α] {x : α} {vs : List Value} (h : St w0 w Is) (ho : Owns w.heap.size w' x vs) (hx : Ex w w') : St w0 w' (ownA x vs :: Is) := by
  obtain ⟨bs, t, nd, f⟩ := ho
  exact h.add hx (A := ownA x vs) (F := fun b => b ∈ bs) ⟨bs, t, nd, fun b hb => (f b hb).2, fun _ => Iff.rfl⟩ fun b hb => (f b hb).1
theorem St.owns {α : Type} [Rep α] {x : α} {vs : List Value} (h : St w0 w Is) (t : Take Is (ownA x vs) Js) : Owns w0.heap.size w x vs := by
  obtain ⟨h1, F, ⟨F1, F2, ⟨bs, k1, k2, k3, k4⟩, _, _, h5⟩, h6⟩ := h.take t
  exact ⟨bs, k1, k2, fun b hb => ⟨h6 b ((h5 b).2 (.inl ((k4 b).2 hb))), k3 b hb⟩⟩
theorem St.alloc (h : St w0 w Is) (cs : Array Value) (T : TypeId) : St w0 (w.alloc (.cells cs T)) (rowA w.heap.size cs.toList T :: Is) :=
  h.add ((Ex.refl w).alloc _) (A := rowA w.heap.size cs.toList T) (F := fun b => b = w.heap.size) ⟨by rw [row_alloc], fun _ => Iff.rfl⟩ fun b hb => Nat.le_of_eq hb.symm
def nicL : List Value → Nat → List Value → List Value
  | cs, _, [] => cs
  | [], _, _ :: _ => []
  | _ :: cs, 0, v :: vs => v :: nicL cs 0 vs
  | c :: cs, n + 1, v :: vs => c :: nicL cs n (v :: vs)
theorem nicL_nil (o : Nat) (vs : List Value) : nicL [] o vs = [] := by cases vs <;> rfl
theorem nicL_size : ∀ (cs : List Value) (o : Nat) (vs : List Value), (nicL cs o vs).length = cs.length
  | [], _, vs => by rw [nicL_nil]
  | _ :: _, _, [] => rfl
  | c :: cs, 0, v :: vs => by simp [nicL, nicL_size cs 0 vs]
  | c :: cs, n + 1, v :: vs => by simp [nicL, nicL_size cs n (v :: vs)]
theorem nicL_in : ∀ (cs : List Value) (o : Nat) (vs : List Value) (k : Nat), o + vs.length ≤ cs.length → (nicL cs o vs)[k]? = if o ≤ k ∧ k < o + vs.length then vs[k - o]? else cs[k]?
  | cs, o, [], k, _ => by simp [nicL]; omega
  | [], o, v :: vs, k, h => by simp at h
  | c :: cs, 0, v :: vs, 0, h => by simp [nicL]
  | c :: cs, 0, v :: vs, k + 1, h => by
    have := nicL_in cs 0 vs k (by simpa using h)
    simp only [nicL, List.getElem?_cons_succ, this]
    simp
  | c :: cs, n + 1, v :: vs, 0, h => by simp [nicL]
  | c :: cs, n + 1, v :: vs, k + 1, h => by
    have := nicL_in cs n (v :: vs) k (by simp at h ⊢; omega)
    simp only [nicL, List.getElem?_cons_succ, this]
    by_cases hh : n ≤ k ∧ k < n + (v :: vs).length
    · rw [if_pos hh, if_pos (by omega)]; congr 1; omega
    · rw [if_neg hh, if_neg (by omega)]
theorem nic_eq (cs vs : List Value) (o : Nat) (h : o + vs.length ≤ cs.length) : nicRow cs.toArray o vs = (nicL cs o vs).toArray := by
  apply Array.ext_getElem?
  intro k
  have e0 : (nicL cs o vs).toArray[k]? = (nicL cs o vs)[k]? := by simp
  rw [e0, nicL_in cs o vs k h]
  by_cases h1 : k < o
  · rw [nicRow_lo _ _ _ _ h1, if_neg (by omega)]; simp
  · by_cases h2 : k < o + vs.length
    · rw [if_pos (by omega)]
      have := nicRow_in vs cs.toArray o (k - o) (by omega) (by simpa using h)
      rwa [show o + (k - o) = k from by omega] at this
    · rw [if_neg (by omega)]
      have key : ∀ (vs : List Value) (C : Array Value) (o : Nat), o + vs.length ≤ k → (nicRow C o vs)[k]? = C[k]? := by
        intro vs
        induction vs with
        | nil => intro _ _ _; rfl
        | cons v r ih => intro C o hk; simp at hk; rw [nicRow, ih _ _ (by omega), Array.getElem?_setIfInBounds, if_neg (by omega)]
      rw [key vs _ o (by omega)]; simp
theorem St.setCells {b o : Nat} {cs vs : List Value} {T : TypeId} (h : St w0 w Is) (t : Take Is (rowA b cs T) Js) (hl : o + vs.length ≤ cs.length) : St w0 (w.setCells b o vs) (rowA b (nicL cs o vs) T :: Js) := by
  obtain ⟨r1, r2, r3, r4, r5⟩ := setCells_rest vs w b o
  refine (h.take t).turn r1 r2 r3 (Nat.le_of_eq r4.symm) fun F hF => ⟨fun c _ hc => r5 c fun e => hc ((hF.2 c).2 e), F, ⟨?_, hF.2⟩, fun c hc => .inl hc⟩
  rw [row_setCells vs w b o _ _ _ hF.1, nic_eq _ _ _ hl]
theorem St.setCell {b o : Nat} {cs : List Value} {v : Value} {T : TypeId} (h : St w0 w Is) (t : Take Is (rowA b cs T) Js) (hl : o < cs.length) : St w0 (w.setCell ⟨b, o, none⟩ v) (rowA b (nicL cs o [v]) T :: Js) :=
  h.setCells (vs := [v]) t (by simp; omega)
/-- What an append leaves. -/
theorem St.app {E : TypeId} {size : Nat} {v v' : Value} {n m : Nat} {xs xs' : List Value} {f : Nat → Obj} {g : Gr} (h : St w0 w Is) (t : Take Is (slotA E size v n xs) Js) {lo : Nat} (hs : Slot lo ((w.upd v.blk f).plus g) E size v' m xs') (hv : ∀ b ∈ v'.blk, b ∈ v.blk ∨ w.heap.size ≤ b) :
    St w0 ((w.upd v.blk f).plus g) (slotA E size v' m xs' :: Js) := by
  refine (h.take t).turn rfl rfl rfl (by simp) fun F hF => ⟨fun b hb hn => ?_, fun b => b ∈ v'.blk, ⟨⟨hs.1, hs.2.imp id fun ⟨b, off, cap, cur, h1, h2, h3⟩ => ⟨b, off, cap, cur, h1, Nat.zero_le _, h3⟩⟩, fun _ => Iff.rfl⟩, fun b hb => (hv b hb).imp (fun h => (hF.2 b).2 h) id⟩
  rw [show ∀ (w : World) (g : Gr), (w.plus g).heap = w.heap ++ g.o from fun _ _ => rfl, Array.getElem?_append_left (by simpa using hb), World.block_upd _ _ _ (fun h => hn ((hF.2 b).2 h))]
/-- A slice whose elements are flat is data. -/
theorem St.shut {α : Type} [Rep α] [Flat α] {E : TypeId} {v : Value} {n : Nat} {xs : List α} {cs : List Value} (h : St w0 w Is) (t : Take Is (slotA E (Rep.size α) v n cs) Js) (hc : cs = xs.flatMap Flat.cells) (hok : ∀ x ∈ xs, Flat.ok x) : St w0 w (ownA xs [v] :: Js) := by
  subst hc
  refine (h.take t).same fun F hF => ?_
  have hb := hF.1.blk_lt
  obtain ⟨_, bs, tr, nd, f⟩ := hF.1.flat hok
  refine ⟨fun b => b ∈ bs, ⟨bs, tr, nd, fun b hb => (f b hb).2, fun _ => Iff.rfl⟩, fun b hm => (hF.2 b).2 ?_⟩
  obtain ⟨a, cap, hv, _, _, h3⟩ := tr
  simp only [List.cons.injEq, and_true] at hv
  subst hv
  rcases h3 with ⟨_, rfl⟩ | ⟨b', off, cur, E', fr, ts, ds, rfl, _, hr, _, rfl, he⟩
  · cases hm
  · rcases List.mem_cons.1 hm with rfl | hm
    · simp [Value.blk]
    · obtain ⟨i, hi, hm⟩ := List.mem_flatMap.1 hm
      obtain ⟨_, e, _⟩ := Flat.tree.1 (he i (List.mem_range.1 hi)).1
      rw [e] at hm; cases hm
theorem St.shutL {α : Type} [Rep α] {E : TypeId} {v : Value} {vs : List Value} {xs : List α} (h : St w0 w Is) (t : Take Is (listA E xs v vs) Js) (hsz : Rep.size α = 1) : St w0 w (ownA xs [v] :: Js) := by
  refine (h.take t).same fun F ⟨bs, hF, hb⟩ => ?_
  obtain ⟨⟨h1, h2⟩, ds, h3, rfl, h4, h5⟩ := hF
  rcases h2 with ⟨rfl, h0⟩ | ⟨b, off, cap, cur, rfl, k3, k4, k5, k6, k7, k8⟩
  · have : xs = [] := List.eq_nil_of_length_eq_zero h0
    subst this
    exact ⟨fun _ => False, ⟨[], ⟨_, _, rfl, Nat.le_refl _, Nat.zero_le _, .inl ⟨rfl, rfl⟩⟩, List.nodup_nil, (fun b hb => by cases hb), fun b => by simp⟩, fun b hb => hb.elim⟩
  · by_cases hc : cap = 0
    · subst hc
      exact ⟨fun _ => False, ⟨[], ⟨_, _, rfl, k5, k6, .inl ⟨rfl, rfl⟩⟩, List.nodup_nil, (fun b hb => by cases hb), fun b => by simp⟩, fun b hb => hb.elim⟩
    · refine ⟨F, ⟨b :: (List.range xs.length).flatMap ds, ⟨_, _, rfl, k5, k6, .inr ⟨b, off, cur, E, (0, 0), fun i => [vs.getD i undef], ds, rfl, by omega, k4, by rw [hsz]; exact k7, rfl, fun i hi => ?_⟩⟩, by simpa [Value.blk] using h4, fun c hc' o => ?_, fun c => by rw [hb]; simp [Value.blk]⟩, fun _ h => h⟩
      · obtain ⟨u, hu, ht⟩ := h3 i hi
        have hg : vs.getD i undef = u := by simp [List.getD, hu]
        simp only [hg]
        refine ⟨ht, fun j hj => ?_⟩
        rw [hsz] at hj ⊢
        obtain rfl : j = 0 := by omega
        rw [Nat.mul_one, Nat.add_zero, k8 i (by omega), hu]; rfl
      · rcases List.mem_cons.1 hc' with rfl | hc'
        · exact frozen_row k4 o
        · obtain ⟨i, hi, hc'⟩ := List.mem_flatMap.1 hc'
          exact (h5 i (List.mem_range.1 hi) c hc').2.2 o
theorem St.join {α β : Type} [Rep α] [Rep β] {x : α} {y : β} {v1 v2 : List Value} (h : St w0 w (ownA x v1 :: ownA y v2 :: Is)) : St w0 w (ownA (x, y) (v1 ++ v2) :: Is) := by
  obtain ⟨h1, F, ⟨F1, F2, ⟨b1, p1, p2, p3, p4⟩, ⟨G1, G2, ⟨b2, q1, q2, q3, q4⟩, g2, g3, g4⟩, h4, h5⟩, h6⟩ := h
  refine ⟨h1, F, ⟨fun b => F1 b ∨ G1 b, G2, ⟨b1 ++ b2, ⟨v1, v2, b1, b2, rfl, rfl, p1, q1⟩, ?_, fun b hb => ?_, fun b => by show (F1 b ∨ G1 b) ↔ _; rw [p4, q4, List.mem_append]⟩, g2, fun b hb hg => ?_, fun b => ?_⟩, h6⟩
  · rw [List.nodup_append]
    exact ⟨p2, q2, fun a ha c hc e => h4 a ((p4 a).2 ha) ((g4 a).2 (.inl ((q4 a).2 (e ▸ hc))))⟩
  · rcases List.mem_append.1 hb with hb | hb
    · exact p3 b hb
    · exact q3 b hb
  · rcases hb with hb | hb
    · exact h4 b hb ((g4 b).2 (.inr hg))
    · exact g3 b hb hg
  · rw [h5, g4]
    constructor
    · rintro (h | h | h)
      · exact .inl (.inl h)
      · exact .inl (.inr h)
      · exact .inr h
    · rintro ((h | h) | h)
      · exact .inl h
      · exact .inr (.inl h)
      · exact .inr (.inr h)
theorem St.split {α β : Type} [Rep α] [Rep β] {x : α} {y : β} {v1 v2 : List Value} (h : St w0 w (ownA (x, y) (v1 ++ v2) :: Is)) (hl : v1.length = Rep.size α) : St w0 w (ownA x v1 :: ownA y v2 :: Is) := by
  obtain ⟨h1, F, ⟨F1, F2, ⟨bs, ⟨u1, u2, b1, b2, e, rfl, t1, t2⟩, p2, p3, p4⟩, h3, h4, h5⟩, h6⟩ := h
  have hu : u1.length = v1.length := by rw [hl]; exact Rep.len t1
  obtain ⟨rfl, rfl⟩ := List.append_inj e hu.symm
  rw [List.nodup_append] at p2
  refine ⟨h1, F, ⟨fun b => b ∈ b1, fun b => b ∈ b2 ∨ F2 b, ⟨b1, t1, p2.1, fun b hb => p3 b (List.mem_append_left _ hb), fun _ => Iff.rfl⟩, ⟨fun b => b ∈ b2, F2, ⟨b2, t2, p2.2.1, fun b hb => p3 b (List.mem_append_right _ hb), fun _ => Iff.rfl⟩, h3, fun b hb => h4 b ((p4 b).2 (List.mem_append_right _ hb)), fun _ => Iff.rfl⟩, fun b hb hg => ?_, fun b => ?_⟩, h6⟩
  · rcases hg with hg | hg
    · exact p2.2.2 b hb b hg rfl
    · exact h4 b ((p4 b).2 (List.mem_append_left _ hb)) hg
  · rw [h5, p4, List.mem_append, or_assoc]
end

/-! ### The operations -/
section
variable {P : Program} {ops : Array Oper} {rest : List Oper} {o : Oper} {a : Act} {w w0 : World} {Q : Exit → Act → World → Prop} {Is Js : List Asn} {K : Act → World → Prop}
theorem wpList_wanted (hw : Region.wanted o (yielded ops a.tmps) = true) (h : ∀ K : Act → World → Prop, (∀ a w, wpList P ops Q rest a w → K a w) → o.wp P a w K Q) : wpList P ops Q (o :: rest) a w :=
  wpList_step fun K hK => by rw [if_pos hw]; exact h K hK
def zeroCells' (P : Program) (T : TypeId) : Option (List Value) := (P.info? T).bind fun i => i.zero.map fun z => z.cells.toList
theorem zeroCells_some {T : TypeId} {cs : List Value} (h : zeroCells' P T = some cs) : ∃ i z, P.info? T = some i ∧ i.zero = some z ∧ z.cells.toList = cs := by
  unfold zeroCells' at h
  cases hi : P.info? T with
  | none => rw [hi] at h; cases h
  | some i =>
    rw [hi] at h
    cases hz : i.zero with
    | none => simp [hz] at h
    | some z => simp [hz] at h; exact ⟨i, z, rfl, hz, h⟩
theorem wp_alloc_st (T : TypeId) (ho : o.op = .alloc T) {cs : List Value} (hz : zeroCells' P T = some cs) (hs : St w0 w Is)
    (h : ∀ w' b, w.heap.size = b → St w0 w' (rowA b cs T :: Is) → K (a.put o.dst (.pointer (some ⟨b, 0, none⟩))) w') : o.wp P a w K Q := by
  obtain ⟨i, z, h1, h2, rfl⟩ := zeroCells_some hz
  have hr : (Instr.alloc T true (.tuple #[])).run P w = .ok (.pointer (some ⟨w.heap.size, 0, none⟩)) (w.alloc (.cells z.cells T)) := by
    simp [Instr.alloc, zeroValue, typeInfo, h1, h2, newVar, newRow]
  unfold Oper.wp execOp
  simp only [ho, Sem.run_bind, hr, Result.andThen_ok, Sem.run_pure]
  exact h _ _ rfl (hs.alloc z.cells T)
theorem wp_box_st (T : TypeId) (x : Operand) (ho : o.op = .box T x) {v : Value} (hx : a.eval x = v) (hs : St w0 w Is)
    (h : ∀ w' b, w.heap.size = b → St w0 w' (rowA b v.cells.toList T :: Is) → K (a.put o.dst (.pointer (some ⟨b, 0, none⟩))) w') : o.wp P a w K Q := by
  have hr : (Instr.box T v).run P w = .ok (.pointer (some ⟨w.heap.size, 0, none⟩)) (w.alloc (.cells v.cells T)) := by simp [Instr.box, newVar, newRow]
  unfold Oper.wp execOp
  simp only [ho, hx, Sem.run_bind, hr, Result.andThen_ok, Sem.run_pure]
  exact h _ _ rfl (hs.alloc v.cells T)
def scalarT (P : Program) (T : TypeId) : Prop := ∃ d, P.underlying T = some d ∧ d.isRow = false
def aggT (P : Program) (T : TypeId) (n : Nat) : Prop := (∃ d, P.underlying T = some d ∧ d.isRow = true) ∧ (P.info? T).map (·.size) = some n
theorem wp_loadS_st (T : TypeId) (x : Operand) (ho : o.op = .load T x) {b f : Nat} (hx : a.eval x = .pointer (some ⟨b, f, none⟩)) (hs : St w0 w Is) {cs : List Value} {R : TypeId} (t : Take Is (rowA b cs R) Js)
    (hu : scalarT P T) {v : Value} (hc : cs[f]? = some v) (h : K (a.put o.dst v) w) : o.wp P a w K Q := by
  obtain ⟨d, hu, hd⟩ := hu
  have hrow := hs.row t
  have hcell : w.cell? ⟨b, f, none⟩ = some v := by rw [cell_row hrow]; simpa using hc
  have hagg : (isAgg T).run P w = .ok false w := by
    unfold isAgg
    rw [Sem.run_bind, run_underlying hu w]
    cases d <;> simp_all
  have hr : (Instr.loadAt T (.pointer (some ⟨b, f, none⟩))).run P w = .ok v w := by
    simp only [Instr.loadAt, Instr.sureAddr, Sem.run_bind, Sem.run_pure, Result.andThen_ok, loadVar, hagg, Bool.false_eq_true, if_false]
    simp [hcell]
  unfold Oper.wp execOp
  simp only [ho, hx, Sem.run_bind, hr, Result.andThen_ok, Sem.run_pure]
  exact h
theorem wp_loadA_st (T : TypeId) (x : Operand) (ho : o.op = .load T x) {b f : Nat} (hx : a.eval x = .pointer (some ⟨b, f, none⟩)) (hs : St w0 w Is) {cs : List Value} {R : TypeId} (t : Take Is (rowA b cs R) Js)
    {n : Nat} (hu : aggT P T n) {vs : List Value} (hv : (cs.drop f).take n = vs) (hn : vs.length = n) (h : K (a.put o.dst (.agg vs.toArray)) w) : o.wp P a w K Q := by
  obtain ⟨⟨d, hu, hd⟩, hi⟩ := hu
  have hrow := hs.row t
  refine wp_load_mid T x ho b f hx vs d ?_ hu hd (by rw [hn]; exact hi) h
  intro j v hj
  rw [cell_row hrow, List.getElem?_toArray]
  rw [← hv, List.getElem?_take] at hj
  split at hj
  · rw [List.getElem?_drop] at hj; exact hj
  · cases hj
theorem wp_store_st (T : TypeId) (x y : Operand) (ho : o.op = .store T x y) {b f : Nat} (hx : a.eval x = .pointer (some ⟨b, f, none⟩)) {v : Value} (hy : a.eval y = v) (hs : St w0 w Is) {cs : List Value} {R : TypeId} (t : Take Is (rowA b cs R) Js)
    {n : Nat} (hi : (P.info? T).map (·.size) = some n) {vs : List Value} (hv : v.cells.toList = vs) (hn : vs.length = n) (h1 : vs.all (·.oneCell') = true) (hl : f + n ≤ cs.length)
    (h : ∀ w', w'.heap.size = w.heap.size → St w0 w' (rowA b (nicL cs f vs) R :: Js) → K a w') (hd : o.dst = none) : o.wp P a w K Q := by
  subst hv
  have hrow := hs.row t
  have hn' : v.cells.size = n := by simpa using hn
  have hth : w.there b f v.cells.size := fun j hj => by
    rw [hn'] at hj
    refine ⟨?_, frozen_row hrow _⟩
    rw [cell_row hrow, List.getElem?_toArray, List.getElem?_eq_getElem (by omega)]; rfl
  have hsv : (storeVar T ⟨b, f, none⟩ v).run P w = .ok () (w.setCells b f v.cells.toList) := by
    have h0 := run_storeVar_mid (P := P) w b f T v.cells hth (by rw [hn']; exact hi) (by rw [← Array.all_toList]; exact h1)
    cases v <;> first | exact h0 | (simp only [storeVar, Value.cells] at h0 ⊢; exact h0)
  have hr : (Instr.storeAt T (.pointer (some ⟨b, f, none⟩)) v).run P w = .ok () (w.setCells b f v.cells.toList) := by
    simp only [Instr.storeAt, Instr.sureAddr, Sem.run_bind, Sem.run_pure, Result.andThen_ok, hsv]
  have hh := h _ (setCells_rest v.cells.toList w b f).2.2.2.1 (hs.setCells (vs := v.cells.toList) t (by omega))
  unfold Oper.wp execOp
  simp only [ho, hx, hy, Sem.run_bind, hr, Result.andThen_ok, Sem.run_pure]
  show K (a.put o.dst undef) _
  rw [hd]
  exact hh

theorem wpList_alloc_st (hw : Region.wanted o (yielded ops a.tmps) = true) (T : TypeId) (ho : o.op = .alloc T) {cs : List Value} (hz : zeroCells' P T = some cs) (hs : St w0 w Is)
    (h : ∀ w' b, w.heap.size = b → St w0 w' (rowA b cs T :: Is) → wpList P ops Q rest (a.put o.dst (.pointer (some ⟨b, 0, none⟩))) w') : wpList P ops Q (o :: rest) a w :=
  wpList_wanted hw fun _ hK => wp_alloc_st T ho hz hs fun w' b h1 h2 => hK _ _ (h w' b h1 h2)
theorem wpList_box_st (hw : Region.wanted o (yielded ops a.tmps) = true) (T : TypeId) (x : Operand) (ho : o.op = .box T x) {v : Value} (hx : a.eval x = v) (hs : St w0 w Is)
    (h : ∀ w' b, w.heap.size = b → St w0 w' (rowA b v.cells.toList T :: Is) → wpList P ops Q rest (a.put o.dst (.pointer (some ⟨b, 0, none⟩))) w') : wpList P ops Q (o :: rest) a w :=
  wpList_wanted hw fun _ hK => wp_box_st T x ho hx hs fun w' b h1 h2 => hK _ _ (h w' b h1 h2)
theorem wpList_loadS_st (hw : Region.wanted o (yielded ops a.tmps) = true) (T : TypeId) (x : Operand) (ho : o.op = .load T x) {b f : Nat} (hx : a.eval x = .pointer (some ⟨b, f, none⟩)) (hs : St w0 w Is) {cs : List Value} {R : TypeId} (t : Take Is (rowA b cs R) Js)
    (hu : scalarT P T) {v : Value} (hc : cs[f]? = some v) (h : wpList P ops Q rest (a.put o.dst v) w) : wpList P ops Q (o :: rest) a w :=
  wpList_wanted hw fun _ hK => wp_loadS_st T x ho hx hs t hu hc (hK _ _ h)
theorem wpList_loadA_st (hw : Region.wanted o (yielded ops a.tmps) = true) (T : TypeId) (x : Operand) (ho : o.op = .load T x) {b f : Nat} (hx : a.eval x = .pointer (some ⟨b, f, none⟩)) (hs : St w0 w Is) {cs : List Value} {R : TypeId} (t : Take Is (rowA b cs R) Js)
    {n : Nat} (hu : aggT P T n) {vs : List Value} (hv : (cs.drop f).take n = vs) (hn : vs.length = n) (h : wpList P ops Q rest (a.put o.dst (.agg vs.toArray)) w) : wpList P ops Q (o :: rest) a w :=
  wpList_wanted hw fun _ hK => wp_loadA_st T x ho hx hs t hu hv hn (hK _ _ h)
theorem wpList_store_st (hw : Region.wanted o (yielded ops a.tmps) = true) (T : TypeId) (x y : Operand) (ho : o.op = .store T x y) {b f : Nat} (hx : a.eval x = .pointer (some ⟨b, f, none⟩)) {v : Value} (hy : a.eval y = v) (hs : St w0 w Is) {cs : List Value} {R : TypeId} (t : Take Is (rowA b cs R) Js)
    {n : Nat} (hi : (P.info? T).map (·.size) = some n) {vs : List Value} (hv : v.cells.toList = vs) (hn : vs.length = n) (h1 : vs.all (·.oneCell') = true) (hl : f + n ≤ cs.length)
    (h : ∀ w', w'.heap.size = w.heap.size → St w0 w' (rowA b (nicL cs f vs) R :: Js) → wpList P ops Q rest a w') (hd : o.dst = none) : wpList P ops Q (o :: rest) a w :=
  wpList_wanted hw fun _ hK => wp_store_st T x y ho hx hy hs t hi hv hn h1 hl (fun w' h1 h2 => hK _ _ (h w' h1 h2)) hd
/-- What a function hands back, result by result. -/
def RVs (P : Program) (w : World) (tmps : Array Value) : List ResultVar → List Value → Prop
  | [], vs => vs = []
  | r :: rs, vs => ∃ v l, vs = v :: l ∧ RVs P w tmps rs l ∧ match r with
    | .tmp t => tmps.getD t undef = v
    | .cell a t => ∃ b, tmps.getD a undef = .pointer (some b) ∧ (loadVar t b).run P w = .ok v w
theorem RVs.nil {tmps : Array Value} : RVs P w tmps [] [] := rfl
theorem RVs.tmp {tmps : Array Value} {t : Tmp} {v : Value} {rs : List ResultVar} {vs : List Value} (hv : tmps.getD t undef = v) (h : RVs P w tmps rs vs) : RVs P w tmps (.tmp t :: rs) (v :: vs) := ⟨v, vs, rfl, h, hv⟩
theorem RVs.cell {tmps : Array Value} {p : Tmp} {ty : TypeId} {g : Nat} {rs : List ResultVar} {vs : List Value} (hp : tmps.getD p undef = .pointer (some ⟨g, 0, none⟩)) (hs : St w0 w Is) {cs : List Value} {R : TypeId} (t : Take Is (rowA g cs R) Js)
    {n : Nat} (hu : aggT P ty n) (hn : cs.length = n) (h : RVs P w tmps rs vs) : RVs P w tmps (.cell p ty :: rs) (.agg cs.toArray :: vs) := by
  obtain ⟨⟨d, hu, hd⟩, hi⟩ := hu
  exact ⟨_, vs, rfl, h, ⟨g, 0, none⟩, hp, run_loadVar_row w g R ty cs.toArray (0, 0) d (hs.row t) hu (by cases d <;> simp_all) (by rw [hi]; simp [hn])⟩
theorem RVs.run {fn : Func} {tmps : Array Value} {rs : List ResultVar} (hr : fn.results = rs.toArray) {vs : List Value} (h : RVs P w tmps rs vs) : (results fn tmps).run P w = .ok (if h : vs.toArray.size = 1 then vs.toArray[0] else .tuple vs.toArray) w := by
  have key : ∀ (rs : List ResultVar) (vs : List Value), RVs P w tmps rs vs → (rs.mapM (m := Sem) fun
      | .tmp t => pure (tmps.getD t undef)
      | .cell a t => do loadVar t (← asAddr (tmps.getD a undef))).run P w = .ok vs w := by
    intro rs
    induction rs with
    | nil => rintro vs rfl; simp
    | cons r rs ih =>
      rintro vs ⟨v, l, rfl, hl, hv⟩
      have := ih l hl
      cases r with
      | tmp t => simp only at hv; simp only [List.mapM_cons, Sem.run_bind, Sem.run_pure, Result.andThen_ok, hv, this]
      | cell a t =>
        obtain ⟨b, hb, hv⟩ := hv
        have ha : asAddr (tmps.getD a undef) = pure b := by rw [hb]; rfl
        simp only [List.mapM_cons, Sem.run_bind, Sem.run_pure, Result.andThen_ok, ha, hv, this]
  have := key rs vs h
  unfold results
  rw [hr, List.mapM_toArray]
  have e := congrArg (fun r : Result (List Value) => (r.andThen fun a w' => Result.ok a.toArray w').andThen fun a w' => Result.ok (if h : a.size = 1 then a[0] else Value.tuple a) w') this
  simp only [Result.andThen_ok] at e
  simp only [Sem.run_bind, Sem.run_map, Sem.run_pure]
  exact e
/-- A function's return. -/
theorem bodyPost_rets {fn : Func} {R : Ending → World → Prop} {rs : List ResultVar} {vs : List Value} (hr : fn.results = rs.toArray) (h : RVs P w a.tmps rs vs) (hl : 2 ≤ vs.length) (hd : a.defers = []) (hR : R (.returned (.tuple vs.toArray)) w) : bodyPost P fn R .ret a w := by
  have := h.run hr
  rw [dif_neg (by simp; omega)] at this
  exact bodyPost_ret this hd hR
theorem bodyPost_retc {fn : Func} {R : Ending → World → Prop} {p : Tmp} {ty : TypeId} (hr : fn.results = #[.cell p ty]) {g : Nat} (hp : a.tmps.getD p undef = .pointer (some ⟨g, 0, none⟩)) (hs : St w0 w Is) {cs : List Value} {T : TypeId} (t : Take Is (rowA g cs T) Js)
    {n : Nat} (hu : aggT P ty n) (hn : cs.length = n) (hd : a.defers = []) (hR : R (.returned (.agg cs.toArray)) w) : bodyPost P fn R .ret a w :=
  bodyPost_ret ((RVs.cell hp hs t hu hn RVs.nil).run hr) hd hR
end
end Go

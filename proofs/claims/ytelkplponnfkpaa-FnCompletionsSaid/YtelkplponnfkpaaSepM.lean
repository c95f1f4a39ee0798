/- Parts that are marked. No program in sight. -/
import Derived.Test.YtelkplponnfkpaaSep2
namespace Go
open Go.RowKit
set_option linter.unusedVariables false
section
variable {w0 w w' : World} {Is Js Ks : List Asn}
theorem St.expose {α : Type} [Rep α] {x : α} {vs : List Value} (h : St w0 w Is) (t : Take Is (ownA x vs) Js) :
    ∃ bs, Rep.tree w x vs bs ∧ bs.Nodup ∧ (∀ b ∈ bs, ∀ o, w.frozen? ⟨b, o, none⟩ = false) ∧
      ∀ {β : Type} [Rep β] (y : β) (us : List Value) (w' : World) (f : Nat → Obj) (g : Gr), w' = (w.upd bs f).plus g → Rep.tree w' y us bs → (∀ b ∈ bs, ∀ o, w'.frozen? ⟨b, o, none⟩ = false) → St w0 w' (ownA y us :: Js) := by
  obtain ⟨h1, F, ⟨F1, F2, ⟨bs, p1, p2, p3, p4⟩, h3, h4, h5⟩, h6⟩ := h.take t
  refine ⟨bs, p1, p2, p3, ?_⟩
  rintro β _ y us w' f g rfl ht hf
  have hh : ∀ b, b < w.heap.size → b ∉ bs → ((w.upd bs f).plus g).heap[b]? = w.heap[b]? := fun b hb hn => upd_plus_other hb hn
  refine ⟨Ex.of_below ⟨h1.below.os, h1.below.tape, h1.below.output, Nat.le_trans h1.size (by simp), fun k hk => ?_⟩, fun b => b ∈ bs ∨ F2 b, ⟨fun b => b ∈ bs, F2, ⟨bs, ht, p2, hf, fun _ => Iff.rfl⟩, h3.stable fun b hb => hh b (h3.lt b hb) fun hm => h4 b ((p4 b).2 hm) hb, fun b hb => h4 b ((p4 b).2 hb), fun _ => Iff.rfl⟩, fun b hb => ?_⟩
  · rw [hh k (Nat.lt_of_lt_of_le hk h1.size) fun hm => by have := h6 k ((h5 k).2 (.inl ((p4 k).2 hm))); omega]
    exact h1.block hk
  · rcases hb with hb | hb
    · exact h6 b ((h5 b).2 (.inl ((p4 b).2 hb)))
    · exact h6 b ((h5 b).2 (.inr hb))
theorem St.marked {α β : Type} [Rep α] [Rep β] {x : α} {y : β} {vs : List Value} {P : Program} {f : FuncId} {args : Array Value} {k : Int} (h : St w0 w Is) (t : Take Is (ownA x vs) Js)
    (hc : ∀ bs, Rep.tree w x vs bs → bs.Nodup → (∀ b ∈ bs, ∀ o, w.frozen? ⟨b, o, none⟩ = false) → Calls P f args w (Marked w y vs bs k)) :
    Calls P f args w fun e w' => e = .returned (.int .i64 k) ∧ St w0 w' (ownA y vs :: Js) := by
  obtain ⟨bs, t1, t2, t3, t4⟩ := h.expose t
  exact (hc bs t1 t2 t3).mono fun e w' ⟨f, g, he, hw, ht, hf⟩ => ⟨he, t4 y vs w' f g hw ht hf⟩
end
theorem Rep.form1 {α : Type} [Rep α] {w : World} {xs : List α} {vs : List Value} {bs : List Nat} (h : Rep.tree w xs vs bs) : ∃ a c, vs = [.slice a xs.length c] ∧ c ≤ maxLen := by
  obtain ⟨a, c, h1, _, h2, _⟩ := h
  exact ⟨a, c, h1, h2⟩
theorem take_all : ∀ (l : List Asn), Arr l l
  | [] => .nil
  | A :: l => .cons .head (take_all l)
theorem arr_drop (B : Asn) : ∀ (l : List Asn), Arr (B :: l) l
  | [] => .nil
  | A :: l => .cons (.tail .head) (arr_drop B l)
theorem arr_all {l m : List Asn} {A B : Asn} {k : List Asn} (t : Take l A k) (u : Take k B m) : Arr l (A :: B :: m) := .cons t (.cons u (take_all m))
def markSS : List (List Int) → Int → List (List Int)
  | [], _ => []
  | x :: l, k => marks x.length k :: markSS l (k + x.length)
def preL : List (List Int) → Nat → Nat
  | _, 0 => 0
  | [], _ + 1 => 0
  | x :: l, i + 1 => x.length + preL l i
def totL : List (List Int) → Nat
  | [] => 0
  | x :: l => x.length + totL l
theorem preL_zero : ∀ l : List (List Int), preL l 0 = 0
  | [] => rfl
  | _ :: _ => rfl
theorem preL_succ : ∀ (l : List (List Int)) (i : Nat) (h : i < l.length), preL l (i + 1) = preL l i + (l[i]'h).length
  | x :: l, 0, _ => by simp [preL, preL_zero]
  | x :: l, i + 1, h => by
    have := preL_succ l i (by simpa using h)
    show x.length + preL l (i + 1) = x.length + preL l i + (l[i]'(by simpa using h)).length
    omega
theorem preL_all : ∀ l : List (List Int), preL l l.length = totL l
  | [] => rfl
  | x :: l => by show x.length + preL l l.length = x.length + totL l; rw [preL_all l]
theorem preL_le : ∀ (l : List (List Int)) (i : Nat), preL l i ≤ totL l
  | [], 0 => Nat.le_refl _
  | [], _ + 1 => Nat.le_refl _
  | _ :: _, 0 => Nat.zero_le _
  | x :: l, i + 1 => by have := preL_le l i; show x.length + preL l i ≤ x.length + totL l; omega
theorem markSS_length : ∀ (l : List (List Int)) (k : Int), (markSS l k).length = l.length
  | [], _ => rfl
  | x :: l, k => by simp [markSS, markSS_length l]
theorem markSS_get : ∀ (l : List (List Int)) (k : Int) (i : Nat) (h : i < (markSS l k).length) (h' : i < l.length), (markSS l k)[i] = marks (l[i]'h').length (k + preL l i)
  | x :: l, k, 0, _, _ => by simp [markSS, preL]
  | x :: l, k, i + 1, h, h' => by
    have := markSS_get l (k + x.length) i (by simpa [markSS] using h) (by simpa using h')
    simp only [markSS, List.getElem_cons_succ, this, preL]
    congr 1
    push_cast
    omega
theorem markSS_preL : ∀ (l : List (List Int)) (k : Int) (i : Nat), preL (markSS l k) i = preL l i
  | [], _, 0 => rfl
  | [], _, _ + 1 => rfl
  | _ :: _, _, 0 => rfl
  | x :: l, k, i + 1 => by simp [markSS, preL, marks_length, markSS_preL l]
theorem markSS_totL (l : List (List Int)) (k : Int) : totL (markSS l k) = totL l := by
  rw [← preL_all, ← preL_all, markSS_length, markSS_preL]
/-- The first i of the slices are marked. -/
def MidSS (w wr : World) (bs : List Nat) (b : Nat) (xs : List (List Int)) (k : Int) (i : Nat) (ts : Nat → List Value) (ds : Nat → List Nat) : Prop :=
  wr.os = w.os ∧ wr.tape = w.tape ∧ wr.output = w.output ∧ w.heap.size ≤ wr.heap.size ∧ (∀ c, c < w.heap.size → c ∉ bs → wr.heap[c]? = w.heap[c]?) ∧ wr.heap[b]? = w.heap[b]? ∧
    (∀ c ∈ bs, c < w.heap.size ∧ ∀ o, wr.frozen? ⟨c, o, none⟩ = false) ∧ ∀ j (hj : j < xs.length), Rep.tree wr (if j < i then marks xs[j].length (k + preL xs j) else xs[j]) (ts j) (ds j)
theorem nodup_range_apart {ds : Nat → List Nat} : ∀ {n : Nat}, ((List.range n).flatMap ds).Nodup → ∀ {i j : Nat}, i < n → j < n → i ≠ j → ∀ {c : Nat}, c ∈ ds i → c ∉ ds j
  | 0, _, i, j, hi, _, _, _, _ => absurd hi (Nat.not_lt_zero _)
  | n + 1, h, i, j, hi, hj, hij, c, hc => by
    rw [List.range_succ, List.flatMap_append, List.nodup_append] at h
    obtain ⟨h1, h2, h3⟩ := h
    intro hc2
    by_cases e1 : i = n
    · subst e1
      have : j < i := by omega
      exact h3 c (List.mem_flatMap.2 ⟨j, List.mem_range.2 this, hc2⟩) c (by simpa using hc) rfl
    · by_cases e2 : j = n
      · subst e2
        exact h3 c (List.mem_flatMap.2 ⟨i, List.mem_range.2 (by omega), hc⟩) c (by simpa using hc2) rfl
      · exact nodup_range_apart h1 (by omega) (by omega) hij hc hc2
theorem MidSS.step {w wr w' : World} {bs : List Nat} {b : Nat} {xs : List (List Int)} {k : Int} {i : Nat} {ts : Nat → List Value} {ds : Nat → List Nat} (h : MidSS w wr bs b xs k i ts ds) (hi : i < xs.length)
    (hbs : bs = b :: (List.range xs.length).flatMap ds) (hn : bs.Nodup) {f : Nat → Obj} {g : Gr} (hw : w' = (wr.upd (ds i) f).plus g) (ht : Rep.tree w' (marks xs[i].length (k + preL xs i)) (ts i) (ds i)) (hf : ∀ c ∈ ds i, ∀ o, w'.frozen? ⟨c, o, none⟩ = false) :
    MidSS w w' bs b xs k (i + 1) ts ds := by
  obtain ⟨h1, h2, h3, h4, h5, h6, h7, h8⟩ := h
  have hin : ∀ j, j < xs.length → ∀ c ∈ ds j, c ∈ bs := fun j hj c hc => by rw [hbs]; exact List.mem_cons_of_mem _ (List.mem_flatMap.2 ⟨j, List.mem_range.2 hj, hc⟩)
  have hdis : ∀ j, j < xs.length → j ≠ i → ∀ c ∈ ds j, c ∉ ds i := by
    rw [hbs, List.nodup_cons] at hn
    exact fun j hj hji c hc hc2 => nodup_range_apart hn.2 hj hi hji hc hc2
  have hb : b ∉ ds i := by
    rw [hbs, List.nodup_cons] at hn
    exact fun hm => hn.1 (List.mem_flatMap.2 ⟨i, List.mem_range.2 hi, hm⟩)
  have hsame : ∀ c, c < wr.heap.size → c ∉ ds i → w'.heap[c]? = wr.heap[c]? := fun c hc hm => by rw [hw]; exact upd_plus_other hc hm
  refine ⟨by rw [hw]; exact h1, by rw [hw]; exact h2, by rw [hw]; exact h3, Nat.le_trans h4 (by rw [hw]; simp), fun c hc hm => ?_, ?_, fun c hc => ⟨(h7 c hc).1, fun o => ?_⟩, fun j hj => ?_⟩
  · rw [hsame c (by omega) fun hd => hm (hin i hi c hd)]; exact h5 c hc hm
  · have hbb := (h7 b (by rw [hbs]; exact List.mem_cons_self ..)).1
    rw [hsame b (by omega) hb]; exact h6
  · by_cases hd : c ∈ ds i
    · exact hf c hd o
    · have hcl := (h7 c hc).1
      rw [World.frozen?_of_block (w := wr) (hsame c (by omega) hd)]; exact (h7 c hc).2 o
  · by_cases hji : j = i
    · subst hji; rw [if_pos (by omega)]; exact ht
    · have := h8 j hj
      have e : (if j < i + 1 then marks xs[j].length (k + preL xs j) else xs[j]) = if j < i then marks xs[j].length (k + preL xs j) else xs[j] := by
        by_cases hlt : j < i
        · rw [if_pos hlt, if_pos (by omega)]
        · rw [if_neg hlt, if_neg (by omega)]
      rw [e]
      exact Rep.stable this fun c hc => hsame c (Rep.lt this c hc) (hdis j hj hji c hc)
end Go

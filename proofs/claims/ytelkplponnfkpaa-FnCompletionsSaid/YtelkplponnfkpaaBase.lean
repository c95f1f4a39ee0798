/- Base lemmas of this part's proofs: worlds that only grow. No program in sight. -/
import Derived.WalkKit
import Derived.WalkSpells
import Derived.WalkLawsBesides
import Derived.BigQuiet
namespace Go
open Go.RowKit

/-- The world with some blocks more, and some draws. -/
structure Gr where
  o : Array Obj
  d : Nat
instance : Inhabited Gr := ⟨⟨#[], 0⟩⟩
def Gr.add (g k : Gr) : Gr := ⟨g.o ++ k.o, k.d⟩
def Gr.drew (g : Gr) : Gr := ⟨g.o, g.d + 1⟩
theorem Gr.add_assoc (a b c : Gr) : (a.add b).add c = a.add (b.add c) := by simp [Gr.add]
def World.plus (w : World) (g : Gr) : World := { w with heap := w.heap ++ g.o, drawn := g.d }

section
variable (w : World) (g k : Gr)
@[go_sem, simp] theorem World.size_plus : (w.plus g).heap.size = w.heap.size + g.o.size := by simp [World.plus]
@[go_sem] theorem World.cell?_plus (n i : Nat) (hn : n < w.heap.size) : (w.plus g).cell? ⟨n, i, none⟩ = w.cell? ⟨n, i, none⟩ := by
  simp only [World.plus, World.cell?, Array.getElem?_append_left hn]
@[go_sem] theorem World.frozen?_plus (n i : Nat) (hn : n < w.heap.size) : (w.plus g).frozen? ⟨n, i, none⟩ = w.frozen? ⟨n, i, none⟩ := by
  simp only [World.plus, World.frozen?, Array.getElem?_append_left hn]
@[go_sem] theorem World.setCell_plus (n i : Nat) (v : Value) (hn : n < w.heap.size) : (w.plus g).setCell ⟨n, i, none⟩ v = (w.setCell ⟨n, i, none⟩ v).plus g := by
  simp only [World.plus, World.setCell]
  congr 1
  apply Array.ext_getElem?
  intro j
  simp only [Array.getElem?_append, Array.getElem?_modify, Array.size_modify]
  by_cases h : j < w.heap.size
  · simp [h]
  · rw [if_neg h, if_neg h, if_neg (by omega)]
@[go_sem] theorem World.drew_plus : (w.plus g).drew = w.plus g.drew := rfl
@[go_sem] theorem World.plus_drew : w.drew.plus g = w.plus g := rfl
@[go_sem] theorem World.plus_plus : (w.plus g).plus k = w.plus (g.add k) := by simp [World.plus, Gr.add]
@[go_sem] theorem lt_p0 (m : Nat) : (m < m + 1) = True := by simp; try omega
@[go_sem] theorem lt_p1 (m a : Nat) : (m < m + 1 + a) = True := by simp; try omega
@[go_sem] theorem lt_p2 (m a b : Nat) : (m < m + 1 + a + b) = True := by simp; try omega
@[go_sem] theorem lt_p3 (m a b c : Nat) : (m < m + 1 + a + b + c) = True := by simp; try omega
@[go_sem] theorem lt_p4 (m a b c d : Nat) : (m < m + 1 + a + b + c + d) = True := by simp; try omega
@[go_sem] theorem lt_p5 (m a b c d e : Nat) : (m < m + 1 + a + b + c + d + e) = True := by simp; try omega
@[go_sem] theorem lt_p6 (m a b c d e f : Nat) : (m < m + 1 + a + b + c + d + e + f) = True := by simp; try omega
@[go_sem] theorem lt_p7 (m a b c d e f g : Nat) : (m < m + 1 + a + b + c + d + e + f + g) = True := by simp; try omega
@[go_sem] theorem lt_p8 (m a b c d e f g h : Nat) : (m < m + 1 + a + b + c + d + e + f + g + h) = True := by simp; try omega
@[go_sem] theorem lt_p9 (m a b c d e f g h i : Nat) : (m < m + 1 + a + b + c + d + e + f + g + h + i) = True := by simp; try omega
@[go_sem] theorem lt_p10 (m a b c d e f g h i j : Nat) : (m < m + 1 + a + b + c + d + e + f + g + h + i + j) = True := by simp; try omega
@[go_sem] theorem lt_q1 {a b : Nat} (c0 : Nat) (h : a < b) : (a < b + c0) = True := by simp; omega
@[go_sem] theorem lt_q2 {a b : Nat} (c0 c1 : Nat) (h : a < b) : (a < b + c0 + c1) = True := by simp; omega
@[go_sem] theorem lt_q3 {a b : Nat} (c0 c1 c2 : Nat) (h : a < b) : (a < b + c0 + c1 + c2) = True := by simp; omega
@[go_sem] theorem lt_q4 {a b : Nat} (c0 c1 c2 c3 : Nat) (h : a < b) : (a < b + c0 + c1 + c2 + c3) = True := by simp; omega
@[go_sem] theorem lt_q5 {a b : Nat} (c0 c1 c2 c3 c4 : Nat) (h : a < b) : (a < b + c0 + c1 + c2 + c3 + c4) = True := by simp; omega
@[go_sem] theorem lt_q6 {a b : Nat} (c0 c1 c2 c3 c4 c5 : Nat) (h : a < b) : (a < b + c0 + c1 + c2 + c3 + c4 + c5) = True := by simp; omega
@[go_sem] theorem lt_q7 {a b : Nat} (c0 c1 c2 c3 c4 c5 c6 : Nat) (h : a < b) : (a < b + c0 + c1 + c2 + c3 + c4 + c5 + c6) = True := by simp; omega
@[go_sem] theorem lt_q8 {a b : Nat} (c0 c1 c2 c3 c4 c5 c6 c7 : Nat) (h : a < b) : (a < b + c0 + c1 + c2 + c3 + c4 + c5 + c6 + c7) = True := by simp; omega
theorem World.alloc_is_plus (x : Obj) : w.alloc x = w.plus ⟨#[x], w.drawn⟩ := by unfold World.plus World.alloc; rw [Array.push_eq_append]
theorem World.drew_is_plus : w.drew = w.plus ⟨#[], w.drawn + 1⟩ := by unfold World.plus World.drew; rw [Array.append_empty]
theorem World.self_is_plus : w = w.plus ⟨#[], w.drawn⟩ := by simp [World.plus]
end

/-- w' is w with at most new blocks and draws. -/
def Ex (w w' : World) : Prop := ∃ g, w' = w.plus g
theorem Ex.refl (w : World) : Ex w w := ⟨_, w.self_is_plus⟩
theorem Ex.trans {a b c : World} (h : Ex a b) (k : Ex b c) : Ex a c := by
  obtain ⟨g, rfl⟩ := h; obtain ⟨p, rfl⟩ := k; exact ⟨_, World.plus_plus ..⟩
theorem Ex.alloc {a b : World} (h : Ex a b) (x : Obj) : Ex a (b.alloc x) := h.trans ⟨_, World.alloc_is_plus b x⟩
theorem Ex.drew {a b : World} (h : Ex a b) : Ex a b.drew := h.trans ⟨_, World.drew_is_plus b⟩
theorem Ex.plus {a b : World} (h : Ex a b) (g : Gr) : Ex a (b.plus g) := h.trans ⟨g, rfl⟩
theorem Ex.plus_add {a w : World} {g k : Gr} (h : Ex a (w.plus g)) : Ex a (w.plus (g.add k)) := by rw [← World.plus_plus]; exact h.plus k
theorem Ex.plus_drew {a w : World} {g : Gr} (h : Ex a (w.plus g)) : Ex a (w.plus g.drew) := h.drew
theorem Ex.below {w w' : World} (h : Ex w w') : Below w.heap.size w w' := by
  obtain ⟨g, rfl⟩ := h
  exact ⟨rfl, rfl, rfl, by simp, fun k hk => by simp only [World.plus, Array.getElem?_append_left hk]⟩
theorem Ex.of_below {w w' : World} (h : Below w.heap.size w w') : Ex w w' := by
  refine ⟨⟨w'.heap.extract w.heap.size w'.heap.size, w'.drawn⟩, ?_⟩
  have e : w'.heap = w.heap ++ w'.heap.extract w.heap.size w'.heap.size := by
    apply Array.ext_getElem?
    intro i
    by_cases hi : i < w.heap.size
    · rw [Array.getElem?_append_left hi, h.block i hi]
    · rw [Array.getElem?_append_right (by omega), Array.getElem?_extract]
      split
      · congr 1; omega
      · rw [Array.getElem?_eq_none]; omega
  cases w'
  simp only [World.plus] at *
  rw [← e]
  have h1 := h.os; have h2 := h.tape; have h3 := h.output
  simp only at h1 h2 h3
  rw [h1, h2, h3]
theorem Ex.size {w w' : World} (h : Ex w w') : w.heap.size ≤ w'.heap.size := h.below.size
theorem Ex.cell {w w' : World} (h : Ex w w') {p : Addr} (hp : p.block < w.heap.size) : w'.cell? p = w.cell? p := h.below.cell hp
theorem Ex.frozen {w w' : World} (h : Ex w w') {p : Addr} (hp : p.block < w.heap.size) : w'.frozen? p = w.frozen? p := h.below.frozen hp
theorem Ex.block {w w' : World} (h : Ex w w') {k : Nat} (hk : k < w.heap.size) : w'.heap[k]? = w.heap[k]? := h.below.block k hk

section
variable {P : Program}
/-- A region that draws its order, whose operations read, and whose callees at most make memory and hand back one value whatever the order. -/
theorem wp_region_ext {id : Nat} {Q : Exit → Act → World → Prop} {a : Act} {w : World} {l : List Oper} (hm : P.follows .mixedOrders = true) (hB : Region.lexB .any l.toArray = true)
    (h : wpQuiet P l.toArray (fun w' => ∃ g, w' = w.plus g) (fun a' => ∀ g, Q .normal a' (w.plus g)) l a) : (Code.region id l.toArray true).wp P Q a w := by
  refine wp_region_quiet (C := fun w' => ∃ g, w' = w.plus g) hm hB ⟨_, World.drew_is_plus w⟩ ?_
  have e : (fun a' => ∀ g, Q .normal a' (w.plus g)) = (fun a' => ∀ w', (∃ g, w' = w.plus g) → Q .normal a' w') := by
    funext a'
    refine propext ⟨fun h w' ⟨g, e⟩ => e ▸ h g, fun h g => h _ ⟨g, rfl⟩⟩
  rw [← e]
  exact h

theorem Calls.ext_of {f : FuncId} {args : Array Value} {w : World} {g : Gr} {v : Value}
    (h : Calls P f args (w.plus g) fun e w' => e = .returned v ∧ Ex (w.plus g) w') : Calls P f args (w.plus g) fun e w'' => e = .returned v ∧ ∃ g, w'' = w.plus g :=
  h.mono fun _ _ ⟨he, hm⟩ => ⟨he, (Ex.trans ⟨g, rfl⟩ hm)⟩
theorem Calls.ext_of2 {f : FuncId} {args : Array Value} {w : World} {g a : Gr} {v : Value}
    (h : Calls P f args (w.plus (g.add a)) fun e w' => e = .returned v ∧ Ex (w.plus (g.add a)) w') : Calls P f args (w.plus (g.add a)) fun e w'' => e = .returned v ∧ ∃ b, w'' = w.plus (g.add b) :=
  h.mono fun _ _ ⟨he, b, hm⟩ => ⟨he, a.add b, by rw [hm, World.plus_plus, Gr.add_assoc]⟩
theorem Calls.ext_of2_same {f : FuncId} {args : Array Value} {w : World} {g a : Gr} {v : Value}
    (h : Calls P f args (w.plus (g.add a)) fun e w' => e = .returned v ∧ w.plus (g.add a) = w') : Calls P f args (w.plus (g.add a)) fun e w'' => e = .returned v ∧ ∃ b, w'' = w.plus (g.add b) :=
  h.mono fun _ _ ⟨he, hm⟩ => ⟨he, a, hm.symm⟩
theorem Calls.ext_of_same {f : FuncId} {args : Array Value} {w : World} {g : Gr} {v : Value}
    (h : Calls P f args (w.plus g) fun e w' => e = .returned v ∧ w.plus g = w') : Calls P f args (w.plus g) fun e w'' => e = .returned v ∧ ∃ g, w'' = w.plus g :=
  h.mono fun _ _ ⟨he, hm⟩ => ⟨he, g, hm.symm⟩
end

theorem hid {p : Prop} (h : p) : Hid p := h
theorem ret_bool {a b : Bool} (h : a = b) : Ending.returned (.bool a) = .returned (.bool b) := by rw [h]
theorem ret_int {k : IntKind} {a b : Int} (h : a = b) : Ending.returned (.int k a) = .returned (.int k b) := by rw [h]

def inB (n a b : Int) : Bool := decide (a ≤ n) && decide (n ≤ b)
theorem inB_iff {n a b : Int} : inB n a b = true ↔ a ≤ n ∧ n ≤ b := by simp [inB]
theorem inB_not {n a b : Int} : inB n a b = false ↔ n < a ∨ b < n := by simp [inB]; omega
end Go

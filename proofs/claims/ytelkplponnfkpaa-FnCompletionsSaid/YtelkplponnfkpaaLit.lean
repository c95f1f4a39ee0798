/- Literal slices of any length, slices made. No program in sight. -/
import Derived.Test.YtelkplponnfkpaaSep2
import Derived.Great.FillDense
namespace Go
open Go.RowKit
set_option linter.unusedVariables false
theorem arr_skip {A : Asn} {l m : List Asn} (h : Arr l m) : Arr (A :: l) m := by
  induction h with
  | nil => exact .nil
  | cons t _ ih => exact .cons (.tail t) ih
section
variable {P : Program} {ops : Array Oper} {rest : List Oper} {o : Oper} {a : Act} {w w0 : World} {Q : Exit → Act → World → Prop} {Is Js : List Asn} {K : Act → World → Prop}
theorem wp_bsliceN_st (t : TypeId) (n : Nat) (parts : Array (Nat × Operand)) (ho : o.op = .buildSlice t n parts) (e : TypeId) (ht : P.underlying t = some (.slice e)) {z : Value} {size bytes : Nat} (hi : infoT P e z size bytes) (hp : 0 < size) (ys : List Operand)
    (hparts : parts.toList = (ys.zipIdx 0).map fun x => (x.2, x.1)) (hn : ys.length = n) (h0 : 0 < n) (hm : n * size ≤ 16777216) {vs : List Value} (hv : ys.map a.eval = vs) (hvs : vs.all (fun v => v.cells.size == size) = true) {cs : List Value} (hc : (vs.flatMap fun v => v.cells.toList) = cs) (hs : St w0 w Is)
    (h : ∀ w' b, w.heap.size = b → St w0 w' (rowA b cs e :: Is) → K (a.put o.dst (.slice (some ⟨b, 0, none⟩) n n)) w') : o.wp P a w K Q := by
  obtain ⟨h1, h2⟩ := hi
  obtain ⟨i, hi, hzz⟩ := Option.map_eq_some_iff.1 h1
  simp only [Prod.mk.injEq] at hzz
  obtain ⟨hz, rfl, rfl⟩ := hzz
  subst hc hn
  refine wp_buildSlice t e _ parts ho (vs.flatMap fun v => v.cells.toList).toArray i z ht hi hz (by omega) (by have := Nat.mul_pos h0 hp; omega) ?_ (h _ _ rfl ?_)
  · have e1 : (parts.map fun (i, x) => (i, a.eval x)).toList = (vs.zipIdx 0).map fun x => (x.2, x.1) := by
      rw [Array.toList_map, hparts, ← hv, List.zipIdx_map, List.map_map, List.map_map]
      rfl
    rw [e1]
    refine Great.fill_whole hp vs _ (fun v hv => by have := List.all_eq_true.1 hvs v hv; simpa using this) ?_
    rw [← hv]; simp
  · have := hs.alloc (vs.flatMap fun v => v.cells.toList).toArray e
    simpa using this
theorem wpList_bsliceN_st (hw : Region.wanted o (yielded ops a.tmps) = true) (t : TypeId) (n : Nat) (parts : Array (Nat × Operand)) (ho : o.op = .buildSlice t n parts) (e : TypeId) (ht : P.underlying t = some (.slice e)) {z : Value} {size bytes : Nat} (hi : infoT P e z size bytes) (hp : 0 < size) (ys : List Operand)
    (hparts : parts.toList = (ys.zipIdx 0).map fun x => (x.2, x.1)) (hn : ys.length = n) (h0 : 0 < n) (hm : n * size ≤ 16777216) {vs : List Value} (hv : ys.map a.eval = vs) (hvs : vs.all (fun v => v.cells.size == size) = true) {cs : List Value} (hc : (vs.flatMap fun v => v.cells.toList) = cs) (hs : St w0 w Is)
    (h : ∀ w' b, w.heap.size = b → St w0 w' (rowA b cs e :: Is) → wpList P ops Q rest (a.put o.dst (.slice (some ⟨b, 0, none⟩) n n)) w') : wpList P ops Q (o :: rest) a w :=
  wpList_wanted hw fun _ hK => wp_bsliceN_st t n parts ho e ht hi hp ys hparts hn h0 hm hv hvs hc hs fun w' b h1 h2 => hK _ _ (h w' b h1 h2)
theorem wpList_make_st (hw : Region.wanted o (yielded ops a.tmps) = true) (t : TypeId) (l c : Operand) (ho : o.op = .makeSlice t l c) (e : TypeId) {z : Value} {bytes : Nat} (ht : P.underlying t = some (.slice e)) (hi : infoT P e z 1 bytes) {n : Nat} (hl : a.eval l = .int .i64 (n : Int)) (hc : a.eval c = .int .i64 (n : Int))
    (hz : z.cells = #[z]) (hb : bytes * n ≤ 281474976710656) (h63 : n ≤ 9223372036854775807) (hs : St w0 w Is)
    (h : ∀ w' b, w.heap.size = b → St w0 w' (rowA b (List.replicate n z) e :: Is) → wpList P ops Q rest (a.put o.dst (.slice (some ⟨b, 0, none⟩) n n)) w') : wpList P ops Q (o :: rest) a w :=
  wpList_wanted hw fun _ hK => wp_make_st t l c ho e ht hi hl hc hz hb h63 hs fun w' b h1 h2 => hK _ _ (h w' b h1 h2)
end
end Go

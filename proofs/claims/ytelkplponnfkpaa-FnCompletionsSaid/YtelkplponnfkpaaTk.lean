/- Short names for the small proofs that every arm of a walk prints (the tactic block is an argument's default). -/
import Derived.Test.YtelkplponnfkpaaSep2
import Derived.Test.YtelkplponnfkpaaFlat
namespace Go
open Go.RowKit
set_option linter.unusedVariables false
theorem tk {Is Js : List Asn} {A : Asn} (h : Take Is A Js := by first | ((repeat (first | (with_reducible exact Take.head) | apply Take.tail)); done) | ((repeat (first | exact Take.head | apply Take.tail)); done)) : Take Is A Js := h
theorem lit {p : Prop} (h : p := by simp only [List.drop_succ_cons, List.drop_zero, List.take_succ_cons, List.take_zero, List.take_nil]; rfl) : p := h
theorem vcs {p : Prop} (h : p := by simp only [Value.cells]; rfl) : p := h
theorem rfx {p : Prop} (h : p := by rfl) : p := h
theorem flt {p : Prop} (h : p := by simp only [Flat.cells, List.cons_append, List.nil_append]; rfl) : p := h
theorem mxl {p : Prop} (h : p := by unfold maxLen; omega) : p := h
theorem arx {Is Js : List Asn} (h : Arr Is Js := by repeat (first | exact Arr.nil | (with_reducible exact take_all _) | (refine Arr.cons tk ?_))) : Arr Is Js := h
theorem ary {Is Js : List Asn} (h : Arr Is Js := by repeat (first | exact Arr.nil | (refine Arr.cons tk ?_))) : Arr Is Js := h
theorem stw {w0 w : World} {Is Js : List Asn} (hs : St w0 w Is) (h : Arr Is Js := by repeat (first | exact Arr.nil | (with_reducible exact take_all _) | (refine Arr.cons tk ?_))) : ∃ s : StW w0 Js, w = s.1 := StW.mk' (hs.arr h)
end Go

/- The law helpers over a Fair. -/
import Derived.Test.YtigepcpmdhcenaaIntSS
import Derived.Test.YtigepcpmdhcenaaMark
namespace Go.Proofs.Ytigepcpmdhcenaa
open Go.RowKit
set_option linter.unusedVariables false

def RetFair (w : World) (qs : List (List Int)) (ds : List Int) (q t : Int) (fr : Bool) (e : Ending) (w' : World) : Prop :=
  ∃ a1 c1 a2 c2, e = .returned (.agg #[.slice a1 qs.length c1, .slice a2 ds.length c2, .int .i64 q, .int .i64 t, .bool fr]) ∧ Owns w.heap.size w' (qs, ds) [.slice a1 qs.length c1, .slice a2 ds.length c2] ∧ Ex w w'
theorem Owns.pair {α β : Type} [Rep α] [Rep β] {lo l2 : Nat} {w : World} {x : α} {y : β} {v1 v2 : List Value} {w0 : World} (h0 : Owns lo w0 x v1) (hs : w0.heap.size ≤ l2) (hl : lo ≤ l2) (ha : Agr lo w0 w) (h2 : Owns l2 w y v2) : Owns lo w (x, y) (v1 ++ v2) := by
  obtain ⟨b1, t1, n1, f1⟩ := h0
  obtain ⟨b2, t2, n2, f2⟩ := h2
  have hr : ∀ b ∈ b1, w.heap[b]? = w0.heap[b]? := fun b hb => ha b (f1 b hb).1 (Rep.lt t1 b hb)
  refine ⟨b1 ++ b2, ⟨v1, v2, b1, b2, rfl, rfl, Rep.stable t1 hr, t2⟩, ?_, fun b hb => ?_⟩
  · rw [List.nodup_append]
    refine ⟨n1, n2, fun x hx y hy e => ?_⟩
    subst e
    have := Rep.lt t1 x hx
    have := (f2 x hy).1
    omega
  · rcases List.mem_append.1 hb with hb | hb
    · exact ⟨(f1 b hb).1, fun o => by have := (f1 b hb).2 o; simp only [World.frozen?, hr b hb] at this ⊢; exact this⟩
    · exact ⟨by have := (f2 b hb).1; omega, (f2 b hb).2⟩

end Go.Proofs.Ytigepcpmdhcenaa

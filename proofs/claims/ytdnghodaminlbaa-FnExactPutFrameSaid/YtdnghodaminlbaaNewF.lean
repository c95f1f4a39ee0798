/- NewFair of both. -/
import Derived.Test.YtdnghodaminlbaaRows
import Derived.Test.YtdnghodaminlbaaTy
import Derived.Test.YtdnghodaminlbaaTi
import Derived.Test.YtdnghodaminlbaaFairP
namespace Go.Proofs.Ytdnghodaminlbaa
open Go.RowKit
set_option linter.unusedVariables false
set_option linter.unusedSimpArgs false

def newOk (n qu : Int) : Bool := inB n 1 8 && inB qu 1 2000
def RetFairB (w : World) (qs : List (List Int)) (ds : List Int) (q t : Int) (fr ok : Bool) (e : Ending) (w' : World) : Prop :=
  ∃ a1 c1 a2 c2, e = .returned (.tuple #[.agg #[.slice a1 qs.length c1, .slice a2 ds.length c2, .int .i64 q, .int .i64 t, .bool fr], .bool ok]) ∧ Owns w.heap.size w' (qs, ds) [.slice a1 qs.length c1, .slice a2 ds.length c2] ∧ Ex w w'
theorem retFair {w0 w : World} {Is Js Ks : List Asn} {qs : List (List Int)} {ds : List Int} {v1 v2 : Value} {q t : Int} {fr ok : Bool} (h : St w0 w Is) (t1 : Take Is (ownA qs [v1]) Js) (t2 : Take Js (ownA ds [v2]) Ks) :
    RetFairB w0 qs ds q t fr ok (.returned (.tuple #[.agg #[v1, v2, .int .i64 q, .int .i64 t, .bool fr], .bool ok])) w := by
  have h2 := h.take2 t1 t2
  obtain ⟨a1, c1, rfl⟩ := ownA.form h2 .head
  obtain ⟨a2, c2, rfl⟩ := ownA.form h2 (.tail .head)
  exact ⟨a1, c1, a2, c2, rfl, (h2.join).owns .head, h.ex⟩
theorem fair_new (n : Nat) (qu : Int) : fairOkB (List.replicate n []) (List.replicate n 0) qu 0 true = newOk n qu := by
  unfold fairOkB newOk
  have e : ((List.range (List.replicate n ([] : List Int)).length).all fun i => fairRowB qu 0 true i ((List.replicate n ([] : List Int)).getD i []) ((List.replicate n (0 : Int)).getD i 0)) = decide (n = 0 ∨ 0 ≤ 2000 + qu) := by
    rw [Bool.eq_iff_iff, List.all_eq_true]
    simp only [List.length_replicate, List.mem_range, decide_eq_true_eq]
    have key : ∀ i, i < n → fairRowB qu 0 true i ((List.replicate n ([] : List Int)).getD i []) ((List.replicate n (0 : Int)).getD i 0) = decide (0 ≤ 2000 + qu) := by
      intro i hi
      simp [List.getD, hi, fairRowB, inB]
    constructor
    · intro h
      rcases Nat.eq_zero_or_pos n with h0 | h0
      · exact .inl h0
      · have := h 0 h0; rw [key 0 h0] at this; exact .inr (by simpa using this)
    · rintro (h | h) i hi
      · omega
      · rw [key i hi]; simpa using h
  rw [e]
  simp only [List.length_replicate]
  rw [Bool.eq_iff_iff]
  constructor <;> intro h <;> simp [inB_iff] at h ⊢ <;> omega
theorem ints_flat (xs : List Int) : xs.flatMap Flat.cells = xs.map (Value.int .i64) := map_flat _ xs
theorem zeros_flat (n : Nat) : List.replicate n (Value.int .i64 0) = (List.replicate n (0 : Int)).flatMap Flat.cells := by rw [ints_flat, List.map_replicate]
theorem zeros_ok (n : Nat) : ∀ x ∈ List.replicate n (0 : Int), Flat.ok x := by
  intro x hx; rw [(List.mem_replicate.1 hx).2]; show i64ok 0; unfold i64ok; omega

theorem fairOk_q (v1 v2 : Value) (qs : List (List Int)) (ds : List Int) (qu tu : Int) (fr : Bool) (w : World) (k1 : Holds w qs [v1]) (k2 : Holds w ds [v2]) {q : Bool} (hq : q = fairOkB qs ds qu tu fr) :
    Calls Try.prog 18 #[.agg #[v1, v2, .int .i64 qu, .int .i64 tu, .bool fr]] w fun e w' => e = .returned (.bool q) ∧ Ex w w' := hq ▸ fairOk_any v1 v2 qs ds qu tu fr w k1 k2

theorem fairOkS_q (v1 v2 : Value) (qs : List (List Int)) (ds : List Int) (qu tu : Int) (fr : Bool) (w : World) (k1 : Holds w qs [v1]) (k2 : Holds w ds [v2]) {q : Bool} (hq : q = fairOkB qs ds qu tu fr) :
    Calls Try.prog 14 #[.agg #[v1, v2, .int .i64 qu, .int .i64 tu, .bool fr]] w fun e w' => e = .returned (.bool q) ∧ Ex w w' := hq ▸ fairOkS_any v1 v2 qs ds qu tu fr w k1 k2

end Go.Proofs.Ytdnghodaminlbaa

/- FairOk as data (the walks are still to come). -/
import Derived.Test.YtigepcpmdhcenaaRows
import Derived.Test.YtigepcpmdhcenaaFairL
import Derived.Test.YtigepcpmdhcenaaScal
namespace Go.Proofs.Ytigepcpmdhcenaa
open Go.RowKit
set_option linter.unusedVariables false

def fairRowB (qu tu : Int) (fr : Bool) (i : Nat) (q : List Int) (d : Int) : Bool :=
  decide (q.length ≤ 64) && inB d 0 (2000 + qu) && q.all (fun n => inB n 1 2000) && !(decide (q.length = 0) && !(d == 0) && (!((i : Int) == tu) || fr))
def fairOkB (qs : List (List Int)) (ds : List Int) (qu tu : Int) (fr : Bool) : Bool :=
  inB qs.length 1 8 && decide (ds.length = qs.length) && inB qu 1 2000 && inB tu 0 ((qs.length : Int) - 1) && (List.range qs.length).all fun i => fairRowB qu tu fr i (qs.getD i []) (ds.getD i 0)
theorem fair_bad {qs : List (List Int)} {ds : List Int} {qu tu : Int} {fr : Bool} {k : Nat} (h : k < qs.length) (hb : fairRowB qu tu fr k (qs.getD k []) (ds.getD k 0) = false) : fairOkB qs ds qu tu fr = false := by
  have : ((List.range qs.length).all fun i => fairRowB qu tu fr i (qs.getD i []) (ds.getD i 0)) = false := by
    rw [List.all_eq_false]
    exact ⟨k, List.mem_range.2 h, by simp only [hb]; decide⟩
  simp only [fairOkB, this, Bool.and_false]
theorem fair_all {qs : List (List Int)} {ds : List Int} {qu tu : Int} {fr : Bool} (h1 : inB qs.length 1 8 = true) (h2 : ds.length = qs.length) (h3 : inB qu 1 2000 = true) (h4 : inB tu 0 ((qs.length : Int) - 1) = true)
    (h : ∀ k, k < qs.length → fairRowB qu tu fr k (qs.getD k []) (ds.getD k 0) = true) : fairOkB qs ds qu tu fr = true := by
  have : ((List.range qs.length).all fun i => fairRowB qu tu fr i (qs.getD i []) (ds.getD i 0)) = true := by
    rw [List.all_eq_true]
    intro k hk
    exact h k (List.mem_range.1 hk)
  simp only [fairOkB, this, h1, h2, h3, h4, decide_true, Bool.and_self]

end Go.Proofs.Ytigepcpmdhcenaa

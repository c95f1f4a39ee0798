/- Copies of a memory; whether it is valid, whether bytes exist; the place of an address: the program and the reference. -/
import Derived.Test.YtihgekgkonacfaaRows
import Derived.Test.YtihgekgkonacfaaMapA
import Derived.Test.YtihgekgkonacfaaTk
namespace Go.Proofs.Ytihgekgkonacfaa
open Go.RowKit
set_option linter.unusedVariables false
set_option linter.unusedSimpArgs false

def RetMem (w : World) (ps : Pg) (e : Ending) (w' : World) : Prop := ∃ a c, e = .returned (.agg #[.slice a ps.length c]) ∧ Owns w.heap.size w' ps [.slice a ps.length c] ∧ Ex w w'
def RetMemB (w : World) (ps : Pg) (ok : Bool) (e : Ending) (w' : World) : Prop := ∃ a c, e = .returned (.tuple #[.agg #[.slice a ps.length c], .bool ok]) ∧ Owns w.heap.size w' ps [.slice a ps.length c] ∧ Ex w w'
theorem retMem {w0 w : World} {Is Js : List Asn} {ps : Pg} {v : Value} (h : St w0 w Is) (t : Take Is (ownA ps [v]) Js) : RetMem w0 ps (.returned (.agg #[v])) w := by
  obtain ⟨a, c, rfl⟩ := ownA.form h t
  exact ⟨a, c, rfl, h.owns t, h.ex⟩
theorem retMemB {w0 w : World} {Is Js : List Asn} {ps : Pg} {v : Value} {ok : Bool} (h : St w0 w Is) (t : Take Is (ownA ps [v]) Js) : RetMemB w0 ps ok (.returned (.tuple #[.agg #[v], .bool ok])) w := by
  obtain ⟨a, c, rfl⟩ := ownA.form h t
  exact ⟨a, c, rfl, h.owns t, h.ex⟩
theorem _root_.Go.Holds.sizes {w : World} {ps : Pg} {vs : List Value} (h : Holds w ps vs) : ∀ p ∈ ps, p.size ≤ maxLen := fun p hp => h.flok hp

theorem memOk_bad {ps : Pg} {k : Nat} (hk : k < ps.length) (h : ¬ ps[k].size = 128) : memOk ps = false := memOk_not fun hh => h (hh.2 k hk)
theorem memOk_all {ps : Pg} (h : ∀ k (g : k < ps.length), ps[k].size = 128) : memOk ps = decide ((ps.length : Int) ≤ 64) := by
  by_cases h9 : ps.length ≤ 64
  · rw [memOk_iff.2 ⟨h9, h⟩, decide_eq_true (by omega)]
  · rw [memOk_not (fun hh => h9 hh.1), decide_eq_false (by omega)]

def placeF (l : List Mp) (d a : Int) (wt : Bool) : Int := if mpPage l d (a / 128) wt < 0 then -1 else mpPage l d (a / 128) wt * 128 + a % 128

end Go.Proofs.Ytihgekgkonacfaa

/- Appends to an owned slice, with the new length spelled out. No program in sight. -/
import Derived.Test.YtelkplponnfkpaaGap
namespace Go
open Go.RowKit
set_option linter.unusedVariables false
section
variable {P : Program} {ops : Array Oper} {rest : List Oper} {o : Oper} {a : Act} {w w0 : World} {Q : Exit → Act → World → Prop} {Is Js : List Asn} {K : Act → World → Prop}
theorem wp_appON_st {α : Type} [Rep α] [Flat α] (N : Nat) (s y : Operand) (t tx : TypeId) (ho : o.op = .call { callee := .builtin .append, args := #[s, y], argTypes := #[t, tx] }) (e : TypeId) {z : Value} {size bytes : Nat} (ht : P.underlying t = some (.slice e)) (hi : infoT P e z size bytes) (hsz : size = Rep.size α)
    {v : Value} {xs : List α} (hsv : a.eval s = v) (hs : St w0 w Is) (tk : Take Is (ownA xs [v]) Js) {x : Value} {el : α} {news : List Value} (hy : a.eval y = x) (hx : Src P size tx x 1 news w) (hn : news = Flat.cells el) (hok : Flat.ok el)
    (hN : xs.length + 1 = N) (h63 : N ≤ maxLen) (hby : N * bytes ≤ 140737488355328)
    (h : ∀ A c w', w.heap.size ≤ w'.heap.size → St w0 w' (ownA (xs ++ [el]) [.slice A N c] :: Js) → K (a.put o.dst (.slice A N c)) w') : o.wp P a w K Q := by
  subst hN
  exact wp_appO_st s y t tx ho e ht hi hsz hsv hs tk hy hx hn hok h63 hby h
theorem wpList_appON_st {α : Type} [Rep α] [Flat α] (N : Nat) (hw : Region.wanted o (yielded ops a.tmps) = true) (s y : Operand) (t tx : TypeId) (ho : o.op = .call { callee := .builtin .append, args := #[s, y], argTypes := #[t, tx] }) (e : TypeId) {z : Value} {size bytes : Nat} (ht : P.underlying t = some (.slice e)) (hi : infoT P e z size bytes) (hsz : size = Rep.size α)
    {v : Value} {xs : List α} (hsv : a.eval s = v) (hs : St w0 w Is) (tk : Take Is (ownA xs [v]) Js) {x : Value} {el : α} {news : List Value} (hy : a.eval y = x) (hx : Src P size tx x 1 news w) (hn : news = Flat.cells el) (hok : Flat.ok el)
    (hN : xs.length + 1 = N) (h63 : N ≤ maxLen) (hby : N * bytes ≤ 140737488355328)
    (h : ∀ A c w', w.heap.size ≤ w'.heap.size → St w0 w' (ownA (xs ++ [el]) [.slice A N c] :: Js) → wpList P ops Q rest (a.put o.dst (.slice A N c)) w') : wpList P ops Q (o :: rest) a w := by
  subst hN
  exact wpList_appO_st hw s y t tx ho e ht hi hsz hsv hs tk hy hx hn hok h63 hby h
end
end Go

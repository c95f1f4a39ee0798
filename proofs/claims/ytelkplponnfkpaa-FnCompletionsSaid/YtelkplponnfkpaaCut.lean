/- Slices cut out of slices. No program in sight. -/
import Derived.Test.YtelkplponnfkpaaSep2
namespace Go
open Go.RowKit
set_option linter.unusedVariables false
/-- Where a slice that is cut from place l on begins. -/
def cutA (a : Option Addr) (l cap sz : Nat) : Option Addr := if cap = l then a else a.map (·.add (l * sz))
def PureOp (P : Program) (o : Oper) (a : Act) (v : Value) : Prop := ∀ w, (execOp a.eval o).run P w = .ok (.value v) w
section
variable {P : Program} {ops : Array Oper} {rest : List Oper} {o : Oper} {a : Act} {w : World} {Q : Exit → Act → World → Prop} {K : Act → World → Prop} {C : World → Prop} {v : Value}
theorem wp_pure (h : PureOp P o a v) (hk : K (a.put o.dst v) w) : o.wp P a w K Q := by
  unfold Oper.wp; rw [h w]; exact hk
theorem wpList_pure (hw : Region.wanted o (yielded ops a.tmps) = true) (h : PureOp P o a v) (hk : wpList P ops Q rest (a.put o.dst v) w) : wpList P ops Q (o :: rest) a w :=
  wpList_wanted hw fun _ hK => wp_pure h (hK _ _ hk)
theorem quiet_pure (h : PureOp P o a v) {next : Act → Prop} (hk : next (a.put o.dst v)) : o.quiet P a C next :=
  ⟨v, fun w _ => by unfold Oper.quietAt; rw [h w]; exact ⟨rfl, rfl⟩, hk⟩
theorem run_cut (t e : TypeId) {z : Value} {sz bytes : Nat} (ht : P.underlying t = some (.slice e)) (hi : infoT P e z sz bytes) (A : Option Addr) (n cap l h : Nat) (lo hi' : Option Value)
    (hb : (Instr.sliceBounds true n cap lo hi' none).run P w = .ok (l, h, cap) w) : (Instr.sliceAt t (.slice A n cap) lo hi' none).run P w = .ok (.slice (cutA A l cap sz) (h - l) (cap - l)) w := by
  obtain ⟨i, hi1, hi2⟩ := Option.map_eq_some_iff.1 hi.1
  simp only [Prod.mk.injEq] at hi2
  obtain ⟨_, rfl, _⟩ := hi2
  simp [Instr.sliceAt, Instr.slice, run_underlying ht, hb, sizeOf, typeInfo, hi1, cutA]
theorem pure_cutHi (t : TypeId) (x y : Operand) (ho : o.op = .slice t x none (some y) none) (e : TypeId) {z : Value} {sz bytes : Nat} (ht : P.underlying t = some (.slice e)) (hi : infoT P e z sz bytes) {A : Option Addr} {n cap h : Nat}
    (hx : a.eval x = .slice A n cap) (hy : a.eval y = .int .i64 (h : Int)) (hh : h ≤ cap) : PureOp P o a (.slice (cutA A 0 cap sz) (h - 0) (cap - 0)) := by
  intro w
  have := run_cut (w := w) t e ht hi A n cap 0 h none (some (.int .i64 (h : Int))) (by
    have := run_sliceBound (P := P) (w := w) .i64 (h : Int) cap .sliceAcap (by omega) (by omega)
    simp [Instr.sliceBounds, this])
  unfold execOp
  simp only [ho, hx, hy, Option.map_some, Option.map_none, Sem.run_bind, this, Result.andThen_ok, Sem.run_pure]
theorem pure_cutLo (t : TypeId) (x y : Operand) (ho : o.op = .slice t x (some y) none none) (e : TypeId) {z : Value} {sz bytes : Nat} (ht : P.underlying t = some (.slice e)) (hi : infoT P e z sz bytes) {A : Option Addr} {n cap l : Nat}
    (hx : a.eval x = .slice A n cap) (hy : a.eval y = .int .i64 (l : Int)) (hh : l ≤ n) : PureOp P o a (.slice (cutA A l cap sz) (n - l) (cap - l)) := by
  intro w
  have := run_cut (w := w) t e ht hi A n cap l n (some (.int .i64 (l : Int))) none (by
    have := run_sliceBound (P := P) (w := w) .i64 (l : Int) n .sliceB (by omega) (by omega)
    simp [Instr.sliceBounds, this])
  unfold execOp
  simp only [ho, hx, hy, Option.map_some, Option.map_none, Sem.run_bind, this, Result.andThen_ok, Sem.run_pure]
theorem wp_appN_st {w0 : World} {Is Js : List Asn} (N : Nat) (s y : Operand) (t tx : TypeId) (ho : o.op = .call { callee := .builtin .append, args := #[s, y], argTypes := #[t, tx] }) (e : TypeId) {z : Value} {size bytes : Nat} (ht : P.underlying t = some (.slice e)) (hi : infoT P e z size bytes)
    {v : Value} {n : Nat} {xs : List Value} (hsv : a.eval s = v) (hs : St w0 w Is) (tk : Take Is (slotA e size v n xs) Js) {x : Value} {m : Nat} {news : List Value} (hy : a.eval y = x) (hx : Src P size tx x m news w)
    (hN : n + m = N) (h63 : N ≤ maxLen) (hby : N * bytes ≤ 140737488355328)
    (h : ∀ A c w', w.heap.size ≤ w'.heap.size → St w0 w' (slotA e size (.slice A N c) N (xs ++ news) :: Js) → K (a.put o.dst (.slice A N c)) w') : o.wp P a w K Q := by
  subst hN
  exact wp_app_st s y t tx ho e ht hi hsv hs tk hy hx h63 hby h
theorem wpList_appN_st {w0 : World} {Is Js : List Asn} (N : Nat) (hw : Region.wanted o (yielded ops a.tmps) = true) (s y : Operand) (t tx : TypeId) (ho : o.op = .call { callee := .builtin .append, args := #[s, y], argTypes := #[t, tx] }) (e : TypeId) {z : Value} {size bytes : Nat} (ht : P.underlying t = some (.slice e)) (hi : infoT P e z size bytes)
    {v : Value} {n : Nat} {xs : List Value} (hsv : a.eval s = v) (hs : St w0 w Is) (tk : Take Is (slotA e size v n xs) Js) {x : Value} {m : Nat} {news : List Value} (hy : a.eval y = x) (hx : Src P size tx x m news w)
    (hN : n + m = N) (h63 : N ≤ maxLen) (hby : N * bytes ≤ 140737488355328)
    (h : ∀ A c w', w.heap.size ≤ w'.heap.size → St w0 w' (slotA e size (.slice A N c) N (xs ++ news) :: Js) → wpList P ops Q rest (a.put o.dst (.slice A N c)) w') : wpList P ops Q (o :: rest) a w := by
  subst hN
  exact wpList_app_st hw s y t tx ho e ht hi hsv hs tk hy hx h63 hby h
end
theorem addr_add (b off k : Nat) : (⟨b, off, none⟩ : Addr).add k = ⟨b, off + k, none⟩ := by unfold Addr.add; split <;> simp_all
/-- What a slice cut out of a slice holds. -/
theorem Holds.cut {α : Type} [Rep α] {w : World} {xs : List α} {A : Option Addr} {n cap : Nat} (h : Holds w xs [.slice A n cap]) {l hh sz : Nat} (h1 : l ≤ hh) (h2 : hh ≤ n) (hsz : sz = Rep.size α) :
    Holds w ((xs.take hh).drop l) [.slice (cutA A l cap sz) (hh - l) (cap - l)] := by
  subst hsz
  obtain ⟨bs, a, cap', hv, k1, k2, k3⟩ := h
  simp only [List.cons.injEq, Value.slice.injEq, and_true] at hv
  obtain ⟨rfl, rfl, rfl⟩ := hv
  have hlen : ((xs.take hh).drop l).length = hh - l := by simp; omega
  by_cases hc : cap = l
  · have : hh - l = 0 := by omega
    rw [this, show cap - l = 0 from by omega]
    exact ⟨[], _, 0, by rw [hlen, this], by rw [hlen, this]; exact Nat.le_refl _, Nat.zero_le _, .inl ⟨rfl, rfl⟩⟩
  · rcases k3 with ⟨h0, _⟩ | ⟨b, off, cur, E, fr, ts, ds, rfl, hp, hb, hs, rfl, he⟩
    · omega
    · unfold cutA
      rw [if_neg hc]
      simp only [Option.map_some, addr_add]
      refine ⟨_, _, cap - l, by rw [hlen], by rw [hlen]; omega, by omega, .inr ⟨b, off + l * Rep.size α, cur, E, fr, fun i => ts (l + i), fun i => ds (l + i), rfl, by omega, hb, ?_, rfl, fun i hi => ?_⟩⟩
      · have : l * Rep.size α + (cap - l) * Rep.size α = cap * Rep.size α := by rw [← Nat.add_mul]; congr 1; omega
        omega
      · rw [hlen] at hi
        have := he (l + i) (by omega)
        refine ⟨?_, fun j hj => ?_⟩
        · simp only [List.getElem_drop, List.getElem_take]; exact this.1
        · rw [← this.2 j hj]; congr 1; rw [Nat.add_mul]; omega
end Go

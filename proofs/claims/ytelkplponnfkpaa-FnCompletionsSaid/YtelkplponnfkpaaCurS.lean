/- The cursor of the draws as a part of what is held: l01New, l01Below, l01PickInt. -/
import Derived.Test.YtelkplponnfkpaaRows
import Derived.Test.YtelkplponnfkpaaCur2
import Derived.Test.YtelkplponnfkpaaSep2
namespace Go
open Go.RowKit
set_option linter.unusedVariables false
/-- A cursor. -/
def curA (T : TypeId) (B : Nat) (v : Value) (n : Nat) : Asn where
  P w F := CurAt T w B v n ∧ ∀ c, F c ↔ c = B
  stable := by
    rintro w w' F ⟨⟨i, h, h1, h2⟩, h3⟩ hs
    exact ⟨⟨i, h, (hs B ((h3 B).2 rfl)).trans h1, h2⟩, h3⟩
  lt h b hb := by rw [(h.2 b).1 hb]; exact h.1.lt
section
variable {T : TypeId} {w0 w w' : World} {Is Js : List Asn} {B : Nat} {v : Value} {code : List UInt8}
theorem St.cu (HS : St w0 w Is) (t : Take Is (curA T B v code.length) Js) (hc : Holds w0 code [v]) : Cu T w0 B v code w := by
  have h := HS.take t
  obtain ⟨hx, F, ⟨F1, F2, ⟨h1, h2⟩, h3, h4, h5⟩, h6⟩ := h
  exact ⟨hx, hc, h6 B ((h5 B).2 (.inl ((h2 B).2 rfl))), h1⟩
theorem St.drawn {n : Nat} {lo hi : Int} {e : Ending} (HS : St w0 w Is) (t : Take Is (curA T B v n) Js) (hd : DrawnN T B v n lo hi w e w') :
    ∃ r : Int, lo ≤ r ∧ r ≤ hi ∧ e = .returned (.int .i64 r) ∧ St w0 w' (curA T B v n :: Js) := by
  obtain ⟨r, i, h, g, h1, h2, h3, h4, rfl, rfl⟩ := hd
  refine ⟨r, h1, h2, rfl, ?_⟩
  refine (HS.take t).turn rfl rfl rfl (by simp) fun F hF => ⟨fun b hb hn => ?_, F, ⟨?_, hF.2⟩, fun c hc => .inl hc⟩
  · rw [show ∀ (w : World) (g : Gr), (w.plus g).heap = w.heap ++ g.o from fun _ _ => rfl, Array.getElem?_append_left (by simpa using hb), World.block_upd _ _ _ (fun h => hn ((hF.2 b).2 (by simpa using h)))]
  · exact (CurAt.upd hF.1.lt h3 h4).plus g
theorem St.newCur {e : Ending} (HS : St w0 w Is) (hd : NewCur T v w e w') (n : Nat) : ∃ B, e = .returned (.pointer (some ⟨B, 0, none⟩)) ∧ St w0 w' (curA T B v n :: Is) := by
  obtain ⟨B, h, rfl, h1, h2, h3⟩ := hd
  exact ⟨B, rfl, HS.add h2 (A := curA T B v n) (F := fun c => c = B) ⟨⟨0, h, h3, Int.le_refl _, by omega⟩, fun _ => Iff.rfl⟩ fun b hb => by rw [hb]; exact h1⟩
theorem St.notCur {n : Nat} (HS : St w0 w Is) {b : Nat} {cs : List Value} {E : TypeId} {Ks : List Asn} (t : Take Is (rowA b cs E) Js) (t2 : Take Js (curA T B v n) Ks) : b ≠ B := by
  obtain ⟨hx, F, ⟨F1, F2, ⟨h1, h2⟩, ⟨G1, G2, ⟨g1, g2⟩, _, _, g5⟩, h4, h5⟩, h6⟩ := HS.take2 t t2
  rintro rfl
  exact h4 b ((h2 b).2 rfl) ((g5 b).2 (.inl ((g2 b).2 rfl)))
end
end Go
namespace Go.Proofs.Ytelkplponnfkpaa
open Go.RowKit
set_option linter.unusedVariables false
theorem l01New_st {w0 w : World} {Is : List Asn} (HS : St w0 w Is) {v : Value} {code : List UInt8} (hc : Holds w0 code [v]) :
    Calls Try.prog 49 #[v] w fun e w' => ∃ B, e = .returned (.pointer (some ⟨B, 0, none⟩)) ∧ St w0 w' (curA 148 B v code.length :: Is) :=
  (l01New_any v code w (hc.ex HS.ex)).mono fun _ _ h => HS.newCur h _
theorem l01Below_st {w0 w : World} {Is Js : List Asn} (HS : St w0 w Is) {B : Nat} {v : Value} {code : List UInt8} (t : Take Is (curA 148 B v code.length) Js) (hc : Holds w0 code [v]) (n : Int) (h0 : 1 ≤ n) (h1 : n ≤ 1000000000) :
    Calls Try.prog 112 #[.pointer (some ⟨B, 0, none⟩), .int .i64 n] w fun e w' => ∃ r : Int, 0 ≤ r ∧ r ≤ n - 1 ∧ e = .returned (.int .i64 r) ∧ St w0 w' (curA 148 B v code.length :: Js) :=
  (l01Below_any B v code n w0 w (HS.cu t hc) h0 h1).mono fun _ _ h => HS.drawn t h
/-- A pick from a list that lies in a row of its own. -/
theorem l01PickInt_st {w0 w : World} {Is Js Ks : List Asn} (HS : St w0 w Is) {B b n : Nat} {v : Value} {code : List UInt8} {cs : List Value} {E : TypeId} (t : Take Is (rowA b cs E) Js) (t2 : Take Js (curA 148 B v code.length) Ks) (hc : Holds w0 code [v]) (xs : List Int) (hx : cs = xs.map (Value.int .i64)) (hn : n = xs.length) (lo hi : Int)
    (h1 : 1 ≤ xs.length) (h2 : xs.length ≤ 1000000) (ho : ∀ x ∈ xs, i64ok x) (hb : ∀ x ∈ xs, lo ≤ x ∧ x ≤ hi) :
    Calls Try.prog 114 #[.pointer (some ⟨B, 0, none⟩), .slice (some ⟨b, 0, none⟩) n n] w fun e w' => ∃ r : Int, lo ≤ r ∧ r ≤ hi ∧ e = .returned (.int .i64 r) ∧ St w0 w' (curA 148 B v code.length :: Ks) := by
  have hs := (HS.take2 t t2).arr (.cons (.tail .head) (show Arr _ Ks from by
    have key : ∀ (A B : Asn) (l : List Asn), Arr (A :: B :: l) l := by
      intro A B l
      induction l generalizing A B with
      | nil => exact .nil
      | cons C l ih => exact .cons (.tail (.tail .head)) (ih A B)
    have key2 : ∀ (A : Asn) (l : List Asn), Arr (A :: l) l := by
      intro A l
      induction l generalizing A with
      | nil => exact .nil
      | cons C l ih => exact .cons (.tail .head) (ih A)
    exact key2 _ _))
  exact (l01PickInt_any B v code _ xs lo hi w0 w (hs.cu .head hc) (holds_litN xs (HS.row t) (by rw [hx]) hn ho (by unfold maxLen; omega)) (by intro c hcb; simp [Value.blk] at hcb; subst hcb; exact HS.notCur t t2) h1 h2 hb).mono fun _ _ h => hs.drawn .head h
end Go.Proofs.Ytelkplponnfkpaa

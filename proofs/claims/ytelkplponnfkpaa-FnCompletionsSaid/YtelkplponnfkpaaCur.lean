/- The cursor of the draws: l01New, l01Byte, l01Below and their likes return some number in their range. -/
import Derived.Test.YtelkplponnfkpaaRows
import Derived.Test.YtelkplponnfkpaaApp
import Derived.Laws.BitsLemmas
namespace Go
open Go.RowKit
theorem and_mask_i64 (x : Int) (i : Nat) (hi : i ≤ 62) : bits .and .i64 x (2 ^ i - 1) = x % 2 ^ i := by
  have hp : (2 : Nat) ^ i ≤ 2 ^ 62 := Nat.pow_le_pow_right (by decide) hi
  have hpos : 0 < 2 ^ i := Nat.two_pow_pos i
  have hc : ((2 : Int) ^ i - 1) = ((2 ^ i - 1 : Nat) : Int) := by rw [Int.natCast_sub hpos]; simp
  rw [hc]
  show IntKind.i64.wrap (((BitVec.ofInt 64 x &&& BitVec.ofInt 64 ((2 ^ i - 1 : Nat) : Int)).toNat : Nat) : Int) = x % 2 ^ i
  rw [BitVec.ofInt_natCast, BitVec.toNat_and, BitVec.toNat_ofNat, BitVec.toNat_ofInt, Nat.mod_eq_of_lt (a := 2 ^ i - 1) (by omega), Nat.and_two_pow_sub_one_eq_mod]
  have hlt : (x % (2 ^ 64 : Nat)).toNat % 2 ^ i < 2 ^ i := Nat.mod_lt _ hpos
  rw [IntKind.wrap_i64, Int.emod_eq_of_lt (by omega) (by omega)]
  have h0 : 0 ≤ x % (2 ^ 64 : Nat) := Int.emod_nonneg _ (by decide)
  have e : (((x % (2 ^ 64 : Nat)).toNat % 2 ^ i : Nat) : Int) = x % 2 ^ i := by
    rw [Int.natCast_emod, Int.toNat_of_nonneg h0]
    have hd : ((2 ^ i : Nat) : Int) ∣ ((2 ^ 64 : Nat) : Int) := Int.natCast_dvd_natCast.2 (Nat.pow_dvd_pow 2 (by omega))
    rw [Int.emod_emod_of_dvd _ hd]; simp
  omega
theorem emod_le (x : Int) {n : Int} (h : 0 < n) : x % n ≤ n - 1 := by have := Int.emod_lt_of_pos x h; omega
theorem and255_bd (x : Int) : 0 ≤ bits .and .i64 x 255 ∧ bits .and .i64 x 255 ≤ 255 := by
  have h := and_mask_i64 x 8 (by decide)
  have e : ((2 : Int) ^ 8 - 1) = 255 := by decide
  rw [e] at h
  rw [h]
  omega

/-- A slice of bytes, opened. -/
theorem Holds.bytes {w : World} {xs : List UInt8} {vs : List Value} (h : Holds w xs vs) : ∃ a cap, vs = [.slice a xs.length cap] ∧ xs.length ≤ cap ∧ cap ≤ maxLen ∧
    (∀ i (hi : i < xs.length), ∃ b off, a = some ⟨b, off, none⟩ ∧ w.cell? ⟨b, off + i, none⟩ = some (.int .u8 (xs[i]'hi).toNat)) := by
  obtain ⟨a, cap, rfl, h1, h2, h3⟩ := h.slice
  refine ⟨a, cap, rfl, h1, h2, fun i hi => ?_⟩
  obtain ⟨b, off, ts, ha, ht, hc⟩ := h3 i hi
  obtain rfl := ht.byte
  have := hc 0 (by decide)
  exact ⟨b, off, ha, by simpa [Rep.size] using this⟩

/-- From w to w' at most the block B has turned; blocks are new; draws are taken. -/
def OneB (B : Nat) (w w' : World) : Prop := w'.os = w.os ∧ w'.tape = w.tape ∧ w'.output = w.output ∧ w.heap.size ≤ w'.heap.size ∧ ∀ k, k < w.heap.size → k ≠ B → w'.heap[k]? = w.heap[k]?
theorem OneB.refl (B : Nat) (w : World) : OneB B w w := ⟨rfl, rfl, rfl, Nat.le_refl _, fun _ _ _ => rfl⟩
theorem OneB.ex {B : Nat} {w a b : World} (h : OneB B w a) (hx : Ex a b) : OneB B w b := by
  obtain ⟨h1, h2, h3, h4, h5⟩ := h
  have hb := hx.below
  exact ⟨hb.os.trans h1, hb.tape.trans h2, hb.output.trans h3, Nat.le_trans h4 hb.size, fun k hk hn => (hx.block (Nat.lt_of_lt_of_le hk h4)).trans (h5 k hk hn)⟩
theorem OneB.drew {B : Nat} {w a : World} (h : OneB B w a) : OneB B w a.drew := h
theorem OneB.plus {B : Nat} {w a : World} (h : OneB B w a) (g : Gr) : OneB B w (a.plus g) := h.ex ((Ex.refl _).plus g)
theorem OneB.setCell {B : Nat} {w a : World} (h : OneB B w a) (i : Nat) (v : Value) : OneB B w (a.setCell ⟨B, i, none⟩ v) := by
  obtain ⟨h1, h2, h3, h4, h5⟩ := h
  exact ⟨h1, h2, h3, by simpa using h4, fun k hk hn => (row_setCell_other (p := ⟨B, i, none⟩) hn v).trans (h5 k hk hn)⟩
theorem OneB.upd {B : Nat} {w a : World} (h : OneB B w a) (f : Nat → Obj) : OneB B w (a.upd [B] f) := by
  obtain ⟨h1, h2, h3, h4, h5⟩ := h
  exact ⟨h1, h2, h3, by simpa using h4, fun k hk hn => (World.block_upd a [B] f (by simpa using hn)).trans (h5 k hk hn)⟩
theorem OneB.trans {B : Nat} {a b c : World} (h : OneB B a b) (k : OneB B b c) : OneB B a c := by
  obtain ⟨h1, h2, h3, h4, h5⟩ := h
  obtain ⟨k1, k2, k3, k4, k5⟩ := k
  exact ⟨k1.trans h1, k2.trans h2, k3.trans h3, Nat.le_trans h4 k4, fun i hi hn => (k5 i (Nat.lt_of_lt_of_le hi h4) hn).trans (h5 i hi hn)⟩
theorem OneB.exOld {B : Nat} {w0 w w' : World} (h : OneB B w w') (hx : Ex w0 w) (hB : w0.heap.size ≤ B) : Ex w0 w' := by
  have hb := hx.below
  obtain ⟨h1, h2, h3, h4, h5⟩ := h
  exact Ex.of_below ⟨h1.trans hb.os, h2.trans hb.tape, h3.trans hb.output, Nat.le_trans hb.size h4, fun k hk => (h5 k (Nat.lt_of_lt_of_le hk hb.size) (by omega)).trans (hb.block k hk)⟩
theorem OneB.form {B : Nat} {w w' : World} {o : Obj} (h : OneB B w w') (hB : B < w.heap.size) (ho : w'.heap[B]? = some o) : ∃ g, w' = (w.upd [B] (fun _ => o)).plus g := by
  obtain ⟨h1, h2, h3, h4, h5⟩ := h
  obtain ⟨f, g, e⟩ := World.as_upd (w := w) (w' := w') [B] h1 h2 h3 h4 (fun k hk hn => h5 k hk (by simpa using hn))
  refine ⟨g, ?_⟩
  have hf : f B = o := by
    have : w'.heap[B]? = some (f B) := by
      rw [e]
      simp only [World.plus]
      rw [Array.getElem?_append_left (by simpa using hB), World.block_upd_in w [B] f (by simp) hB]
    rw [this] at ho
    simpa using ho
  rw [e]
  congr 1
  unfold World.upd
  congr 1
  apply Array.ext_getElem?
  intro i
  simp only [Array.getElem?_mapIdx]
  cases w.heap[i]? with
  | none => rfl
  | some x =>
    by_cases hi : i = B
    · subst hi; simp [hf]
    · simp [hi]
section
variable (w : World)
@[go_sem] theorem World.upd_upd1 (n : Nat) (f g : Nat → Obj) : (w.upd [n] f).upd [n] g = w.upd [n] g := by
  unfold World.upd
  simp only
  congr 1
  apply Array.ext_getElem?
  intro k
  simp only [Array.getElem?_mapIdx]
  cases w.heap[k]? with
  | none => rfl
  | some o => by_cases hk : k = n <;> simp [hk]
@[go_sem] theorem World.plus_upd1 (n : Nat) (f : Nat → Obj) (g : Gr) (hn : n < w.heap.size) : (w.plus g).upd [n] f = (w.upd [n] f).plus g := by
  unfold World.upd World.plus
  simp only
  congr 1
  apply Array.ext_getElem?
  intro k
  simp only [Array.getElem?_mapIdx, Array.getElem?_append, Array.size_mapIdx]
  by_cases hk : k < w.heap.size
  · simp [hk]
  · simp only [if_neg hk]
    cases g.o[k - w.heap.size]? with
    | none => rfl
    | some o => simp; omega
@[go_sem] theorem World.alloc_upd1 (n : Nat) (f : Nat → Obj) (o : Obj) (hn : n < w.heap.size) : (w.alloc o).upd [n] f = (w.upd [n] f).alloc o := by
  rw [World.alloc_is_plus, World.plus_upd1 _ _ _ _ hn, World.alloc_is_plus]; rfl
@[go_sem] theorem World.cell?_upd_in (n i : Nat) (cs : Array Value) (E : TypeId) (fr : Nat × Nat) (hn : n < w.heap.size) : (w.upd [n] (fun _ => .cells cs E fr)).cell? ⟨n, i, none⟩ = cs[i]? := by
  simp [World.cell?, World.block_upd_in w [n] _ (List.mem_singleton.2 rfl) hn]
@[go_sem] theorem World.frozen?_upd_in (n i : Nat) (cs : Array Value) (E : TypeId) (hn : n < w.heap.size) : (w.upd [n] (fun _ => .cells cs E (0, 0))).frozen? ⟨n, i, none⟩ = false := by
  simp [World.frozen?, World.block_upd_in w [n] _ (List.mem_singleton.2 rfl) hn]
end
/-- The cursor in the block B, over the n bytes of v. -/
def CurAt (T : TypeId) (w : World) (B : Nat) (v : Value) (n : Nat) : Prop := ∃ i h : Int, w.heap[B]? = some (.cells #[v, .int .i64 i, .int .i64 h] T (0, 0)) ∧ 0 ≤ i ∧ i ≤ n
theorem CurAt.lt {T : TypeId} {w : World} {B : Nat} {v : Value} {n : Nat} (h : CurAt T w B v n) : B < w.heap.size := let ⟨_, _, h, _⟩ := h; row_lt h
theorem CurAt.ex {T : TypeId} {w w' : World} {B : Nat} {v : Value} {n : Nat} (h : CurAt T w B v n) (hx : Ex w w') : CurAt T w' B v n := let ⟨i, k, h, h1⟩ := h; ⟨i, k, hx.row h, h1⟩
theorem CurAt.plus {T : TypeId} {w : World} {B : Nat} {v : Value} {n : Nat} (h : CurAt T w B v n) (g : Gr) : CurAt T (w.plus g) B v n := h.ex ((Ex.refl _).plus g)
theorem CurAt.alloc {T : TypeId} {w : World} {B : Nat} {v : Value} {n : Nat} (h : CurAt T w B v n) (o : Obj) : CurAt T (w.alloc o) B v n := h.ex ((Ex.refl _).alloc o)
theorem CurAt.drew {T : TypeId} {w : World} {B : Nat} {v : Value} {n : Nat} (h : CurAt T w B v n) : CurAt T w.drew B v n := h
theorem CurAt.setCell {T : TypeId} {w : World} {B : Nat} {v : Value} {n : Nat} (h : CurAt T w B v n) {p : Addr} (hp : B ≠ p.block) (x : Value) : CurAt T (w.setCell p x) B v n := let ⟨i, k, h, h1⟩ := h; ⟨i, k, (row_setCell_other hp x).trans h, h1⟩
theorem CurAt.upd_other {T : TypeId} {w : World} {B : Nat} {v : Value} {n : Nat} (h : CurAt T w B v n) {bs : List Nat} {f : Nat → Obj} (hp : B ∉ bs) : CurAt T (w.upd bs f) B v n := let ⟨i, k, h, h1⟩ := h; ⟨i, k, (World.block_upd w bs f hp).trans h, h1⟩
theorem CurAt.upd {T : TypeId} {w : World} {B : Nat} {v : Value} {n : Nat} {i h : Int} (hB : B < w.heap.size) (h0 : 0 ≤ i) (h1 : i ≤ n) : CurAt T (w.upd [B] (fun _ => .cells #[v, .int .i64 i, .int .i64 h] T (0, 0))) B v n :=
  ⟨i, h, World.block_upd_in w [B] _ (by simp) hB, h0, h1⟩
/-- .. with what it reads: the bytes as they lay in the world w0. -/
def Cu (T : TypeId) (w0 : World) (B : Nat) (v : Value) (code : List UInt8) (w : World) : Prop := Ex w0 w ∧ Holds w0 code [v] ∧ w0.heap.size ≤ B ∧ CurAt T w B v code.length
section
variable {T : TypeId} {w0 w : World} {B : Nat} {v : Value} {code : List UInt8}
theorem Cu.lt (h : Cu T w0 B v code w) : B < w.heap.size := h.2.2.2.lt
theorem Cu.exo (h : Cu T w0 B v code w) : Ex w0 w := h.1
theorem Cu.ex {w' : World} (h : Cu T w0 B v code w) (hx : Ex w w') : Cu T w0 B v code w' := ⟨h.1.trans hx, h.2.1, h.2.2.1, h.2.2.2.ex hx⟩
theorem Cu.plus (h : Cu T w0 B v code w) (g : Gr) : Cu T w0 B v code (w.plus g) := h.ex ((Ex.refl _).plus g)
theorem Cu.alloc (h : Cu T w0 B v code w) (o : Obj) : Cu T w0 B v code (w.alloc o) := h.ex ((Ex.refl _).alloc o)
theorem Cu.drew (h : Cu T w0 B v code w) : Cu T w0 B v code w.drew := h.ex (Ex.refl _).drew
theorem Cu.setCell (h : Cu T w0 B v code w) {p : Addr} (hp : w0.heap.size ≤ p.block) (hn : B ≠ p.block) (x : Value) : Cu T w0 B v code (w.setCell p x) := ⟨h.1.setCell hp x, h.2.1, h.2.2.1, h.2.2.2.setCell hn x⟩
theorem Cu.updO (h : Cu T w0 B v code w) {m : Nat} {f : Nat → Obj} (hp : w0.heap.size ≤ m) (hn : B ≠ m) : Cu T w0 B v code (w.upd [m] f) := ⟨h.1.upd1 hp, h.2.1, h.2.2.1, h.2.2.2.upd_other (by simpa using hn)⟩
theorem Cu.upd (h : Cu T w0 B v code w) {i k : Int} (h0 : 0 ≤ i) (h1 : i ≤ code.length) : Cu T w0 B v code (w.upd [B] (fun _ => .cells #[v, .int .i64 i, .int .i64 k] T (0, 0))) :=
  ⟨h.1.upd1 h.2.2.1, h.2.1, h.2.2.1, CurAt.upd h.lt h0 h1⟩
theorem Cu.new {h : Int} (k : Holds w0 code [v]) (hx : Ex w0 w) (hB : w0.heap.size ≤ B) (hc : w.heap[B]? = some (.cells #[v, .int .i64 0, .int .i64 h] T (0, 0))) : Cu T w0 B v code w := ⟨hx, k, hB, 0, h, hc, Int.le_refl _, by omega⟩
theorem Cu.holds (h : Cu T w0 B v code w) : Holds w code [v] := h.2.1.ex h.1
end
/-- From w to wr the cursor moved on, and else nothing that lay in w has turned. -/
def Mv (T : TypeId) (B : Nat) (v : Value) (n : Nat) (w wr : World) : Prop := OneB B w wr ∧ CurAt T wr B v n
/-- .. as a form of the new world. -/
def Drw (T : TypeId) (B : Nat) (v : Value) (n : Nat) (w w' : World) : Prop := ∃ (i h : Int) (g : Gr), 0 ≤ i ∧ i ≤ n ∧ w' = (w.upd [B] (fun _ => .cells #[v, .int .i64 i, .int .i64 h] T (0, 0))).plus g
theorem OneB.setNew {B : Nat} {w a : World} (h : OneB B w a) {p : Addr} (hp : w.heap.size ≤ p.block) (v : Value) : OneB B w (a.setCell p v) := by
  obtain ⟨h1, h2, h3, h4, h5⟩ := h
  exact ⟨h1, h2, h3, by simpa using h4, fun k hk hn => (row_setCell_other (by omega) v).trans (h5 k hk hn)⟩
theorem OneB.updNew {B : Nat} {w a : World} (h : OneB B w a) {m : Nat} {f : Nat → Obj} (hp : w.heap.size ≤ m) : OneB B w (a.upd [m] f) := by
  obtain ⟨h1, h2, h3, h4, h5⟩ := h
  exact ⟨h1, h2, h3, by simpa using h4, fun k hk hn => (World.block_upd a [m] f (by simp; omega)).trans (h5 k hk hn)⟩
section
variable {T : TypeId} {w0 w wr : World} {B : Nat} {v : Value} {n : Nat} {code : List UInt8}
theorem Mv.refl (h : CurAt T w B v n) : Mv T B v n w w := ⟨OneB.refl _ _, h⟩
theorem Mv.plus (h : Mv T B v n w wr) (g : Gr) : Mv T B v n w (wr.plus g) := ⟨h.1.plus g, h.2.plus g⟩
theorem Mv.alloc (h : Mv T B v n w wr) (o : Obj) : Mv T B v n w (wr.alloc o) := ⟨h.1.ex ((Ex.refl _).alloc o), h.2.alloc o⟩
theorem Mv.drew (h : Mv T B v n w wr) : Mv T B v n w wr.drew := ⟨h.1.drew, h.2.drew⟩
theorem Mv.setCell (h : Mv T B v n w wr) {p : Addr} (hp : w.heap.size ≤ p.block) (hn : B ≠ p.block) (x : Value) : Mv T B v n w (wr.setCell p x) := ⟨h.1.setNew hp x, h.2.setCell hn x⟩
theorem Mv.updO (h : Mv T B v n w wr) {m : Nat} {f : Nat → Obj} (hp : w.heap.size ≤ m) (hn : B ≠ m) : Mv T B v n w (wr.upd [m] f) := ⟨h.1.updNew hp, h.2.upd_other (by simpa using hn)⟩
theorem Mv.upd (h : Mv T B v n w wr) {i k : Int} (h0 : 0 ≤ i) (h1 : i ≤ n) : Mv T B v n w (wr.upd [B] (fun _ => .cells #[v, .int .i64 i, .int .i64 k] T (0, 0))) := ⟨h.1.upd _, CurAt.upd h.2.lt h0 h1⟩
theorem Mv.drw (h : Mv T B v n w wr) (hB : B < w.heap.size) : Drw T B v n w wr := by
  obtain ⟨h1, i, k, h2, h3, h4⟩ := h
  obtain ⟨g, rfl⟩ := h1.form hB h2
  exact ⟨i, k, g, h3, h4, rfl⟩
theorem Mv.size (h : Mv T B v n w wr) : w.heap.size ≤ wr.heap.size := h.1.2.2.2.1
theorem Cu.mv (h : Cu T w0 B v code w) : Mv T B v code.length w w := Mv.refl h.2.2.2
theorem Cu.moved (h : Cu T w0 B v code w) (m : Mv T B v code.length w wr) : Cu T w0 B v code wr := ⟨m.1.exOld h.1 h.2.2.1, h.2.1, h.2.2.1, m.2⟩
end
/-- What a draw leaves: a number between lo and hi; the cursor moved on. -/
def DrawnN (T : TypeId) (B : Nat) (v : Value) (n : Nat) (lo hi : Int) (w : World) (e : Ending) (w' : World) : Prop :=
  ∃ (r i h : Int) (g : Gr), lo ≤ r ∧ r ≤ hi ∧ 0 ≤ i ∧ i ≤ n ∧ e = .returned (.int .i64 r) ∧ w' = (w.upd [B] (fun _ => .cells #[v, .int .i64 i, .int .i64 h] T (0, 0))).plus g
theorem DrawnN.of {T : TypeId} {B : Nat} {v : Value} {n : Nat} {lo hi r i h : Int} {w w' : World} (h1 : lo ≤ r) (h2 : r ≤ hi) (h3 : 0 ≤ i) (h4 : i ≤ n) (hB : B < w.heap.size) (ho : OneB B w w')
    (hc : w'.heap[B]? = some (.cells #[v, .int .i64 i, .int .i64 h] T (0, 0))) : DrawnN T B v n lo hi w (.returned (.int .i64 r)) w' := by
  obtain ⟨g, rfl⟩ := ho.form hB hc
  exact ⟨r, i, h, g, h1, h2, h3, h4, rfl, rfl⟩
theorem DrawnN.le {T : TypeId} {B : Nat} {v : Value} {n : Nat} {lo hi lo' hi' : Int} {w w' : World} {e : Ending} (h : DrawnN T B v n lo hi w e w') (h1 : lo' ≤ lo) (h2 : hi ≤ hi') : DrawnN T B v n lo' hi' w e w' := by
  obtain ⟨r, i, k, g, a1, a2, a3⟩ := h
  exact ⟨r, i, k, g, by omega, by omega, a3⟩
def NewCur (T : TypeId) (v : Value) (w : World) (e : Ending) (w' : World) : Prop := ∃ B h, e = .returned (.pointer (some ⟨B, 0, none⟩)) ∧ w.heap.size ≤ B ∧ Ex w w' ∧ w'.heap[B]? = some (.cells #[v, .int .i64 0, .int .i64 h] T (0, 0))
end Go
namespace Go.Proofs.Ytelkplponnfkpaa
open Go.RowKit
set_option linter.unusedVariables false

set_option maxHeartbeats 1000000 in
theorem l01New_any (v : Value) (code : List UInt8) (w : World) (k1 : Holds w code [v]) :
    Calls Try.prog 49 #[v] w (NewCur 148 v w) := by
  obtain ⟨a, cap, hv, h1, h2, h3⟩ := k1.bytes
  simp only [List.cons.injEq, and_true] at hv
  subst hv
  unfold maxLen at h2
  clear k1
  go_enter Try.func49, Try.ntmps49
  go_wp2
  go_loop [3, 4] (fun h i => ∃ (k : Nat) (x : Int), k ≤ code.length ∧ i = .int .i64 k ∧ h = .int .i64 x) (fun _ i => code.length - (intOf i).toNat)
  case atStart => exact ⟨0, _, Nat.zero_le _, rfl, rfl⟩
  case round =>
    obtain ⟨k, x, hk, rfl, rfl⟩ := hrel
    by_cases hlt : k < code.length
    · by_cases h4 : (k : Int) < 4000
      · obtain ⟨b, off, rfl, hc⟩ := h3 k hlt
        generalize code[k] = y at *
        clear h3
        go_wp2
        go_round
        case rel => exact ⟨k + 1, _, by omega, by go_num, rfl⟩
        case measure => simp [intOf]; omega
      · clear h3
        go_wp2
        go_ret
        exact ⟨_, _, rfl, Nat.le_refl _, (Ex.refl _).alloc _, row_alloc _ _⟩
    · clear h3
      go_wp2
      go_ret
      exact ⟨_, _, rfl, Nat.le_refl _, (Ex.refl _).alloc _, row_alloc _ _⟩

set_option maxHeartbeats 2000000 in
theorem l01Byte_any (B : Nat) (v : Value) (code : List UInt8) (w0 w : World) (hcu : Cu 148 w0 B v code w) :
    Calls Try.prog 145 #[.pointer (some ⟨B, 0, none⟩)] w (DrawnN 148 B v code.length 0 255 w) := by
  obtain ⟨hx, k1, hlo, hc⟩ := hcu
  obtain ⟨a, cap, hv, h1, h2, h3⟩ := k1.bytes
  simp only [List.cons.injEq, and_true] at hv
  subst hv
  unfold maxLen at h2
  obtain ⟨i, h, hB, i0, i1⟩ := hc
  have lB := row_lt hB
  have c0 : w.cell? ⟨B, 0, none⟩ = some (.slice a code.length cap) := by rw [cell_row hB]; rfl
  have c1 : w.cell? ⟨B, 1, none⟩ = some (.int .i64 i) := by rw [cell_row hB]; rfl
  have c2 : w.cell? ⟨B, 2, none⟩ = some (.int .i64 h) := by rw [cell_row hB]; rfl
  have f1 : w.frozen? ⟨B, 1, none⟩ = false := frozen_row hB _
  have f2 : w.frozen? ⟨B, 2, none⟩ = false := frozen_row hB _
  have HB := hid hB
  have HX := hid hx
  clear k1 hB hx
  by_cases hlt : i < code.length
  · obtain ⟨k, rfl⟩ := Int.eq_ofNat_of_zero_le i0
    obtain ⟨b, off, rfl, hc⟩ := h3 k (by omega)
    have lb0 : b < w0.heap.size := World.block_lt_of_cell? _ _ hc
    have hne : b ≠ B := by omega
    replace hc := (HX.out.cell lb0).trans hc
    have lb := World.block_lt_of_cell? _ _ hc
    clear lb0 hlo
    have hlt' : k < code.length := by omega
    generalize code[k] = y at *
    clear h3
    go_enter Try.func145, Try.ntmps145
    go_wp2
    refine wp_region_ext (by kernel_rfl) (by kernel_rfl) ?_
    repeat (go_big_quiet_step (fail))
    refine wpQuiet_nil ?_
    intro g
    go_wp2
    refine wp_region_ext (by kernel_rfl) (by kernel_rfl) ?_
    repeat (go_big_quiet_step (fail))
    refine wpQuiet_nil ?_
    intro g
    go_wp2
    refine wp_region_ext (by kernel_rfl) (by kernel_rfl) ?_
    repeat (go_big_quiet_step (fail))
    refine wpQuiet_nil ?_
    intro g
    go_wp2
    go_ret
    exact DrawnN.of (h := wrap64 (wrap64 (h * 6364136223846793005) + 1442695040888963407)) (and255_bd _).1 (and255_bd _).2 (i := (k : Int) + 1) (by omega) (by omega) lB (by repeat (first | exact OneB.refl _ _ | apply OneB.plus | apply OneB.drew | apply OneB.setCell)) (by repeat (first | exact row_setCell (row_setCell HB.out _ _) _ _ | refine Ex.row ((Ex.refl _).plus _) ?_))
  · clear h3
    go_enter Try.func145, Try.ntmps145
    go_wp2
    refine wp_region_ext (by kernel_rfl) (by kernel_rfl) ?_
    repeat (go_big_quiet_step (fail))
    refine wpQuiet_nil ?_
    intro g
    go_wp2
    refine wp_region_ext (by kernel_rfl) (by kernel_rfl) ?_
    repeat (go_big_quiet_step (fail))
    refine wpQuiet_nil ?_
    intro g
    go_wp2
    go_ret
    exact DrawnN.of (h := wrap64 (wrap64 (h * 6364136223846793005) + 1442695040888963407)) (and255_bd _).1 (and255_bd _).2 (i := i) (by omega) (by omega) lB (by repeat (first | exact OneB.refl _ _ | apply OneB.plus | apply OneB.drew | apply OneB.setCell)) (by repeat (first | exact row_setCell HB.out _ _ | refine Ex.row ((Ex.refl _).plus _) ?_))
set_option maxHeartbeats 1000000 in
theorem l01Below_byte (B : Nat) (v : Value) (code : List UInt8) (n : Int) (w0 w : World) (hcu : Cu 148 w0 B v code w) (h0 : 1 ≤ n) (h1 : n ≤ 256) :
    Calls Try.prog 112 #[.pointer (some ⟨B, 0, none⟩), .int .i64 n] w (DrawnN 148 B v code.length 0 (n - 1) w) := by
  have lB := hcu.lt
  go_enter Try.func112, Try.ntmps112
  go_wp2_with (go_at_call 145; (with_reducible refine (l01Byte_any B v code w0 _ (by repeat (first | exact hcu | apply Cu.plus | apply Cu.alloc | apply Cu.drew | refine Cu.upd ?_ (by assumption) (by assumption)))).mono ?_); rintro e w' ⟨r, i, h, g, r0, r1, i0, i1, rfl, rfl⟩)
  go_ret
  exact ⟨_, i, h, g, Int.emod_nonneg _ (by omega), emod_le _ (by omega), i0, i1, rfl, rfl⟩

set_option maxHeartbeats 1000000 in
theorem l01Below_wide (B : Nat) (v : Value) (code : List UInt8) (n : Int) (w0 w : World) (hcu : Cu 148 w0 B v code w) (h0 : 257 ≤ n) (h1 : n ≤ 1000000000) :
    Calls Try.prog 112 #[.pointer (some ⟨B, 0, none⟩), .int .i64 n] w (DrawnN 148 B v code.length 0 (n - 1) w) := by
  have lB := hcu.lt
  go_enter Try.func112, Try.ntmps112
  go_wp2_with (go_at_call 145; (with_reducible refine (l01Byte_any B v code w0 _ (by repeat (first | exact hcu | apply Cu.plus | apply Cu.alloc | apply Cu.drew | refine Cu.upd ?_ (by assumption) (by assumption)))).mono ?_); rintro e w' ⟨r, i, h, g, r0, r1, i0, i1, rfl, rfl⟩)
  go_ret
  exact ⟨_, _, _, _, Int.emod_nonneg _ (by omega), emod_le _ (by omega), by assumption, by assumption, rfl, rfl⟩

theorem l01Below_any (B : Nat) (v : Value) (code : List UInt8) (n : Int) (w0 w : World) (hcu : Cu 148 w0 B v code w) (h0 : 1 ≤ n) (h1 : n ≤ 1000000000) :
    Calls Try.prog 112 #[.pointer (some ⟨B, 0, none⟩), .int .i64 n] w (DrawnN 148 B v code.length 0 (n - 1) w) := by
  by_cases h : n ≤ 256
  · exact l01Below_byte B v code n w0 w hcu h0 h
  · exact l01Below_wide B v code n w0 w hcu (by omega) h1

end Go.Proofs.Ytelkplponnfkpaa

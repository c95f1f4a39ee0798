/- Rows of flat data that are read; bytes made of strings; copy, and back. No program in sight. -/
import Derived.Test.YtelkplponnfkpaaGap
import Derived.Test.YtelkplponnfkpaaMem
import Derived.Laws.IdiomStrings
import Derived.Lib.LazyBuf
import Derived.Laws.MakeOwn
namespace Go
open Go.RowKit
set_option linter.unusedVariables false

section
variable {α : Type} [Rep α] [Flat α]
theorem Holds.fl {w : World} {xs : List α} {v : Value} (h : Holds w xs [v]) : ∃ A cap, v = .slice A xs.length cap ∧ xs.length ≤ cap ∧ cap ≤ maxLen := by
  obtain ⟨a, cap, hv, h1, h2, _⟩ := h.flat
  simp only [List.cons.injEq, and_true] at hv
  exact ⟨a, cap, hv, h1, h2⟩
theorem Holds.flA {w : World} {xs : List α} {A : Option Addr} {n cap : Nat} (h : Holds w xs [.slice A n cap]) (hp : 0 < xs.length) : ∃ b off, A = some ⟨b, off, none⟩ := by
  obtain ⟨a, cap', hv, h1, h2, h3, _⟩ := h.flat
  simp only [List.cons.injEq, Value.slice.injEq, and_true] at hv
  obtain ⟨rfl, rfl, rfl⟩ := hv
  obtain ⟨b, off, ha, _⟩ := h3 0 hp
  exact ⟨b, off, ha⟩
theorem Holds.flok {w : World} {xs : List α} {vs : List Value} (h : Holds w xs vs) {x : α} (hx : x ∈ xs) : Flat.ok x := by
  obtain ⟨_, _, _, _, _, _, h4⟩ := h.flat
  exact h4 x hx
theorem Holds.flokK {w : World} {xs : List α} {vs : List Value} (h : Holds w xs vs) {k : Nat} {x : α} (hx : xs[k]? = some x) : Flat.ok x := h.flok (List.mem_of_getElem? hx)
theorem Holds.flc {w : World} {xs : List α} {b off n cap : Nat} (h : Holds w xs [.slice (some ⟨b, off, none⟩) n cap]) {k : Nat} {y : α} (hk : xs[k]? = some y) {j : Nat} (hj : j < Rep.size α) :
    w.cell? ⟨b, off + k * Rep.size α + j, none⟩ = (Flat.cells y)[j]? := by
  obtain ⟨a, cap', hv, h1, h2, h3, _⟩ := h.flat
  simp only [List.cons.injEq, Value.slice.injEq, and_true] at hv
  obtain ⟨ha, rfl, rfl⟩ := hv
  obtain ⟨hk', rfl⟩ := List.getElem?_eq_some_iff.1 hk
  obtain ⟨b', off', ha', hc⟩ := h3 k hk'
  rw [ha'] at ha
  simp only [Option.some.injEq, Addr.mk.injEq, and_true] at ha
  obtain ⟨rfl, rfl⟩ := ha
  exact hc j hj
end
section
variable {P : Program} {ops : Array Oper} {rest : List Oper} {o : Oper} {a : Act} {w w0 : World} {Q : Exit → Act → World → Prop} {Is Js : List Asn} {K : Act → World → Prop}
theorem wp_loadH {α : Type} [Rep α] [Flat α] (T : TypeId) (x : Operand) (ho : o.op = .load T x) {b f off k n cap : Nat} (hx : a.eval x = .pointer (some ⟨b, f, none⟩)) {xs : List α} {y : α}
    (hs : St w0 w Is) (hh : ∀ w, St w0 w Is → Holds w xs [.slice (some ⟨b, off, none⟩) n cap]) (hk : xs[k]? = some y) {m : Nat} (hf : f = off + k * m) (hu : aggT P T m) (hm : m = Rep.size α) {vs : List Value} (hv : Flat.cells y = vs)
    (hK : K (a.put o.dst (.agg vs.toArray)) w) : o.wp P a w K Q := by
  subst hv; subst hm; subst hf
  obtain ⟨⟨d, hu, hd⟩, hi⟩ := hu
  refine wp_load_mid T x ho b _ hx (Flat.cells y) d (fun j v hj => ?_) hu hd (by rw [Flat.len]; exact hi) hK
  have hj' : j < Rep.size α := by
    rw [← Flat.len y]
    exact (List.getElem?_eq_some_iff.1 hj).1
  rw [(hh w hs).flc hk hj']; exact hj
theorem wp_loadHF {α : Type} [Rep α] [Flat α] (T : TypeId) (x : Operand) (ho : o.op = .load T x) {b f off k n cap : Nat} (hx : a.eval x = .pointer (some ⟨b, f, none⟩)) {xs : List α} {y : α}
    (hs : St w0 w Is) (hh : ∀ w, St w0 w Is → Holds w xs [.slice (some ⟨b, off, none⟩) n cap]) (hk : xs[k]? = some y) (m j : Nat) (hf : f = off + k * m + j) (hm : m = Rep.size α) (hj : j < m) (hu : scalarT P T) {v : Value} (hv : (Flat.cells y)[j]? = some v)
    (hK : K (a.put o.dst v) w) : o.wp P a w K Q := by
  subst hm; subst hf
  obtain ⟨d, hu, hd⟩ := hu
  have hcell : w.cell? ⟨b, off + k * Rep.size α + j, none⟩ = some v := by rw [(hh w hs).flc hk hj]; exact hv
  have hagg : (isAgg T).run P w = .ok false w := by
    unfold isAgg
    rw [Sem.run_bind, run_underlying hu w]
    cases d <;> simp_all
  have hr : (Instr.loadAt T (.pointer (some ⟨b, off + k * Rep.size α + j, none⟩))).run P w = .ok v w := by
    simp only [Instr.loadAt, Instr.sureAddr, Sem.run_bind, Sem.run_pure, Result.andThen_ok, loadVar, hagg, Bool.false_eq_true, if_false]
    simp [hcell]
  unfold Oper.wp execOp
  simp only [ho, hx, Sem.run_bind, hr, Result.andThen_ok, Sem.run_pure]
  exact hK
theorem wpList_loadH {α : Type} [Rep α] [Flat α] (hw : Region.wanted o (yielded ops a.tmps) = true) (T : TypeId) (x : Operand) (ho : o.op = .load T x) {b f off k n cap : Nat} (hx : a.eval x = .pointer (some ⟨b, f, none⟩)) {xs : List α} {y : α}
    (hs : St w0 w Is) (hh : ∀ w, St w0 w Is → Holds w xs [.slice (some ⟨b, off, none⟩) n cap]) (hk : xs[k]? = some y) {m : Nat} (hf : f = off + k * m) (hu : aggT P T m) (hm : m = Rep.size α) {vs : List Value} (hv : Flat.cells y = vs)
    (hK : wpList P ops Q rest (a.put o.dst (.agg vs.toArray)) w) : wpList P ops Q (o :: rest) a w :=
  wpList_wanted hw fun _ hK' => wp_loadH T x ho hx hs hh hk hf hu hm hv (hK' _ _ hK)
theorem wpList_loadHF {α : Type} [Rep α] [Flat α] (hw : Region.wanted o (yielded ops a.tmps) = true) (T : TypeId) (x : Operand) (ho : o.op = .load T x) {b f off k n cap : Nat} (hx : a.eval x = .pointer (some ⟨b, f, none⟩)) {xs : List α} {y : α}
    (hs : St w0 w Is) (hh : ∀ w, St w0 w Is → Holds w xs [.slice (some ⟨b, off, none⟩) n cap]) (hk : xs[k]? = some y) (m j : Nat) (hf : f = off + k * m + j) (hm : m = Rep.size α) (hj : j < m) (hu : scalarT P T) {v : Value} (hv : (Flat.cells y)[j]? = some v)
    (hK : wpList P ops Q rest (a.put o.dst v) w) : wpList P ops Q (o :: rest) a w :=
  wpList_wanted hw fun _ hK' => wp_loadHF T x ho hx hs hh hk m j hf hm hj hu hv (hK' _ _ hK)

theorem quiet_loadH {α : Type} [Rep α] [Flat α] (T : TypeId) (x : Operand) (ho : o.op = .load T x) {b f off k n cap : Nat} (hx : a.eval x = .pointer (some ⟨b, f, none⟩)) {xs : List α} {y : α}
    (hh : ∀ w, St w0 w Is → Holds w xs [.slice (some ⟨b, off, none⟩) n cap]) (hk : xs[k]? = some y) {m : Nat} (hf : f = off + k * m) (hu : aggT P T m) (hm : m = Rep.size α) {vs : List Value} (hv : Flat.cells y = vs)
    {next : Act → Prop} (h : next (a.put o.dst (.agg vs.toArray))) : o.quiet P a (fun w => ∃ s : StW w0 Is, w = s.1) next := by
  refine ⟨_, fun w ⟨s, hw⟩ => ?_, h⟩
  have hs : St w0 w Is := hw ▸ s.2
  subst hv; subst hm; subst hf
  obtain ⟨⟨d, hu, hd⟩, hi⟩ := hu
  have hr := run_loadAt_mid (P := P) w b (off + k * Rep.size α) T (Flat.cells y) d (fun j v hj => by
    have hj' : j < Rep.size α := by
      rw [← Flat.len y]
      exact (List.getElem?_eq_some_iff.1 hj).1
    rw [(hh w hs).flc hk hj']; exact hj) hu hd (by rw [Flat.len]; exact hi)
  unfold Oper.quietAt execOp
  simp only [ho, hx, Sem.run_bind, hr, Result.andThen_ok, Sem.run_pure]
  exact ⟨rfl, rfl⟩
theorem quiet_loadHF {α : Type} [Rep α] [Flat α] (T : TypeId) (x : Operand) (ho : o.op = .load T x) {b f off k n cap : Nat} (hx : a.eval x = .pointer (some ⟨b, f, none⟩)) {xs : List α} {y : α}
    (hh : ∀ w, St w0 w Is → Holds w xs [.slice (some ⟨b, off, none⟩) n cap]) (hk : xs[k]? = some y) (m j : Nat) (hf : f = off + k * m + j) (hm : m = Rep.size α) (hj : j < m) (hu : scalarT P T) {v : Value} (hv : (Flat.cells y)[j]? = some v)
    {next : Act → Prop} (h : next (a.put o.dst v)) : o.quiet P a (fun w => ∃ s : StW w0 Is, w = s.1) next := by
  refine ⟨v, fun w ⟨s, hw⟩ => ?_, h⟩
  have hs : St w0 w Is := hw ▸ s.2
  subst hm; subst hf
  obtain ⟨d, hu, hd⟩ := hu
  have hcell : w.cell? ⟨b, off + k * Rep.size α + j, none⟩ = some v := by rw [(hh w hs).flc hk hj]; exact hv
  have hagg : (isAgg T).run P w = .ok false w := by
    unfold isAgg
    rw [Sem.run_bind, run_underlying hu w]
    cases d <;> simp_all
  have hr : (Instr.loadAt T (.pointer (some ⟨b, off + k * Rep.size α + j, none⟩))).run P w = .ok v w := by
    simp only [Instr.loadAt, Instr.sureAddr, Sem.run_bind, Sem.run_pure, Result.andThen_ok, loadVar, hagg, Bool.false_eq_true, if_false]
    simp [hcell]
  unfold Oper.quietAt execOp
  simp only [ho, hx, Sem.run_bind, hr, Result.andThen_ok, Sem.run_pure]
  exact ⟨rfl, rfl⟩

/-! ### Bytes -/
/-- The first cells of the block b are the bytes of s. -/
def bytA (b : Nat) (s : ByteArray) : Asn where
  P w F := (∃ cur E fr, w.heap[b]? = some (.cells cur E fr) ∧ s.size ≤ cur.size ∧ (∀ j, j < s.size → cur[j]? = (byteCells s)[j]?) ∧ ∀ j, j < s.size → w.frozen? ⟨b, j, none⟩ = false) ∧ ∀ c, F c ↔ c = b
  stable := by
    rintro w w' F ⟨⟨cur, E, fr, h1, h2, h3, h4⟩, h5⟩ hs
    have e := hs b ((h5 b).2 rfl)
    exact ⟨⟨cur, E, fr, e.trans h1, h2, h3, fun j hj => by rw [World.frozen?_of_block (w := w) e]; exact h4 j hj⟩, h5⟩
  lt := by
    rintro w F ⟨⟨cur, E, fr, h1, _⟩, h5⟩ b' hb
    rw [(h5 b').1 hb]; exact row_lt h1
theorem cutA_lt {b off l cap sz : Nat} (h : l < cap) : cutA (some ⟨b, off, none⟩) l cap sz = some ⟨b, off + l * sz, none⟩ := by
  unfold cutA
  rw [if_neg (by omega), Option.map_some, addr_add]
theorem byteCells_get (s : ByteArray) (j : Nat) (h : j < s.size) : (byteCells s)[j]? = some (.int .u8 (s[j].toNat : Int)) := by
  unfold byteCells
  rw [List.getElem?_map, Array.getElem?_toList, Array.getElem?_eq_getElem (by simpa using h)]
  rfl
theorem wp_bytes_st (T : TypeId) (tS : TypeId) (x : Operand) (ho : o.op = .convert tS T x) (e : TypeId) (hs : P.underlying tS = some .string) (hd : P.underlying T = some (.slice e)) (he : P.underlying e = some (.int .u8)) {s : ByteArray} (hx : a.eval x = .string s) (hS : St w0 w Is)
    (h : ∀ w' b C, w.heap.size = b → s.size ≤ C → St w0 w' (bytA b s :: Is) → K (a.put o.dst (.slice (some ⟨b, 0, none⟩) s.size C)) w') : o.wp P a w K Q := by
  have hr := run_bytes_of_string (P := P) w tS T e s hs hd he
  have hc := grownCap_ge w s.size 0 e
  have hsz : (bytesRow s (grownCap w s.size 0 e)).size = grownCap w s.size 0 e := by
    unfold bytesRow; rw [Array.size_append, Array.size_map, Array.size_replicate, show s.data.size = s.size from rfl]; omega
  unfold Oper.wp execOp
  simp only [ho, hx, Sem.run_bind, hr, Result.andThen_ok, Sem.run_pure]
  refine h _ _ _ rfl hc (hS.add (((Ex.refl w).drew).alloc _) (F := fun c => c = w.heap.size) ⟨⟨_, _, _, row_alloc w.drew _, ?_, fun j hj => ?_, fun j hj => ?_⟩, fun _ => Iff.rfl⟩ fun b hb => by omega)
  · rw [hsz]; exact hc
  · unfold bytesRow
    rw [Array.getElem?_append_left (by rw [Array.size_map]; exact hj), byteCells_get s j hj, Array.getElem?_map, Array.getElem?_eq_getElem (show j < s.data.size from hj)]
    rfl
  · unfold World.frozen?
    have : (w.drew.alloc (.cells (bytesRow s (grownCap w s.size 0 e)) e ((bytesRow s (grownCap w s.size 0 e)).size, (bytesRow s (grownCap w s.size 0 e)).size + 1))).heap[w.heap.size]? = _ := row_alloc w.drew _
    rw [this]
    simp
    omega
theorem wpList_bytes_st (hw : Region.wanted o (yielded ops a.tmps) = true) (T : TypeId) (tS : TypeId) (x : Operand) (ho : o.op = .convert tS T x) (e : TypeId) (hs : P.underlying tS = some .string) (hd : P.underlying T = some (.slice e)) (he : P.underlying e = some (.int .u8)) {s : ByteArray} (hx : a.eval x = .string s) (hS : St w0 w Is)
    (h : ∀ w' b C, w.heap.size = b → s.size ≤ C → St w0 w' (bytA b s :: Is) → wpList P ops Q rest (a.put o.dst (.slice (some ⟨b, 0, none⟩) s.size C)) w') : wpList P ops Q (o :: rest) a w :=
  wpList_wanted hw fun _ hK => wp_bytes_st T tS x ho e hs hd he hx hS fun w' b C h1 h2 h3 => hK _ _ (h w' b C h1 h2 h3)
theorem byteCells_append (s t : ByteArray) : byteCells (s ++ t) = byteCells s ++ byteCells t := by simp [byteCells, ByteArray.data_append]
theorem byteCells_extract (s : ByteArray) (i j : Nat) : byteCells (s.extract i j) = ((byteCells s).take j).drop i := by
  simp [byteCells, ByteArray.data_extract, List.drop_take]
theorem putB_byteCells {s p : ByteArray} {r : Nat} (h : r + p.size ≤ s.size) (j : Nat) (hj : j < s.size) : (byteCells (putB s r p))[j]? = if r ≤ j ∧ j < r + p.size then (byteCells p)[j - r]? else (byteCells s)[j]? := by
  have l1 := byteCells_length s
  have l2 := byteCells_length p
  unfold putB
  rw [byteCells_append, byteCells_append, byteCells_extract, byteCells_extract]
  have l3 : (((byteCells s).take r).drop 0).length = r := by simp [l1]; omega
  rw [List.append_assoc, List.getElem?_append, l3]
  split
  · rw [if_neg (by omega), List.drop_zero, List.getElem?_take, if_pos (by omega)]
  · rw [List.getElem?_append, l2]
    split
    · rw [if_pos (by omega)]
    · rw [if_neg (by omega), List.getElem?_drop, List.getElem?_take, if_pos (by omega)]
      congr 1; omega
theorem St.putBytes {b r : Nat} {s p : ByteArray} (h : St w0 w Is) (t : Take Is (bytA b s) Js) (hl : r + p.size ≤ s.size) : St w0 (w.setCells b r (byteCells p)) (bytA b (putB s r p) :: Js) := by
  obtain ⟨r1, r2, r3, r4, r5⟩ := setCells_rest (byteCells p) w b r
  refine (h.take t).turn r1 r2 r3 (Nat.le_of_eq r4.symm) fun F hF => ?_
  obtain ⟨⟨cur, E, fr, h1, h2, h3, h4⟩, h5⟩ := hF
  refine ⟨fun c _ hc => r5 c fun e => hc ((h5 c).2 e), F, ⟨⟨nicRow cur r (byteCells p), E, fr, row_setCells _ _ _ _ _ _ _ h1, ?_, fun j hj => ?_, fun j hj => ?_⟩, h5⟩, fun c hc => .inl hc⟩
  · rw [nicRow_size, putB_size hl]; exact h2
  · rw [putB_size hl] at hj
    rw [putB_byteCells hl j hj]
    have e := nic_eq cur.toList (byteCells p) r (by rw [byteCells_length, Array.length_toList]; omega)
    rw [show cur.toList.toArray = cur from rfl] at e
    rw [e, List.getElem?_toArray, nicL_in _ _ _ _ (by rw [byteCells_length, Array.length_toList]; omega), byteCells_length]
    split
    · rfl
    · rw [Array.getElem?_toList]; exact h3 j hj
  · rw [putB_size hl] at hj
    have := h4 j hj
    unfold World.frozen? at this ⊢
    rw [row_setCells _ _ _ _ _ _ _ h1]
    rw [h1] at this
    exact this
theorem wp_copyS_st (d x : Operand) (dT sT : TypeId) (ho : o.op = .call { callee := .builtin .copy, args := #[d, x], argTypes := #[dT, sT] }) (elem : TypeId) (hu : P.underlying dT = some (.slice elem)) {z : Value} {bytes : Nat} (hi : infoT P elem z 1 bytes)
    {b r m c : Nat} (hd : a.eval d = .slice (some ⟨b, r, none⟩) m c) {p : ByteArray} (hx : a.eval x = .string p) (hm : p.size ≤ m) {s : ByteArray} (hs : St w0 w Is) (t : Take Is (bytA b s) Js) (hl : r + p.size ≤ s.size)
    (h : ∀ w', St w0 w' (bytA b (putB s r p) :: Js) → K (a.put o.dst (.int .i64 (p.size : Int))) w') : o.wp P a w K Q := by
  obtain ⟨i, hi1, hi2⟩ := Option.map_eq_some_iff.1 hi.1
  simp only [Prod.mk.injEq] at hi2
  obtain ⟨_, hi3, _⟩ := hi2
  have hz : ∀ w, (Go.sizeOf elem).run P w = .ok 1 w := fun w => by simp [sizeOf, typeInfo, hi1, hi3]
  obtain ⟨F, ⟨cur, E, fr, h1, h2, h3, h4⟩, h5⟩ := hs.get t
  have hr := run_copy_string (P := P) w dT sT o.type elem b r m c p hu hz hm (fun j hj => by rw [cell_row h1, Array.getElem?_eq_getElem (by omega)]; rfl) (fun j hj => h4 _ (by omega))
  unfold Oper.wp execOp
  simp only [ho, resolve, invoke, builtin, Sem.run_bind, Sem.run_pure, Result.andThen_ok, List.map_toArray, List.map_cons, List.map_nil, hd, hx, hr]
  exact h _ (hs.putBytes t hl)
theorem wpList_copyS_st (hw : Region.wanted o (yielded ops a.tmps) = true) (d x : Operand) (dT sT : TypeId) (ho : o.op = .call { callee := .builtin .copy, args := #[d, x], argTypes := #[dT, sT] }) (elem : TypeId) (hu : P.underlying dT = some (.slice elem)) {z : Value} {bytes : Nat} (hi : infoT P elem z 1 bytes)
    {b r m c : Nat} (hd : a.eval d = .slice (some ⟨b, r, none⟩) m c) {p : ByteArray} (hx : a.eval x = .string p) (hm : p.size ≤ m) {s : ByteArray} (hs : St w0 w Is) (t : Take Is (bytA b s) Js) (hl : r + p.size ≤ s.size)
    (h : ∀ w', St w0 w' (bytA b (putB s r p) :: Js) → wpList P ops Q rest (a.put o.dst (.int .i64 (p.size : Int))) w') : wpList P ops Q (o :: rest) a w :=
  wpList_wanted hw fun _ hK => wp_copyS_st d x dT sT ho elem hu hi hd hx hm hs t hl fun w' h1 => hK _ _ (h w' h1)
theorem byteCells_list (s : ByteArray) : byteCells s = s.data.toList.map fun b => Value.int .u8 (b.toNat : Int) := rfl
theorem wp_back_st (src dst : TypeId) (x : Operand) (ho : o.op = .convert src dst x) (e : TypeId) (hs : P.underlying src = some (.slice e)) (he : P.underlying e = some (.int .u8)) (hd : P.underlying dst = some .string) {b n c : Nat} {s : ByteArray} (hx : a.eval x = .slice (some ⟨b, 0, none⟩) n c)
    (hS : St w0 w Is) (t : Take Is (bytA b s) Js) (hn : n = s.size) (hK : K (a.put o.dst (.string s)) w) : o.wp P a w K Q := by
  subst hn
  obtain ⟨F, ⟨cur, E, fr, h1, h2, h3, h4⟩, h5⟩ := hS.get t
  have hr := run_convert_bytes_back (P := P) w src dst e ⟨b, 0, none⟩ c s.data.toList hs he hd (fun j hj => by
    have hj' : j < s.size := by simpa using hj
    rw [addr_add, cell_row h1, Nat.zero_add, h3 j hj', byteCells_get s j hj']
    simp; rfl)
  rw [show s.data.toList.length = s.size from Array.length_toList] at hr
  unfold Oper.wp execOp
  simp only [ho, hx, Sem.run_bind, hr, Result.andThen_ok, Sem.run_pure]
  exact hK
theorem wpList_back_st (hw : Region.wanted o (yielded ops a.tmps) = true) (src dst : TypeId) (x : Operand) (ho : o.op = .convert src dst x) (e : TypeId) (hs : P.underlying src = some (.slice e)) (he : P.underlying e = some (.int .u8)) (hd : P.underlying dst = some .string) {b n c : Nat} {s : ByteArray} (hx : a.eval x = .slice (some ⟨b, 0, none⟩) n c)
    (hS : St w0 w Is) (t : Take Is (bytA b s) Js) (hn : n = s.size) (h : wpList P ops Q rest (a.put o.dst (.string s)) w) : wpList P ops Q (o :: rest) a w :=
  wpList_wanted hw fun _ hK => wp_back_st src dst x ho e hs he hd hx hS t hn (hK _ _ h)
/-- 'string(b)' of bytes that were appended. -/
theorem wp_backS_st (src dst : TypeId) (x : Operand) (ho : o.op = .convert src dst x) (e : TypeId) (hs : P.underlying src = some (.slice e)) (he : P.underlying e = some (.int .u8)) (hd : P.underlying dst = some .string) {n : Nat} {v : Value} {s : ByteArray} {E : TypeId} (hx : a.eval x = v)
    (hS : St w0 w Is) (t : Take Is (slotA E 1 v n (byteCells s)) Js) (hK : K (a.put o.dst (.string s)) w) : o.wp P a w K Q := by
  obtain ⟨h1, h2⟩ := hS.slot t
  have hn : n = s.size := by rw [byteCells_length] at h1; omega
  have hr : (convert src dst v).run P w = .ok (.string s) w := by
    rcases h2 with ⟨rfl, h0⟩ | ⟨b, off, cap, cur, rfl, _, hb, k1, k2, k3, k4⟩
    · rw [run_convert_bytes_nil (P := P) w src e hs he 0 0 dst hd]
      have : s = ByteArray.empty := ByteArray.ext (Array.eq_empty_of_size_eq_zero (show s.data.size = 0 from by have : s.data.size = s.size := rfl; omega))
      rw [this]
    · subst hn
      have := run_convert_bytes_back (P := P) w src dst e ⟨b, off, none⟩ cap s.data.toList hs he hd (fun j hj => by
        have hj' : j < s.size := by simpa using hj
        rw [addr_add, cell_row hb, k4 j (by omega), byteCells_get s j hj']
        simp; rfl)
      rw [show s.data.toList.length = s.size from Array.length_toList] at this
      rw [this]
  unfold Oper.wp execOp
  simp only [ho, hx, Sem.run_bind, hr, Result.andThen_ok, Sem.run_pure]
  exact hK
theorem wpList_backS_st (hw : Region.wanted o (yielded ops a.tmps) = true) (src dst : TypeId) (x : Operand) (ho : o.op = .convert src dst x) (e : TypeId) (hs : P.underlying src = some (.slice e)) (he : P.underlying e = some (.int .u8)) (hd : P.underlying dst = some .string) {n : Nat} {v : Value} {s : ByteArray} {E : TypeId} (hx : a.eval x = v)
    (hS : St w0 w Is) (t : Take Is (slotA E 1 v n (byteCells s)) Js) (h : wpList P ops Q rest (a.put o.dst (.string s)) w) : wpList P ops Q (o :: rest) a w :=
  wpList_wanted hw fun _ hK => wp_backS_st src dst x ho e hs he hd hx hS t (hK _ _ h)
/-- make([]T, 0, n): an owned slice without elements. -/
theorem wp_make0_st (t : TypeId) (l c : Operand) (ho : o.op = .makeSlice t l c) (e : TypeId) {z : Value} {size bytes : Nat} (ht : P.underlying t = some (.slice e)) (hi : infoT P e z size bytes) {n : Nat} (hl : a.eval l = .int .i64 0) (hc : a.eval c = .int .i64 (n : Int))
    (hb : bytes * n ≤ 281474976710656) (h63 : n ≤ maxLen) (hs : St w0 w Is)
    (h : ∀ w' b, w.heap.size = b → St w0 w' (slotA e size (.slice (some ⟨b, 0, none⟩) 0 n) 0 [] :: Is) → K (a.put o.dst (.slice (some ⟨b, 0, none⟩) 0 n)) w') : o.wp P a w K Q := by
  obtain ⟨i, hi1, hi2⟩ := Option.map_eq_some_iff.1 hi.1
  simp only [Prod.mk.injEq] at hi2
  obtain ⟨hi2, rfl, rfl⟩ := hi2
  have hb2 : (i.bytes : Int) * (n : Int) ≤ 281474976710656 := by
    have h : ((i.bytes * n : Nat) : Int) ≤ 281474976710656 := by omega
    rwa [Int.natCast_mul] at h
  have hr := run_make (P := P) w t e i z ht hi1 hi2 .i64 .i64 0 (n : Int) (by omega) (by omega) hb2 (by unfold maxLen at h63; omega)
  simp only [Int.toNat_zero, Int.toNat_natCast] at hr
  have hh := hs.alloc (madeCells z.cells (n * i.size)) e
  unfold Oper.wp execOp
  simp only [ho, hl, hc, Sem.run_bind, hr, Result.andThen_ok, Sem.run_pure]
  refine h _ _ rfl (hh.same fun F hF => ⟨F, ⟨⟨by simp, .inr ⟨_, 0, n, madeCells z.cells (n * i.size), rfl, Nat.zero_le _, ?_, Nat.zero_le _, h63, ?_, fun j hj => by simp at hj⟩⟩, fun c => by rw [hF.2]; simp [Value.blk]⟩, fun _ h => h⟩)
  · exact hF.1
  · rw [size_madeCells _ _]; omega
theorem wpList_make0_st (hw : Region.wanted o (yielded ops a.tmps) = true) (t : TypeId) (l c : Operand) (ho : o.op = .makeSlice t l c) (e : TypeId) {z : Value} {size bytes : Nat} (ht : P.underlying t = some (.slice e)) (hi : infoT P e z size bytes) {n : Nat} (hl : a.eval l = .int .i64 0) (hc : a.eval c = .int .i64 (n : Int))
    (hb : bytes * n ≤ 281474976710656) (h63 : n ≤ maxLen) (hs : St w0 w Is)
    (h : ∀ w' b, w.heap.size = b → St w0 w' (slotA e size (.slice (some ⟨b, 0, none⟩) 0 n) 0 [] :: Is) → wpList P ops Q rest (a.put o.dst (.slice (some ⟨b, 0, none⟩) 0 n)) w') : wpList P ops Q (o :: rest) a w :=
  wpList_wanted hw fun _ hK => wp_make0_st t l c ho e ht hi hl hc hb h63 hs fun w' b h1 h2 => hK _ _ (h w' b h1 h2)
/-- A slice of a row of bytes, from a place on. -/
theorem pure_cutLoA (t : TypeId) (x y : Operand) (ho : o.op = .slice t x (some y) none none) (e : TypeId) {z : Value} {sz bytes : Nat} (ht : P.underlying t = some (.slice e)) (hi : infoT P e z sz bytes) {b off n cap l : Nat}
    (hx : a.eval x = .slice (some ⟨b, off, none⟩) n cap) (hy : a.eval y = .int .i64 (l : Int)) (hh : l ≤ n) (hc : l < cap) : PureOp P o a (.slice (some ⟨b, off + l * sz, none⟩) (n - l) (cap - l)) := by
  have := pure_cutLo t x y ho e ht hi hx hy hh
  rwa [cutA_lt hc] at this
/-- A store of an element into an owned slice of flat data of one cell. -/
theorem wp_storeF_st {α : Type} [Rep α] [Flat α] (T : TypeId) (x y : Operand) (ho : o.op = .store T x y) {k b off n cap : Nat} {xs : List α} (hx : a.eval x = .pointer (some ⟨b, off + k, none⟩)) {u : Value} (hy : a.eval y = u) (hs : St w0 w Is) (t : Take Is (ownA xs [.slice (some ⟨b, off, none⟩) n cap]) Js)
    (hi : (P.info? T).map (·.size) = some 1) (h1 : Rep.size α = 1) (hk : k < xs.length) {v : α} (hv : Flat.ok v) (hc : Flat.cells v = [u]) (huc : u.cells.toList = [u]) (h : ∀ w', w'.heap.size = w.heap.size → St w0 w' (ownA (xs.set k v) [.slice (some ⟨b, off, none⟩) n cap] :: Js) → K a w') (hd : o.dst = none) : o.wp P a w K Q :=
  let ⟨h2, h3, h4⟩ := hs.setAt t hk h1 v hv hc
  wp_store1 T x y ho hx hy hi huc (Flat.one v u (by rw [hc]; exact List.mem_singleton.2 rfl)) h2 h3 (h _ (by simp) h4) hd
theorem wpList_storeF_st {α : Type} [Rep α] [Flat α] (hw : Region.wanted o (yielded ops a.tmps) = true) (T : TypeId) (x y : Operand) (ho : o.op = .store T x y) {k b off n cap : Nat} {xs : List α} (hx : a.eval x = .pointer (some ⟨b, off + k, none⟩)) {u : Value} (hy : a.eval y = u) (hs : St w0 w Is) (t : Take Is (ownA xs [.slice (some ⟨b, off, none⟩) n cap]) Js)
    (hi : (P.info? T).map (·.size) = some 1) (h1 : Rep.size α = 1) (hk : k < xs.length) {v : α} (hv : Flat.ok v) (hc : Flat.cells v = [u]) (huc : u.cells.toList = [u]) (h : ∀ w', w'.heap.size = w.heap.size → St w0 w' (ownA (xs.set k v) [.slice (some ⟨b, off, none⟩) n cap] :: Js) → wpList P ops Q rest a w') (hd : o.dst = none) : wpList P ops Q (o :: rest) a w :=
  wpList_wanted hw fun _ hK => wp_storeF_st T x y ho hx hy hs t hi h1 hk hv hc huc (fun w' h1 h2 => hK _ _ (h w' h1 h2)) hd
end
end Go

/- Stores of an element, or of a part of one, into an owned slice of flat data. No program in sight. -/
import Derived.Test.YtelkplponnfkpaaArr
namespace Go
open Go.RowKit
set_option linter.unusedVariables false
theorem mul_apart {i k sz j j' : Nat} (h : i ≠ k) (hj : j < sz) (hj' : j' ≤ sz) : i * sz + j < k * sz ∨ k * sz + j' ≤ i * sz + j := by
  rcases Nat.lt_or_ge i k with h1 | h1
  · left
    have := Nat.mul_le_mul_right sz (show i + 1 ≤ k from h1)
    rw [Nat.succ_mul] at this; omega
  · right
    have := Nat.mul_le_mul_right sz (show k + 1 ≤ i from by omega)
    rw [Nat.succ_mul] at this; omega
section
variable {α : Type} [Rep α] [Flat α] {w0 w : World} {Is Js : List Asn}
theorem St.setE {xs : List α} {k b off n cap : Nat} (h : St w0 w Is) (t : Take Is (ownA xs [.slice (some ⟨b, off, none⟩) n cap]) Js) (hk : k < xs.length) (j : Nat) (vs : List Value) (y : α) (hok : Flat.ok y)
    (hy : Flat.cells y = nicL (Flat.cells xs[k]) j vs) (hj : j + vs.length ≤ Rep.size α) :
    w.there b (off + k * Rep.size α + j) vs.length ∧ St w0 (w.setCells b (off + k * Rep.size α + j) vs) (ownA (xs.set k y) [.slice (some ⟨b, off, none⟩) n cap] :: Js) := by
  obtain ⟨F, bs, tr, nd, fz, hF⟩ := h.get t
  obtain ⟨a, cap', hv, q1, q2, q3⟩ := id tr
  simp only [List.cons.injEq, Value.slice.injEq, and_true] at hv
  obtain ⟨rfl, rfl, rfl⟩ := hv
  rcases q3 with ⟨h0, _⟩ | ⟨b', off', cur, E, fr, ts, ds, ha, hp, hb, hsz, hbs, he⟩
  · omega
  simp only [Option.some.injEq, Addr.mk.injEq, and_true] at ha
  obtain ⟨rfl, rfl⟩ := ha
  have hflat : ∀ i (hi : i < xs.length), ts i = Flat.cells xs[i] ∧ ds i = [] := fun i hi => by
    obtain ⟨h1, h2, _⟩ := Flat.tree.1 (he i hi).1
    exact ⟨h1, h2⟩
  have hokx : ∀ i (hi : i < xs.length), Flat.ok xs[i] := fun i hi => (Flat.tree.1 (he i hi).1).2.2
  have hbs2 : bs = [b] := by
    rw [hbs]; congr 1
    refine List.eq_nil_iff_forall_not_mem.2 fun c hc => ?_
    obtain ⟨i, hi, hc⟩ := List.mem_flatMap.1 hc
    rw [(hflat i (List.mem_range.1 hi)).2] at hc; cases hc
  subst hbs2
  have hroom : ∀ i, i < xs.length → off + i * Rep.size α + Rep.size α ≤ cur.size := fun i hi => by
    have := Nat.mul_le_mul_right (Rep.size α) (show i + 1 ≤ cap from by omega)
    rw [Nat.succ_mul] at this; omega
  have hrk := hroom k hk
  refine ⟨fun i hi => ⟨by rw [cell_row hb, Array.getElem?_eq_getElem (by omega)]; rfl, fz b (by simp) _⟩, ?_⟩
  obtain ⟨r1, r2, r3, r4, r5⟩ := setCells_rest vs w b (off + k * Rep.size α + j)
  have hcl : (Flat.cells xs[k]).length = Rep.size α := Flat.len _
  refine (h.take t).turn r1 r2 r3 (Nat.le_of_eq r4.symm) fun G hG => ?_
  obtain ⟨bs2, tr2, _, _, hG⟩ := hG
  have e2 : ∀ c, G c ↔ c = b := fun c => by
    rw [hG]
    obtain ⟨_, _, hv2, _, _, k2⟩ := tr2
    simp only [List.cons.injEq, Value.slice.injEq, and_true] at hv2
    obtain ⟨rfl, _, rfl⟩ := hv2
    rcases k2 with ⟨c0, _⟩ | ⟨b', off', cur', E', fr', ts', ds', e3, hp2, hb2, _, rfl, he2⟩
    · omega
    · simp only [Option.some.injEq, Addr.mk.injEq, and_true] at e3
      obtain ⟨rfl, rfl⟩ := e3
      have : (List.range xs.length).flatMap ds' = [] := List.eq_nil_iff_forall_not_mem.2 fun d hd => by
        obtain ⟨i, hi, hd⟩ := List.mem_flatMap.1 hd
        rw [(Flat.tree.1 (he2 i (List.mem_range.1 hi)).1).2.1] at hd; cases hd
      rw [this]; simp
  have hrow := row_setCells vs w b (off + k * Rep.size α + j) cur E fr hb
  refine ⟨fun c _ hc => r5 c fun e => hc ((e2 c).2 e), fun c => c = b, ⟨[b], ⟨_, _, by rw [List.length_set], by rw [List.length_set]; exact q1, q2, .inr ⟨b, off, _, E, fr, fun i => if i = k then Flat.cells y else ts i, fun _ => [], rfl, hp, hrow, by rw [nicRow_size]; exact hsz, by simp, fun i hi => ?_⟩⟩, by simp, fun c hc o => ?_, fun c => by simp⟩, fun c hc => .inl ((e2 c).2 hc)⟩
  · have hi' : i < xs.length := by rw [List.length_set] at hi; exact hi
    have hcs : cur.toList.length = cur.size := Array.length_toList
    have hcur : ∀ i : Nat, cur.toList[i]? = cur[i]? := fun i => Array.getElem?_toList
    have hlen : off + k * Rep.size α + j + vs.length ≤ cur.toList.length := by omega
    have e := nic_eq cur.toList vs (off + k * Rep.size α + j) hlen
    rw [show cur.toList.toArray = cur from rfl] at e
    by_cases hik : i = k
    · subst hik
      simp only [if_true]
      refine ⟨by rw [List.getElem_set_self]; exact Flat.tree.2 ⟨rfl, rfl, hok⟩, fun q hq => ?_⟩
      rw [e, List.getElem?_toArray, nicL_in _ _ _ _ hlen, hy, nicL_in _ _ _ _ (by rw [hcl]; omega), hcur]
      have h9 := (he i hi').2 q hq
      rw [(hflat i hi').1] at h9
      by_cases hin : j ≤ q ∧ q < j + vs.length
      · rw [if_pos (by omega), if_pos hin, show off + i * Rep.size α + q - (off + i * Rep.size α + j) = q - j from by omega]
      · rw [if_neg (by omega), if_neg hin]; exact h9
    · simp only [if_neg hik]
      refine ⟨by rw [List.getElem_set_ne (fun h => hik h.symm)]; exact Flat.tree.2 ⟨(hflat i hi').1, rfl, hokx i hi'⟩, fun q hq => ?_⟩
      rw [e, List.getElem?_toArray, nicL_in _ _ _ _ hlen, hcur]
      have h9 := (he i hi').2 q hq
      have h8 := mul_apart (sz := Rep.size α) hik hq hj
      rw [if_neg (by omega)]; exact h9
  · simp at hc
    subst hc
    have h9 := fz c (by simp) o
    unfold World.frozen? at h9 ⊢
    rw [hrow]
    rw [hb] at h9
    exact h9
end
section
variable {P : Program} {ops : Array Oper} {rest : List Oper} {o : Oper} {a : Act} {w w0 : World} {Q : Exit → Act → World → Prop} {Is Js : List Asn} {K : Act → World → Prop}
/-- A store of an element (j = 0, all its cells), or of a part of one. -/
theorem wp_storeE_st {α : Type} [Rep α] [Flat α] (T : TypeId) (x y : Operand) (ho : o.op = .store T x y) {f k b off n cap : Nat} {xs : List α} (hx : a.eval x = .pointer (some ⟨b, f, none⟩)) {v : Value} (hy : a.eval y = v) (hs : St w0 w Is) (t : Take Is (ownA xs [.slice (some ⟨b, off, none⟩) n cap]) Js)
    {m : Nat} (hi : (P.info? T).map (·.size) = some m) (sz j : Nat) (hsz : sz = Rep.size α) (hf : f = off + k * sz + j) (hk : k < xs.length) {vs : List Value} (hv : v.cells.toList = vs) (hm : vs.length = m) (h1 : vs.all (·.oneCell') = true) {e0 el : α} (he0 : xs[k]? = some e0) (hok : Flat.ok el) (he : Flat.cells el = nicL (Flat.cells e0) j vs) (hj : j + vs.length ≤ sz)
    (h : ∀ w', w'.heap.size = w.heap.size → St w0 w' (ownA (xs.set k el) [.slice (some ⟨b, off, none⟩) n cap] :: Js) → K a w') (hd : o.dst = none) : o.wp P a w K Q := by
  subst hsz; subst hf; subst hv
  obtain ⟨_, rfl⟩ := List.getElem?_eq_some_iff.1 he0
  obtain ⟨hth, hS⟩ := hs.setE t hk j v.cells.toList el hok he hj
  have hsv : (storeVar T ⟨b, off + k * Rep.size α + j, none⟩ v).run P w = .ok () (w.setCells b (off + k * Rep.size α + j) v.cells.toList) := by
    have h0 := run_storeVar_mid (P := P) w b (off + k * Rep.size α + j) T v.cells (by rw [← Array.length_toList]; exact hth) (by rw [hi, ← hm, Array.length_toList]) (by rw [← Array.all_toList]; exact h1)
    cases v <;> first | exact h0 | (simp only [storeVar, Value.cells] at h0 ⊢; exact h0)
  have hr : (Instr.storeAt T (.pointer (some ⟨b, off + k * Rep.size α + j, none⟩)) v).run P w = .ok () (w.setCells b (off + k * Rep.size α + j) v.cells.toList) := by
    simp only [Instr.storeAt, Instr.sureAddr, Sem.run_bind, Sem.run_pure, Result.andThen_ok, hsv]
  have hh := h _ (setCells_rest v.cells.toList w b (off + k * Rep.size α + j)).2.2.2.1 hS
  unfold Oper.wp execOp
  simp only [ho, hx, hy, Sem.run_bind, hr, Result.andThen_ok, Sem.run_pure]
  show K (a.put o.dst undef) _
  rw [hd]
  exact hh
theorem wpList_storeE_st {α : Type} [Rep α] [Flat α] (hw : Region.wanted o (yielded ops a.tmps) = true) (T : TypeId) (x y : Operand) (ho : o.op = .store T x y) {f k b off n cap : Nat} {xs : List α} (hx : a.eval x = .pointer (some ⟨b, f, none⟩)) {v : Value} (hy : a.eval y = v) (hs : St w0 w Is) (t : Take Is (ownA xs [.slice (some ⟨b, off, none⟩) n cap]) Js)
    {m : Nat} (hi : (P.info? T).map (·.size) = some m) (sz j : Nat) (hsz : sz = Rep.size α) (hf : f = off + k * sz + j) (hk : k < xs.length) {vs : List Value} (hv : v.cells.toList = vs) (hm : vs.length = m) (h1 : vs.all (·.oneCell') = true) {e0 el : α} (he0 : xs[k]? = some e0) (hok : Flat.ok el) (he : Flat.cells el = nicL (Flat.cells e0) j vs) (hj : j + vs.length ≤ sz)
    (h : ∀ w', w'.heap.size = w.heap.size → St w0 w' (ownA (xs.set k el) [.slice (some ⟨b, off, none⟩) n cap] :: Js) → wpList P ops Q rest a w') (hd : o.dst = none) : wpList P ops Q (o :: rest) a w :=
  wpList_wanted hw fun _ hK => wp_storeE_st T x y ho hx hy hs t hi sz j hsz hf hk hv hm h1 he0 hok he hj (fun w' h1 h2 => hK _ _ (h w' h1 h2)) hd
end
theorem madeCells_at (z : Array Value) (m i : Nat) (hi : i < m) (hz : 0 < z.size) : (madeCells z m)[i]? = z[i % z.size]? := by
  unfold madeCells
  rw [Array.getElem?_map, Array.getElem?_range, if_pos hi]
  have := Nat.mod_lt i hz
  simp [getElem!_pos, this]
section
variable {P : Program} {ops : Array Oper} {rest : List Oper} {o : Oper} {a : Act} {w w0 : World} {Q : Exit → Act → World → Prop} {Is Js : List Asn} {K : Act → World → Prop}
/-- make([]T, n) of flat data: n zeros. -/
theorem wp_makeF_st {α : Type} [Rep α] [Flat α] (y0 : α) (t : TypeId) (l c : Operand) (ho : o.op = .makeSlice t l c) (e : TypeId) {z : Value} {size bytes : Nat} (ht : P.underlying t = some (.slice e)) (hi : infoT P e z size bytes) {n : Nat} (hl : a.eval l = .int .i64 (n : Int)) (hc : a.eval c = .int .i64 (n : Int))
    (hsz : size = Rep.size α) (hy : Flat.cells y0 = z.cells.toList) (hok : Flat.ok y0) (hb : bytes * n ≤ 281474976710656) (h63 : n ≤ maxLen) (hs : St w0 w Is)
    (h : ∀ w' b, w.heap.size = b → St w0 w' (ownA (List.replicate n y0) [.slice (some ⟨b, 0, none⟩) n n] :: Is) → K (a.put o.dst (.slice (some ⟨b, 0, none⟩) n n)) w') : o.wp P a w K Q := by
  obtain ⟨i, hi1, hi2⟩ := Option.map_eq_some_iff.1 hi.1
  simp only [Prod.mk.injEq] at hi2
  obtain ⟨hi2, rfl, rfl⟩ := hi2
  have hb2 : (i.bytes : Int) * (n : Int) ≤ 281474976710656 := by
    have h : ((i.bytes * n : Nat) : Int) ≤ 281474976710656 := by omega
    rwa [Int.natCast_mul] at h
  have hr := run_make (P := P) w t e i z ht hi1 hi2 .i64 .i64 (n : Int) (n : Int) (by omega) (by omega) hb2 (by unfold maxLen at h63; omega)
  simp only [Int.toNat_natCast] at hr
  have hzs : z.cells.size = Rep.size α := by rw [← Array.length_toList, ← hy, Flat.len]
  have hpos := Rep.pos (α := α)
  have hh := hs.alloc (madeCells z.cells (n * i.size)) e
  unfold Oper.wp execOp
  simp only [ho, hl, hc, Sem.run_bind, hr, Result.andThen_ok, Sem.run_pure]
  refine h _ _ rfl (hh.same fun F hF => ?_)
  by_cases hn : n = 0
  · subst hn
    exact ⟨fun _ => False, ⟨[], ⟨_, _, rfl, Nat.le_refl _, Nat.zero_le _, .inl ⟨rfl, rfl⟩⟩, List.nodup_nil, fun b hb => (List.not_mem_nil hb).elim, fun b => by simp⟩, fun b hb => hb.elim⟩
  · refine ⟨F, ⟨[w.heap.size], ⟨_, _, by rw [List.length_replicate], by rw [List.length_replicate]; exact Nat.le_refl _, h63, .inr ⟨_, 0, madeCells z.cells (n * i.size), e, (0, 0), fun _ => Flat.cells y0, fun _ => [], rfl, by omega, hF.1, by rw [size_madeCells, Nat.zero_add, hsz]; exact Nat.le_refl _, by simp, fun k hk => ?_⟩⟩, by simp, fun b hb o => ?_, fun b => by rw [hF.2]; simp⟩, fun _ h => h⟩
    · rw [List.length_replicate] at hk
      refine ⟨by rw [List.getElem_replicate]; exact Flat.tree.2 ⟨rfl, rfl, hok⟩, fun j hj => ?_⟩
      have h1 := Nat.mul_le_mul_right (Rep.size α) (show k + 1 ≤ n from hk)
      rw [Nat.succ_mul] at h1
      rw [Nat.zero_add, madeCells_at _ _ _ (by rw [hsz]; omega) (by omega), hy, hzs, Nat.mul_comm, Nat.mul_add_mod, Nat.mod_eq_of_lt hj]
      simp
    · simp at hb
      subst hb
      exact frozen_row hF.1 o
theorem wpList_makeF_st {α : Type} [Rep α] [Flat α] (y0 : α) (hw : Region.wanted o (yielded ops a.tmps) = true) (t : TypeId) (l c : Operand) (ho : o.op = .makeSlice t l c) (e : TypeId) {z : Value} {size bytes : Nat} (ht : P.underlying t = some (.slice e)) (hi : infoT P e z size bytes) {n : Nat} (hl : a.eval l = .int .i64 (n : Int)) (hc : a.eval c = .int .i64 (n : Int))
    (hsz : size = Rep.size α) (hy : Flat.cells y0 = z.cells.toList) (hok : Flat.ok y0) (hb : bytes * n ≤ 281474976710656) (h63 : n ≤ maxLen) (hs : St w0 w Is)
    (h : ∀ w' b, w.heap.size = b → St w0 w' (ownA (List.replicate n y0) [.slice (some ⟨b, 0, none⟩) n n] :: Is) → wpList P ops Q rest (a.put o.dst (.slice (some ⟨b, 0, none⟩) n n)) w') : wpList P ops Q (o :: rest) a w :=
  wpList_wanted hw fun _ hK => wp_makeF_st y0 t l c ho e ht hi hl hc hsz hy hok hb h63 hs fun w' b h1 h2 => hK _ _ (h w' b h1 h2)
end
/-- A list filled from the front. -/
def fillL {α : Type} (xs : List α) (z : α) (k : Nat) : List α := xs.take k ++ List.replicate (xs.length - k) z
theorem fillL_zero {α : Type} (xs : List α) (z : α) : fillL xs z 0 = List.replicate xs.length z := by simp [fillL]
theorem fillL_all {α : Type} (xs : List α) (z : α) : fillL xs z xs.length = xs := by simp [fillL]
theorem fillL_length {α : Type} (xs : List α) (z : α) {k : Nat} (h : k ≤ xs.length) : (fillL xs z k).length = xs.length := by simp [fillL]; omega
theorem fillL_get {α : Type} (xs : List α) (z : α) {k : Nat} (h : k < xs.length) : (fillL xs z k)[k]? = some z := by
  unfold fillL
  rw [List.getElem?_append_right (by simp; omega), List.length_take, Nat.min_eq_left (by omega), Nat.sub_self, List.getElem?_replicate, if_pos (by omega)]
theorem fillL_set {α : Type} (xs : List α) (z : α) {k : Nat} (h : k < xs.length) : (fillL xs z k).set k xs[k] = fillL xs z (k + 1) := by
  unfold fillL
  rw [List.set_append_right _ _ (by simp; omega), List.length_take, Nat.min_eq_left (by omega), Nat.sub_self]
  obtain ⟨m, hm⟩ : ∃ m, xs.length - k = m + 1 := ⟨xs.length - k - 1, by omega⟩
  rw [hm, List.replicate_succ, List.set_cons_zero, show xs.length - (k + 1) = m from by omega, List.take_succ_eq_append_getElem h, List.append_assoc]
  rfl
end Go

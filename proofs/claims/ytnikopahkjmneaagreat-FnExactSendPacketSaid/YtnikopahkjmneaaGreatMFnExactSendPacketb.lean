/- Part 2 of what the proof of FnExactSendPacket rests on: an idealised machine, contracts of functions, and the walk of the law. No condition. -/
import Derived.Test.YtnikopahkjmneaaGreatMFnExactSendPacketa
section
namespace Go.Vc
open Go Go.RowKit
set_option linter.unusedVariables false
set_option linter.unusedSimpArgs false
set_option linter.unnecessarySimpa false
set_option linter.unusedSectionVars false
structure need (p q : Prop) : Prop where
  l : p
  r : q
inductive onO {α : Type} (x : Option α) (f : α → Prop) : Prop
  | mk (a : α) (h : x = some a) (k : f a)
inductive onO2 {α β : Type} (x : Option (α × β)) (f : α → β → Prop) : Prop
  | mk (a : α) (b : β) (h : x = some (a, b)) (k : f a b)
inductive onO3 {α β γ : Type} (x : Option (α × β × γ)) (f : α → β → γ → Prop) : Prop
  | mk (a : α) (b : β) (c : γ) (h : x = some (a, b, c)) (k : f a b c)
structure ldx (es : List (List Value)) (i : Nat) (f : List Value → Prop) : Prop where
  l : i < es.length
  r : ∀ e, es[i]? = some e → f e
def callx (P : Program) (f : FuncId) (ys : List AV) (F : (Nat → AV) → (Nat → Hp) → Prop) : Prop := ∃ res Hr, Con P f ys res Hr ∧ F res Hr
def TK.sl : TK → Option TypeId
  | .slice e => some e
  | _ => none
def TK.fs : TK → Option (List (Nat × Nat))
  | .struct l => some l
  | _ => none
def TK.st : TK → Option Unit
  | .str => some ()
  | _ => none
def rowOf (H : Hp) (k : Nat) : Option (TypeId × List PV) := match lk H k with
  | some (.row T cs) => some (T, cs)
  | _ => none
def arrOf (H : Hp) (k : Nat) : Option (TypeId × Nat × List (List Value)) := match lk H k with
  | some (.arr E sz es) => some (E, sz, es)
  | _ => none
def asT : AV → Option (List AV)
  | .tup vs => some vs
  | _ => none
def asN : AV → Option Int
  | .one (.v (.int _ n)) => some n
  | _ => none
def asH : AV → Option Nat
  | .one (.hs k) => some k
  | _ => none
def asHv : AV → Option (Nat × Nat)
  | .one (.hv k j) => some (k, j)
  | _ => none
def aggV : AV → Option (List Value)
  | .agg ps => plainV ps
  | _ => none
def int2 : AV → AV → Option (Int × Int)
  | .one (.v (.int .i64 a)), .one (.v (.int .i64 b)) => some (a, b)
  | _, _ => none
def intQ : AV → AV → Option (IntKind × Int × Int)
  | .one (.v (.int .i64 a)), .one (.v (.int .i64 b)) => some (.i64, a, b)
  | .one (.v (.int .u32 a)), .one (.v (.int .u32 b)) => some (.u32, a, b)
  | _, _ => none
def asU : AV → Option Int
  | .one (.v (.int .u32 n)) => some n
  | _ => none
def sh2 : AV → AV → Option (IntKind × Int × Int)
  | .one (.v (.int q a)), .one (.v (.int _ b)) => some (q, a, b)
  | _, _ => none
def vsrcO (tk : TK) (sz : Nat) (x : AV) (H : Hp) : Option (List (List Value) × Hp) := match tk, x with
  | .slice _, .one (.hs j) => match lk H j with
    | some (.arr E sz' new) => if sz' = sz then some (new, [(j, .arr E sz' new)]) else none
    | _ => none
  | .slice _, .one (.sl sz' es) => if sz' = sz then some (es, []) else none
  | .slice _, .one .nil => some ([], [])
  | .slice _, .one (.hc j l sz') => match lk H j with
    | some (.arr E sz2 new) => if sz2 = sz ∧ sz' = sz then some (new.drop l, [(j, .arr E sz2 new)]) else none
    | _ => none
  | .str, .one (.v (.string s)) => if sz = 1 then some (bytesE s, []) else none
  | _, _ => none
section
variable (P : Program) [TyEnv P] (o : Oper) (rd : Nat → AV) (H : Hp) (K : AV → Hp → Hp → Prop)
def vload (i : TyI) : PV → Prop
  | .rp k f => onO2 (rowOf H k) fun T cs => onO (mkv i (cs.drop f)) fun v => K v [] [(k, .row T cs)]
  | .ptr k j sz f => onO3 (arrOf H k) fun E z es => need (z = sz) (ldx es j fun e => onO (mkv i ((e.drop f).map .v)) fun v => K v [] [(k, .arr E sz es)])
  | .ep sz es j f => ldx es j fun e => onO (mkv i ((e.drop f).map .v)) fun v => K v [] []
  | _ => False
def vstore (i : TyI) (vs : List PV) : PV → Prop
  | .rp k f => onO2 (rowOf H k) fun T cs => onO (spl cs f vs) fun cs' => K .junk [(k, .row T cs')] [(k, .row T cs)]
  | .ptr k j sz f => onO3 (arrOf H k) fun E z es => need (z = sz) (ldx es j fun e => onO (plainV vs) fun us => onO (spl e f us) fun e' => K .junk [(k, .arr E sz (es.set j e'))] [(k, .arr E sz es)])
  | _ => False
def vbin (T : TypeId) (op : BinOp) (x y : AV) : TK → Prop
  | .struct _ => onO (aggV x) fun xs => onO (aggV y) fun ys => need (xs.map kd = ys.map kd ∧ EqOk P T (ys.map kd)) (onO (eqB op xs ys) fun v => K (.one (.v v)) [] [])
  | .bool => onO (asB x) fun a => onO (asB y) fun b => onO (booB op a b) fun v => K (.one (.v v)) [] []
  | .str => onO (asS x) fun a => onO (asS y) fun b => match op with
    | .add => need (a.size + b.size ≤ 9223372036854775807) (K (.one (.v (.string (a ++ b)))) [] [])
    | op => onO (strB op a b) fun v => K (.one (.v v)) [] []
  | .int _ => match op with
    | .quo => onO2 (int2 x y) fun a b => need (b ≠ 0) (K (.one (.v (.int .i64 (wr (a.tdiv b))))) [] [])
    | .rem => onO2 (int2 x y) fun a b => need (b ≠ 0) (K (.one (.v (.int .i64 (a.tmod b)))) [] [])
    | .shl => onO3 (sh2 x y) fun q a b => need (0 ≤ b ∧ b ≤ q.bits) (K (.one (.v (.int q (q.wrap (a * 2 ^ b.toNat))))) [] [])
    | .shr => onO3 (sh2 x y) fun q a b => need (0 ≤ b ∧ b ≤ q.bits) (K (.one (.v (.int q (a / 2 ^ b.toNat)))) [] [])
    | op => onO3 (intQ x y) fun q a b => onO (intA q op a b) fun v => K (.one (.v v)) [] []
  | .slice _ => False
def vback (k : Nat) : Option Blk → Prop
  | some (.byt s) => K (.one (.v (.string s))) [] [(k, .byt s)]
  | some (.arr E z es) => need (z = 1 ∧ okE es) (K (.one (.v (.string (ofE es)))) [] [(k, .arr E 1 es)])
  | _ => False
def vcut (ei : TyI) (k : Nat) (n : Int) : Option Blk → Prop
  | some (.byt s) => need (ei.size = 1 ∧ 0 ≤ n ∧ n < s.size) (K (.one (.hv k n.toNat)) [] [(k, .byt s)])
  | some (.arr E z es) => need (z = ei.size ∧ 0 ≤ n ∧ n ≤ es.length) (K (.one (.hc k n.toNat z)) [] [(k, .arr E z es)])
  | _ => False
def vcpy (k j : Nat) (p : ByteArray) : Option Blk → Prop
  | some (.byt s) => need (j + p.size ≤ s.size) (K (.one (.v (.int .i64 p.size))) [(k, .byt (putB s j p))] [(k, .byt s)])
  | _ => False
def vslp (ei : TyI) (lo hi : Option Operand) : PV → Prop
  | .hs k => onO lo fun y => need (hi = none) (onO (asI (evo rd y)) fun n => vcut K ei k n (lk H k))
  | .sl sz es => match lo, hi with
    | some y, none => onO (asI (evo rd y)) fun l => need (sz = ei.size ∧ 0 ≤ l ∧ l ≤ es.length) (K (.one (.sl sz (es.drop l.toNat))) [] [])
    | none, some y => onO (asI (evo rd y)) fun m => need (sz = ei.size ∧ 0 ≤ m ∧ m ≤ es.length) (K (.one (.sl sz (es.take m.toNat))) [] [])
    | _, _ => False
  | _ => False
def vslc (T : TypeId) (x : Operand) (lo hi : Option Operand) : TK → Prop
  | .str => onO (asS (evo rd x)) fun s => onO (loI rd lo) fun l => onO (hiI rd s.size hi) fun m => need (0 ≤ l ∧ l ≤ m ∧ m ≤ s.size) (K (.one (.v (.string (s.extract l.toNat m.toNat)))) [] [])
  | .slice e => onO (TyEnv.ti P e) fun ei => onO (asP (evo rd x)) fun p => vslp rd H K ei lo hi p
  | _ => False
def vconv (x : AV) : TK → TK → Prop
  | .int _, .int q => onO (asN x) fun n => K (.one (.v (.int q (q.wrap n)))) [] []
  | .str, .slice e => onO o.dst fun d => onO (TyEnv.ti P e) fun ei => onO (asS x) fun s => need (ei.k = .int .u8 ∧ lk H (8 * d) = none) (K (.one (.hs (8 * d))) [(8 * d, .byt s)] [])
  | .slice e, .str => onO (TyEnv.ti P e) fun ei => need (ei.k = .int .u8) (onO (asH x) fun k => vback K k (lk H k))
  | _, _ => False
def vix (ei : TyI) (n : Int) : PV → Prop
  | .hs k => onO3 (arrOf H k) fun E z es => need (z = ei.size ∧ 0 ≤ n ∧ n < es.length) (K (.one (.ptr k n.toNat z 0)) [] [(k, .arr E z es)])
  | .sl sz es => need (sz = ei.size ∧ 0 ≤ n ∧ n < es.length) (K (.one (.ep sz es n.toNat 0)) [] [])
  | _ => False
def vlen (tk : TK) : PV → Prop
  | .v (.string s) => onO tk.st fun _ => K (.one (.v (.int .i64 s.size))) [] []
  | .sl sz es => onO tk.sl fun _ => K (.one (.v (.int .i64 es.length))) [] []
  | .nil => onO tk.sl fun _ => K (.one (.v (.int .i64 0))) [] []
  | .hs k => onO tk.sl fun _ => onO3 (arrOf H k) fun E z es => K (.one (.v (.int .i64 es.length))) [] [(k, .arr E z es)]
  | _ => False
def vapp (d : Nat) (e : TypeId) (ei : TyI) (s1 : List (List Value)) (s2 : Hp) : PV → Prop
  | .hs j => onO3 (arrOf H j) fun E z es => need (E = e ∧ z = ei.size ∧ es.length + s1.length ≤ maxLen ∧ (es.length + s1.length) * ei.bytes ≤ 140737488355328 ∧ lk H (8 * d) = none)
      (K (.one (.hs (8 * d))) [(j, .dead), (8 * d, .arr e ei.size (es ++ s1))] ((j, .arr e ei.size es)   :: s2))
  | .nil => need (s1.length ≤ maxLen ∧ s1.length * ei.bytes ≤ 140737488355328 ∧ lk H (8 * d) = none) (K (.one (.hs (8 * d))) [(8 * d, .arr e ei.size s1)] s2)
  | _ => False
def vbi : Builtin → List Operand → List TypeId → Prop
  | .len, [x], [T] => onO (TyEnv.ti P T) fun i => onO (asP (evo rd x)) fun p => vlen H K i.k p
  | .copy, [x, y], [T, tx] => onO (TyEnv.ti P T) fun i => onO i.k.sl fun e => onO (TyEnv.ti P e) fun ei => need (ei.size = 1) (onO2 (asHv (evo rd x)) fun k j => onO (asS (evo rd y)) fun p => vcpy K k j p (lk H k))
  | .min, [x, y], [T, T'] => onO2 (int2 (evo rd x) (evo rd y)) fun a b => K (.one (.v (.int .i64 (min a b)))) [] []
  | .append, [x, y], [T, tx] => onO o.dst fun d => onO (TyEnv.ti P T) fun i => onO i.k.sl fun e => onO (TyEnv.ti P e) fun ei => onO (TyEnv.ti P tx) fun it => onO2 (vsrcO it.k ei.size (evo rd y) H) fun s1 s2 => onO (asP (evo rd x)) fun p => vapp H K d e ei s1 s2 p
  | _, _, _ => False
def vstep : Prop := match o.op with
  | .move x => K (evo rd x) [] []
  | .assign x => K (evo rd x) [] []
  | .pick c x y => onO (asB (evo rd c)) fun b => K (bif b then evo rd x else evo rd y) [] []
  | .alloc T => onO o.dst fun d => onO (TyEnv.ti P T) fun i => need (lk H (8 * d) = none) (K (.one (.rp (8 * d) 0)) [(8 * d, .row T i.zero)] [])
  | .box T x => onO o.dst fun d => onO (cellsO (evo rd x)) fun cs => need (lk H (8 * d) = none) (K (.one (.rp (8 * d) 0)) [(8 * d, .row T cs)] [])
  | .build T parts => onO (TyEnv.ti P T) fun i => onO i.k.fs fun fs => onO (buildO fs i.zero (parts.toList.map fun p => (p.1, evo rd p.2))) fun cs => K (.agg cs) [] []
  | .buildSlice T n parts => onO o.dst fun d => onO (TyEnv.ti P T) fun i => onO i.k.sl fun e => onO (TyEnv.ti P e) fun ei => need (parts.toList.map (·.1) = List.range n ∧ n * ei.size ≤ 16777216 ∧ lk H (8 * d) = none) (onO (elemsO ei.size (parts.toList.map fun p => evo rd p.2)) fun es => K (.one (.hs (8 * d))) [(8 * d, .arr e ei.size es)] [])
  | .load T x => onO (TyEnv.ti P T) fun i => onO (asP (evo rd x)) fun p => vload H K i p
  | .store T x y => need (o.dst = none) (onO (TyEnv.ti P T) fun i => onO (asP (evo rd x)) fun p => onO (cellsO (evo rd y)) fun vs => need (vs.length = i.size) (vstore H K i vs p))
  | .binOp op T x y _ => onO (TyEnv.ti P T) fun i => vbin P K T op (evo rd x) (evo rd y) i.k
  | .nilCheck x => onO (asP (evo rd x)) fun p => onO (ptrP p) fun q => K (.one q) [] []
  | .unOp .not _ x => onO (asB (evo rd x)) fun b => K (.one (.v (.bool (!b)))) [] []
  | .unOp .xor _ x => onO (asU (evo rd x)) fun n => K (.one (.v (.int .u32 (Go.bits .xor .u32 4294967295 n)))) [] []
  | .convert S T x => onO (TyEnv.ti P S) fun i' => onO (TyEnv.ti P T) fun i => vconv P o H K (evo rd x) i'.k i.k
  | .makeSlice T x y => onO o.dst fun d => onO (TyEnv.ti P T) fun i => onO i.k.sl fun e => onO (TyEnv.ti P e) fun ei => onO2 (int2 (evo rd x) (evo rd y)) fun a b => onO (plainV ei.zero) fun zs => need (0 ≤ a ∧ a ≤ b ∧ (ei.bytes : Int) * b ≤ 281474976710656 ∧ b ≤ maxLen ∧ lk H (8 * d) = none) (K (.one (.hs (8 * d))) [(8 * d, .arr e ei.size (List.replicate a.toNat zs))] [])
  | .slice T x lo hi none => onO (TyEnv.ti P T) fun i => vslc P rd H K T x lo hi i.k
  | .fieldAddr T x f => onO (TyEnv.ti P T) fun i => onO i.k.fs fun fs => onO2 fs[f]? fun f1 f2 => need (0 < f2) (onO (asP (evo rd x)) fun p => onO (addOff p f1) fun q => K (.one q) [] [])
  | .index T x y => onO (TyEnv.ti P T) fun i => onO i.k.st fun _ => onO (asS (evo rd x)) fun s => onO (asI (evo rd y)) fun n => need (0 ≤ n ∧ n < s.size) (K (.one (.v (.int .u8 (bytI s n)))) [] [])
  | .indexAddr T x y => onO (TyEnv.ti P T) fun i => onO i.k.sl fun e => onO (TyEnv.ti P e) fun ei => onO (asI (evo rd y)) fun n => onO (asP (evo rd x)) fun p => vix H K ei n p
  | .extract x m => onO (asT (evo rd x)) fun vs => onO vs[m]? fun v => K v [] []
  | .call { callee := .value (.func f), args := args, argTypes := _ } => onO (frzAs H (args.toList.map (evo rd))) fun ys => callx P f ys fun res Hr => need ((Hr (8 * o.dst.getD 0)).all (fun p => (lk H p.1).isNone) = true) (K (res (8 * o.dst.getD 0)) (Hr (8 * o.dst.getD 0)) (rsOf H ((args.toList.map (evo rd)).flatMap hsA)))
  | .call { callee := .builtin b, args := args, argTypes := ts } => vbi P o rd H K b args.toList ts.toList
  | _ => False
end
def Good (P : Program) (o : Oper) (rd : Nat → AV) (H : Hp) (v : AV) (δ rs : Hp) : Prop :=
  Tri P o rd rs v δ ∧ (∀ k b, (k, b) ∈ rs → lk H k = some b) ∧ ∀ k b, (k, b) ∈ δ → (∃ b', (k, b') ∈ rs) ∨ lk H k = none
section
variable {P : Program} [TyEnv P] {o : Oper} {rd : Nat → AV} {H : Hp} {K : AV → Hp → Hp → Prop}
theorem good0 {v : AV} (h : Tri P o rd [] v []) : Good P o rd H v [] [] := ⟨h, fun _ _ h => (by cases h), fun _ _ h => (by cases h)⟩
theorem good1 {v : AV} {k : Nat} {b : Blk} (h : Tri P o rd [] v [(k, b)]) (hk : lk H k = none) : Good P o rd H v [(k, b)] [] :=
  ⟨h, fun _ _ h => (by cases h), fun _ _ h => by simp only [List.mem_singleton, Prod.mk.injEq] at h; obtain ⟨rfl, rfl⟩ := h; exact .inr hk⟩
theorem goodr {v : AV} {k : Nat} {b : Blk} (h : Tri P o rd [(k, b)] v []) (hk : lk H k = some b) : Good P o rd H v [] [(k, b)] :=
  ⟨h, fun _ _ h => by simp only [List.mem_singleton, Prod.mk.injEq] at h; obtain ⟨rfl, rfl⟩ := h; exact hk, fun _ _ h => (by cases h)⟩
theorem goodw {v : AV} {k : Nat} {b b' : Blk} (h : Tri P o rd [(k, b)] v [(k, b')]) (hk : lk H k = some b) : Good P o rd H v [(k, b')] [(k, b)] :=
  ⟨h, fun _ _ h => by simp only [List.mem_singleton, Prod.mk.injEq] at h; obtain ⟨rfl, rfl⟩ := h; exact hk, fun _ _ h => by simp only [List.mem_singleton, Prod.mk.injEq] at h; obtain ⟨rfl, rfl⟩ := h; exact .inl ⟨b, by simp⟩⟩
theorem rowOf_some {k : Nat} {r : TypeId × List PV} (h : rowOf H k = some r) : lk H k = some (.row r.1 r.2) := by
  unfold rowOf at h; split at h
  · rename_i h'; simp only [Option.some.injEq] at h; subst h; exact h'
  · cases h
theorem arrOf_some {k : Nat} {r : TypeId × Nat × List (List Value)} (h : arrOf H k = some r) : lk H k = some (.arr r.1 r.2.1 r.2.2) := by
  unfold arrOf at h; split at h
  · rename_i h'; simp only [Option.some.injEq] at h; subst h; exact h'
  · cases h
theorem asP_some {x : AV} {p : PV} (h : asP x = some p) : x = .one p := by
  unfold asP at h; split at h
  · simp only [Option.some.injEq] at h; subst h; rfl
  · cases h
theorem asB_some {x : AV} {p : Bool} (h : asB x = some p) : x = .one (.v (.bool p)) := by
  unfold asB at h; split at h
  · simp only [Option.some.injEq] at h; subst h; rfl
  · cases h
theorem asS_some {x : AV} {p : ByteArray} (h : asS x = some p) : x = .one (.v (.string p)) := by
  unfold asS at h; split at h
  · simp only [Option.some.injEq] at h; subst h; rfl
  · cases h
theorem asN_some {x : AV} {p : Int} (h : asN x = some p) : ∃ q, x = .one (.v (.int q p)) := by
  unfold asN at h; split at h
  · simp only [Option.some.injEq] at h; subst h; exact ⟨_, rfl⟩
  · cases h
theorem asH_some {x : AV} {p : Nat} (h : asH x = some p) : x = .one (.hs p) := by
  unfold asH at h; split at h
  · simp only [Option.some.injEq] at h; subst h; rfl
  · cases h
theorem asT_some {x : AV} {p : List AV} (h : asT x = some p) : x = .tup p := by
  unfold asT at h; split at h
  · simp only [Option.some.injEq] at h; subst h; rfl
  · cases h
theorem int2_some {x y : AV} {r : Int × Int} (h : int2 x y = some r) : x = .one (.v (.int .i64 r.1)) ∧ y = .one (.v (.int .i64 r.2)) := by
  unfold int2 at h; split at h
  · simp only [Option.some.injEq] at h; subst h; exact ⟨rfl, rfl⟩
  · cases h
theorem intQ_some {x y : AV} {r : IntKind × Int × Int} (h : intQ x y = some r) : x = .one (.v (.int r.1 r.2.1)) ∧ y = .one (.v (.int r.1 r.2.2)) ∧ (r.1 = .i64 ∨ r.1 = .u32) := by
  unfold intQ at h; split at h
  · simp only [Option.some.injEq] at h; subst h; exact ⟨rfl, rfl, .inl rfl⟩
  · simp only [Option.some.injEq] at h; subst h; exact ⟨rfl, rfl, .inr rfl⟩
  · cases h
theorem asU_some {x : AV} {n : Int} (h : asU x = some n) : x = .one (.v (.int .u32 n)) := by
  unfold asU at h; split at h
  · simp only [Option.some.injEq] at h; subst h; rfl
  · cases h
theorem sh2_some {x y : AV} {r : IntKind × Int × Int} (h : sh2 x y = some r) : x = .one (.v (.int r.1 r.2.1)) ∧ ∃ q, y = .one (.v (.int q r.2.2)) := by
  unfold sh2 at h; split at h
  · simp only [Option.some.injEq] at h; subst h; exact ⟨rfl, _, rfl⟩
  · cases h
theorem aggV_some {x : AV} {xs : List Value} (h : aggV x = some xs) : ∃ ps, x = .agg ps ∧ plainV ps = some xs := by
  unfold aggV at h; split at h
  · exact ⟨_, rfl, h⟩
  · cases h
theorem sl_some {k : TK} {e : TypeId} (h : k.sl = some e) : k = .slice e := by cases k <;> simp_all [TK.sl]
theorem fs_some {k : TK} {e : List (Nat × Nat)} (h : k.fs = some e) : k = .struct e := by cases k <;> simp_all [TK.fs]
theorem st_some {k : TK} {e : Unit} (h : k.st = some e) : k = .str := by cases k <;> simp_all [TK.st]
theorem vload_ok {T : TypeId} {x : Operand} {i : TyI} {p : PV} (ho : o.op = .load T x) (hi : TyEnv.ti P T = some i) (hx : evo rd x = .one p) (h : vload H K i p) : ∃ v δ rs, Good P o rd H v δ rs ∧ K v δ rs := by
  cases p <;> simp only [vload] at h
  · obtain ⟨r1, r2, h1, v, h2, h⟩ := h
    exact ⟨_, _, _, goodr (tri_loadR ho hi hx h2) (rowOf_some h1), h⟩
  · obtain ⟨r1, r2, r3, h1, h3, h4, h⟩ := h
    obtain ⟨e, he⟩ : ∃ e, r3[_]? = some e := ⟨_, List.getElem?_eq_getElem h4⟩
    obtain ⟨v, h5, h⟩ := h e he
    subst h3
    exact ⟨_, _, _, goodr (tri_loadA ho hi hx he h5) (arrOf_some h1), h⟩
  · obtain ⟨h4, h⟩ := h
    obtain ⟨e, he⟩ := (⟨_, List.getElem?_eq_getElem h4⟩ : ∃ e, _ = some e)
    obtain ⟨v, h5, h⟩ := h e he
    exact ⟨_, _, _, good0 (tri_loadE ho hi hx he h5), h⟩
theorem vstore_ok {T : TypeId} {x y : Operand} {i : TyI} {p : PV} {vs : List PV} (ho : o.op = .store T x y) (hn : o.dst = none) (hi : TyEnv.ti P T = some i) (hx : evo rd x = .one p) (hy : cellsO (evo rd y) = some vs) (hl : vs.length = i.size) (h : vstore H K i vs p) : ∃ v δ rs, Good P o rd H v δ rs ∧ K v δ rs := by
  cases p <;> simp only [vstore] at h
  · obtain ⟨r1, r2, h1, v, h2, h⟩ := h
    exact ⟨_, _, _, goodw (tri_storeR ho hn hi hx hy hl h2) (rowOf_some h1), h⟩
  · obtain ⟨r1, r2, r3, h1, h3, h4, h⟩ := h
    obtain ⟨e, he⟩ : ∃ e, r3[_]? = some e := ⟨_, List.getElem?_eq_getElem h4⟩
    obtain ⟨us, h5, e', h6, h⟩ := h e he
    subst h3
    exact ⟨_, _, _, goodw (tri_storeA ho hn hi hx he hy h5 (by rw [← hl, plainV_some h5, List.length_map]) h6) (arrOf_some h1), h⟩
theorem vbin_ok {T T' : TypeId} {x y : Operand} {op : BinOp} {i : TyI} (ho : o.op = .binOp op T x y T') (hi : TyEnv.ti P T = some i) (h : vbin P K T op (evo rd x) (evo rd y) i.k) : ∃ v δ rs, Good P o rd H v δ rs ∧ K v δ rs := by
  cases hk : i.k <;> rw [hk] at h <;> simp only [vbin] at h
  · split at h
    · obtain ⟨r1, r2, h1, h2, h⟩ := h
      obtain ⟨e1, e2⟩ := int2_some h1
      exact ⟨_, _, _, good0 (tri_div ho e1 e2 h2 rfl), h⟩
    · obtain ⟨r1, r2, h1, h2, h⟩ := h
      obtain ⟨e1, e2⟩ := int2_some h1
      exact ⟨_, _, _, good0 (tri_div ho e1 e2 h2 rfl), h⟩
    · obtain ⟨r1, r2, r3, h1, h2, h⟩ := h
      obtain ⟨e1, q, e2⟩ := sh2_some h1
      exact ⟨_, _, _, good0 (tri_sh ho e1 e2 h2.1 h2.2 rfl), h⟩
    · obtain ⟨r1, r2, r3, h1, h2, h⟩ := h
      obtain ⟨e1, q, e2⟩ := sh2_some h1
      exact ⟨_, _, _, good0 (tri_sh ho e1 e2 h2.1 h2.2 rfl), h⟩
    · obtain ⟨q, r1, r2, h1, v, h2, h⟩ := h
      obtain ⟨e1, e2, e3⟩ := intQ_some h1
      simp only at e1 e2 e3
      rcases e3 with rfl | rfl
      · exact ⟨_, _, _, good0 (tri_int ho e1 e2 h2), h⟩
      · exact ⟨_, _, _, good0 (tri_u32 ho e1 e2 h2), h⟩
  · obtain ⟨a, h1, b, h2, v, h3, h⟩ := h
    have hu : P.underlying T = some .bool := by have := ty_kind hi; rw [hk] at this; exact this
    exact ⟨_, _, _, good0 (tri_boo ho hu (asB_some h1) (asB_some h2) h3), h⟩
  · obtain ⟨a, h1, b, h2, h⟩ := h
    split at h
    · exact ⟨_, _, _, good0 (tri_cat ho (asS_some h1) (asS_some h2) h.1), h.2⟩
    · obtain ⟨v, h3, h⟩ := h
      exact ⟨_, _, _, good0 (tri_str ho (asS_some h1) (asS_some h2) h3), h⟩
  · obtain ⟨xs, h1, ys, h2, h3, v, h4, h⟩ := h
    obtain ⟨ps, e1, p1⟩ := aggV_some h1
    obtain ⟨qs, e2, p2⟩ := aggV_some h2
    exact ⟨_, _, _, good0 (tri_eq ho e1 e2 p1 p2 h3.1 h3.2 h4), h⟩
theorem asHv_some {x : AV} {k j : Nat} (h : asHv x = some (k, j)) : x = .one (.hv k j) := by
  unfold asHv at h
  split at h
  · simp only [Option.some.injEq, Prod.mk.injEq] at h; obtain ⟨rfl, rfl⟩ := h; rfl
  · cases h
theorem vconv_ok {S T : TypeId} {x : Operand} {i' i : TyI} (ho : o.op = .convert S T x) (hs : TyEnv.ti P S = some i') (hi : TyEnv.ti P T = some i) (h : vconv P o H K (evo rd x) i'.k i.k) : ∃ v δ rs, Good P o rd H v δ rs ∧ K v δ rs := by
  cases hk' : i'.k <;> cases hk : i.k <;> rw [hk', hk] at h <;> simp only [vconv] at h
  · obtain ⟨n, h1, h⟩ := h
    obtain ⟨q, e⟩ := asN_some h1
    exact ⟨_, _, _, good0 (tri_conv ho hs hi hk e), h⟩
  · obtain ⟨d, hd, ei, h1, s, h2, ⟨h3, h4⟩, h⟩ := h
    exact ⟨_, _, _, good1 (tri_bytes ho hs hk' hi hk h1 h3 (asS_some h2)) h4, h⟩
  · obtain ⟨ei, h1, h2, k, h3, h⟩ := h
    unfold vback at h
    split at h
    · rename_i s hl
      exact ⟨_, _, _, goodr (tri_backB ho hs hk' h1 h2 hi hk (asH_some h3)) hl, h⟩
    · rename_i E z es hl
      obtain ⟨⟨h5, h6⟩, h⟩ := h
      subst h5
      exact ⟨_, _, _, goodr (tri_back ho hs hk' h1 h2 hi hk (asH_some h3) h6) hl, h⟩
    · exact h.elim
theorem vslc_ok {T : TypeId} {x : Operand} {lo hi : Option Operand} {i : TyI} (ho : o.op = .slice T x lo hi none) (hi' : TyEnv.ti P T = some i) (h : vslc P rd H K T x lo hi i.k) : ∃ v δ rs, Good P o rd H v δ rs ∧ K v δ rs := by
  cases hk : i.k <;> rw [hk] at h <;> simp only [vslc] at h
  · obtain ⟨s, h3, l, h4, m, h5, h6, h⟩ := h
    exact ⟨_, _, _, good0 (tri_subS ho hi' hk (asS_some h3) h4 h5 h6), h⟩
  · obtain ⟨ei, h1, p, h4, h⟩ := h
    unfold vslp at h
    split at h
    · obtain ⟨y, hy, hn, n, h3, h⟩ := h
      subst hn hy
      unfold vcut at h
      split at h
      · rename_i s hl
        obtain ⟨⟨h2, h5⟩, h⟩ := h
        exact ⟨_, _, _, goodr (tri_hv ho hi' hk h1 h2 (asP_some h4) (asI_some h3) h5) hl, h⟩
      · rename_i E z es hl
        obtain ⟨⟨rfl, h5⟩, h⟩ := h
        exact ⟨_, _, _, goodr (tri_hc ho hi' hk h1 (asP_some h4) (asI_some h3) h5) hl, h⟩
      · exact h.elim
    · split at h
      · obtain ⟨l, h3, ⟨rfl, h5⟩, h⟩ := h
        exact ⟨_, _, _, good0 (tri_cutLo ho hi' hk h1 (asP_some h4) (asI_some h3) h5), h⟩
      · obtain ⟨l, h3, ⟨rfl, h5⟩, h⟩ := h
        exact ⟨_, _, _, good0 (tri_cutHi ho hi' hk h1 (asP_some h4) (asI_some h3) h5), h⟩
      · exact h.elim
    · exact h.elim
theorem vsrc_ok {tx : TypeId} {it : TyI} {y : Operand} {sz : Nat} {s : List (List Value) × Hp} (hi : TyEnv.ti P tx = some it) (h : vsrcO it.k sz (evo rd y) H = some s) : SrcOk P rd y tx sz s.1 s.2 ∧ ∀ k b, (k, b) ∈ s.2 → lk H k = some b := by
  unfold vsrcO at h
  split at h
  · rename_i e j hk hy
    split at h
    · rename_i E sz' new hl
      split at h
      · rename_i hs
        subst hs
        simp only [Option.some.injEq] at h; subst h
        exact ⟨src_hs (ty_slice hi hk) hy, fun k b hb => by simp only [List.mem_singleton, Prod.mk.injEq] at hb; obtain ⟨rfl, rfl⟩ := hb; exact hl⟩
      · cases h
    · cases h
  · rename_i e sz' es hk hy
    split at h
    · rename_i hs
      subst hs
      simp only [Option.some.injEq] at h; subst h
      exact ⟨src_sl (ty_slice hi hk) hy, fun k b hb => (by cases hb)⟩
    · cases h
  · rename_i e hk hy
    simp only [Option.some.injEq] at h; subst h
    exact ⟨src_nil (ty_slice hi hk) hy, fun k b hb => (by cases hb)⟩
  · rename_i e j l sz' hk hy
    split at h
    · rename_i E sz2 new hl
      split at h
      · rename_i hs
        obtain ⟨rfl, rfl⟩ := hs
        simp only [Option.some.injEq] at h; subst h
        exact ⟨src_hc (ty_slice hi hk) hy, fun k b hb => by simp only [List.mem_singleton, Prod.mk.injEq] at hb; obtain ⟨rfl, rfl⟩ := hb; exact hl⟩
      · cases h
    · cases h
  · rename_i s' hk hy
    split at h
    · rename_i hs
      subst hs
      simp only [Option.some.injEq] at h; subst h
      exact ⟨src_str (ty_str hi hk) hy, fun k b hb => (by cases hb)⟩
    · cases h
  · cases h
theorem vbi_ok {b : Builtin} {args : Array Operand} {ts : Array TypeId} (ho : o.op = .call { callee := .builtin b, args := args, argTypes := ts }) (h : vbi P o rd H K b args.toList ts.toList) : ∃ v δ rs, Good P o rd H v δ rs ∧ K v δ rs := by
  obtain ⟨args⟩ := args
  obtain ⟨ts⟩ := ts
  simp only at h
  unfold vbi at h
  split at h
  · obtain ⟨i, h1, p, h2, h⟩ := h
    unfold vlen at h
    split at h
    · obtain ⟨_, h3, h⟩ := h
      exact ⟨_, _, _, good0 (tri_len (ty := 0) ho h1 (st_some h3) (asP_some h2)), h⟩
    · obtain ⟨e, h3, h⟩ := h
      exact ⟨_, _, _, good0 (tri_lenS ho h1 (sl_some h3) (asP_some h2)), h⟩
    · obtain ⟨e, h3, h⟩ := h
      exact ⟨_, _, _, good0 (tri_lenN ho h1 (sl_some h3) (asP_some h2)), h⟩
    · obtain ⟨e, h3, r1, r2, r3, h4, h⟩ := h
      exact ⟨_, _, _, goodr (tri_lenH ho h1 (sl_some h3) (asP_some h2)) (arrOf_some h4), h⟩
    · exact h.elim
  · obtain ⟨i, h1, e, h2, ei, h3, h4, k, j, h5, p, h6, h⟩ := h
    unfold vcpy at h
    split at h
    · rename_i s hl
      obtain ⟨h7, h⟩ := h
      exact ⟨_, _, _, goodw (tri_copy ho h1 (sl_some h2) h3 h4 (asHv_some h5) (asS_some h6) h7) hl, h⟩
    · exact h.elim
  · obtain ⟨r1, r2, h1, h⟩ := h
    obtain ⟨e1, e2⟩ := int2_some h1
    exact ⟨_, _, _, good0 (tri_min ho e1 e2), h⟩
  · obtain ⟨d, hd, i, h1, e, h2, ei, h3, it, h4, s1, s2, h5, p, h6, h⟩ := h
    obtain ⟨hs, hs2⟩ := vsrc_ok h4 h5
    unfold vapp at h
    split at h
    · rename_i j
      obtain ⟨r1, r2, r3, h7, ⟨q1, q2, q3, q4, q5⟩, h⟩ := h
      have ha := arrOf_some h7
      simp only at ha
      rw [q1, q2] at ha
      refine ⟨_, _, _, ⟨tri_append ho h1 (sl_some h2) h3 (asP_some h6) hs q3 q4 (fun hh => by rw [hh, ha] at q5; cases q5) (fun b hb => by rw [hs2 _ _ hb] at q5; cases q5), fun k b hb => ?_, fun k b hb => ?_⟩, h⟩
      · rcases List.mem_cons.1 hb with hb | hb
        · simp only [Prod.mk.injEq] at hb; obtain ⟨rfl, rfl⟩ := hb; exact ha
        · exact hs2 k b hb
      · rcases List.mem_cons.1 hb with hb | hb
        · simp only [Prod.mk.injEq] at hb; obtain ⟨rfl, rfl⟩ := hb; exact .inl ⟨_, List.mem_cons_self ..⟩
        · simp only [List.mem_singleton, Prod.mk.injEq] at hb; obtain ⟨rfl, rfl⟩ := hb; exact .inr q5
    · obtain ⟨⟨q3, q4, q5⟩, h⟩ := h
      refine ⟨_, _, _, ⟨tri_appendN ho h1 (sl_some h2) h3 (asP_some h6) hs q3 q4 (fun b hb => by rw [hs2 _ _ hb] at q5; cases q5), hs2, fun k b hb => ?_⟩, h⟩
      simp only [List.mem_singleton, Prod.mk.injEq] at hb; obtain ⟨rfl, rfl⟩ := hb; exact .inr q5
    · exact h.elim
  · exact h.elim
theorem parts_zip : ∀ (parts : List (Nat × Operand)) (k n : Nat), parts.map (·.1) = List.range' k n → parts = ((parts.map (·.2)).zipIdx k).map fun x => (x.2, x.1)
  | [], k, n, h => by simp
  | (i, x) :: l, k, 0, h => by simp at h
  | (i, x) :: l, k, n + 1, h => by
    simp only [List.map_cons, List.range'_succ, List.cons.injEq] at h
    obtain ⟨rfl, h⟩ := h
    simp only [List.map_cons, List.zipIdx_cons]
    rw [← parts_zip l _ n h]
theorem vstep_ok (h : vstep P o rd H K) : ∃ v δ rs, Good P o rd H v δ rs ∧ K v δ rs := by
  unfold vstep at h
  split at h
  · rename_i x ho
    exact ⟨_, _, _, good0 (tri_move (.inl ho)), h⟩
  · rename_i x ho
    exact ⟨_, _, _, good0 (tri_move (.inr ho)), h⟩
  · rename_i c x y ho
    obtain ⟨b, h1, h⟩ := h
    exact ⟨_, _, _, good0 (tri_pick ho (asB_some h1)), h⟩
  · rename_i T ho
    obtain ⟨d, hd, i, h1, h2, h⟩ := h
    exact ⟨_, _, _, good1 (tri_alloc ho h1) h2, h⟩
  · rename_i T x ho
    obtain ⟨d, hd, cs, h1, h2, h⟩ := h
    exact ⟨_, _, _, good1 (tri_box ho h1) h2, h⟩
  · rename_i T parts ho
    obtain ⟨i, h1, fs, h2, cs, h3, h⟩ := h
    exact ⟨_, _, _, good0 (tri_build ho h1 (fs_some h2) h3), h⟩
  · rename_i T n parts ho
    obtain ⟨d, hd, i, h1, e, h2, ei, h3, ⟨q1, q2, q3⟩, es, h4, h⟩ := h
    have hz := parts_zip parts.toList 0 n (by rw [q1, List.range_eq_range'])
    refine ⟨_, _, _, good1 (tri_bslice (ys := parts.toList.map (·.2)) ho h1 (sl_some h2) h3 hz ?_ q2 (by rw [List.map_map]; exact h4)) q3, h⟩
    have := congrArg List.length q1
    simpa using this
  · rename_i T x ho
    obtain ⟨i, h1, p, h2, h⟩ := h
    exact vload_ok ho h1 (asP_some h2) h
  · rename_i T x y ho
    obtain ⟨hn, i, h1, p, h2, vs, h3, h4, h⟩ := h
    exact vstore_ok ho hn h1 (asP_some h2) h3 h4 h
  · rename_i op T x y T' ho
    obtain ⟨i, h1, h⟩ := h
    exact vbin_ok ho h1 h
  · rename_i x ho
    obtain ⟨p, h1, q, h2, h⟩ := h
    exact ⟨_, _, _, good0 (tri_nilc ho (asP_some h1) h2), h⟩
  · rename_i T x ho
    obtain ⟨b, h1, h⟩ := h
    exact ⟨_, _, _, good0 (tri_not ho (asB_some h1)), h⟩
  · rename_i T x ho
    obtain ⟨b, h1, h⟩ := h
    exact ⟨_, _, _, good0 (tri_inv ho (asU_some h1)), h⟩
  · rename_i S T x ho
    obtain ⟨i', h1, i, h2, h⟩ := h
    exact vconv_ok ho h1 h2 h
  · rename_i T x y ho
    obtain ⟨d, hd, i, h1, e, h2, ei, h3, r1, r2, h4, zs, h5, ⟨q1, q2, q3, q4, q5⟩, h⟩ := h
    obtain ⟨e1, e2⟩ := int2_some h4
    exact ⟨_, _, _, good1 (tri_make ho h1 (sl_some h2) h3 e1 e2 q1 q2 q3 q4 h5) q5, h⟩
  · rename_i T x lo hi ho
    obtain ⟨i, h1, h⟩ := h
    exact vslc_ok ho h1 h
  · rename_i T x f ho
    obtain ⟨i, h1, fs, h2, r1, r2, h3, h4, p, h5, q, h6, h⟩ := h
    exact ⟨_, _, _, good0 (tri_field ho h1 (fs_some h2) h3 h4 (asP_some h5) h6), h⟩
  · rename_i T x y ho
    obtain ⟨i, h1, _, h2, s, h3, n, h4, h5, h⟩ := h
    exact ⟨_, _, _, good0 (tri_index ho h1 (st_some h2) (asS_some h3) (asI_some h4) h5), h⟩
  · rename_i T x y ho
    obtain ⟨i, h1, e, h2, ei, h3, n, h4, p, h5, h⟩ := h
    unfold vix at h
    split at h
    · obtain ⟨r1, r2, r3, h6, ⟨q1, q2⟩, h⟩ := h
      exact ⟨_, _, _, goodr (tri_ixH ho h1 (sl_some h2) h3 q1 (asP_some h5) (asI_some h4) q2) (arrOf_some h6), h⟩
    · obtain ⟨⟨q1, q2⟩, h⟩ := h
      exact ⟨_, _, _, good0 (tri_ixS ho h1 (sl_some h2) h3 q1 (asP_some h5) (asI_some h4) q2), h⟩
    · exact h.elim
  · rename_i x m ho
    obtain ⟨vs, h1, v, h2, h⟩ := h
    exact ⟨_, _, _, good0 (tri_extract ho (asT_some h1) h2), h⟩
  · rename_i f args ts ho
    obtain ⟨ys, h1, res, Hr, h2, h3, h⟩ := h
    have hfree : ∀ j b, (j, b) ∈ Hr (8 * o.dst.getD 0) → lk H j = none := fun j b hb => by
      have := List.all_eq_true.1 h3 _ hb
      simpa using this
    refine ⟨_, _, _, ⟨tri_call ho h1 h2 ?_, fun k b hb => (rsOf_mem.1 hb).2, fun k b hb => .inr (hfree k b hb)⟩, h⟩
    rintro b rfl
    rw [List.all_eq_true]
    intro p hp
    have hl := hfree p.1 p.2 hp
    rw [Bool.not_eq_true', ← Bool.not_eq_true, List.contains_iff_mem]
    intro hm
    obtain ⟨x, hx, hm⟩ := List.mem_flatMap.1 hm
    have key : ∀ (l ys : List AV), frzAs H l = some ys → ∀ x ∈ l, ∀ k ∈ hsA x, (lk H k).isSome = true := by
      intro l
      induction l with
      | nil => intro _ _ x hx; cases hx
      | cons y l ih =>
        intro ys hys x hx k hk
        simp only [frzAs] at hys
        split at hys
        · rename_i q hq
          obtain ⟨m, hm, _⟩ := Option.map_eq_some_iff.1 hys
          rcases List.mem_cons.1 hx with rfl | hx
          · have one : ∀ (p : PV) (q : PV), frz H p = some q → ∀ k ∈ hsP p, (lk H k).isSome = true := by
              intro p q hq k hk
              cases p <;> simp only [hsP, List.not_mem_nil, List.mem_singleton] at hk
              subst hk
              simp only [frz] at hq
              split at hq
              · rename_i hl; rw [hl]; rfl
              · rename_i hl; rw [hl]; rfl
              · cases hq
            have lst : ∀ (l : List PV) (q : List PV), frzL H l = some q → ∀ k ∈ l.flatMap hsP, (lk H k).isSome = true := by
              intro l
              induction l with
              | nil => intro _ _ k hk; cases hk
              | cons p l ih =>
                intro q hq k hk
                simp only [frzL] at hq
                split at hq
                · rename_i q' hq'
                  obtain ⟨m, hm, _⟩ := Option.map_eq_some_iff.1 hq
                  simp only [List.flatMap_cons, List.mem_append] at hk
                  exact hk.elim (one p q' hq' k) (ih m hm k)
                · cases hq
            cases x with
            | one p => obtain ⟨q', h', _⟩ := Option.map_eq_some_iff.1 hq; exact one p q' h' k hk
            | agg ps => obtain ⟨q', h', _⟩ := Option.map_eq_some_iff.1 hq; exact lst ps q' h' k hk
            | tup vs => cases hk
            | junk => cases hk
          · exact ih m hm x hx k hk
        · cases hys
    have := key _ _ h1 x hx p.1 hm
    rw [hl] at this
    cases this
  · rename_i b args ts ho
    exact vbi_ok ho h
  · exact h.elim
end
end Go.Vc
end
section
namespace Go.Vc
open Go Go.RowKit
set_option linter.unusedVariables false
set_option linter.unusedSimpArgs false
set_option linter.unnecessarySimpa false
set_option linter.unusedSectionVars false
structure Ent where
  on : Bool
  v : AV
  δ : Hp
  rs : Hp
def keys (H : Hp) : List Nat := H.map (·.1)
def wG {α β : Type} (wr : β → Option α) (S : Nat → Bool) : Nat → List β → α → α
  | _, [], acc => acc
  | k, x :: l, acc => wG wr S (k + 1) l (if S k then (wr x).getD acc else acc)
theorem wG_agree {α β : Type} {wr : β → Option α} {S S' : Nat → Bool} : ∀ {l : List β} {k : Nat} {acc : α}, (∀ i x, l[i]? = some x → (wr x).isSome = true → S (k + i) = S' (k + i)) → wG wr S k l acc = wG wr S' k l acc
  | [], _, _, _ => rfl
  | x :: l, k, acc, h => by
    simp only [wG]
    have h0 := h 0 x (by simp)
    have e : (if S k then (wr x).getD acc else acc) = if S' k then (wr x).getD acc else acc := by
      cases hw : wr x with
      | none => simp
      | some v => have := h0 (by rw [hw]; rfl); simp only [Nat.add_zero] at this; rw [this]
    rw [e]
    refine wG_agree fun i y hy hs => ?_
    have := h (i + 1) y (by simpa using hy) hs
    rw [show k + 1 + i = k + (i + 1) by omega]; exact this
theorem wG_none {α β : Type} {wr : β → Option α} {S : Nat → Bool} : ∀ {l : List β} {k : Nat} {acc : α}, (∀ i x, l[i]? = some x → (wr x).isSome = true → S (k + i) = false) → wG wr S k l acc = acc
  | [], _, _, _ => rfl
  | x :: l, k, acc, h => by
    simp only [wG]
    have e : (if S k then (wr x).getD acc else acc) = acc := by
      cases hw : wr x with
      | none => simp
      | some v => have := h 0 x (by simp) (by rw [hw]; rfl); simp only [Nat.add_zero] at this; rw [this]; simp
    rw [e]
    refine wG_none fun i y hy hs => ?_
    have := h (i + 1) y (by simpa using hy) hs
    rw [show k + 1 + i = k + (i + 1) by omega]; exact this
theorem wG_last {α β : Type} {wr : β → Option α} {S : Nat → Bool} : ∀ {l : List β} {k j : Nat} {acc : α} {x : β} {v : α}, l[j]? = some x → wr x = some v → S (k + j) = true → (∀ i y, j < i → l[i]? = some y → (wr y).isSome = true → S (k + i) = false) → wG wr S k l acc = v
  | x :: l, k, 0, acc, y, v, h, hv, hs, hn => by
    simp at h; subst h
    simp only [wG]
    simp only [Nat.add_zero] at hs
    rw [hs, hv]
    simp only [if_true, Option.getD_some]
    refine wG_none fun i y hy hw => ?_
    have := hn (i + 1) y (by omega) (by simpa using hy) hw
    rw [show k + 1 + i = k + (i + 1) by omega]; exact this
  | x :: l, k, j + 1, acc, y, v, h, hv, hs, hn => by
    simp only [wG]
    refine wG_last (j := j) (by simpa using h) hv (by rw [show k + 1 + j = k + (j + 1) by omega]; exact hs) fun i z hi hz hw => ?_
    have := hn (i + 1) z (by omega) (by simpa using hz) hw
    rw [show k + 1 + i = k + (i + 1) by omega]; exact this
def runS (S : Nat → Bool) : Nat → List (Oper × Ent) → Tm × Hp → Tm × Hp
  | _, [], s => s
  | k, x :: l, s => runS S (k + 1) l (if S k then (putT s.1 x.1.dst x.2.v, updH s.2 x.2.δ) else s)
def wrT (d : Nat) (x : Oper × Ent) : Option AV := if x.1.dst = some d then some x.2.v else none
def wrH (k : Nat) (x : Oper × Ent) : Option (Option Blk) := if k ∈ keys x.2.δ then some (lk (updH [] x.2.δ) k) else none
theorem gt_putT (t : Tm) (d : Option Nat) (v : AV) (k : Nat) : gt (putT t d v) k = if d = some k then v else gt t k := by
  cases d with
  | none => simp [putT]
  | some d => simp only [putT, gt]; by_cases e : d = k <;> simp [e]
theorem lk_updH : ∀ (δ H : Hp) (k : Nat), lk (updH H δ) k = if k ∈ keys δ then lk (updH [] δ) k else lk H k
  | [], H, k => by simp [updH, keys]
  | (j, b) :: δ, H, k => by
    simp only [updH]
    rw [lk_updH δ (upd1 j b H) k, lk_updH δ (upd1 j b []) k, lk_upd1]
    by_cases hk : k ∈ keys δ
    · rw [if_pos hk, if_pos (by simp only [keys, List.map_cons, List.mem_cons]; exact .inr hk), if_pos hk]
    · rw [if_neg hk, if_neg hk]
      by_cases e : k = j
      · subst e; simp [keys, upd1, lk]
      · rw [if_neg e, if_neg (by simp only [keys, List.map_cons, List.mem_cons, not_or]; exact ⟨e, hk⟩)]
theorem nd_updH : ∀ (δ : Hp) {H : Hp}, (H.map (·.1)).Nodup → ((updH H δ).map (·.1)).Nodup
  | [], _, h => h
  | (j, b) :: δ, _, h => nd_updH δ (nd_upd1 j b h)
theorem gt_runS (d : Nat) {S : Nat → Bool} : ∀ (l : List (Oper × Ent)) (k : Nat) (s : Tm × Hp), gt (runS S k l s).1 d = wG (wrT d) S k l (gt s.1 d)
  | [], _, _ => rfl
  | x :: l, k, s => by
    simp only [runS, wG]
    rw [gt_runS d l (k + 1)]
    congr 1
    by_cases h : S k = true
    · rw [if_pos h, if_pos h]
      simp only [gt_putT, wrT]
      by_cases e : x.1.dst = some d <;> simp [e]
    · rw [if_neg h, if_neg h]
theorem lk_runS (d : Nat) {S : Nat → Bool} : ∀ (l : List (Oper × Ent)) (k : Nat) (s : Tm × Hp), lk (runS S k l s).2 d = wG (wrH d) S k l (lk s.2 d)
  | [], _, _ => rfl
  | x :: l, k, s => by
    simp only [runS, wG]
    rw [lk_runS d l (k + 1)]
    congr 1
    by_cases h : S k = true
    · rw [if_pos h, if_pos h]
      simp only [lk_updH x.2.δ s.2, wrH]
      by_cases e : d ∈ keys x.2.δ <;> simp [e]
    · rw [if_neg h, if_neg h]
theorem nd_runS {S : Nat → Bool} : ∀ (l : List (Oper × Ent)) (k : Nat) (s : Tm × Hp), (s.2.map (·.1)).Nodup → ((runS S k l s).2.map (·.1)).Nodup
  | [], _, _, h => h
  | x :: l, k, s, h => by
    simp only [runS]
    refine nd_runS l (k + 1) _ ?_
    split
    · exact nd_updH _ h
    · exact h
theorem runS_none {S : Nat → Bool} : ∀ (l : List (Oper × Ent)) (k : Nat) (s : Tm × Hp), (∀ i, k ≤ i → S i = false) → runS S k l s = s
  | [], _, _, _ => rfl
  | x :: l, k, s, h => by
    simp only [runS]
    rw [h k (Nat.le_refl _), runS_none l (k + 1) _ fun i hi => h i (by omega)]
    simp
def upto (i : Nat) : Nat → Bool := fun k => decide (k < i)
theorem F2.perm {α β : Type} {r : α → β → Prop} {l l' : List α} (p : l.Perm l') : ∀ {m : List β}, F2 r l m → ∃ m', m.Perm m' ∧ F2 r l' m' := by
  induction p with
  | nil => intro m h; exact ⟨m, .refl _, h⟩
  | cons x _ ih =>
    intro m h
    cases h with
    | cons h k => obtain ⟨m', p, q⟩ := ih k; exact ⟨_ :: m', p.cons _, .cons h q⟩
  | swap x y l =>
    intro m h
    cases h with
    | cons h k =>
      cases k with
      | cons h' k => exact ⟨_, .swap _ _ _, .cons h' (.cons h k)⟩
  | trans _ _ ih1 ih2 =>
    intro m h
    obtain ⟨m1, p1, q1⟩ := ih1 h
    obtain ⟨m2, p2, q2⟩ := ih2 q1
    exact ⟨m2, p1.trans p2, q2⟩
theorem nd_pairs {H : Hp} (h : (H.map (·.1)).Nodup) : H.Nodup := by
  induction H with
  | nil => exact .nil
  | cons x H ih =>
    simp only [List.map_cons, List.nodup_cons] at h
    exact List.nodup_cons.2 ⟨fun hm => h.1 (List.mem_map_of_mem hm), ih h.2⟩
theorem perm_of_lk {H H' : Hp} (h : (H.map (·.1)).Nodup) (h' : (H'.map (·.1)).Nodup) (e : ∀ k, lk H k = lk H' k) : H.Perm H' := by
  rw [List.perm_ext_iff_of_nodup (nd_pairs h) (nd_pairs h')]
  rintro ⟨k, b⟩
  exact ⟨fun m => lk_mem (by rw [← e]; exact mem_lk h m), fun m => lk_mem (by rw [e]; exact mem_lk h' m)⟩
section
variable {P : Program} {w0 w : World} {ρ : Nat → Value} {n : Nat} {t t' : Tm} {H H' : Hp} {a : Act}
theorem Rel.same (h : Rel w0 w ρ n t H a) (ht : ∀ k, gt t' k = gt t k) (hH : ∀ k, lk H' k = lk H k) (hn : (H'.map (·.1)).Nodup) : Rel w0 w ρ n t' H' a := by
  have hd : dom H' = dom H := by funext k; unfold dom; rw [hH]
  refine ⟨h.sz, h.df, fun k => by rw [ht, hd]; exact h.tm k, ?_, hn⟩
  obtain ⟨As, h1, h2⟩ := h.hp
  obtain ⟨As', p, h3⟩ := h1.perm (perm_of_lk h.nd hn fun k => (hH k).symm)
  exact ⟨As', by rw [hd]; exact h3, St.perm h2 p⟩
end
def bnd (o : Oper) : List Nat := o.after.toList.filterMap fun e => if Region.binds .any e then some e.on else none
def maskOf (acc : List Nat) : List Nat → Nat
  | [] => 0
  | e :: l => 2 ^ e ||| acc.getD e 0 ||| maskOf acc l
def masks : List Oper → List Nat → List Nat
  | [], acc => acc
  | o :: l, acc => masks l (acc ++ [maskOf acc (bnd o)])
def Clo (l : List Oper) (S : Nat → Bool) : Prop := ∀ i o, l[i]? = some o → S i = true → ∀ e ∈ bnd o, S e = true
theorem maskOf_spec {l : List Oper} {acc : List Nat} {S : Nat → Bool} (ha : ∀ (j m : Nat), acc[j]? = some m → S j = true → ∀ i, m.testBit i = true → S i = true) : ∀ {es : List Nat}, (∀ e ∈ es, S e = true) → ∀ i, (maskOf acc es).testBit i = true → S i = true
  | [], _, i, h => by simp [maskOf] at h
  | e :: es, he, i, h => by
    simp only [maskOf, Nat.testBit_or, Bool.or_eq_true] at h
    rcases h with (h | h) | h
    · rw [Nat.testBit_two_pow] at h
      have : e = i := by simpa using h
      subst this; exact he _ (List.mem_cons_self ..)
    · cases hm : acc[e]? with
      | none => rw [List.getD_eq_getElem?_getD, hm] at h; simp at h
      | some m => rw [List.getD_eq_getElem?_getD, hm] at h; exact ha e m hm (he _ (List.mem_cons_self ..)) i h
    · exact maskOf_spec (l := l) ha (fun e' h' => he e' (List.mem_cons_of_mem _ h')) i h
theorem masks_spec {L : List Oper} {S : Nat → Bool} (hc : Clo L S) : ∀ {l : List Oper} {acc : List Nat}, (∀ i o, l[i]? = some o → L[acc.length + i]? = some o) →
    (∀ (j m : Nat), acc[j]? = some m → ∀ o, L[j]? = some o → (∀ e ∈ bnd o, S e = true) → ∀ i, m.testBit i = true → S i = true) →
    (∀ (j m : Nat), acc[j]? = some m → S j = true → ∀ i, m.testBit i = true → S i = true) →
    ∀ (j m : Nat), (masks l acc)[j]? = some m → ∀ o, L[j]? = some o → (∀ e ∈ bnd o, S e = true) → ∀ i, m.testBit i = true → S i = true
  | [], acc, _, h, _ => h
  | o :: l, acc, hl, h, h2 => by
    have h0 := hl 0 o (by simp)
    simp only [Nat.add_zero] at h0
    simp only [masks]
    refine masks_spec hc (fun i o' h' => ?_) (fun j m hm o' ho' hb i hi => ?_) (fun j m hm hs i hi => ?_)
    · have := hl (i + 1) o' (by simpa using h')
      rw [List.length_append, List.length_singleton, Nat.add_assoc, Nat.add_comm 1 i]; exact this
    · rcases Nat.lt_trichotomy j acc.length with hj | hj | hj
      · rw [List.getElem?_append_left hj] at hm; exact h j m hm o' ho' hb i hi
      · subst hj
        simp at hm; subst hm
        rw [h0] at ho'; cases ho'
        exact maskOf_spec (l := L) h2 hb i hi
      · rw [List.getElem?_eq_none (by simp only [List.length_append, List.length_singleton]; omega)] at hm; cases hm
    · rcases Nat.lt_trichotomy j acc.length with hj | hj | hj
      · rw [List.getElem?_append_left hj] at hm; exact h2 j m hm hs i hi
      · subst hj
        simp at hm; subst hm
        exact maskOf_spec (l := L) h2 (hc _ _ h0 hs) i hi
      · rw [List.getElem?_eq_none (by simp only [List.length_append, List.length_singleton]; omega)] at hm; cases hm
abbrev Fp := List Nat × List Nat
def hit (l m : List Nat) : Bool := l.any fun x => m.contains x
def dsts (o : Oper) : List Nat := o.dst.toList
def confB (ops : Array Oper) (x y : Oper × Fp) : Bool :=
  hit (dsts x.1) (y.1.looksAt ops) || hit (dsts x.1) (dsts y.1) || hit (dsts y.1) (x.1.looksAt ops) || hit x.2.2 y.2.2 || hit x.2.2 y.2.1 || hit y.2.2 x.2.1
def pairB (ops : Array Oper) : Nat → List (Oper × Fp) → Oper × Fp → Nat → Bool
  | _, [], _, _ => true
  | i, x :: l, y, m => (!confB ops x y || m.testBit i) && pairB ops (i + 1) l y m
def allB (ops : Array Oper) (pre : List (Oper × Fp)) : List (Oper × Fp) → List Nat → Bool
  | [], _ => true
  | y :: l, m :: ms => pairB ops 0 pre y m && allB ops (pre ++ [y]) l ms
  | _, _ => false
def lowB : Nat → List Oper → Bool
  | _, [] => true
  | i, o :: l => (bnd o).all (fun e => decide (e < i)) && lowB (i + 1) l
def fpB (l : List Oper) (fps : List Fp) : Bool := lowB 0 l && fps.length == l.length && allB l.toArray [] (l.zip fps) (masks l [])
end Go.Vc
end
section
namespace Go.Vc
open Go Go.RowKit
set_option linter.unusedVariables false
set_option linter.unusedSimpArgs false
set_option linter.unnecessarySimpa false
set_option linter.unusedSectionVars false
def gB (ops : List Oper) (rd : Nat → AV) (g : Nat) : Option (Option Bool) := match (ops[g]?).bind (·.dst) with
  | none => none
  | some d => match rd d with
    | .one (.v (.bool c)) => some (some c)
    | .tup [] => some none
    | _ => none
section
variable {P : Program} {w0 w : World} {ρ : Nat → Value} {n : Nat} {t t' : Tm} {H H' : Hp} {a : Act}
theorem gB_y {ops : List Oper} {g : Nat} {r : Option Bool} (hr : Rel w0 w ρ n t H a) (h : gB ops (gt t) g = some r) : yielded ops.toArray a.tmps g = r := by
  unfold gB at h
  split at h
  · cases h
  · rename_i d hd
    have ht := hr.tm d
    have hd' : (ops.toArray[g]?).bind (·.dst) = some d := by simpa using hd
    unfold yielded
    rw [hd', Option.bind_some]
    split at h
    · rename_i c hc
      rw [hc] at ht
      simp only [Option.some.injEq] at h
      subst h
      have hu : a.tmps.getD d undef = .bool c := ht.1
      rw [Array.getD_eq_getD_getElem?] at hu
      cases he : a.tmps[d]? with
      | none => rw [he] at hu; cases hu
      | some u => rw [he] at hu; simp only [Option.getD_some] at hu; subst hu; rfl
    · rename_i hc
      rw [hc] at ht
      simp only [Option.some.injEq] at h
      subst h
      obtain ⟨us, hu, hf⟩ := ht
      cases hf
      rw [Array.getD_eq_getD_getElem?] at hu
      cases he : a.tmps[d]? with
      | none => rfl
      | some u => rw [he] at hu; simp only [Option.getD_some] at hu; subst hu; rfl
    · cases h
end
def gOk (ops : List Oper) (rd : Nat → AV) (o : Oper) (b : Bool) : Prop := match o.guard with
  | none => b = true
  | some (g, want) => ∃ r, gB ops rd g = some r ∧ b = (r == some want)
theorem gOk_w {w0 w : World} {ρ : Nat → Value} {n : Nat} {t : Tm} {H : Hp} {a : Act} {ops : List Oper} {o : Oper} {b : Bool} (hr : Rel w0 w ρ n t H a) (h : gOk ops (gt t) o b) : Region.wanted o (yielded ops.toArray a.tmps) = b := by
  unfold gOk at h
  unfold Region.wanted
  split at h
  · rename_i hg; rw [hg]; exact h.symm
  · rename_i g want hg
    obtain ⟨r, h1, rfl⟩ := h
    rw [hg]
    simp only [gB_y hr h1]
theorem gOk_of {ops : List Oper} {o : Oper} {b : Bool} {r s : Nat → AV} (h : gOk ops r o b) (hl : ∀ d ∈ o.looksAt ops.toArray, s d = r d) : gOk ops s o b := by
  unfold gOk at *
  cases hg : o.guard with
  | none => rw [hg] at h; exact h
  | some x =>
    obtain ⟨g, want⟩ := x
    rw [hg] at h
    obtain ⟨q, h1, h2⟩ := h
    refine ⟨q, ?_, h2⟩
    unfold gB at *
    cases hd : (ops[g]?).bind (·.dst) with
    | none => rw [hd] at h1; cases h1
    | some d =>
      rw [hd] at h1
      have : s d = r d := hl d (by
        unfold Oper.looksAt
        rw [hg]
        refine List.mem_append_right _ ?_
        have : (ops.toArray[g]?).bind (·.dst) = some d := by simpa using hd
        simp only [this]
        simp)
      simp only [this]; exact h1
def EOk (P : Program) (n : Nat) (ops : List Oper) (o : Oper) (e : Ent) (t : Tm) (H : Hp) : Prop :=
  (∀ d, o.dst = some d → d < n) ∧ gOk ops (gt t) o e.on ∧ (e.on = true → Good P o (gt t) H e.v e.δ e.rs) ∧ (e.on = false → e.v = .tup [] ∧ e.δ = [] ∧ e.rs = [])
def Tra (P : Program) (n : Nat) (ops : List Oper) : List (Oper × Ent) → Tm → Hp → Prop
  | [], _, _ => True
  | x :: l, t, H => EOk P n ops x.1 x.2 t H ∧ Tra P n ops l (putT t x.1.dst x.2.v) (updH H x.2.δ)
def fpE (e : Ent) : Fp := (keys e.rs, keys e.δ)
def Vd (P : Program) [TyEnv P] (n : Nat) (ops : List Oper) (dr : Bool) (K : Tm → Hp → Prop) : List Oper → Tm → Hp → List Fp → Prop
  | [], t, H, fp => need (dr = true → fpB ops fp.reverse = true) (K t H)
  | o :: os, t, H, fp => need (∀ d, o.dst = some d → d < n) (match o.guard with
    | none => ∃ v δ rs, Good P o (gt t) H v δ rs ∧ Vd P n ops dr K os (putT t o.dst v) (updH H δ) ((keys rs, keys δ) :: fp)
    | some (g, want) => onO (gB ops (gt t) g) fun r => (r = some want → ∃ v δ rs, Good P o (gt t) H v δ rs ∧ Vd P n ops dr K os (putT t o.dst v) (updH H δ) ((keys rs, keys δ) :: fp)) ∧ (r ≠ some want → Vd P n ops dr K os (putT t o.dst (.tup [])) H (([], []) :: fp)))
def allS : Nat → Bool := fun _ => true
theorem runS_all (l : List (Oper × Ent)) : ∀ (k k' : Nat) (s : Tm × Hp), runS allS k l s = runS allS k' l s := by
  induction l with
  | nil => intros; rfl
  | cons x l ih => intro k k' s; simp only [runS, allS, if_true]; exact ih _ _ _
theorem vd_tra {P : Program} [TyEnv P] {n : Nat} {ops : List Oper} {dr : Bool} {K : Tm → Hp → Prop} : ∀ {os : List Oper} {t : Tm} {H : Hp} {fp : List Fp}, Vd P n ops dr K os t H fp →
    ∃ es : List Ent, es.length = os.length ∧ Tra P n ops (os.zip es) t H ∧ K (runS allS 0 (os.zip es) (t, H)).1 (runS allS 0 (os.zip es) (t, H)).2 ∧ (dr = true → fpB ops (fp.reverse ++ es.map fpE) = true)
  | [], t, H, fp, h => ⟨[], rfl, trivial, h.2, by simpa using h.1⟩
  | o :: os, t, H, fp, h => by
    obtain ⟨hd, h⟩ := h
    have key : ∃ e : Ent, EOk P n ops o e t H ∧ Vd P n ops dr K os (putT t o.dst e.v) (updH H e.δ) (fpE e :: fp) := by
      have stepc : ∀ (hg : gOk ops (gt t) o true), (∃ v δ rs, Good P o (gt t) H v δ rs ∧ Vd P n ops dr K os (putT t o.dst v) (updH H δ) ((keys rs, keys δ) :: fp)) → ∃ e : Ent, EOk P n ops o e t H ∧ Vd P n ops dr K os (putT t o.dst e.v) (updH H e.δ) (fpE e :: fp) := by
        intro hg ⟨v, δ, rs, h1, h2⟩
        exact ⟨⟨true, v, δ, rs⟩, ⟨hd, hg, fun _ => h1, fun h => (by cases h)⟩, h2⟩
      cases hg : o.guard with
      | none => rw [hg] at h; exact stepc (by unfold gOk; rw [hg]) h
      | some x =>
        obtain ⟨g, want⟩ := x
        rw [hg] at h
        obtain ⟨r, hr, h1, h2⟩ := h
        by_cases hw : r = some want
        · exact stepc (by unfold gOk; rw [hg]; exact ⟨r, hr, by rw [hw]; simp⟩) (h1 hw)
        · exact ⟨⟨false, .tup [], [], []⟩, ⟨hd, by unfold gOk; rw [hg]; exact ⟨r, hr, by simpa using hw⟩, fun h => (by cases h), fun _ => ⟨rfl, rfl, rfl⟩⟩, h2 hw⟩
    obtain ⟨e, he, hv⟩ := key
    obtain ⟨es, h1, h2, h3, h4⟩ := vd_tra hv
    refine ⟨e :: es, by simp [h1], ⟨he, h2⟩, ?_, fun hd => ?_⟩
    · simp only [List.zip_cons_cons, runS]
      rw [show allS 0 = true from rfl]
      simp only [if_true]
      rw [runS_all (os.zip es) (0 + 1) 0 (putT t o.dst e.v, updH H e.δ)]; exact h3
    · have := h4 hd
      simpa using this
theorem tra_at {P : Program} {n : Nat} {ops : List Oper} {x : Oper × Ent} (X : List (Oper × Ent)) : ∀ (t : Tm) (H : Hp) (k j : Nat), Tra P n ops X t H → X[j]? = some x → EOk P n ops x.1 x.2 (runS (upto (k + j)) k X (t, H)).1 (runS (upto (k + j)) k X (t, H)).2 := by
  induction X with
  | nil => intro t H k j _ hx; simp at hx
  | cons y X ih =>
    intro t H k j h hx
    cases j with
    | zero =>
      simp only [List.getElem?_cons_zero, Option.some.injEq] at hx
      subst hx
      rw [runS_none _ _ _ fun i hi => by simp [upto]; omega]
      exact h.1
    | succ j =>
      have ih := ih _ _ (k + 1) j h.2 (by simpa using hx)
      simp only [runS]
      rw [show upto (k + (j + 1)) k = true by simp [upto]]
      simp only [if_true]
      rw [show k + (j + 1) = k + 1 + j by omega]
      exact ih
theorem runS_congr {S S' : Nat → Bool} : ∀ {l : List (Oper × Ent)} {k : Nat} {s : Tm × Hp}, (∀ i, i < l.length → S (k + i) = S' (k + i)) → runS S k l s = runS S' k l s
  | [], _, _, _ => rfl
  | x :: l, k, s, h => by
    simp only [runS]
    rw [show S k = S' k from h 0 (by simp)]
    exact runS_congr fun i hi => by have := h (i + 1) (by simp; omega); rw [show k + 1 + i = k + (i + 1) by omega]; exact this
theorem pairB_spec {ops : Array Oper} {y : Oper × Fp} {m : Nat} (l : List (Oper × Fp)) : ∀ (i : Nat), pairB ops i l y m = true → ∀ (k : Nat) (x : Oper × Fp), l[k]? = some x → confB ops x y = true → m.testBit (i + k) = true := by
  induction l with
  | nil => intro i _ k x hx; simp at hx
  | cons x l ih =>
    intro i h k y' hx hc
    simp only [pairB, Bool.and_eq_true] at h
    cases k with
    | zero =>
      simp only [List.getElem?_cons_zero, Option.some.injEq] at hx
      subst hx
      rw [hc] at h
      simpa using h.1
    | succ k =>
      have := ih (i + 1) h.2 k y' (by simpa using hx) hc
      rw [show i + (k + 1) = i + 1 + k by omega]; exact this
theorem allB_spec {ops : Array Oper} (l : List (Oper × Fp)) : ∀ (pre : List (Oper × Fp)) (ms : List Nat), allB ops pre l ms = true → ∀ (j : Nat) (y : Oper × Fp), l[j]? = some y → ∃ m, ms[j]? = some m ∧ ∀ (i : Nat) (x : Oper × Fp), i < pre.length + j → (pre ++ l)[i]? = some x → confB ops x y = true → m.testBit i = true := by
  induction l with
  | nil => intro pre ms _ j y hy; simp at hy
  | cons y l ih =>
    intro pre ms h j y' hy
    cases ms with
    | nil => simp [allB] at h
    | cons m ms =>
      simp only [allB, Bool.and_eq_true] at h
      cases j with
      | zero =>
        simp only [List.getElem?_cons_zero, Option.some.injEq] at hy
        subst hy
        refine ⟨m, by simp, fun i x hi hx hc => ?_⟩
        rw [List.getElem?_append_left (by omega)] at hx
        have := pairB_spec _ 0 h.1 i x hx hc
        rwa [Nat.zero_add] at this
      | succ j =>
        obtain ⟨m', h1, h2⟩ := ih _ _ h.2 j y' (by simpa using hy)
        refine ⟨m', by simpa using h1, fun i x hi hx hc => h2 i x (by simp; omega) (by simpa using hx) hc⟩
theorem lowB_spec (l : List Oper) : ∀ (i : Nat), lowB i l = true → ∀ (k : Nat) (o : Oper), l[k]? = some o → ∀ e ∈ bnd o, e < i + k := by
  induction l with
  | nil => intro i _ k o ho; simp at ho
  | cons o l ih =>
    intro i h k o' ho e he
    simp only [lowB, Bool.and_eq_true, List.all_eq_true, decide_eq_true_eq] at h
    cases k with
    | zero =>
      simp only [List.getElem?_cons_zero, Option.some.injEq] at ho
      subst ho
      exact h.1 e he
    | succ k =>
      have := ih (i + 1) h.2 k o' (by simpa using ho) e he
      omega
def CF (l : List Oper) (X : List (Oper × Ent)) : Prop := ∀ i j x y, X[i]? = some x → X[j]? = some y → i < j → confB l.toArray (x.1, fpE x.2) (y.1, fpE y.2) = true → ∀ S, Clo l S → (∀ e ∈ bnd y.1, S e = true) → S i = true
theorem zip_get {α β : Type} {l : List α} {m : List β} {i : Nat} {x : α × β} : (l.zip m)[i]? = some x ↔ l[i]? = some x.1 ∧ m[i]? = some x.2 := by
  rw [List.getElem?_zip_eq_some]
theorem cf_of {l : List Oper} {es : List Ent} (hl : es.length = l.length) (h : fpB l (es.map fpE) = true) : CF l (l.zip es) ∧ ∀ k o, l[k]? = some o → ∀ e ∈ bnd o, e < k := by
  simp only [fpB, Bool.and_eq_true] at h
  obtain ⟨⟨h1, _⟩, h3⟩ := h
  refine ⟨fun i j x y hx hy hij hc S hS hb => ?_, fun k o ho e he => by have := lowB_spec _ 0 h1 k o ho e he; omega⟩
  obtain ⟨hx1, hx2⟩ := zip_get.1 hx
  obtain ⟨hy1, hy2⟩ := zip_get.1 hy
  obtain ⟨m, hm, hb2⟩ := allB_spec _ _ _ h3 j (y.1, fpE y.2) (zip_get.2 ⟨hy1, by rw [List.getElem?_map, hy2]; rfl⟩)
  have hbit := hb2 i (x.1, fpE x.2) (by simpa using hij) (by rw [List.nil_append]; exact zip_get.2 ⟨hx1, by rw [List.getElem?_map, hx2]; rfl⟩) hc
  exact masks_spec hS (l := l) (acc := []) (fun i o h => by simpa using h) (fun j m h => by simp at h) (fun j m h => by simp at h) j m hm y.1 hy1 hb i hbit
theorem hit_of {l m : List Nat} {x : Nat} (h : x ∈ l) (h' : x ∈ m) : hit l m = true := by
  unfold hit
  rw [List.any_eq_true]
  exact ⟨x, h, by simpa using h'⟩
section
variable {l : List Oper} {es : List Ent} {S : Nat → Bool} {j : Nat} {x : Oper × Ent} {s : Tm × Hp}
theorem wrT_dst {d : Nat} {x : Oper × Ent} (h : (wrT d x).isSome = true) : d ∈ dsts x.1 := by
  unfold wrT at h
  split at h
  · rename_i e; simp [dsts, e]
  · cases h
theorem wrH_key {k : Nat} {x : Oper × Ent} (h : (wrH k x).isSome = true) : k ∈ keys x.2.δ := by
  unfold wrH at h
  split at h
  · assumption
  · cases h
theorem order_of (hcf : CF l (l.zip es)) (hc : Clo l S) (hj : S j = false) (hx : (l.zip es)[j]? = some x) (hb : ∀ e ∈ bnd x.1, S e = true) {i : Nat} {y : Oper × Ent} (hy : (l.zip es)[i]? = some y)
    (h1 : i < j → confB l.toArray (y.1, fpE y.2) (x.1, fpE x.2) = true) (h2 : j < i → confB l.toArray (x.1, fpE x.2) (y.1, fpE y.2) = true) : S i = upto j i := by
  rcases Nat.lt_trichotomy i j with h | h | h
  · rw [hcf i j y x hy hx h (h1 h) S hc hb]; simp [upto, h]
  · subst h; rw [hj]; simp [upto]
  · have e : upto j i = false := by simp [upto]; omega
    rw [e]
    cases hs : S i with
    | false => rfl
    | true =>
      have := hcf j i x y hx hy h (h2 h) S hc (hc i y.1 (zip_get.1 hy).1 hs)
      rw [hj] at this; cases this
theorem looks_same (hcf : CF l (l.zip es)) (hc : Clo l S) (hj : S j = false) (hx : (l.zip es)[j]? = some x) (hb : ∀ e ∈ bnd x.1, S e = true) : ∀ d ∈ x.1.looksAt l.toArray, gt (runS S 0 (l.zip es) s).1 d = gt (runS (upto j) 0 (l.zip es) s).1 d := by
  intro d hd
  rw [gt_runS, gt_runS]
  refine wG_agree fun i y hy hs => ?_
  rw [Nat.zero_add]
  have hm := wrT_dst hs
  refine order_of hcf hc hj hx hb hy (fun _ => ?_) (fun _ => ?_)
  · simp only [confB, hit_of hm hd, Bool.true_or]
  · simp only [confB, hit_of hm hd, Bool.true_or, Bool.or_true]
theorem blocks_same (hcf : CF l (l.zip es)) (hc : Clo l S) (hj : S j = false) (hx : (l.zip es)[j]? = some x) (hb : ∀ e ∈ bnd x.1, S e = true) : ∀ k, k ∈ keys x.2.rs ∨ k ∈ keys x.2.δ → lk (runS S 0 (l.zip es) s).2 k = lk (runS (upto j) 0 (l.zip es) s).2 k := by
  intro d hd
  rw [lk_runS, lk_runS]
  refine wG_agree fun i y hy hs => ?_
  rw [Nat.zero_add]
  have hm := wrH_key hs
  refine order_of hcf hc hj hx hb hy (fun _ => ?_) (fun _ => ?_)
  · rcases hd with hd | hd
    · simp only [confB, fpE, hit_of hm hd, Bool.true_or, Bool.or_true]
    · simp only [confB, fpE, hit_of hm hd, Bool.true_or, Bool.or_true]
  · rcases hd with hd | hd
    · simp only [confB, fpE, hit_of hm hd, Bool.true_or, Bool.or_true]
    · simp only [confB, fpE, hit_of hd hm, Bool.true_or, Bool.or_true]
def addS (S : Nat → Bool) (j : Nat) : Nat → Bool := fun i => S i || i == j
theorem putS_same (hcf : CF l (l.zip es)) (hc : Clo l S) (hj : S j = false) (hx : (l.zip es)[j]? = some x) (hb : ∀ e ∈ bnd x.1, S e = true) (d : Nat) : gt (runS (addS S j) 0 (l.zip es) s).1 d = gt (putT (runS S 0 (l.zip es) s).1 x.1.dst x.2.v) d := by
  rw [gt_putT, gt_runS, gt_runS]
  by_cases hd : x.1.dst = some d
  · rw [if_pos hd]
    refine wG_last hx (by unfold wrT; rw [if_pos hd]) (by simp [addS]) fun i y hi hy hs => ?_
    have := order_of hcf hc hj hx hb hy (fun h => by omega) (fun _ => by
      simp only [confB, hit_of (show d ∈ dsts x.1 by simp [dsts, hd]) (wrT_dst hs), Bool.true_or, Bool.or_true])
    rw [Nat.zero_add]
    unfold addS
    rw [this]
    simp [upto]; omega
  · rw [if_neg hd]
    refine wG_agree fun i y hy hs => ?_
    rw [Nat.zero_add]
    unfold addS
    by_cases e : i = j
    · subst e
      rw [hx] at hy; cases hy
      unfold wrT at hs; rw [if_neg hd] at hs; cases hs
    · simp [e]
theorem updS_same (hcf : CF l (l.zip es)) (hc : Clo l S) (hj : S j = false) (hx : (l.zip es)[j]? = some x) (hb : ∀ e ∈ bnd x.1, S e = true) (k : Nat) : lk (runS (addS S j) 0 (l.zip es) s).2 k = lk (updH (runS S 0 (l.zip es) s).2 x.2.δ) k := by
  rw [lk_updH, lk_runS, lk_runS]
  by_cases hd : k ∈ keys x.2.δ
  · rw [if_pos hd]
    refine wG_last hx (by unfold wrH; rw [if_pos hd]) (by simp [addS]) fun i y hi hy hs => ?_
    have := order_of hcf hc hj hx hb hy (fun h => by omega) (fun _ => by
      simp only [confB, fpE, hit_of hd (wrH_key hs), Bool.true_or, Bool.or_true])
    rw [Nat.zero_add]
    unfold addS
    rw [this]
    simp [upto]; omega
  · rw [if_neg hd]
    refine wG_agree fun i y hy hs => ?_
    rw [Nat.zero_add]
    unfold addS
    by_cases e : i = j
    · subst e
      rw [hx] at hy; cases hy
      unfold wrH at hs; rw [if_neg hd] at hs; cases hs
    · simp [e]
end
theorem keys_mem {H : Hp} {k : Nat} {b : Blk} (h : (k, b) ∈ H) : k ∈ keys H := List.mem_map_of_mem h
theorem count_set : ∀ {l : List Bool} {j : Nat}, l[j]? = some false → (l.set j true).count false < l.count false
  | b :: l, 0, h => by simp only [List.getElem?_cons_zero, Option.some.injEq] at h; subst h; simp
  | b :: l, j + 1, h => by
    have := count_set (l := l) (j := j) (by simpa using h)
    simp only [List.set_cons_succ, List.count_cons]
    omega
theorem count_pos : ∀ {l : List Bool} {j : Nat}, l[j]? = some false → 0 < l.count false
  | l, j, h => List.count_pos_iff.2 (List.mem_of_getElem? h)
section
variable {P : Program} {w0 : World} {n : Nat} {l : List Oper} {es : List Ent} {t : Tm} {H : Hp} {Q : Exit → Act → World → Prop}
theorem op_ok (hl : es.length = l.length) (hT : Tra P n l (l.zip es) t H) (hcf : CF l (l.zip es)) {S : Nat → Bool} (hc : Clo l S) {j : Nat} {x : Oper × Ent} (hj : S j = false) (hx : (l.zip es)[j]? = some x) (hb : ∀ e ∈ bnd x.1, S e = true) (hnd : (H.map (·.1)).Nodup)
    {w : World} {ρ : Nat → Value} {a : Act} (hr : Rel w0 w ρ n (runS S 0 (l.zip es) (t, H)).1 (runS S 0 (l.zip es) (t, H)).2 a) {K : Act → World → Prop}
    (hK : ∀ a' w' ρ', Rel w0 w' ρ' n (runS (addS S j) 0 (l.zip es) (t, H)).1 (runS (addS S j) 0 (l.zip es) (t, H)).2 a' → K a' w') :
    if Region.wanted x.1 (yielded l.toArray a.tmps) then x.1.wp P a w K Q else K (a.put x.1.dst undef) w := by
  obtain ⟨hn, hg, h1, h2⟩ := tra_at _ _ _ 0 j hT hx
  rw [Nat.zero_add] at hg h1
  have hlook := looks_same (s := (t, H)) hcf hc hj hx hb
  have hblk := blocks_same (s := (t, H)) hcf hc hj hx hb
  have hg' := gOk_w hr (gOk_of hg hlook)
  have hnd' : ((runS (addS S j) 0 (l.zip es) (t, H)).2.map (·.1)).Nodup := nd_runS _ _ _ hnd
  have fin : ∀ a' w' ρ', Rel w0 w' ρ' n (putT (runS S 0 (l.zip es) (t, H)).1 x.1.dst x.2.v) (updH (runS S 0 (l.zip es) (t, H)).2 x.2.δ) a' → K a' w' := fun a' w' ρ' h =>
    hK a' w' ρ' (h.same (putS_same hcf hc hj hx hb) (updS_same hcf hc hj hx hb) hnd')
  rw [hg']
  cases ho : x.2.on with
  | true =>
    simp only [if_true]
    obtain ⟨g1, g2, g3⟩ := h1 ho
    have := g1 w0 w ρ n _ _ a Q hr (fun k hk => hlook k (by unfold Oper.looksAt; exact List.mem_append_left _ hk)) (fun k b hk => by rw [hblk k (.inl (keys_mem hk))]; exact g2 k b hk) (fun k b hk => by rw [hblk k (.inr (keys_mem hk))]; exact g3 k b hk) hn
    exact Oper.wp_mono (fun a' w' ⟨ρ', h⟩ => fin a' w' ρ' h) this
  | false =>
    simp only [Bool.false_eq_true, if_false]
    obtain ⟨e1, e2, e3⟩ := h2 ho
    refine fin _ w ρ ?_
    rw [e1, e2]
    exact hr.put (v := .tup []) (u := undef) ⟨[], rfl, .nil⟩ hn
theorem any_ok (hl : es.length = l.length) (hT : Tra P n l (l.zip es) t H) (hcf : CF l (l.zip es)) (hlow : ∀ k o, l[k]? = some o → ∀ e ∈ bnd o, e < k) (hnd : (H.map (·.1)).Nodup)
    (hQ : ∀ a w ρ, Rel w0 w ρ n (runS allS 0 (l.zip es) (t, H)).1 (runS allS 0 (l.zip es) (t, H)).2 a → Q .normal a w) :
    ∀ (fuel : Nat) (listed : Array Bool) (a : Act) (w : World) (ρ : Nat → Value), listed.size = l.length → Clo l (fun i => listed.getD i false) → listed.toList.count false ≤ fuel →
      Rel w0 w ρ n (runS (fun i => listed.getD i false) 0 (l.zip es) (t, H)).1 (runS (fun i => listed.getD i false) 0 (l.zip es) (t, H)).2 a → wpAny P .any l.toArray Q fuel listed a w := by
  have least : ∀ (listed : Array Bool), listed.size = l.length → Region.ready .any l.toArray listed = [] → ∀ i, i < l.length → listed.getD i false = true := by
    intro listed hs hr i
    induction i using Nat.strongRecOn with
    | ind i ih =>
      intro hi
      have ho : l[i]? = some l[i] := List.getElem?_eq_getElem hi
      rw [Region.ready, List.filter_eq_nil_iff] at hr
      have := hr i (by simpa using hi)
      simp only [Bool.and_eq_true, Bool.not_eq_true', not_and] at this
      cases hb : listed.getD i true with
      | true =>
        rw [Array.getD_eq_getD_getElem?, Array.getElem?_eq_getElem (by omega)] at hb ⊢
        exact hb
      | false =>
        exfalso
        refine this hb ?_
        have e : l.toArray[i]? = some l[i] := by simpa using ho
        rw [e]
        simp only [Option.map_some, Option.getD_some]
        rw [Array.all_eq_true_iff_forall_mem]
        intro ed hed
        cases hbn : Region.binds .any ed with
        | false => rfl
        | true =>
          have hm : ed.on ∈ bnd l[i] := by
            unfold bnd
            refine List.mem_filterMap.2 ⟨ed, by simpa using hed, ?_⟩
            rw [hbn]; rfl
          have hlt := hlow i _ ho _ hm
          simp only [Bool.not_true, Bool.false_or]
          exact ih _ hlt (by omega)
  have done : ∀ (listed : Array Bool) (a : Act) (w : World) (ρ : Nat → Value), listed.size = l.length → Rel w0 w ρ n (runS (fun i => listed.getD i false) 0 (l.zip es) (t, H)).1 (runS (fun i => listed.getD i false) 0 (l.zip es) (t, H)).2 a → Region.ready .any l.toArray listed = [] → Q .normal a w := by
    intro listed a w ρ hs hr hy
    refine hQ a w ρ ?_
    rw [runS_congr (S := allS) (S' := fun i => listed.getD i false) fun i hi => ?_]
    · exact hr
    · rw [Nat.zero_add]
      have : i < l.length := by rw [List.length_zip] at hi; omega
      exact (least listed hs hy i this).symm
  intro fuel
  induction fuel with
  | zero =>
    intro listed a w ρ hs hc hn hr
    have hall : Region.ready .any l.toArray listed = [] := by
      rw [Region.ready, List.filter_eq_nil_iff]
      intro i hi
      have hi' : i < listed.size := by rw [hs]; simpa using hi
      cases hb : listed.getD i true with
      | true => simp
      | false =>
        have := count_pos (l := listed.toList) (j := i) (by
          rw [Array.getD_eq_getD_getElem?, Array.getElem?_eq_getElem hi'] at hb
          rw [Array.getElem?_toList, Array.getElem?_eq_getElem hi']
          simpa using hb)
        omega
    exact ⟨hall, done listed a w ρ hs hr hall⟩
  | succ fuel ih =>
    intro listed a w ρ hs hc hn hr
    refine ⟨done listed a w ρ hs hr, fun j hj => ?_⟩
    rw [Region.ready, List.mem_filter] at hj
    obtain ⟨hj1, hj2⟩ := hj
    have hjl : j < l.length := by simpa using hj1
    simp only [Bool.and_eq_true, Bool.not_eq_true'] at hj2
    obtain ⟨hj2, hj3⟩ := hj2
    have hjs : j < listed.size := by omega
    have hjf : listed[j]? = some false := by
      rw [Array.getD_eq_getD_getElem?, Array.getElem?_eq_getElem hjs] at hj2
      rw [Array.getElem?_eq_getElem hjs]
      simpa using hj2
    have ho : l[j]? = some l[j] := List.getElem?_eq_getElem hjl
    have he : es[j]? = some es[j] := List.getElem?_eq_getElem (by omega)
    have hx : (l.zip es)[j]? = some (l[j], es[j]) := zip_get.2 ⟨ho, he⟩
    have hb : ∀ e ∈ bnd l[j], listed.getD e false = true := by
      intro e hm
      unfold bnd at hm
      obtain ⟨ed, hed, hq⟩ := List.mem_filterMap.1 hm
      split at hq
      · rename_i hbn
        simp only [Option.some.injEq] at hq
        subst hq
        have e1 : l.toArray[j]? = some l[j] := by simpa using ho
        rw [e1] at hj3
        simp only [Option.map_some, Option.getD_some] at hj3
        rw [Array.all_eq_true_iff_forall_mem] at hj3
        have := hj3 ed (by simpa using hed)
        rw [hbn] at this
        simpa using this
      · cases hq
    have hS : (fun i => (listed.setIfInBounds j true).getD i false) = addS (fun i => listed.getD i false) j := by
      funext i
      simp only [addS, Array.getD_eq_getD_getElem?, Array.getElem?_setIfInBounds]
      by_cases e : j = i
      · subst e; simp [hjs]
      · have e' : ¬ i = j := fun h => e h.symm
        simp [e, e']
    unfold wpOp
    have e1 : l.toArray[j]? = some l[j] := by simpa using ho
    simp only [e1]
    have := op_ok (Q := Q) (K := wpAny P .any l.toArray Q fuel (listed.setIfInBounds j true)) hl hT hcf hc (j := j) (x := (l[j], es[j])) (by
      simp only [Array.getD_eq_getD_getElem?, hjf, Option.getD_some]) hx hb hnd hr (fun a' w' ρ' h => by
        refine ih _ a' w' ρ' (by simpa using hs) ?_ ?_ ?_
        · rw [hS]
          intro i o hi hsi e hm
          simp only [addS, Bool.or_eq_true] at hsi ⊢
          rcases hsi with hsi | hsi
          · exact .inl (hc i o hi hsi e hm)
          · have : i = j := by simpa using hsi
            subst this
            rw [ho] at hi; cases hi
            exact .inl (hb e hm)
        · have := count_set (l := listed.toList) (j := j) (by simpa using hjf)
          rw [Array.toList_setIfInBounds]
          omega
        · rw [hS]; exact h)
    split
    · rename_i hw; simp only [hw, if_true] at this; exact .inl this
    · rename_i hw; simp only [hw] at this; exact this
theorem list_ok {ops : List Oper} : ∀ {X : List (Oper × Ent)} {t : Tm} {H : Hp} {a : Act} {w : World} {ρ : Nat → Value}, Tra P n ops X t H → Rel w0 w ρ n t H a →
    (∀ a w ρ, Rel w0 w ρ n (runS allS 0 X (t, H)).1 (runS allS 0 X (t, H)).2 a → Q .normal a w) → wpList P ops.toArray Q (X.map (·.1)) a w
  | [], t, H, a, w, ρ, _, hr, hQ => hQ a w ρ hr
  | x :: X, t, H, a, w, ρ, hT, hr, hQ => by
    obtain ⟨⟨hn, hg, h1, h2⟩, hT⟩ := hT
    have hg' := gOk_w hr hg
    have hQ' : ∀ a w ρ, Rel w0 w ρ n (runS allS 0 X (putT t x.1.dst x.2.v, updH H x.2.δ)).1 (runS allS 0 X (putT t x.1.dst x.2.v, updH H x.2.δ)).2 a → Q .normal a w := by
      intro a w ρ h
      refine hQ a w ρ ?_
      simp only [runS]
      rw [show allS 0 = true from rfl]
      simp only [if_true]
      rw [runS_all X (0 + 1) 0]
      exact h
    simp only [List.map_cons, wpList]
    rw [hg']
    cases ho : x.2.on with
    | true =>
      simp only [if_true]
      obtain ⟨g1, g2, g3⟩ := h1 ho
      exact .inl (Oper.wp_mono (fun a' w' ⟨ρ', h⟩ => list_ok hT h hQ') (g1 w0 w ρ n _ _ a Q hr (fun k hk => rfl) g2 g3 hn))
    | false =>
      simp only [Bool.false_eq_true, if_false]
      obtain ⟨e1, e2, e3⟩ := h2 ho
      refine list_ok (ρ := ρ) hT ?_ hQ'
      rw [e1, e2]
      exact hr.put (v := .tup []) (u := undef) ⟨[], rfl, .nil⟩ hn
end
theorem Rel.drew {w0 w : World} {ρ : Nat → Value} {n : Nat} {t : Tm} {H : Hp} {a : Act} (h : Rel w0 w ρ n t H a) : Rel w0 { w with drawn := w.drawn + 1 } ρ n t H a := h.world (Ex.drew (Ex.refl w))
theorem region_ok {P : Program} [TyEnv P] {n : Nat} {l : List Oper} {dr : Bool} {K : Tm → Hp → Prop} {t : Tm} {H : Hp} (h : Vd P n l dr K l t H []) {w0 w : World} {ρ : Nat → Value} {a : Act} (hr : Rel w0 w ρ n t H a) {Q : Exit → Act → World → Prop}
    (hQ : ∀ a w ρ t' H', Rel w0 w ρ n t' H' a → K t' H' → Q .normal a w) (id : Nat) : (Code.region id l.toArray dr).wp P Q a w := by
  obtain ⟨es, h1, h2, h3, h4⟩ := vd_tra h
  cases dr with
  | false =>
    refine wp_region_lit ?_
    have := list_ok (Q := Q) h2 hr fun a w ρ h => hQ a w ρ _ _ h h3
    rwa [List.map_fst_zip (by omega)] at this
  | true =>
    have h4 := h4 rfl
    simp only [List.reverse_nil, List.nil_append] at h4
    obtain ⟨hcf, hlow⟩ := cf_of h1 h4
    refine wp_region_any TyEnv.mix ?_
    have e0 : (fun i => (Array.replicate l.toArray.size false).getD i false) = fun _ => false := by
      funext i
      rw [Array.getD_eq_getD_getElem?, Array.getElem?_replicate]
      split <;> rfl
    refine any_ok h1 h2 hcf hlow hr.nd (fun a w ρ h => hQ a w ρ _ _ h h3) _ _ _ _ ρ (by simp) ?_ (by simp) ?_
    · rw [e0]; intro i o hi hs; cases hs
    · rw [e0, runS_none _ _ _ fun i _ => rfl]
      exact hr.drew
end Go.Vc
end
section
namespace Go.Vc
open Go Go.RowKit
set_option linter.unusedVariables false
set_option linter.unusedSimpArgs false
set_option linter.unnecessarySimpa false
set_option linter.unusedSectionVars false
abbrev Ren := List (Nat × Option Nat)
def rk : Ren → Nat → Option Nat
  | [], k => some k
  | (j, x) :: l, k => if j = k then x else rk l k
def hasK : Hp → Nat → Bool
  | [], _ => false
  | (j, _) :: l, k => if j = k then true else hasK l k
def mapr (r : Ren) (ρ : Nat → Value) : Nat → Value := fun k => match rk r k with
  | some j => ρ j
  | none => .slice none 0 0
def PW (r : Ren) (G : Hp) : PV → PV → Prop
  | .junk, _ => True
  | .v x, .v y => x = y
  | .nil, .nil => True
  | .sl sz es, .sl sz' es' => sz = sz' ∧ es = es'
  | .sl sz es, .nil => es = []
  | .hs k, .hs j => rk r k = some j ∧ hasK G k = true
  | .hs k, .nil => rk r k = none ∧ hasK G k = true
  | .rp k o, .rp j o' => rk r k = some j ∧ hasK G k = true ∧ o = o'
  | .ptr k i sz o, .ptr j i' sz' o' => rk r k = some j ∧ hasK G k = true ∧ i = i' ∧ sz = sz' ∧ o = o'
  | .ep sz es i o, .ep sz' es' i' o' => sz = sz' ∧ es = es' ∧ i = i' ∧ o = o'
  | .hv k i, .hv j i' => rk r k = some j ∧ hasK G k = true ∧ i = i'
  | .hc k l z, .hc j l' z' => rk r k = some j ∧ hasK G k = true ∧ l = l' ∧ z = z'
  | .rd Q, .rd Q' => Q = Q'
  | _, _ => False
def PWL (r : Ren) (G : Hp) : List PV → List PV → Prop
  | [], [] => True
  | p :: ps, q :: qs => PW r G p q ∧ PWL r G ps qs
  | _, _ => False
def AW1 (r : Ren) (G : Hp) : AV → AV → Prop
  | .junk, _ => True
  | .one p, .one q => PW r G p q
  | .agg ps, .agg qs => PWL r G ps qs
  | _, _ => False
def AWL (r : Ren) (G : Hp) : List AV → List AV → Prop
  | [], [] => True
  | p :: ps, q :: qs => AW1 r G p q ∧ AWL r G ps qs
  | _, _ => False
def AW (r : Ren) (G : Hp) : AV → AV → Prop
  | .tup ps, .tup qs => AWL r G ps qs
  | .tup _, _ => False
  | p, q => AW1 r G p q
def TW (r : Ren) (G : Hp) (t : Tm) : Tm → Prop
  | [] => True
  | (k, v) :: l => AW r G v (gt t k) ∧ TW r G t l
def BW (r : Ren) (G : Hp) (H : Hp) (k : Nat) : Blk → Prop
  | .row T cs => match rk r k with
    | some j => match lk H j with
      | some (.row T' cs') => T = T' ∧ PWL r G cs cs'
      | _ => False
    | none => False
  | .arr E sz es => match rk r k with
    | some j => match lk H j with
      | some (.arr E' sz' es') => E = E' ∧ sz = sz' ∧ es = es'
      | _ => False
    | none => es = []
  | .byt s => match rk r k with
    | some j => match lk H j with
      | some (.byt s') => s = s'
      | _ => False
    | none => False
  | .own X => match rk r k with
    | some j => match lk H j with
      | some (.own X') => X = X'
      | some (.arr E sz es) => ∀ (v : Value) (w : World) (F : Nat → Prop), (slotA E sz v es.length es.flatten).P w F → (X.A v).P w F
      | _ => False
    | none => ∀ w : World, (X.A (.slice none 0 0)).P w (fun _ => False)
  | .dead => False
def HW (r : Ren) (G : Hp) (H : Hp) : Hp → Prop
  | [] => True
  | (k, b) :: l => BW r G H k b ∧ HW r G H l
def Sub (t : Tm) (H : Hp) (t' : Tm) (H' : Hp) : Prop := ∃ r : Ren, TW r H' t t' ∧ HW r H' H H' ∧ ((keys H').filterMap (rk r)).Nodup ∧ (keys H').Nodup
theorem hasK_dom : ∀ {H : Hp} {k : Nat}, hasK H k = true → dom H k
  | (j, b) :: l, k, h => by
    unfold dom
    simp only [hasK] at h
    simp only [lk]
    split at h
    · rename_i e; rw [if_pos e]; rfl
    · rename_i e; rw [if_neg e]; exact hasK_dom h
section
variable {P : Program} {w0 w : World} {ρ : Nat → Value} {n : Nat} {t t' : Tm} {H H' : Hp} {a : Act} {r : Ren} {D : Nat → Prop}
theorem PW.ok {p q : PV} {u : Value} (h : PW r H' p q) (hu : R w0 D ρ q u) : R w0 (dom H') (mapr r ρ) p u := by
  cases p with
  | junk => exact hu.one
  | v x => cases q <;> simp only [PW] at h; subst h; exact hu
  | nil => cases q <;> simp only [PW] at h; exact hu
  | sl sz es =>
    cases q <;> simp only [PW] at h
    · subst h
      have hu : u = .slice none 0 0 := hu
      subst hu
      exact ⟨none, 0, rfl, Nat.le_refl _, Nat.zero_le _, fun e he => (by cases he), fun hne => (hne rfl).elim⟩
    · obtain ⟨rfl, rfl⟩ := h; exact hu
  | hs k =>
    cases q <;> simp only [PW] at h
    · obtain ⟨h1, h2⟩ := h
      have hu : u = .slice none 0 0 := hu
      subst hu
      exact ⟨hasK_dom h2, by unfold mapr; rw [h1], rfl⟩
    · obtain ⟨h1, h2⟩ := h
      obtain ⟨_, hu, ho⟩ := hu
      exact ⟨hasK_dom h2, by unfold mapr; rw [h1]; exact hu, ho⟩
  | rp k o =>
    cases q <;> simp only [PW] at h
    obtain ⟨h1, h2, rfl⟩ := h
    obtain ⟨_, b, g1, g2⟩ := hu
    exact ⟨hasK_dom h2, b, by unfold mapr; rw [h1]; exact g1, g2⟩
  | ptr k i sz o =>
    cases q <;> simp only [PW] at h
    obtain ⟨h1, h2, rfl, rfl, rfl⟩ := h
    obtain ⟨_, b, off, g1, g2⟩ := hu
    exact ⟨hasK_dom h2, b, off, by unfold mapr; rw [h1]; exact g1, g2⟩
  | ep sz es i o =>
    cases q <;> simp only [PW] at h
    obtain ⟨rfl, rfl, rfl, rfl⟩ := h
    exact hu
  | hv k i =>
    cases q <;> simp only [PW] at h
    obtain ⟨h1, h2, rfl⟩ := h
    obtain ⟨_, b, n, C, g1, g2⟩ := hu
    exact ⟨hasK_dom h2, b, n, C, by unfold mapr; rw [h1]; exact g1, g2⟩
  | hc k l z =>
    cases q <;> simp only [PW] at h
    obtain ⟨h1, h2, rfl, rfl⟩ := h
    obtain ⟨_, a, n, C, g1, g2⟩ := hu
    exact ⟨hasK_dom h2, a, n, C, by unfold mapr; rw [h1]; exact g1, g2⟩
  | rd Q =>
    cases q <;> simp only [PW] at h
    subst h
    exact hu
theorem PWL.ok : ∀ {ps qs : List PV} {us : List Value}, PWL r H' ps qs → F2 (R w0 D ρ) qs us → F2 (R w0 (dom H') (mapr r ρ)) ps us
  | [], [], _, _, .nil => .nil
  | p :: ps, q :: qs, _, h, .cons hu hr => .cons (PW.ok h.1 hu) (PWL.ok h.2 hr)
theorem AW1.ok {p q : AV} {u : Value} (h : AW1 r H' p q) (hu : AR1 w0 D ρ q u) : AR1 w0 (dom H') (mapr r ρ) p u := by
  cases p with
  | junk => trivial
  | one p => cases q <;> simp only [AW1] at h; exact PW.ok h hu
  | agg ps =>
    cases q <;> simp only [AW1] at h
    obtain ⟨us, h1, h2⟩ := hu
    exact ⟨us, h1, PWL.ok h h2⟩
  | tup vs => cases q <;> simp only [AW1] at h
theorem AWL.ok : ∀ {ps qs : List AV} {us : List Value}, AWL r H' ps qs → F2 (AR1 w0 D ρ) qs us → F2 (AR1 w0 (dom H') (mapr r ρ)) ps us
  | [], [], _, _, .nil => .nil
  | p :: ps, q :: qs, _, h, .cons hu hr => .cons (AW1.ok h.1 hu) (AWL.ok h.2 hr)
theorem AW.ok {p q : AV} {u : Value} (h : AW r H' p q) (hu : AR w0 D ρ q u) : AR w0 (dom H') (mapr r ρ) p u := by
  cases p with
  | tup ps =>
    cases q <;> simp only [AW] at h
    obtain ⟨us, h1, h2⟩ := hu
    exact ⟨us, h1, AWL.ok h h2⟩
  | junk => trivial
  | one p =>
    cases q <;> simp only [AW, AW1] at h
    exact PW.ok h hu
  | agg ps =>
    cases q <;> simp only [AW, AW1] at h
    obtain ⟨us, h1, h2⟩ := hu
    exact ⟨us, h1, PWL.ok h h2⟩
theorem TW.ok {t t' : Tm} (h : TW r H' t t') (k : Nat) : gt t' k = .junk ∨ AW r H' (gt t' k) (gt t k) := by
  induction t' with
  | nil => exact .inl rfl
  | cons x l ih =>
    obtain ⟨d, v⟩ := x
    obtain ⟨h1, h2⟩ := h
    simp only [gt]
    split
    · rename_i e; subst e; exact .inr h1
    · exact ih h2
def nilS (E : TypeId) (sz : Nat) : Asn := slotA E sz (.slice none 0 0) 0 []
theorem St.nilA {Js : List Asn} {E : TypeId} {sz : Nat} (h : St w0 w Js) : St w0 w (nilS E sz :: Js) :=
  h.add (Ex.refl w) (A := nilS E sz) (F := fun _ => False) ⟨⟨by simp, .inl ⟨rfl, rfl⟩⟩, fun b => by simp [Value.blk]⟩ fun _ h => h.elim
theorem HW.pick {D : Nat → Prop} (K : Hp) : ∀ (G Hc : Hp) (As : List Asn), F2 (BR w0 D ρ) Hc As → (Hc.map (·.1)).Nodup → ((keys G).filterMap (rk r)).Nodup → (∀ k b, (k, b) ∈ G → ∀ j, rk r k = some j → lk Hc j = lk H j) → HW r K H G → (∀ k b, (k, b) ∈ G → dom K k) → H' = K →
    ∃ Bs, F2 (BR w0 (dom K) (mapr r ρ)) G Bs ∧ ∀ Z, St w0 w (As ++ Z) → St w0 w (Bs ++ Z)
  | [], Hc, As, hF, _, _, _, _, _, _ => ⟨[], .nil, fun Z h => h.arr (by
      have := arr_perm (m := As ++ Z) (.refl _)
      have key : ∀ (l m : List Asn), Arr (l ++ m) m := by
        intro l m
        have hp := arr_perm (l := l ++ m) (m := m ++ l) List.perm_append_comm
        have : ∀ (m l' l : List Asn), Arr l (m ++ l') → Arr l m := by
          intro m
          induction m with
          | nil => intro l' l _; exact .nil
          | cons x m ih =>
            intro l' l h
            cases h with
            | cons t h => exact .cons t (ih l' _ h)
        exact this m l _ hp
      exact key As Z)⟩
  | (k, b) :: G, Hc, As, hF, hn, hi, hl, hw, hd, hK => by
    obtain ⟨hb, hw⟩ := hw
    have hd' : ∀ k b, (k, b) ∈ G → dom K k := fun k b h => hd k b (List.mem_cons_of_mem _ h)
    cases hr : rk r k with
    | none =>
      have hi' : ((keys G).filterMap (rk r)).Nodup := by
        simpa only [keys, List.map_cons, List.filterMap_cons, hr] using hi
      obtain ⟨Bs, g1, g2⟩ := HW.pick K G Hc As hF hn hi' (fun k b h => hl k b (List.mem_cons_of_mem _ h)) hw hd' hK
      cases b with
      | row T cs => simp only [BW, hr] at hb
      | byt s => simp only [BW, hr] at hb
      | dead => simp only [BW] at hb
      | own X =>
        simp only [BW, hr] at hb
        refine ⟨X.A (.slice none 0 0) :: Bs, .cons (by show _ = _; unfold mapr; rw [hr]) g1, fun Z h => ?_⟩
        have h9 := g2 Z h
        exact h9.add (Ex.refl w) (A := X.A (.slice none 0 0)) (F := fun _ => False) (hb w) fun _ h => h.elim
      | arr E sz es =>
        simp only [BW, hr] at hb
        subst hb
        refine ⟨nilS E sz :: Bs, .cons ⟨fun e he => (by cases he), ?_⟩ g1, fun Z h => St.nilA (g2 Z h)⟩
        unfold mapr
        rw [hr]; rfl
    | some j =>
      have hi' : j ∉ (keys G).filterMap (rk r) ∧ ((keys G).filterMap (rk r)).Nodup := by
        simpa only [keys, List.map_cons, List.filterMap_cons, hr, List.nodup_cons] using hi
      have hlj := hl k b (List.mem_cons_self ..) j hr
      have hex : ∃ b0, lk H j = some b0 := by
        cases b with
        | dead => simp only [BW] at hb
        | own X =>
          simp only [BW, hr] at hb
          split at hb
          · exact ⟨_, by assumption⟩
          · exact ⟨_, by assumption⟩
          · exact hb.elim
        | row T cs =>
          simp only [BW, hr] at hb
          split at hb
          · exact ⟨_, by assumption⟩
          · exact hb.elim
        | arr E sz es =>
          simp only [BW, hr] at hb
          split at hb
          · exact ⟨_, by assumption⟩
          · exact hb.elim
        | byt s =>
          simp only [BW, hr] at hb
          split at hb
          · exact ⟨_, by assumption⟩
          · exact hb.elim
      obtain ⟨b0, hb0⟩ := hex
      rw [hb0] at hlj
      obtain ⟨l, m, e, _⟩ := upd1_split b0 hlj
      rw [e] at hF
      obtain ⟨m1, A, m2, rfl, f1, f2, f3⟩ := hF.split
      have hn' : ((l ++ m).map (·.1)).Nodup ∧ j ∉ (l ++ m).map (·.1) := by
        rw [e] at hn
        simp only [List.map_append, List.map_cons, List.nodup_append, List.nodup_cons, List.mem_cons, List.mem_append] at hn ⊢
        obtain ⟨n1, ⟨n2, n3⟩, n4⟩ := hn
        refine ⟨⟨n1, n3, fun a ha b hb => n4 a ha b (.inr hb)⟩, fun h => h.elim (fun h => n4 j h j (.inl rfl) rfl) n2⟩
      obtain ⟨Bs, g1, g2⟩ := HW.pick K G (l ++ m) (m1 ++ m2) (f1.app f3) hn'.1 hi'.2 (fun k' b' hm j' hj' => by
        have hne : j' ≠ j := fun e => hi'.1 (e ▸ List.mem_filterMap.2 ⟨k', List.mem_map_of_mem (f := (·.1)) hm, hj'⟩)
        have h0 := hl k' b' (List.mem_cons_of_mem _ hm) j' hj'
        rw [← h0, e]
        have : ∀ (l m : Hp), lk (l ++ (j, b0) :: m) j' = lk (l ++ m) j' := by
          intro l m
          induction l with
          | nil => simp only [List.nil_append, lk]; rw [if_neg (fun e => hne e.symm)]
          | cons x l ih => obtain ⟨d, v⟩ := x; simp only [List.cons_append, lk]; split <;> first | rfl | exact ih
        exact (this l m).symm) hw hd' hK
      have hA' : ∃ A', BR w0 (dom K) (mapr r ρ) (k, b) A' ∧ ∀ Z, St w0 w (A :: Z) → St w0 w (A' :: Z) := by
        cases b with
        | dead => simp only [BW] at hb
        | own X =>
          simp only [BW, hr, hb0] at hb
          cases b0 with
          | own X' =>
            have hb' : X = X' := hb
            subst hb'
            have f2' : A = X.A (ρ j) := f2
            exact ⟨A, by show A = X.A (mapr r ρ k); unfold mapr; rw [hr]; exact f2', fun _ h => h⟩
          | arr E sz es =>
            obtain ⟨h1, rfl⟩ := f2
            refine ⟨X.A (ρ j), by show _ = X.A (mapr r ρ k); unfold mapr; rw [hr], fun Z h => h.same fun F hF => ⟨F, hb _ _ _ hF, fun _ h => h⟩⟩
          | row _ _ => exact hb.elim
          | byt _ => exact hb.elim
          | dead => exact hb.elim
        | row T cs =>
          simp only [BW, hr, hb0] at hb
          cases b0 with
          | row T' cs' =>
            obtain ⟨rfl, hc⟩ := hb
            obtain ⟨bb, us, h1, h2, h3⟩ := f2
            subst hK
            exact ⟨A, ⟨bb, us, by unfold mapr; rw [hr]; exact h1, PWL.ok hc h2, h3⟩, fun _ h => h⟩
          | arr _ _ _ => exact hb.elim
          | byt _ => exact hb.elim
          | own _ => exact hb.elim
          | dead => exact hb.elim
        | byt s =>
          simp only [BW, hr, hb0] at hb
          cases b0 with
          | byt s' =>
            subst hb
            obtain ⟨b, C, h1, h2, h3⟩ := f2
            exact ⟨A, ⟨b, C, by unfold mapr; rw [hr]; exact h1, h2, h3⟩, fun _ h => h⟩
          | row _ _ => exact hb.elim
          | arr _ _ _ => exact hb.elim
          | own _ => exact hb.elim
          | dead => exact hb.elim
        | arr E sz es =>
          simp only [BW, hr, hb0] at hb
          cases b0 with
          | arr E' sz' es' =>
            obtain ⟨rfl, rfl, rfl⟩ := hb
            obtain ⟨h1, h2⟩ := f2
            exact ⟨A, ⟨h1, by unfold mapr; rw [hr]; exact h2⟩, fun _ h => h⟩
          | row _ _ => exact hb.elim
          | byt _ => exact hb.elim
          | own _ => exact hb.elim
          | dead => exact hb.elim
      obtain ⟨A', q1, q2⟩ := hA'
      refine ⟨A' :: Bs, .cons q1 g1, fun Z h => ?_⟩
      · have h1 : St w0 w ((m1 ++ m2) ++ (A :: Z)) := by
          refine St.perm h ?_
          simp only [List.append_assoc, List.cons_append]
          refine List.Perm.append_left m1 ?_
          exact (List.perm_middle (l₁ := m2) (a := A) (l₂ := Z)).symm
        exact q2 _ (St.perm (g2 _ h1) List.perm_middle)
theorem mem_dom {H : Hp} {k : Nat} {b : Blk} (h : (k, b) ∈ H) : dom H k := dom_mem.2 (List.mem_map_of_mem h)
theorem Rel.ren (h : Rel w0 w ρ n t H a) (r : Ren) (h1 : TW r H' t t') (h2 : HW r H' H H') (h3 : ((keys H').filterMap (rk r)).Nodup) (h4 : (keys H').Nodup) : Rel w0 w (mapr r ρ) n t' H' a := by
  refine ⟨h.sz, h.df, fun k => ?_, ?_, h4⟩
  · rcases h1.ok k with e | e
    · rw [e]; trivial
    · exact AW.ok e (h.tm k)
  · obtain ⟨As, g1, g2⟩ := h.hp
    obtain ⟨Bs, b1, b2⟩ := HW.pick (w := w) (H' := H') H' H' H As g1 h.nd h3 (fun _ _ _ _ _ => rfl) h2 (fun k b hm => mem_dom hm) rfl
    refine ⟨Bs, b1, ?_⟩
    have := b2 [] (by simpa using g2)
    simpa using this
theorem Rel.sub (h : Rel w0 w ρ n t H a) (hs : Sub t H t' H') : ∃ ρ', Rel w0 w ρ' n t' H' a := by
  obtain ⟨r, h1, h2, h3, h4⟩ := hs
  exact ⟨_, h.ren r h1 h2 h3 h4⟩
end
abbrev Post := Exit → Tm → Hp → Prop
def CQ (w0 : World) (n : Nat) (K : Post) : Exit → Act → World → Prop := fun e a w => ∃ ρ t H, Rel w0 w ρ n t H a ∧ K e t H
def VC (P : Program) (n : Nat) (c : Code) (K : Post) (t : Tm) (H : Hp) : Prop := ∀ w0 w ρ a, Rel w0 w ρ n t H a → c.wp P (CQ w0 n K) a w
def thenP (K1 : Tm → Hp → Prop) (K : Post) : Post
  | .normal, t, H => K1 t H
  | e, t, H => K e t H
def inB (id : Nat) (K : Post) : Post
  | .exit i, t, H => if i = id then K .normal t H else K (.exit i) t H
  | e, t, H => K e t H
section
variable {P : Program} [TyEnv P] {n : Nat} {K : Post} {t t' : Tm} {H H' : Hp}
theorem vc_mono {c : Code} {K' : Post} (h : VC P n c K t H) (hk : ∀ e t H, K e t H → K' e t H) : VC P n c K' t H := fun w0 w ρ a hr =>
  Code.wp_mono (fun e a w ⟨ρ, t, H, h1, h2⟩ => ⟨ρ, t, H, h1, hk e t H h2⟩) (h w0 w ρ a hr)
theorem vc_skip (h : K .normal t H) : VC P n .skip K t H := fun w0 w ρ a hr => wp_skip ⟨ρ, t, H, hr, h⟩
theorem vc_exit {i : Nat} (h : K (.exit i) t H) : VC P n (.exit i) K t H := fun w0 w ρ a hr => wp_exit ⟨ρ, t, H, hr, h⟩
theorem vc_ret (h : K .ret t H) : VC P n .ret K t H := fun w0 w ρ a hr => wp_ret ⟨ρ, t, H, hr, h⟩
theorem vc_region {id : Nat} {l : List Oper} {dr : Bool} (h : Vd P n l dr (K .normal) l t H []) : VC P n (.region id l.toArray dr) K t H := fun w0 w ρ a hr =>
  region_ok h hr (fun a w ρ t' H' h1 h2 => ⟨ρ, t', H', h1, h2⟩) id
theorem vc_seq {x y : Code} (h : ∀ K1 : Tm → Hp → Prop, (∀ t H, VC P n y K t H → K1 t H) → VC P n x (thenP K1 K) t H) : VC P n (.seq x y) K t H := fun w0 w ρ a hr => by
  refine wp_seq (Code.wp_mono (fun e a w hq => ?_) (h (fun t H => VC P n y K t H) (fun _ _ h => h) w0 w ρ a hr))
  obtain ⟨ρ, t, H, h1, h2⟩ := hq
  cases e <;> first | exact ⟨ρ, t, H, h1, h2⟩ | exact h2 w0 w ρ a h1
theorem vc_cond {c : Operand} {x y : Code} (h : onO (asB (evo (gt t) c)) fun b => (b = true → VC P n x K t H) ∧ (b = false → VC P n y K t H)) : VC P n (.cond c x y) K t H := fun w0 w ρ a hr => by
  obtain ⟨b, hb, h1, h2⟩ := h
  have hc := hr.ev c
  rw [asB_some hb] at hc
  have hc : a.eval c = .bool b := hc.1
  exact wp_cond_split hc (fun e => h1 e w0 w ρ a hr) (fun e => h2 e w0 w ρ a hr)
theorem vc_block {id : Nat} {c : Code} (h : VC P n c (inB id K) t H) : VC P n (.block id c) K t H := fun w0 w ρ a hr => by
  refine wp_block (Code.wp_mono (fun e a w hq => ?_) (h w0 w ρ a hr))
  obtain ⟨ρ, t, H, h1, h2⟩ := hq
  cases e <;> first | exact ⟨ρ, t, H, h1, h2⟩ | skip
  rename_i i
  simp only [inB] at h2
  simp only [Exit.inBlock]
  split at h2
  · rename_i e; rw [if_pos e]; exact ⟨ρ, t, H, h1, h2⟩
  · rename_i e; rw [if_neg e]; exact ⟨ρ, t, H, h1, h2⟩
theorem least_of {p : Nat → Prop} (h : ∃ m, p m) : ∃ m, p m ∧ ∀ k, p k → m ≤ k := by
  obtain ⟨m, hm⟩ := h
  induction m using Nat.strongRecOn with
  | ind m ih =>
    by_cases h : ∃ k, k < m ∧ p k
    · obtain ⟨k, h1, h2⟩ := h; exact ih k h1 h2
    · exact ⟨m, hm, fun k hk => by
        rcases Nat.lt_or_ge k m with h' | h'
        · exact (h ⟨k, h', hk⟩).elim
        · exact h'⟩
open Classical in
theorem vc_loop {c : Code} {σ : Type} (T : σ → Tm) (G : σ → Hp) (I : σ → Prop) (μ : σ → Nat) (s0 : σ) (hs : Sub t H (T s0) (G s0)) (h0 : I s0)
    (h : ∀ s, I s → ∀ K1 : Tm → Hp → Prop, (∀ t H, (∃ s', I s' ∧ μ s' < μ s ∧ Sub t H (T s') (G s')) → K1 t H) → VC P n c (thenP K1 K) (T s) (G s)) : VC P n (.loop c) K t H := fun w0 w ρ a hr => by
  have best : ∀ (a : Act) (w : World), (∃ s ρ, I s ∧ Rel w0 w ρ n (T s) (G s) a) → ∃ m, (∃ s ρ, μ s = m ∧ I s ∧ Rel w0 w ρ n (T s) (G s) a) ∧ ∀ k, (∃ s ρ, μ s = k ∧ I s ∧ Rel w0 w ρ n (T s) (G s) a) → m ≤ k :=
    fun a w ⟨s, ρ, h1, h2⟩ => least_of (p := fun m => ∃ s ρ, μ s = m ∧ I s ∧ Rel w0 w ρ n (T s) (G s) a) ⟨μ s, s, ρ, rfl, h1, h2⟩
  obtain ⟨ρ', hr'⟩ := hr.sub hs
  refine wp_loop (fun a w => ∃ s ρ, I s ∧ Rel w0 w ρ n (T s) (G s) a) (fun a w => if hh : ∃ s ρ, I s ∧ Rel w0 w ρ n (T s) (G s) a then Classical.choose (best a w hh) else 0) ⟨s0, ρ', h0, hr'⟩ ?_
  intro a w hI
  obtain ⟨⟨s, ρ, hm, hIs, hrs⟩, _⟩ := Classical.choose_spec (best a w hI)
  refine Code.wp_mono (fun e a' w' hq => ?_) (h s hIs (fun t H => ∃ s', I s' ∧ μ s' < μ s ∧ Sub t H (T s') (G s')) (fun _ _ h => h) w0 w ρ a hrs)
  obtain ⟨ρ1, t1, H1, h1, h2⟩ := hq
  cases e <;> first | exact ⟨ρ1, t1, H1, h1, h2⟩ | skip
  obtain ⟨s', i1, i2, i3⟩ := h2
  obtain ⟨ρ2, h3⟩ := h1.sub i3
  have hI' : ∃ s ρ, I s ∧ Rel w0 w' ρ n (T s) (G s) a' := ⟨s', ρ2, i1, h3⟩
  refine ⟨hI', ?_⟩
  have hle := (Classical.choose_spec (best a' w' hI')).2 (μ s') ⟨s', ρ2, rfl, i1, h3⟩
  simp only [dif_pos hI, dif_pos hI']
  omega
end
def shP (b : Nat) : PV → PV
  | .hs k => .hs (b + k)
  | p => p
def shA1 (b : Nat) : AV → AV
  | .one p => .one (shP b p)
  | .agg ps => .agg (ps.map (shP b))
  | x => x
def shA (b : Nat) : AV → AV
  | .tup vs => .tup (vs.map (shA1 b))
  | x => shA1 b x
def shH (b : Nat) (H : Hp) : Hp := H.map fun x => (b + x.1, x.2)
def Con0 (P : Program) (f : FuncId) (args : List AV) (res : AV) (Hr : Hp) : Prop := Con P f args (fun b => shA b res) (fun b => shH b Hr)
def argT : Nat → List AV → Tm
  | _, [] => []
  | k, x :: l => (k, x) :: argT (k + 1) l
def res1 (P : Program) [TyEnv P] (t : Tm) (H : Hp) : ResultVar → Option AV
  | .tmp k => some (gt t k)
  | .cell k T => match gt t k with
    | .one (.rp j 0) => match rowOf H j, TyEnv.ti P T with
      | some r, some i => if r.2.length = i.size then mkv i r.2 else none
      | _, _ => none
    | _ => none
def resL (P : Program) [TyEnv P] (t : Tm) (H : Hp) : List ResultVar → Option (List AV)
  | [] => some []
  | r :: l => match res1 P t H r, resL P t H l with
    | some v, some vs => some (v :: vs)
    | _, _ => none
def resV : List AV → AV
  | [v] => v
  | vs => .tup vs
def untup : AV → Bool
  | .tup _ => false
  | _ => true
def Fin (P : Program) [TyEnv P] (rs : List ResultVar) (res : AV) (Hr : Hp) : Post := fun e t H =>
  need (e = .normal ∨ e = .ret) (onO (resL P t H rs) fun vs => need (vs.all untup = true) (∃ r : Ren, AW r Hr res (resV vs) ∧ HW r Hr H Hr ∧ ((keys Hr).filterMap (rk r)).Nodup ∧ (keys Hr).Nodup))
section
variable {P : Program} {w0 w : World} {ρ : Nat → Value} {n : Nat} {t t' : Tm} {H H' : Hp} {a : Act} {D : Nat → Prop}
theorem gt_argT : ∀ (l : List AV) (k j : Nat), gt (argT k l) j = if k ≤ j then (l[j - k]?).getD .junk else .junk
  | [], k, j => by simp [argT, gt]
  | x :: l, k, j => by
    simp only [argT, gt]
    rw [gt_argT l (k + 1) j]
    by_cases e : k = j
    · subst e; simp
    · rw [if_neg e]
      by_cases h : k + 1 ≤ j
      · rw [if_pos h, if_pos (by omega)]
        obtain ⟨m, rfl⟩ : ∃ m, j = k + 1 + m := ⟨j - (k + 1), by omega⟩
        rw [show k + 1 + m - (k + 1) = m by omega, show k + 1 + m - k = m + 1 by omega]
        rfl
      · rw [if_neg h, if_neg (by omega)]
theorem Rel.args {vs : List Value} {args : List AV} (h : F2 (AB w) args vs) (hn : args.length ≤ n) : Rel w w (fun _ => undef) n (argT 0 args) [] { tmps := vs.toArray ++ Array.replicate (n - vs.toArray.size) undef, defers := [] } := by
  have hl := h.len
  refine ⟨by simp; omega, rfl, fun k => ?_, ⟨[], .nil, St.start w⟩, .nil⟩
  rw [gt_argT, if_pos (Nat.zero_le _), Nat.sub_zero]
  cases hk : args[k]? with
  | none => trivial
  | some x =>
    obtain ⟨y, hy, hxy⟩ := h.get hk
    have hkl : k < vs.length := (List.getElem?_eq_some_iff.1 hy).1
    have : (vs.toArray ++ Array.replicate (n - vs.toArray.size) undef).getD k undef = y := by
      rw [Array.getD_eq_getD_getElem?, Array.getElem?_append_left (by simpa using hkl)]
      simp [hy]
    simp only [this, Option.getD_some]
    exact AR.ext (fun j hj => hj.elim) hxy
theorem shP_ok {b : Nat} {Hr : Hp} {p : PV} {u : Value} (h : R w (dom Hr) ρ p u) (hc : cleanP p = true) : R w (dom (shH b Hr)) (fun k => ρ (k - b)) (shP b p) u := by
  cases p <;> first | exact h | (simp [cleanP] at hc; done) | skip
  rename_i k
  obtain ⟨h1, h2, h3⟩ := h
  refine ⟨?_, by simp only [Nat.add_sub_cancel_left]; exact h2, h3⟩
  rw [dom_mem] at h1 ⊢
  obtain ⟨x, hx, rfl⟩ := List.mem_map.1 h1
  unfold shH
  rw [List.map_map]
  exact List.mem_map.2 ⟨x, hx, rfl⟩
theorem shPL_ok {b : Nat} {Hr : Hp} : ∀ {ps : List PV} {us : List Value}, F2 (R w (dom Hr) ρ) ps us → ps.all cleanP = true → F2 (R w (dom (shH b Hr)) (fun k => ρ (k - b))) (ps.map (shP b)) us
  | [], _, .nil, _ => .nil
  | p :: ps, _, .cons h hr, hc => by
    simp only [List.all_cons, Bool.and_eq_true] at hc
    exact .cons (shP_ok h hc.1) (shPL_ok hr hc.2)
theorem shA1_ok {b : Nat} {Hr : Hp} {p : AV} {u : Value} (h : AR1 w (dom Hr) ρ p u) (hc : clean1 p = true) : AR1 w (dom (shH b Hr)) (fun k => ρ (k - b)) (shA1 b p) u := by
  cases p with
  | one p => exact shP_ok h hc
  | agg ps => obtain ⟨us, h1, h2⟩ := h; exact ⟨us, h1, shPL_ok h2 hc⟩
  | tup vs => exact h.elim
  | junk => trivial
theorem shA_ok {b : Nat} {Hr : Hp} {p : AV} {u : Value} (h : AR w (dom Hr) ρ p u) (hc : cleanA p = true) : AR w (dom (shH b Hr)) (fun k => ρ (k - b)) (shA b p) u := by
  cases p with
  | tup vs =>
    obtain ⟨us, h1, h2⟩ := h
    refine ⟨us, h1, ?_⟩
    replace hc : vs.all clean1 = true := hc
    clear h1
    induction h2 with
    | nil => exact .nil
    | cons h k ih =>
      simp only [List.all_cons, Bool.and_eq_true] at hc
      exact .cons (shA1_ok h hc.1) (ih hc.2)
  | one p => exact AR.of1 (p := .one (shP b p)) (shA1_ok (p := .one p) h hc)
  | agg p => exact AR.of1 (p := .agg (p.map (shP b))) (shA1_ok (p := .agg p) h hc)
  | junk => trivial
theorem clean_sh1 {b : Nat} {p : AV} (h : clean1 p = true) : clean1 (shA1 b p) = true := by
  have hp : ∀ p : PV, cleanP p = true → cleanP (shP b p) = true := fun p h => by cases p <;> first | exact h | rfl
  cases p with
  | one p => exact hp p h
  | agg ps =>
    replace h : ps.all cleanP = true := h
    show (ps.map (shP b)).all cleanP = true
    rw [List.all_eq_true] at h ⊢
    intro x hx
    obtain ⟨y, hy, rfl⟩ := List.mem_map.1 hx
    exact hp y (h y hy)
  | tup vs => exact h
  | junk => rfl
theorem clean_sh {b : Nat} {p : AV} (h : cleanA p = true) : cleanA (shA b p) = true := by
  cases p with
  | tup vs =>
    replace h : vs.all clean1 = true := h
    show (vs.map (shA1 b)).all clean1 = true
    rw [List.all_eq_true] at h ⊢
    intro x hx
    obtain ⟨y, hy, rfl⟩ := List.mem_map.1 hx
    exact clean_sh1 (h y hy)
  | one p => exact clean_sh1 (p := .one p) h
  | agg p => exact clean_sh1 (p := .agg p) h
  | junk => rfl
theorem arrs_sh {b : Nat} {H : Hp} (h : arrs H = true) : arrs (shH b H) = true := by
  unfold arrs shH at *
  rw [List.all_eq_true] at h ⊢
  intro x hx
  obtain ⟨y, hy, rfl⟩ := List.mem_map.1 hx
  exact h y hy
theorem nd_sh {b : Nat} {H : Hp} (h : (keys H).Nodup) : ((shH b H).map (·.1)).Nodup := by
  unfold shH
  rw [List.map_map]
  have : ((·.1) ∘ fun x : Nat × Blk => (b + x.1, x.2)) = (b + ·) ∘ (·.1) := rfl
  rw [this, ← List.map_map]
  exact List.Pairwise.map _ (fun a c h e => h (by simpa using e)) h
theorem br_sh {b : Nat} {Hr : Hp} : ∀ {G : Hp} {As : List Asn}, F2 (BR w (dom Hr) ρ) G As → arrs G = true → F2 (BR w (dom (shH b Hr)) (fun k => ρ (k - b))) (shH b G) As
  | [], _, .nil, _ => .nil
  | (k, x) :: G, _, .cons h hr, hc => by
    simp only [arrs, List.all_cons, Bool.and_eq_true] at hc
    refine .cons ?_ (br_sh hr hc.2)
    cases x with
    | arr E sz es => obtain ⟨h1, h2⟩ := h; exact ⟨h1, by simp only [Nat.add_sub_cancel_left]; exact h2⟩
    | own X => show _ = X.A (ρ (b + k - b)); rw [Nat.add_sub_cancel_left]; exact h
    | row T cs => simp at hc
    | byt s => simp at hc
    | dead => simp at hc
theorem res1_ok [TyEnv P] {r : ResultVar} {v : AV} (hr : Rel w0 w ρ n t H a) (h : res1 P t H r = some v) (hu : untup v = true) : ∃ u, AR1 w0 (dom H) ρ v u ∧ RVs P w a.tmps [r] [u] := by
  have un : ∀ {v : AV} {u : Value}, AR w0 (dom H) ρ v u → untup v = true → AR1 w0 (dom H) ρ v u := fun {v u} h hu => by
    cases v <;> first | exact h | (simp [untup] at hu)
  cases r with
  | tmp k => simp only [res1, Option.some.injEq] at h; subst h; exact ⟨_, un (hr.tm k) hu, _, [], rfl, rfl, rfl⟩
  | cell k T =>
    simp only [res1] at h
    split at h
    · rename_i j hk
      split at h
      · rename_i r i h1 h2
        split at h
        · rename_i hl
          have hb := rowOf_some h1
          obtain ⟨A, Js, ⟨b, us, e1, e2, rfl⟩, hs, _⟩ := hr.focus hb
          have hx := hr.tm k
          rw [hk] at hx
          obtain ⟨_, b', e1', hx⟩ := hx
          rw [e1] at e1'
          simp only [Value.pointer.injEq, Option.some.injEq, Addr.mk.injEq, and_true] at e1'
          subst e1'
          have hm := mkv_R h e2
          obtain ⟨d, hu, hrow⟩ := ty_und h2
          have hrow' := hs.row .head
          split at hm
          · rename_i hq
            rw [List.take_of_length_le (by rw [← e2.len, hl]; exact Nat.le_refl _)] at hm
            refine ⟨.agg us.toArray, un hm.2 ‹_›, _, [], rfl, rfl, ⟨b, 0, none⟩, hx, ?_⟩
            refine run_loadVar_row w b _ T us.toArray (0, 0) d hrow' hu (by rw [hq] at hrow; cases d <;> first | rfl | (cases hrow)) ?_
            rw [ty_size h2, ← hl, e2.len]; simp
          · rename_i hq
            obtain ⟨u, g1, g2⟩ := hm
            refine ⟨u, un g2 ‹_›, _, [], rfl, rfl, ⟨b, 0, none⟩, hx, ?_⟩
            have hcell : w.cell? ⟨b, 0, none⟩ = some u := by rw [cell_row hrow']; rw [← g1]; cases us <;> rfl
            have hagg : (isAgg T).run P w = .ok false w := by
              unfold isAgg
              rw [Sem.run_bind, run_underlying hu w]
              cases d <;> first | rfl | (exact (hq hrow.symm).elim)
            simp only [loadVar, Sem.run_bind, hagg, Result.andThen_ok, Bool.false_eq_true, if_false]
            simp [hcell]
        · cases h
      · cases h
    · cases h
theorem resL_ok [TyEnv P] (hr : Rel w0 w ρ n t H a) : ∀ {rs : List ResultVar} {vs : List AV}, resL P t H rs = some vs → vs.all untup = true → ∃ us, F2 (AR1 w0 (dom H) ρ) vs us ∧ RVs P w a.tmps rs us
  | [], vs, h, _ => by simp only [resL, Option.some.injEq] at h; subst h; exact ⟨[], .nil, rfl⟩
  | r :: rs, vs, h, hu => by
    simp only [resL] at h
    split at h
    · rename_i v vs' h1 h2
      simp only [Option.some.injEq] at h
      subst h
      simp only [List.all_cons, Bool.and_eq_true] at hu
      obtain ⟨u, g1, g2⟩ := res1_ok hr h1 hu.1
      obtain ⟨us, k1, k2⟩ := resL_ok hr h2 hu.2
      obtain ⟨u', l, e, el, g2⟩ := g2
      simp only [List.cons.injEq] at e
      obtain ⟨rfl, rfl⟩ := e
      exact ⟨u :: us, .cons g1 k1, u, us, rfl, k2, g2⟩
    · cases h
theorem con_of [TyEnv P] {f : FuncId} {fn : Func} {c : Code} {rs : List ResultVar} {args : List AV} {res : AV} {Hr : Hp} (hf : P.funcs[f]? = some fn) (hb : fn.body = some c) (hnm : (fn.name == "runtime.NumGoroutine") = false) (hrs : fn.results = rs.toArray) (hn : fn.ntmps = n) (hargs : args.length ≤ n)
    (hcl : cleanA res = true) (har : arrs Hr = true) (h : VC P n c (Fin P rs res Hr) (argT 0 args) []) : Con0 P f args res Hr := by
  refine ⟨⟨fn, hf, hnm, by rw [hb]; rfl⟩, fun w vs hv b => ?_⟩
  refine calls_of_wp hf hb ?_
  rw [hn]
  refine Code.wp_mono (fun e a w' hq => ?_) (h w w _ _ (Rel.args hv hargs))
  obtain ⟨ρ, t, H, hr, he, vs, h1, h2, r, h3, h4, h5, h6⟩ := hq
  obtain ⟨us, g1, g2⟩ := resL_ok hr h1 h2
  have hrun := g2.run hrs
  have hrr := Rel.ren hr (t' := []) r trivial h4 h5 h6
  have hval : AR w (dom Hr) (mapr r ρ) res (if h : us.toArray.size = 1 then us.toArray[0] else .tuple us.toArray) := by
    refine AW.ok (q := resV vs) h3 (D := dom H) ?_
    cases g1 with
    | nil => exact ⟨[], rfl, .nil⟩
    | cons a b =>
      cases b with
      | nil => exact AR.of1 a
      | cons c d =>
        rw [dif_neg (by simp)]
        exact ⟨_, rfl, .cons a (.cons c d)⟩
  obtain ⟨As, k1, k2⟩ := hrr.hp
  have fin : (fun e w' => ∃ u ρ, e = Ending.returned u ∧ AR w (dom (shH b Hr)) ρ (shA b res) u ∧ cleanA (shA b res) = true ∧ arrs (shH b Hr) = true ∧ ((shH b Hr).map (·.1)).Nodup ∧ ∃ As, F2 (BR w (dom (shH b Hr)) ρ) (shH b Hr) As ∧ St w w' As) (Ending.returned (if h : us.toArray.size = 1 then us.toArray[0] else .tuple us.toArray)) w' :=
    ⟨_, fun k => mapr r ρ (k - b), rfl, shA_ok hval hcl, clean_sh hcl, arrs_sh har, nd_sh h6, As, br_sh k1 har, k2⟩
  rcases he with rfl | rfl
  · exact ⟨hr.df, _, hrun, fin⟩
  · exact ⟨hr.df, _, hrun, fin⟩
end
end Go.Vc
end
section
namespace Go.Vc
open Go Go.RowKit
set_option linter.unusedVariables false
set_option linter.unusedSectionVars false
set_option linter.unusedSimpArgs false
set_option linter.unnecessarySimpa false
abbrev I (n : Int) : AV := .one (.v (.int .i64 n))
abbrev B (b : Bool) : AV := .one (.v (.bool b))
abbrev Z (s : ByteArray) : AV := .one (.v (.string s))
abbrev V (n : Int) : PV := .v (.int .i64 n)
abbrev VB (b : Bool) : PV := .v (.bool b)
abbrev VS (s : ByteArray) : PV := .v (.string s)
def EqK (v : AV) (δ rs : Hp) : AV → Hp → Hp → Prop := fun v' δ' rs' => v' = v ∧ δ' = δ ∧ rs' = rs
theorem eqK_i {v : AV} {δ rs : Hp} : EqK v δ rs v δ rs := ⟨rfl, rfl, rfl⟩
theorem onO_i {α : Type} {x : Option α} {a : α} {f : α → Prop} (h : x = some a) (k : f a) : onO x f := ⟨a, h, k⟩
theorem onO2_i {α β : Type} {x : Option (α × β)} {a : α} {b : β} {f : α → β → Prop} (h : x = some (a, b)) (k : f a b) : onO2 x f := ⟨a, b, h, k⟩
theorem onO3_i {α β γ : Type} {x : Option (α × β × γ)} {a : α} {b : β} {c : γ} {f : α → β → γ → Prop} (h : x = some (a, b, c)) (k : f a b c) : onO3 x f := ⟨a, b, c, h, k⟩
theorem need_i {p q : Prop} (h : p) (k : q) : need p q := ⟨h, k⟩
def at' {α : Type} [Inhabited α] (l : List α) (i : Nat) : α := (l[i]?).getD default
theorem ldxm_i {α : Type} [Inhabited α] {l : List α} {g : α → List Value} {i : Nat} {f : List Value → Prop} (h : i < l.length) (k : f (g (at' l i))) : ldx (l.map g) i f := by
  refine ⟨by simpa using h, fun e he => ?_⟩
  rw [List.getElem?_map, List.getElem?_eq_getElem h, Option.map_some, Option.some.injEq] at he
  subst he
  have : at' l i = l[i] := by unfold at'; rw [List.getElem?_eq_getElem h]; rfl
  rwa [this] at k
theorem ldxb_i {s : ByteArray} {i : Nat} {f : List Value → Prop} (h : i < s.size) (k : f [.int .u8 (bytI s i)]) : ldx (bytesE s) i f := by
  have hl : (bytesE s).length = s.size := by
    unfold bytesE
    rw [List.length_map, Array.length_toList]; rfl
  refine ⟨by omega, fun e he => ?_⟩
  unfold bytesE at he
  rw [List.getElem?_map] at he
  obtain ⟨b, hb, rfl⟩ := Option.map_eq_some_iff.1 he
  have : bytI s i = (b.toNat : Int) := by
    unfold bytI
    rw [Array.getElem?_toList] at hb
    simp only [Int.toNat_natCast]
    first | (rw [hb]; rfl) | (simp [hb])
  rwa [this] at k
def upd1F (k : Nat) (b : Blk) : Hp → Option Hp
  | [] => some [(k, b)]
  | (d, v) :: t => bif Nat.beq d k then some ((d, b) :: t) else match upd1F k b t with
    | some t' => some ((d, v) :: t')
    | none => none
def updF : Hp → Hp → Option Hp
  | H, [] => some H
  | H, (k, b) :: δ => match upd1F k b H with
    | some H' => updF H' δ
    | none => none
def keysF : Hp → Option (List Nat)
  | [] => some []
  | (k, _) :: l => match keysF l with
    | some m => some (k :: m)
    | none => none
theorem upd1F_some {k : Nat} {b : Blk} : ∀ {H H' : Hp}, upd1F k b H = some H' → upd1 k b H = H'
  | [], H', h => by simp only [upd1F, Option.some.injEq] at h; exact h
  | (d, v) :: t, H', h => by
    simp only [upd1F] at h
    simp only [upd1]
    cases e : Nat.beq d k with
    | true =>
      rw [e] at h
      simp only [cond_true, Option.some.injEq] at h
      rw [if_pos (Nat.eq_of_beq_eq_true e)]; exact h
    | false =>
      rw [e] at h
      simp only [cond_false] at h
      rw [if_neg (Nat.ne_of_beq_eq_false e)]
      split at h
      · rename_i t' ht
        simp only [Option.some.injEq] at h
        rw [upd1F_some ht]; exact h
      · cases h
theorem updF_some : ∀ {δ H H' : Hp}, updF H δ = some H' → updH H δ = H'
  | [], H, H', h => by simp only [updF, Option.some.injEq] at h; exact h
  | (k, b) :: δ, H, H', h => by
    simp only [updF] at h
    simp only [updH]
    split at h
    · rename_i H1 h1
      rw [upd1F_some h1]; exact updF_some h
    · cases h
theorem keysF_some : ∀ {H : Hp} {l : List Nat}, keysF H = some l → keys H = l
  | [], l, h => by simp only [keysF, Option.some.injEq] at h; exact h
  | (k, b) :: H, l, h => by
    simp only [keysF] at h
    split at h
    · rename_i m hm
      simp only [Option.some.injEq] at h
      simp only [keys, List.map_cons]
      rw [← h]
      congr 1
      exact keysF_some hm
    · cases h
def nfP : PV → Option PV
  | .v (.int k n) => some (.v (.int k n))
  | .v (.bool b) => some (.v (.bool b))
  | .v (.string s) => some (.v (.string s))
  | .v x => some (.v x)
  | .nil => some .nil
  | .sl sz es => some (.sl sz es)
  | .hs k => some (.hs k)
  | .rp k o => some (.rp k o)
  | .ptr k i sz o => some (.ptr k i sz o)
  | .ep sz es i o => some (.ep sz es i o)
  | .hv k i => some (.hv k i)
  | .hc k l z => some (.hc k l z)
  | .rd Q => some (.rd Q)
  | .junk => some .junk
def nfPs : List PV → Option (List PV)
  | [] => some []
  | p :: l => match nfP p with
    | some q => match nfPs l with
      | some m => some (q :: m)
      | none => none
    | none => none
def nfA1 : AV → Option AV
  | .one p => match nfP p with
    | some q => some (.one q)
    | none => none
  | .agg ps => match nfPs ps with
    | some qs => some (.agg qs)
    | none => none
  | .tup vs => some (.tup vs)
  | .junk => some .junk
def nfAs : List AV → Option (List AV)
  | [] => some []
  | p :: l => match nfA1 p with
    | some q => match nfAs l with
      | some m => some (q :: m)
      | none => none
    | none => none
def nfA : AV → Option AV
  | .tup vs => match nfAs vs with
    | some us => some (.tup us)
    | none => none
  | .one p => nfA1 (.one p)
  | .agg ps => nfA1 (.agg ps)
  | .junk => some .junk
def nfB : Blk → Option Blk
  | .row T cs => match nfPs cs with
    | some ds => some (.row T ds)
    | none => none
  | .arr E sz es => some (.arr E sz es)
  | .byt s => some (.byt s)
  | .own X => some (.own X)
  | .dead => some .dead
def nfH : Hp → Option Hp
  | [] => some []
  | (k, b) :: l => match nfB b with
    | some c => match nfH l with
      | some m => some ((k, c) :: m)
      | none => none
    | none => none
theorem nfP_some {p q : PV} (h : nfP p = some q) : p = q := by
  unfold nfP at h
  split at h <;> exact Option.some.inj h
theorem nfPs_some : ∀ {l m : List PV}, nfPs l = some m → l = m
  | [], m, h => Option.some.inj h
  | p :: l, m, h => by
    simp only [nfPs] at h
    split at h
    · rename_i q hq
      split at h
      · rename_i m' hm
        rw [nfP_some hq, nfPs_some hm]; exact Option.some.inj h
      · cases h
    · cases h
theorem nfA1_some {p q : AV} (h : nfA1 p = some q) : p = q := by
  cases p <;> simp only [nfA1] at h
  · split at h
    · rename_i q' hq; rw [nfP_some hq]; exact Option.some.inj h
    · cases h
  · split at h
    · rename_i q' hq; rw [nfPs_some hq]; exact Option.some.inj h
    · cases h
  · exact Option.some.inj h
  · exact Option.some.inj h
theorem nfAs_some : ∀ {l m : List AV}, nfAs l = some m → l = m
  | [], m, h => Option.some.inj h
  | p :: l, m, h => by
    simp only [nfAs] at h
    split at h
    · rename_i q hq
      split at h
      · rename_i m' hm
        rw [nfA1_some hq, nfAs_some hm]; exact Option.some.inj h
      · cases h
    · cases h
theorem nfA_some {p q : AV} (h : nfA p = some q) : p = q := by
  cases p <;> simp only [nfA] at h
  · exact nfA1_some h
  · exact nfA1_some h
  · split at h
    · rename_i q' hq; rw [nfAs_some hq]; exact Option.some.inj h
    · cases h
  · exact Option.some.inj h
theorem nfB_some {p q : Blk} (h : nfB p = some q) : p = q := by
  cases p <;> simp only [nfB] at h
  · split at h
    · rename_i q' hq; rw [nfPs_some hq]; exact Option.some.inj h
    · cases h
  · exact Option.some.inj h
  · exact Option.some.inj h
  · exact Option.some.inj h
  · exact Option.some.inj h
theorem nfH_some : ∀ {l m : Hp}, nfH l = some m → l = m
  | [], m, h => Option.some.inj h
  | (k, b) :: l, m, h => by
    simp only [nfH] at h
    split at h
    · rename_i q hq
      split at h
      · rename_i m' hm
        rw [nfB_some hq, nfH_some hm]; exact Option.some.inj h
      · cases h
    · cases h
def dstB (o : Option Nat) (n : Nat) : Bool := match o with
  | some d => Nat.blt d n
  | none => true
theorem dstB_ok {o : Option Nat} {n : Nat} (h : dstB o n = true) : ∀ d, o = some d → d < n := by
  rintro d rfl
  simp [dstB, Nat.blt] at h
  omega
def putF (d : Option Nat) (v : AV) (t : Tm) : Option Tm := match d with
  | some d => some ((d, v) :: t)
  | none => some t
theorem putF_some {d : Option Nat} {v : AV} {t t' : Tm} (h : putF d v t = some t') : putT t d v = t' := by
  cases d <;> exact Option.some.inj h
def stF (d : Option Nat) (v : AV) (δ rs : Hp) (t : Tm) (H : Hp) : Option (Tm × Hp × List Nat × List Nat) := match nfA v with
  | some v' => match nfH δ with
    | some δ' => match putF d v' t with
      | some t' => match updF H δ' with
        | some H' => match keysF rs with
          | some k1 => match keysF δ' with
            | some k2 => some (t', H', k1, k2)
            | none => none
          | none => none
        | none => none
      | none => none
    | none => none
  | none => none
theorem stF_some {d : Option Nat} {v : AV} {δ rs : Hp} {t t' : Tm} {H H' : Hp} {k1 k2 : List Nat} (h : stF d v δ rs t H = some (t', H', k1, k2)) : putT t d v = t' ∧ updH H δ = H' ∧ keys rs = k1 ∧ keys δ = k2 := by
  unfold stF at h
  split at h
  · rename_i v' hv
    split at h
    · rename_i δ' hδ
      split at h
      · rename_i t1 ht
        split at h
        · rename_i H1 hH
          split at h
          · rename_i a ha
            split at h
            · rename_i b hb
              simp only [Option.some.injEq, Prod.mk.injEq] at h
              obtain ⟨rfl, rfl, rfl, rfl⟩ := h
              rw [nfA_some hv, nfH_some hδ]
              exact ⟨putF_some ht, updF_some hH, keysF_some ha, keysF_some hb⟩
            · cases h
          · cases h
        · cases h
      · cases h
    · cases h
  · cases h
def argF : Nat → List AV → Option Tm
  | _, [] => some []
  | k, x :: l => match nfA x with
    | some y => match argF (k + 1) l with
      | some m => some ((k, y) :: m)
      | none => none
    | none => none
theorem argF_some : ∀ {l : List AV} {k : Nat} {t : Tm}, argF k l = some t → argT k l = t
  | [], k, t, h => Option.some.inj h
  | x :: l, k, t, h => by
    simp only [argF] at h
    split at h
    · rename_i y hy
      split at h
      · rename_i m hm
        simp only [argT]
        rw [nfA_some hy, argF_some hm]; exact Option.some.inj h
      · cases h
    · cases h
def gBF (ops : List Oper) (rd : Nat → AV) (want : Bool) (g : Nat) : Option Bool := match gB ops rd g with
  | some (some c) => some (c == want)
  | some none => some false
  | none => none
section
variable {P : Program} [TyEnv P] {n : Nat} {ops os : List Oper} {dr : Bool} {K : Tm → Hp → Prop} {t t' : Tm} {H H' : Hp} {fp : List Fp} {o : Oper} {v : AV} {δ rs : Hp} {k1 k2 : List Nat}
theorem vd_plain (hd : dstB o.dst n = true) (hg : o.guard = none) (hs : Good P o (gt t) H v δ rs) (ht : stF o.dst v δ rs t H = some (t', H', k1, k2)) (h : Vd P n ops dr K os t' H' ((k1, k2) :: fp)) : Vd P n ops dr K (o :: os) t H fp := by
  refine ⟨dstB_ok hd, ?_⟩
  rw [hg]
  refine ⟨v, δ, rs, hs, ?_⟩
  obtain ⟨e1, e2, e3, e4⟩ := stF_some ht
  rw [e1, e2, e3, e4]; exact h
theorem vd_on {g : Nat} {want : Bool} (hd : dstB o.dst n = true) (hg : o.guard = some (g, want)) (hw : gBF ops (gt t) want g = some true) (hs : Good P o (gt t) H v δ rs) (ht : stF o.dst v δ rs t H = some (t', H', k1, k2)) (h : Vd P n ops dr K os t' H' ((k1, k2) :: fp)) : Vd P n ops dr K (o :: os) t H fp := by
  refine ⟨dstB_ok hd, ?_⟩
  rw [hg]
  unfold gBF at hw
  split at hw
  · rename_i c hc
    simp only [Option.some.injEq, beq_iff_eq] at hw
    subst hw
    refine ⟨_, hc, fun _ => ⟨v, δ, rs, hs, ?_⟩, fun hn => (hn rfl).elim⟩
    obtain ⟨e1, e2, e3, e4⟩ := stF_some ht
    rw [e1, e2, e3, e4]; exact h
  · cases hw
  · cases hw
theorem vd_off {g : Nat} {want : Bool} (hd : dstB o.dst n = true) (hg : o.guard = some (g, want)) (hw : gBF ops (gt t) want g = some false) (ht : putF o.dst (.tup []) t = some t') (h : Vd P n ops dr K os t' H (([], []) :: fp)) : Vd P n ops dr K (o :: os) t H fp := by
  refine ⟨dstB_ok hd, ?_⟩
  rw [hg]
  unfold gBF at hw
  split at hw
  · rename_i c hc
    simp only [Option.some.injEq] at hw
    refine ⟨_, hc, fun hn => ?_, fun _ => by rw [putF_some ht]; exact h⟩
    simp only [Option.some.injEq] at hn
    subst hn; simp at hw
  · rename_i hc
    exact ⟨_, hc, fun hn => (by cases hn), fun _ => by rw [putF_some ht]; exact h⟩
  · cases hw
theorem good_v (h : vstep P o (gt t) H (EqK v δ rs)) : Good P o (gt t) H v δ rs := by
  obtain ⟨v', δ', rs', h1, h2, h3, h4⟩ := vstep_ok h
  subst h2 h3 h4; exact h1
end
theorem okE_nil : okE [] := ⟨⟨#[]⟩, rfl⟩
theorem okE_cons {n : Int} {es : List (List Value)} (h0 : 0 ≤ n) (h1 : n ≤ 255) (h : okE es) : okE ([.int .u8 n] :: es) := by
  obtain ⟨s, rfl⟩ := h
  refine ⟨⟨#[UInt8.ofNat n.toNat]⟩ ++ s, ?_⟩
  unfold bytesE
  have : (UInt8.ofNat n.toNat).toNat = n.toNat := by simp; omega
  simp [ByteArray.data_append, this]
  omega
theorem u8_bd (n : Int) : 0 ≤ IntKind.u8.wrap n ∧ IntKind.u8.wrap n ≤ 255 := by
  rw [IntKind.wrap_u8]; omega
theorem okE_w {n : Int} {es : List (List Value)} (h : okE es) : okE ([.int .u8 (IntKind.u8.wrap n)] :: es) := okE_cons (u8_bd n).1 (u8_bd n).2 h
theorem okE_bytes (s : ByteArray) : okE (bytesE s) := ⟨s, rfl⟩
def byE (n : Int) : List Value := [.int .u8 n]
theorem okE_by {L : List Int} (h : ∀ n ∈ L, 0 ≤ n ∧ n ≤ 255) : okE (L.map byE) := by
  induction L with
  | nil => exact okE_nil
  | cons a L ih => exact okE_cons (h a (List.mem_cons_self ..)).1 (h a (List.mem_cons_self ..)).2 (ih fun n hn => h n (List.mem_cons_of_mem _ hn))
theorem side {p : Prop} (h : p := by (repeat' (with_reducible refine And.intro ?_ ?_)) <;> first | (with_reducible assumption) | omega | (simp only [ByteArray.size_append, ByteArray.size_extract, strOfNums_size, List.length_append, List.length_map, List.length_cons, List.length_nil, List.length_replicate, maxLen, Int.toNat_natCast]; omega) | (with_reducible rfl) | ((repeat (first | exact okE_nil | exact okE_bytes _ | refine okE_w ?_ | refine okE_cons (by decide) (by decide) ?_)); done) | (refine okE_by ?_; intro n hn; simp only [List.mem_append, List.mem_replicate] at hn; omega) | rfl | decide | (simp only [ByteArray.size_append, ByteArray.size_extract, strOfNums_size, List.length_append, List.length_map, List.length_cons, List.length_nil, List.length_replicate, maxLen, Int.toNat_natCast] at *; omega) | assumption) : p := h
section
variable {P : Program} [TyEnv P] {n : Nat} {ops os : List Oper} {dr : Bool} {K : Tm → Hp → Prop} {t t' : Tm} {H H' : Hp} {fp : List Fp} {o : Oper} {v : AV} {δ rs : Hp} {k1 k2 : List Nat}
theorem vo (h : Vd P n ops dr K os t' H' ((k1, k2) :: fp)) (hd : dstB o.dst n = true := by rfl) (hg : o.guard = none := by rfl) (hs : vstep P o (gt t) H (EqK v δ rs) := by repeat (first | exact eqK_i | refine onO_i rfl ?_ | refine onO2_i rfl ?_ | refine onO3_i rfl ?_ | refine need_i side ?_ | refine ldxm_i side ?_ | refine ldxb_i side ?_)) (ht : stF o.dst v δ rs t H = some (t', H', k1, k2) := by rfl) : Vd P n ops dr K (o :: os) t H fp := vd_plain hd hg (good_v hs) ht h
theorem von {g : Nat} {want : Bool} (h : Vd P n ops dr K os t' H' ((k1, k2) :: fp)) (hd : dstB o.dst n = true := by rfl) (hg : o.guard = some (g, want) := by rfl) (hw : gBF ops (gt t) want g = some true := by rfl) (hs : vstep P o (gt t) H (EqK v δ rs) := by repeat (first | exact eqK_i | refine onO_i rfl ?_ | refine onO2_i rfl ?_ | refine onO3_i rfl ?_ | refine need_i side ?_ | refine ldxm_i side ?_ | refine ldxb_i side ?_)) (ht : stF o.dst v δ rs t H = some (t', H', k1, k2) := by rfl) : Vd P n ops dr K (o :: os) t H fp := vd_on hd hg hw (good_v hs) ht h
theorem vof {g : Nat} {want : Bool} (h : Vd P n ops dr K os t' H (([], []) :: fp)) (hd : dstB o.dst n = true := by rfl) (hg : o.guard = some (g, want) := by rfl) (hw : gBF ops (gt t) want g = some false := by rfl) (ht : putF o.dst (.tup []) t = some t' := by rfl) : Vd P n ops dr K (o :: os) t H fp := vd_off hd hg hw ht h
theorem vnil (h : K t H) (hf : dr = true → fpB ops fp.reverse = true := by first | (intro h; cases h; done) | (intro _; kernel_rfl)) : Vd P n ops dr K [] t H fp := ⟨hf, h⟩
theorem vsp {d : Nat} {c : Bool} {p q : Prop} (h1 : p → Vd P n ops dr K os ((d, .one (.v (.bool true))) :: t) H fp) (h2 : q → Vd P n ops dr K os ((d, .one (.v (.bool false))) :: t) H fp) (hp : (c = true) = p := by (conv => lhs; try simp only [decide_eq_true_eq, decide_eq_false_iff_not, Bool.not_eq_true', Bool.not_eq_false', Bool.and_eq_true, Bool.or_eq_true, Bool.and_eq_false_imp, Bool.or_eq_false_iff, List.length_map, List.length_append, List.length_cons, List.length_nil, List.length_replicate, beq_iff_eq, Int.toNat_natCast, Int.ofNat_lt, ge_iff_le, gt_iff_lt, Int.not_le, Int.not_lt])) (hq : (c = false) = q := by (conv => lhs; try simp only [decide_eq_true_eq, decide_eq_false_iff_not, Bool.not_eq_true', Bool.not_eq_false', Bool.and_eq_true, Bool.or_eq_true, Bool.and_eq_false_imp, Bool.or_eq_false_iff, List.length_map, List.length_append, List.length_cons, List.length_nil, List.length_replicate, beq_eq_false_iff_ne, Int.toNat_natCast, Int.ofNat_lt, Int.ofNat_le, ge_iff_le, gt_iff_lt, Int.not_le, Int.not_lt])) : Vd P n ops dr K os ((d, .one (.v (.bool c))) :: t) H fp := by
  subst hp hq
  cases c
  · exact h2 rfl
  · exact h1 rfl
theorem vwr {d : Nat} {x : Int} (h : Vd P n ops dr K os ((d, .one (.v (.int .i64 x))) :: t) H fp) (hw : -9223372036854775808 ≤ x ∧ x ≤ 9223372036854775807 := by omega) : Vd P n ops dr K os ((d, .one (.v (.int .i64 (wr x)))) :: t) H fp := by
  have : wr x = x := IntWalk.i64_in x hw
  rw [this]; exact h
theorem vs1 {d : Nat} {a : Int} (h : Vd P n ops dr K os ((d, .one (.v (.string (strOfNums [a])))) :: t) H fp) : Vd P n ops dr K os ((d, .one (.v (.string (ofE [[.int .u8 a]])))) :: t) H fp := h
theorem vs2 {d : Nat} {a b : Int} (h : Vd P n ops dr K os ((d, .one (.v (.string (strOfNums [a, b])))) :: t) H fp) : Vd P n ops dr K os ((d, .one (.v (.string (ofE [[.int .u8 a], [.int .u8 b]])))) :: t) H fp := h
theorem vs4 {d : Nat} {a b c e : Int} (h : Vd P n ops dr K os ((d, .one (.v (.string (strOfNums [a, b, c, e])))) :: t) H fp) : Vd P n ops dr K os ((d, .one (.v (.string (ofE [[.int .u8 a], [.int .u8 b], [.int .u8 c], [.int .u8 e]])))) :: t) H fp := h
theorem vstr {d : Nat} {x y : ByteArray} (hw : x = y) (h : Vd P n ops dr K os ((d, .one (.v (.string y))) :: t) H fp) : Vd P n ops dr K os ((d, .one (.v (.string x))) :: t) H fp := by
  rw [hw]; exact h
theorem vzs {d : Nat} {s : ByteArray} {m : Nat} (hb : s.size ≤ m) (h : s.size ≤ m → Vd P n ops dr K os ((d, .one (.v (.string s))) :: t) H fp) : Vd P n ops dr K os ((d, .one (.v (.string s))) :: t) H fp := h hb
theorem vln {d : Nat} {α : Type} {l : List α} {f : α → List Value} (h : Vd P n ops dr K os ((d, .one (.v (.int .i64 (l.length : Int)))) :: t) H fp) : Vd P n ops dr K os ((d, .one (.v (.int .i64 ((l.map f).length : Int)))) :: t) H fp := by
  rw [List.length_map]; exact h
theorem vdr {d sz j : Nat} {α : Type} {l : List α} {f : α → List Value} (h : Vd P n ops dr K os ((d, .one (.sl sz ((l.drop j).map f))) :: t) H fp) : Vd P n ops dr K os ((d, .one (.sl sz ((l.map f).drop j))) :: t) H fp := by
  rw [List.map_drop] at h; exact h
theorem vtk {d sz j : Nat} {α : Type} {l : List α} {f : α → List Value} (h : Vd P n ops dr K os ((d, .one (.sl sz ((l.take j).map f))) :: t) H fp) : Vd P n ops dr K os ((d, .one (.sl sz ((l.map f).take j))) :: t) H fp := by
  rw [List.map_take] at h; exact h
theorem veq {d : Nat} {x y : Int} (hw : x = y) (h : Vd P n ops dr K os ((d, .one (.v (.int .i64 y))) :: t) H fp) : Vd P n ops dr K os ((d, .one (.v (.int .i64 x))) :: t) H fp := by
  rw [hw]; exact h
end
section
variable {P : Program} [TyEnv P] {n : Nat} {K : Post} {t : Tm} {H : Hp}
theorem vc_seq' {x y : Code} (h : VC P n x (thenP (VC P n y K) K) t H) : VC P n (.seq x y) K t H := vc_seq fun K1 hK => vc_mono h fun e t H hk => by
  cases e <;> first | exact hk | exact hK _ _ hk
end
theorem con_i {P : Program} [TyEnv P] {f : FuncId} {fn : Func} {c : Code} {n : Nat} {rs : List ResultVar} {args : List AV} {res : AV} {Hr : Hp} {t : Tm} (hf : P.funcs[f]? = some fn) (hn : fn.ntmps = n) (ht : argF 0 args = some t) (h : VC P n c (Fin P rs res Hr) t []) (hb : fn.body = some c := by rfl) (hnm : (fn.name == "runtime.NumGoroutine") = false := by kernel_rfl) (hrs : fn.results = rs.toArray := by rfl) (hargs : Nat.ble args.length n = true := by rfl) (hcl : cleanA res = true := by rfl) (har : arrs Hr = true := by rfl) : Con0 P f args res Hr :=
  con_of hf hb hnm hrs hn (Nat.le_of_ble_eq_true hargs) hcl har (by rw [argF_some ht]; exact h)
def nodB : List Nat → Bool
  | [] => true
  | k :: l => !l.contains k && nodB l
theorem nodB_ok : ∀ {l : List Nat}, nodB l = true → l.Nodup
  | [], _ => .nil
  | k :: l, h => by
    simp only [nodB, Bool.and_eq_true, Bool.not_eq_true'] at h
    refine List.nodup_cons.2 ⟨fun hm => ?_, nodB_ok h.2⟩
    have := List.contains_iff_mem.2 hm
    rw [h.1] at this; cases this
def renB (r : Ren) (G : Hp) : Bool := match keysF G with
  | some ks => nodB ks && nodB (ks.filterMap (rk r))
  | none => false
theorem renB_ok {r : Ren} {G : Hp} (h : renB r G = true) : (keys G).Nodup ∧ ((keys G).filterMap (rk r)).Nodup := by
  unfold renB at h
  split at h
  · rename_i ks hk
    simp only [Bool.and_eq_true] at h
    rw [keysF_some hk]
    exact ⟨nodB_ok h.1, nodB_ok h.2⟩
  · cases h
theorem sub_i {t t' : Tm} {H H' : Hp} (r : Ren) (h1 : TW r H' t t') (h2 : HW r H' H H') (hn : renB r H' = true := by rfl) : Sub t H t' H' := ⟨r, h1, h2, (renB_ok hn).2, (renB_ok hn).1⟩
theorem fin_i {P : Program} [TyEnv P] {rs : List ResultVar} {res : AV} {Hr : Hp} {e : Exit} {t : Tm} {H : Hp} {vs : List AV} (r : Ren) (hv : resL P t H rs = some vs) (h3 : AW r Hr res (resV vs)) (h4 : HW r Hr H Hr) (he : e = .normal ∨ e = .ret := by first | exact .inr rfl | exact .inl rfl) (hu : vs.all untup = true := by rfl) (hn : renB r Hr = true := by rfl) : Fin P rs res Hr e t H := ⟨he, vs, hv, hu, r, h3, h4, (renB_ok hn).2, (renB_ok hn).1⟩
theorem vc_if {P : Program} [TyEnv P] {n : Nat} {K : Post} {t : Tm} {H : Hp} {c : Operand} {x y : Code} {b : Bool} {p q : Prop} (h1 : p → VC P n x K t H) (h2 : q → VC P n y K t H) (hb : asB (evo (gt t) c) = some b := by rfl) (hp : (b = true) = p := by (conv => lhs; try simp only [decide_eq_true_eq, decide_eq_false_iff_not, Bool.not_eq_true', Bool.not_eq_false', Bool.and_eq_true, Bool.or_eq_true, Bool.and_eq_false_imp, Bool.or_eq_false_iff, List.length_map, List.length_append, List.length_cons, List.length_nil, List.length_replicate, beq_iff_eq, Int.toNat_natCast, Int.ofNat_lt, ge_iff_le, gt_iff_lt, Int.not_le, Int.not_lt])) (hq : (b = false) = q := by (conv => lhs; try simp only [decide_eq_true_eq, decide_eq_false_iff_not, Bool.not_eq_true', Bool.not_eq_false', Bool.and_eq_true, Bool.or_eq_true, Bool.and_eq_false_imp, Bool.or_eq_false_iff, List.length_map, List.length_append, List.length_cons, List.length_nil, List.length_replicate, beq_eq_false_iff_ne, Int.toNat_natCast, Int.ofNat_lt, Int.ofNat_le, ge_iff_le, gt_iff_lt, Int.not_le, Int.not_lt])) : VC P n (.cond c x y) K t H := by
  subst hp hq
  exact vc_cond ⟨b, hb, h1, h2⟩
theorem vc_then {P : Program} [TyEnv P] {n : Nat} {K : Post} {t : Tm} {H : Hp} {c : Operand} {x y : Code} (h : VC P n x K t H) (hb : asB (evo (gt t) c) = some true := by rfl) : VC P n (.cond c x y) K t H := vc_cond ⟨true, hb, fun _ => h, fun h => (by cases h)⟩
theorem vc_else {P : Program} [TyEnv P] {n : Nat} {K : Post} {t : Tm} {H : Hp} {c : Operand} {x y : Code} (h : VC P n y K t H) (hb : asB (evo (gt t) c) = some false := by rfl) : VC P n (.cond c x y) K t H := vc_cond ⟨false, hb, fun h => (by cases h), fun _ => h⟩
theorem inB_n {id : Nat} {K : Post} {t : Tm} {H : Hp} (h : K .normal t H) : inB id K .normal t H := h
theorem inB_r {id : Nat} {K : Post} {t : Tm} {H : Hp} (h : K .ret t H) : inB id K .ret t H := h
theorem inB_x {id : Nat} {K : Post} {t : Tm} {H : Hp} (h : K .normal t H) : inB id K (.exit id) t H := by simp only [inB, if_true]; exact h
theorem thn_r {K1 : Tm → Hp → Prop} {K : Post} {t : Tm} {H : Hp} (h : K .ret t H) : thenP K1 K .ret t H := h
theorem thn_x {K1 : Tm → Hp → Prop} {K : Post} {t : Tm} {H : Hp} {i : Nat} (h : K (.exit i) t H) : thenP K1 K (.exit i) t H := h
theorem fz {p q : Prop} (k : q) (h : p = q := by (conv => lhs; try simp only [I, B, Z, V, VB, VS, AW, AW1, AWL, PW, PWL, HW, BW, TW, resV, gt, rk, hasK, lk, shP, shA1, shA, Value.int.injEq, Value.bool.injEq, Value.string.injEq, true_and, and_true, Nat.reduceEqDiff, Nat.reduceMul, Nat.reduceAdd, Nat.add_zero, List.nil_append, List.cons_append, Int.toNat_natCast, if_true, if_false, reduceIte, Nat.one_ne_zero, Nat.zero_ne_one, beq_iff_eq, Option.some.injEq])) : p := h.symm ▸ k
theorem thn {K1 : Tm → Hp → Prop} {K : Post} {t : Tm} {H : Hp} (h : K1 t H) : thenP K1 K .normal t H := h
theorem vc_sr {P : Program} [TyEnv P] {n : Nat} {K : Post} {t : Tm} {H : Hp} {id : Nat} {l : List Oper} {dr : Bool} {y : Code} (h : Vd P n l dr (thenP (VC P n y K) K .normal) l t H []) : VC P n (.seq (.region id l.toArray dr) y) K t H := vc_seq' (vc_region h)
theorem vnt {P : Program} [TyEnv P] {n : Nat} {ops : List Oper} {dr : Bool} {K1 : Tm → Hp → Prop} {K : Post} {t : Tm} {H : Hp} {fp : List Fp} (h : K1 t H) (hf : dr = true → fpB ops fp.reverse = true := by first | (intro h; cases h; done) | (intro _; kernel_rfl)) : Vd P n ops dr (thenP K1 K .normal) [] t H fp := ⟨hf, h⟩
def keepF (t : Tm) : List Nat → Option Tm
  | [] => some []
  | k :: l => match nfA (gt t k) with
    | some v => match keepF t l with
      | some m => some ((k, v) :: m)
      | none => none
    | none => none
def keepH (H : Hp) : List Nat → Option Hp
  | [] => some []
  | k :: l => match lk H k with
    | some b => match nfB b with
      | some c => match keepH H l with
        | some m => some ((k, c) :: m)
        | none => none
      | none => none
    | none => none
def nfT : Tm → Option Tm
  | [] => some []
  | (k, v) :: l => match nfA v with
    | some w => match nfT l with
      | some m => some ((k, w) :: m)
      | none => none
    | none => none
theorem nfT_some : ∀ {l m : Tm}, nfT l = some m → l = m
  | [], m, h => Option.some.inj h
  | (k, b) :: l, m, h => by
    simp only [nfT] at h
    split at h
    · rename_i q hq
      split at h
      · rename_i m' hm
        rw [nfA_some hq, nfT_some hm]; exact Option.some.inj h
      · cases h
    · cases h
theorem vc_nf {P : Program} [TyEnv P] {n : Nat} {c : Code} {K : Post} {t t' : Tm} {H H' : Hp} (ht : nfT t = some t') (hH : nfH H = some H') (h : VC P n c K t' H') : VC P n c K t H := by rw [nfT_some ht, nfH_some hH]; exact h
theorem vc_lp {P : Program} [TyEnv P] {n : Nat} {K : Post} {t t0 : Tm} {H H0 : Hp} {c : Code} {σ : Type} (live keep : List Nat) (ov : σ → Tm) (gv : σ → Hp) (I : σ → Prop) (μ : σ → Nat) (s0 : σ) (ht : keepF t live = some t0) (hH : keepH H keep = some H0) (hs : Sub t H (ov s0 ++ t0) (gv s0 ++ H0)) (h0 : I s0)
    (h : ∀ s, I s → VC P n c (thenP (fun t H => ∃ s', I s' ∧ μ s' < μ s ∧ Sub t H (ov s' ++ t0) (gv s' ++ H0)) K) (ov s ++ t0) (gv s ++ H0)) : VC P n (.loop c) K t H :=
  vc_loop (fun s => ov s ++ t0) (fun s => gv s ++ H0) I μ s0 hs h0 fun s hi K1 hK => vc_mono (h s hi) fun e t H hk => by
    cases e <;> first | exact hk | exact hK _ _ hk
theorem drop_at {α : Type} [Inhabited α] {l : List α} {i : Nat} (h : i < l.length) : l.drop i = at' l i :: l.drop (i + 1) := by
  rw [List.drop_eq_getElem_cons h]
  unfold at'
  rw [List.getElem?_eq_getElem h]; rfl
theorem good_call {P : Program} [TyEnv P] {o : Oper} {t : Tm} {H : Hp} {f : FuncId} {args : Array Operand} {ats : Array TypeId} {ys : List AV} {res v : AV} {Hr δ rs : Hp} {d : Nat} (hc : Con0 P f ys res Hr) (ho : o.op = .call { callee := .value (.func f), args := args, argTypes := ats }) (hf : frzAs H (args.toList.map (evo (gt t))) = some ys)
    (hdd : o.dst = some d) (hv : shA (8 * d) res = v) (hδ : shH (8 * d) Hr = δ) (hrs : rsOf H ((args.toList.map (evo (gt t))).flatMap hsA) = rs) (hfr : δ.all (fun p => (lk H p.1).isNone) = true) : Good P o (gt t) H v δ rs := by
  subst hv hδ hrs
  refine good_v ?_
  unfold vstep
  rw [ho]
  have e : 8 * o.dst.getD 0 = 8 * d := by rw [hdd]; rfl
  simp only [e]
  exact ⟨ys, hf, _, _, hc, hfr, rfl, rfl, rfl⟩
section
variable {P : Program} [TyEnv P] {n : Nat} {ops os : List Oper} {dr : Bool} {K : Tm → Hp → Prop} {t t' : Tm} {H H' : Hp} {fp : List Fp} {o : Oper} {v : AV} {δ rs : Hp} {k1 k2 : List Nat}
theorem voc {f : FuncId} {args : Array Operand} {ats : Array TypeId} {ys : List AV} {res v : AV} {Hr δ rs : Hp} {d : Nat} (hc : Con0 P f ys res Hr) (ho : o.op = .call { callee := .value (.func f), args := args, argTypes := ats }) (hf : frzAs H (args.toList.map (evo (gt t))) = some ys) (h : Vd P n ops dr K os t' H' ((k1, k2) :: fp)) (hdd : o.dst = some d := by rfl) (hv : shA (8 * d) res = v := by rfl) (hδ : shH (8 * d) Hr = δ := by rfl) (hrs : rsOf H ((args.toList.map (evo (gt t))).flatMap hsA) = rs := by rfl) (hfr : δ.all (fun p => (lk H p.1).isNone) = true := by rfl) (hd : dstB o.dst n = true := by rfl) (hg : o.guard = none := by rfl) (ht : stF o.dst v δ rs t H = some (t', H', k1, k2) := by rfl) : Vd P n ops dr K (o :: os) t H fp := vd_plain hd hg (good_call hc ho hf hdd hv hδ hrs hfr) ht h
theorem vocn {f : FuncId} {args : Array Operand} {ats : Array TypeId} {ys : List AV} {res v : AV} {Hr δ rs : Hp} {d : Nat} {g : Nat} {want : Bool} (hc : Con0 P f ys res Hr) (ho : o.op = .call { callee := .value (.func f), args := args, argTypes := ats }) (hf : frzAs H (args.toList.map (evo (gt t))) = some ys) (h : Vd P n ops dr K os t' H' ((k1, k2) :: fp)) (hdd : o.dst = some d := by rfl) (hv : shA (8 * d) res = v := by rfl) (hδ : shH (8 * d) Hr = δ := by rfl) (hrs : rsOf H ((args.toList.map (evo (gt t))).flatMap hsA) = rs := by rfl) (hfr : δ.all (fun p => (lk H p.1).isNone) = true := by rfl) (hd : dstB o.dst n = true := by rfl) (hg : o.guard = some (g, want) := by rfl) (hw : gBF ops (gt t) want g = some true := by rfl) (ht : stF o.dst v δ rs t H = some (t', H', k1, k2) := by rfl) : Vd P n ops dr K (o :: os) t H fp := vd_on hd hg hw (good_call hc ho hf hdd hv hδ hrs hfr) ht h
end
def strE (s : ByteArray) : List Value := [.string s]
def intE (n : Int) : List Value := [.int .i64 n]
def booE (b : Bool) : List Value := [.bool b]
def mpE (m : Int × Int × Int × Bool) : List Value := [.int .i64 m.1, .int .i64 m.2.1, .int .i64 m.2.2.1, .bool m.2.2.2]
end Go.Vc
end
section
namespace Go.Vc
open Go Go.RowKit
set_option linter.unusedVariables false
set_option linter.unusedSectionVars false
set_option linter.unusedSimpArgs false
set_option linter.unnecessarySimpa false
def offK (k : Nat) (H : Hp) : Hp := H.filter fun x => x.1 != k
theorem offK_id {k : Nat} : ∀ {H : Hp}, k ∉ H.map (·.1) → offK k H = H
  | [], _ => rfl
  | (d, v) :: t, h => by
    simp only [List.map_cons, List.mem_cons, not_or] at h
    unfold offK
    rw [List.filter_cons, if_pos (by simp only [bne_iff_ne, ne_eq]; exact fun e => h.1 e.symm)]
    exact congrArg _ (offK_id h.2)
theorem upd1_perm {k : Nat} {b : Blk} (b' : Blk) : ∀ {H : Hp}, (H.map (·.1)).Nodup → lk H k = some b → (upd1 k b' H).Perm ((k, b') :: offK k H)
  | [], _, h => by cases h
  | (d, v) :: t, hn, h => by
    simp only [List.map_cons, List.nodup_cons] at hn
    simp only [lk] at h
    simp only [upd1]
    by_cases e : d = k
    · subst e
      have : offK d ((d, v) :: t) = t := by
        unfold offK
        rw [List.filter_cons, if_neg (by simp)]
        exact offK_id hn.1
      rw [if_pos rfl, this]
    · rw [if_neg e] at h ⊢
      have : offK k ((d, v) :: t) = (d, v) :: offK k t := by
        unfold offK
        rw [List.filter_cons, if_pos (by simpa using e)]
      rw [this]
      exact ((upd1_perm b' hn.2 h).cons _).trans (.swap ..)
theorem upd1_same {k : Nat} {b : Blk} : ∀ {H : Hp}, lk H k = some b → upd1 k b H = H
  | [], h => by cases h
  | (d, v) :: t, h => by
    simp only [lk] at h
    simp only [upd1]
    split at h
    · rename_i e; subst e; simp at h; subst h; simp
    · rename_i e; rw [if_neg e, upd1_same h]
theorem lk_offK {k m : Nat} (h : m ≠ k) : ∀ {H : Hp}, lk (offK k H) m = lk H m
  | [] => rfl
  | (d, v) :: t => by
    unfold offK
    rw [List.filter_cons]
    by_cases e : d = k
    · rw [if_neg (by simp [e])]
      simp only [lk]
      rw [if_neg (fun e2 => h (e2.symm.trans e))]
      exact lk_offK h
    · rw [if_pos (by simpa using e)]
      simp only [lk]
      split
      · rfl
      · exact lk_offK h
theorem nd_offK {k : Nat} {H : Hp} (h : (H.map (·.1)).Nodup) : ((offK k H).map (·.1)).Nodup :=
  h.sublist (List.filter_sublist.map _)
section
variable {P : Program} [TyEnv P] {w0 w : World} {ρ : Nat → Value} {n : Nat} {t : Tm} {H : Hp} {a : Act}
theorem Rel.focus2 (h : Rel w0 w ρ n t H a) {j m q : Nat} {b c : Blk} (hj : lk H j = some b) (hm : lk H m = some c) (hjm : j ≠ m) (hq : lk H q = none) : ∃ A B Js, BR w0 (dom H) ρ (j, b) A ∧ BR w0 (dom H) ρ (m, c) B ∧ St w0 w (A :: B :: Js) ∧
    ∀ (w' : World) (b1 : Blk) (u : Value) (A' : Asn), (∀ D, BR w0 D (upρ ρ q u) (q, b1) A') → St w0 w' (A' :: Js) → Rel w0 w' (upρ ρ q u) n t (upd1 q b1 (upd1 m .dead (upd1 j .dead H))) a := by
  obtain ⟨As, h1, h2⟩ := h.hp
  have p1 : H.Perm ((j, b) :: offK j H) := by have := upd1_perm b h.nd hj; rwa [upd1_same hj] at this
  have hm1 : lk (offK j H) m = some c := by rw [lk_offK (fun e => hjm e.symm)]; exact hm
  have p2 : (offK j H).Perm ((m, c) :: offK m (offK j H)) := by have := upd1_perm c (nd_offK (k := j) h.nd) hm1; rwa [upd1_same hm1] at this
  obtain ⟨Bs, g2, g1⟩ := F2.perm (p1.trans (p2.cons _)) h1
  cases g1 with
  | @cons _ A _ l1 f1 f2 =>
    cases f2 with
    | @cons _ B _ Ks f2 f3 =>
      refine ⟨A, B, Ks, f1, f2, St.perm h2 g2, fun w' b1 u A' k1 k2 => ?_⟩
      have hqj : q ≠ j := fun e => by subst e; rw [hq] at hj; cases hj
      have hqm : q ≠ m := fun e => by subst e; rw [hq] at hm; cases hm
      have hD : ∀ i, dom H i → dom (upd1 q b1 (upd1 m .dead (upd1 j .dead H))) i ∧ upρ ρ q u i = ρ i := fun i hi => ⟨dom_upd1.2 (.inr (dom_upd1.2 (.inr (dom_upd1.2 (.inr hi))))), upρ_ne _ _ (fun e => lk_nd hq (e ▸ hi))⟩
      have nd1 := nd_upd1 j .dead h.nd
      have hmj : lk (upd1 j .dead H) m = some c := by rw [lk_upd1, if_neg (fun e => hjm e.symm)]; exact hm
      have nd2 := nd_upd1 m .dead nd1
      have hq2 : lk (upd1 m .dead (upd1 j .dead H)) q = none := by rw [lk_upd1, if_neg hqm, lk_upd1, if_neg hqj]; exact hq
      have pj := upd1_perm .dead h.nd hj
      have pm := upd1_perm .dead nd1 hmj
      have pf : (offK m (upd1 j .dead H)).Perm ((j, .dead) :: offK m (offK j H)) := by
        have := pj.filter (fun x : Nat × Blk => x.1 != m)
        have e : List.filter (fun x : Nat × Blk => x.1 != m) ((j, .dead) :: offK j H) = (j, .dead) :: offK m (offK j H) := by
          rw [List.filter_cons, if_pos (by simpa using hjm)]; rfl
        rw [e] at this; exact this
      have pall : ((q, b1) :: (m, .dead) :: (j, .dead) :: offK m (offK j H)).Perm (upd1 q b1 (upd1 m .dead (upd1 j .dead H))) := by
        rw [upd1_new b1 hq2]
        exact ((pm.trans (pf.cons _)).symm.cons _).trans (List.perm_append_singleton _ _).symm
      have hmem : ∀ x : Nat × Blk, x ∈ offK m (offK j H) → dom H x.1 := fun x hx => by
        have hx' : x ∈ H := (List.mem_filter.1 (List.mem_filter.1 hx).1).1
        exact dom_mem.2 (List.mem_map_of_mem (f := fun y : Nat × Blk => y.1) hx')
      have F : F2 (BR w0 (dom (upd1 q b1 (upd1 m .dead (upd1 j .dead H)))) (upρ ρ q u)) ((q, b1) :: (m, .dead) :: (j, .dead) :: offK m (offK j H)) (A' :: deadA :: deadA :: Ks) :=
        .cons (k1 _) (.cons rfl (.cons rfl (f3.mono fun x _ hx r => BR.ext hD (hmem x hx) r)))
      obtain ⟨Cs, c2, c1⟩ := F2.perm pall F
      refine ⟨h.sz, h.df, fun i => (h.tm i).ext hD, ⟨Cs, c1, St.perm ?_ c2⟩, nd_upd1 _ _ nd2⟩
      refine St.perm (St.dead (St.dead k2)) ?_
      exact ((List.Perm.swap ..).cons _).trans (.swap ..) |>.trans (((List.Perm.refl _)))
end
abbrev Snt := Int × Int × List (List Value)
def sntR (w : World) (x : Snt) (e : List Value) : Prop := ∃ v, e = [.int .i64 x.1, .int .i64 x.2.1, v] ∧ RB w (.sl 1 x.2.2) v
theorem sntR.ex {w w' : World} {x : Snt} {e : List Value} (h : sntR w x e) (hx : Ex w w') : sntR w' x e := by
  obtain ⟨v, h1, h2⟩ := h
  exact ⟨v, h1, RB.ex (p := .sl 1 x.2.2) h2 hx⟩
theorem sl_one {w : World} {sz : Nat} {es : List (List Value)} {u : Value} (h : RB w (.sl sz es) u) : u.oneCell' = true := by
  obtain ⟨a, cap, rfl, _⟩ := h; rfl
def snQ (xs : List Snt) : RdP where
  P w u := ∃ es, RB w (.sl 3 es) u ∧ F2 (sntR w) xs es
  ex := by
    rintro w w' u ⟨es, h1, h2⟩ hx
    exact ⟨es, RB.ex (p := .sl 3 es) h1 hx, h2.mono fun _ _ _ h => h.ex hx⟩
  one := by
    rintro w u ⟨es, h1, _⟩
    exact sl_one h1
def spQ (xs : List Snt) (i o : Nat) : RdP where
  P w u := ∃ b off es, u = .pointer (some ⟨b, off + i * 3 + o, none⟩) ∧ Cel w (some ⟨b, off, none⟩) 3 es ∧ F2 (sntR w) xs es
  ex := by
    rintro w w' u ⟨b, off, es, h1, h2, h3⟩ hx
    exact ⟨b, off, es, h1, h2.ex hx, h3.mono fun _ _ _ h => h.ex hx⟩
  one := by
    rintro w u ⟨b, off, es, rfl, _⟩
    rfl
def joinA (L : List Asn) : Asn where
  P w F := SepL w L F
  stable h hs := SepL.stable h hs
  lt h b hb := SepL.lt h b hb
theorem SepL.app {w : World} : ∀ {L M : List Asn} {F G : Nat → Prop}, SepL w L F → SepL w M G → (∀ b, F b → ¬ G b) → SepL w (L ++ M) fun b => F b ∨ G b
  | [], M, F, G, h, k, hd => by
    have : (fun b => F b ∨ G b) = G := by funext b; exact propext ⟨fun x => x.elim (fun x => (h b x).elim) id, .inr⟩
    rw [this]; exact k
  | A :: L, M, F, G, ⟨F1, F2, h1, h2, h3, h4⟩, k, hd => by
    refine ⟨F1, fun b => F2 b ∨ G b, h1, SepL.app h2 k fun b hb => hd b ((h4 b).2 (.inr hb)), fun b hb hg => ?_, fun b => ?_⟩
    · rcases hg with hg | hg
      · exact h3 b hb hg
      · exact hd b ((h4 b).2 (.inl hb)) hg
    · show (F b ∨ G b) ↔ (F1 b ∨ (F2 b ∨ G b))
      rw [h4, or_assoc]
theorem SepL.unapp {w : World} : ∀ {L M : List Asn} {F : Nat → Prop}, SepL w (L ++ M) F → ∃ F1 F2, SepL w L F1 ∧ SepL w M F2 ∧ (∀ b, F1 b → ¬ F2 b) ∧ ∀ b, F b ↔ (F1 b ∨ F2 b)
  | [], M, F, h => ⟨fun _ => False, F, fun _ h => h, h, fun _ h => h.elim, fun b => ⟨.inr, fun x => x.elim False.elim id⟩⟩
  | A :: L, M, F, ⟨F1, F2, h1, h2, h3, h4⟩ => by
    obtain ⟨G1, G2, g1, g2, g3, g4⟩ := SepL.unapp h2
    refine ⟨fun b => F1 b ∨ G1 b, G2, ⟨F1, G1, h1, g1, fun b hb hg => h3 b hb ((g4 b).2 (.inl hg)), fun _ => Iff.rfl⟩, g2, fun b hb hg => ?_, fun b => ?_⟩
    · rcases hb with hb | hb
      · exact h3 b hb ((g4 b).2 (.inr hg))
      · exact g3 b hb hg
    · rw [h4, g4, or_assoc]
section
variable {w0 w : World} {Js : List Asn}
theorem _root_.Go.St.joinL {L : List Asn} (h : St w0 w (L ++ Js)) : St w0 w (joinA L :: Js) := by
  obtain ⟨h1, F, h2, h3⟩ := h
  obtain ⟨F1, F2, g1, g2, g3, g4⟩ := SepL.unapp h2
  exact ⟨h1, F, ⟨F1, F2, g1, g2, g3, g4⟩, h3⟩
theorem _root_.Go.St.unjoin {L : List Asn} (h : St w0 w (joinA L :: Js)) : St w0 w (L ++ Js) := by
  obtain ⟨h1, F, ⟨F1, F2, g1, g2, g3, g4⟩, h3⟩ := h
  have := SepL.app (L := L) (M := Js) g1 g2 g3
  refine ⟨h1, _, this, fun b hb => h3 b ((g4 b).2 hb)⟩
end
def sntC : List Snt → List Value → List (List Value)
  | x :: xs, v :: vs => [.int .i64 x.1, .int .i64 x.2.1, v] :: sntC xs vs
  | _, _ => []
def sntO (E' : TypeId) : List Snt → List Value → List Asn
  | x :: xs, v :: vs => slotA E' 1 v x.2.2.length x.2.2.flatten :: sntO E' xs vs
  | _, _ => []
def fl1 (es : List (List Value)) : Prop := ∀ e ∈ es, e.length = 1 ∧ e.all (·.oneCell') = true
theorem sntC_len : ∀ {xs : List Snt} {vs : List Value}, vs.length = xs.length → (sntC xs vs).length = xs.length
  | [], [], _ => rfl
  | x :: xs, v :: vs, h => by simp only [sntC, List.length_cons]; rw [sntC_len (by simpa using h)]
theorem sntC_app {x : Snt} {v : Value} : ∀ {xs : List Snt} {vs : List Value}, vs.length = xs.length → sntC (xs ++ [x]) (vs ++ [v]) = sntC xs vs ++ [[.int .i64 x.1, .int .i64 x.2.1, v]]
  | [], [], _ => rfl
  | y :: xs, u :: vs, h => by simp only [sntC, List.cons_append]; rw [sntC_app (by simpa using h)]
theorem sntO_app {E' : TypeId} {x : Snt} {v : Value} : ∀ {xs : List Snt} {vs : List Value}, vs.length = xs.length → sntO E' (xs ++ [x]) (vs ++ [v]) = sntO E' xs vs ++ [slotA E' 1 v x.2.2.length x.2.2.flatten]
  | [], [], _ => rfl
  | y :: xs, u :: vs, h => by simp only [sntO, List.cons_append]; rw [sntO_app (by simpa using h)]
theorem slot_RB {w : World} {E : TypeId} {sz : Nat} {v : Value} {es : List (List Value)} (h : Slot 0 w E sz v es.length es.flatten) (hes : ∀ e ∈ es, e.length = sz ∧ e.all (·.oneCell') = true) : RB w (.sl sz es) v := by
  obtain ⟨hl, ⟨hv, h0⟩ | ⟨b, off, cap, cur, hv, _, hb, c1, c2, c3, c4⟩⟩ := h
  · have : es = [] := List.eq_nil_of_length_eq_zero h0
    subst this
    exact ⟨none, 0, by rw [hv]; rfl, Nat.le_refl _, Nat.zero_le _, hes, fun h => (h rfl).elim⟩
  · refine ⟨some ⟨b, off, none⟩, cap, hv, c1, c2, hes, fun _ => ⟨b, off, rfl, fun i e he j hj => ?_⟩⟩
    have hi := (List.getElem?_eq_some_iff.1 he).1
    have := Nat.mul_le_mul_right sz (show i + 1 ≤ es.length from hi)
    rw [Nat.succ_mul] at this
    rw [cell_row hb, Nat.add_assoc, c4 (i * sz + j) (by omega), flat_at hes he hj]
theorem sntO_read {E' : TypeId} {w : World} : ∀ {xs : List Snt} {vs : List Value} {F : Nat → Prop}, vs.length = xs.length → (∀ x ∈ xs, fl1 x.2.2) → SepL w (sntO E' xs vs) F → F2 (sntR w) xs (sntC xs vs) ∧ ∀ v ∈ vs, v.oneCell' = true
  | [], [], _, _, _, _ => ⟨.nil, fun v h => (by cases h)⟩
  | x :: xs, v :: vs, F, hl, hf, ⟨F1, F2, h1, h2, _, _⟩ => by
    obtain ⟨r1, r2⟩ := sntO_read (by simpa using hl) (fun y hy => hf y (List.mem_cons_of_mem _ hy)) h2
    have hr : RB w (.sl 1 x.2.2) v := slot_RB h1.1 (hf x (List.mem_cons_self ..))
    refine ⟨.cons ⟨v, rfl, hr⟩ r1, fun u hu => ?_⟩
    rcases List.mem_cons.1 hu with rfl | hu
    · exact sl_one hr
    · exact r2 u hu
theorem sntC_ok : ∀ {xs : List Snt} {vs : List Value}, (∀ v ∈ vs, v.oneCell' = true) → ∀ e ∈ sntC xs vs, e.length = 3 ∧ e.all (·.oneCell') = true
  | [], _, _, e, he => by cases he
  | _ :: _, [], _, e, he => by cases he
  | x :: xs, v :: vs, h, e, he => by
    simp only [sntC, List.mem_cons] at he
    rcases he with rfl | he
    · have := h v (List.mem_cons_self ..)
      exact ⟨rfl, by simp only [List.all_cons, List.all_nil, this, Bool.and_true]; rfl⟩
    · exact sntC_ok (fun u hu => h u (List.mem_cons_of_mem _ hu)) e he
def sntA (E E' : TypeId) (xs : List Snt) (v : Value) : Asn where
  P w F := (∀ x ∈ xs, fl1 x.2.2) ∧ ∃ vs : List Value, vs.length = xs.length ∧ SepL w (slotA E 3 v xs.length (sntC xs vs).flatten :: sntO E' xs vs) F
  stable := by
    rintro w w' F ⟨h0, vs, h1, h2⟩ hs
    exact ⟨h0, vs, h1, SepL.stable h2 hs⟩
  lt := by
    rintro w F ⟨h0, vs, h1, h2⟩ b hb
    exact SepL.lt h2 b hb
def sntOw (E E' : TypeId) (xs : List Snt) : OwP where
  A := sntA E E' xs
  Q := snQ xs
  rd := by
    rintro w F v ⟨h0, vs, h1, F1, F2, h2, h3, _, _⟩
    obtain ⟨r1, r2⟩ := sntO_read h1 h0 h3
    refine ⟨sntC xs vs, slot_RB (E := E) ?_ (sntC_ok r2), r1⟩
    rw [sntC_len h1]
    exact h2.1
def litA (E E' : TypeId) (x : Snt) (v : Value) : Asn where
  P w F := fl1 x.2.2 ∧ ∃ b u, v = .slice (some ⟨b, 0, none⟩) 1 1 ∧ SepL w [rowA b [.int .i64 x.1, .int .i64 x.2.1, u] E, slotA E' 1 u x.2.2.length x.2.2.flatten] F
  stable := by
    rintro w w' F ⟨h0, b, u, h1, h2⟩ hs
    exact ⟨h0, b, u, h1, SepL.stable h2 hs⟩
  lt := by
    rintro w F ⟨h0, b, u, h1, h2⟩ c hc
    exact SepL.lt h2 c hc
def litOw (E E' : TypeId) (x : Snt) : OwP where
  A := litA E E' x
  Q := ⟨fun w u => u.oneCell' = true, fun h _ => h, fun h => h⟩
  rd := by
    rintro w F v ⟨h0, b, u, rfl, _⟩
    rfl
theorem snt_nil (E E' : TypeId) (w : World) : (sntA E E' [] (.slice none 0 0)).P w fun _ => False :=
  ⟨fun x h => (by cases h), [], rfl, fun _ => False, fun _ => False, ⟨⟨by simp [sntC], .inl ⟨rfl, rfl⟩⟩, fun b => by simp [Value.blk]⟩, fun _ h => h, fun _ h => h.elim, fun b => by simp⟩
theorem snt_arr {E E' : TypeId} {v : Value} {w : World} {F : Nat → Prop} (h : (slotA E 3 v 0 []).P w F) : (sntA E E' [] v).P w F :=
  ⟨fun x h => (by cases h), [], rfl, F, fun _ => False, h, fun _ h => h, fun _ _ h => h, fun b => by simp⟩
theorem _root_.Go.St.drop1 {w0 w : World} {A : Asn} {Js : List Asn} (h : St w0 w (A :: Js)) : St w0 w Js := by
  obtain ⟨h1, F, ⟨F1, F2, _, g2, _, g4⟩, h3⟩ := h
  exact ⟨h1, F2, g2, fun b hb => h3 b ((g4 b).2 (.inr hb))⟩
theorem _root_.Go.St.snt_o {w0 w : World} {E E' : TypeId} {xs : List Snt} {v : Value} {Js : List Asn} (h : St w0 w (sntA E E' xs v :: Js)) : (∀ x ∈ xs, fl1 x.2.2) ∧ ∃ vs : List Value, vs.length = xs.length ∧ St w0 w (slotA E 3 v xs.length (sntC xs vs).flatten :: (sntO E' xs vs ++ Js)) := by
  obtain ⟨h1, F, ⟨F1, F2, ⟨h0, vs, k1, k2⟩, k3, k4, k5⟩, g3⟩ := h
  exact ⟨h0, vs, k1, St.unjoin (L := slotA E 3 v xs.length (sntC xs vs).flatten :: sntO E' xs vs) ⟨h1, F, ⟨F1, F2, k2, k3, k4, k5⟩, g3⟩⟩
theorem _root_.Go.St.lit_o {w0 w : World} {E E' : TypeId} {x : Snt} {v : Value} {Js : List Asn} (h : St w0 w (litA E E' x v :: Js)) : fl1 x.2.2 ∧ ∃ b u, v = .slice (some ⟨b, 0, none⟩) 1 1 ∧ St w0 w (rowA b [.int .i64 x.1, .int .i64 x.2.1, u] E :: slotA E' 1 u x.2.2.length x.2.2.flatten :: Js) := by
  obtain ⟨h1, F, ⟨F1, F2, ⟨h0, b, u, k1, k2⟩, k3, k4, k5⟩, g3⟩ := h
  exact ⟨h0, b, u, k1, St.unjoin (L := [rowA b [.int .i64 x.1, .int .i64 x.2.1, u] E, slotA E' 1 u x.2.2.length x.2.2.flatten]) ⟨h1, F, ⟨F1, F2, k2, k3, k4, k5⟩, g3⟩⟩
section
variable {P : Program} [TyEnv P] {o : Oper} {rd : Nat → AV} {T e : TypeId} {i : TyI} {k j m : Nat}
theorem tri_lenQ {x : Operand} {xs : List Snt} (ho : o.op = .call { callee := .builtin .len, args := #[x], argTypes := #[T] }) (hi : TyEnv.ti P T = some i) (hk : i.k = .slice e) (hx : evo rd x = .one (.rd (snQ xs))) : Tri P o rd [] (.one (.v (.int .i64 xs.length))) [] := by
  refine tri_pure fun w0 w D ρ ac hh hex => ?_
  have h1 := hh x (by simp [ho, Op.operands, Call.operands])
  rw [hx] at h1
  obtain ⟨es, ⟨A, c, h1, _⟩, h2⟩ := h1
  refine ⟨_, ?_, ar_v rfl⟩
  have hu := ty_slice hi hk
  have := run_len_slice (P := P) w T o.type A es.length c (by rw [elem_of hu]; exact hu)
  rw [h2.len]
  simp [execOp, ho, resolve, invoke, builtin, h1, this, goInt]
theorem tri_ixQ {x y : Operand} {xs : List Snt} {ei : TyI} {n : Int} (ho : o.op = .indexAddr T x y) (hi : TyEnv.ti P T = some i) (hk : i.k = .slice e) (he : TyEnv.ti P e = some ei) (hsz : ei.size = 3) (hx : evo rd x = .one (.rd (snQ xs))) (hy : evo rd y = .one (.v (.int .i64 n))) (h0 : 0 ≤ n ∧ n < xs.length) : Tri P o rd [] (.one (.rd (spQ xs n.toNat 0))) [] := by
  refine tri_pure fun w0 w D ρ a hh hex => ?_
  have h1 := hh x (by simp [ho, Op.operands])
  have h2 := hh y (by simp [ho, Op.operands])
  rw [hx] at h1; rw [hy] at h2
  obtain ⟨es, ⟨A, c, h1, _, _, hc⟩, hF⟩ := h1
  have hl := hF.len
  have hu := ty_slice hi hk
  obtain ⟨b, off, rfl, _⟩ := hc.2 (fun h => by subst h; simp at hl; subst hl; simp at h0; omega)
  have := run_indexAt_slice (P := P) w T ⟨b, off, none⟩ es.length c .i64 n (by rw [elem_of hu]; exact hu)
  rw [if_pos (by omega), elem_of hu, size_run he] at this
  simp only [Result.andThen_ok, add_plain] at this
  exact ⟨.pointer (some ⟨b, off + n.toNat * ei.size, none⟩), by simp only [execOp, ho, h1, AR.int h2, Sem.run_bind, this, Result.andThen_ok, Sem.run_pure], b, off, es, by rw [hsz, Nat.add_zero], hc, hF⟩
def sntP (x : Snt) : List PV := [.v (.int .i64 x.1), .v (.int .i64 x.2.1), .sl 1 x.2.2]
theorem tri_ldQ {x : Operand} {xs : List Snt} {y : Snt} {f : Nat} {v : AV} (ho : o.op = .load T x) (hi : TyEnv.ti P T = some i) (hx : evo rd x = .one (.rd (spQ xs j f))) (hy : xs[j]? = some y) (hv : mkv i ((sntP y).drop f) = some v) : Tri P o rd [] v [] := by
  intro w0 w ρ n t H a Q hr ht hrs hfr hd
  have hx' := hr.ev x
  rw [evo_of (o := o) (by rw [ho]; simp [Op.operands]) ht, hx] at hx'
  obtain ⟨b, off, es, hx', hc, hF⟩ := hx'
  obtain ⟨As, h2, _⟩ := hr.parts
  obtain ⟨e, he, u, rfl, hu⟩ := hF.get hy
  obtain ⟨b', off', e1, e2⟩ := (hc.ex h2.ex).2 (fun h => by subst h; simp at he)
  simp only [Option.some.injEq, Addr.mk.injEq, and_true] at e1
  obtain ⟨rfl, rfl⟩ := e1
  have hF2 : F2 (R w0 (dom H) ρ) (sntP y) [.int .i64 y.1, .int .i64 y.2.1, u] := .cons ⟨rfl, rfl⟩ (.cons ⟨rfl, rfl⟩ (.cons hu .nil))
  have hm := mkv_R (w0 := w0) (D := dom H) (ρ := ρ) hv (hF2.drop f)
  refine wp_loadX ho hi hx' (us := [Value.int .i64 y.1, .int .i64 y.2.1, u].drop f) (fun m v hm => ?_) hm fun u hu => ⟨ρ, hr.put hu hd⟩
  rw [List.getElem?_drop] at hm
  have hlt := (List.getElem?_eq_some_iff.1 hm).1
  rw [Nat.add_assoc, e2 j _ he (f + m) (by simpa using hlt)]
  exact hm
theorem tri_fieldQ {x : Operand} {f off fsz g0 : Nat} {xs : List Snt} {fs : List (Nat × Nat)} (ho : o.op = .fieldAddr T x f) (hi : TyEnv.ti P T = some i) (hk : i.k = .struct fs) (hf : fs[f]? = some (off, fsz)) (h0 : 0 < fsz) (hx : evo rd x = .one (.rd (spQ xs j g0))) : Tri P o rd [] (.one (.rd (spQ xs j (g0 + off)))) [] := by
  refine tri_pure fun w0 w D ρ ac hh hex => ?_
  have h1 := hh x (by simp [ho, Op.operands])
  rw [hx] at h1
  have hkd := ty_kind hi
  rw [hk] at hkd
  obtain ⟨hu, hfs, hall⟩ := hkd
  rw [← hfs, List.getElem?_map, Option.map_eq_some_iff] at hf
  obtain ⟨fd, hfd, he⟩ := hf
  simp only [Prod.mk.injEq] at he
  obtain ⟨rfl, hsz⟩ := he
  have hin := List.all_eq_true.1 hall fd (List.mem_of_getElem? hfd)
  obtain ⟨inf, hinf⟩ := Option.isSome_iff_exists.1 hin
  rw [hinf] at hsz
  simp only [Option.map_some, Option.getD_some] at hsz
  have hfd' : (P.fieldsOf T)[f]? = some fd := by rw [← Array.getElem?_toList]; exact hfd
  have key : ∀ b g, (Instr.fieldAt T (.pointer (some ⟨b, g, none⟩)) f).run P w = .ok (.pointer (some ⟨b, g + fd.offset, none⟩)) w := by
    intro b g
    have hs : (sizeOf fd.type).run P w = .ok fsz w := by simp [sizeOf, typeInfo, hinf, hsz]
    have hne : ¬ fsz = 0 := by omega
    simp [Instr.fieldAt, Sem.run_bind, run_underlying hu, hfd', Instr.sureAddr, fieldPlace, hs, hne, add_plain]
  obtain ⟨b, g, es, hx', hc, hF⟩ := h1
  exact ⟨.pointer (some ⟨b, _, none⟩), by simp only [execOp, ho, hx', Sem.run_bind, key, Result.andThen_ok, Sem.run_pure]; rfl, b, g, es, by rw [Nat.add_assoc], hc, hF⟩
theorem tri_litQ {E' : TypeId} {ei : TyI} {y : Operand} {p q : Int} {es : List (List Value)} (ho : o.op = .buildSlice T 1 #[(0, y)]) (hi : TyEnv.ti P T = some i) (hk : i.k = .slice e) (hei : TyEnv.ti P e = some ei) (hsz : ei.size = 3) (hy : evo rd y = .agg [.v (.int .i64 p), .v (.int .i64 q), .hs m]) (hkm : k ≠ m) : Tri P o rd [(m, .arr E' 1 es)] (.one (.hs k)) [(m, .dead), (k, .own (litOw e E' (p, q, es)))] := by
  intro w0 w ρ n t H a Q hr ht hrs hfr hd
  have hlm := hrs m _ (List.mem_cons_self ..)
  have hlk : lk H k = none := (hfr k _ (List.mem_cons_of_mem _ (List.mem_cons_self ..))).resolve_left (by
    rintro ⟨b, hb⟩
    simp only [List.mem_singleton, Prod.mk.injEq] at hb
    exact hkm hb.1)
  obtain ⟨A, Js, ⟨hes, rfl⟩, h2, _, h4⟩ := hr.focus hlm
  have hu : P.underlying T = some (.slice e) := by have := ty_kind hi; rw [hk] at this; exact this
  obtain ⟨z, hz, _⟩ := ty_info hei
  have hy' := hr.ev y
  rw [evo_of (o := o) (by rw [ho]; simp [Op.operands]) ht, hy] at hy'
  obtain ⟨us, hus, hF⟩ := hy'
  cases hF with
  | cons f1 hF =>
    cases hF with
    | cons f2 hF =>
      cases hF with
      | cons f3 hF =>
        cases hF
        obtain ⟨rfl, _⟩ := f1
        obtain ⟨rfl, _⟩ := f2
        obtain ⟨hD, rfl, _⟩ := f3
        refine wp_bsliceN_st T 1 #[(0, y)] ho e hu hz (ty_pos hei) [y] rfl rfl (by omega) (by rw [hsz]; decide) (vs := [.agg [.int .i64 p, .int .i64 q, ρ m].toArray]) (by simp [hus]) (by rw [hsz]; rfl) (cs := [.int .i64 p, .int .i64 q, ρ m]) rfl h2 fun w' b hb hS => ?_
        have g := h4 w' k (.own (litOw e E' (p, q, es))) (.slice (some ⟨b, 0, none⟩) 1 1) (litA e E' (p, q, es) (.slice (some ⟨b, 0, none⟩) 1 1)) hlk (fun D => by show _ = litA e E' (p, q, es) (upρ ρ k _ k); rw [upρ_self]) ?_
        · exact ⟨_, g.put ⟨dom_upd1.2 (.inl rfl), (upρ_self ..).symm, rfl⟩ hd⟩
        · have hJ := St.joinL (L := [_, _]) hS
          exact hJ.same fun F hF => ⟨F, ⟨hes, b, ρ m, rfl, hF⟩, fun _ h => h⟩
theorem tri_appQ {E' : TypeId} {ei : TyI} {x y : Operand} {xs : List Snt} {s : Snt} (ho : o.op = .call { callee := .builtin .append, args := #[x, y], argTypes := #[T, T] }) (hi : TyEnv.ti P T = some i) (hk : i.k = .slice e) (hei : TyEnv.ti P e = some ei) (hsz : ei.size = 3) (hx : evo rd x = .one (.hs j)) (hy : evo rd y = .one (.hs m))
    (hm : xs.length + 1 ≤ maxLen) (hb : (xs.length + 1) * ei.bytes ≤ 140737488355328) (hjm : j ≠ m) (hkj : k ≠ j) (hkm : k ≠ m) : Tri P o rd [(j, .own (sntOw e E' xs)), (m, .own (litOw e E' s))] (.one (.hs k)) [(j, .dead), (m, .dead), (k, .own (sntOw e E' (xs ++ [s])))] := by
  intro w0 w ρ n t H a Q hr ht hrs hfr hd
  have hlj := hrs j _ (List.mem_cons_self ..)
  have hlm := hrs m _ (List.mem_cons_of_mem _ (List.mem_cons_self ..))
  have hlk : lk H k = none := (hfr k _ (List.mem_cons_of_mem _ (List.mem_cons_of_mem _ (List.mem_cons_self ..)))).resolve_left (by
    rintro ⟨b, hb⟩
    simp only [List.mem_cons, Prod.mk.injEq, List.not_mem_nil, or_false] at hb
    rcases hb with hb | hb
    · exact hkj hb.1
    · exact hkm hb.1)
  obtain ⟨A, B, Js, hA, hB, h2, h4⟩ := hr.focus2 hlj hlm hjm hlk
  have hA' : A = sntA e E' xs (ρ j) := hA
  have hB' : B = litA e E' s (ρ m) := hB
  subst hA' hB'
  have hu : P.underlying T = some (.slice e) := by have := ty_kind hi; rw [hk] at this; exact this
  obtain ⟨z, hz, _⟩ := ty_info hei
  have hx' := hr.ev x
  rw [evo_of (o := o) (by rw [ho]; simp [Op.operands, Call.operands]) ht, hx] at hx'
  obtain ⟨_, hx', _⟩ := hx'
  have hy' := hr.ev y
  rw [evo_of (o := o) (by rw [ho]; simp [Op.operands, Call.operands]) ht, hy] at hy'
  obtain ⟨_, hy', _⟩ := hy'
  obtain ⟨hF0, vs, hvl, s1⟩ := h2.snt_o
  have s2 : St w0 w (litA e E' s (ρ m) :: (slotA e 3 (ρ j) xs.length (sntC xs vs).flatten :: (sntO E' xs vs ++ Js))) := St.perm s1 (List.perm_middle (l₁ := slotA e 3 (ρ j) xs.length (sntC xs vs).flatten :: sntO E' xs vs))
  obtain ⟨hG0, b, u, hv, s3⟩ := s2.lit_o
  have s4 : St w0 w (slotA e 3 (ρ j) xs.length (sntC xs vs).flatten :: rowA b [.int .i64 s.1, .int .i64 s.2.1, u] e :: slotA E' 1 u s.2.2.length s.2.2.flatten :: (sntO E' xs vs ++ Js)) := St.perm s3 (((List.Perm.swap _ _ _).cons _).trans (.swap _ _ _))
  have hone : u.oneCell' = true := by
    obtain ⟨F, hF⟩ := (s4.take (.tail (.tail .head))).head
    exact sl_one (slot_RB hF.1 hG0)
  have hrow := s4.row (.tail .head)
  rw [hv] at hy'
  have hsrc : Src P 3 T (a.eval y) 1 [.int .i64 s.1, .int .i64 s.2.1, u] w := by
    rw [hy']
    exact src_cells (new := [[.int .i64 s.1, .int .i64 s.2.1, u]]) hu (fun e' he => by simp only [List.mem_singleton] at he; subst he; exact ⟨rfl, by simp only [List.all_cons, List.all_nil, hone, Bool.and_true]; rfl⟩) rfl fun q hq => by
      rw [cell_row hrow]
      simp
  rw [← hsz] at hsrc s4
  refine wp_app_st x y T T ho e hu hz hx' s4 .head rfl hsrc hm hb fun A c w' hsz' hS => ?_
  rw [hsz] at hS
  have hS2 : St w0 w' ((slotA e 3 (.slice A (xs.length + 1) c) (xs.length + 1) ((sntC xs vs).flatten ++ [.int .i64 s.1, .int .i64 s.2.1, u]) :: (sntO E' xs vs ++ [slotA E' 1 u s.2.2.length s.2.2.flatten])) ++ Js) := by
    have := (St.perm hS (.swap _ _ _)).drop1
    refine St.perm this ?_
    refine List.Perm.cons _ ?_
    show List.Perm _ ((sntO E' xs vs ++ [slotA E' 1 u s.2.2.length s.2.2.flatten]) ++ Js)
    rw [List.append_assoc]
    exact (List.perm_middle (l₁ := sntO E' xs vs) (l₂ := Js)).symm
  have hS3 : St w0 w' (sntA e E' (xs ++ [s]) (.slice A (xs.length + 1) c) :: Js) := by
    refine hS2.joinL.same fun F hF => ⟨F, ⟨fun x hx => ?_, vs ++ [u], by simp [hvl], ?_⟩, fun _ h => h⟩
    · rcases List.mem_append.1 hx with hx | hx
      · exact hF0 x hx
      · simp only [List.mem_singleton] at hx; subst hx; exact hG0
    · rw [sntC_app hvl, sntO_app hvl, List.length_append, List.flatten_append]
      exact hF
  have g := h4 w' (.own (sntOw e E' (xs ++ [s]))) (.slice A (xs.length + 1) c) _ (fun D => by show _ = sntA e E' (xs ++ [s]) (upρ ρ k _ k); rw [upρ_self]) hS3
  exact ⟨_, g.put ⟨dom_upd1.2 (.inl rfl), (upρ_self ..).symm, rfl⟩ hd⟩
end
end Go.Vc
end
section
namespace Go.Vc
open Go Go.RowKit
set_option linter.unusedVariables false
set_option linter.unusedSectionVars false
set_option linter.unusedSimpArgs false
set_option linter.unnecessarySimpa false
abbrev Sn := Int × Int × List Int
def snE (x : Sn) : Snt := (x.1, x.2.1, x.2.2.map intE)
section
variable {P : Program} [TyEnv P] {o : Oper} {rd : Nat → AV} {T e : TypeId} {i : TyI} {j : Nat}
theorem equalIn_nil (w : World) (d : Nat) (t e : TypeId) (a : Option Addr) (l c : Nat) (h : P.underlying t = some (.slice e)) : (Op.equalIn (d + 1) t (.slice a l c) (.slice none 0 0)).run P w = .ok a.isNone w := by
  cases a <;> simp [Op.equalIn, run_underlying h]
theorem equal_nil (w : World) (t e : TypeId) (a : Option Addr) (l c : Nat) (h : P.underlying t = some (.slice e)) : (Op.equal t (.slice a l c) (.slice none 0 0)).run P w = .ok a.isNone w := equalIn_nil w 9999 t e a l c h
theorem tri_eqNilH {E T' : TypeId} {sz : Nat} {es : List (List Value)} {x : Operand} (ho : o.op = .binOp .eql T x (.const (.slice none 0 0)) T') (hi : TyEnv.ti P T = some i) (hk : i.k = .slice e) (hx : evo rd x = .one (.hs j)) (hne : 0 < es.length) : Tri P o rd [(j, .arr E sz es)] (.one (.v (.bool false))) [] := by
  refine tri_head (by simp [ho, Op.operands]) hx fun w0 w D ρ a A c hh hD hx' hρ hA => ?_
  obtain ⟨b, off, rfl⟩ := hA hne
  have hu := ty_slice hi hk
  have hc : a.eval (.const (.slice none 0 0)) = .slice none 0 0 := rfl
  have := equal_nil (P := P) w T e (some ⟨b, off, none⟩) es.length c hu
  refine ⟨_, ?_, ar_v rfl⟩
  generalize a.eval = f at hx' hc ⊢
  simp [execOp, ho, hx', hc, go_sem, binOp, eqGuard, this]
theorem tri_eqNilN {T' : TypeId} {x : Operand} (ho : o.op = .binOp .eql T x (.const (.slice none 0 0)) T') (hi : TyEnv.ti P T = some i) (hk : i.k = .slice e) (hx : evo rd x = .one .nil) : Tri P o rd [] (.one (.v (.bool true))) [] := by
  refine tri_pure fun w0 w D ρ a hh hex => ?_
  have h1 := hh x (by simp [ho, Op.operands])
  rw [hx] at h1
  have h1 : a.eval x = .slice none 0 0 := h1
  have hu := ty_slice hi hk
  have hc : a.eval (.const (.slice none 0 0)) = .slice none 0 0 := rfl
  have := equal_nil (P := P) w T e none 0 0 hu
  refine ⟨_, ?_, ar_v rfl⟩
  clear hh
  generalize a.eval = f at h1 hc ⊢
  simp [execOp, ho, h1, hc, go_sem, binOp, eqGuard, this]
end
section
variable {P : Program} [TyEnv P] {n : Nat} {ops os : List Oper} {dr : Bool} {K : Tm → Hp → Prop} {t t' : Tm} {H H' : Hp} {fp : List Fp} {o : Oper} {k1 k2 : List Nat} {T e : TypeId} {i ei : TyI} {x y : Operand}
theorem good_of {v : AV} {δ rs : Hp} (h : Tri P o (gt t) rs v δ) (h1 : ∀ k b, (k, b) ∈ rs → lk H k = some b) (h2 : ∀ k b, (k, b) ∈ δ → (∃ b', (k, b') ∈ rs) ∨ lk H k = none) : Good P o (gt t) H v δ rs := ⟨h, h1, h2⟩
theorem vql {xs : List Snt} (h : Vd P n ops dr K os t' H' ((k1, k2) :: fp)) (hd : dstB o.dst n = true := by rfl) (hg : o.guard = none := by rfl) (ho : o.op = .call { callee := .builtin .len, args := #[x], argTypes := #[T] } := by rfl) (hi : TyEnv.ti P T = some i := by rfl) (hk : i.k = .slice e := by rfl) (hx : evo (gt t) x = .one (.rd (snQ xs)) := by rfl)
    (ht : stF o.dst (.one (.v (.int .i64 xs.length))) [] [] t H = some (t', H', k1, k2) := by rfl) : Vd P n ops dr K (o :: os) t H fp := vd_plain hd hg (good0 (tri_lenQ ho hi hk hx)) ht h
theorem vqx {ws : List Sn} {m : Int} (h : Vd P n ops dr K os t' H' ((k1, k2) :: fp)) (hd : dstB o.dst n = true := by rfl) (hg : o.guard = none := by rfl) (ho : o.op = .indexAddr T x y := by rfl) (hi : TyEnv.ti P T = some i := by rfl) (hk : i.k = .slice e := by rfl) (he : TyEnv.ti P e = some ei := by rfl) (hz : ei.size = 3 := by rfl) (hx : evo (gt t) x = .one (.rd (snQ (ws.map snE))) := by rfl) (hy : evo (gt t) y = .one (.v (.int .i64 m)) := by rfl)
    (ht : stF o.dst (.one (.rd (spQ (ws.map snE) m.toNat 0))) [] [] t H = some (t', H', k1, k2) := by rfl) (hs : 0 ≤ m ∧ m < ws.length := by omega) : Vd P n ops dr K (o :: os) t H fp := vd_plain hd hg (good0 (tri_ixQ ho hi hk he hz hx hy (by rw [List.length_map]; exact hs))) ht h
theorem vepS {d j f : Nat} {xs : List Snt} (h : Vd P n ops dr K os ((d, .one (.rd (spQ xs j f))) :: t) H fp) : Vd P n ops dr K os ((d, .one (.rd (spQ xs (j : Int).toNat f))) :: t) H fp := h
theorem vqf {xs : List Snt} {j f off fsz g0 g1 : Nat} {fs : List (Nat × Nat)} (h : Vd P n ops dr K os t' H' ((k1, k2) :: fp)) (hd : dstB o.dst n = true := by rfl) (hg : o.guard = none := by rfl) (ho : o.op = .fieldAddr T x f := by rfl) (hi : TyEnv.ti P T = some i := by rfl) (hk : i.k = .struct fs := by rfl) (hf : fs[f]? = some (off, fsz) := by rfl) (h0 : Nat.blt 0 fsz = true := by rfl) (hx : evo (gt t) x = .one (.rd (spQ xs j g0)) := by rfl) (h1 : g0 + off = g1 := by rfl)
    (ht : stF o.dst (.one (.rd (spQ xs j g1))) [] [] t H = some (t', H', k1, k2) := by rfl) : Vd P n ops dr K (o :: os) t H fp := vd_plain hd hg (good0 (h1 ▸ tri_fieldQ ho hi hk hf (by simp [Nat.blt] at h0; omega) hx)) ht h
theorem vlnS {d : Nat} {ws : List Sn} (h : Vd P n ops dr K os ((d, .one (.v (.int .i64 (ws.length : Int)))) :: t) H fp) : Vd P n ops dr K os ((d, .one (.v (.int .i64 ((ws.map snE).length : Int)))) :: t) H fp := by
  rw [List.length_map]; exact h
theorem vqd {ws : List Sn} {j f : Nat} {v : AV} (h : Vd P n ops dr K os t' H' ((k1, k2) :: fp)) (hd : dstB o.dst n = true := by rfl) (hg : o.guard = none := by rfl) (ho : o.op = .load T x := by rfl) (hi : TyEnv.ti P T = some i := by rfl) (hx : evo (gt t) x = .one (.rd (spQ (ws.map snE) j f)) := by rfl)
    (hv : mkv i (([V (at' ws j).1, V (at' ws j).2.1, .sl 1 ((at' ws j).2.2.map intE)] : List PV).drop f) = some v := by rfl) (ht : stF o.dst v [] [] t H = some (t', H', k1, k2) := by rfl) (hs : j < ws.length := by omega) : Vd P n ops dr K (o :: os) t H fp :=
  vd_plain hd hg (good0 (tri_ldQ (y := snE (at' ws j)) ho hi hx (by
    rw [List.getElem?_map, List.getElem?_eq_getElem hs]
    have : at' ws j = ws[j] := by unfold at'; rw [List.getElem?_eq_getElem hs]; rfl
    rw [this]; rfl) hv)) ht h
theorem vqb {E' : TypeId} {d k m : Nat} {p q : Int} {es : List (List Value)} (h : Vd P n ops dr K os t' H' ((k1, k2) :: fp)) (hd : dstB o.dst n = true := by rfl) (hg : o.guard = none := by rfl) (ho : o.op = .buildSlice T 1 #[(0, y)] := by rfl) (hi : TyEnv.ti P T = some i := by rfl) (hk : i.k = .slice e := by rfl) (he : TyEnv.ti P e = some ei := by rfl) (hz : ei.size = 3 := by rfl) (hy : evo (gt t) y = .agg [.v (.int .i64 p), .v (.int .i64 q), .hs m] := by rfl)
    (hl : lk H m = some (.arr E' 1 es) := by rfl) (hdd : o.dst = some d := by rfl) (hkk : 8 * d = k := by rfl) (hf : lk H k = none := by rfl) (hne : Nat.beq k m = false := by rfl) (ht : stF o.dst (.one (.hs k)) [(m, .dead), (k, .own (litOw e E' (p, q, es)))] [(m, .arr E' 1 es)] t H = some (t', H', k1, k2) := by rfl) : Vd P n ops dr K (o :: os) t H fp :=
  vd_plain hd hg (good_of (tri_litQ ho hi hk he hz hy (Nat.ne_of_beq_eq_false hne)) (fun a b hb => by
    simp only [List.mem_singleton, Prod.mk.injEq] at hb; obtain ⟨rfl, rfl⟩ := hb; exact hl) fun a b hb => by
    simp only [List.mem_cons, Prod.mk.injEq, List.not_mem_nil, or_false] at hb
    rcases hb with ⟨rfl, rfl⟩ | ⟨rfl, rfl⟩
    · exact .inl ⟨_, List.mem_singleton.2 rfl⟩
    · exact .inr hf) ht h
theorem vqa {E' : TypeId} {d k m j : Nat} {xs : List Snt} {s : Snt} (h : Vd P n ops dr K os t' H' ((k1, k2) :: fp)) (hd : dstB o.dst n = true := by rfl) (hg : o.guard = none := by rfl) (ho : o.op = .call { callee := .builtin .append, args := #[x, y], argTypes := #[T, T] } := by rfl) (hi : TyEnv.ti P T = some i := by rfl) (hk : i.k = .slice e := by rfl) (he : TyEnv.ti P e = some ei := by rfl) (hz : ei.size = 3 := by rfl) (hx : evo (gt t) x = .one (.hs j) := by rfl) (hy : evo (gt t) y = .one (.hs m) := by rfl)
    (hl : lk H j = some (.own (sntOw e E' xs)) := by rfl) (hl2 : lk H m = some (.own (litOw e E' s)) := by rfl) (hdd : o.dst = some d := by rfl) (hkk : 8 * d = k := by rfl) (hf : lk H k = none := by rfl) (hne : Nat.beq j m = false := by rfl) (hne2 : Nat.beq k j = false := by rfl) (hne3 : Nat.beq k m = false := by rfl) (hby : Nat.ble ei.bytes 100 = true := by rfl)
    (ht : stF o.dst (.one (.hs k)) [(j, .dead), (m, .dead), (k, .own (sntOw e E' (xs ++ [s])))] [(j, .own (sntOw e E' xs)), (m, .own (litOw e E' s))] t H = some (t', H', k1, k2) := by rfl) (hs : xs.length ≤ 1099511627776 := by first | omega | (simp only [List.length_map, List.length_take]; omega)) : Vd P n ops dr K (o :: os) t H fp :=
  vd_plain hd hg (good_of (tri_appQ ho hi hk he hz hx hy (by unfold maxLen; omega) (by
    have h9 := Nat.le_of_ble_eq_true hby
    have : (xs.length + 1) * ei.bytes ≤ (xs.length + 1) * 100 := Nat.mul_le_mul_left _ h9
    omega) (Nat.ne_of_beq_eq_false hne) (Nat.ne_of_beq_eq_false hne2) (Nat.ne_of_beq_eq_false hne3)) (fun a b hb => by
    simp only [List.mem_cons, Prod.mk.injEq, List.not_mem_nil, or_false] at hb
    rcases hb with ⟨rfl, rfl⟩ | ⟨rfl, rfl⟩
    · exact hl
    · exact hl2) fun a b hb => by
    simp only [List.mem_cons, Prod.mk.injEq, List.not_mem_nil, or_false] at hb
    rcases hb with ⟨rfl, rfl⟩ | ⟨rfl, rfl⟩ | ⟨rfl, rfl⟩
    · exact .inl ⟨_, List.mem_cons_self ..⟩
    · exact .inl ⟨_, List.mem_cons_of_mem _ (List.mem_cons_self ..)⟩
    · exact .inr hf) ht h
theorem vqnf {E T' : TypeId} {sz j g : Nat} {want : Bool} {es : List (List Value)} (h : Vd P n ops dr K os t' H' ((k1, k2) :: fp)) (hd : dstB o.dst n = true := by rfl) (hg : o.guard = some (g, want) := by rfl) (hw : gBF ops (gt t) want g = some true := by rfl) (ho : o.op = .binOp .eql T x (.const (.slice none 0 0)) T' := by rfl) (hi : TyEnv.ti P T = some i := by rfl) (hk : i.k = .slice e := by rfl) (hx : evo (gt t) x = .one (.hs j) := by rfl) (hl : lk H j = some (.arr E sz es) := by rfl)
    (ht : stF o.dst (.one (.v (.bool false))) [] [(j, .arr E sz es)] t H = some (t', H', k1, k2) := by rfl) (hs : 0 < es.length := by first | omega | (simp only [List.length_map]; omega)) : Vd P n ops dr K (o :: os) t H fp :=
  vd_on hd hg hw (goodr (tri_eqNilH ho hi hk hx hs) hl) ht h
theorem vqnt {T' : TypeId} {g : Nat} {want : Bool} (h : Vd P n ops dr K os t' H' ((k1, k2) :: fp)) (hd : dstB o.dst n = true := by rfl) (hg : o.guard = some (g, want) := by rfl) (hw : gBF ops (gt t) want g = some true := by rfl) (ho : o.op = .binOp .eql T x (.const (.slice none 0 0)) T' := by rfl) (hi : TyEnv.ti P T = some i := by rfl) (hk : i.k = .slice e := by rfl) (hx : evo (gt t) x = .one .nil := by rfl)
    (ht : stF o.dst (.one (.v (.bool true))) [] [] t H = some (t', H', k1, k2) := by rfl) : Vd P n ops dr K (o :: os) t H fp := vd_on hd hg hw (good0 (tri_eqNilN ho hi hk hx)) ht h
theorem vc_lpp {P : Program} [TyEnv P] {n : Nat} {K : Post} {t t0 : Tm} {H H0 : Hp} {c : Code} {σ : Type} (live keep : List Nat) (ov0 : Tm) (gv0 : Hp) (ov : σ → Tm) (gv : σ → Hp) (I : σ → Prop) (μ : σ → Nat) (M : Nat) (ht : keepF t live = some t0) (hH : keepH H keep = some H0) (hs : Sub t H (ov0 ++ t0) (gv0 ++ H0))
    (h1 : VC P n c (thenP (fun t H => ∃ s', I s' ∧ μ s' ≤ M ∧ Sub t H (ov s' ++ t0) (gv s' ++ H0)) K) (ov0 ++ t0) (gv0 ++ H0))
    (h : ∀ s, I s → VC P n c (thenP (fun t H => ∃ s', I s' ∧ μ s' < μ s ∧ Sub t H (ov s' ++ t0) (gv s' ++ H0)) K) (ov s ++ t0) (gv s ++ H0)) : VC P n (.loop c) K t H := by
  refine vc_loop (σ := Option σ) (fun | none => ov0 ++ t0 | some s => ov s ++ t0) (fun | none => gv0 ++ H0 | some s => gv s ++ H0) (fun | none => True | some s => I s) (fun | none => M + 1 | some s => μ s) none hs trivial fun s hi K1 hK => ?_
  cases s with
  | none =>
    refine vc_mono h1 fun e t H hk => ?_
    cases e <;> first | exact hk | skip
    obtain ⟨s', a, b, d⟩ := hk
    exact hK _ _ ⟨some s', a, Nat.lt_succ_of_le b, d⟩
  | some s =>
    refine vc_mono (h s hi) fun e t H hk => ?_
    cases e <;> first | exact hk | skip
    obtain ⟨s', a, b, d⟩ := hk
    exact hK _ _ ⟨some s', a, b, d⟩
theorem snt_stp {E E' : TypeId} {ws : List Sn} {j : Nat} (h : j < ws.length) : sntOw E E' ((ws.take j).map snE ++ [((at' ws j).1, (at' ws j).2.1, (at' ws j).2.2.map intE)]) = sntOw E E' ((ws.take (j + 1)).map snE) := by
  rw [List.take_succ_eq_append_getElem h, List.map_append]
  have : at' ws j = ws[j] := by unfold at'; rw [List.getElem?_eq_getElem h]; rfl
  rw [this]; rfl
theorem snt_end {E E' : TypeId} {ws : List Sn} {j : Nat} (h : ¬ j < ws.length) : sntOw E E' ((ws.take j).map snE) = sntOw E E' (ws.map snE) := by rw [List.take_of_length_le (by omega)]
theorem vc_lpp2 {P : Program} [TyEnv P] {n : Nat} {K : Post} {t t0 : Tm} {H H0 : Hp} {c : Code} {A B : Type} (live keep : List Nat) (ov0 : Tm) (gv0 : Hp) (ov : A → B → Tm) (gv : A → B → Hp) (I : A → B → Prop) (μ : A → B → Nat) (M : Nat) (ht : keepF t live = some t0) (hH : keepH H keep = some H0) (hs : Sub t H (ov0 ++ t0) (gv0 ++ H0))
    (h1 : VC P n c (thenP (fun t H => ∃ a b, I a b ∧ μ a b ≤ M ∧ Sub t H (ov a b ++ t0) (gv a b ++ H0)) K) (ov0 ++ t0) (gv0 ++ H0))
    (h : ∀ a b, I a b → VC P n c (thenP (fun t H => ∃ a' b', I a' b' ∧ μ a' b' < μ a b ∧ Sub t H (ov a' b' ++ t0) (gv a' b' ++ H0)) K) (ov a b ++ t0) (gv a b ++ H0)) : VC P n (.loop c) K t H :=
  vc_lpp (σ := A × B) live keep ov0 gv0 (fun s => ov s.1 s.2) (fun s => gv s.1 s.2) (fun s => I s.1 s.2) (fun s => μ s.1 s.2) M ht hH hs
    (vc_mono h1 fun e t H hk => by
      cases e <;> first | exact hk | skip
      obtain ⟨a, b, h1, h2, h3⟩ := hk
      exact ⟨(a, b), h1, h2, h3⟩)
    fun s hi => vc_mono (h s.1 s.2 hi) fun e t H hk => by
      cases e <;> first | exact hk | skip
      obtain ⟨a, b, h1, h2, h3⟩ := hk
      exact ⟨(a, b), h1, h2, h3⟩
end
end Go.Vc
end
section
namespace Go
open Go.RowKit
theorem and_mask_i64 (x : Int) (i : Nat) (hi : i ≤ 62) : bits .and .i64 x (2 ^ i - 1) = x % 2 ^ i := by
  have hp : (2 : Nat) ^ i ≤ 2 ^ 62 := Nat.pow_le_pow_right (by decide) hi
  have hpos : 0 < 2 ^ i := Nat.two_pow_pos i
  have hc : ((2 : Int) ^ i - 1) = ((2 ^ i - 1 : Nat) : Int) := by rw [Int.natCast_sub hpos]; simp
  rw [hc]
  show IntKind.i64.wrap (((BitVec.ofInt 64 x &&& BitVec.ofInt 64 ((2 ^ i - 1 : Nat) : Int)).toNat : Nat) : Int) = x % 2 ^ i
  rw [BitVec.ofInt_natCast, BitVec.toNat_and, BitVec.toNat_ofNat, BitVec.toNat_ofInt, Nat.mod_eq_of_lt (a := 2 ^ i - 1) (by omega), Nat.and_two_pow_sub_one_eq_mod]
  have hlt : (x % (2 ^ 64 : Nat)).toNat % 2 ^ i < 2 ^ i := Nat.mod_lt _ hpos
  rw [IntKind.wrap_i64, Int.emod_eq_of_lt (by omega) (by omega)]
  have h0 : 0 ≤ x % (2 ^ 64 : Nat) := Int.emod_nonneg _ (by decide)
  have e : (((x % (2 ^ 64 : Nat)).toNat % 2 ^ i : Nat) : Int) = x % 2 ^ i := by
    rw [Int.natCast_emod, Int.toNat_of_nonneg h0]
    have hd : ((2 ^ i : Nat) : Int) ∣ ((2 ^ 64 : Nat) : Int) := Int.natCast_dvd_natCast.2 (Nat.pow_dvd_pow 2 (by omega))
    rw [Int.emod_emod_of_dvd _ hd]; simp
  omega
theorem Holds.bytes {w : World} {xs : List UInt8} {vs : List Value} (h : Holds w xs vs) : ∃ a cap, vs = [.slice a xs.length cap] ∧ xs.length ≤ cap ∧ cap ≤ maxLen ∧
    (∀ i (hi : i < xs.length), ∃ b off, a = some ⟨b, off, none⟩ ∧ w.cell? ⟨b, off + i, none⟩ = some (.int .u8 (xs[i]'hi).toNat)) := by
  obtain ⟨a, cap, rfl, h1, h2, h3⟩ := h.slice
  refine ⟨a, cap, rfl, h1, h2, fun i hi => ?_⟩
  obtain ⟨b, off, ts, ha, ht, hc⟩ := h3 i hi
  obtain rfl := ht.byte
  have := hc 0 (by decide)
  exact ⟨b, off, ha, by simpa [Rep.size] using this⟩
def OneB (B : Nat) (w w' : World) : Prop := w'.os = w.os ∧ w'.tape = w.tape ∧ w'.output = w.output ∧ w.heap.size ≤ w'.heap.size ∧ ∀ k, k < w.heap.size → k ≠ B → w'.heap[k]? = w.heap[k]?
theorem OneB.refl (B : Nat) (w : World) : OneB B w w := ⟨rfl, rfl, rfl, Nat.le_refl _, fun _ _ _ => rfl⟩
theorem OneB.ex {B : Nat} {w a b : World} (h : OneB B w a) (hx : Ex a b) : OneB B w b := by
  obtain ⟨h1, h2, h3, h4, h5⟩ := h
  have hb := hx.below
  exact ⟨hb.os.trans h1, hb.tape.trans h2, hb.output.trans h3, Nat.le_trans h4 hb.size, fun k hk hn => (hx.block (Nat.lt_of_lt_of_le hk h4)).trans (h5 k hk hn)⟩
theorem OneB.drew {B : Nat} {w a : World} (h : OneB B w a) : OneB B w a.drew := h
theorem OneB.plus {B : Nat} {w a : World} (h : OneB B w a) (g : Gr) : OneB B w (a.plus g) := h.ex ((Ex.refl _).plus g)
theorem OneB.setCell {B : Nat} {w a : World} (h : OneB B w a) (i : Nat) (v : Value) : OneB B w (a.setCell ⟨B, i, none⟩ v) := by
  obtain ⟨h1, h2, h3, h4, h5⟩ := h
  exact ⟨h1, h2, h3, by simpa using h4, fun k hk hn => (row_setCell_other (p := ⟨B, i, none⟩) hn v).trans (h5 k hk hn)⟩
theorem OneB.upd {B : Nat} {w a : World} (h : OneB B w a) (f : Nat → Obj) : OneB B w (a.upd [B] f) := by
  obtain ⟨h1, h2, h3, h4, h5⟩ := h
  exact ⟨h1, h2, h3, by simpa using h4, fun k hk hn => (World.block_upd a [B] f (by simpa using hn)).trans (h5 k hk hn)⟩
theorem OneB.trans {B : Nat} {a b c : World} (h : OneB B a b) (k : OneB B b c) : OneB B a c := by
  obtain ⟨h1, h2, h3, h4, h5⟩ := h
  obtain ⟨k1, k2, k3, k4, k5⟩ := k
  exact ⟨k1.trans h1, k2.trans h2, k3.trans h3, Nat.le_trans h4 k4, fun i hi hn => (k5 i (Nat.lt_of_lt_of_le hi h4) hn).trans (h5 i hi hn)⟩
theorem OneB.form {B : Nat} {w w' : World} {o : Obj} (h : OneB B w w') (hB : B < w.heap.size) (ho : w'.heap[B]? = some o) : ∃ g, w' = (w.upd [B] (fun _ => o)).plus g := by
  obtain ⟨h1, h2, h3, h4, h5⟩ := h
  obtain ⟨f, g, e⟩ := World.as_upd (w := w) (w' := w') [B] h1 h2 h3 h4 (fun k hk hn => h5 k hk (by simpa using hn))
  refine ⟨g, ?_⟩
  have hf : f B = o := by
    have : w'.heap[B]? = some (f B) := by
      rw [e]
      simp only [World.plus]
      rw [Array.getElem?_append_left (by simpa using hB), World.block_upd_in w [B] f (by simp) hB]
    rw [this] at ho
    simpa using ho
  rw [e]
  congr 1
  unfold World.upd
  congr 1
  apply Array.ext_getElem?
  intro i
  simp only [Array.getElem?_mapIdx]
  cases w.heap[i]? with
  | none => rfl
  | some x =>
    by_cases hi : i = B
    · subst hi; simp [hf]
    · simp [hi]
section
variable (w : World)
@[go_sem] theorem World.upd_upd1 (n : Nat) (f g : Nat → Obj) : (w.upd [n] f).upd [n] g = w.upd [n] g := by
  unfold World.upd
  simp only
  congr 1
  apply Array.ext_getElem?
  intro k
  simp only [Array.getElem?_mapIdx]
  cases w.heap[k]? with
  | none => rfl
  | some o => by_cases hk : k = n <;> simp [hk]
@[go_sem] theorem World.plus_upd1 (n : Nat) (f : Nat → Obj) (g : Gr) (hn : n < w.heap.size) : (w.plus g).upd [n] f = (w.upd [n] f).plus g := by
  unfold World.upd World.plus
  simp only
  congr 1
  apply Array.ext_getElem?
  intro k
  simp only [Array.getElem?_mapIdx, Array.getElem?_append, Array.size_mapIdx]
  by_cases hk : k < w.heap.size
  · simp [hk]
  · simp only [if_neg hk]
    cases g.o[k - w.heap.size]? with
    | none => rfl
    | some o => simp; omega
@[go_sem] theorem World.alloc_upd1 (n : Nat) (f : Nat → Obj) (o : Obj) (hn : n < w.heap.size) : (w.alloc o).upd [n] f = (w.upd [n] f).alloc o := by
  rw [World.alloc_is_plus, World.plus_upd1 _ _ _ _ hn, World.alloc_is_plus]; rfl
@[go_sem] theorem World.cell?_upd_in (n i : Nat) (cs : Array Value) (E : TypeId) (fr : Nat × Nat) (hn : n < w.heap.size) : (w.upd [n] (fun _ => .cells cs E fr)).cell? ⟨n, i, none⟩ = cs[i]? := by
  simp [World.cell?, World.block_upd_in w [n] _ (List.mem_singleton.2 rfl) hn]
@[go_sem] theorem World.frozen?_upd_in (n i : Nat) (cs : Array Value) (E : TypeId) (hn : n < w.heap.size) : (w.upd [n] (fun _ => .cells cs E (0, 0))).frozen? ⟨n, i, none⟩ = false := by
  simp [World.frozen?, World.block_upd_in w [n] _ (List.mem_singleton.2 rfl) hn]
end
def CurAt (T : TypeId) (w : World) (B : Nat) (v : Value) (n : Nat) : Prop := ∃ i h : Int, w.heap[B]? = some (.cells #[v, .int .i64 i, .int .i64 h] T (0, 0)) ∧ 0 ≤ i ∧ i ≤ n
theorem CurAt.lt {T : TypeId} {w : World} {B : Nat} {v : Value} {n : Nat} (h : CurAt T w B v n) : B < w.heap.size := let ⟨_, _, h, _⟩ := h; row_lt h
theorem CurAt.ex {T : TypeId} {w w' : World} {B : Nat} {v : Value} {n : Nat} (h : CurAt T w B v n) (hx : Ex w w') : CurAt T w' B v n := let ⟨i, k, h, h1⟩ := h; ⟨i, k, hx.row h, h1⟩
theorem CurAt.plus {T : TypeId} {w : World} {B : Nat} {v : Value} {n : Nat} (h : CurAt T w B v n) (g : Gr) : CurAt T (w.plus g) B v n := h.ex ((Ex.refl _).plus g)
theorem CurAt.alloc {T : TypeId} {w : World} {B : Nat} {v : Value} {n : Nat} (h : CurAt T w B v n) (o : Obj) : CurAt T (w.alloc o) B v n := h.ex ((Ex.refl _).alloc o)
theorem CurAt.drew {T : TypeId} {w : World} {B : Nat} {v : Value} {n : Nat} (h : CurAt T w B v n) : CurAt T w.drew B v n := h
theorem CurAt.setCell {T : TypeId} {w : World} {B : Nat} {v : Value} {n : Nat} (h : CurAt T w B v n) {p : Addr} (hp : B ≠ p.block) (x : Value) : CurAt T (w.setCell p x) B v n := let ⟨i, k, h, h1⟩ := h; ⟨i, k, (row_setCell_other hp x).trans h, h1⟩
theorem CurAt.upd {T : TypeId} {w : World} {B : Nat} {v : Value} {n : Nat} {i h : Int} (hB : B < w.heap.size) (h0 : 0 ≤ i) (h1 : i ≤ n) : CurAt T (w.upd [B] (fun _ => .cells #[v, .int .i64 i, .int .i64 h] T (0, 0))) B v n :=
  ⟨i, h, World.block_upd_in w [B] _ (by simp) hB, h0, h1⟩
def Cu (T : TypeId) (w0 : World) (B : Nat) (v : Value) (code : List UInt8) (w : World) : Prop := Ex w0 w ∧ Holds w0 code [v] ∧ w0.heap.size ≤ B ∧ CurAt T w B v code.length
section
variable {T : TypeId} {w0 w : World} {B : Nat} {v : Value} {code : List UInt8}
theorem Cu.lt (h : Cu T w0 B v code w) : B < w.heap.size := h.2.2.2.lt
theorem Cu.ex {w' : World} (h : Cu T w0 B v code w) (hx : Ex w w') : Cu T w0 B v code w' := ⟨h.1.trans hx, h.2.1, h.2.2.1, h.2.2.2.ex hx⟩
theorem Cu.plus (h : Cu T w0 B v code w) (g : Gr) : Cu T w0 B v code (w.plus g) := h.ex ((Ex.refl _).plus g)
theorem Cu.alloc (h : Cu T w0 B v code w) (o : Obj) : Cu T w0 B v code (w.alloc o) := h.ex ((Ex.refl _).alloc o)
theorem Cu.drew (h : Cu T w0 B v code w) : Cu T w0 B v code w.drew := h.ex (Ex.refl _).drew
theorem Cu.setCell (h : Cu T w0 B v code w) {p : Addr} (hp : w0.heap.size ≤ p.block) (hn : B ≠ p.block) (x : Value) : Cu T w0 B v code (w.setCell p x) := ⟨h.1.setCell hp x, h.2.1, h.2.2.1, h.2.2.2.setCell hn x⟩
theorem Cu.upd (h : Cu T w0 B v code w) {i k : Int} (h0 : 0 ≤ i) (h1 : i ≤ code.length) : Cu T w0 B v code (w.upd [B] (fun _ => .cells #[v, .int .i64 i, .int .i64 k] T (0, 0))) :=
  ⟨h.1.upd1 h.2.2.1, h.2.1, h.2.2.1, CurAt.upd h.lt h0 h1⟩
theorem Cu.new {h : Int} (k : Holds w0 code [v]) (hx : Ex w0 w) (hB : w0.heap.size ≤ B) (hc : w.heap[B]? = some (.cells #[v, .int .i64 0, .int .i64 h] T (0, 0))) : Cu T w0 B v code w := ⟨hx, k, hB, 0, h, hc, Int.le_refl _, by omega⟩
theorem Cu.holds (h : Cu T w0 B v code w) : Holds w code [v] := h.2.1.ex h.1
end
def Mv (T : TypeId) (B : Nat) (v : Value) (n : Nat) (w wr : World) : Prop := OneB B w wr ∧ CurAt T wr B v n
theorem OneB.setNew {B : Nat} {w a : World} (h : OneB B w a) {p : Addr} (hp : w.heap.size ≤ p.block) (v : Value) : OneB B w (a.setCell p v) := by
  obtain ⟨h1, h2, h3, h4, h5⟩ := h
  exact ⟨h1, h2, h3, by simpa using h4, fun k hk hn => (row_setCell_other (by omega) v).trans (h5 k hk hn)⟩
section
variable {T : TypeId} {w0 w wr : World} {B : Nat} {v : Value} {n : Nat} {code : List UInt8}
theorem Mv.refl (h : CurAt T w B v n) : Mv T B v n w w := ⟨OneB.refl _ _, h⟩
theorem Mv.plus (h : Mv T B v n w wr) (g : Gr) : Mv T B v n w (wr.plus g) := ⟨h.1.plus g, h.2.plus g⟩
theorem Mv.alloc (h : Mv T B v n w wr) (o : Obj) : Mv T B v n w (wr.alloc o) := ⟨h.1.ex ((Ex.refl _).alloc o), h.2.alloc o⟩
theorem Mv.drew (h : Mv T B v n w wr) : Mv T B v n w wr.drew := ⟨h.1.drew, h.2.drew⟩
theorem Mv.setCell (h : Mv T B v n w wr) {p : Addr} (hp : w.heap.size ≤ p.block) (hn : B ≠ p.block) (x : Value) : Mv T B v n w (wr.setCell p x) := ⟨h.1.setNew hp x, h.2.setCell hn x⟩
theorem Mv.upd (h : Mv T B v n w wr) {i k : Int} (h0 : 0 ≤ i) (h1 : i ≤ n) : Mv T B v n w (wr.upd [B] (fun _ => .cells #[v, .int .i64 i, .int .i64 k] T (0, 0))) := ⟨h.1.upd _, CurAt.upd h.2.lt h0 h1⟩
theorem Mv.size (h : Mv T B v n w wr) : w.heap.size ≤ wr.heap.size := h.1.2.2.2.1
end
def DrawnN (T : TypeId) (B : Nat) (v : Value) (n : Nat) (lo hi : Int) (w : World) (e : Ending) (w' : World) : Prop :=
  ∃ (r i h : Int) (g : Gr), lo ≤ r ∧ r ≤ hi ∧ 0 ≤ i ∧ i ≤ n ∧ e = .returned (.int .i64 r) ∧ w' = (w.upd [B] (fun _ => .cells #[v, .int .i64 i, .int .i64 h] T (0, 0))).plus g
theorem DrawnN.of {T : TypeId} {B : Nat} {v : Value} {n : Nat} {lo hi r i h : Int} {w w' : World} (h1 : lo ≤ r) (h2 : r ≤ hi) (h3 : 0 ≤ i) (h4 : i ≤ n) (hB : B < w.heap.size) (ho : OneB B w w')
    (hc : w'.heap[B]? = some (.cells #[v, .int .i64 i, .int .i64 h] T (0, 0))) : DrawnN T B v n lo hi w (.returned (.int .i64 r)) w' := by
  obtain ⟨g, rfl⟩ := ho.form hB hc
  exact ⟨r, i, h, g, h1, h2, h3, h4, rfl, rfl⟩
end Go
namespace Go.Proofs.YtnikopahkjmneaaGreat
open Go.RowKit
set_option linter.unusedVariables false
end Go.Proofs.YtnikopahkjmneaaGreat
end
section
namespace Go.Proofs.YtnikopahkjmneaaGreat
open Go.RowKit
set_option linter.unusedVariables false
end Go.Proofs.YtnikopahkjmneaaGreat
end
section
namespace Go
open Go.RowKit
set_option linter.unusedVariables false
def curA (T : TypeId) (B : Nat) (v : Value) (n : Nat) : Asn where
  P w F := CurAt T w B v n ∧ ∀ c, F c ↔ c = B
  stable := by
    rintro w w' F ⟨⟨i, h, h1, h2⟩, h3⟩ hs
    exact ⟨⟨i, h, (hs B ((h3 B).2 rfl)).trans h1, h2⟩, h3⟩
  lt h b hb := by rw [(h.2 b).1 hb]; exact h.1.lt
section
variable {T : TypeId} {w0 w w' : World} {Is Js : List Asn} {B : Nat} {v : Value} {code : List UInt8}
theorem St.drawn {n : Nat} {lo hi : Int} {e : Ending} (HS : St w0 w Is) (t : Take Is (curA T B v n) Js) (hd : DrawnN T B v n lo hi w e w') :
    ∃ r : Int, lo ≤ r ∧ r ≤ hi ∧ e = .returned (.int .i64 r) ∧ St w0 w' (curA T B v n :: Js) := by
  obtain ⟨r, i, h, g, h1, h2, h3, h4, rfl, rfl⟩ := hd
  refine ⟨r, h1, h2, rfl, ?_⟩
  refine (HS.take t).turn rfl rfl rfl (by simp) fun F hF => ⟨fun b hb hn => ?_, F, ⟨?_, hF.2⟩, fun c hc => .inl hc⟩
  · rw [show ∀ (w : World) (g : Gr), (w.plus g).heap = w.heap ++ g.o from fun _ _ => rfl, Array.getElem?_append_left (by simpa using hb), World.block_upd _ _ _ (fun h => hn ((hF.2 b).2 (by simpa using h)))]
  · exact (CurAt.upd hF.1.lt h3 h4).plus g
end
end Go
namespace Go.Proofs.YtnikopahkjmneaaGreat
open Go.RowKit
set_option linter.unusedVariables false
end Go.Proofs.YtnikopahkjmneaaGreat
end
section
namespace Go.Vc
open Go Go.RowKit
set_option linter.unusedVariables false
set_option linter.unusedSectionVars false
set_option linter.unusedSimpArgs false
set_option linter.unnecessarySimpa false
def vQ (Ψ : Value → Prop) : RdP where
  P _ u := Ψ u ∧ u.oneCell' = true
  ex h _ := h
  one h := h.2
def cpQ (b : Nat) (v : Value) (code : List UInt8) : RdP where
  P w u := u = .pointer (some ⟨b, 0, none⟩) ∧ Holds w code [v]
  ex h hx := ⟨h.1, h.2.ex hx⟩
  one h := by obtain ⟨rfl, _⟩ := h; rfl
def oneQ : RdP where
  P _ u := u.oneCell' = true
  ex h _ := h
  one h := h
def cuOw (CT : TypeId) (b : Nat) (v : Value) (n : Nat) : OwP where
  A u := { P := fun w F => u = .pointer (some ⟨b, 0, none⟩) ∧ (curA CT b v n).P w F
           stable := fun h hs => ⟨h.1, (curA CT b v n).stable h.2 hs⟩
           lt := fun h => (curA CT b v n).lt h.2 }
  Q := oneQ
  rd := by rintro w F u ⟨rfl, _⟩; rfl
def frOw (L : List Asn) : OwP where
  A u := { P := fun w F => u = .bool true ∧ SepL w L F
           stable := fun h hs => ⟨h.1, SepL.stable h.2 hs⟩
           lt := fun h b hb => SepL.lt h.2 b hb }
  Q := oneQ
  rd := by rintro w F u ⟨rfl, _⟩; rfl
def FnOk (P : Program) (f : FuncId) : Prop := ∃ fn, P.funcs[f]? = some fn ∧ (fn.name == "runtime.NumGoroutine") = false ∧ fn.body.isNone = false
def After (w0 : World) (base : Nat) (res : AV) (Hr : Hp) (Is Js : List Asn) (e : Ending) (w' : World) : Prop :=
  ∃ u ρ, e = .returned u ∧ AR w0 (dom (shH base Hr)) ρ (shA base res) u ∧ ((shH base Hr).map (·.1)).Nodup ∧ ∃ As, F2 (BR w0 (dom (shH base Hr)) ρ) (shH base Hr) As ∧ St w0 w' (Is ++ (As ++ Js))
theorem BR.arrs {w0 : World} {D D' : Nat → Prop} {ρ ρ' : Nat → Value} {k k' : Nat} {b : Blk} {A : Asn} (ha : arrs [(k, b)] = true) (he : ρ' k' = ρ k) (h : BR w0 D ρ (k, b) A) : BR w0 D' ρ' (k', b) A := by
  cases b with
  | arr E sz es => exact ⟨h.1, by rw [he]; exact h.2⟩
  | own X => show A = X.A (ρ' k'); rw [he]; exact h
  | row T cs => simp [Go.Vc.arrs] at ha
  | byt s => simp [Go.Vc.arrs] at ha
  | dead => simp [Go.Vc.arrs] at ha
section
variable {P : Program} {w0 w w' : World} {ρ ρ' : Nat → Value} {n : Nat} {t : Tm} {H : Hp} {a : Act}
theorem run_enter {o : Oper} {f : FuncId} {args : Array Operand} {ats : Array TypeId} (ho : o.op = .call { callee := .value (.func f), args := args, argTypes := ats }) (hf : FnOk P f) : (execOp a.eval o).run P w = .ok (.enter f (args.map a.eval)) w := by
  obtain ⟨fn, hfn, hname, hbody⟩ := hf
  have hev : a.eval (.func f) = .func (.func f) #[] #[] := rfl
  have hn' : ¬ fn.name = "runtime.NumGoroutine" := by simpa using hname
  have hb' : ¬ fn.body = none := by intro e; simp [e] at hbody
  simp [execOp, ho, resolve, hev, Deferred.ofValue, invoke, callFunc, hfn, hn', hb']
end
def cleanR : PV → Bool
  | .rp .. | .ptr .. | .hv .. | .hc .. => false
  | _ => true
def cleanR1 : AV → Bool
  | .one p => cleanR p
  | .agg ps => ps.all cleanR
  | .tup _ => false
  | .junk => true
def cleanRA : AV → Bool
  | .tup vs => vs.all cleanR1
  | x => cleanR1 x
section
variable {w0 : World} {ρ : Nat → Value}
theorem shR_ok {b : Nat} {Hr : Hp} {p : PV} {u : Value} (h : R w0 (dom Hr) ρ p u) (hc : cleanR p = true) : R w0 (dom (shH b Hr)) (fun k => ρ (k - b)) (shP b p) u := by
  cases p <;> first | exact h | (simp [cleanR] at hc; done) | skip
  rename_i k
  obtain ⟨h1, h2, h3⟩ := h
  refine ⟨?_, by simp only [Nat.add_sub_cancel_left]; exact h2, h3⟩
  rw [dom_mem] at h1 ⊢
  obtain ⟨x, hx, rfl⟩ := List.mem_map.1 h1
  unfold shH
  rw [List.map_map]
  exact List.mem_map.2 ⟨x, hx, rfl⟩
theorem shRL_ok {b : Nat} {Hr : Hp} : ∀ {ps : List PV} {us : List Value}, F2 (R w0 (dom Hr) ρ) ps us → ps.all cleanR = true → F2 (R w0 (dom (shH b Hr)) (fun k => ρ (k - b))) (ps.map (shP b)) us
  | [], _, .nil, _ => .nil
  | p :: ps, _, .cons h hr, hc => by
    simp only [List.all_cons, Bool.and_eq_true] at hc
    exact .cons (shR_ok h hc.1) (shRL_ok hr hc.2)
theorem shR1_ok {b : Nat} {Hr : Hp} {p : AV} {u : Value} (h : AR1 w0 (dom Hr) ρ p u) (hc : cleanR1 p = true) : AR1 w0 (dom (shH b Hr)) (fun k => ρ (k - b)) (shA1 b p) u := by
  cases p with
  | one p => exact shR_ok h hc
  | agg ps => obtain ⟨us, h1, h2⟩ := h; exact ⟨us, h1, shRL_ok h2 hc⟩
  | tup vs => exact h.elim
  | junk => trivial
theorem shRA_ok {b : Nat} {Hr : Hp} {p : AV} {u : Value} (h : AR w0 (dom Hr) ρ p u) (hc : cleanRA p = true) : AR w0 (dom (shH b Hr)) (fun k => ρ (k - b)) (shA b p) u := by
  cases p with
  | tup vs =>
    obtain ⟨us, h1, h2⟩ := h
    refine ⟨us, h1, ?_⟩
    replace hc : vs.all cleanR1 = true := hc
    clear h1
    induction h2 with
    | nil => exact .nil
    | cons h k ih =>
      simp only [List.all_cons, Bool.and_eq_true] at hc
      exact .cons (shR1_ok h hc.1) (ih hc.2)
  | one p => exact AR.of1 (p := .one (shP b p)) (shR1_ok (p := .one p) h hc)
  | agg p => exact AR.of1 (p := .agg (p.map (shP b))) (shR1_ok (p := .agg p) h hc)
  | junk => trivial
theorem brR_sh {D : Nat → Prop} {b : Nat} {Hr : Hp} : ∀ {G : Hp} {As : List Asn}, F2 (BR w0 D ρ) G As → arrs G = true → F2 (BR w0 (dom (shH b Hr)) (fun k => ρ (k - b))) (shH b G) As
  | [], _, .nil, _ => .nil
  | (k, x) :: G, _, .cons h hr, hc => by
    have h1 : arrs [(k, x)] = true := by
      simp only [arrs, List.all_cons, Bool.and_eq_true] at hc ⊢
      exact ⟨hc.1, rfl⟩
    have h2 : arrs G = true := by
      simp only [arrs, List.all_cons, Bool.and_eq_true] at hc ⊢
      exact hc.2
    exact .cons (BR.arrs (k := k) (k' := b + k) h1 (by simp) h) (brR_sh hr h2)
end
def FinG (P : Program) [TyEnv P] (rs : List ResultVar) (G : Hp) {α : Type} (Φ : α → Prop) (res : α → AV) (Hr : α → Hp) : Post := fun e t H =>
  (e = .normal ∨ e = .ret) ∧ ∃ vs, resL P t H rs = some vs ∧ vs.all untup = true ∧ ∃ x, Φ x ∧ cleanRA (res x) = true ∧ arrs (Hr x) = true ∧ ∃ r : Ren, AW r (Hr x) (res x) (resV vs) ∧ HW r (G ++ Hr x) H (G ++ Hr x) ∧ ((keys (G ++ Hr x)).filterMap (rk r)).Nodup ∧ (keys (G ++ Hr x)).Nodup
theorem fin_g {P : Program} [TyEnv P] {rs : List ResultVar} {G : Hp} {α : Type} {Φ : α → Prop} {res : α → AV} {Hr : α → Hp} {e : Exit} {t : Tm} {H : Hp} {vs : List AV} (x : α) (hΦ : Φ x) (r : Ren) (hv : resL P t H rs = some vs) (h3 : AW r (Hr x) (res x) (resV vs)) (h4 : HW r (G ++ Hr x) H (G ++ Hr x)) (he : e = .normal ∨ e = .ret := by first | exact .inr rfl | exact .inl rfl) (hu : vs.all untup = true := by rfl) (hc : cleanRA (res x) = true := by rfl) (ha : arrs (Hr x) = true := by rfl) (hn : renB r (G ++ Hr x) = true := by rfl) : FinG P rs G Φ res Hr e t H :=
  ⟨he, vs, hv, hu, x, hΦ, hc, ha, r, h3, h4, (renB_ok hn).2, (renB_ok hn).1⟩
section
variable {P : Program} [TyEnv P] {f : FuncId} {fn : Func} {c : Code} {n : Nat} {rs : List ResultVar} {α : Type} {Φ : α → Prop} {res : α → AV} {Hr : α → Hp} {v : Value} {code : List UInt8}
theorem fin_after {w0 w : World} {a : Act} {G : Hp} {Is Js : List Asn} {base : Nat} {fn : Func} (hrs : fn.results = rs.toArray) {e : Exit} (hq : CQ w0 n (FinG P rs G Φ res Hr) e a w) (hG : ∀ ρ As, F2 (BR w0 (fun _ => True) ρ) G As → ∀ Zs, St w0 w (As ++ Zs) → St w0 w (Is ++ (Zs ++ Js)))
    (hGa : arrs G = true) : a.defers = [] ∧ (e = .normal ∨ e = .ret) ∧ ∃ us : List Value, RVs P w a.tmps rs us ∧ ∃ x, Φ x ∧ After w0 base (res x) (Hr x) Is Js (.returned (if h : us.toArray.size = 1 then us.toArray[0] else .tuple us.toArray)) w := by
  obtain ⟨ρ, t, H, hr, he, vs, h1, h2, x, hΦ, hcl, har, r, h3, h4, h5, h6⟩ := hq
  obtain ⟨us, g1, g2⟩ := resL_ok hr h1 h2
  have hrr := Rel.ren hr (t' := []) r trivial h4 h5 h6
  have hval : AR w0 (dom (Hr x)) (mapr r ρ) (res x) (if h : us.toArray.size = 1 then us.toArray[0] else .tuple us.toArray) := by
    refine AW.ok (q := resV vs) h3 (D := dom H) ?_
    cases g1 with
    | nil => exact ⟨[], rfl, .nil⟩
    | cons a b =>
      cases b with
      | nil => exact AR.of1 a
      | cons c d =>
        rw [dif_neg (by simp)]
        exact ⟨_, rfl, .cons a (.cons c d)⟩
  obtain ⟨As, k1, k2⟩ := hrr.hp
  -- the parts of G, and those of the results
  have hsplit : ∀ (G : Hp) {As : List Asn}, F2 (BR w0 (dom (G ++ Hr x)) (mapr r ρ)) (G ++ Hr x) As → True := fun _ _ _ => trivial
  have sp : ∀ (L M : Hp) {D : Nat → Prop} {As : List Asn}, F2 (BR w0 D (mapr r ρ)) (L ++ M) As → ∃ A1 A2, As = A1 ++ A2 ∧ F2 (BR w0 D (mapr r ρ)) L A1 ∧ F2 (BR w0 D (mapr r ρ)) M A2 := by
    intro L
    induction L with
    | nil => intro M D As h; exact ⟨[], As, rfl, .nil, h⟩
    | cons y L ih =>
      intro M D As h
      cases h with
      | cons h k =>
        obtain ⟨A1, A2, rfl, q1, q2⟩ := ih M k
        exact ⟨_ :: A1, A2, rfl, .cons h q1, q2⟩
  obtain ⟨A1, A2, rfl, q1, q2⟩ := sp G (Hr x) k1
  have q1' : F2 (BR w0 (fun _ => True) (mapr r ρ)) G A1 := by
    refine q1.mono fun y A hy h => ?_
    obtain ⟨k, bb⟩ := y
    exact BR.arrs (by
      have := List.all_eq_true.1 hGa _ hy
      simp only [arrs, List.all_cons, List.all_nil, Bool.and_true]
      exact this) rfl h
  have hst := hG _ _ q1' A2 k2
  have hn9 : (((shH base (Hr x))).map (·.1)).Nodup := by
    refine nd_sh ?_
    have h6' : (keys G ++ keys (Hr x)).Nodup := by simpa only [keys, List.map_append] using h6
    exact (List.nodup_append.1 h6').2.1
  exact ⟨hr.df, he, us, g2, x, hΦ, _, fun k => mapr r ρ (k - base), rfl, shRA_ok hval hcl, hn9, A2, brR_sh q2 har, hst⟩
end
end Go.Vc
end
section
namespace Go.Vc
open Go Go.RowKit
set_option linter.unusedVariables false
set_option linter.unusedSectionVars false
set_option linter.unusedSimpArgs false
set_option linter.unnecessarySimpa false
section
variable {P : Program} [TyEnv P] {n : Nat} {ops os : List Oper} {K : Tm → Hp → Prop} {t t' : Tm} {H H' : Hp} {o : Oper} {k1 k2 : List Nat}
def Pick (P : Program) (f : FuncId) (CT : TypeId) : Prop := FnOk P f ∧ ∀ (w0 w : World) (Js : List Asn) (b : Nat) (v lv : Value) (code : List UInt8) (xs : List Int), St w0 w (curA CT b v code.length :: Js) → Holds w0 code [v] → RB w (.sl 1 (xs.map intE)) lv → (∀ c ∈ lv.blk, c ≠ b) → (∀ x ∈ xs, i64ok x) → 1 ≤ xs.length → xs.length ≤ 1000000 →
  Calls P f #[.pointer (some ⟨b, 0, none⟩), lv] w fun e w' => ∃ x ∈ xs, e = .returned (.int .i64 x) ∧ St w0 w' (curA CT b v code.length :: Js)
theorem Rel.pick {w0 w : World} {ρ : Nat → Value} {a : Act} {f : FuncId} {c y : Operand} {ats : Array TypeId} {CT E : TypeId} {b kc m : Nat} {v : Value} {code : List UInt8} {xs : List Int} {Q : Exit → Act → World → Prop} {K : Act → World → Prop}
    (hr : Rel w0 w ρ n t H a) (ho : o.op = .call { callee := .value (.func f), args := #[c, y], argTypes := ats }) (hc : Pick P f CT) (hx : evo (gt t) c = .one (.rd (cpQ b v code))) (hy : evo (gt t) y = .one (.hs m)) (hk : lk H kc = some (.own (cuOw CT b v code.length))) (hm : lk H m = some (.arr E 1 (xs.map intE))) (hkm : kc ≠ m)
    (h64 : ∀ x ∈ xs, i64ok x) (h1 : 1 ≤ xs.length) (h2 : xs.length ≤ 1000000) (hd : ∀ d, o.dst = some d → d < n)
    (h : ∀ x a' w', x ∈ xs → Rel w0 w' ρ n (putT t o.dst (.one (.v (.int .i64 x)))) H a' → K a' w') : o.wp P a w K Q := by
  obtain ⟨Bs, b1, b2⟩ := hr.hp
  have p1 : H.Perm ((kc, .own (cuOw CT b v code.length)) :: offK kc H) := by have := upd1_perm (.own (cuOw CT b v code.length)) hr.nd hk; rwa [upd1_same hk] at this
  have hm1 : lk (offK kc H) m = some (.arr E 1 (xs.map intE)) := by rw [lk_offK (fun e => hkm e.symm)]; exact hm
  have p2 : (offK kc H).Perm ((m, .arr E 1 (xs.map intE)) :: offK m (offK kc H)) := by have := upd1_perm (.arr E 1 (xs.map intE)) (nd_offK (k := kc) hr.nd) hm1; rwa [upd1_same hm1] at this
  obtain ⟨Ds, d1, d2⟩ := F2.perm (p1.trans (p2.cons _)) b1
  cases d2 with
  | @cons _ X _ Es' x1 x2 =>
    cases x2 with
    | @cons _ Y _ Es x2 x3 =>
      have hX : X = (cuOw CT b v code.length).A (ρ kc) := x1
      subst hX
      obtain ⟨hes, rfl⟩ := x2
      have s1 : St w0 w ((cuOw CT b v code.length).A (ρ kc) :: slotA E 1 (ρ m) (xs.map intE).length (xs.map intE).flatten :: Es) := St.perm b2 d1
      obtain ⟨hx0, F, ⟨F1, F2, ⟨hρ, hF1⟩, ⟨G1, G2, hG1, hG2, g3, g4⟩, f3, f4⟩, f5⟩ := s1
      have s1 : St w0 w ((cuOw CT b v code.length).A (ρ kc) :: slotA E 1 (ρ m) (xs.map intE).length (xs.map intE).flatten :: Es) := St.perm b2 d1
      have hcur : St w0 w (curA CT b v code.length :: slotA E 1 (ρ m) (xs.map intE).length (xs.map intE).flatten :: Es) := s1.same fun F hF => ⟨F, hF.2, fun _ h => h⟩
      have hp := hr.ev c
      rw [hx] at hp
      obtain ⟨hp, hh⟩ := hp
      have hq := hr.ev y
      rw [hy] at hq
      obtain ⟨_, hq, _⟩ := hq
      have hdis : ∀ c ∈ (ρ m).blk, c ≠ b := fun c hc e => by
        subst e
        exact f3 c ((hF1.2 c).2 rfl) ((g4 c).2 (.inl ((hG1.2 c).2 hc)))
      obtain ⟨hfn, hcall⟩ := hc
      unfold Oper.wp
      rw [run_enter ho hfn, Oper.upon_enter]
      have e2 : #[c, y].map a.eval = #[.pointer (some ⟨b, 0, none⟩), ρ m] := by simp [hp, hq]
      rw [e2]
      refine (hcall w0 w _ b v (ρ m) code xs hcur hh (slot_RB hG1.1 hes) hdis h64 h1 h2).mono fun e w' hq2 => ?_
      obtain ⟨x, hxs, rfl, hS⟩ := hq2
      have hback : St w0 w' ((cuOw CT b v code.length).A (ρ kc) :: slotA E 1 (ρ m) (xs.map intE).length (xs.map intE).flatten :: Es) := hS.same fun F hF => ⟨F, ⟨hρ, hF⟩, fun _ h => h⟩
      have hR : Rel w0 w' ρ n t H a := ⟨hr.sz, hr.df, hr.tm, ⟨Bs, b1, St.perm hback d1.symm⟩, hr.nd⟩
      exact h x _ w' hxs (hR.put (v := .one (.v (.int .i64 x))) ⟨rfl, rfl⟩ hd)
end
end Go.Vc
end
section
namespace Go.Vc
open Go Go.RowKit
set_option linter.unusedVariables false
set_option linter.unusedSectionVars false
end Go.Vc
end
section
namespace Go.Vc
open Go Go.RowKit
set_option linter.unusedVariables false
set_option linter.unusedSectionVars false
set_option linter.unusedSimpArgs false
end Go.Vc
end
section
namespace Go.Vc
open Go Go.RowKit
set_option linter.unusedVariables false
set_option linter.unusedSectionVars false
set_option linter.unusedSimpArgs false
def paOw (v0 : Value) (E : TypeId) (sz : Nat) (es : List (List Value)) : OwP where
  A u := { P := fun w F => u = v0 ∧ (∀ e ∈ es, e.length = sz ∧ e.all (·.oneCell') = true) ∧ (slotA E sz v0 es.length es.flatten).P w F
           stable := fun ⟨h1, h2, h3⟩ hs => ⟨h1, h2, (slotA E sz v0 es.length es.flatten).stable h3 hs⟩
           lt := fun ⟨h1, h2, h3⟩ => (slotA E sz v0 es.length es.flatten).lt h3 }
  Q := vQ fun _ => True
  rd := by
    rintro w F u ⟨rfl, h2, h3⟩
    obtain ⟨_, ⟨rfl, _⟩ | ⟨b, off, cap, cur, rfl, _⟩⟩ := h3.1 <;> exact ⟨trivial, rfl⟩
section
variable {P : Program} [TyEnv P] {o : Oper} {rd : Nat → AV} {T e : TypeId} {i ei : TyI} {x y : Operand} {k : Nat} {v0 : Value} {E : TypeId} {sz : Nat} {es : List (List Value)}
theorem pa_focus {w0 w : World} {ρ : Nat → Value} {n : Nat} {t : Tm} {H : Hp} {a : Act} (hr : Rel w0 w ρ n t H a) (hk : lk H k = some (.own (paOw v0 E sz es))) : ∃ Js, (∀ e ∈ es, e.length = sz ∧ e.all (·.oneCell') = true) ∧ St w0 w (slotA E sz (ρ k) es.length es.flatten :: Js) := by
  obtain ⟨A, Js, hA, h2, _⟩ := hr.focus hk
  have hA' : A = (paOw v0 E sz es).A (ρ k) := hA
  subst hA'
  obtain ⟨F, hF⟩ := h2.head
  refine ⟨Js, hF.2.1, h2.same fun F hF => ⟨F, ?_, fun _ h => h⟩⟩
  obtain ⟨h1, _, h3⟩ := hF
  rw [h1]; exact h3
theorem tri_lenPA (ho : o.op = .call { callee := .builtin .len, args := #[x], argTypes := #[T] }) (hi : TyEnv.ti P T = some i) (hk : i.k = .slice e) (hx : evo rd x = .one (.hs k)) : Tri P o rd [(k, .own (paOw v0 E sz es))] (.one (.v (.int .i64 es.length))) [] := by
  intro w0 w ρ n t H a Q hr ht hrs hfr hd
  obtain ⟨Js, hes, h2⟩ := pa_focus hr (hrs k _ (List.mem_cons_self ..))
  have hx' := hr.ev x
  rw [evo_of (by simp [ho, Op.operands, Call.operands]) ht, hx] at hx'
  obtain ⟨hD, hx', _⟩ := hx'
  obtain ⟨B, c, g1, _⟩ : RB w (.sl sz es) (ρ k) := slot_RB (h2.slot .head) hes
  have hu := ty_slice hi hk
  have hrun := run_len_slice (P := P) w T o.type B es.length c (by rw [elem_of hu]; exact hu)
  unfold Oper.wp
  rw [show (execOp a.eval o).run P w = .ok (.value (.int .i64 es.length)) w by simp [execOp, ho, resolve, invoke, builtin, hx', g1, hrun, goInt]]
  exact ⟨ρ, hr.put (v := .one (.v (.int .i64 es.length))) (ar_v rfl) hd⟩
theorem tri_ixPA {n : Int} (ho : o.op = .indexAddr T x y) (hi : TyEnv.ti P T = some i) (hk : i.k = .slice e) (he : TyEnv.ti P e = some ei) (hsz : sz = ei.size) (hx : evo rd x = .one (.hs k)) (hy : evo rd y = .one (.v (.int .i64 n))) (h0 : 0 ≤ n ∧ n < es.length) : Tri P o rd [(k, .own (paOw v0 E sz es))] (.one (.ptr k n.toNat sz 0)) [] := by
  intro w0 w ρ m t H a Q hr ht hrs hfr hd
  obtain ⟨Js, hes, h2⟩ := pa_focus hr (hrs k _ (List.mem_cons_self ..))
  have hx' := hr.ev x
  rw [evo_of (by simp [ho, Op.operands]) ht, hx] at hx'
  obtain ⟨hD, hx', _⟩ := hx'
  have hy' := hr.ev y
  rw [evo_of (by simp [ho, Op.operands]) ht, hy] at hy'
  obtain ⟨A, c, g1, _, _, hc⟩ : RB w (.sl sz es) (ρ k) := slot_RB (h2.slot .head) hes
  obtain ⟨b, off, rfl, _⟩ := hc.2 (fun h => by subst h; simp at h0; omega)
  have hu := ty_slice hi hk
  have := run_indexAt_slice (P := P) w T ⟨b, off, none⟩ es.length c .i64 n (by rw [elem_of hu]; exact hu)
  rw [if_pos h0, elem_of hu, size_run he] at this
  simp only [Result.andThen_ok, add_plain] at this
  unfold Oper.wp
  rw [show (execOp a.eval o).run P w = .ok (.value (.pointer (some ⟨b, off + n.toNat * ei.size, none⟩))) w by simp only [execOp, ho, hx', g1, AR.int hy', Sem.run_bind, this, Result.andThen_ok, Sem.run_pure]]
  exact ⟨ρ, hr.put (v := .one (.ptr k n.toNat sz 0)) ⟨hD, b, off, by rw [g1]; rfl, by rw [hsz, Nat.add_zero]⟩ hd⟩
theorem tri_ldPA {j f : Nat} {e : List Value} {v : AV} (ho : o.op = .load T x) (hi : TyEnv.ti P T = some i) (hx : evo rd x = .one (.ptr k j sz f)) (he : es[j]? = some e) (hv : mkv i ((e.drop f).map .v) = some v) : Tri P o rd [(k, .own (paOw v0 E sz es))] v [] := by
  intro w0 w ρ n t H a Q hr ht hrs hfr hd
  obtain ⟨Js, hes, h2⟩ := pa_focus hr (hrs k _ (List.mem_cons_self ..))
  have hx' := hr.ev x
  rw [evo_of (o := o) (by rw [ho]; simp [Op.operands]) ht, hx] at hx'
  obtain ⟨_, b, off, e1, hx'⟩ := hx'
  have hj := (List.getElem?_eq_some_iff.1 he).1
  obtain ⟨b', off', cap, hv', hc⟩ := slot_cells (h2.slot .head) (by omega)
  rw [hv'] at e1
  simp only [base, Option.some.injEq, Prod.mk.injEq] at e1
  obtain ⟨rfl, rfl⟩ := e1
  obtain ⟨hl, h1⟩ := hes e (List.mem_of_getElem? he)
  have hm := mkv_R (w0 := w0) (D := dom H) (ρ := ρ) hv (F2.plain (all_drop h1 f))
  refine wp_loadX ho hi hx' (us := e.drop f) (fun m v hm => ?_) hm fun u hu => ⟨ρ, hr.put hu hd⟩
  rw [List.getElem?_drop] at hm
  have hlt := (List.getElem?_eq_some_iff.1 hm).1
  have hjj := Nat.mul_le_mul_right sz (show j + 1 ≤ es.length from hj)
  rw [Nat.succ_mul] at hjj
  rw [Nat.add_assoc, Nat.add_assoc, (hc (j * sz + (f + m)) (by omega)).1, flat_at hes he (by omega)]
  exact hm
end
end Go.Vc
end
section
namespace Go.Vc
open Go Go.RowKit
set_option linter.unusedVariables false
set_option linter.unusedSectionVars false
set_option linter.unusedSimpArgs false
section
variable {P : Program} [TyEnv P] {n : Nat} {ops os : List Oper} {K : Tm → Hp → Prop} {t t' : Tm} {H H' : Hp} {o : Oper} {k1 k2 : List Nat} {dr : Bool} {fp : List Fp} {T e : TypeId} {i ei : TyI} {x y : Operand} {k : Nat} {v0 : Value} {E : TypeId} {sz : Nat} {α : Type} [Inhabited α] {xs : List α} {g : α → List Value} {m : Int}
theorem vkl (h : Vd P n ops dr K os t' H' ((k1, k2) :: fp)) (hd : dstB o.dst n = true := by rfl) (hg : o.guard = none := by rfl) (ho : o.op = .call { callee := .builtin .len, args := #[x], argTypes := #[T] } := by rfl) (hi : TyEnv.ti P T = some i := by rfl) (hk : i.k = .slice e := by rfl) (hx : evo (gt t) x = .one (.hs k) := by rfl) (hj : lk H k = some (.own (paOw v0 E sz (xs.map g))) := by rfl)
    (ht : stF o.dst (.one (.v (.int .i64 (xs.length : Int)))) [] [(k, .own (paOw v0 E sz (xs.map g)))] t H = some (t', H', k1, k2) := by rfl) : Vd P n ops dr K (o :: os) t H fp := vd_plain hd hg (goodr (by have := tri_lenPA (v0 := v0) (E := E) (sz := sz) (es := xs.map g) ho hi hk hx; rwa [List.length_map] at this) hj) ht h
theorem vkx (h : Vd P n ops dr K os t' H' ((k1, k2) :: fp)) (hd : dstB o.dst n = true := by rfl) (hg : o.guard = none := by rfl) (ho : o.op = .indexAddr T x y := by rfl) (hi : TyEnv.ti P T = some i := by rfl) (hk : i.k = .slice e := by rfl) (he : TyEnv.ti P e = some ei := by rfl) (hz : sz = ei.size := by rfl) (hx : evo (gt t) x = .one (.hs k) := by rfl) (hy : evo (gt t) y = .one (.v (.int .i64 m)) := by rfl) (hj : lk H k = some (.own (paOw v0 E sz (xs.map g))) := by rfl)
    (ht : stF o.dst (.one (.ptr k m.toNat sz 0)) [] [(k, .own (paOw v0 E sz (xs.map g)))] t H = some (t', H', k1, k2) := by rfl) (hs : 0 ≤ m ∧ m < xs.length := by omega) : Vd P n ops dr K (o :: os) t H fp := vd_plain hd hg (goodr (tri_ixPA ho hi hk he hz hx hy (by rw [List.length_map]; exact hs)) hj) ht h
theorem vkd {j f : Nat} {v : AV} (h : Vd P n ops dr K os t' H' ((k1, k2) :: fp)) (hd : dstB o.dst n = true := by rfl) (hg : o.guard = none := by rfl) (ho : o.op = .load T x := by rfl) (hi : TyEnv.ti P T = some i := by rfl) (hx : evo (gt t) x = .one (.ptr k j sz f) := by rfl) (hj : lk H k = some (.own (paOw v0 E sz (xs.map g))) := by rfl) (hv : mkv i (((g (at' xs j)).drop f).map .v) = some v := by rfl)
    (ht : stF o.dst v [] [(k, .own (paOw v0 E sz (xs.map g)))] t H = some (t', H', k1, k2) := by rfl) (hs : j < xs.length := by omega) : Vd P n ops dr K (o :: os) t H fp := vd_plain hd hg (goodr (tri_ldPA ho hi hx (by rw [List.getElem?_map, List.getElem?_eq_getElem hs]; unfold at'; rw [List.getElem?_eq_getElem hs]; rfl) hv) hj) ht h
end
end Go.Vc
end
section
namespace Go.Vc
open Go Go.RowKit
set_option linter.unusedVariables false
set_option linter.unusedSectionVars false
set_option linter.unusedSimpArgs false
end Go.Vc
end
section
namespace Go.Vc
open Go Go.RowKit
set_option linter.unusedVariables false
set_option linter.unusedSectionVars false
set_option linter.unusedSimpArgs false
end Go.Vc
end
section
namespace Go.Vc
open Go Go.RowKit
set_option linter.unusedVariables false
set_option linter.unusedSectionVars false
set_option linter.unusedSimpArgs false
def pinOw (v0 : Value) (X : OwP) : OwP where
  A u := { P := fun w F => u = v0 ∧ (X.A v0).P w F
           stable := fun h hs => ⟨h.1, (X.A v0).stable h.2 hs⟩
           lt := fun h => (X.A v0).lt h.2 }
  Q := X.Q
  rd := by
    rintro w F u ⟨rfl, h⟩
    exact X.rd h
def lent : Blk → Bool
  | .arr .. => true
  | .own _ => true
  | _ => false
def pinB (u : Value) : Blk → OwP
  | .arr E sz es => paOw u E sz es
  | .own X => pinOw u X
  | _ => frOw []
theorem pin_in {w0 : World} {D : Nat → Prop} {ρ : Nat → Value} {k : Nat} {b : Blk} {A : Asn} (hl : lent b = true) (h : BR w0 D ρ (k, b) A) {w : World} {F : Nat → Prop} (hF : A.P w F) : ((pinB (ρ k) b).A (ρ k)).P w F := by
  cases b with
  | arr E sz es => obtain ⟨h1, rfl⟩ := h; exact ⟨rfl, h1, hF⟩
  | own X =>
    have h' : A = X.A (ρ k) := h
    subst h'
    exact ⟨rfl, hF⟩
  | row T cs => cases hl
  | byt s => cases hl
  | dead => cases hl
theorem pin_eq {b : Blk} (hl : lent b = true) {u v : Value} {w : World} {F : Nat → Prop} (h : ((pinB u b).A v).P w F) : v = u := by
  cases b with
  | arr E sz es => exact h.1
  | own X => exact h.1
  | row T cs => cases hl
  | byt s => cases hl
  | dead => cases hl
theorem pin_out {w0 w : World} {D : Nat → Prop} {ρ : Nat → Value} {k : Nat} {b : Blk} {Js : List Asn} (hl : lent b = true) {u v : Value} (hu : ρ k = u) (h : St w0 w ((pinB u b).A v :: Js)) : ∃ A, BR w0 D ρ (k, b) A ∧ St w0 w (A :: Js) := by
  subst hu
  obtain ⟨F, hF⟩ := h.head
  cases b with
  | arr E sz es => exact ⟨_, ⟨hF.2.1, rfl⟩, h.same fun F hF => ⟨F, hF.2.2, fun _ h => h⟩⟩
  | own X => exact ⟨_, rfl, h.same fun F hF => ⟨F, hF.2, fun _ h => h⟩⟩
  | row T cs => cases hl
  | byt s => cases hl
  | dead => cases hl
def mkP (σ : Nat → Nat) : PV → PV
  | .hs k => .hs (σ k)
  | p => p
def mkA (σ : Nat → Nat) : AV → AV
  | .one p => .one (mkP σ p)
  | .agg ps => .agg (ps.map (mkP σ))
  | x => x
def okL (K : List Nat) : PV → Bool
  | .v _ | .nil => true
  | .hs k => K.contains k
  | _ => false
def okLA (K : List Nat) : AV → Bool
  | .one p => okL K p
  | .agg ps => ps.all (okL K)
  | _ => false
theorem mkP_of {w0 : World} {D D' : Nat → Prop} {ρ ρ' : Nat → Value} {K : List Nat} {σ : Nat → Nat} (hK : ∀ k ∈ K, D' k ∧ ρ' k = ρ (σ k)) {p : PV} {u : Value} (ho : okL K p = true) (h : R w0 D ρ (mkP σ p) u) : R w0 D' ρ' p u := by
  cases p <;> first | exact h | (cases ho; done) | skip
  rename_i k
  obtain ⟨h1, h2, h3⟩ := h
  have hk : k ∈ K := by simpa [okL] using ho
  exact ⟨(hK k hk).1, h2.trans (hK k hk).2.symm, h3⟩
theorem mkL_of {w0 : World} {D D' : Nat → Prop} {ρ ρ' : Nat → Value} {K : List Nat} {σ : Nat → Nat} (hK : ∀ k ∈ K, D' k ∧ ρ' k = ρ (σ k)) : ∀ {ps : List PV} {us : List Value}, ps.all (okL K) = true → F2 (R w0 D ρ) (ps.map (mkP σ)) us → F2 (R w0 D' ρ') ps us
  | [], _, _, .nil => .nil
  | p :: ps, _, ho, .cons h k => by
    simp only [List.all_cons, Bool.and_eq_true] at ho
    exact .cons (mkP_of hK ho.1 h) (mkL_of hK ho.2 k)
theorem mkA_of {w0 : World} {D D' : Nat → Prop} {ρ ρ' : Nat → Value} {K : List Nat} {σ : Nat → Nat} (hK : ∀ k ∈ K, D' k ∧ ρ' k = ρ (σ k)) {x : AV} {u : Value} (ho : okLA K x = true) (h : AR w0 D ρ (mkA σ x) u) : AR w0 D' ρ' x u := by
  cases x with
  | one p => exact mkP_of hK ho h
  | agg ps => obtain ⟨us, h1, h2⟩ := h; exact ⟨us, h1, mkL_of hK ho h2⟩
  | tup vs => cases ho
  | junk => cases ho
theorem mkAs_of {w0 : World} {D D' : Nat → Prop} {ρ ρ' : Nat → Value} {K : List Nat} {σ : Nat → Nat} (hK : ∀ k ∈ K, D' k ∧ ρ' k = ρ (σ k)) : ∀ {xs : List AV} {us : List Value}, xs.all (okLA K) = true → F2 (AR w0 D ρ) (xs.map (mkA σ)) us → F2 (AR w0 D' ρ') xs us
  | [], _, _, .nil => .nil
  | p :: ps, _, ho, .cons h k => by
    simp only [List.all_cons, Bool.and_eq_true] at ho
    exact .cons (mkA_of hK ho.1 h) (mkAs_of hK ho.2 k)
theorem mkP_id (p : PV) : mkP id p = p := by cases p <;> rfl
theorem mkA_id (x : AV) : mkA id x = x := by
  cases x with
  | one p => show AV.one (mkP id p) = _; rw [mkP_id]
  | agg ps => show AV.agg (ps.map (mkP id)) = _; rw [List.map_congr_left (g := id) fun p _ => mkP_id p, List.map_id]
  | tup vs => rfl
  | junk => rfl
def ConH (P : Program) (f : FuncId) (ys : List AV) (b b' : Blk) (r : Value) : Prop :=
  FnOk P f ∧ lent b = true ∧ lent b' = true ∧ ys.all (okLA [0]) = true ∧ ∀ (w0 w : World) (ρ : Nat → Value) (vs : List Value) (A : Asn) (Js : List Asn), F2 (AR w0 (fun _ => True) ρ) ys vs → BR w0 (fun _ => True) ρ (0, b) A → St w0 w (A :: Js) →
    Calls P f vs.toArray w fun e w' => e = .returned r ∧ ∃ A', BR w0 (fun _ => True) ρ (0, b') A' ∧ St w0 w' (A' :: Js)
def ConH2 (P : Program) (f : FuncId) (ys : List AV) (b c b' c' : Blk) (r : Value) : Prop :=
  FnOk P f ∧ (lent b = true ∧ lent c = true) ∧ (lent b' = true ∧ lent c' = true) ∧ ys.all (okLA [0, 1]) = true ∧ ∀ (w0 w : World) (ρ : Nat → Value) (vs : List Value) (A B : Asn) (Js : List Asn), F2 (AR w0 (fun _ => True) ρ) ys vs → BR w0 (fun _ => True) ρ (0, b) A → BR w0 (fun _ => True) ρ (1, c) B → St w0 w (A :: B :: Js) →
    Calls P f vs.toArray w fun e w' => e = .returned r ∧ ∃ A' B', BR w0 (fun _ => True) ρ (0, b') A' ∧ BR w0 (fun _ => True) ρ (1, c') B' ∧ St w0 w' (A' :: B' :: Js)
theorem argT_ar {w0 : World} {D : Nat → Prop} {ρ : Nat → Value} {n : Nat} {ys : List AV} {vs : List Value} (h : F2 (AR w0 D ρ) ys vs) (k : Nat) : AR w0 D ρ (gt (argT 0 ys) k) ((vs.toArray ++ Array.replicate (n - vs.toArray.size) undef).getD k undef) := by
  rw [gt_argT, if_pos (Nat.zero_le _), Nat.sub_zero]
  cases hk : ys[k]? with
  | none => trivial
  | some x =>
    obtain ⟨y, hy, hxy⟩ := h.get hk
    have hkl : k < vs.length := (List.getElem?_eq_some_iff.1 hy).1
    have : (vs.toArray ++ Array.replicate (n - vs.toArray.size) undef).getD k undef = y := by
      rw [Array.getD_eq_getD_getElem?, Array.getElem?_append_left (by simpa using hkl)]
      simp [hy]
    simp only [this, Option.getD_some]
    exact hxy
theorem br_key {w0 : World} {D D' : Nat → Prop} {ρ ρ' : Nat → Value} {k j : Nat} {b : Blk} {A : Asn} (hl : lent b = true) (he : ρ k = ρ' j) (h : BR w0 D ρ (k, b) A) : BR w0 D' ρ' (j, b) A := by
  cases b with
  | arr E sz es => obtain ⟨h1, h2⟩ := h; exact ⟨h1, by rw [h2, he]⟩
  | own X => have h' : A = X.A (ρ k) := h; show A = X.A (ρ' j); rw [h', he]
  | row T cs => cases hl
  | byt s => cases hl
  | dead => cases hl
section
variable {P : Program} [TyEnv P] {f : FuncId} {fn : Func} {c : Code} {n : Nat} {rs : List ResultVar} {ys : List AV} {b b' d d' : Blk} {r : Value}
theorem conh_i (hf : P.funcs[f]? = some fn) (hn : fn.ntmps = n) (h : ∀ (L : List Asn) (u : Value), VC P n c (FinG P rs [(0, .own (pinB u b')), (1000003, .own (frOw L))] (fun _ : Unit => True) (fun _ => .one (.v r)) (fun _ => [])) (argT 0 ys) [(0, .own (pinB u b)), (1000003, .own (frOw L))]) (hl : lent b = true := by rfl) (hl' : lent b' = true := by rfl) (hk : ys.all (okLA [0]) = true := by rfl) (hb : fn.body = some c := by rfl) (hnm : (fn.name == "runtime.NumGoroutine") = false := by kernel_rfl) (hrs : fn.results = rs.toArray := by rfl) (hargs : Nat.ble ys.length n = true := by rfl) : ConH P f ys b b' r := by
  refine ⟨⟨fn, hf, hnm, by rw [hb]; rfl⟩, hl, hl', hk, fun w0 w ρ vs A Js hv hB hs => ?_⟩
  refine calls_of_wp hf hb ?_
  rw [hn]
  have hn1 := Nat.le_of_ble_eq_true hargs
  have hlen := hv.len
  let ρ0 : Nat → Value := fun k => if k = 1000003 then .bool true else ρ k
  have hrel : Rel w0 w ρ0 n (argT 0 ys) [(0, .own (pinB (ρ 0) b)), (1000003, .own (frOw Js))] { tmps := vs.toArray ++ Array.replicate (n - vs.toArray.size) undef, defers := [] } := by
    refine ⟨by simp; omega, rfl, argT_ar ?_, ⟨[(pinB (ρ 0) b).A (ρ 0), (frOw Js).A (.bool true)], .cons rfl (.cons rfl .nil), ?_⟩, by simp⟩
    · refine mkAs_of (σ := id) (K := [0]) (D := fun _ => True) (ρ := ρ) (fun k hk => ?_) hk (by rw [List.map_congr_left (g := id) fun x _ => mkA_id x, List.map_id]; exact hv)
      obtain rfl : k = 0 := by simpa using hk
      exact ⟨dom_mem.2 (by simp), rfl⟩
    · have h1 : St w0 w ((pinB (ρ 0) b).A (ρ 0) :: Js) := hs.same fun F hF => ⟨F, pin_in hl hB hF, fun _ h => h⟩
      have h2 : St w0 w (Js ++ [(pinB (ρ 0) b).A (ρ 0)]) := St.perm h1 (List.perm_append_singleton _ _).symm
      have h3 : St w0 w ((frOw Js).A (.bool true) :: [(pinB (ρ 0) b).A (ρ 0)]) := (St.joinL (L := Js) h2).same fun F hF => ⟨F, ⟨rfl, hF⟩, fun _ h => h⟩
      exact St.perm h3 (.swap ..)
  refine Code.wp_mono (fun e a w' hq => ?_) (h Js (ρ 0) w0 w _ _ hrel)
  obtain ⟨hdf, he, us', g2, x, hΦ, u, ρ', hu, q1, q2, As', q3, q4⟩ := fin_after (Is := [(pinB (ρ 0) b').A (ρ 0)]) (Js := Js) (base := 0) hrs hq (fun ρ2 As hF Zs hst => by
    cases hF with
    | cons q1 q2 =>
      cases q2 with
      | cons q2 q3 =>
        cases q3
        have q1' : _ = (pinB (ρ 0) b').A (ρ2 0) := q1
        have q2' : _ = (frOw Js).A (ρ2 1000003) := q2
        subst q1' q2'
        have h2 : St w0 w' ((pinB (ρ 0) b').A (ρ 0) :: ((frOw Js).A (ρ2 1000003) :: Zs)) := St.same (A := (pinB (ρ 0) b').A (ρ2 0)) hst fun F hF => ⟨F, by have := pin_eq hl' hF; rw [this] at hF; exact hF, fun _ h => h⟩
        have h3 : St w0 w' (joinA Js :: ((pinB (ρ 0) b').A (ρ 0) :: Zs)) := (St.perm h2 (.swap ..)).same fun F hF => ⟨F, hF.2, fun _ h => h⟩
        have h4 := St.unjoin h3
        refine St.perm h4 ?_
        exact List.perm_append_comm.trans (by simp)) rfl
  have hr : u = r := q1.1
  cases q3
  have hfin : St w0 w' ((pinB (ρ 0) b').A (ρ 0) :: Js) := q4
  obtain ⟨A', k1, k2⟩ := pin_out (D := fun _ => True) (ρ := ρ) (k := 0) hl' rfl hfin
  have hrun := g2.run hrs
  have hx : (Ending.returned (if h : us'.toArray.size = 1 then us'.toArray[0] else .tuple us'.toArray)) = .returned r := by rw [← hr]; exact hu
  have fin : (fun e w' => e = Ending.returned r ∧ ∃ A', BR w0 (fun _ => True) ρ (0, b') A' ∧ St w0 w' (A' :: Js)) (Ending.returned (if h : us'.toArray.size = 1 then us'.toArray[0] else .tuple us'.toArray)) w' := ⟨hx, A', k1, k2⟩
  rcases he with rfl | rfl
  · exact ⟨hdf, _, hrun, fin⟩
  · exact ⟨hdf, _, hrun, fin⟩
theorem conh2_i (hf : P.funcs[f]? = some fn) (hn : fn.ntmps = n) (h : ∀ (L : List Asn) (u v : Value), VC P n c (FinG P rs [(0, .own (pinB u b')), (1, .own (pinB v d')), (1000003, .own (frOw L))] (fun _ : Unit => True) (fun _ => .one (.v r)) (fun _ => [])) (argT 0 ys) [(0, .own (pinB u b)), (1, .own (pinB v d)), (1000003, .own (frOw L))]) (hl : lent b = true := by rfl) (hm : lent d = true := by rfl) (hl' : lent b' = true := by rfl) (hm' : lent d' = true := by rfl) (hk : ys.all (okLA [0, 1]) = true := by rfl) (hb : fn.body = some c := by rfl) (hnm : (fn.name == "runtime.NumGoroutine") = false := by kernel_rfl) (hrs : fn.results = rs.toArray := by rfl) (hargs : Nat.ble ys.length n = true := by rfl) : ConH2 P f ys b d b' d' r := by
  refine ⟨⟨fn, hf, hnm, by rw [hb]; rfl⟩, ⟨hl, hm⟩, ⟨hl', hm'⟩, hk, fun w0 w ρ vs A B Js hv hB hC hs => ?_⟩
  refine calls_of_wp hf hb ?_
  rw [hn]
  have hn1 := Nat.le_of_ble_eq_true hargs
  have hlen := hv.len
  let ρ0 : Nat → Value := fun k => if k = 1000003 then .bool true else ρ k
  have hrel : Rel w0 w ρ0 n (argT 0 ys) [(0, .own (pinB (ρ 0) b)), (1, .own (pinB (ρ 1) d)), (1000003, .own (frOw Js))] { tmps := vs.toArray ++ Array.replicate (n - vs.toArray.size) undef, defers := [] } := by
    refine ⟨by simp; omega, rfl, argT_ar ?_, ⟨[(pinB (ρ 0) b).A (ρ 0), (pinB (ρ 1) d).A (ρ 1), (frOw Js).A (.bool true)], .cons rfl (.cons rfl (.cons rfl .nil)), ?_⟩, by simp⟩
    · refine mkAs_of (σ := id) (K := [0, 1]) (D := fun _ => True) (ρ := ρ) (fun k hk => ?_) hk (by rw [List.map_congr_left (g := id) fun x _ => mkA_id x, List.map_id]; exact hv)
      simp only [List.mem_cons, List.not_mem_nil, or_false] at hk
      rcases hk with rfl | rfl
      · exact ⟨dom_mem.2 (by simp), rfl⟩
      · exact ⟨dom_mem.2 (by simp), rfl⟩
    · have h1 : St w0 w ((pinB (ρ 0) b).A (ρ 0) :: B :: Js) := hs.same fun F hF => ⟨F, pin_in hl hB hF, fun _ h => h⟩
      have h1' : St w0 w ((pinB (ρ 1) d).A (ρ 1) :: (pinB (ρ 0) b).A (ρ 0) :: Js) := (St.perm h1 (.swap ..)).same fun F hF => ⟨F, pin_in hm hC hF, fun _ h => h⟩
      have h2 : St w0 w (Js ++ [(pinB (ρ 0) b).A (ρ 0), (pinB (ρ 1) d).A (ρ 1)]) := St.perm (St.perm h1' (.swap ..)) (List.perm_append_comm (l₁ := [(pinB (ρ 0) b).A (ρ 0), (pinB (ρ 1) d).A (ρ 1)]) (l₂ := Js))
      have h3 : St w0 w ((frOw Js).A (.bool true) :: [(pinB (ρ 0) b).A (ρ 0), (pinB (ρ 1) d).A (ρ 1)]) := (St.joinL (L := Js) h2).same fun F hF => ⟨F, ⟨rfl, hF⟩, fun _ h => h⟩
      exact St.perm h3 (List.perm_append_comm (l₁ := [(frOw Js).A (.bool true)]))
  refine Code.wp_mono (fun e a w' hq => ?_) (h Js (ρ 0) (ρ 1) w0 w _ _ hrel)
  obtain ⟨hdf, he, us', g2, x, hΦ, u, ρ', hu, q1, q2, As', q3, q4⟩ := fin_after (Is := [(pinB (ρ 0) b').A (ρ 0), (pinB (ρ 1) d').A (ρ 1)]) (Js := Js) (base := 0) hrs hq (fun ρ2 As hF Zs hst => by
    cases hF with
    | cons q1 q2 =>
      cases q2 with
      | cons q2 q3 =>
        cases q3 with
        | cons q3 q4 =>
          cases q4
          have q1' : _ = (pinB (ρ 0) b').A (ρ2 0) := q1
          have q2' : _ = (pinB (ρ 1) d').A (ρ2 1) := q2
          have q3' : _ = (frOw Js).A (ρ2 1000003) := q3
          subst q1' q2' q3'
          have h2 : St w0 w' ((pinB (ρ 0) b').A (ρ 0) :: ((pinB (ρ 1) d').A (ρ2 1) :: ((frOw Js).A (ρ2 1000003) :: Zs))) := St.same (A := (pinB (ρ 0) b').A (ρ2 0)) hst fun F hF => ⟨F, by have := pin_eq hl' hF; rw [this] at hF; exact hF, fun _ h => h⟩
          have h2' : St w0 w' ((pinB (ρ 1) d').A (ρ 1) :: ((pinB (ρ 0) b').A (ρ 0) :: ((frOw Js).A (ρ2 1000003) :: Zs))) := St.same (A := (pinB (ρ 1) d').A (ρ2 1)) (St.perm h2 (.swap ..)) fun F hF => ⟨F, by have := pin_eq hm' hF; rw [this] at hF; exact hF, fun _ h => h⟩
          have h3 : St w0 w' (joinA Js :: ((pinB (ρ 0) b').A (ρ 0) :: (pinB (ρ 1) d').A (ρ 1) :: Zs)) := (St.perm h2' (((List.Perm.swap _ _ _)).trans ((List.Perm.swap _ _ _).cons _ |>.trans (List.Perm.swap _ _ _)))).same fun F hF => ⟨F, hF.2, fun _ h => h⟩
          have h4 := St.unjoin h3
          refine St.perm h4 ?_
          exact List.perm_append_comm.trans (by simp)) rfl
  have hr : u = r := q1.1
  cases q3
  have hfin : St w0 w' ((pinB (ρ 0) b').A (ρ 0) :: (pinB (ρ 1) d').A (ρ 1) :: Js) := q4
  obtain ⟨A', k1, k2⟩ := pin_out (D := fun _ => True) (ρ := ρ) (k := 0) hl' rfl hfin
  obtain ⟨B', k3, k4⟩ := pin_out (D := fun _ => True) (ρ := ρ) (k := 1) hm' rfl (St.perm k2 (.swap ..))
  have hrun := g2.run hrs
  have hx : (Ending.returned (if h : us'.toArray.size = 1 then us'.toArray[0] else .tuple us'.toArray)) = .returned r := by rw [← hr]; exact hu
  have fin : (fun e w' => e = Ending.returned r ∧ ∃ A' B', BR w0 (fun _ => True) ρ (0, b') A' ∧ BR w0 (fun _ => True) ρ (1, d') B' ∧ St w0 w' (A' :: B' :: Js)) (Ending.returned (if h : us'.toArray.size = 1 then us'.toArray[0] else .tuple us'.toArray)) w' := ⟨hx, A', B', k1, k3, St.perm k4 (.swap ..)⟩
  rcases he with rfl | rfl
  · exact ⟨hdf, _, hrun, fin⟩
  · exact ⟨hdf, _, hrun, fin⟩
end
end Go.Vc
end
section
namespace Go.Vc
open Go Go.RowKit
set_option linter.unusedVariables false
set_option linter.unusedSectionVars false
set_option linter.unusedSimpArgs false
set_option linter.unnecessarySimpa false
section
variable {P : Program} [TyEnv P] {o : Oper} {rd : Nat → AV} {T e : TypeId} {i : TyI} {k : Nat}
theorem tri_stPA {v0 : Value} {x y : Operand} {E : TypeId} {sz j f : Nat} {es : List (List Value)} {e e' : List Value} {vs : List PV} {us : List Value} (ho : o.op = .store T x y) (hn : o.dst = none) (hi : TyEnv.ti P T = some i) (hx : evo rd x = .one (.ptr k j sz f)) (he : es[j]? = some e)
    (hy : cellsO (evo rd y) = some vs) (hp : plainV vs = some us) (hl : us.length = i.size) (hv : spl e f us = some e') : Tri P o rd [(k, .own (paOw v0 E sz es))] .junk [(k, .own (paOw v0 E sz (es.set j e')))] := by
  intro w0 w ρ n t H a Q hr ht hrs hfr hd
  have hk := hrs k _ (List.mem_cons_self ..)
  obtain ⟨A, Js, hA, h2, h3, _⟩ := hr.focus hk
  have hA' : A = (paOw v0 E sz es).A (ρ k) := hA
  subst hA'
  obtain ⟨F0, hF0⟩ := h2.head
  have hv0 := hF0.1
  have hes := hF0.2.1
  replace h2 : St w0 w (slotA E sz v0 es.length es.flatten :: Js) := h2.same fun F hF => ⟨F, hF.2.2, fun _ h => h⟩
  have hx' := hr.ev x
  rw [evo_of (o := o) (by rw [ho]; simp [Op.operands]) ht, hx] at hx'
  obtain ⟨_, b, off, e1, hx'⟩ := hx'
  have hj := (List.getElem?_eq_some_iff.1 he).1
  rw [hv0] at e1
  obtain ⟨b', off', cap, hv', hc⟩ := slot_cells (h2.slot .head) (by omega)
  rw [hv'] at e1
  simp only [base, Option.some.injEq, Prod.mk.injEq] at e1
  obtain ⟨rfl, rfl⟩ := e1
  obtain ⟨hel, hone⟩ := hes e (List.mem_of_getElem? he)
  have hy' := hr.ev y
  rw [evo_of (o := o) (by rw [ho]; simp [Op.operands]) ht] at hy'
  have hcs := cells_R hy' hy
  rw [plainV_some hp] at hcs
  obtain ⟨q1, q2⟩ := F2.map_v hcs
  obtain ⟨rfl, hbd⟩ := spl_nic hv
  have hpos := ty_pos hi
  have hbd := hbd (fun h => by rw [h] at hl; simp at hl; omega)
  have hjj := Nat.mul_le_mul_right sz (show j + 1 ≤ es.length from hj)
  rw [Nat.succ_mul] at hjj
  rw [hv'] at h2
  have hS := St.setS h2 (p := j * sz + f) (vs := us) (by omega)
  have hth : w.there b' (off' + j * sz + f) (a.eval y).cells.size := fun m hm => by
    rw [← Array.length_toList, q1] at hm
    have hcm := hc (j * sz + (f + m)) (by omega)
    rw [show off' + j * sz + f + m = off' + (j * sz + (f + m)) from by omega]
    refine ⟨?_, hcm.2⟩
    rw [hcm.1, flat_at hes he (by omega), List.getElem?_eq_getElem (by omega)]; rfl
  have hsz : (a.eval y).cells.size = i.size := by rw [← Array.length_toList, q1, hl]
  have hsv : (storeVar T ⟨b', off' + j * sz + f, none⟩ (a.eval y)).run P w = .ok () (w.setCells b' (off' + j * sz + f) (a.eval y).cells.toList) := by
    have h0 := run_storeVar_mid (P := P) w b' (off' + j * sz + f) T (a.eval y).cells hth (by rw [hsz]; exact ty_size hi) (by rw [← Array.all_toList, q1]; exact q2)
    cases hq : a.eval y <;> rw [hq] at h0 <;> first | exact h0 | (simp only [storeVar, Value.cells] at h0 ⊢; exact h0)
  have hr' : (Instr.storeAt T (.pointer (some ⟨b', off' + j * sz + f, none⟩)) (a.eval y)).run P w = .ok () (w.setCells b' (off' + j * sz + f) us) := by
    rw [← q1]
    simp only [Instr.storeAt, Instr.sureAddr, Sem.run_bind, Sem.run_pure, Result.andThen_ok, hsv]
  unfold Oper.wp execOp
  simp only [ho, hx', Sem.run_bind, hr', Result.andThen_ok, Sem.run_pure]
  show ∃ ρ', Rel w0 _ ρ' n (putT t o.dst .junk) _ (a.put o.dst undef)
  rw [hn]
  have hes2 : ∀ e' ∈ es.set j (nicL e f us), e'.length = sz ∧ e'.all (·.oneCell') = true := fun e' he' => by
    rcases List.mem_or_eq_of_mem_set he' with h | h
    · exact hes e' h
    · rw [h]; exact ⟨by rw [nicL_size, hel], nicL_all1 hone q2⟩
  have hS2 : St w0 (w.setCells b' (off' + j * sz + f) us) (slotA E sz v0 (es.set j (nicL e f us)).length (es.set j (nicL e f us)).flatten :: Js) := by
    rw [List.length_set, flat_set hes he (by omega), hv', Nat.add_assoc]
    exact hS
  exact ⟨ρ, h3 _ (.own (paOw v0 E sz (es.set j (nicL e f us)))) ((paOw v0 E sz (es.set j (nicL e f us))).A (ρ k)) rfl (hS2.same fun F hF => ⟨F, ⟨hv0, hes2, hF⟩, fun _ h => h⟩)⟩
theorem tri_makeN {ei : TyI} {x y : Operand} {l c : Int} {zs : List Value} (ho : o.op = .makeSlice T x y) (hi : TyEnv.ti P T = some i) (hk : i.k = .slice e) (hei : TyEnv.ti P e = some ei) (hx : evo rd x = .one (.v (.int .i64 l))) (hy : evo rd y = .one (.v (.int .i64 c)))
    (h0 : 0 ≤ l) (hlc : l ≤ c) (hb : (ei.bytes : Int) * c ≤ 281474976710656) (hc : c ≤ maxLen) (hz : zs = ei.zero.map pvv) (hone : zs.all (·.oneCell') = true) : Tri P o rd [] (.one (.hs k)) [(k, .arr e ei.size (List.replicate l.toNat zs))] := by
  intro w0 w ρ n t H a Q hr ht hrs hfr hd
  have hlk : lk H k = none := (hfr k _ (List.mem_cons_self ..)).resolve_left (by rintro ⟨_, h⟩; cases h)
  obtain ⟨As, h2, h3⟩ := hr.parts
  have hu : P.underlying T = some (.slice e) := by have := ty_kind hi; rw [hk] at this; exact this
  obtain ⟨⟨z, z1, z2, z3, z4⟩, _⟩ := TyEnv.ok e ei hei
  obtain ⟨inf, i1, i2⟩ := Option.map_eq_some_iff.1 z1
  simp only [Prod.mk.injEq] at i2
  obtain ⟨i2, i3, i4⟩ := i2
  have hx' := hr.ev x
  rw [evo_of (o := o) (by rw [ho]; simp [Op.operands]) ht, hx] at hx'
  have hy' := hr.ev y
  rw [evo_of (o := o) (by rw [ho]; simp [Op.operands]) ht, hy] at hy'
  have hzl : z.cells.toList = zs := by rw [z2, hz]
  have hzs : z.cells.size = ei.size := by rw [← Array.length_toList, z2, List.length_map, z3]
  have hpos := ty_pos hei
  have hr' := run_make (P := P) w T e inf z hu i1 i2 .i64 .i64 l c h0 hlc (by rw [i4]; exact hb) (by unfold maxLen at hc; omega)
  have hh := h2.alloc (madeCells z.cells (c.toNat * inf.size)) e
  unfold Oper.wp execOp
  simp only [ho, hx'.1, hy'.1, Sem.run_bind, hr', Result.andThen_ok, Sem.run_pure]
  have hS : St w0 (w.alloc (.cells (madeCells z.cells (c.toNat * inf.size)) e)) (slotA e ei.size (.slice (some ⟨w.heap.size, 0, none⟩) l.toNat c.toNat) l.toNat (List.replicate l.toNat zs).flatten :: As) := by
    refine hh.same fun F hF => ⟨F, ⟨⟨?_, .inr ⟨_, 0, c.toNat, _, rfl, Nat.zero_le _, hF.1, by omega, by omega, ?_, fun m hm => ?_⟩⟩, fun b => by rw [hF.2]; simp [Value.blk]⟩, fun _ h => h⟩
    · rw [flat_len (sz := ei.size) (fun e he => by rw [List.eq_of_mem_replicate he]; exact ⟨by rw [← hzl, Array.length_toList, hzs], hone⟩), List.length_replicate]
    · rw [Array.toArray_toList, size_madeCells, i3, Nat.zero_add]; exact Nat.le_refl _
    · have hcl := Nat.mul_le_mul_right ei.size (show l.toNat ≤ c.toNat from by omega)
      rw [Nat.zero_add, List.getElem?_toArray]
      have := made_flat z.cells (by omega) l.toNat m (by rw [hzs]; exact hm) (c.toNat * inf.size) (by rw [hzs, i3]; exact hcl)
      rw [← hzl, ← this]
      simp
  have g := h3 _ k (.arr e ei.size (List.replicate l.toNat zs)) (.slice (some ⟨w.heap.size, 0, none⟩) l.toNat c.toNat) _ hlk ⟨fun e he => by rw [List.eq_of_mem_replicate he]; exact ⟨by rw [← hzl, Array.length_toList, hzs], hone⟩, by rw [upρ_self, List.length_replicate]⟩ hS
  exact ⟨_, g.put ⟨dom_upd1.2 (.inl rfl), (upρ_self ..).symm, rfl⟩ hd⟩
end
section
variable {P : Program} [TyEnv P] {w0 w : World} {ρ : Nat → Value} {n : Nat} {t : Tm} {H : Hp} {a : Act}
theorem Rel.focus22 (h : Rel w0 w ρ n t H a) {j m : Nat} {b c : Blk} (hj : lk H j = some b) (hm : lk H m = some c) (hjm : j ≠ m) : ∃ A B Js, BR w0 (dom H) ρ (j, b) A ∧ BR w0 (dom H) ρ (m, c) B ∧ St w0 w (A :: B :: Js) ∧
    ∀ (w' : World) (b1 c1 : Blk) (A' B' : Asn), (∀ D, BR w0 D ρ (j, b1) A') → (∀ D, BR w0 D ρ (m, c1) B') → St w0 w' (A' :: B' :: Js) → Rel w0 w' ρ n t (upd1 m c1 (upd1 j b1 H)) a := by
  obtain ⟨As, h1, h2⟩ := h.hp
  have p1 : H.Perm ((j, b) :: offK j H) := by have := upd1_perm b h.nd hj; rwa [upd1_same hj] at this
  have hm1 : lk (offK j H) m = some c := by rw [lk_offK (fun e => hjm e.symm)]; exact hm
  have p2 : (offK j H).Perm ((m, c) :: offK m (offK j H)) := by have := upd1_perm c (nd_offK (k := j) h.nd) hm1; rwa [upd1_same hm1] at this
  obtain ⟨Bs, g2, g1⟩ := F2.perm (p1.trans (p2.cons _)) h1
  cases g1 with
  | @cons _ A _ l1 f1 f2 =>
    cases f2 with
    | @cons _ B _ Ks f2 f3 =>
      refine ⟨A, B, Ks, f1, f2, St.perm h2 g2, fun w' b1 c1 A' B' k1 k2 k3 => ?_⟩
      have hD : ∀ i, dom H i → dom (upd1 m c1 (upd1 j b1 H)) i ∧ ρ i = ρ i := fun i hi => ⟨dom_upd1.2 (.inr (dom_upd1.2 (.inr hi))), rfl⟩
      have nd1 := nd_upd1 j b1 h.nd
      have hmj : lk (upd1 j b1 H) m = some c := by rw [lk_upd1, if_neg (fun e => hjm e.symm)]; exact hm
      have pj := upd1_perm b1 h.nd hj
      have pm := upd1_perm c1 nd1 hmj
      have pf : (offK m (upd1 j b1 H)).Perm ((j, b1) :: offK m (offK j H)) := by
        have := pj.filter (fun x : Nat × Blk => x.1 != m)
        have e : List.filter (fun x : Nat × Blk => x.1 != m) ((j, b1) :: offK j H) = (j, b1) :: offK m (offK j H) := by
          rw [List.filter_cons, if_pos (by simpa using hjm)]; rfl
        rw [e] at this; exact this
      have pall : ((j, b1) :: (m, c1) :: offK m (offK j H)).Perm (upd1 m c1 (upd1 j b1 H)) := ((pm.trans (pf.cons _)).trans (.swap ..)).symm
      have hmem : ∀ x : Nat × Blk, x ∈ offK m (offK j H) → dom H x.1 := fun x hx => by
        have hx' : x ∈ H := (List.mem_filter.1 (List.mem_filter.1 hx).1).1
        exact dom_mem.2 (List.mem_map_of_mem (f := fun y : Nat × Blk => y.1) hx')
      have F : F2 (BR w0 (dom (upd1 m c1 (upd1 j b1 H))) ρ) ((j, b1) :: (m, c1) :: offK m (offK j H)) (A' :: B' :: Ks) :=
        .cons (k1 _) (.cons (k2 _) (f3.mono fun x _ hx r => BR.ext hD (hmem x hx) r))
      obtain ⟨Cs, c2, c1'⟩ := F2.perm pall F
      exact ⟨h.sz, h.df, fun i => (h.tm i).ext hD, ⟨Cs, c1', St.perm k3 c2⟩, nd_upd1 _ _ nd1⟩
end
section
variable {P : Program} [TyEnv P] {o : Oper} {rd : Nat → AV} {f : FuncId} {args : Array Operand} {ats : Array TypeId} {ys : List AV} {b b' d d' : Blk} {r : Value} {m m1 m2 : Nat}
theorem evl_of {w0 w : World} {ρ : Nat → Value} {n : Nat} {t : Tm} {H : Hp} {a : Act} (hr : Rel w0 w ρ n t H a) (ho : o.op = .call { callee := .value (.func f), args := args, argTypes := ats }) (ht : ∀ k ∈ tmpsOf o, gt t k = rd k) : F2 (AR w0 (dom H) ρ) (args.toList.map (evo rd)) (args.toList.map a.eval) := by
  have : ∀ l : List Operand, (∀ y ∈ l, y ∈ args.toList) → F2 (AR w0 (dom H) ρ) (l.map (evo rd)) (l.map a.eval) := by
    intro l
    induction l with
    | nil => intro _; exact .nil
    | cons y l ih =>
      intro hl
      refine .cons ?_ (ih fun y hy => hl y (List.mem_cons_of_mem _ hy))
      have := hr.ev y
      rw [evo_of (o := o) (by rw [ho]; simp only [Op.operands, Call.operands, Array.toList_append, List.mem_append]; exact .inr (hl y (List.mem_cons_self ..))) ht] at this
      exact this
  exact this _ fun _ h => h
theorem tri_callH0 (hc : ConH P f ys b b' r) (ho : o.op = .call { callee := .value (.func f), args := args, argTypes := ats }) (hy : args.toList.map (evo rd) = ys.map (mkA fun _ => m)) (h1 : r.oneCell' = true) : Tri P o rd [(m, b)] (.one (.v r)) [(m, b')] := by
  intro w0 w ρ n t H a Q hr ht hrs hfr hd
  obtain ⟨A, Js, hA, h2, h3, _⟩ := hr.focus (hrs m _ (List.mem_cons_self ..))
  have hF := evl_of hr ho ht
  obtain ⟨hfn, hl, hl', hk, hcall⟩ := hc
  rw [hy] at hF
  have hv := mkAs_of (D' := fun _ => True) (ρ' := fun _ => ρ m) (K := [0]) (fun k _ => ⟨trivial, rfl⟩) hk hF
  unfold Oper.wp
  rw [run_enter ho hfn, Oper.upon_enter]
  have e2 : args.map a.eval = (args.toList.map a.eval).toArray := by rw [← Array.toList_map]
  rw [e2]
  refine (hcall w0 w (fun _ => ρ m) _ A Js hv (br_key hl rfl hA) h2).mono fun e w' hq => ?_
  obtain ⟨rfl, A', k1, k2⟩ := hq
  exact ⟨ρ, (h3 w' b' A' (br_key (ρ := fun _ => ρ m) (k := 0) hl' rfl k1) k2).put (v := .one (.v r)) ⟨rfl, h1⟩ hd⟩
theorem tri_callH1 {u : Value} (hc : ConH P f ys b b' r) (ho : o.op = .call { callee := .value (.func f), args := args, argTypes := ats }) (hy : args.toList.map (evo rd) = ys.map (mkA fun _ => m)) (h1 : r.oneCell' = true) : Tri P o rd [(m, .own (pinB u b))] (.one (.v r)) [(m, .own (pinB u b'))] := by
  intro w0 w ρ n t H a Q hr ht hrs hfr hd
  obtain ⟨A, Js, hA, h2, h3, _⟩ := hr.focus (hrs m _ (List.mem_cons_self ..))
  have hA' : A = (pinB u b).A (ρ m) := hA
  subst hA'
  have hF := evl_of hr ho ht
  obtain ⟨hfn, hl, hl', hk, hcall⟩ := hc
  rw [hy] at hF
  have hv := mkAs_of (D' := fun _ => True) (ρ' := fun _ => ρ m) (K := [0]) (fun k _ => ⟨trivial, rfl⟩) hk hF
  obtain ⟨F0, hF0⟩ := h2.head
  have hu : ρ m = u := pin_eq hl hF0
  obtain ⟨A2, k3, k4⟩ := pin_out (D := fun _ => True) (ρ := fun _ => ρ m) (k := 0) hl hu h2
  unfold Oper.wp
  rw [run_enter ho hfn, Oper.upon_enter]
  have e2 : args.map a.eval = (args.toList.map a.eval).toArray := by rw [← Array.toList_map]
  rw [e2]
  refine (hcall w0 w (fun _ => ρ m) _ A2 Js hv k3 k4).mono fun e w' hq => ?_
  obtain ⟨rfl, A', k1, k2⟩ := hq
  exact ⟨ρ, (h3 w' (.own (pinB u b')) ((pinB u b').A (ρ m)) rfl (k2.same fun F hF => ⟨F, by have := pin_in (ρ := fun _ => ρ m) (k := 0) hl' k1 hF; rw [← hu]; exact this, fun _ h => h⟩)).put (v := .one (.v r)) ⟨rfl, h1⟩ hd⟩
def s2 (m1 m2 : Nat) : Nat → Nat
  | 0 => m1
  | _ => m2
theorem tri_callH2 (hc : ConH2 P f ys b d b' d' r) (ho : o.op = .call { callee := .value (.func f), args := args, argTypes := ats }) (hy : args.toList.map (evo rd) = ys.map (mkA (s2 m1 m2))) (h1 : r.oneCell' = true) (hm : m1 ≠ m2) : Tri P o rd [(m1, b), (m2, d)] (.one (.v r)) [(m1, b'), (m2, d')] := by
  intro w0 w ρ n t H a Q hr ht hrs hfr hd
  obtain ⟨A, B, Js, hA, hB, h2, h3⟩ := hr.focus22 (hrs m1 _ (List.mem_cons_self ..)) (hrs m2 _ (List.mem_cons_of_mem _ (List.mem_cons_self ..))) hm
  have hF := evl_of hr ho ht
  obtain ⟨hfn, ⟨hl, hm1⟩, ⟨hl', hm1'⟩, hk, hcall⟩ := hc
  rw [hy] at hF
  have hv := mkAs_of (D' := fun _ => True) (ρ' := fun k => ρ (s2 m1 m2 k)) (K := [0, 1]) (fun k _ => ⟨trivial, rfl⟩) hk hF
  unfold Oper.wp
  rw [run_enter ho hfn, Oper.upon_enter]
  have e2 : args.map a.eval = (args.toList.map a.eval).toArray := by rw [← Array.toList_map]
  rw [e2]
  refine (hcall w0 w (fun k => ρ (s2 m1 m2 k)) _ A B Js hv (br_key hl rfl hA) (br_key hm1 rfl hB) h2).mono fun e w' hq => ?_
  obtain ⟨rfl, A', B', k1, k2, k3⟩ := hq
  exact ⟨ρ, (h3 w' b' d' A' B' (fun D => br_key (ρ := fun k => ρ (s2 m1 m2 k)) (k := 0) hl' rfl k1) (fun D => br_key (ρ := fun k => ρ (s2 m1 m2 k)) (k := 1) hm1' rfl k2) k3).put (v := .one (.v r)) ⟨rfl, h1⟩ hd⟩
end
structure Tr where
  (c s : Int)
  (v : Value)
instance : Inhabited Tr := ⟨⟨0, 0, undef⟩⟩
def trE (x : Tr) : List Value := [.int .i64 x.c, .int .i64 x.s, x.v]
def trs : List Sn → List Value → List Tr
  | x :: xs, v :: vs => ⟨x.1, x.2.1, v⟩ :: trs xs vs
  | _, _ => []
def ptO (E' : TypeId) : List Value → List (List Int) → List Asn
  | v :: vs, b :: B => slotA E' 1 v (b.map intE).length (b.map intE).flatten :: ptO E' vs B
  | _, _ => []
theorem trs_len : ∀ {xs : List Sn} {vs : List Value}, vs.length = xs.length → (trs xs vs).length = xs.length
  | [], [], _ => rfl
  | x :: xs, v :: vs, h => by simp only [trs, List.length_cons]; rw [trs_len (by simpa using h)]
theorem trs_sntC : ∀ {xs : List Sn} {vs : List Value}, vs.length = xs.length → sntC (xs.map snE) vs = (trs xs vs).map trE
  | [], [], _ => rfl
  | x :: xs, v :: vs, h => by
    show _ :: sntC (xs.map snE) vs = _ :: (trs xs vs).map trE
    rw [trs_sntC (by simpa using h)]; rfl
theorem ptO_snt (E' : TypeId) : ∀ {xs : List Sn} {vs : List Value}, vs.length = xs.length → sntO E' (xs.map snE) vs = ptO E' vs (xs.map (fun x : Sn => x.2.2))
  | [], [], _ => rfl
  | x :: xs, v :: vs, h => by
    show _ :: sntO E' (xs.map snE) vs = _ :: ptO E' vs (xs.map (fun x : Sn => x.2.2))
    rw [ptO_snt E' (by simpa using h)]; rfl
theorem trs_at : ∀ {xs : List Sn} {vs : List Value} {i : Nat}, vs.length = xs.length → i < xs.length → at' (trs xs vs) i = ⟨(at' xs i).1, (at' xs i).2.1, vs.getD i undef⟩
  | x :: xs, v :: vs, 0, _, _ => rfl
  | x :: xs, v :: vs, i + 1, h, hi => by
    have := trs_at (xs := xs) (vs := vs) (i := i) (by simpa using h) (by simpa using hi)
    exact this
theorem ptO_split (E' : TypeId) : ∀ {vs : List Value} {B : List (List Int)} {i : Nat} {h : Value} {b : List Int}, vs[i]? = some h → B[i]? = some b → ∃ L1 L2, ptO E' vs B = L1 ++ slotA E' 1 h (b.map intE).length (b.map intE).flatten :: L2 ∧ ∀ b', ptO E' vs (B.set i b') = L1 ++ slotA E' 1 h (b'.map intE).length (b'.map intE).flatten :: L2
  | v :: vs, c :: B, 0, h, b, h1, h2 => by
    simp only [List.getElem?_cons_zero, Option.some.injEq] at h1 h2
    subst h1 h2
    exact ⟨[], ptO E' vs B, rfl, fun b' => rfl⟩
  | v :: vs, c :: B, i + 1, h, b, h1, h2 => by
    obtain ⟨L1, L2, e1, e2⟩ := ptO_split E' (vs := vs) (B := B) (i := i) (by simpa using h1) (by simpa using h2)
    refine ⟨slotA E' 1 v (c.map intE).length (c.map intE).flatten :: L1, L2, by simp only [ptO, e1, List.cons_append], fun b' => ?_⟩
    simp only [List.set_cons_succ, ptO, e2 b', List.cons_append]
  | [], _, _, _, _, h1, _ => by simp at h1
  | _ :: _, [], _, _, _, _, h2 => by simp at h2
theorem int_ok (b : List Int) : ∀ e ∈ b.map intE, e.length = 1 ∧ e.all (·.oneCell') = true := fun e he => by
  obtain ⟨x, _, rfl⟩ := List.mem_map.1 he
  exact ⟨rfl, rfl⟩
section
variable {P : Program} [TyEnv P] {o : Oper} {rd : Nat → AV} {f : FuncId} {x y : Operand} {ats : Array TypeId} {r h q : Value} {m i : Nat} {E' : TypeId} {vs : List Value} {B : List (List Int)} {b b' : List Int}
theorem tri_callP (hc : ConH P f [.one (.hs 0), .one (.v q)] (.arr E' 1 (b.map intE)) (.arr E' 1 (b'.map intE)) r) (ho : o.op = .call { callee := .value (.func f), args := #[x, y], argTypes := ats }) (hx : evo rd x = .one (.v h)) (hy : evo rd y = .one (.v q)) (h1 : r.oneCell' = true) (hv : vs[i]? = some h) (hb : B[i]? = some b) : Tri P o rd [(m, .own (frOw (ptO E' vs B)))] (.one (.v r)) [(m, .own (frOw (ptO E' vs (B.set i b'))))] := by
  intro w0 w ρ n t H a Q hr ht hrs hfr hd
  obtain ⟨A, Js, hA, h2, h3, _⟩ := hr.focus (hrs m _ (List.mem_cons_self ..))
  have hA' : A = (frOw (ptO E' vs B)).A (ρ m) := hA
  subst hA'
  obtain ⟨F0, hF0⟩ := h2.head
  have hm := hF0.1
  have e1 := hr.ev x
  have e2 := hr.ev y
  rw [evo_of (o := o) (by simp [ho, Op.operands, Call.operands]) ht, hx] at e1
  rw [evo_of (o := o) (by simp [ho, Op.operands, Call.operands]) ht, hy] at e2
  obtain ⟨hfn, hl, hl', hk, hcall⟩ := hc
  obtain ⟨L1, L2, p1, p2⟩ := ptO_split E' hv hb
  have s1 : St w0 w (joinA (ptO E' vs B) :: Js) := h2.same fun F hF => ⟨F, hF.2, fun _ h => h⟩
  have s2 := St.unjoin s1
  rw [p1] at s2
  have s3 : St w0 w (slotA E' 1 h (b.map intE).length (b.map intE).flatten :: (L1 ++ L2 ++ Js)) := by
    refine St.perm s2 ?_
    rw [List.append_assoc, List.cons_append, List.append_assoc]
    exact List.perm_middle
  unfold Oper.wp
  rw [run_enter ho hfn, Oper.upon_enter]
  have e3 : #[x, y].map a.eval = [a.eval x, a.eval y].toArray := by simp
  rw [e3]
  refine (hcall w0 w (fun _ => h) [a.eval x, a.eval y] _ (L1 ++ L2 ++ Js) (.cons ⟨trivial, e1.1, by rw [e1.1]; exact e1.2⟩ (.cons e2 .nil)) ⟨int_ok b, rfl⟩ s3).mono fun e w' hq => ?_
  obtain ⟨rfl, A', ⟨_, rfl⟩, k2⟩ := hq
  have s4 : St w0 w' (ptO E' vs (B.set i b') ++ Js) := by
    rw [p2 b']
    refine St.perm k2 ?_
    rw [List.append_assoc, List.append_assoc, List.cons_append]
    exact List.perm_middle.symm
  have s5 : St w0 w' ((frOw (ptO E' vs (B.set i b'))).A (ρ m) :: Js) := (St.joinL (L := ptO E' vs (B.set i b')) s4).same fun F hF => ⟨F, ⟨hm, hF⟩, fun _ h => h⟩
  exact ⟨ρ, (h3 w' (.own (frOw (ptO E' vs (B.set i b')))) _ rfl s5).put (v := .one (.v r)) ⟨rfl, h1⟩ hd⟩
end
section
variable {P : Program} [TyEnv P] {n : Nat} {K : Post} {c : Code} {t : Tm} {H : Hp}
theorem vc_unS {k j : Nat} {u : Value} {E E' : TypeId} {ws : List Sn} (h : ∀ vs : List Value, vs.length = ws.length → VC P n c K t (updH H [(k, .own (paOw u E 3 ((trs ws vs).map trE))), (j, .own (frOw (ptO E' vs (ws.map (fun x : Sn => x.2.2)))))])) (hk : lk H k = some (.own (pinOw u (sntOw E E' (ws.map snE)))) := by rfl) (hj : lk H j = none := by rfl) : VC P n c K t H := fun w0 w ρ a hr => by
  obtain ⟨Bs, b1, b2⟩ := hr.hp
  have hjk : j ≠ k := fun e => by subst e; rw [hk] at hj; cases hj
  have p1 : H.Perm ((k, .own (pinOw u (sntOw E E' (ws.map snE)))) :: offK k H) := by have := upd1_perm (.own (pinOw u (sntOw E E' (ws.map snE)))) hr.nd hk; rwa [upd1_same hk] at this
  obtain ⟨Ds, d1, d2⟩ := F2.perm p1 b1
  cases d2 with
  | @cons _ X _ Es x1 x2 =>
    have hX : X = (pinOw u (sntOw E E' (ws.map snE))).A (ρ k) := x1
    subst hX
    have s1 : St w0 w ((pinOw u (sntOw E E' (ws.map snE))).A (ρ k) :: Es) := St.perm b2 d1
    obtain ⟨F0, hF0⟩ := s1.head
    have hu : ρ k = u := hF0.1
    have s2 : St w0 w (sntA E E' (ws.map snE) u :: Es) := s1.same fun F hF => ⟨F, hF.2, fun _ h => h⟩
    obtain ⟨hfl, vs, hvl, s3⟩ := s2.snt_o
    rw [List.length_map] at hvl
    rw [trs_sntC hvl, ptO_snt E' hvl] at s3
    have hall : ∀ v ∈ vs, v.oneCell' = true := by
      obtain ⟨F, hF⟩ := s2.head
      obtain ⟨h0, vs', g1, F1, F2', g2, g3, _, _⟩ := hF
      have key : ∀ (xs : List Snt) (vs : List Value) (F : Nat → Prop), vs.length = xs.length → (∀ x ∈ xs, fl1 x.2.2) → SepL w (sntO E' xs vs) F → ∀ v ∈ vs, v.oneCell' = true := fun xs vs F hl hf hS => (sntO_read hl hf hS).2
      obtain ⟨hx0, G, ⟨G1, G2, q1, q2, q3, q4⟩, _⟩ := s3
      obtain ⟨R1, R2, r1, r2, _, _⟩ := SepL.unapp q2
      rw [← ptO_snt E' hvl] at r1
      exact key _ _ _ (by rw [List.length_map]; exact hvl) hfl r1
    have hes : ∀ e ∈ (trs ws vs).map trE, e.length = 3 ∧ e.all (·.oneCell') = true := by rw [← trs_sntC hvl]; exact sntC_ok hall
    have hlen : (ws.map snE).length = ((trs ws vs).map trE).length := by rw [List.length_map, List.length_map, trs_len hvl]
    rw [hlen] at s3
    have s4 : St w0 w ((paOw u E 3 ((trs ws vs).map trE)).A u :: (ptO E' vs (ws.map (fun x : Sn => x.2.2)) ++ Es)) := s3.same fun F hF => ⟨F, ⟨rfl, hes, hF⟩, fun _ h => h⟩
    have s5 : St w0 w (ptO E' vs (ws.map (fun x : Sn => x.2.2)) ++ ((paOw u E 3 ((trs ws vs).map trE)).A u :: Es)) := St.perm s4 List.perm_middle.symm
    have s6 : St w0 w ((frOw (ptO E' vs (ws.map (fun x : Sn => x.2.2)))).A (.bool true) :: (paOw u E 3 ((trs ws vs).map trE)).A u :: Es) := (St.joinL (L := ptO E' vs (ws.map (fun x : Sn => x.2.2))) s5).same fun F hF => ⟨F, ⟨rfl, hF⟩, fun _ h => h⟩
    have hn2 : lk (upd1 k (.own (paOw u E 3 ((trs ws vs).map trE))) H) j = none := by rw [lk_upd1, if_neg hjk]; exact hj
    have hD : ∀ i, dom H i → dom (upd1 j (.own (frOw (ptO E' vs (ws.map (fun x : Sn => x.2.2))))) (upd1 k (.own (paOw u E 3 ((trs ws vs).map trE))) H)) i ∧ upρ ρ j (.bool true) i = ρ i := fun i hi => ⟨dom_upd1.2 (.inr (dom_upd1.2 (.inr hi))), upρ_ne _ _ (fun e => lk_nd hj (e ▸ hi))⟩
    have p2 := upd1_perm (.own (paOw u E 3 ((trs ws vs).map trE))) hr.nd hk
    have pall : ((j, Blk.own (frOw (ptO E' vs (ws.map (fun x : Sn => x.2.2))))) :: (k, Blk.own (paOw u E 3 ((trs ws vs).map trE))) :: offK k H).Perm (upd1 j (.own (frOw (ptO E' vs (ws.map (fun x : Sn => x.2.2))))) (upd1 k (.own (paOw u E 3 ((trs ws vs).map trE))) H)) := by
      rw [upd1_new _ hn2]
      exact (p2.symm.cons _).trans (List.perm_append_singleton _ _).symm
    have hmem : ∀ y : Nat × Blk, y ∈ offK k H → dom H y.1 := fun y hy => by
      have hy' : y ∈ H := (List.mem_filter.1 hy).1
      exact dom_mem.2 (List.mem_map_of_mem (f := fun z : Nat × Blk => z.1) hy')
    have hkk : upρ ρ j (.bool true) k = u := by rw [upρ_ne _ _ (fun e => hjk e.symm)]; exact hu
    have F3 : F2 (BR w0 (dom (upd1 j (.own (frOw (ptO E' vs (ws.map (fun x : Sn => x.2.2))))) (upd1 k (.own (paOw u E 3 ((trs ws vs).map trE))) H))) (upρ ρ j (.bool true))) ((j, Blk.own (frOw (ptO E' vs (ws.map (fun x : Sn => x.2.2))))) :: (k, Blk.own (paOw u E 3 ((trs ws vs).map trE))) :: offK k H) ((frOw (ptO E' vs (ws.map (fun x : Sn => x.2.2)))).A (.bool true) :: (paOw u E 3 ((trs ws vs).map trE)).A u :: Es) :=
      .cons (by show _ = (frOw (ptO E' vs (ws.map (fun x : Sn => x.2.2)))).A (upρ ρ j (.bool true) j); rw [upρ_self]) (.cons (by show _ = (paOw u E 3 ((trs ws vs).map trE)).A (upρ ρ j (.bool true) k); rw [hkk]) (x2.mono fun y _ hy r => BR.ext hD (hmem y hy) r))
    obtain ⟨Cs, c2, c1⟩ := F2.perm pall F3
    exact h vs hvl w0 w (upρ ρ j (.bool true)) a ⟨hr.sz, hr.df, fun i => (hr.tm i).ext hD, ⟨Cs, c1, St.perm s6 c2⟩, nd_upd1 _ _ (nd_upd1 _ _ hr.nd)⟩
theorem vc_reS {k j : Nat} {u : Value} {E E' : TypeId} {ws : List Sn} {vs : List Value} {L : List Tr} {B : List (List Int)} (hvl : vs.length = ws.length) (hL : L = trs ws vs) (hB : B = ws.map (fun x : Sn => x.2.2)) (h : VC P n c K t (updH H [(k, .own (pinOw u (sntOw E E' (ws.map snE)))), (j, .dead)])) (hk : lk H k = some (.own (paOw u E 3 (L.map trE))) := by rfl) (hj : lk H j = some (.own (frOw (ptO E' vs B))) := by rfl) (hkj : Nat.beq k j = false := by rfl) : VC P n c K t H := fun w0 w ρ a hr => by
  subst hL hB
  obtain ⟨A, B, Js, hA, hB, h2, h3⟩ := hr.focus22 hk hj (Nat.ne_of_beq_eq_false hkj)
  have hA' : A = (paOw u E 3 ((trs ws vs).map trE)).A (ρ k) := hA
  have hB' : B = (frOw (ptO E' vs (ws.map (fun x : Sn => x.2.2)))).A (ρ j) := hB
  subst hA' hB'
  obtain ⟨F0, hF0⟩ := h2.head
  have hu : ρ k = u := hF0.1
  have s1 : St w0 w (slotA E 3 u ((trs ws vs).map trE).length ((trs ws vs).map trE).flatten :: (frOw (ptO E' vs (ws.map (fun x : Sn => x.2.2)))).A (ρ j) :: Js) := h2.same fun F hF => ⟨F, hF.2.2, fun _ h => h⟩
  have s2 : St w0 w (joinA (ptO E' vs (ws.map (fun x : Sn => x.2.2))) :: slotA E 3 u ((trs ws vs).map trE).length ((trs ws vs).map trE).flatten :: Js) := (St.perm s1 (.swap ..)).same fun F hF => ⟨F, hF.2, fun _ h => h⟩
  have s3 := St.unjoin s2
  rw [← ptO_snt E' hvl, ← trs_sntC hvl] at s3
  have hlen : (sntC (ws.map snE) vs).length = (ws.map snE).length := sntC_len (by rw [List.length_map]; exact hvl)
  rw [hlen] at s3
  have s4 : St w0 w ((slotA E 3 u (ws.map snE).length (sntC (ws.map snE) vs).flatten :: sntO E' (ws.map snE) vs) ++ Js) := St.perm s3 List.perm_middle
  have s5 : St w0 w ((pinOw u (sntOw E E' (ws.map snE))).A (ρ k) :: Js) := (St.joinL (L := slotA E 3 u (ws.map snE).length (sntC (ws.map snE) vs).flatten :: sntO E' (ws.map snE) vs) s4).same fun F hF => ⟨F, ⟨hu, fun x hx => by obtain ⟨y, _, rfl⟩ := List.mem_map.1 hx; exact int_ok _, vs, by rw [List.length_map]; exact hvl, hF⟩, fun _ h => h⟩
  exact h w0 w ρ a (h3 w (.own (pinOw u (sntOw E E' (ws.map snE)))) .dead _ deadA (fun D => rfl) (fun D => rfl) (St.perm (St.dead s5) (.swap ..)))
end
section
variable {P : Program} [TyEnv P] {o : Oper} {rd : Nat → AV} {T e : TypeId} {i : TyI} {k m j : Nat} {x y : Operand} {E E' : TypeId}
theorem tri_ixO {ei : TyI} {n : Int} {xs : List Snt} (ho : o.op = .indexAddr T x y) (hi : TyEnv.ti P T = some i) (hk : i.k = .slice e) (he : TyEnv.ti P e = some ei) (hsz : ei.size = 3) (hx : evo rd x = .one (.hs k)) (hy : evo rd y = .one (.v (.int .i64 n))) (h0 : 0 ≤ n ∧ n < xs.length) : Tri P o rd [(k, .own (sntOw E E' xs))] (.one (.ptr k n.toNat 3 0)) [] := by
  intro w0 w ρ m t H a Q hr ht hrs hfr hd
  obtain ⟨A, Js, hA, h2, _⟩ := hr.focus (hrs k _ (List.mem_cons_self ..))
  have hA' : A = sntA E E' xs (ρ k) := hA
  subst hA'
  have hx' := hr.ev x
  rw [evo_of (by simp [ho, Op.operands]) ht, hx] at hx'
  obtain ⟨hD, hx', _⟩ := hx'
  have hy' := hr.ev y
  rw [evo_of (by simp [ho, Op.operands]) ht, hy] at hy'
  obtain ⟨F, hF⟩ := h2.head
  obtain ⟨es, ⟨A, c, g1, _, _, hc⟩, hq⟩ := (sntOw E E' xs).rd hF
  have hl := hq.len
  obtain ⟨b, off, rfl, _⟩ := hc.2 (fun h => by subst h; simp at hl; subst hl; simp at h0; omega)
  have hu := ty_slice hi hk
  have := run_indexAt_slice (P := P) w T ⟨b, off, none⟩ es.length c .i64 n (by rw [elem_of hu]; exact hu)
  rw [if_pos (by omega), elem_of hu, size_run he] at this
  simp only [Result.andThen_ok, add_plain] at this
  unfold Oper.wp
  rw [show (execOp a.eval o).run P w = .ok (.value (.pointer (some ⟨b, off + n.toNat * ei.size, none⟩))) w by simp only [execOp, ho, hx', g1, AR.int hy', Sem.run_bind, this, Result.andThen_ok, Sem.run_pure]]
  exact ⟨ρ, hr.put (v := .one (.ptr k n.toNat 3 0)) ⟨hD, b, off, by rw [g1]; rfl, by rw [hsz, Nat.add_zero]⟩ hd⟩
theorem sntO_set (E' : TypeId) : ∀ {xs : List Snt} {vs : List Value} {j : Nat} {y : Snt} {u : Value}, vs.length = xs.length → j < xs.length → ∃ L1 A L2, sntO E' xs vs = L1 ++ A :: L2 ∧ sntO E' (xs.set j y) (vs.set j u) = L1 ++ slotA E' 1 u y.2.2.length y.2.2.flatten :: L2
  | x :: xs, v :: vs, 0, y, u, _, _ => ⟨[], _, _, rfl, rfl⟩
  | x :: xs, v :: vs, j + 1, y, u, h, hj => by
    obtain ⟨L1, A, L2, e1, e2⟩ := sntO_set E' (xs := xs) (vs := vs) (j := j) (y := y) (u := u) (by simpa using h) (by simpa using hj)
    exact ⟨slotA E' 1 v x.2.2.length x.2.2.flatten :: L1, A, L2, by simp only [sntO, e1, List.cons_append], by simp only [List.set_cons_succ, sntO, e2, List.cons_append]⟩
theorem sntC_set : ∀ {xs : List Snt} {vs : List Value} {j : Nat} {y : Snt} {u : Value}, vs.length = xs.length → j < xs.length → (sntC xs vs).set j [.int .i64 y.1, .int .i64 y.2.1, u] = sntC (xs.set j y) (vs.set j u)
  | x :: xs, v :: vs, 0, y, u, _, _ => rfl
  | x :: xs, v :: vs, j + 1, y, u, h, hj => by
    have := sntC_set (xs := xs) (vs := vs) (j := j) (y := y) (u := u) (by simpa using h) (by simpa using hj)
    simp only [List.set_cons_succ, sntC, this]
theorem nic3 (e : List Value) (a b c : Value) (h : e.length = 3) : nicL e 0 [a, b, c] = [a, b, c] := by
  match e, h with
  | [x, y, z], _ => rfl
theorem tri_stS {xs : List Snt} {p q : Int} {es : List (List Value)} (ho : o.op = .store T x y) (hn : o.dst = none) (hi : TyEnv.ti P T = some i) (hsz : i.size = 3) (hx : evo rd x = .one (.ptr k j 3 0)) (hy : evo rd y = .agg [.v (.int .i64 p), .v (.int .i64 q), .hs m]) (hj : j < xs.length) (hkm : k ≠ m) : Tri P o rd [(k, .own (sntOw E E' xs)), (m, .arr E' 1 es)] .junk [(k, .own (sntOw E E' (xs.set j (p, q, es)))), (m, .dead)] := by
  intro w0 w ρ n t H a Q hr ht hrs hfr hd
  obtain ⟨A, B, Js, hA, hB, h2, h3⟩ := hr.focus22 (hrs k _ (List.mem_cons_self ..)) (hrs m _ (List.mem_cons_of_mem _ (List.mem_cons_self ..))) hkm
  have hA' : A = sntA E E' xs (ρ k) := hA
  subst hA'
  obtain ⟨hes, rfl⟩ := hB
  have hx' := hr.ev x
  rw [evo_of (o := o) (by rw [ho]; simp [Op.operands]) ht, hx] at hx'
  obtain ⟨_, b, off, e1, hx'⟩ := hx'
  obtain ⟨hF0, vs, hvl, s1⟩ := h2.snt_o
  have hflat : (sntC xs vs).flatten.length = xs.length * 3 := by
    obtain ⟨F, hF⟩ := s1.head
    exact hF.1.1
  obtain ⟨b', off', cap, hv', hc⟩ := slot_cells (s1.slot .head) (by omega)
  rw [hv'] at e1
  simp only [base, Option.some.injEq, Prod.mk.injEq] at e1
  obtain ⟨rfl, rfl⟩ := e1
  have hall : ∀ v ∈ vs, v.oneCell' = true := by
    obtain ⟨hx0, G, ⟨G1, G2, q1, q2, q3, q4⟩, _⟩ := s1
    obtain ⟨R1, R2, r1, r2, _, _⟩ := SepL.unapp q2
    exact (sntO_read hvl hF0 r1).2
  have hesC := sntC_ok (xs := xs) hall
  have hlC := sntC_len hvl
  obtain ⟨e, he⟩ : ∃ e, (sntC xs vs)[j]? = some e := ⟨_, List.getElem?_eq_getElem (by omega)⟩
  obtain ⟨hel, hone⟩ := hesC e (List.mem_of_getElem? he)
  have hy' := hr.ev y
  rw [evo_of (o := o) (by rw [ho]; simp [Op.operands]) ht, hy] at hy'
  obtain ⟨us, hyv, hy'⟩ := hy'
  obtain ⟨u, hu, huo, rfl⟩ : ∃ u, u = ρ m ∧ u.oneCell' = true ∧ us = [.int .i64 p, .int .i64 q, u] := by
    cases hy' with
    | cons g1 hy' =>
      cases hy' with
      | cons g2 hy' =>
        cases hy' with
        | cons g3 hy' =>
          cases hy'
          obtain ⟨_, g3, g4⟩ := g3
          obtain ⟨rfl, _⟩ := g1
          obtain ⟨rfl, _⟩ := g2
          exact ⟨_, g3, g4, rfl⟩
  rw [hv'] at s1
  have hS := St.setS s1 (p := j * 3) (vs := [.int .i64 p, .int .i64 q, u]) (by show j * 3 + 3 ≤ _; omega)
  have q1 : (a.eval y).cells.toList = [.int .i64 p, .int .i64 q, u] := by rw [hyv]; rfl
  have q2 : ([.int .i64 p, .int .i64 q, u] : List Value).all (·.oneCell') = true := by simp only [List.all_cons, List.all_nil, huo, Bool.and_true]; rfl
  have hth : w.there b' (off' + j * 3 + 0) (a.eval y).cells.size := fun m hm => by
    rw [← Array.length_toList, q1] at hm
    have hm3 : m < 3 := hm
    have hcm := hc (j * 3 + m) (by omega)
    rw [show off' + j * 3 + 0 + m = off' + (j * 3 + m) from by omega]
    refine ⟨?_, hcm.2⟩
    rw [hcm.1, List.getElem?_eq_getElem (by omega)]; rfl
  have hsz3 : (a.eval y).cells.size = i.size := by rw [← Array.length_toList, q1, hsz]; rfl
  have hsv : (storeVar T ⟨b', off' + j * 3 + 0, none⟩ (a.eval y)).run P w = .ok () (w.setCells b' (off' + j * 3 + 0) (a.eval y).cells.toList) := by
    have h0 := run_storeVar_mid (P := P) w b' (off' + j * 3 + 0) T (a.eval y).cells hth (by rw [hsz3]; exact ty_size hi) (by rw [← Array.all_toList, q1]; exact q2)
    cases hq : a.eval y <;> rw [hq] at h0 <;> first | exact h0 | (simp only [storeVar, Value.cells] at h0 ⊢; exact h0)
  have hr' : (Instr.storeAt T (.pointer (some ⟨b', off' + j * 3 + 0, none⟩)) (a.eval y)).run P w = .ok () (w.setCells b' (off' + j * 3 + 0) [.int .i64 p, .int .i64 q, u]) := by
    rw [← q1]
    simp only [Instr.storeAt, Instr.sureAddr, Sem.run_bind, Sem.run_pure, Result.andThen_ok, hsv]
  unfold Oper.wp execOp
  simp only [ho, hx', Sem.run_bind, hr', Result.andThen_ok, Sem.run_pure]
  show ∃ ρ', Rel w0 _ ρ' n (putT t o.dst .junk) _ (a.put o.dst undef)
  rw [hn]
  obtain ⟨L1, A, L2, e2, e3⟩ := sntO_set E' (xs := xs) (vs := vs) (j := j) (y := (p, q, es)) (u := u) hvl hj
  have hnic : nicL (sntC xs vs).flatten (j * 3) [.int .i64 p, .int .i64 q, u] = (sntC (xs.set j (p, q, es)) (vs.set j u)).flatten := by
    rw [← sntC_set (y := (p, q, es)) hvl hj]
    have := flat_set hesC he (o := 0) (us := [.int .i64 p, .int .i64 q, u]) (by show 0 + 3 ≤ 3; decide)
    rw [nic3 e _ _ _ hel, Nat.add_zero] at this
    exact this.symm
  rw [hnic, ← hv', e2] at hS
  have hS1 : St w0 (w.setCells b' (off' + j * 3 + 0) [.int .i64 p, .int .i64 q, u]) ((slotA E 3 (ρ k) xs.length (sntC (xs.set j (p, q, es)) (vs.set j u)).flatten :: (L1 ++ slotA E' 1 u es.length es.flatten :: L2)) ++ Js) := by
    have g1 : St w0 (w.setCells b' (off' + j * 3 + 0) [.int .i64 p, .int .i64 q, u]) (A :: (slotA E 3 (ρ k) xs.length (sntC (xs.set j (p, q, es)) (vs.set j u)).flatten :: slotA E' 1 (ρ m) es.length es.flatten :: (L1 ++ L2 ++ Js))) := by
      refine St.perm hS ?_
      have a1 : (slotA E 3 (ρ k) xs.length (sntC (xs.set j (p, q, es)) (vs.set j u)).flatten :: ((L1 ++ A :: L2) ++ slotA E' 1 (ρ m) es.length es.flatten :: Js)).Perm (slotA E 3 (ρ k) xs.length (sntC (xs.set j (p, q, es)) (vs.set j u)).flatten :: (A :: slotA E' 1 (ρ m) es.length es.flatten :: (L1 ++ L2 ++ Js))) := by
        refine List.Perm.cons _ ?_
        refine (List.perm_middle (l₁ := L1 ++ A :: L2)).trans ?_
        refine (List.Perm.cons _ ?_).trans (.swap ..)
        rw [List.append_assoc, List.append_assoc, List.cons_append]
        exact List.perm_middle
      exact a1.trans (.swap ..)
    have g2 := g1.drop1
    refine St.perm g2 ?_
    rw [← hu, List.cons_append]
    refine List.Perm.cons _ ?_
    rw [List.append_assoc, List.append_assoc, List.cons_append]
    exact List.perm_middle.symm
  have hS2 : St w0 (w.setCells b' (off' + j * 3 + 0) [.int .i64 p, .int .i64 q, u]) (sntA E E' (xs.set j (p, q, es)) (ρ k) :: Js) := by
    have e3' : sntO E' (xs.set j (p, q, es)) (vs.set j u) = L1 ++ slotA E' 1 u es.length es.flatten :: L2 := e3
    rw [← e3'] at hS1
    have hl2 : xs.length = (xs.set j (p, q, es)).length := by rw [List.length_set]
    rw [hl2] at hS1
    refine (St.joinL (L := slotA E 3 (ρ k) (xs.set j (p, q, es)).length (sntC (xs.set j (p, q, es)) (vs.set j u)).flatten :: sntO E' (xs.set j (p, q, es)) (vs.set j u)) hS1).same fun F hF => ⟨F, ⟨fun z hz => ?_, vs.set j u, by rw [List.length_set, List.length_set]; exact hvl, hF⟩, fun _ h => h⟩
    rcases List.mem_or_eq_of_mem_set hz with h | h
    · exact hF0 z h
    · rw [h]; exact hes
  exact ⟨ρ, h3 _ (.own (sntOw E E' (xs.set j (p, q, es)))) .dead _ deadA (fun D => rfl) (fun D => rfl) (St.perm (St.dead hS2) (.swap ..))⟩
end
end Go.Vc
end
section
namespace Go.Vc
open Go Go.RowKit
set_option linter.unusedVariables false
set_option linter.unusedSectionVars false
set_option linter.unusedSimpArgs false
section
variable {P : Program} [TyEnv P] {n : Nat} {ops os : List Oper} {K : Tm → Hp → Prop} {t t' : Tm} {H H' : Hp} {o : Oper} {k1 k2 : List Nat} {dr : Bool} {fp : List Fp} {T e : TypeId} {i ei : TyI} {x z : Operand}
theorem in1 {k : Nat} {b : Blk} (hj : lk H k = some b) : ∀ j c, (j, c) ∈ [(k, b)] → lk H j = some c := fun j c h => by
  simp only [List.mem_cons, Prod.mk.injEq, List.not_mem_nil, or_false] at h
  obtain ⟨rfl, rfl⟩ := h
  exact hj
theorem fr1 {k : Nat} {b b' : Blk} : ∀ j c, (j, c) ∈ [(k, b')] → (∃ b'', (j, b'') ∈ [(k, b)]) ∨ lk H j = none := fun j c h => by
  simp only [List.mem_cons, Prod.mk.injEq, List.not_mem_nil, or_false] at h
  obtain ⟨rfl, _⟩ := h
  exact .inl ⟨b, List.mem_cons_self ..⟩
theorem in2 {k m : Nat} {b c : Blk} (hj : lk H k = some b) (hm : lk H m = some c) : ∀ j q, (j, q) ∈ [(k, b), (m, c)] → lk H j = some q := fun j q h => by
  simp only [List.mem_cons, Prod.mk.injEq, List.not_mem_nil, or_false] at h
  rcases h with ⟨rfl, rfl⟩ | ⟨rfl, rfl⟩
  · exact hj
  · exact hm
theorem fr2 {k m : Nat} {b c b' c' : Blk} : ∀ j q, (j, q) ∈ [(k, b'), (m, c')] → (∃ b'', (j, b'') ∈ [(k, b), (m, c)]) ∨ lk H j = none := fun j q h => by
  simp only [List.mem_cons, Prod.mk.injEq, List.not_mem_nil, or_false] at h
  rcases h with ⟨rfl, _⟩ | ⟨rfl, _⟩
  · exact .inl ⟨b, List.mem_cons_self ..⟩
  · exact .inl ⟨c, List.mem_cons_of_mem _ (List.mem_cons_self ..)⟩
theorem vks {α : Type} [Inhabited α] {v0 : Value} {E : TypeId} {sz k j f : Nat} {xs : List α} {g : α → List Value} {vs : List PV} {us : List Value} (y : α) (h : Vd P n ops dr K os t' H' ((k1, k2) :: fp)) (hd : dstB o.dst n = true := by rfl) (hg : o.guard = none := by rfl) (ho : o.op = .store T x z := by rfl) (hn : o.dst = none := by rfl) (hi : TyEnv.ti P T = some i := by rfl) (hx : evo (gt t) x = .one (.ptr k j sz f) := by rfl) (hj : lk H k = some (.own (paOw v0 E sz (xs.map g))) := by rfl) (hy : cellsO (evo (gt t) z) = some vs := by rfl) (hp : plainV vs = some us := by rfl) (hl : us.length = i.size := by rfl) (hv : spl (g (at' xs j)) f us = some (g y) := by rfl)
    (ht : stF o.dst .junk [(k, .own (paOw v0 E sz ((xs.set j y).map g)))] [(k, .own (paOw v0 E sz (xs.map g)))] t H = some (t', H', k1, k2) := by rfl) (hs : j < xs.length := by omega) : Vd P n ops dr K (o :: os) t H fp := by
  have he : (xs.map g)[j]? = some (g (at' xs j)) := by rw [List.getElem?_map, List.getElem?_eq_getElem hs]; unfold at'; rw [List.getElem?_eq_getElem hs]; rfl
  have hT := tri_stPA (v0 := v0) (E := E) ho hn hi hx he hy hp hl hv
  rw [show (xs.map g).set j (g y) = (xs.set j y).map g from List.map_set.symm] at hT
  exact vd_plain hd hg (good_of hT (in1 hj) fr1) ht h
theorem nf_v (u : Value) : nfA (.one (.v u)) = some (.one (.v u)) := by cases u <;> rfl
def stV (d : Option Nat) (u : Value) (rs : Hp) (t : Tm) (H : Hp) : Option (Tm × Hp × List Nat × List Nat) := match putF d (.one (.v u)) t with
  | some t' => match updF H [] with
    | some H' => match keysF rs with
      | some k1 => some (t', H', k1, [])
      | none => none
    | none => none
  | none => none
theorem stV_stF {d : Option Nat} {u : Value} {rs : Hp} : stF d (.one (.v u)) [] rs t H = stV d u rs t H := by
  unfold stF
  rw [nf_v]
  rfl
theorem vkv {α : Type} [Inhabited α] {v0 u : Value} {E : TypeId} {sz k j f : Nat} {xs : List α} {g : α → List Value} (h : Vd P n ops dr K os t' H' ((k1, k2) :: fp)) (hd : dstB o.dst n = true := by rfl) (hg : o.guard = none := by rfl) (ho : o.op = .load T x := by rfl) (hi : TyEnv.ti P T = some i := by rfl) (hx : evo (gt t) x = .one (.ptr k j sz f) := by rfl) (hj : lk H k = some (.own (paOw v0 E sz (xs.map g))) := by rfl) (hv : mkv i (((g (at' xs j)).drop f).map .v) = some (.one (.v u)) := by rfl)
    (ht : stV o.dst u [(k, .own (paOw v0 E sz (xs.map g)))] t H = some (t', H', k1, k2) := by rfl) (hs : j < xs.length := by omega) : Vd P n ops dr K (o :: os) t H fp := vd_plain hd hg (goodr (tri_ldPA ho hi hx (by rw [List.getElem?_map, List.getElem?_eq_getElem hs]; unfold at'; rw [List.getElem?_eq_getElem hs]; rfl) hv) hj) (stV_stF.trans ht) h
theorem vlt0 {f : FuncId} {args : Array Operand} {ats : Array TypeId} {ys : List AV} {b b' : Blk} {r : Value} {m : Nat} (hc : ConH P f ys b b' r) (h : Vd P n ops dr K os t' H' ((k1, k2) :: fp)) (hd : dstB o.dst n = true := by rfl) (hg : o.guard = none := by rfl) (ho : o.op = .call { callee := .value (.func f), args := args, argTypes := ats } := by rfl) (hy : args.toList.map (evo (gt t)) = ys.map (mkA fun _ => m) := by rfl) (hj : lk H m = some b := by rfl) (h1 : r.oneCell' = true := by rfl)
    (ht : stF o.dst (.one (.v r)) [(m, b')] [(m, b)] t H = some (t', H', k1, k2) := by rfl) : Vd P n ops dr K (o :: os) t H fp := vd_plain hd hg (good_of (tri_callH0 hc ho hy h1) (in1 hj) fr1) ht h
theorem vlt1 {f : FuncId} {args : Array Operand} {ats : Array TypeId} {ys : List AV} {b b' : Blk} {r u : Value} {m : Nat} (hc : ConH P f ys b b' r) (h : Vd P n ops dr K os t' H' ((k1, k2) :: fp)) (hd : dstB o.dst n = true := by rfl) (hg : o.guard = none := by rfl) (ho : o.op = .call { callee := .value (.func f), args := args, argTypes := ats } := by rfl) (hy : args.toList.map (evo (gt t)) = ys.map (mkA fun _ => m) := by rfl) (hj : lk H m = some (.own (pinB u b)) := by rfl) (h1 : r.oneCell' = true := by rfl)
    (ht : stF o.dst (.one (.v r)) [(m, .own (pinB u b'))] [(m, .own (pinB u b))] t H = some (t', H', k1, k2) := by rfl) : Vd P n ops dr K (o :: os) t H fp := vd_plain hd hg (good_of (tri_callH1 hc ho hy h1) (in1 hj) fr1) ht h
theorem vlt2 {f : FuncId} {args : Array Operand} {ats : Array TypeId} {ys : List AV} {b d b' d' : Blk} {r : Value} {m1 m2 : Nat} (hc : ConH2 P f ys b d b' d' r) (h : Vd P n ops dr K os t' H' ((k1, k2) :: fp)) (hd : dstB o.dst n = true := by rfl) (hg : o.guard = none := by rfl) (ho : o.op = .call { callee := .value (.func f), args := args, argTypes := ats } := by rfl) (hy : args.toList.map (evo (gt t)) = ys.map (mkA (s2 m1 m2)) := by rfl) (hj : lk H m1 = some b := by rfl) (hm : lk H m2 = some d := by rfl) (hne : Nat.beq m1 m2 = false := by rfl) (h1 : r.oneCell' = true := by rfl)
    (ht : stF o.dst (.one (.v r)) [(m1, b'), (m2, d')] [(m1, b), (m2, d)] t H = some (t', H', k1, k2) := by rfl) : Vd P n ops dr K (o :: os) t H fp := vd_plain hd hg (good_of (tri_callH2 hc ho hy h1 (Nat.ne_of_beq_eq_false hne)) (in2 hj hm) fr2) ht h
theorem vhq {f : FuncId} {x y : Operand} {ats : Array TypeId} {r q hh : Value} {m : Nat} (i : Nat) {E' : TypeId} {vs : List Value} {B : List (List Int)} {b b' : List Int} (hc : ConH P f [.one (.hs 0), .one (.v q)] (.arr E' 1 (b.map intE)) (.arr E' 1 (b'.map intE)) r) (hv : vs[i]? = some hh) (hb : B[i]? = some b) (h : Vd P n ops dr K os t' H' ((k1, k2) :: fp)) (hd : dstB o.dst n = true := by rfl) (hg : o.guard = none := by rfl) (ho : o.op = .call { callee := .value (.func f), args := #[x, y], argTypes := ats } := by rfl) (hx : evo (gt t) x = .one (.v hh) := by rfl) (hy : evo (gt t) y = .one (.v q) := by rfl) (hj : lk H m = some (.own (frOw (ptO E' vs B))) := by rfl) (h1 : r.oneCell' = true := by rfl)
    (ht : stF o.dst (.one (.v r)) [(m, .own (frOw (ptO E' vs (B.set i b'))))] [(m, .own (frOw (ptO E' vs B)))] t H = some (t', H', k1, k2) := by rfl) : Vd P n ops dr K (o :: os) t H fp := vd_plain hd hg (good_of (tri_callP hc ho hx hy h1 hv hb) (in1 hj) fr1) ht h
theorem vxo {m : Int} {k : Nat} {E E' : TypeId} {ws : List Sn} {y : Operand} (h : Vd P n ops dr K os t' H' ((k1, k2) :: fp)) (hd : dstB o.dst n = true := by rfl) (hg : o.guard = none := by rfl) (ho : o.op = .indexAddr T x y := by rfl) (hi : TyEnv.ti P T = some i := by rfl) (hk : i.k = .slice e := by rfl) (he : TyEnv.ti P e = some ei := by rfl) (hz : ei.size = 3 := by rfl) (hx : evo (gt t) x = .one (.hs k) := by rfl) (hy : evo (gt t) y = .one (.v (.int .i64 m)) := by rfl) (hj : lk H k = some (.own (sntOw E E' (ws.map snE))) := by rfl)
    (ht : stF o.dst (.one (.ptr k m.toNat 3 0)) [] [(k, .own (sntOw E E' (ws.map snE)))] t H = some (t', H', k1, k2) := by rfl) (hs : 0 ≤ m ∧ m < ws.length := by omega) : Vd P n ops dr K (o :: os) t H fp := vd_plain hd hg (goodr (tri_ixO ho hi hk he hz hx hy (by rw [List.length_map]; exact hs)) hj) ht h
theorem vso {k m j : Nat} {p q : Int} {b : List Int} {E E' : TypeId} {ws : List Sn} (h : Vd P n ops dr K os t' H' ((k1, k2) :: fp)) (hd : dstB o.dst n = true := by rfl) (hg : o.guard = none := by rfl) (ho : o.op = .store T x z := by rfl) (hn : o.dst = none := by rfl) (hi : TyEnv.ti P T = some i := by rfl) (hsz : i.size = 3 := by rfl) (hx : evo (gt t) x = .one (.ptr k j 3 0) := by rfl) (hy : evo (gt t) z = .agg [.v (.int .i64 p), .v (.int .i64 q), .hs m] := by rfl) (hj : lk H k = some (.own (sntOw E E' (ws.map snE))) := by rfl) (hm : lk H m = some (.arr E' 1 (b.map intE)) := by rfl) (hne : Nat.beq k m = false := by rfl)
    (ht : stF o.dst .junk [(k, .own (sntOw E E' ((ws.set j (p, q, b)).map snE))), (m, .dead)] [(k, .own (sntOw E E' (ws.map snE))), (m, .arr E' 1 (b.map intE))] t H = some (t', H', k1, k2) := by rfl) (hs : j < ws.length := by omega) : Vd P n ops dr K (o :: os) t H fp := by
  have hT := tri_stS (E := E) (E' := E') (xs := ws.map snE) ho hn hi hsz hx hy (by rw [List.length_map]; exact hs) (Nat.ne_of_beq_eq_false hne) (es := b.map intE)
  rw [show (ws.map snE).set j (p, q, b.map intE) = (ws.set j (p, q, b)).map snE from (by rw [List.map_set]; rfl)] at hT
  exact vd_plain hd hg (good_of hT (in2 hj hm) fr2) ht h
theorem vmk {l c : Int} {d : Nat} {zs : List Value} {y : Operand} (h : Vd P n ops dr K os t' H' ((k1, k2) :: fp)) (hd : dstB o.dst n = true := by rfl) (hg : o.guard = none := by rfl) (ho : o.op = .makeSlice T x y := by rfl) (hi : TyEnv.ti P T = some i := by rfl) (hk : i.k = .slice e := by rfl) (hei : TyEnv.ti P e = some ei := by rfl) (hx : evo (gt t) x = .one (.v (.int .i64 l)) := by rfl) (hy : evo (gt t) y = .one (.v (.int .i64 c)) := by rfl) (hz : ei.zero.map pvv = zs := by rfl) (hone : zs.all (·.oneCell') = true := by rfl) (hdd : o.dst = some d := by rfl) (hnk : lk H (8 * d) = none := by rfl)
    (ht : stF o.dst (.one (.hs (8 * d))) [(8 * d, .arr e ei.size (List.replicate l.toNat zs))] [] t H = some (t', H', k1, k2) := by rfl) (hby : Nat.ble ei.bytes 100 = true := by rfl) (hs : 0 ≤ l ∧ l ≤ c ∧ c ≤ 1099511627776 := by omega) : Vd P n ops dr K (o :: os) t H fp :=
  vd_plain hd hg (good_of (tri_makeN (k := 8 * d) ho hi hk hei hx hy hs.1 hs.2.1 (by
    have h1 := Nat.le_of_ble_eq_true hby
    have h2 : (ei.bytes : Int) * c ≤ 100 * 1099511627776 := Int.mul_le_mul (by omega) hs.2.2 (by omega) (by decide)
    omega) (by unfold maxLen; omega) hz.symm hone) (fun k b hb => by cases hb) fun k b hb => by
    simp only [List.mem_cons, Prod.mk.injEq, List.not_mem_nil, or_false] at hb
    obtain ⟨rfl, _⟩ := hb
    exact .inr hnk) ht h
end
end Go.Vc
end
section
namespace Go.Vc
open Go Go.RowKit
set_option linter.unusedVariables false
set_option linter.unusedSectionVars false
set_option linter.unusedSimpArgs false
end Go.Vc
end

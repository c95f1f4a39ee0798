/- Part 2 of what the proof of FnReceivedStreams rests on: an idealised machine, contracts of functions, and the walk of the law. No condition. -/
import Derived.Test.YtfcmcedeapgdcaaGreatMFnReceivedStreamsa
section
namespace Go.Vc
open Go Go.RowKit
set_option linter.unusedVariables false
set_option linter.unusedSimpArgs false
set_option linter.unnecessarySimpa false
set_option linter.unusedSectionVars false
structure need (p q : Prop) : Prop where
  l : p
  r : q
inductive onO {α : Type} (x : Option α) (f : α → Prop) : Prop
  | mk (a : α) (h : x = some a) (k : f a)
inductive onO2 {α β : Type} (x : Option (α × β)) (f : α → β → Prop) : Prop
  | mk (a : α) (b : β) (h : x = some (a, b)) (k : f a b)
inductive onO3 {α β γ : Type} (x : Option (α × β × γ)) (f : α → β → γ → Prop) : Prop
  | mk (a : α) (b : β) (c : γ) (h : x = some (a, b, c)) (k : f a b c)
structure ldx (es : List (List Value)) (i : Nat) (f : List Value → Prop) : Prop where
  l : i < es.length
  r : ∀ e, es[i]? = some e → f e
def callx (P : Program) (f : FuncId) (ys : List AV) (F : (Nat → AV) → (Nat → Hp) → Prop) : Prop := ∃ res Hr, Con P f ys res Hr ∧ F res Hr
def TK.sl : TK → Option TypeId
  | .slice e => some e
  | _ => none
def TK.fs : TK → Option (List (Nat × Nat))
  | .struct l => some l
  | _ => none
def TK.st : TK → Option Unit
  | .str => some ()
  | _ => none
def rowOf (H : Hp) (k : Nat) : Option (TypeId × List PV) := match lk H k with
  | some (.row T cs) => some (T, cs)
  | _ => none
def arrOf (H : Hp) (k : Nat) : Option (TypeId × Nat × List (List Value)) := match lk H k with
  | some (.arr E sz es) => some (E, sz, es)
  | _ => none
def asT : AV → Option (List AV)
  | .tup vs => some vs
  | _ => none
def asN : AV → Option Int
  | .one (.v (.int _ n)) => some n
  | _ => none
def asH : AV → Option Nat
  | .one (.hs k) => some k
  | _ => none
def asHv : AV → Option (Nat × Nat)
  | .one (.hv k j) => some (k, j)
  | _ => none
def aggV : AV → Option (List Value)
  | .agg ps => plainV ps
  | _ => none
def int2 : AV → AV → Option (Int × Int)
  | .one (.v (.int .i64 a)), .one (.v (.int .i64 b)) => some (a, b)
  | _, _ => none
def intQ : AV → AV → Option (IntKind × Int × Int)
  | .one (.v (.int .i64 a)), .one (.v (.int .i64 b)) => some (.i64, a, b)
  | .one (.v (.int .u32 a)), .one (.v (.int .u32 b)) => some (.u32, a, b)
  | _, _ => none
def asU : AV → Option Int
  | .one (.v (.int .u32 n)) => some n
  | _ => none
def sh2 : AV → AV → Option (IntKind × Int × Int)
  | .one (.v (.int q a)), .one (.v (.int _ b)) => some (q, a, b)
  | _, _ => none
def vsrcO (tk : TK) (sz : Nat) (x : AV) (H : Hp) : Option (List (List Value) × Hp) := match tk, x with
  | .slice _, .one (.hs j) => match lk H j with
    | some (.arr E sz' new) => if sz' = sz then some (new, [(j, .arr E sz' new)]) else none
    | _ => none
  | .slice _, .one (.sl sz' es) => if sz' = sz then some (es, []) else none
  | .slice _, .one .nil => some ([], [])
  | .slice _, .one (.hc j l sz') => match lk H j with
    | some (.arr E sz2 new) => if sz2 = sz ∧ sz' = sz then some (new.drop l, [(j, .arr E sz2 new)]) else none
    | _ => none
  | .str, .one (.v (.string s)) => if sz = 1 then some (bytesE s, []) else none
  | _, _ => none
section
variable (P : Program) [TyEnv P] (o : Oper) (rd : Nat → AV) (H : Hp) (K : AV → Hp → Hp → Prop)
def vload (i : TyI) : PV → Prop
  | .rp k f => onO2 (rowOf H k) fun T cs => onO (mkv i (cs.drop f)) fun v => K v [] [(k, .row T cs)]
  | .ptr k j sz f => onO3 (arrOf H k) fun E z es => need (z = sz) (ldx es j fun e => onO (mkv i ((e.drop f).map .v)) fun v => K v [] [(k, .arr E sz es)])
  | .ep sz es j f => ldx es j fun e => onO (mkv i ((e.drop f).map .v)) fun v => K v [] []
  | _ => False
def vstore (i : TyI) (vs : List PV) : PV → Prop
  | .rp k f => onO2 (rowOf H k) fun T cs => onO (spl cs f vs) fun cs' => K .junk [(k, .row T cs')] [(k, .row T cs)]
  | .ptr k j sz f => onO3 (arrOf H k) fun E z es => need (z = sz) (ldx es j fun e => onO (plainV vs) fun us => onO (spl e f us) fun e' => K .junk [(k, .arr E sz (es.set j e'))] [(k, .arr E sz es)])
  | _ => False
def vbin (T : TypeId) (op : BinOp) (x y : AV) : TK → Prop
  | .struct _ => onO (aggV x) fun xs => onO (aggV y) fun ys => need (xs.map kd = ys.map kd ∧ EqOk P T (ys.map kd)) (onO (eqB op xs ys) fun v => K (.one (.v v)) [] [])
  | .bool => onO (asB x) fun a => onO (asB y) fun b => onO (booB op a b) fun v => K (.one (.v v)) [] []
  | .str => onO (asS x) fun a => onO (asS y) fun b => match op with
    | .add => need (a.size + b.size ≤ 9223372036854775807) (K (.one (.v (.string (a ++ b)))) [] [])
    | op => onO (strB op a b) fun v => K (.one (.v v)) [] []
  | .int _ => match op with
    | .quo => onO2 (int2 x y) fun a b => need (b ≠ 0) (K (.one (.v (.int .i64 (wr (a.tdiv b))))) [] [])
    | .rem => onO2 (int2 x y) fun a b => need (b ≠ 0) (K (.one (.v (.int .i64 (a.tmod b)))) [] [])
    | .shl => onO3 (sh2 x y) fun q a b => need (0 ≤ b ∧ b ≤ q.bits) (K (.one (.v (.int q (q.wrap (a * 2 ^ b.toNat))))) [] [])
    | .shr => onO3 (sh2 x y) fun q a b => need (0 ≤ b ∧ b ≤ q.bits) (K (.one (.v (.int q (a / 2 ^ b.toNat)))) [] [])
    | op => onO3 (intQ x y) fun q a b => onO (intA q op a b) fun v => K (.one (.v v)) [] []
  | .slice _ => False
def vback (k : Nat) : Option Blk → Prop
  | some (.byt s) => K (.one (.v (.string s))) [] [(k, .byt s)]
  | some (.arr E z es) => need (z = 1 ∧ okE es) (K (.one (.v (.string (ofE es)))) [] [(k, .arr E 1 es)])
  | _ => False
def vcut (ei : TyI) (k : Nat) (n : Int) : Option Blk → Prop
  | some (.byt s) => need (ei.size = 1 ∧ 0 ≤ n ∧ n < s.size) (K (.one (.hv k n.toNat)) [] [(k, .byt s)])
  | some (.arr E z es) => need (z = ei.size ∧ 0 ≤ n ∧ n ≤ es.length) (K (.one (.hc k n.toNat z)) [] [(k, .arr E z es)])
  | _ => False
def vcpy (k j : Nat) (p : ByteArray) : Option Blk → Prop
  | some (.byt s) => need (j + p.size ≤ s.size) (K (.one (.v (.int .i64 p.size))) [(k, .byt (putB s j p))] [(k, .byt s)])
  | _ => False
def vslp (ei : TyI) (lo hi : Option Operand) : PV → Prop
  | .hs k => onO lo fun y => need (hi = none) (onO (asI (evo rd y)) fun n => vcut K ei k n (lk H k))
  | .sl sz es => match lo, hi with
    | some y, none => onO (asI (evo rd y)) fun l => need (sz = ei.size ∧ 0 ≤ l ∧ l ≤ es.length) (K (.one (.sl sz (es.drop l.toNat))) [] [])
    | none, some y => onO (asI (evo rd y)) fun m => need (sz = ei.size ∧ 0 ≤ m ∧ m ≤ es.length) (K (.one (.sl sz (es.take m.toNat))) [] [])
    | _, _ => False
  | _ => False
def vslc (T : TypeId) (x : Operand) (lo hi : Option Operand) : TK → Prop
  | .str => onO (asS (evo rd x)) fun s => onO (loI rd lo) fun l => onO (hiI rd s.size hi) fun m => need (0 ≤ l ∧ l ≤ m ∧ m ≤ s.size) (K (.one (.v (.string (s.extract l.toNat m.toNat)))) [] [])
  | .slice e => onO (TyEnv.ti P e) fun ei => onO (asP (evo rd x)) fun p => vslp rd H K ei lo hi p
  | _ => False
def vconv (x : AV) : TK → TK → Prop
  | .int _, .int q => onO (asN x) fun n => K (.one (.v (.int q (q.wrap n)))) [] []
  | .str, .slice e => onO o.dst fun d => onO (TyEnv.ti P e) fun ei => onO (asS x) fun s => need (ei.k = .int .u8 ∧ lk H (8 * d) = none) (K (.one (.hs (8 * d))) [(8 * d, .byt s)] [])
  | .slice e, .str => onO (TyEnv.ti P e) fun ei => need (ei.k = .int .u8) (onO (asH x) fun k => vback K k (lk H k))
  | _, _ => False
def vix (ei : TyI) (n : Int) : PV → Prop
  | .hs k => onO3 (arrOf H k) fun E z es => need (z = ei.size ∧ 0 ≤ n ∧ n < es.length) (K (.one (.ptr k n.toNat z 0)) [] [(k, .arr E z es)])
  | .sl sz es => need (sz = ei.size ∧ 0 ≤ n ∧ n < es.length) (K (.one (.ep sz es n.toNat 0)) [] [])
  | _ => False
def vlen (tk : TK) : PV → Prop
  | .v (.string s) => onO tk.st fun _ => K (.one (.v (.int .i64 s.size))) [] []
  | .sl sz es => onO tk.sl fun _ => K (.one (.v (.int .i64 es.length))) [] []
  | .nil => onO tk.sl fun _ => K (.one (.v (.int .i64 0))) [] []
  | .hs k => onO tk.sl fun _ => onO3 (arrOf H k) fun E z es => K (.one (.v (.int .i64 es.length))) [] [(k, .arr E z es)]
  | _ => False
def vapp (d : Nat) (e : TypeId) (ei : TyI) (s1 : List (List Value)) (s2 : Hp) : PV → Prop
  | .hs j => onO3 (arrOf H j) fun E z es => need (E = e ∧ z = ei.size ∧ es.length + s1.length ≤ maxLen ∧ (es.length + s1.length) * ei.bytes ≤ 140737488355328 ∧ lk H (8 * d) = none)
      (K (.one (.hs (8 * d))) [(j, .dead), (8 * d, .arr e ei.size (es ++ s1))] ((j, .arr e ei.size es)   :: s2))
  | .nil => need (s1.length ≤ maxLen ∧ s1.length * ei.bytes ≤ 140737488355328 ∧ lk H (8 * d) = none) (K (.one (.hs (8 * d))) [(8 * d, .arr e ei.size s1)] s2)
  | _ => False
def vbi : Builtin → List Operand → List TypeId → Prop
  | .len, [x], [T] => onO (TyEnv.ti P T) fun i => onO (asP (evo rd x)) fun p => vlen H K i.k p
  | .copy, [x, y], [T, tx] => onO (TyEnv.ti P T) fun i => onO i.k.sl fun e => onO (TyEnv.ti P e) fun ei => need (ei.size = 1) (onO2 (asHv (evo rd x)) fun k j => onO (asS (evo rd y)) fun p => vcpy K k j p (lk H k))
  | .min, [x, y], [T, T'] => onO2 (int2 (evo rd x) (evo rd y)) fun a b => K (.one (.v (.int .i64 (min a b)))) [] []
  | .append, [x, y], [T, tx] => onO o.dst fun d => onO (TyEnv.ti P T) fun i => onO i.k.sl fun e => onO (TyEnv.ti P e) fun ei => onO (TyEnv.ti P tx) fun it => onO2 (vsrcO it.k ei.size (evo rd y) H) fun s1 s2 => onO (asP (evo rd x)) fun p => vapp H K d e ei s1 s2 p
  | _, _, _ => False
def vstep : Prop := match o.op with
  | .move x => K (evo rd x) [] []
  | .assign x => K (evo rd x) [] []
  | .pick c x y => onO (asB (evo rd c)) fun b => K (bif b then evo rd x else evo rd y) [] []
  | .alloc T => onO o.dst fun d => onO (TyEnv.ti P T) fun i => need (lk H (8 * d) = none) (K (.one (.rp (8 * d) 0)) [(8 * d, .row T i.zero)] [])
  | .box T x => onO o.dst fun d => onO (cellsO (evo rd x)) fun cs => need (lk H (8 * d) = none) (K (.one (.rp (8 * d) 0)) [(8 * d, .row T cs)] [])
  | .build T parts => onO (TyEnv.ti P T) fun i => onO i.k.fs fun fs => onO (buildO fs i.zero (parts.toList.map fun p => (p.1, evo rd p.2))) fun cs => K (.agg cs) [] []
  | .buildSlice T n parts => onO o.dst fun d => onO (TyEnv.ti P T) fun i => onO i.k.sl fun e => onO (TyEnv.ti P e) fun ei => need (parts.toList.map (·.1) = List.range n ∧ n * ei.size ≤ 16777216 ∧ lk H (8 * d) = none) (onO (elemsO ei.size (parts.toList.map fun p => evo rd p.2)) fun es => K (.one (.hs (8 * d))) [(8 * d, .arr e ei.size es)] [])
  | .load T x => onO (TyEnv.ti P T) fun i => onO (asP (evo rd x)) fun p => vload H K i p
  | .store T x y => need (o.dst = none) (onO (TyEnv.ti P T) fun i => onO (asP (evo rd x)) fun p => onO (cellsO (evo rd y)) fun vs => need (vs.length = i.size) (vstore H K i vs p))
  | .binOp op T x y _ => onO (TyEnv.ti P T) fun i => vbin P K T op (evo rd x) (evo rd y) i.k
  | .nilCheck x => onO (asP (evo rd x)) fun p => onO (ptrP p) fun q => K (.one q) [] []
  | .unOp .not _ x => onO (asB (evo rd x)) fun b => K (.one (.v (.bool (!b)))) [] []
  | .unOp .xor _ x => onO (asU (evo rd x)) fun n => K (.one (.v (.int .u32 (Go.bits .xor .u32 4294967295 n)))) [] []
  | .convert S T x => onO (TyEnv.ti P S) fun i' => onO (TyEnv.ti P T) fun i => vconv P o H K (evo rd x) i'.k i.k
  | .makeSlice T x y => onO o.dst fun d => onO (TyEnv.ti P T) fun i => onO i.k.sl fun e => onO (TyEnv.ti P e) fun ei => onO2 (int2 (evo rd x) (evo rd y)) fun a b => onO (plainV ei.zero) fun zs => need (0 ≤ a ∧ a ≤ b ∧ (ei.bytes : Int) * b ≤ 281474976710656 ∧ b ≤ maxLen ∧ lk H (8 * d) = none) (K (.one (.hs (8 * d))) [(8 * d, .arr e ei.size (List.replicate a.toNat zs))] [])
  | .slice T x lo hi none => onO (TyEnv.ti P T) fun i => vslc P rd H K T x lo hi i.k
  | .fieldAddr T x f => onO (TyEnv.ti P T) fun i => onO i.k.fs fun fs => onO2 fs[f]? fun f1 f2 => need (0 < f2) (onO (asP (evo rd x)) fun p => onO (addOff p f1) fun q => K (.one q) [] [])
  | .index T x y => onO (TyEnv.ti P T) fun i => onO i.k.st fun _ => onO (asS (evo rd x)) fun s => onO (asI (evo rd y)) fun n => need (0 ≤ n ∧ n < s.size) (K (.one (.v (.int .u8 (bytI s n)))) [] [])
  | .indexAddr T x y => onO (TyEnv.ti P T) fun i => onO i.k.sl fun e => onO (TyEnv.ti P e) fun ei => onO (asI (evo rd y)) fun n => onO (asP (evo rd x)) fun p => vix H K ei n p
  | .extract x m => onO (asT (evo rd x)) fun vs => onO vs[m]? fun v => K v [] []
  | .call { callee := .value (.func f), args := args, argTypes := _ } => onO (frzAs H (args.toList.map (evo rd))) fun ys => callx P f ys fun res Hr => need ((Hr (8 * o.dst.getD 0)).all (fun p => (lk H p.1).isNone) = true) (K (res (8 * o.dst.getD 0)) (Hr (8 * o.dst.getD 0)) (rsOf H ((args.toList.map (evo rd)).flatMap hsA)))
  | .call { callee := .builtin b, args := args, argTypes := ts } => vbi P o rd H K b args.toList ts.toList
  | _ => False
end
def Good (P : Program) (o : Oper) (rd : Nat → AV) (H : Hp) (v : AV) (δ rs : Hp) : Prop :=
  Tri P o rd rs v δ ∧ (∀ k b, (k, b) ∈ rs → lk H k = some b) ∧ ∀ k b, (k, b) ∈ δ → (∃ b', (k, b') ∈ rs) ∨ lk H k = none
section
variable {P : Program} [TyEnv P] {o : Oper} {rd : Nat → AV} {H : Hp} {K : AV → Hp → Hp → Prop}
theorem good0 {v : AV} (h : Tri P o rd [] v []) : Good P o rd H v [] [] := ⟨h, fun _ _ h => (by cases h), fun _ _ h => (by cases h)⟩
theorem good1 {v : AV} {k : Nat} {b : Blk} (h : Tri P o rd [] v [(k, b)]) (hk : lk H k = none) : Good P o rd H v [(k, b)] [] :=
  ⟨h, fun _ _ h => (by cases h), fun _ _ h => by simp only [List.mem_singleton, Prod.mk.injEq] at h; obtain ⟨rfl, rfl⟩ := h; exact .inr hk⟩
theorem goodr {v : AV} {k : Nat} {b : Blk} (h : Tri P o rd [(k, b)] v []) (hk : lk H k = some b) : Good P o rd H v [] [(k, b)] :=
  ⟨h, fun _ _ h => by simp only [List.mem_singleton, Prod.mk.injEq] at h; obtain ⟨rfl, rfl⟩ := h; exact hk, fun _ _ h => (by cases h)⟩
theorem goodw {v : AV} {k : Nat} {b b' : Blk} (h : Tri P o rd [(k, b)] v [(k, b')]) (hk : lk H k = some b) : Good P o rd H v [(k, b')] [(k, b)] :=
  ⟨h, fun _ _ h => by simp only [List.mem_singleton, Prod.mk.injEq] at h; obtain ⟨rfl, rfl⟩ := h; exact hk, fun _ _ h => by simp only [List.mem_singleton, Prod.mk.injEq] at h; obtain ⟨rfl, rfl⟩ := h; exact .inl ⟨b, by simp⟩⟩
theorem rowOf_some {k : Nat} {r : TypeId × List PV} (h : rowOf H k = some r) : lk H k = some (.row r.1 r.2) := by
  unfold rowOf at h; split at h
  · rename_i h'; simp only [Option.some.injEq] at h; subst h; exact h'
  · cases h
theorem arrOf_some {k : Nat} {r : TypeId × Nat × List (List Value)} (h : arrOf H k = some r) : lk H k = some (.arr r.1 r.2.1 r.2.2) := by
  unfold arrOf at h; split at h
  · rename_i h'; simp only [Option.some.injEq] at h; subst h; exact h'
  · cases h
theorem asP_some {x : AV} {p : PV} (h : asP x = some p) : x = .one p := by
  unfold asP at h; split at h
  · simp only [Option.some.injEq] at h; subst h; rfl
  · cases h
theorem asB_some {x : AV} {p : Bool} (h : asB x = some p) : x = .one (.v (.bool p)) := by
  unfold asB at h; split at h
  · simp only [Option.some.injEq] at h; subst h; rfl
  · cases h
theorem asS_some {x : AV} {p : ByteArray} (h : asS x = some p) : x = .one (.v (.string p)) := by
  unfold asS at h; split at h
  · simp only [Option.some.injEq] at h; subst h; rfl
  · cases h
theorem asN_some {x : AV} {p : Int} (h : asN x = some p) : ∃ q, x = .one (.v (.int q p)) := by
  unfold asN at h; split at h
  · simp only [Option.some.injEq] at h; subst h; exact ⟨_, rfl⟩
  · cases h
theorem asH_some {x : AV} {p : Nat} (h : asH x = some p) : x = .one (.hs p) := by
  unfold asH at h; split at h
  · simp only [Option.some.injEq] at h; subst h; rfl
  · cases h
theorem asT_some {x : AV} {p : List AV} (h : asT x = some p) : x = .tup p := by
  unfold asT at h; split at h
  · simp only [Option.some.injEq] at h; subst h; rfl
  · cases h
theorem int2_some {x y : AV} {r : Int × Int} (h : int2 x y = some r) : x = .one (.v (.int .i64 r.1)) ∧ y = .one (.v (.int .i64 r.2)) := by
  unfold int2 at h; split at h
  · simp only [Option.some.injEq] at h; subst h; exact ⟨rfl, rfl⟩
  · cases h
theorem intQ_some {x y : AV} {r : IntKind × Int × Int} (h : intQ x y = some r) : x = .one (.v (.int r.1 r.2.1)) ∧ y = .one (.v (.int r.1 r.2.2)) ∧ (r.1 = .i64 ∨ r.1 = .u32) := by
  unfold intQ at h; split at h
  · simp only [Option.some.injEq] at h; subst h; exact ⟨rfl, rfl, .inl rfl⟩
  · simp only [Option.some.injEq] at h; subst h; exact ⟨rfl, rfl, .inr rfl⟩
  · cases h
theorem asU_some {x : AV} {n : Int} (h : asU x = some n) : x = .one (.v (.int .u32 n)) := by
  unfold asU at h; split at h
  · simp only [Option.some.injEq] at h; subst h; rfl
  · cases h
theorem sh2_some {x y : AV} {r : IntKind × Int × Int} (h : sh2 x y = some r) : x = .one (.v (.int r.1 r.2.1)) ∧ ∃ q, y = .one (.v (.int q r.2.2)) := by
  unfold sh2 at h; split at h
  · simp only [Option.some.injEq] at h; subst h; exact ⟨rfl, _, rfl⟩
  · cases h
theorem aggV_some {x : AV} {xs : List Value} (h : aggV x = some xs) : ∃ ps, x = .agg ps ∧ plainV ps = some xs := by
  unfold aggV at h; split at h
  · exact ⟨_, rfl, h⟩
  · cases h
theorem sl_some {k : TK} {e : TypeId} (h : k.sl = some e) : k = .slice e := by cases k <;> simp_all [TK.sl]
theorem fs_some {k : TK} {e : List (Nat × Nat)} (h : k.fs = some e) : k = .struct e := by cases k <;> simp_all [TK.fs]
theorem st_some {k : TK} {e : Unit} (h : k.st = some e) : k = .str := by cases k <;> simp_all [TK.st]
theorem vload_ok {T : TypeId} {x : Operand} {i : TyI} {p : PV} (ho : o.op = .load T x) (hi : TyEnv.ti P T = some i) (hx : evo rd x = .one p) (h : vload H K i p) : ∃ v δ rs, Good P o rd H v δ rs ∧ K v δ rs := by
  cases p <;> simp only [vload] at h
  · obtain ⟨r1, r2, h1, v, h2, h⟩ := h
    exact ⟨_, _, _, goodr (tri_loadR ho hi hx h2) (rowOf_some h1), h⟩
  · obtain ⟨r1, r2, r3, h1, h3, h4, h⟩ := h
    obtain ⟨e, he⟩ : ∃ e, r3[_]? = some e := ⟨_, List.getElem?_eq_getElem h4⟩
    obtain ⟨v, h5, h⟩ := h e he
    subst h3
    exact ⟨_, _, _, goodr (tri_loadA ho hi hx he h5) (arrOf_some h1), h⟩
  · obtain ⟨h4, h⟩ := h
    obtain ⟨e, he⟩ := (⟨_, List.getElem?_eq_getElem h4⟩ : ∃ e, _ = some e)
    obtain ⟨v, h5, h⟩ := h e he
    exact ⟨_, _, _, good0 (tri_loadE ho hi hx he h5), h⟩
theorem vstore_ok {T : TypeId} {x y : Operand} {i : TyI} {p : PV} {vs : List PV} (ho : o.op = .store T x y) (hn : o.dst = none) (hi : TyEnv.ti P T = some i) (hx : evo rd x = .one p) (hy : cellsO (evo rd y) = some vs) (hl : vs.length = i.size) (h : vstore H K i vs p) : ∃ v δ rs, Good P o rd H v δ rs ∧ K v δ rs := by
  cases p <;> simp only [vstore] at h
  · obtain ⟨r1, r2, h1, v, h2, h⟩ := h
    exact ⟨_, _, _, goodw (tri_storeR ho hn hi hx hy hl h2) (rowOf_some h1), h⟩
  · obtain ⟨r1, r2, r3, h1, h3, h4, h⟩ := h
    obtain ⟨e, he⟩ : ∃ e, r3[_]? = some e := ⟨_, List.getElem?_eq_getElem h4⟩
    obtain ⟨us, h5, e', h6, h⟩ := h e he
    subst h3
    exact ⟨_, _, _, goodw (tri_storeA ho hn hi hx he hy h5 (by rw [← hl, plainV_some h5, List.length_map]) h6) (arrOf_some h1), h⟩
theorem vbin_ok {T T' : TypeId} {x y : Operand} {op : BinOp} {i : TyI} (ho : o.op = .binOp op T x y T') (hi : TyEnv.ti P T = some i) (h : vbin P K T op (evo rd x) (evo rd y) i.k) : ∃ v δ rs, Good P o rd H v δ rs ∧ K v δ rs := by
  cases hk : i.k <;> rw [hk] at h <;> simp only [vbin] at h
  · split at h
    · obtain ⟨r1, r2, h1, h2, h⟩ := h
      obtain ⟨e1, e2⟩ := int2_some h1
      exact ⟨_, _, _, good0 (tri_div ho e1 e2 h2 rfl), h⟩
    · obtain ⟨r1, r2, h1, h2, h⟩ := h
      obtain ⟨e1, e2⟩ := int2_some h1
      exact ⟨_, _, _, good0 (tri_div ho e1 e2 h2 rfl), h⟩
    · obtain ⟨r1, r2, r3, h1, h2, h⟩ := h
      obtain ⟨e1, q, e2⟩ := sh2_some h1
      exact ⟨_, _, _, good0 (tri_sh ho e1 e2 h2.1 h2.2 rfl), h⟩
    · obtain ⟨r1, r2, r3, h1, h2, h⟩ := h
      obtain ⟨e1, q, e2⟩ := sh2_some h1
      exact ⟨_, _, _, good0 (tri_sh ho e1 e2 h2.1 h2.2 rfl), h⟩
    · obtain ⟨q, r1, r2, h1, v, h2, h⟩ := h
      obtain ⟨e1, e2, e3⟩ := intQ_some h1
      simp only at e1 e2 e3
      rcases e3 with rfl | rfl
      · exact ⟨_, _, _, good0 (tri_int ho e1 e2 h2), h⟩
      · exact ⟨_, _, _, good0 (tri_u32 ho e1 e2 h2), h⟩
  · obtain ⟨a, h1, b, h2, v, h3, h⟩ := h
    have hu : P.underlying T = some .bool := by have := ty_kind hi; rw [hk] at this; exact this
    exact ⟨_, _, _, good0 (tri_boo ho hu (asB_some h1) (asB_some h2) h3), h⟩
  · obtain ⟨a, h1, b, h2, h⟩ := h
    split at h
    · exact ⟨_, _, _, good0 (tri_cat ho (asS_some h1) (asS_some h2) h.1), h.2⟩
    · obtain ⟨v, h3, h⟩ := h
      exact ⟨_, _, _, good0 (tri_str ho (asS_some h1) (asS_some h2) h3), h⟩
  · obtain ⟨xs, h1, ys, h2, h3, v, h4, h⟩ := h
    obtain ⟨ps, e1, p1⟩ := aggV_some h1
    obtain ⟨qs, e2, p2⟩ := aggV_some h2
    exact ⟨_, _, _, good0 (tri_eq ho e1 e2 p1 p2 h3.1 h3.2 h4), h⟩
theorem asHv_some {x : AV} {k j : Nat} (h : asHv x = some (k, j)) : x = .one (.hv k j) := by
  unfold asHv at h
  split at h
  · simp only [Option.some.injEq, Prod.mk.injEq] at h; obtain ⟨rfl, rfl⟩ := h; rfl
  · cases h
theorem vconv_ok {S T : TypeId} {x : Operand} {i' i : TyI} (ho : o.op = .convert S T x) (hs : TyEnv.ti P S = some i') (hi : TyEnv.ti P T = some i) (h : vconv P o H K (evo rd x) i'.k i.k) : ∃ v δ rs, Good P o rd H v δ rs ∧ K v δ rs := by
  cases hk' : i'.k <;> cases hk : i.k <;> rw [hk', hk] at h <;> simp only [vconv] at h
  · obtain ⟨n, h1, h⟩ := h
    obtain ⟨q, e⟩ := asN_some h1
    exact ⟨_, _, _, good0 (tri_conv ho hs hi hk e), h⟩
  · obtain ⟨d, hd, ei, h1, s, h2, ⟨h3, h4⟩, h⟩ := h
    exact ⟨_, _, _, good1 (tri_bytes ho hs hk' hi hk h1 h3 (asS_some h2)) h4, h⟩
  · obtain ⟨ei, h1, h2, k, h3, h⟩ := h
    unfold vback at h
    split at h
    · rename_i s hl
      exact ⟨_, _, _, goodr (tri_backB ho hs hk' h1 h2 hi hk (asH_some h3)) hl, h⟩
    · rename_i E z es hl
      obtain ⟨⟨h5, h6⟩, h⟩ := h
      subst h5
      exact ⟨_, _, _, goodr (tri_back ho hs hk' h1 h2 hi hk (asH_some h3) h6) hl, h⟩
    · exact h.elim
theorem vslc_ok {T : TypeId} {x : Operand} {lo hi : Option Operand} {i : TyI} (ho : o.op = .slice T x lo hi none) (hi' : TyEnv.ti P T = some i) (h : vslc P rd H K T x lo hi i.k) : ∃ v δ rs, Good P o rd H v δ rs ∧ K v δ rs := by
  cases hk : i.k <;> rw [hk] at h <;> simp only [vslc] at h
  · obtain ⟨s, h3, l, h4, m, h5, h6, h⟩ := h
    exact ⟨_, _, _, good0 (tri_subS ho hi' hk (asS_some h3) h4 h5 h6), h⟩
  · obtain ⟨ei, h1, p, h4, h⟩ := h
    unfold vslp at h
    split at h
    · obtain ⟨y, hy, hn, n, h3, h⟩ := h
      subst hn hy
      unfold vcut at h
      split at h
      · rename_i s hl
        obtain ⟨⟨h2, h5⟩, h⟩ := h
        exact ⟨_, _, _, goodr (tri_hv ho hi' hk h1 h2 (asP_some h4) (asI_some h3) h5) hl, h⟩
      · rename_i E z es hl
        obtain ⟨⟨rfl, h5⟩, h⟩ := h
        exact ⟨_, _, _, goodr (tri_hc ho hi' hk h1 (asP_some h4) (asI_some h3) h5) hl, h⟩
      · exact h.elim
    · split at h
      · obtain ⟨l, h3, ⟨rfl, h5⟩, h⟩ := h
        exact ⟨_, _, _, good0 (tri_cutLo ho hi' hk h1 (asP_some h4) (asI_some h3) h5), h⟩
      · obtain ⟨l, h3, ⟨rfl, h5⟩, h⟩ := h
        exact ⟨_, _, _, good0 (tri_cutHi ho hi' hk h1 (asP_some h4) (asI_some h3) h5), h⟩
      · exact h.elim
    · exact h.elim
theorem vsrc_ok {tx : TypeId} {it : TyI} {y : Operand} {sz : Nat} {s : List (List Value) × Hp} (hi : TyEnv.ti P tx = some it) (h : vsrcO it.k sz (evo rd y) H = some s) : SrcOk P rd y tx sz s.1 s.2 ∧ ∀ k b, (k, b) ∈ s.2 → lk H k = some b := by
  unfold vsrcO at h
  split at h
  · rename_i e j hk hy
    split at h
    · rename_i E sz' new hl
      split at h
      · rename_i hs
        subst hs
        simp only [Option.some.injEq] at h; subst h
        exact ⟨src_hs (ty_slice hi hk) hy, fun k b hb => by simp only [List.mem_singleton, Prod.mk.injEq] at hb; obtain ⟨rfl, rfl⟩ := hb; exact hl⟩
      · cases h
    · cases h
  · rename_i e sz' es hk hy
    split at h
    · rename_i hs
      subst hs
      simp only [Option.some.injEq] at h; subst h
      exact ⟨src_sl (ty_slice hi hk) hy, fun k b hb => (by cases hb)⟩
    · cases h
  · rename_i e hk hy
    simp only [Option.some.injEq] at h; subst h
    exact ⟨src_nil (ty_slice hi hk) hy, fun k b hb => (by cases hb)⟩
  · rename_i e j l sz' hk hy
    split at h
    · rename_i E sz2 new hl
      split at h
      · rename_i hs
        obtain ⟨rfl, rfl⟩ := hs
        simp only [Option.some.injEq] at h; subst h
        exact ⟨src_hc (ty_slice hi hk) hy, fun k b hb => by simp only [List.mem_singleton, Prod.mk.injEq] at hb; obtain ⟨rfl, rfl⟩ := hb; exact hl⟩
      · cases h
    · cases h
  · rename_i s' hk hy
    split at h
    · rename_i hs
      subst hs
      simp only [Option.some.injEq] at h; subst h
      exact ⟨src_str (ty_str hi hk) hy, fun k b hb => (by cases hb)⟩
    · cases h
  · cases h
theorem vbi_ok {b : Builtin} {args : Array Operand} {ts : Array TypeId} (ho : o.op = .call { callee := .builtin b, args := args, argTypes := ts }) (h : vbi P o rd H K b args.toList ts.toList) : ∃ v δ rs, Good P o rd H v δ rs ∧ K v δ rs := by
  obtain ⟨args⟩ := args
  obtain ⟨ts⟩ := ts
  simp only at h
  unfold vbi at h
  split at h
  · obtain ⟨i, h1, p, h2, h⟩ := h
    unfold vlen at h
    split at h
    · obtain ⟨_, h3, h⟩ := h
      exact ⟨_, _, _, good0 (tri_len (ty := 0) ho h1 (st_some h3) (asP_some h2)), h⟩
    · obtain ⟨e, h3, h⟩ := h
      exact ⟨_, _, _, good0 (tri_lenS ho h1 (sl_some h3) (asP_some h2)), h⟩
    · obtain ⟨e, h3, h⟩ := h
      exact ⟨_, _, _, good0 (tri_lenN ho h1 (sl_some h3) (asP_some h2)), h⟩
    · obtain ⟨e, h3, r1, r2, r3, h4, h⟩ := h
      exact ⟨_, _, _, goodr (tri_lenH ho h1 (sl_some h3) (asP_some h2)) (arrOf_some h4), h⟩
    · exact h.elim
  · obtain ⟨i, h1, e, h2, ei, h3, h4, k, j, h5, p, h6, h⟩ := h
    unfold vcpy at h
    split at h
    · rename_i s hl
      obtain ⟨h7, h⟩ := h
      exact ⟨_, _, _, goodw (tri_copy ho h1 (sl_some h2) h3 h4 (asHv_some h5) (asS_some h6) h7) hl, h⟩
    · exact h.elim
  · obtain ⟨r1, r2, h1, h⟩ := h
    obtain ⟨e1, e2⟩ := int2_some h1
    exact ⟨_, _, _, good0 (tri_min ho e1 e2), h⟩
  · obtain ⟨d, hd, i, h1, e, h2, ei, h3, it, h4, s1, s2, h5, p, h6, h⟩ := h
    obtain ⟨hs, hs2⟩ := vsrc_ok h4 h5
    unfold vapp at h
    split at h
    · rename_i j
      obtain ⟨r1, r2, r3, h7, ⟨q1, q2, q3, q4, q5⟩, h⟩ := h
      have ha := arrOf_some h7
      simp only at ha
      rw [q1, q2] at ha
      refine ⟨_, _, _, ⟨tri_append ho h1 (sl_some h2) h3 (asP_some h6) hs q3 q4 (fun hh => by rw [hh, ha] at q5; cases q5) (fun b hb => by rw [hs2 _ _ hb] at q5; cases q5), fun k b hb => ?_, fun k b hb => ?_⟩, h⟩
      · rcases List.mem_cons.1 hb with hb | hb
        · simp only [Prod.mk.injEq] at hb; obtain ⟨rfl, rfl⟩ := hb; exact ha
        · exact hs2 k b hb
      · rcases List.mem_cons.1 hb with hb | hb
        · simp only [Prod.mk.injEq] at hb; obtain ⟨rfl, rfl⟩ := hb; exact .inl ⟨_, List.mem_cons_self ..⟩
        · simp only [List.mem_singleton, Prod.mk.injEq] at hb; obtain ⟨rfl, rfl⟩ := hb; exact .inr q5
    · obtain ⟨⟨q3, q4, q5⟩, h⟩ := h
      refine ⟨_, _, _, ⟨tri_appendN ho h1 (sl_some h2) h3 (asP_some h6) hs q3 q4 (fun b hb => by rw [hs2 _ _ hb] at q5; cases q5), hs2, fun k b hb => ?_⟩, h⟩
      simp only [List.mem_singleton, Prod.mk.injEq] at hb; obtain ⟨rfl, rfl⟩ := hb; exact .inr q5
    · exact h.elim
  · exact h.elim
theorem parts_zip : ∀ (parts : List (Nat × Operand)) (k n : Nat), parts.map (·.1) = List.range' k n → parts = ((parts.map (·.2)).zipIdx k).map fun x => (x.2, x.1)
  | [], k, n, h => by simp
  | (i, x) :: l, k, 0, h => by simp at h
  | (i, x) :: l, k, n + 1, h => by
    simp only [List.map_cons, List.range'_succ, List.cons.injEq] at h
    obtain ⟨rfl, h⟩ := h
    simp only [List.map_cons, List.zipIdx_cons]
    rw [← parts_zip l _ n h]
theorem vstep_ok (h : vstep P o rd H K) : ∃ v δ rs, Good P o rd H v δ rs ∧ K v δ rs := by
  unfold vstep at h
  split at h
  · rename_i x ho
    exact ⟨_, _, _, good0 (tri_move (.inl ho)), h⟩
  · rename_i x ho
    exact ⟨_, _, _, good0 (tri_move (.inr ho)), h⟩
  · rename_i c x y ho
    obtain ⟨b, h1, h⟩ := h
    exact ⟨_, _, _, good0 (tri_pick ho (asB_some h1)), h⟩
  · rename_i T ho
    obtain ⟨d, hd, i, h1, h2, h⟩ := h
    exact ⟨_, _, _, good1 (tri_alloc ho h1) h2, h⟩
  · rename_i T x ho
    obtain ⟨d, hd, cs, h1, h2, h⟩ := h
    exact ⟨_, _, _, good1 (tri_box ho h1) h2, h⟩
  · rename_i T parts ho
    obtain ⟨i, h1, fs, h2, cs, h3, h⟩ := h
    exact ⟨_, _, _, good0 (tri_build ho h1 (fs_some h2) h3), h⟩
  · rename_i T n parts ho
    obtain ⟨d, hd, i, h1, e, h2, ei, h3, ⟨q1, q2, q3⟩, es, h4, h⟩ := h
    have hz := parts_zip parts.toList 0 n (by rw [q1, List.range_eq_range'])
    refine ⟨_, _, _, good1 (tri_bslice (ys := parts.toList.map (·.2)) ho h1 (sl_some h2) h3 hz ?_ q2 (by rw [List.map_map]; exact h4)) q3, h⟩
    have := congrArg List.length q1
    simpa using this
  · rename_i T x ho
    obtain ⟨i, h1, p, h2, h⟩ := h
    exact vload_ok ho h1 (asP_some h2) h
  · rename_i T x y ho
    obtain ⟨hn, i, h1, p, h2, vs, h3, h4, h⟩ := h
    exact vstore_ok ho hn h1 (asP_some h2) h3 h4 h
  · rename_i op T x y T' ho
    obtain ⟨i, h1, h⟩ := h
    exact vbin_ok ho h1 h
  · rename_i x ho
    obtain ⟨p, h1, q, h2, h⟩ := h
    exact ⟨_, _, _, good0 (tri_nilc ho (asP_some h1) h2), h⟩
  · rename_i T x ho
    obtain ⟨b, h1, h⟩ := h
    exact ⟨_, _, _, good0 (tri_not ho (asB_some h1)), h⟩
  · rename_i T x ho
    obtain ⟨b, h1, h⟩ := h
    exact ⟨_, _, _, good0 (tri_inv ho (asU_some h1)), h⟩
  · rename_i S T x ho
    obtain ⟨i', h1, i, h2, h⟩ := h
    exact vconv_ok ho h1 h2 h
  · rename_i T x y ho
    obtain ⟨d, hd, i, h1, e, h2, ei, h3, r1, r2, h4, zs, h5, ⟨q1, q2, q3, q4, q5⟩, h⟩ := h
    obtain ⟨e1, e2⟩ := int2_some h4
    exact ⟨_, _, _, good1 (tri_make ho h1 (sl_some h2) h3 e1 e2 q1 q2 q3 q4 h5) q5, h⟩
  · rename_i T x lo hi ho
    obtain ⟨i, h1, h⟩ := h
    exact vslc_ok ho h1 h
  · rename_i T x f ho
    obtain ⟨i, h1, fs, h2, r1, r2, h3, h4, p, h5, q, h6, h⟩ := h
    exact ⟨_, _, _, good0 (tri_field ho h1 (fs_some h2) h3 h4 (asP_some h5) h6), h⟩
  · rename_i T x y ho
    obtain ⟨i, h1, _, h2, s, h3, n, h4, h5, h⟩ := h
    exact ⟨_, _, _, good0 (tri_index ho h1 (st_some h2) (asS_some h3) (asI_some h4) h5), h⟩
  · rename_i T x y ho
    obtain ⟨i, h1, e, h2, ei, h3, n, h4, p, h5, h⟩ := h
    unfold vix at h
    split at h
    · obtain ⟨r1, r2, r3, h6, ⟨q1, q2⟩, h⟩ := h
      exact ⟨_, _, _, goodr (tri_ixH ho h1 (sl_some h2) h3 q1 (asP_some h5) (asI_some h4) q2) (arrOf_some h6), h⟩
    · obtain ⟨⟨q1, q2⟩, h⟩ := h
      exact ⟨_, _, _, good0 (tri_ixS ho h1 (sl_some h2) h3 q1 (asP_some h5) (asI_some h4) q2), h⟩
    · exact h.elim
  · rename_i x m ho
    obtain ⟨vs, h1, v, h2, h⟩ := h
    exact ⟨_, _, _, good0 (tri_extract ho (asT_some h1) h2), h⟩
  · rename_i f args ts ho
    obtain ⟨ys, h1, res, Hr, h2, h3, h⟩ := h
    have hfree : ∀ j b, (j, b) ∈ Hr (8 * o.dst.getD 0) → lk H j = none := fun j b hb => by
      have := List.all_eq_true.1 h3 _ hb
      simpa using this
    refine ⟨_, _, _, ⟨tri_call ho h1 h2 ?_, fun k b hb => (rsOf_mem.1 hb).2, fun k b hb => .inr (hfree k b hb)⟩, h⟩
    rintro b rfl
    rw [List.all_eq_true]
    intro p hp
    have hl := hfree p.1 p.2 hp
    rw [Bool.not_eq_true', ← Bool.not_eq_true, List.contains_iff_mem]
    intro hm
    obtain ⟨x, hx, hm⟩ := List.mem_flatMap.1 hm
    have key : ∀ (l ys : List AV), frzAs H l = some ys → ∀ x ∈ l, ∀ k ∈ hsA x, (lk H k).isSome = true := by
      intro l
      induction l with
      | nil => intro _ _ x hx; cases hx
      | cons y l ih =>
        intro ys hys x hx k hk
        simp only [frzAs] at hys
        split at hys
        · rename_i q hq
          obtain ⟨m, hm, _⟩ := Option.map_eq_some_iff.1 hys
          rcases List.mem_cons.1 hx with rfl | hx
          · have one : ∀ (p : PV) (q : PV), frz H p = some q → ∀ k ∈ hsP p, (lk H k).isSome = true := by
              intro p q hq k hk
              cases p <;> simp only [hsP, List.not_mem_nil, List.mem_singleton] at hk
              subst hk
              simp only [frz] at hq
              split at hq
              · rename_i hl; rw [hl]; rfl
              · rename_i hl; rw [hl]; rfl
              · cases hq
            have lst : ∀ (l : List PV) (q : List PV), frzL H l = some q → ∀ k ∈ l.flatMap hsP, (lk H k).isSome = true := by
              intro l
              induction l with
              | nil => intro _ _ k hk; cases hk
              | cons p l ih =>
                intro q hq k hk
                simp only [frzL] at hq
                split at hq
                · rename_i q' hq'
                  obtain ⟨m, hm, _⟩ := Option.map_eq_some_iff.1 hq
                  simp only [List.flatMap_cons, List.mem_append] at hk
                  exact hk.elim (one p q' hq' k) (ih m hm k)
                · cases hq
            cases x with
            | one p => obtain ⟨q', h', _⟩ := Option.map_eq_some_iff.1 hq; exact one p q' h' k hk
            | agg ps => obtain ⟨q', h', _⟩ := Option.map_eq_some_iff.1 hq; exact lst ps q' h' k hk
            | tup vs => cases hk
            | junk => cases hk
          · exact ih m hm x hx k hk
        · cases hys
    have := key _ _ h1 x hx p.1 hm
    rw [hl] at this
    cases this
  · rename_i b args ts ho
    exact vbi_ok ho h
  · exact h.elim
end
end Go.Vc
end
section
namespace Go.Vc
open Go Go.RowKit
set_option linter.unusedVariables false
set_option linter.unusedSimpArgs false
set_option linter.unnecessarySimpa false
set_option linter.unusedSectionVars false
structure Ent where
  on : Bool
  v : AV
  δ : Hp
  rs : Hp
def keys (H : Hp) : List Nat := H.map (·.1)
def wG {α β : Type} (wr : β → Option α) (S : Nat → Bool) : Nat → List β → α → α
  | _, [], acc => acc
  | k, x :: l, acc => wG wr S (k + 1) l (if S k then (wr x).getD acc else acc)
theorem wG_agree {α β : Type} {wr : β → Option α} {S S' : Nat → Bool} : ∀ {l : List β} {k : Nat} {acc : α}, (∀ i x, l[i]? = some x → (wr x).isSome = true → S (k + i) = S' (k + i)) → wG wr S k l acc = wG wr S' k l acc
  | [], _, _, _ => rfl
  | x :: l, k, acc, h => by
    simp only [wG]
    have h0 := h 0 x (by simp)
    have e : (if S k then (wr x).getD acc else acc) = if S' k then (wr x).getD acc else acc := by
      cases hw : wr x with
      | none => simp
      | some v => have := h0 (by rw [hw]; rfl); simp only [Nat.add_zero] at this; rw [this]
    rw [e]
    refine wG_agree fun i y hy hs => ?_
    have := h (i + 1) y (by simpa using hy) hs
    rw [show k + 1 + i = k + (i + 1) by omega]; exact this
theorem wG_none {α β : Type} {wr : β → Option α} {S : Nat → Bool} : ∀ {l : List β} {k : Nat} {acc : α}, (∀ i x, l[i]? = some x → (wr x).isSome = true → S (k + i) = false) → wG wr S k l acc = acc
  | [], _, _, _ => rfl
  | x :: l, k, acc, h => by
    simp only [wG]
    have e : (if S k then (wr x).getD acc else acc) = acc := by
      cases hw : wr x with
      | none => simp
      | some v => have := h 0 x (by simp) (by rw [hw]; rfl); simp only [Nat.add_zero] at this; rw [this]; simp
    rw [e]
    refine wG_none fun i y hy hs => ?_
    have := h (i + 1) y (by simpa using hy) hs
    rw [show k + 1 + i = k + (i + 1) by omega]; exact this
theorem wG_last {α β : Type} {wr : β → Option α} {S : Nat → Bool} : ∀ {l : List β} {k j : Nat} {acc : α} {x : β} {v : α}, l[j]? = some x → wr x = some v → S (k + j) = true → (∀ i y, j < i → l[i]? = some y → (wr y).isSome = true → S (k + i) = false) → wG wr S k l acc = v
  | x :: l, k, 0, acc, y, v, h, hv, hs, hn => by
    simp at h; subst h
    simp only [wG]
    simp only [Nat.add_zero] at hs
    rw [hs, hv]
    simp only [if_true, Option.getD_some]
    refine wG_none fun i y hy hw => ?_
    have := hn (i + 1) y (by omega) (by simpa using hy) hw
    rw [show k + 1 + i = k + (i + 1) by omega]; exact this
  | x :: l, k, j + 1, acc, y, v, h, hv, hs, hn => by
    simp only [wG]
    refine wG_last (j := j) (by simpa using h) hv (by rw [show k + 1 + j = k + (j + 1) by omega]; exact hs) fun i z hi hz hw => ?_
    have := hn (i + 1) z (by omega) (by simpa using hz) hw
    rw [show k + 1 + i = k + (i + 1) by omega]; exact this
def runS (S : Nat → Bool) : Nat → List (Oper × Ent) → Tm × Hp → Tm × Hp
  | _, [], s => s
  | k, x :: l, s => runS S (k + 1) l (if S k then (putT s.1 x.1.dst x.2.v, updH s.2 x.2.δ) else s)
def wrT (d : Nat) (x : Oper × Ent) : Option AV := if x.1.dst = some d then some x.2.v else none
def wrH (k : Nat) (x : Oper × Ent) : Option (Option Blk) := if k ∈ keys x.2.δ then some (lk (updH [] x.2.δ) k) else none
theorem gt_putT (t : Tm) (d : Option Nat) (v : AV) (k : Nat) : gt (putT t d v) k = if d = some k then v else gt t k := by
  cases d with
  | none => simp [putT]
  | some d => simp only [putT, gt]; by_cases e : d = k <;> simp [e]
theorem lk_updH : ∀ (δ H : Hp) (k : Nat), lk (updH H δ) k = if k ∈ keys δ then lk (updH [] δ) k else lk H k
  | [], H, k => by simp [updH, keys]
  | (j, b) :: δ, H, k => by
    simp only [updH]
    rw [lk_updH δ (upd1 j b H) k, lk_updH δ (upd1 j b []) k, lk_upd1]
    by_cases hk : k ∈ keys δ
    · rw [if_pos hk, if_pos (by simp only [keys, List.map_cons, List.mem_cons]; exact .inr hk), if_pos hk]
    · rw [if_neg hk, if_neg hk]
      by_cases e : k = j
      · subst e; simp [keys, upd1, lk]
      · rw [if_neg e, if_neg (by simp only [keys, List.map_cons, List.mem_cons, not_or]; exact ⟨e, hk⟩)]
theorem nd_updH : ∀ (δ : Hp) {H : Hp}, (H.map (·.1)).Nodup → ((updH H δ).map (·.1)).Nodup
  | [], _, h => h
  | (j, b) :: δ, _, h => nd_updH δ (nd_upd1 j b h)
theorem gt_runS (d : Nat) {S : Nat → Bool} : ∀ (l : List (Oper × Ent)) (k : Nat) (s : Tm × Hp), gt (runS S k l s).1 d = wG (wrT d) S k l (gt s.1 d)
  | [], _, _ => rfl
  | x :: l, k, s => by
    simp only [runS, wG]
    rw [gt_runS d l (k + 1)]
    congr 1
    by_cases h : S k = true
    · rw [if_pos h, if_pos h]
      simp only [gt_putT, wrT]
      by_cases e : x.1.dst = some d <;> simp [e]
    · rw [if_neg h, if_neg h]
theorem lk_runS (d : Nat) {S : Nat → Bool} : ∀ (l : List (Oper × Ent)) (k : Nat) (s : Tm × Hp), lk (runS S k l s).2 d = wG (wrH d) S k l (lk s.2 d)
  | [], _, _ => rfl
  | x :: l, k, s => by
    simp only [runS, wG]
    rw [lk_runS d l (k + 1)]
    congr 1
    by_cases h : S k = true
    · rw [if_pos h, if_pos h]
      simp only [lk_updH x.2.δ s.2, wrH]
      by_cases e : d ∈ keys x.2.δ <;> simp [e]
    · rw [if_neg h, if_neg h]
theorem nd_runS {S : Nat → Bool} : ∀ (l : List (Oper × Ent)) (k : Nat) (s : Tm × Hp), (s.2.map (·.1)).Nodup → ((runS S k l s).2.map (·.1)).Nodup
  | [], _, _, h => h
  | x :: l, k, s, h => by
    simp only [runS]
    refine nd_runS l (k + 1) _ ?_
    split
    · exact nd_updH _ h
    · exact h
theorem runS_none {S : Nat → Bool} : ∀ (l : List (Oper × Ent)) (k : Nat) (s : Tm × Hp), (∀ i, k ≤ i → S i = false) → runS S k l s = s
  | [], _, _, _ => rfl
  | x :: l, k, s, h => by
    simp only [runS]
    rw [h k (Nat.le_refl _), runS_none l (k + 1) _ fun i hi => h i (by omega)]
    simp
def upto (i : Nat) : Nat → Bool := fun k => decide (k < i)
theorem F2.perm {α β : Type} {r : α → β → Prop} {l l' : List α} (p : l.Perm l') : ∀ {m : List β}, F2 r l m → ∃ m', m.Perm m' ∧ F2 r l' m' := by
  induction p with
  | nil => intro m h; exact ⟨m, .refl _, h⟩
  | cons x _ ih =>
    intro m h
    cases h with
    | cons h k => obtain ⟨m', p, q⟩ := ih k; exact ⟨_ :: m', p.cons _, .cons h q⟩
  | swap x y l =>
    intro m h
    cases h with
    | cons h k =>
      cases k with
      | cons h' k => exact ⟨_, .swap _ _ _, .cons h' (.cons h k)⟩
  | trans _ _ ih1 ih2 =>
    intro m h
    obtain ⟨m1, p1, q1⟩ := ih1 h
    obtain ⟨m2, p2, q2⟩ := ih2 q1
    exact ⟨m2, p1.trans p2, q2⟩
theorem nd_pairs {H : Hp} (h : (H.map (·.1)).Nodup) : H.Nodup := by
  induction H with
  | nil => exact .nil
  | cons x H ih =>
    simp only [List.map_cons, List.nodup_cons] at h
    exact List.nodup_cons.2 ⟨fun hm => h.1 (List.mem_map_of_mem hm), ih h.2⟩
theorem perm_of_lk {H H' : Hp} (h : (H.map (·.1)).Nodup) (h' : (H'.map (·.1)).Nodup) (e : ∀ k, lk H k = lk H' k) : H.Perm H' := by
  rw [List.perm_ext_iff_of_nodup (nd_pairs h) (nd_pairs h')]
  rintro ⟨k, b⟩
  exact ⟨fun m => lk_mem (by rw [← e]; exact mem_lk h m), fun m => lk_mem (by rw [e]; exact mem_lk h' m)⟩
section
variable {P : Program} {w0 w : World} {ρ : Nat → Value} {n : Nat} {t t' : Tm} {H H' : Hp} {a : Act}
theorem Rel.same (h : Rel w0 w ρ n t H a) (ht : ∀ k, gt t' k = gt t k) (hH : ∀ k, lk H' k = lk H k) (hn : (H'.map (·.1)).Nodup) : Rel w0 w ρ n t' H' a := by
  have hd : dom H' = dom H := by funext k; unfold dom; rw [hH]
  refine ⟨h.sz, h.df, fun k => by rw [ht, hd]; exact h.tm k, ?_, hn⟩
  obtain ⟨As, h1, h2⟩ := h.hp
  obtain ⟨As', p, h3⟩ := h1.perm (perm_of_lk h.nd hn fun k => (hH k).symm)
  exact ⟨As', by rw [hd]; exact h3, St.perm h2 p⟩
end
def bnd (o : Oper) : List Nat := o.after.toList.filterMap fun e => if Region.binds .any e then some e.on else none
def maskOf (acc : List Nat) : List Nat → Nat
  | [] => 0
  | e :: l => 2 ^ e ||| acc.getD e 0 ||| maskOf acc l
def masks : List Oper → List Nat → List Nat
  | [], acc => acc
  | o :: l, acc => masks l (acc ++ [maskOf acc (bnd o)])
def Clo (l : List Oper) (S : Nat → Bool) : Prop := ∀ i o, l[i]? = some o → S i = true → ∀ e ∈ bnd o, S e = true
theorem maskOf_spec {l : List Oper} {acc : List Nat} {S : Nat → Bool} (ha : ∀ (j m : Nat), acc[j]? = some m → S j = true → ∀ i, m.testBit i = true → S i = true) : ∀ {es : List Nat}, (∀ e ∈ es, S e = true) → ∀ i, (maskOf acc es).testBit i = true → S i = true
  | [], _, i, h => by simp [maskOf] at h
  | e :: es, he, i, h => by
    simp only [maskOf, Nat.testBit_or, Bool.or_eq_true] at h
    rcases h with (h | h) | h
    · rw [Nat.testBit_two_pow] at h
      have : e = i := by simpa using h
      subst this; exact he _ (List.mem_cons_self ..)
    · cases hm : acc[e]? with
      | none => rw [List.getD_eq_getElem?_getD, hm] at h; simp at h
      | some m => rw [List.getD_eq_getElem?_getD, hm] at h; exact ha e m hm (he _ (List.mem_cons_self ..)) i h
    · exact maskOf_spec (l := l) ha (fun e' h' => he e' (List.mem_cons_of_mem _ h')) i h
theorem masks_spec {L : List Oper} {S : Nat → Bool} (hc : Clo L S) : ∀ {l : List Oper} {acc : List Nat}, (∀ i o, l[i]? = some o → L[acc.length + i]? = some o) →
    (∀ (j m : Nat), acc[j]? = some m → ∀ o, L[j]? = some o → (∀ e ∈ bnd o, S e = true) → ∀ i, m.testBit i = true → S i = true) →
    (∀ (j m : Nat), acc[j]? = some m → S j = true → ∀ i, m.testBit i = true → S i = true) →
    ∀ (j m : Nat), (masks l acc)[j]? = some m → ∀ o, L[j]? = some o → (∀ e ∈ bnd o, S e = true) → ∀ i, m.testBit i = true → S i = true
  | [], acc, _, h, _ => h
  | o :: l, acc, hl, h, h2 => by
    have h0 := hl 0 o (by simp)
    simp only [Nat.add_zero] at h0
    simp only [masks]
    refine masks_spec hc (fun i o' h' => ?_) (fun j m hm o' ho' hb i hi => ?_) (fun j m hm hs i hi => ?_)
    · have := hl (i + 1) o' (by simpa using h')
      rw [List.length_append, List.length_singleton, Nat.add_assoc, Nat.add_comm 1 i]; exact this
    · rcases Nat.lt_trichotomy j acc.length with hj | hj | hj
      · rw [List.getElem?_append_left hj] at hm; exact h j m hm o' ho' hb i hi
      · subst hj
        simp at hm; subst hm
        rw [h0] at ho'; cases ho'
        exact maskOf_spec (l := L) h2 hb i hi
      · rw [List.getElem?_eq_none (by simp only [List.length_append, List.length_singleton]; omega)] at hm; cases hm
    · rcases Nat.lt_trichotomy j acc.length with hj | hj | hj
      · rw [List.getElem?_append_left hj] at hm; exact h2 j m hm hs i hi
      · subst hj
        simp at hm; subst hm
        exact maskOf_spec (l := L) h2 (hc _ _ h0 hs) i hi
      · rw [List.getElem?_eq_none (by simp only [List.length_append, List.length_singleton]; omega)] at hm; cases hm
abbrev Fp := List Nat × List Nat
def hit (l m : List Nat) : Bool := l.any fun x => m.contains x
def dsts (o : Oper) : List Nat := o.dst.toList
def confB (ops : Array Oper) (x y : Oper × Fp) : Bool :=
  hit (dsts x.1) (y.1.looksAt ops) || hit (dsts x.1) (dsts y.1) || hit (dsts y.1) (x.1.looksAt ops) || hit x.2.2 y.2.2 || hit x.2.2 y.2.1 || hit y.2.2 x.2.1
def pairB (ops : Array Oper) : Nat → List (Oper × Fp) → Oper × Fp → Nat → Bool
  | _, [], _, _ => true
  | i, x :: l, y, m => (!confB ops x y || m.testBit i) && pairB ops (i + 1) l y m
def allB (ops : Array Oper) (pre : List (Oper × Fp)) : List (Oper × Fp) → List Nat → Bool
  | [], _ => true
  | y :: l, m :: ms => pairB ops 0 pre y m && allB ops (pre ++ [y]) l ms
  | _, _ => false
def lowB : Nat → List Oper → Bool
  | _, [] => true
  | i, o :: l => (bnd o).all (fun e => decide (e < i)) && lowB (i + 1) l
def fpB (l : List Oper) (fps : List Fp) : Bool := lowB 0 l && fps.length == l.length && allB l.toArray [] (l.zip fps) (masks l [])
end Go.Vc
end
section
namespace Go.Vc
open Go Go.RowKit
set_option linter.unusedVariables false
set_option linter.unusedSimpArgs false
set_option linter.unnecessarySimpa false
set_option linter.unusedSectionVars false
def gB (ops : List Oper) (rd : Nat → AV) (g : Nat) : Option (Option Bool) := match (ops[g]?).bind (·.dst) with
  | none => none
  | some d => match rd d with
    | .one (.v (.bool c)) => some (some c)
    | .tup [] => some none
    | _ => none
section
variable {P : Program} {w0 w : World} {ρ : Nat → Value} {n : Nat} {t t' : Tm} {H H' : Hp} {a : Act}
theorem gB_y {ops : List Oper} {g : Nat} {r : Option Bool} (hr : Rel w0 w ρ n t H a) (h : gB ops (gt t) g = some r) : yielded ops.toArray a.tmps g = r := by
  unfold gB at h
  split at h
  · cases h
  · rename_i d hd
    have ht := hr.tm d
    have hd' : (ops.toArray[g]?).bind (·.dst) = some d := by simpa using hd
    unfold yielded
    rw [hd', Option.bind_some]
    split at h
    · rename_i c hc
      rw [hc] at ht
      simp only [Option.some.injEq] at h
      subst h
      have hu : a.tmps.getD d undef = .bool c := ht.1
      rw [Array.getD_eq_getD_getElem?] at hu
      cases he : a.tmps[d]? with
      | none => rw [he] at hu; cases hu
      | some u => rw [he] at hu; simp only [Option.getD_some] at hu; subst hu; rfl
    · rename_i hc
      rw [hc] at ht
      simp only [Option.some.injEq] at h
      subst h
      obtain ⟨us, hu, hf⟩ := ht
      cases hf
      rw [Array.getD_eq_getD_getElem?] at hu
      cases he : a.tmps[d]? with
      | none => rfl
      | some u => rw [he] at hu; simp only [Option.getD_some] at hu; subst hu; rfl
    · cases h
end
def gOk (ops : List Oper) (rd : Nat → AV) (o : Oper) (b : Bool) : Prop := match o.guard with
  | none => b = true
  | some (g, want) => ∃ r, gB ops rd g = some r ∧ b = (r == some want)
theorem gOk_w {w0 w : World} {ρ : Nat → Value} {n : Nat} {t : Tm} {H : Hp} {a : Act} {ops : List Oper} {o : Oper} {b : Bool} (hr : Rel w0 w ρ n t H a) (h : gOk ops (gt t) o b) : Region.wanted o (yielded ops.toArray a.tmps) = b := by
  unfold gOk at h
  unfold Region.wanted
  split at h
  · rename_i hg; rw [hg]; exact h.symm
  · rename_i g want hg
    obtain ⟨r, h1, rfl⟩ := h
    rw [hg]
    simp only [gB_y hr h1]
theorem gOk_of {ops : List Oper} {o : Oper} {b : Bool} {r s : Nat → AV} (h : gOk ops r o b) (hl : ∀ d ∈ o.looksAt ops.toArray, s d = r d) : gOk ops s o b := by
  unfold gOk at *
  cases hg : o.guard with
  | none => rw [hg] at h; exact h
  | some x =>
    obtain ⟨g, want⟩ := x
    rw [hg] at h
    obtain ⟨q, h1, h2⟩ := h
    refine ⟨q, ?_, h2⟩
    unfold gB at *
    cases hd : (ops[g]?).bind (·.dst) with
    | none => rw [hd] at h1; cases h1
    | some d =>
      rw [hd] at h1
      have : s d = r d := hl d (by
        unfold Oper.looksAt
        rw [hg]
        refine List.mem_append_right _ ?_
        have : (ops.toArray[g]?).bind (·.dst) = some d := by simpa using hd
        simp only [this]
        simp)
      simp only [this]; exact h1
def EOk (P : Program) (n : Nat) (ops : List Oper) (o : Oper) (e : Ent) (t : Tm) (H : Hp) : Prop :=
  (∀ d, o.dst = some d → d < n) ∧ gOk ops (gt t) o e.on ∧ (e.on = true → Good P o (gt t) H e.v e.δ e.rs) ∧ (e.on = false → e.v = .tup [] ∧ e.δ = [] ∧ e.rs = [])
def Tra (P : Program) (n : Nat) (ops : List Oper) : List (Oper × Ent) → Tm → Hp → Prop
  | [], _, _ => True
  | x :: l, t, H => EOk P n ops x.1 x.2 t H ∧ Tra P n ops l (putT t x.1.dst x.2.v) (updH H x.2.δ)
def fpE (e : Ent) : Fp := (keys e.rs, keys e.δ)
def Vd (P : Program) [TyEnv P] (n : Nat) (ops : List Oper) (dr : Bool) (K : Tm → Hp → Prop) : List Oper → Tm → Hp → List Fp → Prop
  | [], t, H, fp => need (dr = true → fpB ops fp.reverse = true) (K t H)
  | o :: os, t, H, fp => need (∀ d, o.dst = some d → d < n) (match o.guard with
    | none => ∃ v δ rs, Good P o (gt t) H v δ rs ∧ Vd P n ops dr K os (putT t o.dst v) (updH H δ) ((keys rs, keys δ) :: fp)
    | some (g, want) => onO (gB ops (gt t) g) fun r => (r = some want → ∃ v δ rs, Good P o (gt t) H v δ rs ∧ Vd P n ops dr K os (putT t o.dst v) (updH H δ) ((keys rs, keys δ) :: fp)) ∧ (r ≠ some want → Vd P n ops dr K os (putT t o.dst (.tup [])) H (([], []) :: fp)))
def allS : Nat → Bool := fun _ => true
theorem runS_all (l : List (Oper × Ent)) : ∀ (k k' : Nat) (s : Tm × Hp), runS allS k l s = runS allS k' l s := by
  induction l with
  | nil => intros; rfl
  | cons x l ih => intro k k' s; simp only [runS, allS, if_true]; exact ih _ _ _
theorem vd_tra {P : Program} [TyEnv P] {n : Nat} {ops : List Oper} {dr : Bool} {K : Tm → Hp → Prop} : ∀ {os : List Oper} {t : Tm} {H : Hp} {fp : List Fp}, Vd P n ops dr K os t H fp →
    ∃ es : List Ent, es.length = os.length ∧ Tra P n ops (os.zip es) t H ∧ K (runS allS 0 (os.zip es) (t, H)).1 (runS allS 0 (os.zip es) (t, H)).2 ∧ (dr = true → fpB ops (fp.reverse ++ es.map fpE) = true)
  | [], t, H, fp, h => ⟨[], rfl, trivial, h.2, by simpa using h.1⟩
  | o :: os, t, H, fp, h => by
    obtain ⟨hd, h⟩ := h
    have key : ∃ e : Ent, EOk P n ops o e t H ∧ Vd P n ops dr K os (putT t o.dst e.v) (updH H e.δ) (fpE e :: fp) := by
      have stepc : ∀ (hg : gOk ops (gt t) o true), (∃ v δ rs, Good P o (gt t) H v δ rs ∧ Vd P n ops dr K os (putT t o.dst v) (updH H δ) ((keys rs, keys δ) :: fp)) → ∃ e : Ent, EOk P n ops o e t H ∧ Vd P n ops dr K os (putT t o.dst e.v) (updH H e.δ) (fpE e :: fp) := by
        intro hg ⟨v, δ, rs, h1, h2⟩
        exact ⟨⟨true, v, δ, rs⟩, ⟨hd, hg, fun _ => h1, fun h => (by cases h)⟩, h2⟩
      cases hg : o.guard with
      | none => rw [hg] at h; exact stepc (by unfold gOk; rw [hg]) h
      | some x =>
        obtain ⟨g, want⟩ := x
        rw [hg] at h
        obtain ⟨r, hr, h1, h2⟩ := h
        by_cases hw : r = some want
        · exact stepc (by unfold gOk; rw [hg]; exact ⟨r, hr, by rw [hw]; simp⟩) (h1 hw)
        · exact ⟨⟨false, .tup [], [], []⟩, ⟨hd, by unfold gOk; rw [hg]; exact ⟨r, hr, by simpa using hw⟩, fun h => (by cases h), fun _ => ⟨rfl, rfl, rfl⟩⟩, h2 hw⟩
    obtain ⟨e, he, hv⟩ := key
    obtain ⟨es, h1, h2, h3, h4⟩ := vd_tra hv
    refine ⟨e :: es, by simp [h1], ⟨he, h2⟩, ?_, fun hd => ?_⟩
    · simp only [List.zip_cons_cons, runS]
      rw [show allS 0 = true from rfl]
      simp only [if_true]
      rw [runS_all (os.zip es) (0 + 1) 0 (putT t o.dst e.v, updH H e.δ)]; exact h3
    · have := h4 hd
      simpa using this
theorem tra_at {P : Program} {n : Nat} {ops : List Oper} {x : Oper × Ent} (X : List (Oper × Ent)) : ∀ (t : Tm) (H : Hp) (k j : Nat), Tra P n ops X t H → X[j]? = some x → EOk P n ops x.1 x.2 (runS (upto (k + j)) k X (t, H)).1 (runS (upto (k + j)) k X (t, H)).2 := by
  induction X with
  | nil => intro t H k j _ hx; simp at hx
  | cons y X ih =>
    intro t H k j h hx
    cases j with
    | zero =>
      simp only [List.getElem?_cons_zero, Option.some.injEq] at hx
      subst hx
      rw [runS_none _ _ _ fun i hi => by simp [upto]; omega]
      exact h.1
    | succ j =>
      have ih := ih _ _ (k + 1) j h.2 (by simpa using hx)
      simp only [runS]
      rw [show upto (k + (j + 1)) k = true by simp [upto]]
      simp only [if_true]
      rw [show k + (j + 1) = k + 1 + j by omega]
      exact ih
theorem runS_congr {S S' : Nat → Bool} : ∀ {l : List (Oper × Ent)} {k : Nat} {s : Tm × Hp}, (∀ i, i < l.length → S (k + i) = S' (k + i)) → runS S k l s = runS S' k l s
  | [], _, _, _ => rfl
  | x :: l, k, s, h => by
    simp only [runS]
    rw [show S k = S' k from h 0 (by simp)]
    exact runS_congr fun i hi => by have := h (i + 1) (by simp; omega); rw [show k + 1 + i = k + (i + 1) by omega]; exact this
theorem pairB_spec {ops : Array Oper} {y : Oper × Fp} {m : Nat} (l : List (Oper × Fp)) : ∀ (i : Nat), pairB ops i l y m = true → ∀ (k : Nat) (x : Oper × Fp), l[k]? = some x → confB ops x y = true → m.testBit (i + k) = true := by
  induction l with
  | nil => intro i _ k x hx; simp at hx
  | cons x l ih =>
    intro i h k y' hx hc
    simp only [pairB, Bool.and_eq_true] at h
    cases k with
    | zero =>
      simp only [List.getElem?_cons_zero, Option.some.injEq] at hx
      subst hx
      rw [hc] at h
      simpa using h.1
    | succ k =>
      have := ih (i + 1) h.2 k y' (by simpa using hx) hc
      rw [show i + (k + 1) = i + 1 + k by omega]; exact this
theorem allB_spec {ops : Array Oper} (l : List (Oper × Fp)) : ∀ (pre : List (Oper × Fp)) (ms : List Nat), allB ops pre l ms = true → ∀ (j : Nat) (y : Oper × Fp), l[j]? = some y → ∃ m, ms[j]? = some m ∧ ∀ (i : Nat) (x : Oper × Fp), i < pre.length + j → (pre ++ l)[i]? = some x → confB ops x y = true → m.testBit i = true := by
  induction l with
  | nil => intro pre ms _ j y hy; simp at hy
  | cons y l ih =>
    intro pre ms h j y' hy
    cases ms with
    | nil => simp [allB] at h
    | cons m ms =>
      simp only [allB, Bool.and_eq_true] at h
      cases j with
      | zero =>
        simp only [List.getElem?_cons_zero, Option.some.injEq] at hy
        subst hy
        refine ⟨m, by simp, fun i x hi hx hc => ?_⟩
        rw [List.getElem?_append_left (by omega)] at hx
        have := pairB_spec _ 0 h.1 i x hx hc
        rwa [Nat.zero_add] at this
      | succ j =>
        obtain ⟨m', h1, h2⟩ := ih _ _ h.2 j y' (by simpa using hy)
        refine ⟨m', by simpa using h1, fun i x hi hx hc => h2 i x (by simp; omega) (by simpa using hx) hc⟩
theorem lowB_spec (l : List Oper) : ∀ (i : Nat), lowB i l = true → ∀ (k : Nat) (o : Oper), l[k]? = some o → ∀ e ∈ bnd o, e < i + k := by
  induction l with
  | nil => intro i _ k o ho; simp at ho
  | cons o l ih =>
    intro i h k o' ho e he
    simp only [lowB, Bool.and_eq_true, List.all_eq_true, decide_eq_true_eq] at h
    cases k with
    | zero =>
      simp only [List.getElem?_cons_zero, Option.some.injEq] at ho
      subst ho
      exact h.1 e he
    | succ k =>
      have := ih (i + 1) h.2 k o' (by simpa using ho) e he
      omega
def CF (l : List Oper) (X : List (Oper × Ent)) : Prop := ∀ i j x y, X[i]? = some x → X[j]? = some y → i < j → confB l.toArray (x.1, fpE x.2) (y.1, fpE y.2) = true → ∀ S, Clo l S → (∀ e ∈ bnd y.1, S e = true) → S i = true
theorem zip_get {α β : Type} {l : List α} {m : List β} {i : Nat} {x : α × β} : (l.zip m)[i]? = some x ↔ l[i]? = some x.1 ∧ m[i]? = some x.2 := by
  rw [List.getElem?_zip_eq_some]
theorem cf_of {l : List Oper} {es : List Ent} (hl : es.length = l.length) (h : fpB l (es.map fpE) = true) : CF l (l.zip es) ∧ ∀ k o, l[k]? = some o → ∀ e ∈ bnd o, e < k := by
  simp only [fpB, Bool.and_eq_true] at h
  obtain ⟨⟨h1, _⟩, h3⟩ := h
  refine ⟨fun i j x y hx hy hij hc S hS hb => ?_, fun k o ho e he => by have := lowB_spec _ 0 h1 k o ho e he; omega⟩
  obtain ⟨hx1, hx2⟩ := zip_get.1 hx
  obtain ⟨hy1, hy2⟩ := zip_get.1 hy
  obtain ⟨m, hm, hb2⟩ := allB_spec _ _ _ h3 j (y.1, fpE y.2) (zip_get.2 ⟨hy1, by rw [List.getElem?_map, hy2]; rfl⟩)
  have hbit := hb2 i (x.1, fpE x.2) (by simpa using hij) (by rw [List.nil_append]; exact zip_get.2 ⟨hx1, by rw [List.getElem?_map, hx2]; rfl⟩) hc
  exact masks_spec hS (l := l) (acc := []) (fun i o h => by simpa using h) (fun j m h => by simp at h) (fun j m h => by simp at h) j m hm y.1 hy1 hb i hbit
theorem hit_of {l m : List Nat} {x : Nat} (h : x ∈ l) (h' : x ∈ m) : hit l m = true := by
  unfold hit
  rw [List.any_eq_true]
  exact ⟨x, h, by simpa using h'⟩
section
variable {l : List Oper} {es : List Ent} {S : Nat → Bool} {j : Nat} {x : Oper × Ent} {s : Tm × Hp}
theorem wrT_dst {d : Nat} {x : Oper × Ent} (h : (wrT d x).isSome = true) : d ∈ dsts x.1 := by
  unfold wrT at h
  split at h
  · rename_i e; simp [dsts, e]
  · cases h
theorem wrH_key {k : Nat} {x : Oper × Ent} (h : (wrH k x).isSome = true) : k ∈ keys x.2.δ := by
  unfold wrH at h
  split at h
  · assumption
  · cases h
theorem order_of (hcf : CF l (l.zip es)) (hc : Clo l S) (hj : S j = false) (hx : (l.zip es)[j]? = some x) (hb : ∀ e ∈ bnd x.1, S e = true) {i : Nat} {y : Oper × Ent} (hy : (l.zip es)[i]? = some y)
    (h1 : i < j → confB l.toArray (y.1, fpE y.2) (x.1, fpE x.2) = true) (h2 : j < i → confB l.toArray (x.1, fpE x.2) (y.1, fpE y.2) = true) : S i = upto j i := by
  rcases Nat.lt_trichotomy i j with h | h | h
  · rw [hcf i j y x hy hx h (h1 h) S hc hb]; simp [upto, h]
  · subst h; rw [hj]; simp [upto]
  · have e : upto j i = false := by simp [upto]; omega
    rw [e]
    cases hs : S i with
    | false => rfl
    | true =>
      have := hcf j i x y hx hy h (h2 h) S hc (hc i y.1 (zip_get.1 hy).1 hs)
      rw [hj] at this; cases this
theorem looks_same (hcf : CF l (l.zip es)) (hc : Clo l S) (hj : S j = false) (hx : (l.zip es)[j]? = some x) (hb : ∀ e ∈ bnd x.1, S e = true) : ∀ d ∈ x.1.looksAt l.toArray, gt (runS S 0 (l.zip es) s).1 d = gt (runS (upto j) 0 (l.zip es) s).1 d := by
  intro d hd
  rw [gt_runS, gt_runS]
  refine wG_agree fun i y hy hs => ?_
  rw [Nat.zero_add]
  have hm := wrT_dst hs
  refine order_of hcf hc hj hx hb hy (fun _ => ?_) (fun _ => ?_)
  · simp only [confB, hit_of hm hd, Bool.true_or]
  · simp only [confB, hit_of hm hd, Bool.true_or, Bool.or_true]
theorem blocks_same (hcf : CF l (l.zip es)) (hc : Clo l S) (hj : S j = false) (hx : (l.zip es)[j]? = some x) (hb : ∀ e ∈ bnd x.1, S e = true) : ∀ k, k ∈ keys x.2.rs ∨ k ∈ keys x.2.δ → lk (runS S 0 (l.zip es) s).2 k = lk (runS (upto j) 0 (l.zip es) s).2 k := by
  intro d hd
  rw [lk_runS, lk_runS]
  refine wG_agree fun i y hy hs => ?_
  rw [Nat.zero_add]
  have hm := wrH_key hs
  refine order_of hcf hc hj hx hb hy (fun _ => ?_) (fun _ => ?_)
  · rcases hd with hd | hd
    · simp only [confB, fpE, hit_of hm hd, Bool.true_or, Bool.or_true]
    · simp only [confB, fpE, hit_of hm hd, Bool.true_or, Bool.or_true]
  · rcases hd with hd | hd
    · simp only [confB, fpE, hit_of hm hd, Bool.true_or, Bool.or_true]
    · simp only [confB, fpE, hit_of hd hm, Bool.true_or, Bool.or_true]
def addS (S : Nat → Bool) (j : Nat) : Nat → Bool := fun i => S i || i == j
theorem putS_same (hcf : CF l (l.zip es)) (hc : Clo l S) (hj : S j = false) (hx : (l.zip es)[j]? = some x) (hb : ∀ e ∈ bnd x.1, S e = true) (d : Nat) : gt (runS (addS S j) 0 (l.zip es) s).1 d = gt (putT (runS S 0 (l.zip es) s).1 x.1.dst x.2.v) d := by
  rw [gt_putT, gt_runS, gt_runS]
  by_cases hd : x.1.dst = some d
  · rw [if_pos hd]
    refine wG_last hx (by unfold wrT; rw [if_pos hd]) (by simp [addS]) fun i y hi hy hs => ?_
    have := order_of hcf hc hj hx hb hy (fun h => by omega) (fun _ => by
      simp only [confB, hit_of (show d ∈ dsts x.1 by simp [dsts, hd]) (wrT_dst hs), Bool.true_or, Bool.or_true])
    rw [Nat.zero_add]
    unfold addS
    rw [this]
    simp [upto]; omega
  · rw [if_neg hd]
    refine wG_agree fun i y hy hs => ?_
    rw [Nat.zero_add]
    unfold addS
    by_cases e : i = j
    · subst e
      rw [hx] at hy; cases hy
      unfold wrT at hs; rw [if_neg hd] at hs; cases hs
    · simp [e]
theorem updS_same (hcf : CF l (l.zip es)) (hc : Clo l S) (hj : S j = false) (hx : (l.zip es)[j]? = some x) (hb : ∀ e ∈ bnd x.1, S e = true) (k : Nat) : lk (runS (addS S j) 0 (l.zip es) s).2 k = lk (updH (runS S 0 (l.zip es) s).2 x.2.δ) k := by
  rw [lk_updH, lk_runS, lk_runS]
  by_cases hd : k ∈ keys x.2.δ
  · rw [if_pos hd]
    refine wG_last hx (by unfold wrH; rw [if_pos hd]) (by simp [addS]) fun i y hi hy hs => ?_
    have := order_of hcf hc hj hx hb hy (fun h => by omega) (fun _ => by
      simp only [confB, fpE, hit_of hd (wrH_key hs), Bool.true_or, Bool.or_true])
    rw [Nat.zero_add]
    unfold addS
    rw [this]
    simp [upto]; omega
  · rw [if_neg hd]
    refine wG_agree fun i y hy hs => ?_
    rw [Nat.zero_add]
    unfold addS
    by_cases e : i = j
    · subst e
      rw [hx] at hy; cases hy
      unfold wrH at hs; rw [if_neg hd] at hs; cases hs
    · simp [e]
end
theorem keys_mem {H : Hp} {k : Nat} {b : Blk} (h : (k, b) ∈ H) : k ∈ keys H := List.mem_map_of_mem h
theorem count_set : ∀ {l : List Bool} {j : Nat}, l[j]? = some false → (l.set j true).count false < l.count false
  | b :: l, 0, h => by simp only [List.getElem?_cons_zero, Option.some.injEq] at h; subst h; simp
  | b :: l, j + 1, h => by
    have := count_set (l := l) (j := j) (by simpa using h)
    simp only [List.set_cons_succ, List.count_cons]
    omega
theorem count_pos : ∀ {l : List Bool} {j : Nat}, l[j]? = some false → 0 < l.count false
  | l, j, h => List.count_pos_iff.2 (List.mem_of_getElem? h)
section
variable {P : Program} {w0 : World} {n : Nat} {l : List Oper} {es : List Ent} {t : Tm} {H : Hp} {Q : Exit → Act → World → Prop}
theorem op_ok (hl : es.length = l.length) (hT : Tra P n l (l.zip es) t H) (hcf : CF l (l.zip es)) {S : Nat → Bool} (hc : Clo l S) {j : Nat} {x : Oper × Ent} (hj : S j = false) (hx : (l.zip es)[j]? = some x) (hb : ∀ e ∈ bnd x.1, S e = true) (hnd : (H.map (·.1)).Nodup)
    {w : World} {ρ : Nat → Value} {a : Act} (hr : Rel w0 w ρ n (runS S 0 (l.zip es) (t, H)).1 (runS S 0 (l.zip es) (t, H)).2 a) {K : Act → World → Prop}
    (hK : ∀ a' w' ρ', Rel w0 w' ρ' n (runS (addS S j) 0 (l.zip es) (t, H)).1 (runS (addS S j) 0 (l.zip es) (t, H)).2 a' → K a' w') :
    if Region.wanted x.1 (yielded l.toArray a.tmps) then x.1.wp P a w K Q else K (a.put x.1.dst undef) w := by
  obtain ⟨hn, hg, h1, h2⟩ := tra_at _ _ _ 0 j hT hx
  rw [Nat.zero_add] at hg h1
  have hlook := looks_same (s := (t, H)) hcf hc hj hx hb
  have hblk := blocks_same (s := (t, H)) hcf hc hj hx hb
  have hg' := gOk_w hr (gOk_of hg hlook)
  have hnd' : ((runS (addS S j) 0 (l.zip es) (t, H)).2.map (·.1)).Nodup := nd_runS _ _ _ hnd
  have fin : ∀ a' w' ρ', Rel w0 w' ρ' n (putT (runS S 0 (l.zip es) (t, H)).1 x.1.dst x.2.v) (updH (runS S 0 (l.zip es) (t, H)).2 x.2.δ) a' → K a' w' := fun a' w' ρ' h =>
    hK a' w' ρ' (h.same (putS_same hcf hc hj hx hb) (updS_same hcf hc hj hx hb) hnd')
  rw [hg']
  cases ho : x.2.on with
  | true =>
    simp only [if_true]
    obtain ⟨g1, g2, g3⟩ := h1 ho
    have := g1 w0 w ρ n _ _ a Q hr (fun k hk => hlook k (by unfold Oper.looksAt; exact List.mem_append_left _ hk)) (fun k b hk => by rw [hblk k (.inl (keys_mem hk))]; exact g2 k b hk) (fun k b hk => by rw [hblk k (.inr (keys_mem hk))]; exact g3 k b hk) hn
    exact Oper.wp_mono (fun a' w' ⟨ρ', h⟩ => fin a' w' ρ' h) this
  | false =>
    simp only [Bool.false_eq_true, if_false]
    obtain ⟨e1, e2, e3⟩ := h2 ho
    refine fin _ w ρ ?_
    rw [e1, e2]
    exact hr.put (v := .tup []) (u := undef) ⟨[], rfl, .nil⟩ hn
theorem any_ok (hl : es.length = l.length) (hT : Tra P n l (l.zip es) t H) (hcf : CF l (l.zip es)) (hlow : ∀ k o, l[k]? = some o → ∀ e ∈ bnd o, e < k) (hnd : (H.map (·.1)).Nodup)
    (hQ : ∀ a w ρ, Rel w0 w ρ n (runS allS 0 (l.zip es) (t, H)).1 (runS allS 0 (l.zip es) (t, H)).2 a → Q .normal a w) :
    ∀ (fuel : Nat) (listed : Array Bool) (a : Act) (w : World) (ρ : Nat → Value), listed.size = l.length → Clo l (fun i => listed.getD i false) → listed.toList.count false ≤ fuel →
      Rel w0 w ρ n (runS (fun i => listed.getD i false) 0 (l.zip es) (t, H)).1 (runS (fun i => listed.getD i false) 0 (l.zip es) (t, H)).2 a → wpAny P .any l.toArray Q fuel listed a w := by
  have least : ∀ (listed : Array Bool), listed.size = l.length → Region.ready .any l.toArray listed = [] → ∀ i, i < l.length → listed.getD i false = true := by
    intro listed hs hr i
    induction i using Nat.strongRecOn with
    | ind i ih =>
      intro hi
      have ho : l[i]? = some l[i] := List.getElem?_eq_getElem hi
      rw [Region.ready, List.filter_eq_nil_iff] at hr
      have := hr i (by simpa using hi)
      simp only [Bool.and_eq_true, Bool.not_eq_true', not_and] at this
      cases hb : listed.getD i true with
      | true =>
        rw [Array.getD_eq_getD_getElem?, Array.getElem?_eq_getElem (by omega)] at hb ⊢
        exact hb
      | false =>
        exfalso
        refine this hb ?_
        have e : l.toArray[i]? = some l[i] := by simpa using ho
        rw [e]
        simp only [Option.map_some, Option.getD_some]
        rw [Array.all_eq_true_iff_forall_mem]
        intro ed hed
        cases hbn : Region.binds .any ed with
        | false => rfl
        | true =>
          have hm : ed.on ∈ bnd l[i] := by
            unfold bnd
            refine List.mem_filterMap.2 ⟨ed, by simpa using hed, ?_⟩
            rw [hbn]; rfl
          have hlt := hlow i _ ho _ hm
          simp only [Bool.not_true, Bool.false_or]
          exact ih _ hlt (by omega)
  have done : ∀ (listed : Array Bool) (a : Act) (w : World) (ρ : Nat → Value), listed.size = l.length → Rel w0 w ρ n (runS (fun i => listed.getD i false) 0 (l.zip es) (t, H)).1 (runS (fun i => listed.getD i false) 0 (l.zip es) (t, H)).2 a → Region.ready .any l.toArray listed = [] → Q .normal a w := by
    intro listed a w ρ hs hr hy
    refine hQ a w ρ ?_
    rw [runS_congr (S := allS) (S' := fun i => listed.getD i false) fun i hi => ?_]
    · exact hr
    · rw [Nat.zero_add]
      have : i < l.length := by rw [List.length_zip] at hi; omega
      exact (least listed hs hy i this).symm
  intro fuel
  induction fuel with
  | zero =>
    intro listed a w ρ hs hc hn hr
    have hall : Region.ready .any l.toArray listed = [] := by
      rw [Region.ready, List.filter_eq_nil_iff]
      intro i hi
      have hi' : i < listed.size := by rw [hs]; simpa using hi
      cases hb : listed.getD i true with
      | true => simp
      | false =>
        have := count_pos (l := listed.toList) (j := i) (by
          rw [Array.getD_eq_getD_getElem?, Array.getElem?_eq_getElem hi'] at hb
          rw [Array.getElem?_toList, Array.getElem?_eq_getElem hi']
          simpa using hb)
        omega
    exact ⟨hall, done listed a w ρ hs hr hall⟩
  | succ fuel ih =>
    intro listed a w ρ hs hc hn hr
    refine ⟨done listed a w ρ hs hr, fun j hj => ?_⟩
    rw [Region.ready, List.mem_filter] at hj
    obtain ⟨hj1, hj2⟩ := hj
    have hjl : j < l.length := by simpa using hj1
    simp only [Bool.and_eq_true, Bool.not_eq_true'] at hj2
    obtain ⟨hj2, hj3⟩ := hj2
    have hjs : j < listed.size := by omega
    have hjf : listed[j]? = some false := by
      rw [Array.getD_eq_getD_getElem?, Array.getElem?_eq_getElem hjs] at hj2
      rw [Array.getElem?_eq_getElem hjs]
      simpa using hj2
    have ho : l[j]? = some l[j] := List.getElem?_eq_getElem hjl
    have he : es[j]? = some es[j] := List.getElem?_eq_getElem (by omega)
    have hx : (l.zip es)[j]? = some (l[j], es[j]) := zip_get.2 ⟨ho, he⟩
    have hb : ∀ e ∈ bnd l[j], listed.getD e false = true := by
      intro e hm
      unfold bnd at hm
      obtain ⟨ed, hed, hq⟩ := List.mem_filterMap.1 hm
      split at hq
      · rename_i hbn
        simp only [Option.some.injEq] at hq
        subst hq
        have e1 : l.toArray[j]? = some l[j] := by simpa using ho
        rw [e1] at hj3
        simp only [Option.map_some, Option.getD_some] at hj3
        rw [Array.all_eq_true_iff_forall_mem] at hj3
        have := hj3 ed (by simpa using hed)
        rw [hbn] at this
        simpa using this
      · cases hq
    have hS : (fun i => (listed.setIfInBounds j true).getD i false) = addS (fun i => listed.getD i false) j := by
      funext i
      simp only [addS, Array.getD_eq_getD_getElem?, Array.getElem?_setIfInBounds]
      by_cases e : j = i
      · subst e; simp [hjs]
      · have e' : ¬ i = j := fun h => e h.symm
        simp [e, e']
    unfold wpOp
    have e1 : l.toArray[j]? = some l[j] := by simpa using ho
    simp only [e1]
    have := op_ok (Q := Q) (K := wpAny P .any l.toArray Q fuel (listed.setIfInBounds j true)) hl hT hcf hc (j := j) (x := (l[j], es[j])) (by
      simp only [Array.getD_eq_getD_getElem?, hjf, Option.getD_some]) hx hb hnd hr (fun a' w' ρ' h => by
        refine ih _ a' w' ρ' (by simpa using hs) ?_ ?_ ?_
        · rw [hS]
          intro i o hi hsi e hm
          simp only [addS, Bool.or_eq_true] at hsi ⊢
          rcases hsi with hsi | hsi
          · exact .inl (hc i o hi hsi e hm)
          · have : i = j := by simpa using hsi
            subst this
            rw [ho] at hi; cases hi
            exact .inl (hb e hm)
        · have := count_set (l := listed.toList) (j := j) (by simpa using hjf)
          rw [Array.toList_setIfInBounds]
          omega
        · rw [hS]; exact h)
    split
    · rename_i hw; simp only [hw, if_true] at this; exact .inl this
    · rename_i hw; simp only [hw] at this; exact this
theorem list_ok {ops : List Oper} : ∀ {X : List (Oper × Ent)} {t : Tm} {H : Hp} {a : Act} {w : World} {ρ : Nat → Value}, Tra P n ops X t H → Rel w0 w ρ n t H a →
    (∀ a w ρ, Rel w0 w ρ n (runS allS 0 X (t, H)).1 (runS allS 0 X (t, H)).2 a → Q .normal a w) → wpList P ops.toArray Q (X.map (·.1)) a w
  | [], t, H, a, w, ρ, _, hr, hQ => hQ a w ρ hr
  | x :: X, t, H, a, w, ρ, hT, hr, hQ => by
    obtain ⟨⟨hn, hg, h1, h2⟩, hT⟩ := hT
    have hg' := gOk_w hr hg
    have hQ' : ∀ a w ρ, Rel w0 w ρ n (runS allS 0 X (putT t x.1.dst x.2.v, updH H x.2.δ)).1 (runS allS 0 X (putT t x.1.dst x.2.v, updH H x.2.δ)).2 a → Q .normal a w := by
      intro a w ρ h
      refine hQ a w ρ ?_
      simp only [runS]
      rw [show allS 0 = true from rfl]
      simp only [if_true]
      rw [runS_all X (0 + 1) 0]
      exact h
    simp only [List.map_cons, wpList]
    rw [hg']
    cases ho : x.2.on with
    | true =>
      simp only [if_true]
      obtain ⟨g1, g2, g3⟩ := h1 ho
      exact .inl (Oper.wp_mono (fun a' w' ⟨ρ', h⟩ => list_ok hT h hQ') (g1 w0 w ρ n _ _ a Q hr (fun k hk => rfl) g2 g3 hn))
    | false =>
      simp only [Bool.false_eq_true, if_false]
      obtain ⟨e1, e2, e3⟩ := h2 ho
      refine list_ok (ρ := ρ) hT ?_ hQ'
      rw [e1, e2]
      exact hr.put (v := .tup []) (u := undef) ⟨[], rfl, .nil⟩ hn
end
theorem Rel.drew {w0 w : World} {ρ : Nat → Value} {n : Nat} {t : Tm} {H : Hp} {a : Act} (h : Rel w0 w ρ n t H a) : Rel w0 { w with drawn := w.drawn + 1 } ρ n t H a := h.world (Ex.drew (Ex.refl w))
theorem region_ok {P : Program} [TyEnv P] {n : Nat} {l : List Oper} {dr : Bool} {K : Tm → Hp → Prop} {t : Tm} {H : Hp} (h : Vd P n l dr K l t H []) {w0 w : World} {ρ : Nat → Value} {a : Act} (hr : Rel w0 w ρ n t H a) {Q : Exit → Act → World → Prop}
    (hQ : ∀ a w ρ t' H', Rel w0 w ρ n t' H' a → K t' H' → Q .normal a w) (id : Nat) : (Code.region id l.toArray dr).wp P Q a w := by
  obtain ⟨es, h1, h2, h3, h4⟩ := vd_tra h
  cases dr with
  | false =>
    refine wp_region_lit ?_
    have := list_ok (Q := Q) h2 hr fun a w ρ h => hQ a w ρ _ _ h h3
    rwa [List.map_fst_zip (by omega)] at this
  | true =>
    have h4 := h4 rfl
    simp only [List.reverse_nil, List.nil_append] at h4
    obtain ⟨hcf, hlow⟩ := cf_of h1 h4
    refine wp_region_any TyEnv.mix ?_
    have e0 : (fun i => (Array.replicate l.toArray.size false).getD i false) = fun _ => false := by
      funext i
      rw [Array.getD_eq_getD_getElem?, Array.getElem?_replicate]
      split <;> rfl
    refine any_ok h1 h2 hcf hlow hr.nd (fun a w ρ h => hQ a w ρ _ _ h h3) _ _ _ _ ρ (by simp) ?_ (by simp) ?_
    · rw [e0]; intro i o hi hs; cases hs
    · rw [e0, runS_none _ _ _ fun i _ => rfl]
      exact hr.drew
end Go.Vc
end
section
namespace Go.Vc
open Go Go.RowKit
set_option linter.unusedVariables false
set_option linter.unusedSimpArgs false
set_option linter.unnecessarySimpa false
set_option linter.unusedSectionVars false
abbrev Ren := List (Nat × Option Nat)
def rk : Ren → Nat → Option Nat
  | [], k => some k
  | (j, x) :: l, k => if j = k then x else rk l k
def hasK : Hp → Nat → Bool
  | [], _ => false
  | (j, _) :: l, k => if j = k then true else hasK l k
def mapr (r : Ren) (ρ : Nat → Value) : Nat → Value := fun k => match rk r k with
  | some j => ρ j
  | none => .slice none 0 0
def PW (r : Ren) (G : Hp) : PV → PV → Prop
  | .junk, _ => True
  | .v x, .v y => x = y
  | .nil, .nil => True
  | .sl sz es, .sl sz' es' => sz = sz' ∧ es = es'
  | .sl sz es, .nil => es = []
  | .hs k, .hs j => rk r k = some j ∧ hasK G k = true
  | .hs k, .nil => rk r k = none ∧ hasK G k = true
  | .rp k o, .rp j o' => rk r k = some j ∧ hasK G k = true ∧ o = o'
  | .ptr k i sz o, .ptr j i' sz' o' => rk r k = some j ∧ hasK G k = true ∧ i = i' ∧ sz = sz' ∧ o = o'
  | .ep sz es i o, .ep sz' es' i' o' => sz = sz' ∧ es = es' ∧ i = i' ∧ o = o'
  | .hv k i, .hv j i' => rk r k = some j ∧ hasK G k = true ∧ i = i'
  | .hc k l z, .hc j l' z' => rk r k = some j ∧ hasK G k = true ∧ l = l' ∧ z = z'
  | .rd Q, .rd Q' => Q = Q'
  | _, _ => False
def PWL (r : Ren) (G : Hp) : List PV → List PV → Prop
  | [], [] => True
  | p :: ps, q :: qs => PW r G p q ∧ PWL r G ps qs
  | _, _ => False
def AW1 (r : Ren) (G : Hp) : AV → AV → Prop
  | .junk, _ => True
  | .one p, .one q => PW r G p q
  | .agg ps, .agg qs => PWL r G ps qs
  | _, _ => False
def AWL (r : Ren) (G : Hp) : List AV → List AV → Prop
  | [], [] => True
  | p :: ps, q :: qs => AW1 r G p q ∧ AWL r G ps qs
  | _, _ => False
def AW (r : Ren) (G : Hp) : AV → AV → Prop
  | .tup ps, .tup qs => AWL r G ps qs
  | .tup _, _ => False
  | p, q => AW1 r G p q
def TW (r : Ren) (G : Hp) (t : Tm) : Tm → Prop
  | [] => True
  | (k, v) :: l => AW r G v (gt t k) ∧ TW r G t l
def BW (r : Ren) (G : Hp) (H : Hp) (k : Nat) : Blk → Prop
  | .row T cs => match rk r k with
    | some j => match lk H j with
      | some (.row T' cs') => T = T' ∧ PWL r G cs cs'
      | _ => False
    | none => False
  | .arr E sz es => match rk r k with
    | some j => match lk H j with
      | some (.arr E' sz' es') => E = E' ∧ sz = sz' ∧ es = es'
      | _ => False
    | none => es = []
  | .byt s => match rk r k with
    | some j => match lk H j with
      | some (.byt s') => s = s'
      | _ => False
    | none => False
  | .own X => match rk r k with
    | some j => match lk H j with
      | some (.own X') => X = X'
      | some (.arr E sz es) => ∀ (v : Value) (w : World) (F : Nat → Prop), (slotA E sz v es.length es.flatten).P w F → (X.A v).P w F
      | _ => False
    | none => ∀ w : World, (X.A (.slice none 0 0)).P w (fun _ => False)
  | .dead => False
def HW (r : Ren) (G : Hp) (H : Hp) : Hp → Prop
  | [] => True
  | (k, b) :: l => BW r G H k b ∧ HW r G H l
def Sub (t : Tm) (H : Hp) (t' : Tm) (H' : Hp) : Prop := ∃ r : Ren, TW r H' t t' ∧ HW r H' H H' ∧ ((keys H').filterMap (rk r)).Nodup ∧ (keys H').Nodup
theorem hasK_dom : ∀ {H : Hp} {k : Nat}, hasK H k = true → dom H k
  | (j, b) :: l, k, h => by
    unfold dom
    simp only [hasK] at h
    simp only [lk]
    split at h
    · rename_i e; rw [if_pos e]; rfl
    · rename_i e; rw [if_neg e]; exact hasK_dom h
section
variable {P : Program} {w0 w : World} {ρ : Nat → Value} {n : Nat} {t t' : Tm} {H H' : Hp} {a : Act} {r : Ren} {D : Nat → Prop}
theorem PW.ok {p q : PV} {u : Value} (h : PW r H' p q) (hu : R w0 D ρ q u) : R w0 (dom H') (mapr r ρ) p u := by
  cases p with
  | junk => exact hu.one
  | v x => cases q <;> simp only [PW] at h; subst h; exact hu
  | nil => cases q <;> simp only [PW] at h; exact hu
  | sl sz es =>
    cases q <;> simp only [PW] at h
    · subst h
      have hu : u = .slice none 0 0 := hu
      subst hu
      exact ⟨none, 0, rfl, Nat.le_refl _, Nat.zero_le _, fun e he => (by cases he), fun hne => (hne rfl).elim⟩
    · obtain ⟨rfl, rfl⟩ := h; exact hu
  | hs k =>
    cases q <;> simp only [PW] at h
    · obtain ⟨h1, h2⟩ := h
      have hu : u = .slice none 0 0 := hu
      subst hu
      exact ⟨hasK_dom h2, by unfold mapr; rw [h1], rfl⟩
    · obtain ⟨h1, h2⟩ := h
      obtain ⟨_, hu, ho⟩ := hu
      exact ⟨hasK_dom h2, by unfold mapr; rw [h1]; exact hu, ho⟩
  | rp k o =>
    cases q <;> simp only [PW] at h
    obtain ⟨h1, h2, rfl⟩ := h
    obtain ⟨_, b, g1, g2⟩ := hu
    exact ⟨hasK_dom h2, b, by unfold mapr; rw [h1]; exact g1, g2⟩
  | ptr k i sz o =>
    cases q <;> simp only [PW] at h
    obtain ⟨h1, h2, rfl, rfl, rfl⟩ := h
    obtain ⟨_, b, off, g1, g2⟩ := hu
    exact ⟨hasK_dom h2, b, off, by unfold mapr; rw [h1]; exact g1, g2⟩
  | ep sz es i o =>
    cases q <;> simp only [PW] at h
    obtain ⟨rfl, rfl, rfl, rfl⟩ := h
    exact hu
  | hv k i =>
    cases q <;> simp only [PW] at h
    obtain ⟨h1, h2, rfl⟩ := h
    obtain ⟨_, b, n, C, g1, g2⟩ := hu
    exact ⟨hasK_dom h2, b, n, C, by unfold mapr; rw [h1]; exact g1, g2⟩
  | hc k l z =>
    cases q <;> simp only [PW] at h
    obtain ⟨h1, h2, rfl, rfl⟩ := h
    obtain ⟨_, a, n, C, g1, g2⟩ := hu
    exact ⟨hasK_dom h2, a, n, C, by unfold mapr; rw [h1]; exact g1, g2⟩
  | rd Q =>
    cases q <;> simp only [PW] at h
    subst h
    exact hu
theorem PWL.ok : ∀ {ps qs : List PV} {us : List Value}, PWL r H' ps qs → F2 (R w0 D ρ) qs us → F2 (R w0 (dom H') (mapr r ρ)) ps us
  | [], [], _, _, .nil => .nil
  | p :: ps, q :: qs, _, h, .cons hu hr => .cons (PW.ok h.1 hu) (PWL.ok h.2 hr)
theorem AW1.ok {p q : AV} {u : Value} (h : AW1 r H' p q) (hu : AR1 w0 D ρ q u) : AR1 w0 (dom H') (mapr r ρ) p u := by
  cases p with
  | junk => trivial
  | one p => cases q <;> simp only [AW1] at h; exact PW.ok h hu
  | agg ps =>
    cases q <;> simp only [AW1] at h
    obtain ⟨us, h1, h2⟩ := hu
    exact ⟨us, h1, PWL.ok h h2⟩
  | tup vs => cases q <;> simp only [AW1] at h
theorem AWL.ok : ∀ {ps qs : List AV} {us : List Value}, AWL r H' ps qs → F2 (AR1 w0 D ρ) qs us → F2 (AR1 w0 (dom H') (mapr r ρ)) ps us
  | [], [], _, _, .nil => .nil
  | p :: ps, q :: qs, _, h, .cons hu hr => .cons (AW1.ok h.1 hu) (AWL.ok h.2 hr)
theorem AW.ok {p q : AV} {u : Value} (h : AW r H' p q) (hu : AR w0 D ρ q u) : AR w0 (dom H') (mapr r ρ) p u := by
  cases p with
  | tup ps =>
    cases q <;> simp only [AW] at h
    obtain ⟨us, h1, h2⟩ := hu
    exact ⟨us, h1, AWL.ok h h2⟩
  | junk => trivial
  | one p =>
    cases q <;> simp only [AW, AW1] at h
    exact PW.ok h hu
  | agg ps =>
    cases q <;> simp only [AW, AW1] at h
    obtain ⟨us, h1, h2⟩ := hu
    exact ⟨us, h1, PWL.ok h h2⟩
theorem TW.ok {t t' : Tm} (h : TW r H' t t') (k : Nat) : gt t' k = .junk ∨ AW r H' (gt t' k) (gt t k) := by
  induction t' with
  | nil => exact .inl rfl
  | cons x l ih =>
    obtain ⟨d, v⟩ := x
    obtain ⟨h1, h2⟩ := h
    simp only [gt]
    split
    · rename_i e; subst e; exact .inr h1
    · exact ih h2
def nilS (E : TypeId) (sz : Nat) : Asn := slotA E sz (.slice none 0 0) 0 []
theorem St.nilA {Js : List Asn} {E : TypeId} {sz : Nat} (h : St w0 w Js) : St w0 w (nilS E sz :: Js) :=
  h.add (Ex.refl w) (A := nilS E sz) (F := fun _ => False) ⟨⟨by simp, .inl ⟨rfl, rfl⟩⟩, fun b => by simp [Value.blk]⟩ fun _ h => h.elim
theorem HW.pick {D : Nat → Prop} (K : Hp) : ∀ (G Hc : Hp) (As : List Asn), F2 (BR w0 D ρ) Hc As → (Hc.map (·.1)).Nodup → ((keys G).filterMap (rk r)).Nodup → (∀ k b, (k, b) ∈ G → ∀ j, rk r k = some j → lk Hc j = lk H j) → HW r K H G → (∀ k b, (k, b) ∈ G → dom K k) → H' = K →
    ∃ Bs, F2 (BR w0 (dom K) (mapr r ρ)) G Bs ∧ ∀ Z, St w0 w (As ++ Z) → St w0 w (Bs ++ Z)
  | [], Hc, As, hF, _, _, _, _, _, _ => ⟨[], .nil, fun Z h => h.arr (by
      have := arr_perm (m := As ++ Z) (.refl _)
      have key : ∀ (l m : List Asn), Arr (l ++ m) m := by
        intro l m
        have hp := arr_perm (l := l ++ m) (m := m ++ l) List.perm_append_comm
        have : ∀ (m l' l : List Asn), Arr l (m ++ l') → Arr l m := by
          intro m
          induction m with
          | nil => intro l' l _; exact .nil
          | cons x m ih =>
            intro l' l h
            cases h with
            | cons t h => exact .cons t (ih l' _ h)
        exact this m l _ hp
      exact key As Z)⟩
  | (k, b) :: G, Hc, As, hF, hn, hi, hl, hw, hd, hK => by
    obtain ⟨hb, hw⟩ := hw
    have hd' : ∀ k b, (k, b) ∈ G → dom K k := fun k b h => hd k b (List.mem_cons_of_mem _ h)
    cases hr : rk r k with
    | none =>
      have hi' : ((keys G).filterMap (rk r)).Nodup := by
        simpa only [keys, List.map_cons, List.filterMap_cons, hr] using hi
      obtain ⟨Bs, g1, g2⟩ := HW.pick K G Hc As hF hn hi' (fun k b h => hl k b (List.mem_cons_of_mem _ h)) hw hd' hK
      cases b with
      | row T cs => simp only [BW, hr] at hb
      | byt s => simp only [BW, hr] at hb
      | dead => simp only [BW] at hb
      | own X =>
        simp only [BW, hr] at hb
        refine ⟨X.A (.slice none 0 0) :: Bs, .cons (by show _ = _; unfold mapr; rw [hr]) g1, fun Z h => ?_⟩
        have h9 := g2 Z h
        exact h9.add (Ex.refl w) (A := X.A (.slice none 0 0)) (F := fun _ => False) (hb w) fun _ h => h.elim
      | arr E sz es =>
        simp only [BW, hr] at hb
        subst hb
        refine ⟨nilS E sz :: Bs, .cons ⟨fun e he => (by cases he), ?_⟩ g1, fun Z h => St.nilA (g2 Z h)⟩
        unfold mapr
        rw [hr]; rfl
    | some j =>
      have hi' : j ∉ (keys G).filterMap (rk r) ∧ ((keys G).filterMap (rk r)).Nodup := by
        simpa only [keys, List.map_cons, List.filterMap_cons, hr, List.nodup_cons] using hi
      have hlj := hl k b (List.mem_cons_self ..) j hr
      have hex : ∃ b0, lk H j = some b0 := by
        cases b with
        | dead => simp only [BW] at hb
        | own X =>
          simp only [BW, hr] at hb
          split at hb
          · exact ⟨_, by assumption⟩
          · exact ⟨_, by assumption⟩
          · exact hb.elim
        | row T cs =>
          simp only [BW, hr] at hb
          split at hb
          · exact ⟨_, by assumption⟩
          · exact hb.elim
        | arr E sz es =>
          simp only [BW, hr] at hb
          split at hb
          · exact ⟨_, by assumption⟩
          · exact hb.elim
        | byt s =>
          simp only [BW, hr] at hb
          split at hb
          · exact ⟨_, by assumption⟩
          · exact hb.elim
      obtain ⟨b0, hb0⟩ := hex
      rw [hb0] at hlj
      obtain ⟨l, m, e, _⟩ := upd1_split b0 hlj
      rw [e] at hF
      obtain ⟨m1, A, m2, rfl, f1, f2, f3⟩ := hF.split
      have hn' : ((l ++ m).map (·.1)).Nodup ∧ j ∉ (l ++ m).map (·.1) := by
        rw [e] at hn
        simp only [List.map_append, List.map_cons, List.nodup_append, List.nodup_cons, List.mem_cons, List.mem_append] at hn ⊢
        obtain ⟨n1, ⟨n2, n3⟩, n4⟩ := hn
        refine ⟨⟨n1, n3, fun a ha b hb => n4 a ha b (.inr hb)⟩, fun h => h.elim (fun h => n4 j h j (.inl rfl) rfl) n2⟩
      obtain ⟨Bs, g1, g2⟩ := HW.pick K G (l ++ m) (m1 ++ m2) (f1.app f3) hn'.1 hi'.2 (fun k' b' hm j' hj' => by
        have hne : j' ≠ j := fun e => hi'.1 (e ▸ List.mem_filterMap.2 ⟨k', List.mem_map_of_mem (f := (·.1)) hm, hj'⟩)
        have h0 := hl k' b' (List.mem_cons_of_mem _ hm) j' hj'
        rw [← h0, e]
        have : ∀ (l m : Hp), lk (l ++ (j, b0) :: m) j' = lk (l ++ m) j' := by
          intro l m
          induction l with
          | nil => simp only [List.nil_append, lk]; rw [if_neg (fun e => hne e.symm)]
          | cons x l ih => obtain ⟨d, v⟩ := x; simp only [List.cons_append, lk]; split <;> first | rfl | exact ih
        exact (this l m).symm) hw hd' hK
      have hA' : ∃ A', BR w0 (dom K) (mapr r ρ) (k, b) A' ∧ ∀ Z, St w0 w (A :: Z) → St w0 w (A' :: Z) := by
        cases b with
        | dead => simp only [BW] at hb
        | own X =>
          simp only [BW, hr, hb0] at hb
          cases b0 with
          | own X' =>
            have hb' : X = X' := hb
            subst hb'
            have f2' : A = X.A (ρ j) := f2
            exact ⟨A, by show A = X.A (mapr r ρ k); unfold mapr; rw [hr]; exact f2', fun _ h => h⟩
          | arr E sz es =>
            obtain ⟨h1, rfl⟩ := f2
            refine ⟨X.A (ρ j), by show _ = X.A (mapr r ρ k); unfold mapr; rw [hr], fun Z h => h.same fun F hF => ⟨F, hb _ _ _ hF, fun _ h => h⟩⟩
          | row _ _ => exact hb.elim
          | byt _ => exact hb.elim
          | dead => exact hb.elim
        | row T cs =>
          simp only [BW, hr, hb0] at hb
          cases b0 with
          | row T' cs' =>
            obtain ⟨rfl, hc⟩ := hb
            obtain ⟨bb, us, h1, h2, h3⟩ := f2
            subst hK
            exact ⟨A, ⟨bb, us, by unfold mapr; rw [hr]; exact h1, PWL.ok hc h2, h3⟩, fun _ h => h⟩
          | arr _ _ _ => exact hb.elim
          | byt _ => exact hb.elim
          | own _ => exact hb.elim
          | dead => exact hb.elim
        | byt s =>
          simp only [BW, hr, hb0] at hb
          cases b0 with
          | byt s' =>
            subst hb
            obtain ⟨b, C, h1, h2, h3⟩ := f2
            exact ⟨A, ⟨b, C, by unfold mapr; rw [hr]; exact h1, h2, h3⟩, fun _ h => h⟩
          | row _ _ => exact hb.elim
          | arr _ _ _ => exact hb.elim
          | own _ => exact hb.elim
          | dead => exact hb.elim
        | arr E sz es =>
          simp only [BW, hr, hb0] at hb
          cases b0 with
          | arr E' sz' es' =>
            obtain ⟨rfl, rfl, rfl⟩ := hb
            obtain ⟨h1, h2⟩ := f2
            exact ⟨A, ⟨h1, by unfold mapr; rw [hr]; exact h2⟩, fun _ h => h⟩
          | row _ _ => exact hb.elim
          | byt _ => exact hb.elim
          | own _ => exact hb.elim
          | dead => exact hb.elim
      obtain ⟨A', q1, q2⟩ := hA'
      refine ⟨A' :: Bs, .cons q1 g1, fun Z h => ?_⟩
      · have h1 : St w0 w ((m1 ++ m2) ++ (A :: Z)) := by
          refine St.perm h ?_
          simp only [List.append_assoc, List.cons_append]
          refine List.Perm.append_left m1 ?_
          exact (List.perm_middle (l₁ := m2) (a := A) (l₂ := Z)).symm
        exact q2 _ (St.perm (g2 _ h1) List.perm_middle)
theorem mem_dom {H : Hp} {k : Nat} {b : Blk} (h : (k, b) ∈ H) : dom H k := dom_mem.2 (List.mem_map_of_mem h)
theorem Rel.ren (h : Rel w0 w ρ n t H a) (r : Ren) (h1 : TW r H' t t') (h2 : HW r H' H H') (h3 : ((keys H').filterMap (rk r)).Nodup) (h4 : (keys H').Nodup) : Rel w0 w (mapr r ρ) n t' H' a := by
  refine ⟨h.sz, h.df, fun k => ?_, ?_, h4⟩
  · rcases h1.ok k with e | e
    · rw [e]; trivial
    · exact AW.ok e (h.tm k)
  · obtain ⟨As, g1, g2⟩ := h.hp
    obtain ⟨Bs, b1, b2⟩ := HW.pick (w := w) (H' := H') H' H' H As g1 h.nd h3 (fun _ _ _ _ _ => rfl) h2 (fun k b hm => mem_dom hm) rfl
    refine ⟨Bs, b1, ?_⟩
    have := b2 [] (by simpa using g2)
    simpa using this
theorem Rel.sub (h : Rel w0 w ρ n t H a) (hs : Sub t H t' H') : ∃ ρ', Rel w0 w ρ' n t' H' a := by
  obtain ⟨r, h1, h2, h3, h4⟩ := hs
  exact ⟨_, h.ren r h1 h2 h3 h4⟩
end
abbrev Post := Exit → Tm → Hp → Prop
def CQ (w0 : World) (n : Nat) (K : Post) : Exit → Act → World → Prop := fun e a w => ∃ ρ t H, Rel w0 w ρ n t H a ∧ K e t H
def VC (P : Program) (n : Nat) (c : Code) (K : Post) (t : Tm) (H : Hp) : Prop := ∀ w0 w ρ a, Rel w0 w ρ n t H a → c.wp P (CQ w0 n K) a w
def thenP (K1 : Tm → Hp → Prop) (K : Post) : Post
  | .normal, t, H => K1 t H
  | e, t, H => K e t H
def inB (id : Nat) (K : Post) : Post
  | .exit i, t, H => if i = id then K .normal t H else K (.exit i) t H
  | e, t, H => K e t H
section
variable {P : Program} [TyEnv P] {n : Nat} {K : Post} {t t' : Tm} {H H' : Hp}
theorem vc_mono {c : Code} {K' : Post} (h : VC P n c K t H) (hk : ∀ e t H, K e t H → K' e t H) : VC P n c K' t H := fun w0 w ρ a hr =>
  Code.wp_mono (fun e a w ⟨ρ, t, H, h1, h2⟩ => ⟨ρ, t, H, h1, hk e t H h2⟩) (h w0 w ρ a hr)
theorem vc_skip (h : K .normal t H) : VC P n .skip K t H := fun w0 w ρ a hr => wp_skip ⟨ρ, t, H, hr, h⟩
theorem vc_exit {i : Nat} (h : K (.exit i) t H) : VC P n (.exit i) K t H := fun w0 w ρ a hr => wp_exit ⟨ρ, t, H, hr, h⟩
theorem vc_ret (h : K .ret t H) : VC P n .ret K t H := fun w0 w ρ a hr => wp_ret ⟨ρ, t, H, hr, h⟩
theorem vc_region {id : Nat} {l : List Oper} {dr : Bool} (h : Vd P n l dr (K .normal) l t H []) : VC P n (.region id l.toArray dr) K t H := fun w0 w ρ a hr =>
  region_ok h hr (fun a w ρ t' H' h1 h2 => ⟨ρ, t', H', h1, h2⟩) id
theorem vc_seq {x y : Code} (h : ∀ K1 : Tm → Hp → Prop, (∀ t H, VC P n y K t H → K1 t H) → VC P n x (thenP K1 K) t H) : VC P n (.seq x y) K t H := fun w0 w ρ a hr => by
  refine wp_seq (Code.wp_mono (fun e a w hq => ?_) (h (fun t H => VC P n y K t H) (fun _ _ h => h) w0 w ρ a hr))
  obtain ⟨ρ, t, H, h1, h2⟩ := hq
  cases e <;> first | exact ⟨ρ, t, H, h1, h2⟩ | exact h2 w0 w ρ a h1
theorem vc_cond {c : Operand} {x y : Code} (h : onO (asB (evo (gt t) c)) fun b => (b = true → VC P n x K t H) ∧ (b = false → VC P n y K t H)) : VC P n (.cond c x y) K t H := fun w0 w ρ a hr => by
  obtain ⟨b, hb, h1, h2⟩ := h
  have hc := hr.ev c
  rw [asB_some hb] at hc
  have hc : a.eval c = .bool b := hc.1
  exact wp_cond_split hc (fun e => h1 e w0 w ρ a hr) (fun e => h2 e w0 w ρ a hr)
theorem vc_block {id : Nat} {c : Code} (h : VC P n c (inB id K) t H) : VC P n (.block id c) K t H := fun w0 w ρ a hr => by
  refine wp_block (Code.wp_mono (fun e a w hq => ?_) (h w0 w ρ a hr))
  obtain ⟨ρ, t, H, h1, h2⟩ := hq
  cases e <;> first | exact ⟨ρ, t, H, h1, h2⟩ | skip
  rename_i i
  simp only [inB] at h2
  simp only [Exit.inBlock]
  split at h2
  · rename_i e; rw [if_pos e]; exact ⟨ρ, t, H, h1, h2⟩
  · rename_i e; rw [if_neg e]; exact ⟨ρ, t, H, h1, h2⟩
theorem least_of {p : Nat → Prop} (h : ∃ m, p m) : ∃ m, p m ∧ ∀ k, p k → m ≤ k := by
  obtain ⟨m, hm⟩ := h
  induction m using Nat.strongRecOn with
  | ind m ih =>
    by_cases h : ∃ k, k < m ∧ p k
    · obtain ⟨k, h1, h2⟩ := h; exact ih k h1 h2
    · exact ⟨m, hm, fun k hk => by
        rcases Nat.lt_or_ge k m with h' | h'
        · exact (h ⟨k, h', hk⟩).elim
        · exact h'⟩
open Classical in
theorem vc_loop {c : Code} {σ : Type} (T : σ → Tm) (G : σ → Hp) (I : σ → Prop) (μ : σ → Nat) (s0 : σ) (hs : Sub t H (T s0) (G s0)) (h0 : I s0)
    (h : ∀ s, I s → ∀ K1 : Tm → Hp → Prop, (∀ t H, (∃ s', I s' ∧ μ s' < μ s ∧ Sub t H (T s') (G s')) → K1 t H) → VC P n c (thenP K1 K) (T s) (G s)) : VC P n (.loop c) K t H := fun w0 w ρ a hr => by
  have best : ∀ (a : Act) (w : World), (∃ s ρ, I s ∧ Rel w0 w ρ n (T s) (G s) a) → ∃ m, (∃ s ρ, μ s = m ∧ I s ∧ Rel w0 w ρ n (T s) (G s) a) ∧ ∀ k, (∃ s ρ, μ s = k ∧ I s ∧ Rel w0 w ρ n (T s) (G s) a) → m ≤ k :=
    fun a w ⟨s, ρ, h1, h2⟩ => least_of (p := fun m => ∃ s ρ, μ s = m ∧ I s ∧ Rel w0 w ρ n (T s) (G s) a) ⟨μ s, s, ρ, rfl, h1, h2⟩
  obtain ⟨ρ', hr'⟩ := hr.sub hs
  refine wp_loop (fun a w => ∃ s ρ, I s ∧ Rel w0 w ρ n (T s) (G s) a) (fun a w => if hh : ∃ s ρ, I s ∧ Rel w0 w ρ n (T s) (G s) a then Classical.choose (best a w hh) else 0) ⟨s0, ρ', h0, hr'⟩ ?_
  intro a w hI
  obtain ⟨⟨s, ρ, hm, hIs, hrs⟩, _⟩ := Classical.choose_spec (best a w hI)
  refine Code.wp_mono (fun e a' w' hq => ?_) (h s hIs (fun t H => ∃ s', I s' ∧ μ s' < μ s ∧ Sub t H (T s') (G s')) (fun _ _ h => h) w0 w ρ a hrs)
  obtain ⟨ρ1, t1, H1, h1, h2⟩ := hq
  cases e <;> first | exact ⟨ρ1, t1, H1, h1, h2⟩ | skip
  obtain ⟨s', i1, i2, i3⟩ := h2
  obtain ⟨ρ2, h3⟩ := h1.sub i3
  have hI' : ∃ s ρ, I s ∧ Rel w0 w' ρ n (T s) (G s) a' := ⟨s', ρ2, i1, h3⟩
  refine ⟨hI', ?_⟩
  have hle := (Classical.choose_spec (best a' w' hI')).2 (μ s') ⟨s', ρ2, rfl, i1, h3⟩
  simp only [dif_pos hI, dif_pos hI']
  omega
end
def shP (b : Nat) : PV → PV
  | .hs k => .hs (b + k)
  | p => p
def shA1 (b : Nat) : AV → AV
  | .one p => .one (shP b p)
  | .agg ps => .agg (ps.map (shP b))
  | x => x
def shA (b : Nat) : AV → AV
  | .tup vs => .tup (vs.map (shA1 b))
  | x => shA1 b x
def shH (b : Nat) (H : Hp) : Hp := H.map fun x => (b + x.1, x.2)
def Con0 (P : Program) (f : FuncId) (args : List AV) (res : AV) (Hr : Hp) : Prop := Con P f args (fun b => shA b res) (fun b => shH b Hr)
def argT : Nat → List AV → Tm
  | _, [] => []
  | k, x :: l => (k, x) :: argT (k + 1) l
def res1 (P : Program) [TyEnv P] (t : Tm) (H : Hp) : ResultVar → Option AV
  | .tmp k => some (gt t k)
  | .cell k T => match gt t k with
    | .one (.rp j 0) => match rowOf H j, TyEnv.ti P T with
      | some r, some i => if r.2.length = i.size then mkv i r.2 else none
      | _, _ => none
    | _ => none
def resL (P : Program) [TyEnv P] (t : Tm) (H : Hp) : List ResultVar → Option (List AV)
  | [] => some []
  | r :: l => match res1 P t H r, resL P t H l with
    | some v, some vs => some (v :: vs)
    | _, _ => none
def resV : List AV → AV
  | [v] => v
  | vs => .tup vs
def untup : AV → Bool
  | .tup _ => false
  | _ => true
def Fin (P : Program) [TyEnv P] (rs : List ResultVar) (res : AV) (Hr : Hp) : Post := fun e t H =>
  need (e = .normal ∨ e = .ret) (onO (resL P t H rs) fun vs => need (vs.all untup = true) (∃ r : Ren, AW r Hr res (resV vs) ∧ HW r Hr H Hr ∧ ((keys Hr).filterMap (rk r)).Nodup ∧ (keys Hr).Nodup))
section
variable {P : Program} {w0 w : World} {ρ : Nat → Value} {n : Nat} {t t' : Tm} {H H' : Hp} {a : Act} {D : Nat → Prop}
theorem gt_argT : ∀ (l : List AV) (k j : Nat), gt (argT k l) j = if k ≤ j then (l[j - k]?).getD .junk else .junk
  | [], k, j => by simp [argT, gt]
  | x :: l, k, j => by
    simp only [argT, gt]
    rw [gt_argT l (k + 1) j]
    by_cases e : k = j
    · subst e; simp
    · rw [if_neg e]
      by_cases h : k + 1 ≤ j
      · rw [if_pos h, if_pos (by omega)]
        obtain ⟨m, rfl⟩ : ∃ m, j = k + 1 + m := ⟨j - (k + 1), by omega⟩
        rw [show k + 1 + m - (k + 1) = m by omega, show k + 1 + m - k = m + 1 by omega]
        rfl
      · rw [if_neg h, if_neg (by omega)]
theorem Rel.args {vs : List Value} {args : List AV} (h : F2 (AB w) args vs) (hn : args.length ≤ n) : Rel w w (fun _ => undef) n (argT 0 args) [] { tmps := vs.toArray ++ Array.replicate (n - vs.toArray.size) undef, defers := [] } := by
  have hl := h.len
  refine ⟨by simp; omega, rfl, fun k => ?_, ⟨[], .nil, St.start w⟩, .nil⟩
  rw [gt_argT, if_pos (Nat.zero_le _), Nat.sub_zero]
  cases hk : args[k]? with
  | none => trivial
  | some x =>
    obtain ⟨y, hy, hxy⟩ := h.get hk
    have hkl : k < vs.length := (List.getElem?_eq_some_iff.1 hy).1
    have : (vs.toArray ++ Array.replicate (n - vs.toArray.size) undef).getD k undef = y := by
      rw [Array.getD_eq_getD_getElem?, Array.getElem?_append_left (by simpa using hkl)]
      simp [hy]
    simp only [this, Option.getD_some]
    exact AR.ext (fun j hj => hj.elim) hxy
theorem shP_ok {b : Nat} {Hr : Hp} {p : PV} {u : Value} (h : R w (dom Hr) ρ p u) (hc : cleanP p = true) : R w (dom (shH b Hr)) (fun k => ρ (k - b)) (shP b p) u := by
  cases p <;> first | exact h | (simp [cleanP] at hc; done) | skip
  rename_i k
  obtain ⟨h1, h2, h3⟩ := h
  refine ⟨?_, by simp only [Nat.add_sub_cancel_left]; exact h2, h3⟩
  rw [dom_mem] at h1 ⊢
  obtain ⟨x, hx, rfl⟩ := List.mem_map.1 h1
  unfold shH
  rw [List.map_map]
  exact List.mem_map.2 ⟨x, hx, rfl⟩
theorem shPL_ok {b : Nat} {Hr : Hp} : ∀ {ps : List PV} {us : List Value}, F2 (R w (dom Hr) ρ) ps us → ps.all cleanP = true → F2 (R w (dom (shH b Hr)) (fun k => ρ (k - b))) (ps.map (shP b)) us
  | [], _, .nil, _ => .nil
  | p :: ps, _, .cons h hr, hc => by
    simp only [List.all_cons, Bool.and_eq_true] at hc
    exact .cons (shP_ok h hc.1) (shPL_ok hr hc.2)
theorem shA1_ok {b : Nat} {Hr : Hp} {p : AV} {u : Value} (h : AR1 w (dom Hr) ρ p u) (hc : clean1 p = true) : AR1 w (dom (shH b Hr)) (fun k => ρ (k - b)) (shA1 b p) u := by
  cases p with
  | one p => exact shP_ok h hc
  | agg ps => obtain ⟨us, h1, h2⟩ := h; exact ⟨us, h1, shPL_ok h2 hc⟩
  | tup vs => exact h.elim
  | junk => trivial
theorem shA_ok {b : Nat} {Hr : Hp} {p : AV} {u : Value} (h : AR w (dom Hr) ρ p u) (hc : cleanA p = true) : AR w (dom (shH b Hr)) (fun k => ρ (k - b)) (shA b p) u := by
  cases p with
  | tup vs =>
    obtain ⟨us, h1, h2⟩ := h
    refine ⟨us, h1, ?_⟩
    replace hc : vs.all clean1 = true := hc
    clear h1
    induction h2 with
    | nil => exact .nil
    | cons h k ih =>
      simp only [List.all_cons, Bool.and_eq_true] at hc
      exact .cons (shA1_ok h hc.1) (ih hc.2)
  | one p => exact AR.of1 (p := .one (shP b p)) (shA1_ok (p := .one p) h hc)
  | agg p => exact AR.of1 (p := .agg (p.map (shP b))) (shA1_ok (p := .agg p) h hc)
  | junk => trivial
theorem clean_sh1 {b : Nat} {p : AV} (h : clean1 p = true) : clean1 (shA1 b p) = true := by
  have hp : ∀ p : PV, cleanP p = true → cleanP (shP b p) = true := fun p h => by cases p <;> first | exact h | rfl
  cases p with
  | one p => exact hp p h
  | agg ps =>
    replace h : ps.all cleanP = true := h
    show (ps.map (shP b)).all cleanP = true
    rw [List.all_eq_true] at h ⊢
    intro x hx
    obtain ⟨y, hy, rfl⟩ := List.mem_map.1 hx
    exact hp y (h y hy)
  | tup vs => exact h
  | junk => rfl
theorem clean_sh {b : Nat} {p : AV} (h : cleanA p = true) : cleanA (shA b p) = true := by
  cases p with
  | tup vs =>
    replace h : vs.all clean1 = true := h
    show (vs.map (shA1 b)).all clean1 = true
    rw [List.all_eq_true] at h ⊢
    intro x hx
    obtain ⟨y, hy, rfl⟩ := List.mem_map.1 hx
    exact clean_sh1 (h y hy)
  | one p => exact clean_sh1 (p := .one p) h
  | agg p => exact clean_sh1 (p := .agg p) h
  | junk => rfl
theorem arrs_sh {b : Nat} {H : Hp} (h : arrs H = true) : arrs (shH b H) = true := by
  unfold arrs shH at *
  rw [List.all_eq_true] at h ⊢
  intro x hx
  obtain ⟨y, hy, rfl⟩ := List.mem_map.1 hx
  exact h y hy
theorem nd_sh {b : Nat} {H : Hp} (h : (keys H).Nodup) : ((shH b H).map (·.1)).Nodup := by
  unfold shH
  rw [List.map_map]
  have : ((·.1) ∘ fun x : Nat × Blk => (b + x.1, x.2)) = (b + ·) ∘ (·.1) := rfl
  rw [this, ← List.map_map]
  exact List.Pairwise.map _ (fun a c h e => h (by simpa using e)) h
theorem br_sh {b : Nat} {Hr : Hp} : ∀ {G : Hp} {As : List Asn}, F2 (BR w (dom Hr) ρ) G As → arrs G = true → F2 (BR w (dom (shH b Hr)) (fun k => ρ (k - b))) (shH b G) As
  | [], _, .nil, _ => .nil
  | (k, x) :: G, _, .cons h hr, hc => by
    simp only [arrs, List.all_cons, Bool.and_eq_true] at hc
    refine .cons ?_ (br_sh hr hc.2)
    cases x with
    | arr E sz es => obtain ⟨h1, h2⟩ := h; exact ⟨h1, by simp only [Nat.add_sub_cancel_left]; exact h2⟩
    | own X => show _ = X.A (ρ (b + k - b)); rw [Nat.add_sub_cancel_left]; exact h
    | row T cs => simp at hc
    | byt s => simp at hc
    | dead => simp at hc
theorem res1_ok [TyEnv P] {r : ResultVar} {v : AV} (hr : Rel w0 w ρ n t H a) (h : res1 P t H r = some v) (hu : untup v = true) : ∃ u, AR1 w0 (dom H) ρ v u ∧ RVs P w a.tmps [r] [u] := by
  have un : ∀ {v : AV} {u : Value}, AR w0 (dom H) ρ v u → untup v = true → AR1 w0 (dom H) ρ v u := fun {v u} h hu => by
    cases v <;> first | exact h | (simp [untup] at hu)
  cases r with
  | tmp k => simp only [res1, Option.some.injEq] at h; subst h; exact ⟨_, un (hr.tm k) hu, _, [], rfl, rfl, rfl⟩
  | cell k T =>
    simp only [res1] at h
    split at h
    · rename_i j hk
      split at h
      · rename_i r i h1 h2
        split at h
        · rename_i hl
          have hb := rowOf_some h1
          obtain ⟨A, Js, ⟨b, us, e1, e2, rfl⟩, hs, _⟩ := hr.focus hb
          have hx := hr.tm k
          rw [hk] at hx
          obtain ⟨_, b', e1', hx⟩ := hx
          rw [e1] at e1'
          simp only [Value.pointer.injEq, Option.some.injEq, Addr.mk.injEq, and_true] at e1'
          subst e1'
          have hm := mkv_R h e2
          obtain ⟨d, hu, hrow⟩ := ty_und h2
          have hrow' := hs.row .head
          split at hm
          · rename_i hq
            rw [List.take_of_length_le (by rw [← e2.len, hl]; exact Nat.le_refl _)] at hm
            refine ⟨.agg us.toArray, un hm.2 ‹_›, _, [], rfl, rfl, ⟨b, 0, none⟩, hx, ?_⟩
            refine run_loadVar_row w b _ T us.toArray (0, 0) d hrow' hu (by rw [hq] at hrow; cases d <;> first | rfl | (cases hrow)) ?_
            rw [ty_size h2, ← hl, e2.len]; simp
          · rename_i hq
            obtain ⟨u, g1, g2⟩ := hm
            refine ⟨u, un g2 ‹_›, _, [], rfl, rfl, ⟨b, 0, none⟩, hx, ?_⟩
            have hcell : w.cell? ⟨b, 0, none⟩ = some u := by rw [cell_row hrow']; rw [← g1]; cases us <;> rfl
            have hagg : (isAgg T).run P w = .ok false w := by
              unfold isAgg
              rw [Sem.run_bind, run_underlying hu w]
              cases d <;> first | rfl | (exact (hq hrow.symm).elim)
            simp only [loadVar, Sem.run_bind, hagg, Result.andThen_ok, Bool.false_eq_true, if_false]
            simp [hcell]
        · cases h
      · cases h
    · cases h
theorem resL_ok [TyEnv P] (hr : Rel w0 w ρ n t H a) : ∀ {rs : List ResultVar} {vs : List AV}, resL P t H rs = some vs → vs.all untup = true → ∃ us, F2 (AR1 w0 (dom H) ρ) vs us ∧ RVs P w a.tmps rs us
  | [], vs, h, _ => by simp only [resL, Option.some.injEq] at h; subst h; exact ⟨[], .nil, rfl⟩
  | r :: rs, vs, h, hu => by
    simp only [resL] at h
    split at h
    · rename_i v vs' h1 h2
      simp only [Option.some.injEq] at h
      subst h
      simp only [List.all_cons, Bool.and_eq_true] at hu
      obtain ⟨u, g1, g2⟩ := res1_ok hr h1 hu.1
      obtain ⟨us, k1, k2⟩ := resL_ok hr h2 hu.2
      obtain ⟨u', l, e, el, g2⟩ := g2
      simp only [List.cons.injEq] at e
      obtain ⟨rfl, rfl⟩ := e
      exact ⟨u :: us, .cons g1 k1, u, us, rfl, k2, g2⟩
    · cases h
theorem con_of [TyEnv P] {f : FuncId} {fn : Func} {c : Code} {rs : List ResultVar} {args : List AV} {res : AV} {Hr : Hp} (hf : P.funcs[f]? = some fn) (hb : fn.body = some c) (hnm : (fn.name == "runtime.NumGoroutine") = false) (hrs : fn.results = rs.toArray) (hn : fn.ntmps = n) (hargs : args.length ≤ n)
    (hcl : cleanA res = true) (har : arrs Hr = true) (h : VC P n c (Fin P rs res Hr) (argT 0 args) []) : Con0 P f args res Hr := by
  refine ⟨⟨fn, hf, hnm, by rw [hb]; rfl⟩, fun w vs hv b => ?_⟩
  refine calls_of_wp hf hb ?_
  rw [hn]
  refine Code.wp_mono (fun e a w' hq => ?_) (h w w _ _ (Rel.args hv hargs))
  obtain ⟨ρ, t, H, hr, he, vs, h1, h2, r, h3, h4, h5, h6⟩ := hq
  obtain ⟨us, g1, g2⟩ := resL_ok hr h1 h2
  have hrun := g2.run hrs
  have hrr := Rel.ren hr (t' := []) r trivial h4 h5 h6
  have hval : AR w (dom Hr) (mapr r ρ) res (if h : us.toArray.size = 1 then us.toArray[0] else .tuple us.toArray) := by
    refine AW.ok (q := resV vs) h3 (D := dom H) ?_
    cases g1 with
    | nil => exact ⟨[], rfl, .nil⟩
    | cons a b =>
      cases b with
      | nil => exact AR.of1 a
      | cons c d =>
        rw [dif_neg (by simp)]
        exact ⟨_, rfl, .cons a (.cons c d)⟩
  obtain ⟨As, k1, k2⟩ := hrr.hp
  have fin : (fun e w' => ∃ u ρ, e = Ending.returned u ∧ AR w (dom (shH b Hr)) ρ (shA b res) u ∧ cleanA (shA b res) = true ∧ arrs (shH b Hr) = true ∧ ((shH b Hr).map (·.1)).Nodup ∧ ∃ As, F2 (BR w (dom (shH b Hr)) ρ) (shH b Hr) As ∧ St w w' As) (Ending.returned (if h : us.toArray.size = 1 then us.toArray[0] else .tuple us.toArray)) w' :=
    ⟨_, fun k => mapr r ρ (k - b), rfl, shA_ok hval hcl, clean_sh hcl, arrs_sh har, nd_sh h6, As, br_sh k1 har, k2⟩
  rcases he with rfl | rfl
  · exact ⟨hr.df, _, hrun, fin⟩
  · exact ⟨hr.df, _, hrun, fin⟩
end
end Go.Vc
end
section
namespace Go.Vc
open Go Go.RowKit
set_option linter.unusedVariables false
set_option linter.unusedSectionVars false
set_option linter.unusedSimpArgs false
set_option linter.unnecessarySimpa false
abbrev I (n : Int) : AV := .one (.v (.int .i64 n))
abbrev B (b : Bool) : AV := .one (.v (.bool b))
abbrev Z (s : ByteArray) : AV := .one (.v (.string s))
abbrev V (n : Int) : PV := .v (.int .i64 n)
abbrev VB (b : Bool) : PV := .v (.bool b)
abbrev VS (s : ByteArray) : PV := .v (.string s)
def EqK (v : AV) (δ rs : Hp) : AV → Hp → Hp → Prop := fun v' δ' rs' => v' = v ∧ δ' = δ ∧ rs' = rs
theorem eqK_i {v : AV} {δ rs : Hp} : EqK v δ rs v δ rs := ⟨rfl, rfl, rfl⟩
theorem onO_i {α : Type} {x : Option α} {a : α} {f : α → Prop} (h : x = some a) (k : f a) : onO x f := ⟨a, h, k⟩
theorem onO2_i {α β : Type} {x : Option (α × β)} {a : α} {b : β} {f : α → β → Prop} (h : x = some (a, b)) (k : f a b) : onO2 x f := ⟨a, b, h, k⟩
theorem onO3_i {α β γ : Type} {x : Option (α × β × γ)} {a : α} {b : β} {c : γ} {f : α → β → γ → Prop} (h : x = some (a, b, c)) (k : f a b c) : onO3 x f := ⟨a, b, c, h, k⟩
theorem need_i {p q : Prop} (h : p) (k : q) : need p q := ⟨h, k⟩
def at' {α : Type} [Inhabited α] (l : List α) (i : Nat) : α := (l[i]?).getD default
theorem ldxm_i {α : Type} [Inhabited α] {l : List α} {g : α → List Value} {i : Nat} {f : List Value → Prop} (h : i < l.length) (k : f (g (at' l i))) : ldx (l.map g) i f := by
  refine ⟨by simpa using h, fun e he => ?_⟩
  rw [List.getElem?_map, List.getElem?_eq_getElem h, Option.map_some, Option.some.injEq] at he
  subst he
  have : at' l i = l[i] := by unfold at'; rw [List.getElem?_eq_getElem h]; rfl
  rwa [this] at k
theorem ldxb_i {s : ByteArray} {i : Nat} {f : List Value → Prop} (h : i < s.size) (k : f [.int .u8 (bytI s i)]) : ldx (bytesE s) i f := by
  have hl : (bytesE s).length = s.size := by
    unfold bytesE
    rw [List.length_map, Array.length_toList]; rfl
  refine ⟨by omega, fun e he => ?_⟩
  unfold bytesE at he
  rw [List.getElem?_map] at he
  obtain ⟨b, hb, rfl⟩ := Option.map_eq_some_iff.1 he
  have : bytI s i = (b.toNat : Int) := by
    unfold bytI
    rw [Array.getElem?_toList] at hb
    simp only [Int.toNat_natCast]
    first | (rw [hb]; rfl) | (simp [hb])
  rwa [this] at k
def upd1F (k : Nat) (b : Blk) : Hp → Option Hp
  | [] => some [(k, b)]
  | (d, v) :: t => bif Nat.beq d k then some ((d, b) :: t) else match upd1F k b t with
    | some t' => some ((d, v) :: t')
    | none => none
def updF : Hp → Hp → Option Hp
  | H, [] => some H
  | H, (k, b) :: δ => match upd1F k b H with
    | some H' => updF H' δ
    | none => none
def keysF : Hp → Option (List Nat)
  | [] => some []
  | (k, _) :: l => match keysF l with
    | some m => some (k :: m)
    | none => none
theorem upd1F_some {k : Nat} {b : Blk} : ∀ {H H' : Hp}, upd1F k b H = some H' → upd1 k b H = H'
  | [], H', h => by simp only [upd1F, Option.some.injEq] at h; exact h
  | (d, v) :: t, H', h => by
    simp only [upd1F] at h
    simp only [upd1]
    cases e : Nat.beq d k with
    | true =>
      rw [e] at h
      simp only [cond_true, Option.some.injEq] at h
      rw [if_pos (Nat.eq_of_beq_eq_true e)]; exact h
    | false =>
      rw [e] at h
      simp only [cond_false] at h
      rw [if_neg (Nat.ne_of_beq_eq_false e)]
      split at h
      · rename_i t' ht
        simp only [Option.some.injEq] at h
        rw [upd1F_some ht]; exact h
      · cases h
theorem updF_some : ∀ {δ H H' : Hp}, updF H δ = some H' → updH H δ = H'
  | [], H, H', h => by simp only [updF, Option.some.injEq] at h; exact h
  | (k, b) :: δ, H, H', h => by
    simp only [updF] at h
    simp only [updH]
    split at h
    · rename_i H1 h1
      rw [upd1F_some h1]; exact updF_some h
    · cases h
theorem keysF_some : ∀ {H : Hp} {l : List Nat}, keysF H = some l → keys H = l
  | [], l, h => by simp only [keysF, Option.some.injEq] at h; exact h
  | (k, b) :: H, l, h => by
    simp only [keysF] at h
    split at h
    · rename_i m hm
      simp only [Option.some.injEq] at h
      simp only [keys, List.map_cons]
      rw [← h]
      congr 1
      exact keysF_some hm
    · cases h
def nfP : PV → Option PV
  | .v (.int k n) => some (.v (.int k n))
  | .v (.bool b) => some (.v (.bool b))
  | .v (.string s) => some (.v (.string s))
  | .v x => some (.v x)
  | .nil => some .nil
  | .sl sz es => some (.sl sz es)
  | .hs k => some (.hs k)
  | .rp k o => some (.rp k o)
  | .ptr k i sz o => some (.ptr k i sz o)
  | .ep sz es i o => some (.ep sz es i o)
  | .hv k i => some (.hv k i)
  | .hc k l z => some (.hc k l z)
  | .rd Q => some (.rd Q)
  | .junk => some .junk
def nfPs : List PV → Option (List PV)
  | [] => some []
  | p :: l => match nfP p with
    | some q => match nfPs l with
      | some m => some (q :: m)
      | none => none
    | none => none
def nfA1 : AV → Option AV
  | .one p => match nfP p with
    | some q => some (.one q)
    | none => none
  | .agg ps => match nfPs ps with
    | some qs => some (.agg qs)
    | none => none
  | .tup vs => some (.tup vs)
  | .junk => some .junk
def nfAs : List AV → Option (List AV)
  | [] => some []
  | p :: l => match nfA1 p with
    | some q => match nfAs l with
      | some m => some (q :: m)
      | none => none
    | none => none
def nfA : AV → Option AV
  | .tup vs => match nfAs vs with
    | some us => some (.tup us)
    | none => none
  | .one p => nfA1 (.one p)
  | .agg ps => nfA1 (.agg ps)
  | .junk => some .junk
def nfB : Blk → Option Blk
  | .row T cs => match nfPs cs with
    | some ds => some (.row T ds)
    | none => none
  | .arr E sz es => some (.arr E sz es)
  | .byt s => some (.byt s)
  | .own X => some (.own X)
  | .dead => some .dead
def nfH : Hp → Option Hp
  | [] => some []
  | (k, b) :: l => match nfB b with
    | some c => match nfH l with
      | some m => some ((k, c) :: m)
      | none => none
    | none => none
theorem nfP_some {p q : PV} (h : nfP p = some q) : p = q := by
  unfold nfP at h
  split at h <;> exact Option.some.inj h
theorem nfPs_some : ∀ {l m : List PV}, nfPs l = some m → l = m
  | [], m, h => Option.some.inj h
  | p :: l, m, h => by
    simp only [nfPs] at h
    split at h
    · rename_i q hq
      split at h
      · rename_i m' hm
        rw [nfP_some hq, nfPs_some hm]; exact Option.some.inj h
      · cases h
    · cases h
theorem nfA1_some {p q : AV} (h : nfA1 p = some q) : p = q := by
  cases p <;> simp only [nfA1] at h
  · split at h
    · rename_i q' hq; rw [nfP_some hq]; exact Option.some.inj h
    · cases h
  · split at h
    · rename_i q' hq; rw [nfPs_some hq]; exact Option.some.inj h
    · cases h
  · exact Option.some.inj h
  · exact Option.some.inj h
theorem nfAs_some : ∀ {l m : List AV}, nfAs l = some m → l = m
  | [], m, h => Option.some.inj h
  | p :: l, m, h => by
    simp only [nfAs] at h
    split at h
    · rename_i q hq
      split at h
      · rename_i m' hm
        rw [nfA1_some hq, nfAs_some hm]; exact Option.some.inj h
      · cases h
    · cases h
theorem nfA_some {p q : AV} (h : nfA p = some q) : p = q := by
  cases p <;> simp only [nfA] at h
  · exact nfA1_some h
  · exact nfA1_some h
  · split at h
    · rename_i q' hq; rw [nfAs_some hq]; exact Option.some.inj h
    · cases h
  · exact Option.some.inj h
theorem nfB_some {p q : Blk} (h : nfB p = some q) : p = q := by
  cases p <;> simp only [nfB] at h
  · split at h
    · rename_i q' hq; rw [nfPs_some hq]; exact Option.some.inj h
    · cases h
  · exact Option.some.inj h
  · exact Option.some.inj h
  · exact Option.some.inj h
  · exact Option.some.inj h
theorem nfH_some : ∀ {l m : Hp}, nfH l = some m → l = m
  | [], m, h => Option.some.inj h
  | (k, b) :: l, m, h => by
    simp only [nfH] at h
    split at h
    · rename_i q hq
      split at h
      · rename_i m' hm
        rw [nfB_some hq, nfH_some hm]; exact Option.some.inj h
      · cases h
    · cases h
def dstB (o : Option Nat) (n : Nat) : Bool := match o with
  | some d => Nat.blt d n
  | none => true
theorem dstB_ok {o : Option Nat} {n : Nat} (h : dstB o n = true) : ∀ d, o = some d → d < n := by
  rintro d rfl
  simp [dstB, Nat.blt] at h
  omega
def putF (d : Option Nat) (v : AV) (t : Tm) : Option Tm := match d with
  | some d => some ((d, v) :: t)
  | none => some t
theorem putF_some {d : Option Nat} {v : AV} {t t' : Tm} (h : putF d v t = some t') : putT t d v = t' := by
  cases d <;> exact Option.some.inj h
def stF (d : Option Nat) (v : AV) (δ rs : Hp) (t : Tm) (H : Hp) : Option (Tm × Hp × List Nat × List Nat) := match nfA v with
  | some v' => match nfH δ with
    | some δ' => match putF d v' t with
      | some t' => match updF H δ' with
        | some H' => match keysF rs with
          | some k1 => match keysF δ' with
            | some k2 => some (t', H', k1, k2)
            | none => none
          | none => none
        | none => none
      | none => none
    | none => none
  | none => none
theorem stF_some {d : Option Nat} {v : AV} {δ rs : Hp} {t t' : Tm} {H H' : Hp} {k1 k2 : List Nat} (h : stF d v δ rs t H = some (t', H', k1, k2)) : putT t d v = t' ∧ updH H δ = H' ∧ keys rs = k1 ∧ keys δ = k2 := by
  unfold stF at h
  split at h
  · rename_i v' hv
    split at h
    · rename_i δ' hδ
      split at h
      · rename_i t1 ht
        split at h
        · rename_i H1 hH
          split at h
          · rename_i a ha
            split at h
            · rename_i b hb
              simp only [Option.some.injEq, Prod.mk.injEq] at h
              obtain ⟨rfl, rfl, rfl, rfl⟩ := h
              rw [nfA_some hv, nfH_some hδ]
              exact ⟨putF_some ht, updF_some hH, keysF_some ha, keysF_some hb⟩
            · cases h
          · cases h
        · cases h
      · cases h
    · cases h
  · cases h
def argF : Nat → List AV → Option Tm
  | _, [] => some []
  | k, x :: l => match nfA x with
    | some y => match argF (k + 1) l with
      | some m => some ((k, y) :: m)
      | none => none
    | none => none
theorem argF_some : ∀ {l : List AV} {k : Nat} {t : Tm}, argF k l = some t → argT k l = t
  | [], k, t, h => Option.some.inj h
  | x :: l, k, t, h => by
    simp only [argF] at h
    split at h
    · rename_i y hy
      split at h
      · rename_i m hm
        simp only [argT]
        rw [nfA_some hy, argF_some hm]; exact Option.some.inj h
      · cases h
    · cases h
def gBF (ops : List Oper) (rd : Nat → AV) (want : Bool) (g : Nat) : Option Bool := match gB ops rd g with
  | some (some c) => some (c == want)
  | some none => some false
  | none => none
section
variable {P : Program} [TyEnv P] {n : Nat} {ops os : List Oper} {dr : Bool} {K : Tm → Hp → Prop} {t t' : Tm} {H H' : Hp} {fp : List Fp} {o : Oper} {v : AV} {δ rs : Hp} {k1 k2 : List Nat}
theorem vd_plain (hd : dstB o.dst n = true) (hg : o.guard = none) (hs : Good P o (gt t) H v δ rs) (ht : stF o.dst v δ rs t H = some (t', H', k1, k2)) (h : Vd P n ops dr K os t' H' ((k1, k2) :: fp)) : Vd P n ops dr K (o :: os) t H fp := by
  refine ⟨dstB_ok hd, ?_⟩
  rw [hg]
  refine ⟨v, δ, rs, hs, ?_⟩
  obtain ⟨e1, e2, e3, e4⟩ := stF_some ht
  rw [e1, e2, e3, e4]; exact h
theorem vd_on {g : Nat} {want : Bool} (hd : dstB o.dst n = true) (hg : o.guard = some (g, want)) (hw : gBF ops (gt t) want g = some true) (hs : Good P o (gt t) H v δ rs) (ht : stF o.dst v δ rs t H = some (t', H', k1, k2)) (h : Vd P n ops dr K os t' H' ((k1, k2) :: fp)) : Vd P n ops dr K (o :: os) t H fp := by
  refine ⟨dstB_ok hd, ?_⟩
  rw [hg]
  unfold gBF at hw
  split at hw
  · rename_i c hc
    simp only [Option.some.injEq, beq_iff_eq] at hw
    subst hw
    refine ⟨_, hc, fun _ => ⟨v, δ, rs, hs, ?_⟩, fun hn => (hn rfl).elim⟩
    obtain ⟨e1, e2, e3, e4⟩ := stF_some ht
    rw [e1, e2, e3, e4]; exact h
  · cases hw
  · cases hw
theorem vd_off {g : Nat} {want : Bool} (hd : dstB o.dst n = true) (hg : o.guard = some (g, want)) (hw : gBF ops (gt t) want g = some false) (ht : putF o.dst (.tup []) t = some t') (h : Vd P n ops dr K os t' H (([], []) :: fp)) : Vd P n ops dr K (o :: os) t H fp := by
  refine ⟨dstB_ok hd, ?_⟩
  rw [hg]
  unfold gBF at hw
  split at hw
  · rename_i c hc
    simp only [Option.some.injEq] at hw
    refine ⟨_, hc, fun hn => ?_, fun _ => by rw [putF_some ht]; exact h⟩
    simp only [Option.some.injEq] at hn
    subst hn; simp at hw
  · rename_i hc
    exact ⟨_, hc, fun hn => (by cases hn), fun _ => by rw [putF_some ht]; exact h⟩
  · cases hw
theorem good_v (h : vstep P o (gt t) H (EqK v δ rs)) : Good P o (gt t) H v δ rs := by
  obtain ⟨v', δ', rs', h1, h2, h3, h4⟩ := vstep_ok h
  subst h2 h3 h4; exact h1
end
theorem okE_nil : okE [] := ⟨⟨#[]⟩, rfl⟩
theorem okE_cons {n : Int} {es : List (List Value)} (h0 : 0 ≤ n) (h1 : n ≤ 255) (h : okE es) : okE ([.int .u8 n] :: es) := by
  obtain ⟨s, rfl⟩ := h
  refine ⟨⟨#[UInt8.ofNat n.toNat]⟩ ++ s, ?_⟩
  unfold bytesE
  have : (UInt8.ofNat n.toNat).toNat = n.toNat := by simp; omega
  simp [ByteArray.data_append, this]
  omega
theorem u8_bd (n : Int) : 0 ≤ IntKind.u8.wrap n ∧ IntKind.u8.wrap n ≤ 255 := by
  rw [IntKind.wrap_u8]; omega
theorem okE_w {n : Int} {es : List (List Value)} (h : okE es) : okE ([.int .u8 (IntKind.u8.wrap n)] :: es) := okE_cons (u8_bd n).1 (u8_bd n).2 h
theorem okE_bytes (s : ByteArray) : okE (bytesE s) := ⟨s, rfl⟩
def byE (n : Int) : List Value := [.int .u8 n]
theorem okE_by {L : List Int} (h : ∀ n ∈ L, 0 ≤ n ∧ n ≤ 255) : okE (L.map byE) := by
  induction L with
  | nil => exact okE_nil
  | cons a L ih => exact okE_cons (h a (List.mem_cons_self ..)).1 (h a (List.mem_cons_self ..)).2 (ih fun n hn => h n (List.mem_cons_of_mem _ hn))
theorem side {p : Prop} (h : p := by (repeat' (with_reducible refine And.intro ?_ ?_)) <;> first | (with_reducible assumption) | omega | (simp only [ByteArray.size_append, ByteArray.size_extract, strOfNums_size, List.length_append, List.length_map, List.length_cons, List.length_nil, List.length_replicate, maxLen, Int.toNat_natCast]; omega) | (with_reducible rfl) | ((repeat (first | exact okE_nil | exact okE_bytes _ | refine okE_w ?_ | refine okE_cons (by decide) (by decide) ?_)); done) | (refine okE_by ?_; intro n hn; simp only [List.mem_append, List.mem_replicate] at hn; omega) | rfl | decide | (simp only [ByteArray.size_append, ByteArray.size_extract, strOfNums_size, List.length_append, List.length_map, List.length_cons, List.length_nil, List.length_replicate, maxLen, Int.toNat_natCast] at *; omega) | assumption) : p := h
section
variable {P : Program} [TyEnv P] {n : Nat} {ops os : List Oper} {dr : Bool} {K : Tm → Hp → Prop} {t t' : Tm} {H H' : Hp} {fp : List Fp} {o : Oper} {v : AV} {δ rs : Hp} {k1 k2 : List Nat}
theorem vo (h : Vd P n ops dr K os t' H' ((k1, k2) :: fp)) (hd : dstB o.dst n = true := by rfl) (hg : o.guard = none := by rfl) (hs : vstep P o (gt t) H (EqK v δ rs) := by repeat (first | exact eqK_i | refine onO_i rfl ?_ | refine onO2_i rfl ?_ | refine onO3_i rfl ?_ | refine need_i side ?_ | refine ldxm_i side ?_ | refine ldxb_i side ?_)) (ht : stF o.dst v δ rs t H = some (t', H', k1, k2) := by rfl) : Vd P n ops dr K (o :: os) t H fp := vd_plain hd hg (good_v hs) ht h
theorem von {g : Nat} {want : Bool} (h : Vd P n ops dr K os t' H' ((k1, k2) :: fp)) (hd : dstB o.dst n = true := by rfl) (hg : o.guard = some (g, want) := by rfl) (hw : gBF ops (gt t) want g = some true := by rfl) (hs : vstep P o (gt t) H (EqK v δ rs) := by repeat (first | exact eqK_i | refine onO_i rfl ?_ | refine onO2_i rfl ?_ | refine onO3_i rfl ?_ | refine need_i side ?_ | refine ldxm_i side ?_ | refine ldxb_i side ?_)) (ht : stF o.dst v δ rs t H = some (t', H', k1, k2) := by rfl) : Vd P n ops dr K (o :: os) t H fp := vd_on hd hg hw (good_v hs) ht h
theorem vof {g : Nat} {want : Bool} (h : Vd P n ops dr K os t' H (([], []) :: fp)) (hd : dstB o.dst n = true := by rfl) (hg : o.guard = some (g, want) := by rfl) (hw : gBF ops (gt t) want g = some false := by rfl) (ht : putF o.dst (.tup []) t = some t' := by rfl) : Vd P n ops dr K (o :: os) t H fp := vd_off hd hg hw ht h
theorem vnil (h : K t H) (hf : dr = true → fpB ops fp.reverse = true := by first | (intro h; cases h; done) | (intro _; kernel_rfl)) : Vd P n ops dr K [] t H fp := ⟨hf, h⟩
theorem vsp {d : Nat} {c : Bool} {p q : Prop} (h1 : p → Vd P n ops dr K os ((d, .one (.v (.bool true))) :: t) H fp) (h2 : q → Vd P n ops dr K os ((d, .one (.v (.bool false))) :: t) H fp) (hp : (c = true) = p := by (conv => lhs; try simp only [decide_eq_true_eq, decide_eq_false_iff_not, Bool.not_eq_true', Bool.not_eq_false', Bool.and_eq_true, Bool.or_eq_true, Bool.and_eq_false_imp, Bool.or_eq_false_iff, List.length_map, List.length_append, List.length_cons, List.length_nil, List.length_replicate, beq_iff_eq, Int.toNat_natCast, Int.ofNat_lt, ge_iff_le, gt_iff_lt, Int.not_le, Int.not_lt])) (hq : (c = false) = q := by (conv => lhs; try simp only [decide_eq_true_eq, decide_eq_false_iff_not, Bool.not_eq_true', Bool.not_eq_false', Bool.and_eq_true, Bool.or_eq_true, Bool.and_eq_false_imp, Bool.or_eq_false_iff, List.length_map, List.length_append, List.length_cons, List.length_nil, List.length_replicate, beq_eq_false_iff_ne, Int.toNat_natCast, Int.ofNat_lt, Int.ofNat_le, ge_iff_le, gt_iff_lt, Int.not_le, Int.not_lt])) : Vd P n ops dr K os ((d, .one (.v (.bool c))) :: t) H fp := by
  subst hp hq
  cases c
  · exact h2 rfl
  · exact h1 rfl
theorem vwr {d : Nat} {x : Int} (h : Vd P n ops dr K os ((d, .one (.v (.int .i64 x))) :: t) H fp) (hw : -9223372036854775808 ≤ x ∧ x ≤ 9223372036854775807 := by omega) : Vd P n ops dr K os ((d, .one (.v (.int .i64 (wr x)))) :: t) H fp := by
  have : wr x = x := IntWalk.i64_in x hw
  rw [this]; exact h
theorem vs2 {d : Nat} {a b : Int} (h : Vd P n ops dr K os ((d, .one (.v (.string (strOfNums [a, b])))) :: t) H fp) : Vd P n ops dr K os ((d, .one (.v (.string (ofE [[.int .u8 a], [.int .u8 b]])))) :: t) H fp := h
theorem vs4 {d : Nat} {a b c e : Int} (h : Vd P n ops dr K os ((d, .one (.v (.string (strOfNums [a, b, c, e])))) :: t) H fp) : Vd P n ops dr K os ((d, .one (.v (.string (ofE [[.int .u8 a], [.int .u8 b], [.int .u8 c], [.int .u8 e]])))) :: t) H fp := h
theorem vstr {d : Nat} {x y : ByteArray} (hw : x = y) (h : Vd P n ops dr K os ((d, .one (.v (.string y))) :: t) H fp) : Vd P n ops dr K os ((d, .one (.v (.string x))) :: t) H fp := by
  rw [hw]; exact h
theorem vzs {d : Nat} {s : ByteArray} {m : Nat} (hb : s.size ≤ m) (h : s.size ≤ m → Vd P n ops dr K os ((d, .one (.v (.string s))) :: t) H fp) : Vd P n ops dr K os ((d, .one (.v (.string s))) :: t) H fp := h hb
theorem vln {d : Nat} {α : Type} {l : List α} {f : α → List Value} (h : Vd P n ops dr K os ((d, .one (.v (.int .i64 (l.length : Int)))) :: t) H fp) : Vd P n ops dr K os ((d, .one (.v (.int .i64 ((l.map f).length : Int)))) :: t) H fp := by
  rw [List.length_map]; exact h
theorem vdr {d sz j : Nat} {α : Type} {l : List α} {f : α → List Value} (h : Vd P n ops dr K os ((d, .one (.sl sz ((l.drop j).map f))) :: t) H fp) : Vd P n ops dr K os ((d, .one (.sl sz ((l.map f).drop j))) :: t) H fp := by
  rw [List.map_drop] at h; exact h
theorem vtk {d sz j : Nat} {α : Type} {l : List α} {f : α → List Value} (h : Vd P n ops dr K os ((d, .one (.sl sz ((l.take j).map f))) :: t) H fp) : Vd P n ops dr K os ((d, .one (.sl sz ((l.map f).take j))) :: t) H fp := by
  rw [List.map_take] at h; exact h
theorem veq {d : Nat} {x y : Int} (hw : x = y) (h : Vd P n ops dr K os ((d, .one (.v (.int .i64 y))) :: t) H fp) : Vd P n ops dr K os ((d, .one (.v (.int .i64 x))) :: t) H fp := by
  rw [hw]; exact h
end
section
variable {P : Program} [TyEnv P] {n : Nat} {K : Post} {t : Tm} {H : Hp}
theorem vc_seq' {x y : Code} (h : VC P n x (thenP (VC P n y K) K) t H) : VC P n (.seq x y) K t H := vc_seq fun K1 hK => vc_mono h fun e t H hk => by
  cases e <;> first | exact hk | exact hK _ _ hk
end
theorem con_i {P : Program} [TyEnv P] {f : FuncId} {fn : Func} {c : Code} {n : Nat} {rs : List ResultVar} {args : List AV} {res : AV} {Hr : Hp} {t : Tm} (hf : P.funcs[f]? = some fn) (hn : fn.ntmps = n) (ht : argF 0 args = some t) (h : VC P n c (Fin P rs res Hr) t []) (hb : fn.body = some c := by rfl) (hnm : (fn.name == "runtime.NumGoroutine") = false := by kernel_rfl) (hrs : fn.results = rs.toArray := by rfl) (hargs : Nat.ble args.length n = true := by rfl) (hcl : cleanA res = true := by rfl) (har : arrs Hr = true := by rfl) : Con0 P f args res Hr :=
  con_of hf hb hnm hrs hn (Nat.le_of_ble_eq_true hargs) hcl har (by rw [argF_some ht]; exact h)
def nodB : List Nat → Bool
  | [] => true
  | k :: l => !l.contains k && nodB l
theorem nodB_ok : ∀ {l : List Nat}, nodB l = true → l.Nodup
  | [], _ => .nil
  | k :: l, h => by
    simp only [nodB, Bool.and_eq_true, Bool.not_eq_true'] at h
    refine List.nodup_cons.2 ⟨fun hm => ?_, nodB_ok h.2⟩
    have := List.contains_iff_mem.2 hm
    rw [h.1] at this; cases this
def renB (r : Ren) (G : Hp) : Bool := match keysF G with
  | some ks => nodB ks && nodB (ks.filterMap (rk r))
  | none => false
theorem renB_ok {r : Ren} {G : Hp} (h : renB r G = true) : (keys G).Nodup ∧ ((keys G).filterMap (rk r)).Nodup := by
  unfold renB at h
  split at h
  · rename_i ks hk
    simp only [Bool.and_eq_true] at h
    rw [keysF_some hk]
    exact ⟨nodB_ok h.1, nodB_ok h.2⟩
  · cases h
theorem sub_i {t t' : Tm} {H H' : Hp} (r : Ren) (h1 : TW r H' t t') (h2 : HW r H' H H') (hn : renB r H' = true := by rfl) : Sub t H t' H' := ⟨r, h1, h2, (renB_ok hn).2, (renB_ok hn).1⟩
theorem fin_i {P : Program} [TyEnv P] {rs : List ResultVar} {res : AV} {Hr : Hp} {e : Exit} {t : Tm} {H : Hp} {vs : List AV} (r : Ren) (hv : resL P t H rs = some vs) (h3 : AW r Hr res (resV vs)) (h4 : HW r Hr H Hr) (he : e = .normal ∨ e = .ret := by first | exact .inr rfl | exact .inl rfl) (hu : vs.all untup = true := by rfl) (hn : renB r Hr = true := by rfl) : Fin P rs res Hr e t H := ⟨he, vs, hv, hu, r, h3, h4, (renB_ok hn).2, (renB_ok hn).1⟩
theorem vc_if {P : Program} [TyEnv P] {n : Nat} {K : Post} {t : Tm} {H : Hp} {c : Operand} {x y : Code} {b : Bool} {p q : Prop} (h1 : p → VC P n x K t H) (h2 : q → VC P n y K t H) (hb : asB (evo (gt t) c) = some b := by rfl) (hp : (b = true) = p := by (conv => lhs; try simp only [decide_eq_true_eq, decide_eq_false_iff_not, Bool.not_eq_true', Bool.not_eq_false', Bool.and_eq_true, Bool.or_eq_true, Bool.and_eq_false_imp, Bool.or_eq_false_iff, List.length_map, List.length_append, List.length_cons, List.length_nil, List.length_replicate, beq_iff_eq, Int.toNat_natCast, Int.ofNat_lt, ge_iff_le, gt_iff_lt, Int.not_le, Int.not_lt])) (hq : (b = false) = q := by (conv => lhs; try simp only [decide_eq_true_eq, decide_eq_false_iff_not, Bool.not_eq_true', Bool.not_eq_false', Bool.and_eq_true, Bool.or_eq_true, Bool.and_eq_false_imp, Bool.or_eq_false_iff, List.length_map, List.length_append, List.length_cons, List.length_nil, List.length_replicate, beq_eq_false_iff_ne, Int.toNat_natCast, Int.ofNat_lt, Int.ofNat_le, ge_iff_le, gt_iff_lt, Int.not_le, Int.not_lt])) : VC P n (.cond c x y) K t H := by
  subst hp hq
  exact vc_cond ⟨b, hb, h1, h2⟩
theorem vc_then {P : Program} [TyEnv P] {n : Nat} {K : Post} {t : Tm} {H : Hp} {c : Operand} {x y : Code} (h : VC P n x K t H) (hb : asB (evo (gt t) c) = some true := by rfl) : VC P n (.cond c x y) K t H := vc_cond ⟨true, hb, fun _ => h, fun h => (by cases h)⟩
theorem vc_else {P : Program} [TyEnv P] {n : Nat} {K : Post} {t : Tm} {H : Hp} {c : Operand} {x y : Code} (h : VC P n y K t H) (hb : asB (evo (gt t) c) = some false := by rfl) : VC P n (.cond c x y) K t H := vc_cond ⟨false, hb, fun h => (by cases h), fun _ => h⟩
theorem inB_n {id : Nat} {K : Post} {t : Tm} {H : Hp} (h : K .normal t H) : inB id K .normal t H := h
theorem inB_r {id : Nat} {K : Post} {t : Tm} {H : Hp} (h : K .ret t H) : inB id K .ret t H := h
theorem inB_x {id : Nat} {K : Post} {t : Tm} {H : Hp} (h : K .normal t H) : inB id K (.exit id) t H := by simp only [inB, if_true]; exact h
theorem inB_y {id i : Nat} {K : Post} {t : Tm} {H : Hp} (h : K (.exit i) t H) (hi : Nat.beq i id = false := by rfl) : inB id K (.exit i) t H := by simp only [inB]; rw [if_neg (Nat.ne_of_beq_eq_false hi)]; exact h
theorem thn_r {K1 : Tm → Hp → Prop} {K : Post} {t : Tm} {H : Hp} (h : K .ret t H) : thenP K1 K .ret t H := h
theorem thn_x {K1 : Tm → Hp → Prop} {K : Post} {t : Tm} {H : Hp} {i : Nat} (h : K (.exit i) t H) : thenP K1 K (.exit i) t H := h
theorem fz {p q : Prop} (k : q) (h : p = q := by (conv => lhs; try simp only [I, B, Z, V, VB, VS, AW, AW1, AWL, PW, PWL, HW, BW, TW, resV, gt, rk, hasK, lk, shP, shA1, shA, Value.int.injEq, Value.bool.injEq, Value.string.injEq, true_and, and_true, Nat.reduceEqDiff, Nat.reduceMul, Nat.reduceAdd, Nat.add_zero, List.nil_append, List.cons_append, Int.toNat_natCast, if_true, if_false, reduceIte, Nat.one_ne_zero, Nat.zero_ne_one, beq_iff_eq, Option.some.injEq])) : p := h.symm ▸ k
theorem thn {K1 : Tm → Hp → Prop} {K : Post} {t : Tm} {H : Hp} (h : K1 t H) : thenP K1 K .normal t H := h
theorem vc_sr {P : Program} [TyEnv P] {n : Nat} {K : Post} {t : Tm} {H : Hp} {id : Nat} {l : List Oper} {dr : Bool} {y : Code} (h : Vd P n l dr (thenP (VC P n y K) K .normal) l t H []) : VC P n (.seq (.region id l.toArray dr) y) K t H := vc_seq' (vc_region h)
theorem vnt {P : Program} [TyEnv P] {n : Nat} {ops : List Oper} {dr : Bool} {K1 : Tm → Hp → Prop} {K : Post} {t : Tm} {H : Hp} {fp : List Fp} (h : K1 t H) (hf : dr = true → fpB ops fp.reverse = true := by first | (intro h; cases h; done) | (intro _; kernel_rfl)) : Vd P n ops dr (thenP K1 K .normal) [] t H fp := ⟨hf, h⟩
def keepF (t : Tm) : List Nat → Option Tm
  | [] => some []
  | k :: l => match nfA (gt t k) with
    | some v => match keepF t l with
      | some m => some ((k, v) :: m)
      | none => none
    | none => none
def keepH (H : Hp) : List Nat → Option Hp
  | [] => some []
  | k :: l => match lk H k with
    | some b => match nfB b with
      | some c => match keepH H l with
        | some m => some ((k, c) :: m)
        | none => none
      | none => none
    | none => none
def nfT : Tm → Option Tm
  | [] => some []
  | (k, v) :: l => match nfA v with
    | some w => match nfT l with
      | some m => some ((k, w) :: m)
      | none => none
    | none => none
theorem nfT_some : ∀ {l m : Tm}, nfT l = some m → l = m
  | [], m, h => Option.some.inj h
  | (k, b) :: l, m, h => by
    simp only [nfT] at h
    split at h
    · rename_i q hq
      split at h
      · rename_i m' hm
        rw [nfA_some hq, nfT_some hm]; exact Option.some.inj h
      · cases h
    · cases h
theorem vc_nf {P : Program} [TyEnv P] {n : Nat} {c : Code} {K : Post} {t t' : Tm} {H H' : Hp} (ht : nfT t = some t') (hH : nfH H = some H') (h : VC P n c K t' H') : VC P n c K t H := by rw [nfT_some ht, nfH_some hH]; exact h
theorem vc_lp {P : Program} [TyEnv P] {n : Nat} {K : Post} {t t0 : Tm} {H H0 : Hp} {c : Code} {σ : Type} (live keep : List Nat) (ov : σ → Tm) (gv : σ → Hp) (I : σ → Prop) (μ : σ → Nat) (s0 : σ) (ht : keepF t live = some t0) (hH : keepH H keep = some H0) (hs : Sub t H (ov s0 ++ t0) (gv s0 ++ H0)) (h0 : I s0)
    (h : ∀ s, I s → VC P n c (thenP (fun t H => ∃ s', I s' ∧ μ s' < μ s ∧ Sub t H (ov s' ++ t0) (gv s' ++ H0)) K) (ov s ++ t0) (gv s ++ H0)) : VC P n (.loop c) K t H :=
  vc_loop (fun s => ov s ++ t0) (fun s => gv s ++ H0) I μ s0 hs h0 fun s hi K1 hK => vc_mono (h s hi) fun e t H hk => by
    cases e <;> first | exact hk | exact hK _ _ hk
theorem drop_at {α : Type} [Inhabited α] {l : List α} {i : Nat} (h : i < l.length) : l.drop i = at' l i :: l.drop (i + 1) := by
  rw [List.drop_eq_getElem_cons h]
  unfold at'
  rw [List.getElem?_eq_getElem h]; rfl
theorem good_call {P : Program} [TyEnv P] {o : Oper} {t : Tm} {H : Hp} {f : FuncId} {args : Array Operand} {ats : Array TypeId} {ys : List AV} {res v : AV} {Hr δ rs : Hp} {d : Nat} (hc : Con0 P f ys res Hr) (ho : o.op = .call { callee := .value (.func f), args := args, argTypes := ats }) (hf : frzAs H (args.toList.map (evo (gt t))) = some ys)
    (hdd : o.dst = some d) (hv : shA (8 * d) res = v) (hδ : shH (8 * d) Hr = δ) (hrs : rsOf H ((args.toList.map (evo (gt t))).flatMap hsA) = rs) (hfr : δ.all (fun p => (lk H p.1).isNone) = true) : Good P o (gt t) H v δ rs := by
  subst hv hδ hrs
  refine good_v ?_
  unfold vstep
  rw [ho]
  have e : 8 * o.dst.getD 0 = 8 * d := by rw [hdd]; rfl
  simp only [e]
  exact ⟨ys, hf, _, _, hc, hfr, rfl, rfl, rfl⟩
section
variable {P : Program} [TyEnv P] {n : Nat} {ops os : List Oper} {dr : Bool} {K : Tm → Hp → Prop} {t t' : Tm} {H H' : Hp} {fp : List Fp} {o : Oper} {v : AV} {δ rs : Hp} {k1 k2 : List Nat}
theorem voc {f : FuncId} {args : Array Operand} {ats : Array TypeId} {ys : List AV} {res v : AV} {Hr δ rs : Hp} {d : Nat} (hc : Con0 P f ys res Hr) (ho : o.op = .call { callee := .value (.func f), args := args, argTypes := ats }) (hf : frzAs H (args.toList.map (evo (gt t))) = some ys) (h : Vd P n ops dr K os t' H' ((k1, k2) :: fp)) (hdd : o.dst = some d := by rfl) (hv : shA (8 * d) res = v := by rfl) (hδ : shH (8 * d) Hr = δ := by rfl) (hrs : rsOf H ((args.toList.map (evo (gt t))).flatMap hsA) = rs := by rfl) (hfr : δ.all (fun p => (lk H p.1).isNone) = true := by rfl) (hd : dstB o.dst n = true := by rfl) (hg : o.guard = none := by rfl) (ht : stF o.dst v δ rs t H = some (t', H', k1, k2) := by rfl) : Vd P n ops dr K (o :: os) t H fp := vd_plain hd hg (good_call hc ho hf hdd hv hδ hrs hfr) ht h
theorem vocn {f : FuncId} {args : Array Operand} {ats : Array TypeId} {ys : List AV} {res v : AV} {Hr δ rs : Hp} {d : Nat} {g : Nat} {want : Bool} (hc : Con0 P f ys res Hr) (ho : o.op = .call { callee := .value (.func f), args := args, argTypes := ats }) (hf : frzAs H (args.toList.map (evo (gt t))) = some ys) (h : Vd P n ops dr K os t' H' ((k1, k2) :: fp)) (hdd : o.dst = some d := by rfl) (hv : shA (8 * d) res = v := by rfl) (hδ : shH (8 * d) Hr = δ := by rfl) (hrs : rsOf H ((args.toList.map (evo (gt t))).flatMap hsA) = rs := by rfl) (hfr : δ.all (fun p => (lk H p.1).isNone) = true := by rfl) (hd : dstB o.dst n = true := by rfl) (hg : o.guard = some (g, want) := by rfl) (hw : gBF ops (gt t) want g = some true := by rfl) (ht : stF o.dst v δ rs t H = some (t', H', k1, k2) := by rfl) : Vd P n ops dr K (o :: os) t H fp := vd_on hd hg hw (good_call hc ho hf hdd hv hδ hrs hfr) ht h
end
def strE (s : ByteArray) : List Value := [.string s]
def intE (n : Int) : List Value := [.int .i64 n]
def booE (b : Bool) : List Value := [.bool b]
def mpE (m : Int × Int × Int × Bool) : List Value := [.int .i64 m.1, .int .i64 m.2.1, .int .i64 m.2.2.1, .bool m.2.2.2]
end Go.Vc
end
section
namespace Go.Proofs.YtfcmcedeapgdcaaGreat
open Go Go.RowKit Go.Vc
set_option linter.unusedVariables false
abbrev ti_int : TyI := ⟨.int .i64, 1, 8, [.v (.int .i64 0)]⟩
abbrev ti_bool : TyI := ⟨.bool, 1, 1, [.v (.bool false)]⟩
abbrev ti_string : TyI := ⟨.str, 1, 16, [.v (.string ⟨#[]⟩)]⟩
abbrev ti_uint8 : TyI := ⟨.int .u8, 1, 1, [.v (.int .u8 0)]⟩
abbrev ti_Suint8 : TyI := ⟨.slice 5, 1, 24, [.nil]⟩
abbrev ti_Simpl_Mapping : TyI := ⟨.slice 68, 1, 24, [.nil]⟩
abbrev ti_Sstring : TyI := ⟨.slice 9, 1, 24, [.nil]⟩
abbrev ti_impl_Memory : TyI := ⟨.struct [(0, 1)], 1, 24, [.nil]⟩
abbrev ti_impl_Ring : TyI := ⟨.struct [(0, 1), (1, 1), (2, 1), (3, 1)], 4, 32, [.v (.int .i64 0), .v (.int .i64 0), .v (.int .i64 0), .v (.int .i64 0)]⟩
abbrev ti_impl_CompletionQueue : TyI := ⟨.struct [(0, 1), (1, 1), (2, 1)], 3, 24, [.v (.int .i64 0), .v (.int .i64 0), .v (.int .i64 0)]⟩
abbrev ti_impl_Segment : TyI := ⟨.struct [(0, 1), (1, 1), (2, 1), (3, 1), (4, 1), (5, 1), (6, 1), (7, 1)], 8, 72, [.v (.int .i64 0), .v (.int .i64 0), .v (.int .i64 0), .v (.int .i64 0), .v (.int .i64 0), .v (.int .i64 0), .v (.int .i64 0), .v (.string ⟨#[]⟩)]⟩
abbrev ti_impl_Packet : TyI := ⟨.struct [(0, 1), (1, 1), (2, 1), (3, 1), (4, 1), (5, 1), (6, 1), (7, 1), (8, 8)], 16, 136, [.v (.int .i64 0), .v (.int .i64 0), .v (.int .i64 0), .v (.int .i64 0), .v (.int .i64 0), .v (.int .i64 0), .v (.int .i64 0), .v (.int .i64 0), .v (.int .i64 0), .v (.int .i64 0), .v (.int .i64 0), .v (.int .i64 0), .v (.int .i64 0), .v (.int .i64 0), .v (.int .i64 0), .v (.string ⟨#[]⟩)]⟩
abbrev ti_impl_Super : TyI := ⟨.struct [(0, 16), (16, 1), (17, 1)], 18, 152, [.v (.int .i64 0), .v (.int .i64 0), .v (.int .i64 0), .v (.int .i64 0), .v (.int .i64 0), .v (.int .i64 0), .v (.int .i64 0), .v (.int .i64 0), .v (.int .i64 0), .v (.int .i64 0), .v (.int .i64 0), .v (.int .i64 0), .v (.int .i64 0), .v (.int .i64 0), .v (.int .i64 0), .v (.string ⟨#[]⟩), .v (.int .i64 0), .v (.int .i64 0)]⟩
abbrev ti_impl_RxQueue : TyI := ⟨.struct [(0, 4), (4, 3), (7, 3), (10, 18), (28, 1), (29, 1)], 30, 248, [.v (.int .i64 0), .v (.int .i64 0), .v (.int .i64 0), .v (.int .i64 0), .v (.int .i64 0), .v (.int .i64 0), .v (.int .i64 0), .v (.int .i64 0), .v (.int .i64 0), .v (.int .i64 0), .v (.int .i64 0), .v (.int .i64 0), .v (.int .i64 0), .v (.int .i64 0), .v (.int .i64 0), .v (.int .i64 0), .v (.int .i64 0), .v (.int .i64 0), .v (.int .i64 0), .v (.int .i64 0), .v (.int .i64 0), .v (.int .i64 0), .v (.int .i64 0), .v (.int .i64 0), .v (.int .i64 0), .v (.string ⟨#[]⟩), .v (.int .i64 0), .v (.int .i64 0), .v (.bool false), .v (.int .i64 0)]⟩
abbrev ti_Sint : TyI := ⟨.slice 3, 1, 24, [.nil]⟩
abbrev ti_impl_Pool : TyI := ⟨.struct [(0, 1), (1, 1), (2, 1), (3, 1)], 4, 48, [.v (.int .i64 0), .v (.int .i64 0), .v (.int .i64 0), .nil]⟩
abbrev ti_Simpl_Packet : TyI := ⟨.slice 35, 1, 24, [.nil]⟩
abbrev ti_Simpl_Stream : TyI := ⟨.slice 109, 1, 24, [.nil]⟩
abbrev ti_impl_Completion : TyI := ⟨.struct [(0, 1), (1, 1), (2, 1), (3, 1), (4, 1)], 5, 40, [.v (.int .i64 0), .v (.int .i64 0), .v (.int .i64 0), .v (.int .i64 0), .v (.int .i64 0)]⟩
abbrev ti_impl_Mapping : TyI := ⟨.struct [(0, 1), (1, 1), (2, 1), (3, 1)], 4, 32, [.v (.int .i64 0), .v (.int .i64 0), .v (.int .i64 0), .v (.bool false)]⟩
abbrev ti_Sbool : TyI := ⟨.slice 4, 1, 24, [.nil]⟩
abbrev ti_impl_Flow : TyI := ⟨.struct [(0, 1), (1, 1), (2, 1), (3, 1), (4, 1)], 5, 40, [.v (.int .i64 0), .v (.int .i64 0), .v (.int .i64 0), .v (.int .i64 0), .v (.int .i64 0)]⟩
abbrev ti_impl_Stream : TyI := ⟨.struct [(0, 5), (5, 1), (6, 1), (7, 1)], 8, 72, [.v (.int .i64 0), .v (.int .i64 0), .v (.int .i64 0), .v (.int .i64 0), .v (.int .i64 0), .v (.int .i64 0), .v (.string ⟨#[]⟩), .v (.bool false)]⟩
abbrev ti_spec_l01Cur : TyI := ⟨.struct [(0, 1), (1, 1), (2, 1)], 3, 40, [.nil, .v (.int .i64 0), .v (.int .i64 0)]⟩
abbrev ti_impl_Desc : TyI := ⟨.struct [(0, 1), (1, 1), (2, 1), (3, 1), (4, 1), (5, 1)], 6, 48, [.v (.int .i64 0), .v (.int .i64 0), .v (.int .i64 0), .v (.int .i64 0), .v (.int .i64 0), .v (.int .i64 0)]⟩
abbrev ti_Simpl_run : TyI := ⟨.slice 139, 1, 24, [.nil]⟩
abbrev ti_impl_run : TyI := ⟨.struct [(0, 1), (1, 1)], 2, 16, [.v (.int .i64 0), .v (.int .i64 0)]⟩
abbrev ti_impl_Eth : TyI := ⟨.struct [(0, 1), (1, 1), (2, 1), (3, 1), (4, 1)], 5, 48, [.v (.int .i64 0), .v (.int .i64 0), .v (.int .i64 0), .v (.int .i64 0), .v (.string ⟨#[]⟩)]⟩
abbrev ti_impl_Ip : TyI := ⟨.struct [(0, 1), (1, 1), (2, 1), (3, 1), (4, 1), (5, 1), (6, 1)], 7, 64, [.v (.int .i64 0), .v (.int .i64 0), .v (.int .i64 0), .v (.int .i64 0), .v (.int .i64 0), .v (.int .i64 0), .v (.string ⟨#[]⟩)]⟩
abbrev ti_uint32 : TyI := ⟨.int .u32, 1, 4, [.v (.int .u32 0)]⟩
theorem tyOk_of {P : Program} {T : TypeId} {i : TyI} (z : Value) (h : (P.info? T).map (fun x => (x.zero, x.size, x.bytes)) = some (some z, i.size, i.bytes)) (h1 : z.cells.toList = i.zero.map pvv) (h2 : i.zero.length = i.size) (h3 : i.zero.all pvz = true) (h4 : 0 < i.size) (h5 : i.size ≤ 1000) (hk : Go.Vc.kindOk P T i.k) (h6 : i.k.row = false → i.size = 1) : Go.Vc.tyOk P T i := ⟨⟨z, h, h1, h2, h3⟩, h4, h5, hk, h6⟩
theorem tok_int : tyOk Tryz.prog 3 ti_int := tyOk_of (.int .i64 0) (by kernel_rfl) rfl rfl rfl (by decide) (by decide) Tryz.underlying3 (fun _ => rfl)
theorem tok_bool : tyOk Tryz.prog 4 ti_bool := tyOk_of (.bool false) (by kernel_rfl) rfl rfl rfl (by decide) (by decide) Tryz.underlying4 (fun _ => rfl)
theorem tok_string : tyOk Tryz.prog 9 ti_string := tyOk_of (.string ⟨#[]⟩) (by kernel_rfl) rfl rfl rfl (by decide) (by decide) Tryz.underlying9 (fun _ => rfl)
theorem tok_uint8 : tyOk Tryz.prog 5 ti_uint8 := tyOk_of (.int .u8 0) (by kernel_rfl) rfl rfl rfl (by decide) (by decide) Tryz.underlying5 (fun _ => rfl)
theorem tok_Suint8 : tyOk Tryz.prog 22 ti_Suint8 := tyOk_of (.slice none 0 0) (by kernel_rfl) rfl rfl rfl (by decide) (by decide) Tryz.underlying22 (fun _ => rfl)
theorem tok_Simpl_Mapping : tyOk Tryz.prog 24 ti_Simpl_Mapping := tyOk_of (.slice none 0 0) (by kernel_rfl) rfl rfl rfl (by decide) (by decide) Tryz.underlying24 (fun _ => rfl)
theorem tok_Sstring : tyOk Tryz.prog 25 ti_Sstring := tyOk_of (.slice none 0 0) (by kernel_rfl) rfl rfl rfl (by decide) (by decide) Tryz.underlying25 (fun _ => rfl)
theorem tok_impl_Memory : tyOk Tryz.prog 27 ti_impl_Memory := tyOk_of (.agg #[.slice none 0 0]) (by kernel_rfl) rfl rfl rfl (by decide) (by decide) ⟨by rw [Tryz.underlying27]; kernel_rfl, by kernel_rfl, by kernel_rfl⟩ (fun h => by cases h)
theorem tok_impl_Ring : tyOk Tryz.prog 29 ti_impl_Ring := tyOk_of (.agg #[.int .i64 0, .int .i64 0, .int .i64 0, .int .i64 0]) (by kernel_rfl) rfl rfl rfl (by decide) (by decide) ⟨by rw [Tryz.underlying29]; kernel_rfl, by kernel_rfl, by kernel_rfl⟩ (fun h => by cases h)
theorem tok_impl_CompletionQueue : tyOk Tryz.prog 31 ti_impl_CompletionQueue := tyOk_of (.agg #[.int .i64 0, .int .i64 0, .int .i64 0]) (by kernel_rfl) rfl rfl rfl (by decide) (by decide) ⟨by rw [Tryz.underlying31]; kernel_rfl, by kernel_rfl, by kernel_rfl⟩ (fun h => by cases h)
theorem tok_impl_Segment : tyOk Tryz.prog 33 ti_impl_Segment := tyOk_of (.agg #[.int .i64 0, .int .i64 0, .int .i64 0, .int .i64 0, .int .i64 0, .int .i64 0, .int .i64 0, .string ⟨#[]⟩]) (by kernel_rfl) rfl rfl rfl (by decide) (by decide) ⟨by rw [Tryz.underlying33]; kernel_rfl, by kernel_rfl, by kernel_rfl⟩ (fun h => by cases h)
theorem tok_impl_Packet : tyOk Tryz.prog 35 ti_impl_Packet := tyOk_of (.agg #[.int .i64 0, .int .i64 0, .int .i64 0, .int .i64 0, .int .i64 0, .int .i64 0, .int .i64 0, .int .i64 0, .int .i64 0, .int .i64 0, .int .i64 0, .int .i64 0, .int .i64 0, .int .i64 0, .int .i64 0, .string ⟨#[]⟩]) (by kernel_rfl) rfl rfl rfl (by decide) (by decide) ⟨by rw [Tryz.underlying35]; kernel_rfl, by kernel_rfl, by kernel_rfl⟩ (fun h => by cases h)
theorem tok_impl_Super : tyOk Tryz.prog 37 ti_impl_Super := tyOk_of (.agg #[.int .i64 0, .int .i64 0, .int .i64 0, .int .i64 0, .int .i64 0, .int .i64 0, .int .i64 0, .int .i64 0, .int .i64 0, .int .i64 0, .int .i64 0, .int .i64 0, .int .i64 0, .int .i64 0, .int .i64 0, .string ⟨#[]⟩, .int .i64 0, .int .i64 0]) (by kernel_rfl) rfl rfl rfl (by decide) (by decide) ⟨by rw [Tryz.underlying37]; kernel_rfl, by kernel_rfl, by kernel_rfl⟩ (fun h => by cases h)
theorem tok_impl_RxQueue : tyOk Tryz.prog 39 ti_impl_RxQueue := tyOk_of (.agg #[.int .i64 0, .int .i64 0, .int .i64 0, .int .i64 0, .int .i64 0, .int .i64 0, .int .i64 0, .int .i64 0, .int .i64 0, .int .i64 0, .int .i64 0, .int .i64 0, .int .i64 0, .int .i64 0, .int .i64 0, .int .i64 0, .int .i64 0, .int .i64 0, .int .i64 0, .int .i64 0, .int .i64 0, .int .i64 0, .int .i64 0, .int .i64 0, .int .i64 0, .string ⟨#[]⟩, .int .i64 0, .int .i64 0, .bool false, .int .i64 0]) (by kernel_rfl) rfl rfl rfl (by decide) (by decide) ⟨by rw [Tryz.underlying39]; kernel_rfl, by kernel_rfl, by kernel_rfl⟩ (fun h => by cases h)
theorem tok_Sint : tyOk Tryz.prog 40 ti_Sint := tyOk_of (.slice none 0 0) (by kernel_rfl) rfl rfl rfl (by decide) (by decide) Tryz.underlying40 (fun _ => rfl)
theorem tok_impl_Pool : tyOk Tryz.prog 42 ti_impl_Pool := tyOk_of (.agg #[.int .i64 0, .int .i64 0, .int .i64 0, .slice none 0 0]) (by kernel_rfl) rfl rfl rfl (by decide) (by decide) ⟨by rw [Tryz.underlying42]; kernel_rfl, by kernel_rfl, by kernel_rfl⟩ (fun h => by cases h)
theorem tok_Simpl_Packet : tyOk Tryz.prog 43 ti_Simpl_Packet := tyOk_of (.slice none 0 0) (by kernel_rfl) rfl rfl rfl (by decide) (by decide) Tryz.underlying43 (fun _ => rfl)
theorem tok_Simpl_Stream : tyOk Tryz.prog 44 ti_Simpl_Stream := tyOk_of (.slice none 0 0) (by kernel_rfl) rfl rfl rfl (by decide) (by decide) Tryz.underlying44 (fun _ => rfl)
theorem tok_impl_Completion : tyOk Tryz.prog 52 ti_impl_Completion := tyOk_of (.agg #[.int .i64 0, .int .i64 0, .int .i64 0, .int .i64 0, .int .i64 0]) (by kernel_rfl) rfl rfl rfl (by decide) (by decide) ⟨by rw [Tryz.underlying52]; kernel_rfl, by kernel_rfl, by kernel_rfl⟩ (fun h => by cases h)
theorem tok_impl_Mapping : tyOk Tryz.prog 68 ti_impl_Mapping := tyOk_of (.agg #[.int .i64 0, .int .i64 0, .int .i64 0, .bool false]) (by kernel_rfl) rfl rfl rfl (by decide) (by decide) ⟨by rw [Tryz.underlying68]; kernel_rfl, by kernel_rfl, by kernel_rfl⟩ (fun h => by cases h)
theorem tok_Sbool : tyOk Tryz.prog 103 ti_Sbool := tyOk_of (.slice none 0 0) (by kernel_rfl) rfl rfl rfl (by decide) (by decide) Tryz.underlying103 (fun _ => rfl)
theorem tok_impl_Flow : tyOk Tryz.prog 105 ti_impl_Flow := tyOk_of (.agg #[.int .i64 0, .int .i64 0, .int .i64 0, .int .i64 0, .int .i64 0]) (by kernel_rfl) rfl rfl rfl (by decide) (by decide) ⟨by rw [Tryz.underlying105]; kernel_rfl, by kernel_rfl, by kernel_rfl⟩ (fun h => by cases h)
theorem tok_impl_Stream : tyOk Tryz.prog 109 ti_impl_Stream := tyOk_of (.agg #[.int .i64 0, .int .i64 0, .int .i64 0, .int .i64 0, .int .i64 0, .int .i64 0, .string ⟨#[]⟩, .bool false]) (by kernel_rfl) rfl rfl rfl (by decide) (by decide) ⟨by rw [Tryz.underlying109]; kernel_rfl, by kernel_rfl, by kernel_rfl⟩ (fun h => by cases h)
theorem tok_spec_l01Cur : tyOk Tryz.prog 112 ti_spec_l01Cur := tyOk_of (.agg #[.slice none 0 0, .int .i64 0, .int .i64 0]) (by kernel_rfl) rfl rfl rfl (by decide) (by decide) ⟨by rw [Tryz.underlying112]; kernel_rfl, by kernel_rfl, by kernel_rfl⟩ (fun h => by cases h)
theorem tok_impl_Desc : tyOk Tryz.prog 119 ti_impl_Desc := tyOk_of (.agg #[.int .i64 0, .int .i64 0, .int .i64 0, .int .i64 0, .int .i64 0, .int .i64 0]) (by kernel_rfl) rfl rfl rfl (by decide) (by decide) ⟨by rw [Tryz.underlying119]; kernel_rfl, by kernel_rfl, by kernel_rfl⟩ (fun h => by cases h)
theorem tok_Simpl_run : tyOk Tryz.prog 135 ti_Simpl_run := tyOk_of (.slice none 0 0) (by kernel_rfl) rfl rfl rfl (by decide) (by decide) Tryz.underlying135 (fun _ => rfl)
theorem tok_impl_run : tyOk Tryz.prog 139 ti_impl_run := tyOk_of (.agg #[.int .i64 0, .int .i64 0]) (by kernel_rfl) rfl rfl rfl (by decide) (by decide) ⟨by rw [Tryz.underlying139]; kernel_rfl, by kernel_rfl, by kernel_rfl⟩ (fun h => by cases h)
theorem tok_impl_Eth : tyOk Tryz.prog 145 ti_impl_Eth := tyOk_of (.agg #[.int .i64 0, .int .i64 0, .int .i64 0, .int .i64 0, .string ⟨#[]⟩]) (by kernel_rfl) rfl rfl rfl (by decide) (by decide) ⟨by rw [Tryz.underlying145]; kernel_rfl, by kernel_rfl, by kernel_rfl⟩ (fun h => by cases h)
theorem tok_impl_Ip : tyOk Tryz.prog 149 ti_impl_Ip := tyOk_of (.agg #[.int .i64 0, .int .i64 0, .int .i64 0, .int .i64 0, .int .i64 0, .int .i64 0, .string ⟨#[]⟩]) (by kernel_rfl) rfl rfl rfl (by decide) (by decide) ⟨by rw [Tryz.underlying149]; kernel_rfl, by kernel_rfl, by kernel_rfl⟩ (fun h => by cases h)
theorem tok_uint32 : tyOk Tryz.prog 190 ti_uint32 := tyOk_of (.int .u32 0) (by kernel_rfl) rfl rfl rfl (by decide) (by decide) Tryz.underlying190 (fun _ => rfl)
def tyTab : List (TypeId × TyI) := [(3, ⟨.int .i64, 1, 8, [.v (.int .i64 0)]⟩), (4, ⟨.bool, 1, 1, [.v (.bool false)]⟩), (9, ⟨.str, 1, 16, [.v (.string ⟨#[]⟩)]⟩), (5, ⟨.int .u8, 1, 1, [.v (.int .u8 0)]⟩), (22, ⟨.slice 5, 1, 24, [.nil]⟩), (24, ⟨.slice 68, 1, 24, [.nil]⟩), (25, ⟨.slice 9, 1, 24, [.nil]⟩), (27, ⟨.struct [(0, 1)], 1, 24, [.nil]⟩), (29, ⟨.struct [(0, 1), (1, 1), (2, 1), (3, 1)], 4, 32, [.v (.int .i64 0), .v (.int .i64 0), .v (.int .i64 0), .v (.int .i64 0)]⟩), (31, ⟨.struct [(0, 1), (1, 1), (2, 1)], 3, 24, [.v (.int .i64 0), .v (.int .i64 0), .v (.int .i64 0)]⟩), (33, ⟨.struct [(0, 1), (1, 1), (2, 1), (3, 1), (4, 1), (5, 1), (6, 1), (7, 1)], 8, 72, [.v (.int .i64 0), .v (.int .i64 0), .v (.int .i64 0), .v (.int .i64 0), .v (.int .i64 0), .v (.int .i64 0), .v (.int .i64 0), .v (.string ⟨#[]⟩)]⟩), (35, ⟨.struct [(0, 1), (1, 1), (2, 1), (3, 1), (4, 1), (5, 1), (6, 1), (7, 1), (8, 8)], 16, 136, [.v (.int .i64 0), .v (.int .i64 0), .v (.int .i64 0), .v (.int .i64 0), .v (.int .i64 0), .v (.int .i64 0), .v (.int .i64 0), .v (.int .i64 0), .v (.int .i64 0), .v (.int .i64 0), .v (.int .i64 0), .v (.int .i64 0), .v (.int .i64 0), .v (.int .i64 0), .v (.int .i64 0), .v (.string ⟨#[]⟩)]⟩), (37, ⟨.struct [(0, 16), (16, 1), (17, 1)], 18, 152, [.v (.int .i64 0), .v (.int .i64 0), .v (.int .i64 0), .v (.int .i64 0), .v (.int .i64 0), .v (.int .i64 0), .v (.int .i64 0), .v (.int .i64 0), .v (.int .i64 0), .v (.int .i64 0), .v (.int .i64 0), .v (.int .i64 0), .v (.int .i64 0), .v (.int .i64 0), .v (.int .i64 0), .v (.string ⟨#[]⟩), .v (.int .i64 0), .v (.int .i64 0)]⟩), (39, ⟨.struct [(0, 4), (4, 3), (7, 3), (10, 18), (28, 1), (29, 1)], 30, 248, [.v (.int .i64 0), .v (.int .i64 0), .v (.int .i64 0), .v (.int .i64 0), .v (.int .i64 0), .v (.int .i64 0), .v (.int .i64 0), .v (.int .i64 0), .v (.int .i64 0), .v (.int .i64 0), .v (.int .i64 0), .v (.int .i64 0), .v (.int .i64 0), .v (.int .i64 0), .v (.int .i64 0), .v (.int .i64 0), .v (.int .i64 0), .v (.int .i64 0), .v (.int .i64 0), .v (.int .i64 0), .v (.int .i64 0), .v (.int .i64 0), .v (.int .i64 0), .v (.int .i64 0), .v (.int .i64 0), .v (.string ⟨#[]⟩), .v (.int .i64 0), .v (.int .i64 0), .v (.bool false), .v (.int .i64 0)]⟩), (40, ⟨.slice 3, 1, 24, [.nil]⟩), (42, ⟨.struct [(0, 1), (1, 1), (2, 1), (3, 1)], 4, 48, [.v (.int .i64 0), .v (.int .i64 0), .v (.int .i64 0), .nil]⟩), (43, ⟨.slice 35, 1, 24, [.nil]⟩), (44, ⟨.slice 109, 1, 24, [.nil]⟩), (52, ⟨.struct [(0, 1), (1, 1), (2, 1), (3, 1), (4, 1)], 5, 40, [.v (.int .i64 0), .v (.int .i64 0), .v (.int .i64 0), .v (.int .i64 0), .v (.int .i64 0)]⟩), (68, ⟨.struct [(0, 1), (1, 1), (2, 1), (3, 1)], 4, 32, [.v (.int .i64 0), .v (.int .i64 0), .v (.int .i64 0), .v (.bool false)]⟩), (103, ⟨.slice 4, 1, 24, [.nil]⟩), (105, ⟨.struct [(0, 1), (1, 1), (2, 1), (3, 1), (4, 1)], 5, 40, [.v (.int .i64 0), .v (.int .i64 0), .v (.int .i64 0), .v (.int .i64 0), .v (.int .i64 0)]⟩), (109, ⟨.struct [(0, 5), (5, 1), (6, 1), (7, 1)], 8, 72, [.v (.int .i64 0), .v (.int .i64 0), .v (.int .i64 0), .v (.int .i64 0), .v (.int .i64 0), .v (.int .i64 0), .v (.string ⟨#[]⟩), .v (.bool false)]⟩), (112, ⟨.struct [(0, 1), (1, 1), (2, 1)], 3, 40, [.nil, .v (.int .i64 0), .v (.int .i64 0)]⟩), (119, ⟨.struct [(0, 1), (1, 1), (2, 1), (3, 1), (4, 1), (5, 1)], 6, 48, [.v (.int .i64 0), .v (.int .i64 0), .v (.int .i64 0), .v (.int .i64 0), .v (.int .i64 0), .v (.int .i64 0)]⟩), (135, ⟨.slice 139, 1, 24, [.nil]⟩), (139, ⟨.struct [(0, 1), (1, 1)], 2, 16, [.v (.int .i64 0), .v (.int .i64 0)]⟩), (145, ⟨.struct [(0, 1), (1, 1), (2, 1), (3, 1), (4, 1)], 5, 48, [.v (.int .i64 0), .v (.int .i64 0), .v (.int .i64 0), .v (.int .i64 0), .v (.string ⟨#[]⟩)]⟩), (149, ⟨.struct [(0, 1), (1, 1), (2, 1), (3, 1), (4, 1), (5, 1), (6, 1)], 7, 64, [.v (.int .i64 0), .v (.int .i64 0), .v (.int .i64 0), .v (.int .i64 0), .v (.int .i64 0), .v (.int .i64 0), .v (.string ⟨#[]⟩)]⟩), (190, ⟨.int .u32, 1, 4, [.v (.int .u32 0)]⟩)]
def lkT : List (TypeId × TyI) → TypeId → Option TyI
  | [], _ => none
  | (k, i) :: l, n => bif Nat.beq k n then some i else lkT l n
theorem lkT_mem : ∀ {l : List (TypeId × TyI)} {T : TypeId} {i : TyI}, lkT l T = some i → (T, i) ∈ l
  | (k, j) :: l, T, i, h => by
    simp only [lkT] at h
    cases e : Nat.beq k T with
    | true =>
      rw [e] at h
      simp only [cond_true, Option.some.injEq] at h
      subst h
      have := Nat.eq_of_beq_eq_true e
      subst this
      exact List.mem_cons_self ..
    | false =>
      rw [e] at h
      exact List.mem_cons_of_mem _ (lkT_mem h)
theorem tyTab_ok : ∀ x ∈ tyTab, tyOk Tryz.prog x.1 x.2 := by
  intro x hx
  unfold tyTab at hx
  simp only [List.mem_cons, List.not_mem_nil, or_false] at hx
  rcases hx with rfl | rfl | rfl | rfl | rfl | rfl | rfl | rfl | rfl | rfl | rfl | rfl | rfl | rfl | rfl | rfl | rfl | rfl | rfl | rfl | rfl | rfl | rfl | rfl | rfl | rfl | rfl | rfl | rfl | rfl
  · exact tok_int
  · exact tok_bool
  · exact tok_string
  · exact tok_uint8
  · exact tok_Suint8
  · exact tok_Simpl_Mapping
  · exact tok_Sstring
  · exact tok_impl_Memory
  · exact tok_impl_Ring
  · exact tok_impl_CompletionQueue
  · exact tok_impl_Segment
  · exact tok_impl_Packet
  · exact tok_impl_Super
  · exact tok_impl_RxQueue
  · exact tok_Sint
  · exact tok_impl_Pool
  · exact tok_Simpl_Packet
  · exact tok_Simpl_Stream
  · exact tok_impl_Completion
  · exact tok_impl_Mapping
  · exact tok_Sbool
  · exact tok_impl_Flow
  · exact tok_impl_Stream
  · exact tok_spec_l01Cur
  · exact tok_impl_Desc
  · exact tok_Simpl_run
  · exact tok_impl_run
  · exact tok_impl_Eth
  · exact tok_impl_Ip
  · exact tok_uint32
instance tyEnv : TyEnv Tryz.prog where
  ti := lkT tyTab
  ok := fun T i h => tyTab_ok (T, i) (lkT_mem h)
  mix := by kernel_rfl
end Go.Proofs.YtfcmcedeapgdcaaGreat
end
section
namespace Go.Proofs.YtfcmcedeapgdcaaGreat
open Go Go.RowKit
set_option linter.unusedVariables false
set_option linter.unusedSimpArgs false
set_option linter.unnecessarySimpa false
set_option linter.unusedSectionVars false
def completionOkB (a b c d e : Int) : Bool := inB a 0 65535 && inB b 0 65535 && inB c 0 65535 && inB d 0 65535 && inB e 0 4294967295
def sizeB (n : Int) : Bool := n == 2 || n == 4 || n == 8 || n == 16
def queueOkB (b s c : Int) : Bool := inB b 0 130944 && sizeB s && inB c 0 (2 * s - 1)
theorem i64_bits_or (a b : Nat) (ha : a < 4294967296) (hb : b < 4294967296) : bits .or .i64 (a : Int) (b : Int) = ((a ||| b : Nat) : Int) := by
  have hx : a ||| b < 2 ^ 32 := Nat.or_lt_two_pow (by omega) (by omega)
  have h1 : (BitVec.ofInt 64 (a : Int)).toNat = a := by
    rw [BitVec.ofInt_natCast, BitVec.toNat_ofNat]; exact Nat.mod_eq_of_lt (by omega)
  have h2 : (BitVec.ofInt 64 (b : Int)).toNat = b := by
    rw [BitVec.ofInt_natCast, BitVec.toNat_ofNat]; exact Nat.mod_eq_of_lt (by omega)
  show IntKind.i64.wrap ((BitVec.ofInt 64 (a : Int) ||| BitVec.ofInt 64 (b : Int)).toNat : Int) = _
  rw [BitVec.toNat_or, h1, h2, IntKind.wrap_i64]
  omega
theorem or_add (a b i : Nat) (h : b < 2 ^ i) : a * 2 ^ i ||| b = a * 2 ^ i + b := by
  rw [Nat.mul_comm, Nat.two_pow_add_eq_or_of_lt h]
theorem i64_or_add (a b i : Nat) (h : b < 2 ^ i) (ha : a * 2 ^ i < 4294967296) (hb : b < 4294967296) : bits .or .i64 ((a * 2 ^ i : Nat) : Int) (b : Int) = ((a * 2 ^ i + b : Nat) : Int) := by
  rw [i64_bits_or _ _ ha hb, or_add _ _ _ h]
@[go_sem] theorem wrap64_u8 (b : UInt8) : wrap64 (b.toNat : Int) = b.toNat := by have := b.toNat_lt; unfold wrap64; omega
theorem wrap64_id {n : Int} (h1 : -9223372036854775808 ≤ n) (h2 : n ≤ 9223372036854775807) : wrap64 n = n := by unfold wrap64; omega
def bAt (s : ByteArray) (i : Nat) : Nat := if h : i < s.size then s[i].toNat else 0
theorem bAt_lt (s : ByteArray) (i : Nat) : bAt s i < 256 := by
  unfold bAt
  split
  · exact s[i].toNat_lt
  · omega
def word16 (v : Int) : ByteArray := if inB v 0 65535 then strOfNums [v / 256, v % 256] else ⟨#[]⟩
def word32 (v : Int) : ByteArray := if inB v 0 4294967295 then strOfNums [v / 16777216, v / 65536 % 256, v / 256 % 256, v % 256] else ⟨#[]⟩
theorem word16_size {v : Int} (h : inB v 0 65535 = true) : (word16 v).size = 2 := by simp [word16, h, strOfNums_size]
theorem word32_size {v : Int} (h : inB v 0 4294967295 = true) : (word32 v).size = 4 := by simp [word32, h, strOfNums_size]
theorem word16_le (v : Int) : (word16 v).size ≤ 2 := by
  unfold word16
  split
  · exact Nat.le_of_eq (strOfNums_size _)
  · exact Nat.zero_le _
theorem word32_le (v : Int) : (word32 v).size ≤ 4 := by
  unfold word32
  split
  · exact Nat.le_of_eq (strOfNums_size _)
  · exact Nat.zero_le _
def get16 (s : ByteArray) (i : Int) : Int := if 0 ≤ i ∧ i + 2 ≤ s.size then ((bAt s i.toNat * 256 + bAt s (i.toNat + 1) : Nat) : Int) else -1
def get32 (s : ByteArray) (i : Int) : Int := if 0 ≤ i ∧ i + 4 ≤ s.size then ((bAt s i.toNat * 16777216 + bAt s (i.toNat + 1) * 65536 + bAt s (i.toNat + 2) * 256 + bAt s (i.toNat + 3) : Nat) : Int) else -1
theorem get16_bd (s : ByteArray) (i : Int) : -1 ≤ get16 s i ∧ get16 s i ≤ 65535 := by
  unfold get16
  have h1 := bAt_lt s i.toNat
  have h2 := bAt_lt s (i.toNat + 1)
  split <;> omega
theorem get32_bd (s : ByteArray) (i : Int) : -1 ≤ get32 s i ∧ get32 s i ≤ 4294967295 := by
  unfold get32
  have h1 := bAt_lt s i.toNat
  have h2 := bAt_lt s (i.toNat + 1)
  have h3 := bAt_lt s (i.toNat + 2)
  have h4 := bAt_lt s (i.toNat + 3)
  split <;> omega
theorem or16 (a b : Nat) (ha : a < 256) (hb : b < 256) : bits .or .i64 (wrap64 ((a : Int) * 256)) (b : Int) = ((a * 256 + b : Nat) : Int) := by
  rw [wrap64_id (by omega) (by omega), show (a : Int) * 256 = ((a * 256 : Nat) : Int) from by omega]
  exact i64_or_add a b 8 (by omega) (by omega) (by omega)
theorem or32 (a b c d : Nat) (ha : a < 256) (hb : b < 256) (hc : c < 256) (hd : d < 256) :
    bits .or .i64 (bits .or .i64 (bits .or .i64 (wrap64 ((a : Int) * 16777216)) (wrap64 ((b : Int) * 65536))) (wrap64 ((c : Int) * 256))) (d : Int) = ((a * 16777216 + b * 65536 + c * 256 + d : Nat) : Int) := by
  rw [wrap64_id (n := (a : Int) * 16777216) (by omega) (by omega), wrap64_id (n := (b : Int) * 65536) (by omega) (by omega), wrap64_id (n := (c : Int) * 256) (by omega) (by omega)]
  rw [show (a : Int) * 16777216 = ((a * 2 ^ 24 : Nat) : Int) from by omega, show (b : Int) * 65536 = ((b * 65536 : Nat) : Int) from by omega, show (c : Int) * 256 = ((c * 256 : Nat) : Int) from by omega]
  rw [i64_or_add a (b * 65536) 24 (by omega) (by omega) (by omega)]
  rw [show a * 2 ^ 24 + b * 65536 = (a * 256 + b) * 2 ^ 16 from by omega, i64_or_add (a * 256 + b) (c * 256) 16 (by omega) (by omega) (by omega)]
  rw [show (a * 256 + b) * 2 ^ 16 + c * 256 = (a * 65536 + b * 256 + c) * 2 ^ 8 from by omega, i64_or_add _ d 8 (by omega) (by omega) (by omega)]
def withinB (s : ByteArray) (i n : Int) : Bool := decide (0 ≤ i) && decide (i ≤ s.size) && decide (n ≤ s.size - i)
def encC (a b c d h p : Int) : ByteArray := word16 a ++ word16 b ++ word16 c ++ word16 d ++ word32 h ++ word32 p
theorem cok_in {a b c d h : Int} (k : completionOkB a b c d h = true) : inB a 0 65535 = true ∧ inB b 0 65535 = true ∧ inB c 0 65535 = true ∧ inB d 0 65535 = true ∧ inB h 0 4294967295 = true := by
  simp only [completionOkB, Bool.and_eq_true] at k
  obtain ⟨⟨⟨⟨h1, h2⟩, h3⟩, h4⟩, h5⟩ := k
  exact ⟨h1, h2, h3, h4, h5⟩
theorem and_mask_i64 (x : Int) (i : Nat) (hi : i ≤ 62) : bits .and .i64 x (2 ^ i - 1) = x % 2 ^ i := by
  have hp : (2 : Nat) ^ i ≤ 2 ^ 62 := Nat.pow_le_pow_right (by decide) hi
  have hpos : 0 < 2 ^ i := Nat.two_pow_pos i
  have hc : ((2 : Int) ^ i - 1) = ((2 ^ i - 1 : Nat) : Int) := by rw [Int.natCast_sub hpos]; simp
  rw [hc]
  show IntKind.i64.wrap (((BitVec.ofInt 64 x &&& BitVec.ofInt 64 ((2 ^ i - 1 : Nat) : Int)).toNat : Nat) : Int) = x % 2 ^ i
  rw [BitVec.ofInt_natCast, BitVec.toNat_and, BitVec.toNat_ofNat, BitVec.toNat_ofInt, Nat.mod_eq_of_lt (a := 2 ^ i - 1) (by omega), Nat.and_two_pow_sub_one_eq_mod]
  have hlt : (x % (2 ^ 64 : Nat)).toNat % 2 ^ i < 2 ^ i := Nat.mod_lt _ hpos
  rw [IntKind.wrap_i64, Int.emod_eq_of_lt (by omega) (by omega)]
  have h0 : 0 ≤ x % (2 ^ 64 : Nat) := Int.emod_nonneg _ (by decide)
  have e : (((x % (2 ^ 64 : Nat)).toNat % 2 ^ i : Nat) : Int) = x % 2 ^ i := by
    rw [Int.natCast_emod, Int.toNat_of_nonneg h0]
    have hd : ((2 ^ i : Nat) : Int) ∣ ((2 ^ 64 : Nat) : Int) := Int.natCast_dvd_natCast.2 (Nat.pow_dvd_pow 2 (by omega))
    rw [Int.emod_emod_of_dvd _ hd]; simp
  omega
def mapGood (l : List Mp) (k : Nat) : Prop := ∀ h : k < l.length, MapFine l[k] ∧ ∀ j (g : j < k), ¬ ((l[j]'(by omega)).1 = l[k].1 ∧ (l[j]'(by omega)).2.1 = l[k].2.1)
theorem mapsOk_bad {l : List Mp} {k : Nat} (hk : k < l.length) (h : ¬ mapGood l k) : mapsOk l = false := mapsOk_not fun hh => h fun hk => hh.2 k hk
theorem mapsOk_all {l : List Mp} (h : ∀ k, k < l.length → mapGood l k) : mapsOk l = decide ((l.length : Int) ≤ 96) := by
  by_cases h9 : l.length ≤ 96
  · rw [mapsOk_iff.2 ⟨h9, fun i hi => h i hi hi⟩, decide_eq_true (by omega)]
  · rw [mapsOk_not (fun hh => h9 hh.1), decide_eq_false (by omega)]
theorem mapsOk_long {l : List Mp} (h : 96 < l.length) : mapsOk l = false := mapsOk_not fun hh => by have := hh.1; omega
theorem memOk_bad {ps : Pg} {k : Nat} (hk : k < ps.length) (h : ¬ ps[k].size = 128) : memOk ps = false := memOk_not fun hh => h (hh.2 k hk)
theorem memOk_all {ps : Pg} (h : ∀ k (g : k < ps.length), ps[k].size = 128) : memOk ps = decide ((ps.length : Int) ≤ 64) := by
  by_cases h9 : ps.length ≤ 64
  · rw [memOk_iff.2 ⟨h9, h⟩, decide_eq_true (by omega)]
  · rw [memOk_not (fun hh => h9 hh.1), decide_eq_false (by omega)]
def placeF (l : List Mp) (d a : Int) (wt : Bool) : Int := if mpPage l d (a / 128) wt < 0 then -1 else mpPage l d (a / 128) wt * 128 + a % 128
theorem ba_empty (s : ByteArray) : (⟨#[]⟩ : ByteArray) ++ s = s := ByteArray.empty_append
theorem ba_full (s : ByteArray) : s.extract s.size s.size = ⟨#[]⟩ := by
  apply ByteArray.ext
  rw [ByteArray.data_extract]
  exact Array.eq_empty_of_size_eq_zero (by rw [Array.size_extract]; omega)
theorem ba_all (s : ByteArray) : s.extract 0 s.size = s := ByteArray.extract_zero_size
def putBF (s : ByteArray) (i : Int) (p : ByteArray) : ByteArray := if withinB s i p.size then putB s i.toNat p else s
theorem putBF_in {s p : ByteArray} {i : Nat} (h : i + p.size ≤ s.size) : putBF s i p = putB s i p := by
  unfold putBF
  rw [if_pos (by simp [withinB]; omega)]; rfl
theorem putBF_size (s : ByteArray) (i : Int) (p : ByteArray) : (putBF s i p).size = s.size := by
  unfold putBF
  split
  · rename_i h
    simp only [withinB, Bool.and_eq_true, decide_eq_true_eq] at h
    exact putB_size (by omega)
  · rfl
theorem runs_not {l : List Mp} {ps : Pg} {d a n : Int} {wt : Bool} (h : runsOk l ps n = false) : runs l ps d a n wt = none := by unfold runs; rw [h]; rfl
theorem runs_is {l : List Mp} {ps : Pg} {d a : Int} {n : Nat} {wt : Bool} (h : runsOk l ps n = true) : runs l ps d a n wt = parts l ps.length d wt a n := by unfold runs; rw [h]; rfl
theorem map_nil_append {α : Type} (o : Option (List α)) : o.map ([] ++ ·) = o := by cases o <;> rfl
theorem map_step {α : Type} (o : Option (List α)) (x : List α) (y : α) : (o.map (y :: ·)).map (x ++ ·) = o.map ((x ++ [y]) ++ ·) := by cases o <;> simp
def dmaRF (l : List Mp) (ps : Pg) (d a n : Int) : ByteArray × Bool := match dmaR l ps d a n with
  | some s => (s, true)
  | none => (⟨#[]⟩, false)
theorem readAll_le (ps : Pg) : ∀ (rs : List (Int × Int)) (o : ByteArray), o.size ≤ (readAll ps rs o).size
  | [], o => Nat.le_refl _
  | r :: rs, o => Nat.le_trans (by rw [ByteArray.size_append]; omega) (readAll_le ps rs (o ++ readSeg ps r))
theorem dmaRF_no {l : List Mp} {ps : Pg} {d a n : Int} (h : runs l ps d a n false = none) : dmaRF l ps d a n = (⟨#[]⟩, false) := by unfold dmaRF dmaR; rw [h]; rfl
theorem dmaRF_yes {l : List Mp} {ps : Pg} {d a n : Int} {rs : List (Int × Int)} (h : runs l ps d a n false = some rs) : dmaRF l ps d a n = (readAll ps rs ⟨#[]⟩, true) := by unfold dmaRF dmaR; rw [h]; rfl
theorem seg_i64 {np : Nat} {r : Int × Int} (hn : np ≤ 64) (h : Seg np r) : i64ok r.1 ∧ i64ok r.2 ∧ 0 ≤ r.1 ∧ 1 ≤ r.2 ∧ r.2 ≤ 128 := by
  obtain ⟨h1, h2, h3, h4⟩ := h
  unfold i64ok
  omega
def dmaWF (l : List Mp) (ps : Pg) (d a : Int) (s : ByteArray) (wt : Bool) : Pg × Bool := match dmaW l ps d a s wt with
  | some qs => (qs, true)
  | none => (ps, false)
theorem dmaWF_no {l : List Mp} {ps : Pg} {d a : Int} {s : ByteArray} {wt : Bool} (h : runs l ps d a s.size wt = none) : dmaWF l ps d a s wt = (ps, false) := by unfold dmaWF dmaW; rw [h]; rfl
theorem dmaWF_yes {l : List Mp} {ps : Pg} {d a : Int} {s : ByteArray} {wt : Bool} {rs : List (Int × Int)} (h : runs l ps d a s.size wt = some rs) : dmaWF l ps d a s wt = (writeAll ps rs s, true) := by unfold dmaWF dmaW; rw [h]; rfl
def ringOkB (b s h t : Int) : Bool := inB b 0 130944 && sizeB s && inB h 0 (2 * s - 1) && inB t 0 (2 * s - 1) && decide ((t - h) % (2 * s) ≤ s)
def segOkB (kind sp dp seq ack fl win : Int) (n : Nat) : Bool := inB sp 0 65535 && inB dp 0 65535 && !decide (320 < n) &&
  ((kind == 6 && (inB seq 0 4294967295 && (inB ack 0 4294967295 && (inB fl 0 31 && inB win 0 65535)))) || (!(kind == 6) && (kind == 17 && (seq == 0 && (ack == 0 && (fl == 0 && win == 0))))))
def streamB (fl : Int) : Bool := fl == 16 || fl == 17 || fl == 24 || fl == 25
def superOkB (dm sm vl tos id ttl si di kind sp dp seq ack fl win : Int) (n : Nat) : Bool := inB dm 0 281474976710655 && (inB sm 0 281474976710655 && (inB vl (-1) 4095 && (inB tos 0 255 && (inB ttl 0 255 && (inB id 0 65535 && (inB si 0 4294967295 && (inB di 0 4294967295 && (segOkB kind sp dp seq ack fl win n &&
  (!decide (128 < n) || (kind == 6 && streamB fl))))))))))
theorem flag_facts : ∀ n : Fin 32, bits .and .i64 (n.val : Int) 16 = (if 16 ≤ n.val then 16 else 0) ∧ (bits .andNot .i64 (n.val : Int) 25 == 0) = decide (n.val = 0 ∨ n.val = 1 ∨ n.val = 8 ∨ n.val = 9 ∨ n.val = 16 ∨ n.val = 17 ∨ n.val = 24 ∨ n.val = 25) ∧ (bits .andNot .i64 (n.val : Int) 9 == 16) = decide (n.val = 16 ∨ n.val = 17 ∨ n.val = 24 ∨ n.val = 25) := by decide +kernel
theorem sizeB_cases {s : Int} (h : sizeB s = true) : s = 2 ∨ s = 4 ∨ s = 8 ∨ s = 16 := by simpa [sizeB, or_assoc] using h
theorem segOk_fl {kind sp dp seq ack fl win : Int} {n : Nat} (h : segOkB kind sp dp seq ack fl win n = true) : 0 ≤ fl ∧ fl ≤ 31 := by
  simp only [segOkB, Bool.and_eq_true, Bool.or_eq_true, inB_iff, beq_iff_eq] at h
  omega
theorem andnot9 {fl : Int} (h0 : 0 ≤ fl) (h1 : fl ≤ 31) {q : Bool} (h : streamB fl = q) : (bits BinOp.andNot IntKind.i64 fl 9 == 16) = q := by
  obtain ⟨n, rfl⟩ := Int.eq_ofNat_of_zero_le h0
  have hf := (flag_facts ⟨n, by omega⟩).2.2
  simp only at hf
  rw [hf, ← h, Bool.eq_iff_iff]; simp [streamB]; omega
theorem ringOk_facts {b s h t : Int} (q : ringOkB b s h t = true) : sizeB s = true ∧ 0 ≤ b ∧ b ≤ 130944 ∧ 2 ≤ s ∧ s ≤ 16 ∧ 0 ≤ h ∧ h ≤ 2 * s - 1 ∧ 0 ≤ t ∧ t ≤ 2 * s - 1 ∧ (t - h) % (2 * s) ≤ s ∧ 0 ≤ (t - h) % (2 * s) := by
  simp only [ringOkB, Bool.and_eq_true, inB_iff, decide_eq_true_eq] at q
  obtain ⟨⟨⟨⟨⟨h1, h2⟩, h3⟩, h4, h5⟩, h6, h7⟩, h8⟩ := q
  have h9 := sizeB_cases h3
  exact ⟨h3, h1, h2, by omega, by omega, h4, h5, h6, h7, h8, Int.emod_nonneg _ (by omega)⟩
def usedF (s h t : Int) : Int := (t - h) % (2 * s)
def freeF (b s h t : Int) : Int := if ringOkB b s h t then s - (t - h) % (2 * s) else 0
def rslot (b s k : Int) : Int := b + k % s * 16
def rnext (s k : Int) : Int := (k + 1) % (2 * s)
theorem freeF_ok {b s h t : Int} (q : ¬ freeF b s h t = 0) : ringOkB b s h t = true := by
  unfold freeF at q
  split at q
  · assumption
  · exact (q rfl).elim
theorem rslot_bd {b s h t : Int} (q : ringOkB b s h t = true) (k : Int) : 0 ≤ rslot b s k ∧ rslot b s k ≤ 131184 := by
  obtain ⟨_, h1, h2, h3, h4, _⟩ := ringOk_facts q
  unfold rslot
  have := Int.emod_nonneg k (show s ≠ 0 by omega)
  have := Int.emod_lt_of_pos k (show 0 < s by omega)
  omega
def rputF (l : List Mp) (ps : Pg) (d b s h t : Int) (e : ByteArray) : Pg × Int × Bool :=
  if freeF b s h t = 0 then (ps, t, false) else if e.size = 16 then match dmaWF l ps d (rslot b s t) e true with
    | (qs, true) => (qs, rnext s t, true)
    | (_, false) => (ps, t, false)
  else (ps, t, false)
def rtakeF (l : List Mp) (ps : Pg) (d b s h t : Int) : ByteArray × Int × Bool :=
  if ringOkB b s h t then if usedF s h t = 0 then (⟨#[]⟩, h, false) else match dmaRF l ps d (rslot b s h) 16 with
    | (x, true) => (x, rnext s h, true)
    | (_, false) => (⟨#[]⟩, h, false)
  else (⟨#[]⟩, h, false)
def poolB (b z c : Int) (fr : List Int) : Bool := inB b 0 130944 && inB z 1 512 && inB c 0 16 && fr.all (fun k => inB k 0 (c - 1)) && decide (fr.Pairwise (· ≠ ·))
def seenF (n : Nat) (xs : List Int) : List Bool := (List.range n).map fun i : Nat => xs.contains (i : Int)
theorem seenF_length (n : Nat) (xs : List Int) : (seenF n xs).length = n := by simp [seenF]
theorem seenF_nil (n : Nat) : seenF n [] = List.replicate n false := by
  apply List.ext_getElem <;> simp [seenF]
theorem seenF_get {n i : Nat} (xs : List Int) (h : i < n) : (seenF n xs)[i]? = some (xs.contains (i : Int)) := by simp [seenF, h]
theorem seenF_set {n i : Nat} (xs : List Int) (h : i < n) : (seenF n xs).set i true = seenF n (xs ++ [(i : Int)]) := by
  apply List.ext_getElem
  · simp [seenF]
  · intro j h1 h2
    simp only [seenF, List.getElem_set, List.getElem_map, List.getElem_range]
    by_cases e : i = j
    · subst e; simp
    · rw [if_neg e]
      simp only [List.contains_append, List.contains_cons, List.contains_nil, Bool.or_false]
      have : ((j : Int) == (i : Int)) = false := by simp; omega
      rw [this, Bool.or_false]
def poolG (n : Nat) (fr : List Int) (k : Nat) : Prop := (∀ x ∈ fr.take k, inB x 0 ((n : Int) - 1) = true) ∧ (fr.take k).Pairwise (· ≠ ·)
theorem poolG_zero (n : Nat) (fr : List Int) : poolG n fr 0 := by simp [poolG]
theorem poolG_step {n : Nat} {fr : List Int} {k : Nat} {x : Int} (hk : k < fr.length) (hx : fr[k] = x) (g : poolG n fr k) (h1 : inB x 0 ((n : Int) - 1) = true) (h2 : (fr.take k).contains x = false) : poolG n fr (k + 1) := by
  unfold poolG
  rw [List.take_add_one, List.getElem?_eq_getElem hk, hx]
  refine ⟨fun y hy => ?_, ?_⟩
  · rcases List.mem_append.1 hy with hy | hy
    · exact g.1 y hy
    · rw [List.mem_singleton.1 hy]; exact h1
  · refine List.pairwise_append.2 ⟨g.2, by simp, fun a ha d hd => ?_⟩
    rw [List.mem_singleton.1 hd]
    rintro rfl
    have := List.contains_iff_mem.2 ha
    rw [h2] at this; cases this
theorem poolB_all {b z : Int} {n : Nat} {fr : List Int} (h0 : inB b 0 130944 = true) (h1 : inB z 1 512 = true) (h2 : inB (n : Int) 0 16 = true) (g : poolG n fr fr.length) : poolB b z n fr = true := by
  unfold poolG at g
  rw [List.take_length] at g
  simp only [poolB, h0, h1, h2, Bool.true_and, Bool.and_eq_true, List.all_eq_true, decide_eq_true_eq]
  exact ⟨g.1, g.2⟩
theorem poolB_range {b z c : Int} {fr : List Int} {k : Nat} {x : Int} (hk : k < fr.length) (hx : fr[k] = x) (h : inB x 0 (c - 1) = false) : poolB b z c fr = false := by
  rw [Bool.eq_false_iff]; intro hp
  simp only [poolB, Bool.and_eq_true, List.all_eq_true] at hp
  have := hp.1.2 _ (List.getElem_mem hk)
  rw [hx, h] at this; cases this
theorem poolB_dup {b z c : Int} {fr : List Int} {k : Nat} {x : Int} (hk : k < fr.length) (hx : fr[k] = x) (h : (fr.take k).contains x = true) : poolB b z c fr = false := by
  rw [Bool.eq_false_iff]; intro hp
  simp only [poolB, Bool.and_eq_true, decide_eq_true_eq] at hp
  have hn := hp.2
  rw [← List.take_append_drop k fr, List.drop_eq_getElem_cons hk, hx] at hn
  exact (List.pairwise_append.1 hn).2.2 x (List.contains_iff_mem.1 h) x (List.mem_cons_self ..) rfl
theorem poolB_facts {b z c : Int} {fr : List Int} (h : poolB b z c fr = true) : 0 ≤ b ∧ b ≤ 130944 ∧ 1 ≤ z ∧ z ≤ 512 ∧ 0 ≤ c ∧ c ≤ 16 ∧ ∀ k ∈ fr, 0 ≤ k ∧ k < c := by
  simp only [poolB, Bool.and_eq_true, inB_iff, List.all_eq_true] at h
  obtain ⟨⟨⟨⟨⟨h1, h2⟩, h3, h4⟩, h5, h6⟩, h7⟩, h8⟩ := h
  exact ⟨h1, h2, h3, h4, h5, h6, fun k hk => by have := h7 k hk; omega⟩
theorem ba_append_nil (s : ByteArray) : s ++ (⟨#[]⟩ : ByteArray) = s := ByteArray.append_empty
def descB (op fl ln at_ sz ck : Int) : Bool := inB op 0 3 && inB fl 0 3 && inB ln 0 65535 && inB sz 0 65535 && inB ck 0 65535 && inB at_ 0 4294967295
theorem descB_iff {op fl ln at_ sz ck : Int} : descB op fl ln at_ sz ck = true ↔ (0 ≤ op ∧ op ≤ 3) ∧ (0 ≤ fl ∧ fl ≤ 3) ∧ (0 ≤ ln ∧ ln ≤ 65535) ∧ (0 ≤ sz ∧ sz ≤ 65535) ∧ (0 ≤ ck ∧ ck ≤ 65535) ∧ 0 ≤ at_ ∧ at_ ≤ 4294967295 := by
  simp only [descB, Bool.and_eq_true, inB_iff, and_assoc]
def encD (op fl ln at_ sz ck : Int) : ByteArray := strOfNums [op, fl] ++ word16 ln ++ word32 at_ ++ word16 sz ++ word16 ck ++ word32 0
def encDF (op fl ln at_ sz ck : Int) : ByteArray := if descB op fl ln at_ sz ck then encD op fl ln at_ sz ck else ⟨#[]⟩
theorem encD_size {op fl ln at_ sz ck : Int} (h : descB op fl ln at_ sz ck = true) : (encD op fl ln at_ sz ck).size = 16 := by
  obtain ⟨-, -, h1, h2, h3, h4⟩ := descB_iff.1 h
  have a1 := word16_size (inB_iff.2 h1); have a2 := word16_size (inB_iff.2 h2); have a3 := word16_size (inB_iff.2 h3); have a4 := word32_size (inB_iff.2 h4)
  have a5 := word32_size (v := 0) (by decide)
  unfold encD
  simp only [ByteArray.size_append, strOfNums_size, a1, a2, a3, a4, a5]; rfl
abbrev Dsc := Int × Int × Int × Int × Int × Int
def decX (x : ByteArray) : Dsc := ((bAt x 0 : Int), (bAt x 1 : Int), get16 x 2, get32 x 4, get16 x 8, get16 x 10)
def decDF (x : ByteArray) : Dsc × Bool := if x.size = 16 then if encDF (bAt x 0) (bAt x 1) (get16 x 2) (get32 x 4) (get16 x 8) (get16 x 10) = x then (decX x, true) else ((0, 0, 0, 0, 0, 0), false) else ((0, 0, 0, 0, 0, 0), false)
def fillG (l : List Mp) (d b s h pb pz : Int) : List Int → Pg → Int → Nat → Pg × Int × Nat
  | [], ps, t, n => (ps, t, n)
  | k :: ks, ps, t, n => match rputF l ps d b s h t (encDF 3 0 pz (pb + k * pz) 0 k) with
    | (qs, t2, true) => fillG l d b s h pb pz ks qs t2 (n + 1)
    | (_, _, false) => (ps, t, n)
def fillRF (l : List Mp) (ps : Pg) (d b s h t pb pz pc : Int) (fr : List Int) : Pg × Int × List Int × Nat :=
  if ringOkB b s h t && poolB pb pz pc fr then ((fillG l d b s h pb pz fr ps t 0).1, (fillG l d b s h pb pz fr ps t 0).2.1, fr.drop (fillG l d b s h pb pz fr ps t 0).2.2, (fillG l d b s h pb pz fr ps t 0).2.2) else (ps, t, fr, 0)
theorem dmaWF_ln {l : List Mp} {ps qs : Pg} {d a : Int} {s : ByteArray} {wt ok : Bool} (h : (qs, ok) = dmaWF l ps d a s wt) : qs.length = ps.length := by
  unfold dmaWF at h
  split at h
  · rename_i hq; simp only [Prod.mk.injEq] at h; rw [h.1]; exact (dmaW_ok hq).2.1
  · simp only [Prod.mk.injEq] at h; rw [h.1]
theorem rputF_len {l : List Mp} {ps qs : Pg} {d b s h t t2 : Int} {e : ByteArray} {ok : Bool} (hr : (qs, t2, ok) = rputF l ps d b s h t e) : qs.length = ps.length := by
  unfold rputF at hr
  split at hr
  · simp only [Prod.mk.injEq] at hr; rw [hr.1]
  · split at hr
    · split at hr
      · rename_i hq; simp only [Prod.mk.injEq] at hr; rw [hr.1]; exact dmaWF_ln hq.symm
      · simp only [Prod.mk.injEq] at hr; rw [hr.1]
    · simp only [Prod.mk.injEq] at hr; rw [hr.1]
theorem rputF_t {l : List Mp} {ps qs : Pg} {d b s h t t2 : Int} {e : ByteArray} (hr : (qs, t2, true) = rputF l ps d b s h t e) : ¬ freeF b s h t = 0 ∧ ringOkB b s h t2 = true := by
  unfold rputF at hr
  split at hr
  · cases hr
  · rename_i hf
    have q := freeF_ok hf
    refine ⟨hf, ?_⟩
    obtain ⟨hs, b0, b1, s0, s1, h0, h1, t0, t1, u1, u0⟩ := ringOk_facts q
    split at hr
    · split at hr
      · simp only [Prod.mk.injEq, and_true] at hr
        obtain ⟨_, rfl⟩ := hr
        unfold freeF at hf
        rw [q, if_pos rfl] at hf
        have hsz := sizeB_cases hs
        have key : 0 ≤ (t + 1) % (2 * s) ∧ (t + 1) % (2 * s) ≤ 2 * s - 1 ∧ ((t + 1) % (2 * s) - h) % (2 * s) ≤ s := by
          rcases hsz with rfl | rfl | rfl | rfl <;> omega
        obtain ⟨k1, k2, k3⟩ := key
        simp only [ringOkB, Bool.and_eq_true, inB_iff, decide_eq_true_eq, rnext]
        exact ⟨⟨⟨⟨⟨b0, b1⟩, hs⟩, h0, h1⟩, k1, k2⟩, decide_eq_true k3⟩
      · cases hr
    · cases hr
theorem rputF_full {l : List Mp} {ps : Pg} {d b s h t : Int} {e : ByteArray} (hf : freeF b s h t = 0) : rputF l ps d b s h t e = (ps, t, false) := by unfold rputF; rw [if_pos hf]
theorem fillG_full {l : List Mp} {ps : Pg} {d b s h t pb pz : Int} {n : Nat} (hf : freeF b s h t = 0) : ∀ ks, fillG l d b s h pb pz ks ps t n = (ps, t, n)
  | [] => rfl
  | k :: ks => by rw [fillG, rputF_full hf]
theorem freeF_nn (b s h t : Int) : 0 ≤ freeF b s h t := by
  unfold freeF
  split
  · rename_i q; obtain ⟨_, _, _, _, _, _, _, _, _, u1, u0⟩ := ringOk_facts q; omega
  · exact Int.le_refl _
def addS (a b : Int) : Int := if 65535 < a + b then a + b - 65535 else a + b
def wAt (s : ByteArray) (k : Nat) : Int := ((bAt s (2 * k) * 256 + bAt s (2 * k + 1) : Nat) : Int)
def sumW (s : ByteArray) : Nat → Int
  | 0 => 0
  | k + 1 => addS (sumW s k) (wAt s k)
def words (n : Nat) : Nat := (n + 1) / 2
def sumF (s : ByteArray) : Int := sumW s (words s.size)
theorem addS_bd {a b : Int} (h1 : 0 ≤ a ∧ a ≤ 65535) (h2 : 0 ≤ b ∧ b ≤ 65535) : 0 ≤ addS a b ∧ addS a b ≤ 65535 := by
  unfold addS; split <;> omega
theorem wAt_bd (s : ByteArray) (k : Nat) : 0 ≤ wAt s k ∧ wAt s k ≤ 65535 := by
  have h1 := bAt_lt s (2 * k)
  have h2 := bAt_lt s (2 * k + 1)
  unfold wAt; omega
theorem sumW_bd (s : ByteArray) : ∀ k, 0 ≤ sumW s k ∧ sumW s k ≤ 65535
  | 0 => by simp [sumW]
  | k + 1 => addS_bd (sumW_bd s k) (wAt_bd s k)
def checkF (s : ByteArray) : Int := 65535 - sumF s
theorem sumF_bd (s : ByteArray) : 0 ≤ sumF s ∧ sumF s ≤ 65535 := sumW_bd s _
def psF (src dst kind len : Int) : ByteArray := word32 src ++ word32 dst ++ strOfNums [0, kind] ++ word16 len
def phaseC (s c : Int) : Int := if c < s then 1 else 0
def slotC (b s c : Int) : Int := b + c % s * 16
def nextC (s c : Int) : Int := (c + 1) % (2 * s)
abbrev Comp := Int × Int × Int × Int × Int
theorem queueOk_facts {b s c : Int} (h : queueOkB b s c = true) : 0 ≤ b ∧ b ≤ 130944 ∧ (s = 2 ∨ s = 4 ∨ s = 8 ∨ s = 16) ∧ 0 ≤ c ∧ c ≤ 2 * s - 1 := by
  simp only [queueOkB, sizeB, Bool.and_eq_true, Bool.or_eq_true, beq_iff_eq, inB_iff] at h
  omega
theorem phaseC_bd (s c : Int) : 0 ≤ phaseC s c ∧ phaseC s c ≤ 1 := by unfold phaseC; split <;> omega
theorem slotC_bd {b s c : Int} (h : queueOkB b s c = true) : 0 ≤ slotC b s c ∧ slotC b s c ≤ 131184 := by
  obtain ⟨h1, h2, h3, h4, h5⟩ := queueOk_facts h
  unfold slotC
  have := Int.emod_nonneg c (show s ≠ 0 by omega)
  have := Int.emod_lt_of_pos c (show 0 < s by omega)
  omega
def putC (l : List Mp) (ps : Pg) (d b s c : Int) (x1 x2 x3 x4 x5 : Int) : Pg × Int × Bool :=
  if queueOkB b s c then if completionOkB x1 x2 x3 x4 x5 then match dmaWF l ps d (slotC b s c) (encC x1 x2 x3 x4 x5 (phaseC s c)) true with
    | (qs, true) => (qs, nextC s c, true)
    | (_, false) => (ps, c, false)
  else (ps, c, false) else (ps, c, false)
def nextF (l : List Mp) (ps : Pg) (d b s c : Int) : Comp × Int × Bool :=
  if queueOkB b s c then match dmaRF l ps d (slotC b s c) 16 with
    | (t, true) => if get32 t 12 = phaseC s c then ((get16 t 0, get16 t 2, get16 t 4, get16 t 6, get32 t 8), nextC s c, true) else ((0, 0, 0, 0, 0), c, false)
    | (_, false) => ((0, 0, 0, 0, 0), c, false)
  else ((0, 0, 0, 0, 0), c, false)
theorem dmaWF_same {l : List Mp} {ps qs : Pg} {d a : Int} {s : ByteArray} {wt : Bool} (h : (qs, false) = dmaWF l ps d a s wt) : qs = ps := by
  unfold dmaWF at h
  split at h
  · cases h
  · simp only [Prod.mk.injEq] at h; exact h.1
theorem dmaWF_len {l : List Mp} {ps qs : Pg} {d a : Int} {s : ByteArray} {wt ok : Bool} (h : (qs, ok) = dmaWF l ps d a s wt) : qs.length = ps.length := by
  unfold dmaWF at h
  split at h
  · rename_i hq; simp only [Prod.mk.injEq] at h; rw [h.1]; exact (dmaW_ok hq).2.1
  · simp only [Prod.mk.injEq] at h; rw [h.1]
theorem dmaRF_size {l : List Mp} {ps : Pg} {d a n : Int} {t : ByteArray} (h : (t, true) = dmaRF l ps d a n) : (t.size : Int) = n := by
  unfold dmaRF at h
  split at h
  · rename_i hq; simp only [Prod.mk.injEq] at h; rw [h.1]; exact (dmaR_size hq).1
  · cases h
theorem encC_size (a b c d h p : Int) : (encC a b c d h p).size ≤ 16 := by
  have h1 := word16_le a; have h2 := word16_le b; have h3 := word16_le c; have h4 := word16_le d; have h5 := word32_le h; have h6 := word32_le p
  unfold encC
  simp only [ByteArray.size_append]; omega
end Go.Proofs.YtfcmcedeapgdcaaGreat
end
section
namespace Go.Proofs.YtfcmcedeapgdcaaGreat
open Go Go.RowKit Go.Vc
set_option linter.unusedVariables false
set_option linter.unusedSimpArgs false
set_option linter.unnecessarySimpa false
theorem orI_eq (a b : Int) : orI a b = Go.bits .or .i64 a b := rfl
theorem andI_eq (a b : Int) : andI a b = Go.bits .and .i64 a b := rfl
theorem andNotI_eq (a b : Int) : andNotI a b = Go.bits .andNot .i64 a b := rfl
theorem wr_eq (n : Int) : wr n = wrap64 n := IntWalk.i64_left n
theorem bytI_nat (s : ByteArray) (n : Int) : bytI s n = (bAt s n.toNat : Int) := by
  unfold bytI bAt
  split
  · rename_i h
    rw [List.getElem?_eq_getElem (by rw [Array.length_toList]; exact h)]
    simp only [Option.getD_some]
    rfl
  · rename_i h
    rw [List.getElem?_eq_none (by rw [Array.length_toList]; exact Nat.le_of_not_lt h)]
    rfl
def bytV : List Value → UInt8
  | [.int _ n] => UInt8.ofNat n.toNat
  | _ => 0
theorem ofE_eq (es : List (List Value)) : ofE es = ⟨(es.map bytV).toArray⟩ := rfl
theorem u8w {n : Int} (h0 : 0 ≤ n) (h1 : n ≤ 255) : IntKind.u8.wrap n = n := by rw [IntKind.wrap_u8]; omega
theorem bytesE_nil : bytesE ⟨#[]⟩ = [] := rfl
theorem bytesE_len (s : ByteArray) : (bytesE s).length = s.size := by
  unfold bytesE
  rw [List.length_map, Array.length_toList]; rfl
theorem w16 {v : Int} (h : inB v 0 65535 = true) : strOfNums [IntKind.u8.wrap (v / 2 ^ Int.toNat 8), IntKind.u8.wrap v] = word16 v := by
  have h' := inB_iff.1 h
  unfold word16
  rw [if_pos h, IntKind.wrap_u8, IntKind.wrap_u8]
  have e1 : (2 : Int) ^ Int.toNat 8 = 256 := by decide
  rw [e1, show v / 256 % 256 = v / 256 by omega]
theorem w32 {v : Int} (h : inB v 0 4294967295 = true) : strOfNums [IntKind.u8.wrap (v / 2 ^ Int.toNat 24), IntKind.u8.wrap (v / 2 ^ Int.toNat 16), IntKind.u8.wrap (v / 2 ^ Int.toNat 8), IntKind.u8.wrap v] = word32 v := by
  have h' := inB_iff.1 h
  unfold word32
  rw [if_pos h, IntKind.wrap_u8, IntKind.wrap_u8, IntKind.wrap_u8, IntKind.wrap_u8]
  have e1 : (2 : Int) ^ Int.toNat 8 = 256 := by decide
  have e2 : (2 : Int) ^ Int.toNat 16 = 65536 := by decide
  have e3 : (2 : Int) ^ Int.toNat 24 = 16777216 := by decide
  rw [e1, e2, e3, show v / 16777216 % 256 = v / 16777216 by omega]
theorem i64_byt (s : ByteArray) (n : Int) : IntKind.i64.wrap (bytI s n) = (bAt s n.toNat : Int) := by
  rw [bytI_nat, IntWalk.i64_in]
  have := bAt_lt s n.toNat
  omega
theorem g16 {s : ByteArray} {i : Int} (h0 : 0 ≤ i) (h1 : i + 2 ≤ s.size) : orI (IntKind.i64.wrap (IntKind.i64.wrap (bytI s i) * 2 ^ Int.toNat 8)) (IntKind.i64.wrap (bytI s (i + 1))) = get16 s i := by
  rw [i64_byt, i64_byt, orI_eq, IntWalk.i64_left]
  have e1 : (2 : Int) ^ Int.toNat 8 = 256 := by decide
  rw [e1, or16 _ _ (bAt_lt ..) (bAt_lt ..), get16, if_pos ⟨h0, h1⟩, show (i + 1).toNat = i.toNat + 1 by omega]
theorem g32 {s : ByteArray} {i : Int} (h0 : 0 ≤ i) (h1 : i + 4 ≤ s.size) : orI (orI (orI (IntKind.i64.wrap (IntKind.i64.wrap (bytI s i) * 2 ^ Int.toNat 24)) (IntKind.i64.wrap (IntKind.i64.wrap (bytI s (i + 1)) * 2 ^ Int.toNat 16))) (IntKind.i64.wrap (IntKind.i64.wrap (bytI s (i + 2)) * 2 ^ Int.toNat 8))) (IntKind.i64.wrap (bytI s (i + 3))) = get32 s i := by
  simp only [i64_byt, orI_eq]
  simp only [IntWalk.i64_left]
  have e1 : (2 : Int) ^ Int.toNat 8 = 256 := by decide
  have e2 : (2 : Int) ^ Int.toNat 16 = 65536 := by decide
  have e3 : (2 : Int) ^ Int.toNat 24 = 16777216 := by decide
  rw [e1, e2, e3, or32 _ _ _ _ (bAt_lt ..) (bAt_lt ..) (bAt_lt ..) (bAt_lt ..), get32, if_pos ⟨h0, h1⟩, show (i + 1).toNat = i.toNat + 1 by omega, show (i + 2).toNat = i.toNat + 2 by omega, show (i + 3).toNat = i.toNat + 3 by omega]
theorem wthB_iff {s : ByteArray} {i n : Int} : withinB s i n = true ↔ 0 ≤ i ∧ i ≤ s.size ∧ n ≤ s.size - i := by simp [withinB, and_assoc]
theorem shl8 (s : ByteArray) (n : Int) : IntKind.i64.wrap (IntKind.i64.wrap (bytI s n) * 2 ^ Int.toNat 8) = ((bAt s n.toNat * 256 : Nat) : Int) := by
  have := bAt_lt s n.toNat
  have e1 : (2 : Int) ^ Int.toNat 8 = 256 := by decide
  rw [i64_byt, e1, IntWalk.i64_in _ (by omega)]
  omega
theorem or8 (s : ByteArray) (a : Nat) (n : Int) (ha : a < 256) : orI ((a * 256 : Nat) : Int) (IntKind.i64.wrap (bytI s n)) = ((a * 256 + bAt s n.toNat : Nat) : Int) := by
  have := bAt_lt s n.toNat
  rw [i64_byt, orI_eq]
  exact i64_or_add a (bAt s n.toNat) 8 this (by omega) (by omega)
theorem bAt_out {s : ByteArray} {i : Nat} (h : s.size ≤ i) : bAt s i = 0 := by unfold bAt; rw [dif_neg (by omega)]
def macF (a : Int) : ByteArray := word16 (a / 4294967296) ++ word32 (a % 4294967296)
def repF (b : Int) (n : Nat) : ByteArray := strOfNums (List.replicate n b)
def padF (s : ByteArray) : ByteArray := if s.size < 46 then s ++ repF 0 (46 - s.size) else s
theorem ofE_by (L : List Int) : ofE (L.map byE) = strOfNums L := by
  rw [ofE_eq, strOfNums, List.map_map]; rfl
theorem set_rep (b : Int) (n i : Nat) (h : i < n) : (List.replicate i b ++ List.replicate (n - i) 0).set i b = List.replicate (i + 1) b ++ List.replicate (n - (i + 1)) 0 := by
  obtain ⟨m, hm⟩ : ∃ m, n - i = m + 1 := ⟨n - i - 1, by omega⟩
  rw [hm, show n - (i + 1) = m by omega, List.set_append_right _ _ (by simp)]
  simp only [List.length_replicate, Nat.sub_self, List.replicate_succ, List.set_cons_zero]
  rw [← List.replicate_succ, List.replicate_succ', List.append_assoc]; rfl
theorem mac_le (a : Int) : (macF a).size ≤ 6 := by
  have := word16_le (a / 4294967296); have := word32_le (a % 4294967296)
  unfold macF
  simp only [ByteArray.size_append]
  omega
theorem rep_le (b : Int) (n : Nat) : (repF b n).size ≤ n := by rw [repF, strOfNums_size]; simp
end Go.Proofs.YtfcmcedeapgdcaaGreat
end
section
namespace Go.Proofs.YtfcmcedeapgdcaaGreat
open Go Go.RowKit Go.Vc
set_option linter.unusedVariables false
set_option linter.unusedSimpArgs false
set_option linter.unnecessarySimpa false
theorem tmod_add {x m : Int} (h0 : 1 ≤ m) (h1 : m ≤ 4611686018427387904) (h : x.tmod m < 0) : wr (x.tmod m + m) = x % m := by
  have h2 := Int.lt_tmod_of_pos x (show 0 < m by omega)
  unfold wr
  rw [IntWalk.i64_in _ (by omega)]
  have h3 := Int.tmod_eq_emod (a := x) (b := m)
  split at h3
  · have := Int.emod_nonneg x (show m ≠ 0 by omega); omega
  · omega
theorem tmod_pos {x m : Int} (h0 : 1 ≤ m) (h : 0 ≤ x.tmod m) : x.tmod m = x % m := by
  have h3 := Int.tmod_eq_emod (a := x) (b := m)
  split at h3
  · omega
  · have := Int.emod_lt_of_pos x (show 0 < m by omega); omega
set_option maxHeartbeats 4000000 in
theorem c_impl_between {x lo hi : Int} : Con0 Tryz.prog 41 [I x, I lo, I hi] (B (inB x lo hi)) [] := by
  refine con_i Tryz.func41 Tryz.ntmps41 (t := [(0, I x), (1, I lo), (2, I hi)]) rfl ?_
  refine vc_sr ?_
  refine vo ?_
  refine vnt ?_
  refine vc_sr ?_
  iterate 4 refine vo ?_
  refine vsp (fun g1 => ?_) (fun g1 => ?_)
  · iterate 3 refine von ?_
    iterate 2 refine vo ?_
    refine vnt ?_
    refine vc_ret ?_
    refine fin_i [] rfl (fz ?_) trivial
    simp [inB, g1]
    try omega
  · iterate 3 refine vof ?_
    iterate 2 refine vo ?_
    refine vnt ?_
    refine vc_ret ?_
    refine fin_i [] rfl (fz ?_) trivial
    simp [inB, g1]
    try omega
set_option maxHeartbeats 4000000 in
theorem c_impl_modulo {x m : Int} (h0 : 1 ≤ m := by omega) (h1 : m ≤ 4611686018427387904 := by omega) : Con0 Tryz.prog 51 [I x, I m] (I (x % m)) [] := by
  refine con_i Tryz.func51 Tryz.ntmps51 (t := [(0, I x), (1, I m)]) rfl ?_
  refine vc_sr ?_
  refine vo ?_
  refine vnt ?_
  refine vc_sr ?_
  iterate 4 refine vo ?_
  refine vnt ?_
  refine vc_seq' ?_
  refine vc_sr ?_
  iterate 2 refine vo ?_
  refine vnt ?_
  refine vc_if (fun g1 => ?_) (fun g1 => ?_)
  · refine vc_region ?_
    iterate 3 refine vo ?_
    try refine vwr ?_
    refine vo ?_
    refine vnt ?_
    refine vc_sr ?_
    iterate 2 refine vo ?_
    refine vnt ?_
    refine vc_ret ?_
    refine fin_i [] rfl (fz ?_) trivial
    exact (tmod_add h0 h1 g1).symm
  · refine vc_skip ?_
    refine thn ?_
    refine vc_sr ?_
    iterate 2 refine vo ?_
    refine vnt ?_
    refine vc_ret ?_
    refine fin_i [] rfl (fz ?_) trivial
    exact (tmod_pos h0 g1).symm
set_option maxHeartbeats 4000000 in
theorem c_impl_ringSize {x : Int} : Con0 Tryz.prog 50 [I x] (B (sizeB x)) [] := by
  refine con_i Tryz.func50 Tryz.ntmps50 (t := [(0, I x)]) rfl ?_
  refine vc_sr ?_
  refine vo ?_
  refine vnt ?_
  refine vc_sr ?_
  iterate 3 refine vo ?_
  refine vsp (fun g1 => ?_) (fun g1 => ?_)
  · iterate 2 refine vof ?_
    iterate 2 refine vo ?_
    iterate 2 refine vof ?_
    iterate 2 refine vo ?_
    iterate 2 refine vof ?_
    iterate 2 refine vo ?_
    refine vnt ?_
    refine vc_ret ?_
    refine fin_i [] rfl (fz ?_) trivial
    rw [Bool.eq_iff_iff]
    simp [sizeB, *]
  · iterate 2 refine von ?_
    iterate 2 refine vo ?_
    refine vsp (fun g2 => ?_) (fun g2 => ?_)
    · iterate 2 refine vof ?_
      iterate 2 refine vo ?_
      iterate 2 refine vof ?_
      iterate 2 refine vo ?_
      refine vnt ?_
      refine vc_ret ?_
      refine fin_i [] rfl (fz ?_) trivial
      rw [Bool.eq_iff_iff]
      simp [sizeB, *]
    · iterate 2 refine von ?_
      iterate 2 refine vo ?_
      refine vsp (fun g3 => ?_) (fun g3 => ?_)
      · iterate 2 refine vof ?_
        iterate 2 refine vo ?_
        refine vnt ?_
        refine vc_ret ?_
        refine fin_i [] rfl (fz ?_) trivial
        rw [Bool.eq_iff_iff]
        simp [sizeB, *]
      · iterate 2 refine von ?_
        iterate 2 refine vo ?_
        refine vnt ?_
        refine vc_ret ?_
        refine fin_i [] rfl (fz ?_) trivial
        rw [Bool.eq_iff_iff]
        simp [sizeB, *]
set_option maxHeartbeats 4000000 in
theorem c_impl_RingUsed {b s h t : Int} (h0 : sizeB s = true := by assumption) : Con0 Tryz.prog 14 [.agg [V b, V s, V h, V t]] (I (usedF s h t)) [] := by
  have hs := sizeB_cases h0
  have e1 : (t % (2 * s) - h % (2 * s)) % (2 * s) = (t - h) % (2 * s) := by rw [← Int.sub_emod]
  have q1 := Int.emod_nonneg t (show 2 * s ≠ 0 by omega)
  have q2 := Int.emod_lt_of_pos t (show 0 < 2 * s by omega)
  have q3 := Int.emod_nonneg h (show 2 * s ≠ 0 by omega)
  have q4 := Int.emod_lt_of_pos h (show 0 < 2 * s by omega)
  refine con_i Tryz.func14 Tryz.ntmps14 (t := [(0, .agg [V b, V s, V h, V t])]) rfl ?_
  refine vc_sr ?_
  iterate 2 refine vo ?_
  refine vnt ?_
  refine vc_seq' ?_
  refine vc_sr ?_
  iterate 2 refine vo ?_
  refine voc c_impl_ringSize rfl rfl ?_
  refine vo ?_
  refine vnt ?_
  refine vc_if (fun g1 => ?_) (fun g1 => ?_)
  · refine vc_sr ?_
    refine vo ?_
    refine vnt ?_
    refine vc_ret ?_
    refine thn_r ?_
    refine fin_i [] rfl (fz ?_) trivial
    simp_all [usedF]
  · refine vc_skip ?_
    refine thn ?_
    refine vc_sr ?_
    iterate 5 refine vo ?_
    try refine vwr ?_
    refine voc c_impl_modulo rfl rfl ?_
    iterate 5 refine vo ?_
    try refine vwr ?_
    refine voc c_impl_modulo rfl rfl ?_
    refine vo ?_
    try refine vwr ?_
    iterate 3 refine vo ?_
    try refine vwr ?_
    refine voc c_impl_modulo rfl rfl ?_
    refine vo ?_
    refine vnt ?_
    refine vc_ret ?_
    refine fin_i [] rfl (fz ?_) trivial
    simp_all [usedF]
set_option maxHeartbeats 4000000 in
theorem c_impl_RingOk {b s h t : Int} : Con0 Tryz.prog 40 [.agg [V b, V s, V h, V t]] (B (ringOkB b s h t)) [] := by
  refine con_i Tryz.func40 Tryz.ntmps40 (t := [(0, .agg [V b, V s, V h, V t])]) rfl ?_
  refine vc_sr ?_
  iterate 2 refine vo ?_
  refine vnt ?_
  refine vc_sr ?_
  iterate 2 refine vo ?_
  refine voc c_impl_between rfl rfl ?_
  refine vo ?_
  refine vsp (fun g1 => ?_) (fun g1 => ?_)
  · iterate 2 refine von ?_
    refine vocn c_impl_ringSize rfl rfl ?_
    iterate 2 refine vo ?_
    refine vsp (fun g2 => ?_) (fun g2 => ?_)
    · have hs := sizeB_cases g2
      iterate 5 refine von ?_
      try refine vwr ?_
      refine von ?_
      try refine vwr ?_
      refine vocn c_impl_between rfl rfl ?_
      iterate 2 refine vo ?_
      refine vsp (fun g3 => ?_) (fun g3 => ?_)
      · iterate 5 refine von ?_
        try refine vwr ?_
        refine von ?_
        try refine vwr ?_
        refine vocn c_impl_between rfl rfl ?_
        iterate 2 refine vo ?_
        refine vsp (fun g4 => ?_) (fun g4 => ?_)
        · refine von ?_
          refine vocn c_impl_RingUsed rfl rfl ?_
          iterate 3 refine von ?_
          iterate 2 refine vo ?_
          refine vnt ?_
          refine vc_ret ?_
          refine fin_i [] rfl (fz ?_) trivial
          simp_all [ringOkB, usedF]
          try rfl
        · iterate 5 refine vof ?_
          iterate 2 refine vo ?_
          refine vnt ?_
          refine vc_ret ?_
          refine fin_i [] rfl (fz ?_) trivial
          simp_all [ringOkB, usedF]
          try rfl
      · iterate 7 refine vof ?_
        iterate 2 refine vo ?_
        iterate 5 refine vof ?_
        iterate 2 refine vo ?_
        refine vnt ?_
        refine vc_ret ?_
        refine fin_i [] rfl (fz ?_) trivial
        simp_all [ringOkB, usedF]
        try rfl
    · iterate 7 refine vof ?_
      iterate 2 refine vo ?_
      iterate 7 refine vof ?_
      iterate 2 refine vo ?_
      iterate 5 refine vof ?_
      iterate 2 refine vo ?_
      refine vnt ?_
      refine vc_ret ?_
      refine fin_i [] rfl (fz ?_) trivial
      simp_all [ringOkB, usedF]
      try rfl
  · iterate 3 refine vof ?_
    iterate 2 refine vo ?_
    iterate 7 refine vof ?_
    iterate 2 refine vo ?_
    iterate 7 refine vof ?_
    iterate 2 refine vo ?_
    iterate 5 refine vof ?_
    iterate 2 refine vo ?_
    refine vnt ?_
    refine vc_ret ?_
    refine fin_i [] rfl (fz ?_) trivial
    simp_all [ringOkB, usedF]
    try rfl
set_option maxHeartbeats 4000000 in
theorem c_spec_l01In {x lo hi : Int} : Con0 Tryz.prog 94 [I x, I lo, I hi] (B (inB x lo hi)) [] := by
  refine con_i Tryz.func94 Tryz.ntmps94 (t := [(0, I x), (1, I lo), (2, I hi)]) rfl ?_
  refine vc_sr ?_
  refine vo ?_
  refine vnt ?_
  refine vc_sr ?_
  iterate 4 refine vo ?_
  refine vsp (fun g1 => ?_) (fun g1 => ?_)
  · iterate 3 refine von ?_
    iterate 2 refine vo ?_
    refine vnt ?_
    refine vc_ret ?_
    refine fin_i [] rfl (fz ?_) trivial
    simp [inB, g1]
    try omega
  · iterate 3 refine vof ?_
    iterate 2 refine vo ?_
    refine vnt ?_
    refine vc_ret ?_
    refine fin_i [] rfl (fz ?_) trivial
    simp [inB, g1]
    try omega
set_option maxHeartbeats 4000000 in
theorem c_spec_l20Size {x : Int} : Con0 Tryz.prog 96 [I x] (B (sizeB x)) [] := by
  refine con_i Tryz.func96 Tryz.ntmps96 (t := [(0, I x)]) rfl ?_
  refine vc_sr ?_
  refine vo ?_
  refine vnt ?_
  refine vc_sr ?_
  iterate 3 refine vo ?_
  refine vsp (fun g1 => ?_) (fun g1 => ?_)
  · iterate 2 refine vof ?_
    iterate 2 refine vo ?_
    iterate 2 refine vof ?_
    iterate 2 refine vo ?_
    iterate 2 refine vof ?_
    iterate 2 refine vo ?_
    refine vnt ?_
    refine vc_ret ?_
    refine fin_i [] rfl (fz ?_) trivial
    rw [Bool.eq_iff_iff]
    simp [sizeB, *]
  · iterate 2 refine von ?_
    iterate 2 refine vo ?_
    refine vsp (fun g2 => ?_) (fun g2 => ?_)
    · iterate 2 refine vof ?_
      iterate 2 refine vo ?_
      iterate 2 refine vof ?_
      iterate 2 refine vo ?_
      refine vnt ?_
      refine vc_ret ?_
      refine fin_i [] rfl (fz ?_) trivial
      rw [Bool.eq_iff_iff]
      simp [sizeB, *]
    · iterate 2 refine von ?_
      iterate 2 refine vo ?_
      refine vsp (fun g3 => ?_) (fun g3 => ?_)
      · iterate 2 refine vof ?_
        iterate 2 refine vo ?_
        refine vnt ?_
        refine vc_ret ?_
        refine fin_i [] rfl (fz ?_) trivial
        rw [Bool.eq_iff_iff]
        simp [sizeB, *]
      · iterate 2 refine von ?_
        iterate 2 refine vo ?_
        refine vnt ?_
        refine vc_ret ?_
        refine fin_i [] rfl (fz ?_) trivial
        rw [Bool.eq_iff_iff]
        simp [sizeB, *]
set_option maxHeartbeats 4000000 in
theorem c_spec_l02Within {s : ByteArray} {i n : Int} (hs : s.size ≤ 1099511627776 := by first | assumption | omega) : Con0 Tryz.prog 142 [Z s, I i, I n] (B (withinB s i n)) [] := by
  refine con_i Tryz.func142 Tryz.ntmps142 (t := [(0, Z s), (1, I i), (2, I n)]) rfl ?_
  refine vc_sr ?_
  refine vo ?_
  refine vnt ?_
  refine vc_sr ?_
  iterate 3 refine vo ?_
  refine vsp (fun g1 => ?_) (fun g1 => ?_)
  · iterate 4 refine von ?_
    iterate 2 refine vo ?_
    refine vsp (fun g2 => ?_) (fun g2 => ?_)
    · iterate 5 refine von ?_
      try refine vwr ?_
      refine von ?_
      iterate 2 refine vo ?_
      refine vnt ?_
      refine vc_ret ?_
      refine fin_i [] rfl (fz ?_) trivial
      rw [Bool.eq_iff_iff, wthB_iff]
      simp
      try omega
    · iterate 6 refine vof ?_
      iterate 2 refine vo ?_
      refine vnt ?_
      refine vc_ret ?_
      refine fin_i [] rfl (fz ?_) trivial
      rw [Bool.eq_iff_iff, wthB_iff]
      simp
      try omega
  · iterate 4 refine vof ?_
    iterate 2 refine vo ?_
    iterate 6 refine vof ?_
    iterate 2 refine vo ?_
    refine vnt ?_
    refine vc_ret ?_
    refine fin_i [] rfl (fz ?_) trivial
    rw [Bool.eq_iff_iff, wthB_iff]
    simp
    try omega
set_option maxHeartbeats 4000000 in
theorem c_impl_Word16 {v : Int} : Con0 Tryz.prog 91 [I v] (Z (word16 v)) [] := by
  refine con_i Tryz.func91 Tryz.ntmps91 (t := [(0, I v)]) rfl ?_
  refine vc_sr ?_
  refine vo ?_
  refine vnt ?_
  refine vc_seq' ?_
  refine vc_sr ?_
  refine vo ?_
  refine voc c_impl_between rfl rfl ?_
  refine vo ?_
  refine vnt ?_
  refine vc_if (fun g1 => ?_) (fun g1 => ?_)
  · refine vc_sr ?_
    refine vo ?_
    refine vnt ?_
    refine vc_ret ?_
    refine thn_r ?_
    refine fin_i [] rfl (fz ?_) trivial
    simp [word16, g1]
  · refine vc_skip ?_
    refine thn ?_
    refine vc_sr ?_
    iterate 7 refine vo ?_
    refine vs2 ?_
    refine vo ?_
    refine vnt ?_
    refine vc_ret ?_
    refine fin_i [] rfl (fz ?_) trivial
    exact (w16 g1).symm
set_option maxHeartbeats 4000000 in
theorem c_impl_Word32 {v : Int} : Con0 Tryz.prog 119 [I v] (Z (word32 v)) [] := by
  refine con_i Tryz.func119 Tryz.ntmps119 (t := [(0, I v)]) rfl ?_
  refine vc_sr ?_
  refine vo ?_
  refine vnt ?_
  refine vc_seq' ?_
  refine vc_sr ?_
  refine vo ?_
  refine voc c_impl_between rfl rfl ?_
  refine vo ?_
  refine vnt ?_
  refine vc_if (fun g1 => ?_) (fun g1 => ?_)
  · refine vc_sr ?_
    refine vo ?_
    refine vnt ?_
    refine vc_ret ?_
    refine thn_r ?_
    refine fin_i [] rfl (fz ?_) trivial
    simp [word32, g1]
  · refine vc_skip ?_
    refine thn ?_
    refine vc_sr ?_
    iterate 13 refine vo ?_
    refine vs4 ?_
    refine vo ?_
    refine vnt ?_
    refine vc_ret ?_
    refine fin_i [] rfl (fz ?_) trivial
    exact (w32 g1).symm
set_option maxHeartbeats 4000000 in
theorem c_spec_Word16 {v : Int} : Con0 Tryz.prog 55 [I v] (Z (word16 v)) [] := by
  refine con_i Tryz.func55 Tryz.ntmps55 (t := [(0, I v)]) rfl ?_
  refine vc_sr ?_
  refine vo ?_
  refine vnt ?_
  refine vc_seq' ?_
  refine vc_sr ?_
  refine vo ?_
  refine voc c_spec_l01In rfl rfl ?_
  refine vo ?_
  refine vnt ?_
  refine vc_if (fun g1 => ?_) (fun g1 => ?_)
  · refine vc_sr ?_
    refine vo ?_
    refine vnt ?_
    refine vc_ret ?_
    refine thn_r ?_
    refine fin_i [] rfl (fz ?_) trivial
    simp [word16, g1]
  · refine vc_skip ?_
    refine thn ?_
    refine vc_sr ?_
    iterate 7 refine vo ?_
    refine vs2 ?_
    refine vo ?_
    refine vnt ?_
    refine vc_ret ?_
    refine fin_i [] rfl (fz ?_) trivial
    exact (w16 g1).symm
set_option maxHeartbeats 4000000 in
theorem c_spec_Word32 {v : Int} : Con0 Tryz.prog 101 [I v] (Z (word32 v)) [] := by
  refine con_i Tryz.func101 Tryz.ntmps101 (t := [(0, I v)]) rfl ?_
  refine vc_sr ?_
  refine vo ?_
  refine vnt ?_
  refine vc_seq' ?_
  refine vc_sr ?_
  refine vo ?_
  refine voc c_spec_l01In rfl rfl ?_
  refine vo ?_
  refine vnt ?_
  refine vc_if (fun g1 => ?_) (fun g1 => ?_)
  · refine vc_sr ?_
    refine vo ?_
    refine vnt ?_
    refine vc_ret ?_
    refine thn_r ?_
    refine fin_i [] rfl (fz ?_) trivial
    simp [word32, g1]
  · refine vc_skip ?_
    refine thn ?_
    refine vc_sr ?_
    iterate 13 refine vo ?_
    refine vs4 ?_
    refine vo ?_
    refine vnt ?_
    refine vc_ret ?_
    refine fin_i [] rfl (fz ?_) trivial
    exact (w32 g1).symm
set_option maxHeartbeats 4000000 in
theorem c_impl_Get16 {s : ByteArray} {i : Int} (hs : s.size ≤ 1099511627776 := by first | assumption | omega) : Con0 Tryz.prog 83 [Z s, I i] (I (get16 s i)) [] := by
  refine con_i Tryz.func83 Tryz.ntmps83 (t := [(0, Z s), (1, I i)]) rfl ?_
  refine vc_sr ?_
  refine vo ?_
  refine vnt ?_
  refine vc_seq' ?_
  refine vc_sr ?_
  iterate 3 refine vo ?_
  refine vsp (fun g1 => ?_) (fun g1 => ?_)
  · iterate 5 refine vof ?_
    refine vo ?_
    refine vnt ?_
    refine vc_then ?_
    refine vc_sr ?_
    refine vo ?_
    refine vnt ?_
    refine vc_ret ?_
    refine thn_r ?_
    refine fin_i [] rfl (fz ?_) trivial
    rw [get16, if_neg (by omega)]
  · iterate 4 refine von ?_
    try refine vwr ?_
    refine von ?_
    refine vo ?_
    refine vnt ?_
    refine vc_if (fun g2 => ?_) (fun g2 => ?_)
    · refine vc_sr ?_
      refine vo ?_
      refine vnt ?_
      refine vc_ret ?_
      refine thn_r ?_
      refine fin_i [] rfl (fz ?_) trivial
      rw [get16, if_neg (by omega)]
    · refine vc_skip ?_
      refine thn ?_
      refine vc_sr ?_
      iterate 8 refine vo ?_
      try refine vwr ?_
      iterate 4 refine vo ?_
      refine vnt ?_
      refine vc_ret ?_
      refine fin_i [] rfl (fz ?_) trivial
      exact (g16 (by omega) (by omega)).symm
set_option maxHeartbeats 4000000 in
theorem c_impl_Get32 {s : ByteArray} {i : Int} (hs : s.size ≤ 1099511627776 := by first | assumption | omega) : Con0 Tryz.prog 84 [Z s, I i] (I (get32 s i)) [] := by
  refine con_i Tryz.func84 Tryz.ntmps84 (t := [(0, Z s), (1, I i)]) rfl ?_
  refine vc_sr ?_
  refine vo ?_
  refine vnt ?_
  refine vc_seq' ?_
  refine vc_sr ?_
  iterate 3 refine vo ?_
  refine vsp (fun g1 => ?_) (fun g1 => ?_)
  · iterate 5 refine vof ?_
    refine vo ?_
    refine vnt ?_
    refine vc_then ?_
    refine vc_sr ?_
    refine vo ?_
    refine vnt ?_
    refine vc_ret ?_
    refine thn_r ?_
    refine fin_i [] rfl (fz ?_) trivial
    rw [get32, if_neg (by omega)]
  · iterate 4 refine von ?_
    try refine vwr ?_
    refine von ?_
    refine vo ?_
    refine vnt ?_
    refine vc_if (fun g2 => ?_) (fun g2 => ?_)
    · refine vc_sr ?_
      refine vo ?_
      refine vnt ?_
      refine vc_ret ?_
      refine thn_r ?_
      refine fin_i [] rfl (fz ?_) trivial
      rw [get32, if_neg (by omega)]
    · refine vc_skip ?_
      refine thn ?_
      refine vc_sr ?_
      iterate 8 refine vo ?_
      try refine vwr ?_
      iterate 7 refine vo ?_
      try refine vwr ?_
      iterate 7 refine vo ?_
      try refine vwr ?_
      iterate 4 refine vo ?_
      refine vnt ?_
      refine vc_ret ?_
      refine fin_i [] rfl (fz ?_) trivial
      exact (g32 (by omega) (by omega)).symm
end Go.Proofs.YtfcmcedeapgdcaaGreat
end
section
namespace Go.Proofs.YtfcmcedeapgdcaaGreat
open Go Go.RowKit Go.Vc
set_option linter.unusedVariables false
set_option linter.unusedSimpArgs false
set_option linter.unnecessarySimpa false
theorem strm_a {fl : Int} (h : 0 ≤ fl ∧ fl ≤ 31) (h1 : ¬ andI fl 16 = 0) : streamB fl = decide (andNotI fl 25 = 0) := by
  obtain ⟨k, rfl⟩ := Int.eq_ofNat_of_zero_le h.1
  have hk : k < 32 := by omega
  obtain ⟨e1, e2, e3⟩ := flag_facts ⟨k, hk⟩
  simp only at e1 e2
  rw [andI_eq, e1] at h1
  have : (Go.bits .andNot .i64 (k : Int) 25 == 0) = decide (andNotI (k : Int) 25 = 0) := by rw [andNotI_eq]; rfl
  rw [← this, e2]
  unfold streamB
  rw [Bool.eq_iff_iff]
  simp
  split at h1
  · omega
  · exact (h1 rfl).elim
theorem strm_b {fl : Int} (h : 0 ≤ fl ∧ fl ≤ 31) (h1 : andI fl 16 = 0) : streamB fl = false := by
  obtain ⟨k, rfl⟩ := Int.eq_ofNat_of_zero_le h.1
  have hk : k < 32 := by omega
  obtain ⟨e1, e2, e3⟩ := flag_facts ⟨k, hk⟩
  simp only at e1
  rw [andI_eq, e1] at h1
  unfold streamB
  split at h1
  · cases h1
  · rw [Bool.eq_false_iff]
    simp
    omega
theorem strm_c {fl : Int} (h : 0 ≤ fl ∧ fl ≤ 31) : decide (andNotI fl 9 = 16) = streamB fl := by
  obtain ⟨k, rfl⟩ := Int.eq_ofNat_of_zero_le h.1
  have hk : k < 32 := by omega
  obtain ⟨e1, e2, e3⟩ := flag_facts ⟨k, hk⟩
  have : (Go.bits .andNot .i64 (k : Int) 9 == 16) = decide (andNotI (k : Int) 9 = 16) := by rw [andNotI_eq]; rfl
  rw [← this, e3]
  unfold streamB
  rw [Bool.eq_iff_iff]
  simp
  omega
set_option maxHeartbeats 4000000 in
theorem c_impl_SegmentOk {kind sp dp seq ack fl win : Int} {body : ByteArray} : Con0 Tryz.prog 85 [.agg [V kind, V sp, V dp, V seq, V ack, V fl, V win, VS body]] (B (segOkB kind sp dp seq ack fl win body.size)) [] := by
  refine con_i Tryz.func85 Tryz.ntmps85 (t := [(0, .agg [V kind, V sp, V dp, V seq, V ack, V fl, V win, VS body])]) rfl ?_
  refine vc_sr ?_
  iterate 2 refine vo ?_
  refine vnt ?_
  refine vc_seq' ?_
  refine vc_sr ?_
  iterate 2 refine vo ?_
  refine voc c_impl_between rfl rfl ?_
  iterate 2 refine vo ?_
  refine vsp (fun g1 => ?_) (fun g1 => ?_)
  · iterate 4 refine vof ?_
    iterate 2 refine vo ?_
    iterate 4 refine vof ?_
    refine vo ?_
    refine vnt ?_
    refine vc_then ?_
    refine vc_sr ?_
    refine vo ?_
    refine vnt ?_
    refine vc_ret ?_
    refine thn_r ?_
    refine fin_i [] rfl (fz ?_) trivial
    simp_all [segOkB]
    try first | omega | (rw [Bool.eq_iff_iff]; simp; omega)
  · iterate 2 refine von ?_
    refine vocn c_impl_between rfl rfl ?_
    refine von ?_
    iterate 2 refine vo ?_
    refine vsp (fun g2 => ?_) (fun g2 => ?_)
    · iterate 4 refine vof ?_
      refine vo ?_
      refine vnt ?_
      refine vc_then ?_
      refine vc_sr ?_
      refine vo ?_
      refine vnt ?_
      refine vc_ret ?_
      refine thn_r ?_
      refine fin_i [] rfl (fz ?_) trivial
      simp_all [segOkB]
      try first | omega | (rw [Bool.eq_iff_iff]; simp; omega)
    · iterate 4 refine von ?_
      refine vo ?_
      refine vnt ?_
      refine vc_if (fun g3 => ?_) (fun g3 => ?_)
      · refine vc_sr ?_
        refine vo ?_
        refine vnt ?_
        refine vc_ret ?_
        refine thn_r ?_
        refine fin_i [] rfl (fz ?_) trivial
        simp_all [segOkB]
        try first | omega | (rw [Bool.eq_iff_iff]; simp; omega)
      · refine vc_skip ?_
        refine thn ?_
        refine vc_seq' ?_
        refine vc_sr ?_
        iterate 2 refine vo ?_
        refine vnt ?_
        refine vc_block ?_
        refine vc_sr ?_
        iterate 2 refine vo ?_
        refine vnt ?_
        refine vc_if (fun g4 => ?_) (fun g4 => ?_)
        · refine vc_sr ?_
          iterate 2 refine vo ?_
          refine voc c_impl_between rfl rfl ?_
          refine vo ?_
          refine vsp (fun g5 => ?_) (fun g5 => ?_)
          · iterate 2 refine von ?_
            refine vocn c_impl_between rfl rfl ?_
            iterate 2 refine vo ?_
            refine vsp (fun g6 => ?_) (fun g6 => ?_)
            · iterate 2 refine von ?_
              refine vocn c_impl_between rfl rfl ?_
              iterate 2 refine vo ?_
              refine vsp (fun g7 => ?_) (fun g7 => ?_)
              · iterate 2 refine von ?_
                refine vocn c_impl_between rfl rfl ?_
                iterate 2 refine vo ?_
                refine vnt ?_
                refine vc_ret ?_
                refine inB_r ?_
                refine thn_r ?_
                refine fin_i [] rfl (fz ?_) trivial
                simp_all [segOkB]
                try first | omega | (rw [Bool.eq_iff_iff]; simp; omega)
              · iterate 3 refine vof ?_
                iterate 2 refine vo ?_
                refine vnt ?_
                refine vc_ret ?_
                refine inB_r ?_
                refine thn_r ?_
                refine fin_i [] rfl (fz ?_) trivial
                simp_all [segOkB]
                try first | omega | (rw [Bool.eq_iff_iff]; simp; omega)
            · iterate 3 refine vof ?_
              iterate 2 refine vo ?_
              iterate 3 refine vof ?_
              iterate 2 refine vo ?_
              refine vnt ?_
              refine vc_ret ?_
              refine inB_r ?_
              refine thn_r ?_
              refine fin_i [] rfl (fz ?_) trivial
              simp_all [segOkB]
              try first | omega | (rw [Bool.eq_iff_iff]; simp; omega)
          · iterate 3 refine vof ?_
            iterate 2 refine vo ?_
            iterate 3 refine vof ?_
            iterate 2 refine vo ?_
            iterate 3 refine vof ?_
            iterate 2 refine vo ?_
            refine vnt ?_
            refine vc_ret ?_
            refine inB_r ?_
            refine thn_r ?_
            refine fin_i [] rfl (fz ?_) trivial
            simp_all [segOkB]
            try first | omega | (rw [Bool.eq_iff_iff]; simp; omega)
        · refine vc_sr ?_
          iterate 2 refine vo ?_
          refine vnt ?_
          refine vc_if (fun g8 => ?_) (fun g8 => ?_)
          · refine vc_sr ?_
            iterate 4 refine vo ?_
            refine vsp (fun g9 => ?_) (fun g9 => ?_)
            · iterate 3 refine von ?_
              iterate 2 refine vo ?_
              refine vsp (fun g10 => ?_) (fun g10 => ?_)
              · iterate 3 refine von ?_
                iterate 2 refine vo ?_
                refine vsp (fun g11 => ?_) (fun g11 => ?_)
                · iterate 3 refine von ?_
                  iterate 2 refine vo ?_
                  refine vnt ?_
                  refine vc_ret ?_
                  refine inB_r ?_
                  refine thn_r ?_
                  refine fin_i [] rfl (fz ?_) trivial
                  simp_all [segOkB]
                  try first | omega | (rw [Bool.eq_iff_iff]; simp; omega)
                · iterate 3 refine vof ?_
                  iterate 2 refine vo ?_
                  refine vnt ?_
                  refine vc_ret ?_
                  refine inB_r ?_
                  refine thn_r ?_
                  refine fin_i [] rfl (fz ?_) trivial
                  simp_all [segOkB]
                  try first | omega | (rw [Bool.eq_iff_iff]; simp; omega)
              · iterate 3 refine vof ?_
                iterate 2 refine vo ?_
                iterate 3 refine vof ?_
                iterate 2 refine vo ?_
                refine vnt ?_
                refine vc_ret ?_
                refine inB_r ?_
                refine thn_r ?_
                refine fin_i [] rfl (fz ?_) trivial
                simp_all [segOkB]
                try first | omega | (rw [Bool.eq_iff_iff]; simp; omega)
            · iterate 3 refine vof ?_
              iterate 2 refine vo ?_
              iterate 3 refine vof ?_
              iterate 2 refine vo ?_
              iterate 3 refine vof ?_
              iterate 2 refine vo ?_
              refine vnt ?_
              refine vc_ret ?_
              refine inB_r ?_
              refine thn_r ?_
              refine fin_i [] rfl (fz ?_) trivial
              simp_all [segOkB]
              try first | omega | (rw [Bool.eq_iff_iff]; simp; omega)
          · refine vc_skip ?_
            refine inB_n ?_
            refine thn ?_
            refine vc_sr ?_
            refine vo ?_
            refine vnt ?_
            refine vc_ret ?_
            refine fin_i [] rfl (fz ?_) trivial
            simp_all [segOkB]
            try first | omega | (rw [Bool.eq_iff_iff]; simp; omega)
set_option maxHeartbeats 4000000 in
theorem c_spec_SegmentOk {kind sp dp seq ack fl win : Int} {body : ByteArray} : Con0 Tryz.prog 95 [.agg [V kind, V sp, V dp, V seq, V ack, V fl, V win, VS body]] (B (segOkB kind sp dp seq ack fl win body.size)) [] := by
  refine con_i Tryz.func95 Tryz.ntmps95 (t := [(0, .agg [V kind, V sp, V dp, V seq, V ack, V fl, V win, VS body])]) rfl ?_
  refine vc_sr ?_
  iterate 2 refine vo ?_
  refine vnt ?_
  refine vc_seq' ?_
  refine vc_sr ?_
  iterate 2 refine vo ?_
  refine voc c_spec_l01In rfl rfl ?_
  iterate 2 refine vo ?_
  refine vsp (fun g1 => ?_) (fun g1 => ?_)
  · iterate 4 refine vof ?_
    iterate 2 refine vo ?_
    iterate 4 refine vof ?_
    refine vo ?_
    refine vnt ?_
    refine vc_then ?_
    refine vc_sr ?_
    refine vo ?_
    refine vnt ?_
    refine vc_ret ?_
    refine thn_r ?_
    refine fin_i [] rfl (fz ?_) trivial
    simp_all [segOkB]
    try first | omega | (rw [Bool.eq_iff_iff]; simp; omega)
  · iterate 2 refine von ?_
    refine vocn c_spec_l01In rfl rfl ?_
    refine von ?_
    iterate 2 refine vo ?_
    refine vsp (fun g2 => ?_) (fun g2 => ?_)
    · iterate 4 refine vof ?_
      refine vo ?_
      refine vnt ?_
      refine vc_then ?_
      refine vc_sr ?_
      refine vo ?_
      refine vnt ?_
      refine vc_ret ?_
      refine thn_r ?_
      refine fin_i [] rfl (fz ?_) trivial
      simp_all [segOkB]
      try first | omega | (rw [Bool.eq_iff_iff]; simp; omega)
    · iterate 4 refine von ?_
      refine vo ?_
      refine vnt ?_
      refine vc_if (fun g3 => ?_) (fun g3 => ?_)
      · refine vc_sr ?_
        refine vo ?_
        refine vnt ?_
        refine vc_ret ?_
        refine thn_r ?_
        refine fin_i [] rfl (fz ?_) trivial
        simp_all [segOkB]
        try first | omega | (rw [Bool.eq_iff_iff]; simp; omega)
      · refine vc_skip ?_
        refine thn ?_
        refine vc_seq' ?_
        refine vc_sr ?_
        iterate 3 refine vo ?_
        refine vnt ?_
        refine vc_if (fun g4 => ?_) (fun g4 => ?_)
        · refine vc_sr ?_
          iterate 4 refine vo ?_
          refine vsp (fun g5 => ?_) (fun g5 => ?_)
          · iterate 3 refine von ?_
            iterate 2 refine vo ?_
            refine vsp (fun g6 => ?_) (fun g6 => ?_)
            · iterate 3 refine von ?_
              iterate 2 refine vo ?_
              refine vsp (fun g7 => ?_) (fun g7 => ?_)
              · iterate 3 refine von ?_
                iterate 2 refine vo ?_
                refine vnt ?_
                refine vc_ret ?_
                refine thn_r ?_
                refine fin_i [] rfl (fz ?_) trivial
                simp_all [segOkB]
                try first | omega | (rw [Bool.eq_iff_iff]; simp; omega)
              · iterate 3 refine vof ?_
                iterate 2 refine vo ?_
                refine vnt ?_
                refine vc_ret ?_
                refine thn_r ?_
                refine fin_i [] rfl (fz ?_) trivial
                simp_all [segOkB]
                try first | omega | (rw [Bool.eq_iff_iff]; simp; omega)
            · iterate 3 refine vof ?_
              iterate 2 refine vo ?_
              iterate 3 refine vof ?_
              iterate 2 refine vo ?_
              refine vnt ?_
              refine vc_ret ?_
              refine thn_r ?_
              refine fin_i [] rfl (fz ?_) trivial
              simp_all [segOkB]
              try first | omega | (rw [Bool.eq_iff_iff]; simp; omega)
          · iterate 3 refine vof ?_
            iterate 2 refine vo ?_
            iterate 3 refine vof ?_
            iterate 2 refine vo ?_
            iterate 3 refine vof ?_
            iterate 2 refine vo ?_
            refine vnt ?_
            refine vc_ret ?_
            refine thn_r ?_
            refine fin_i [] rfl (fz ?_) trivial
            simp_all [segOkB]
            try first | omega | (rw [Bool.eq_iff_iff]; simp; omega)
        · refine vc_skip ?_
          refine thn ?_
          refine vc_sr ?_
          iterate 4 refine vo ?_
          refine vsp (fun g8 => ?_) (fun g8 => ?_)
          · iterate 2 refine von ?_
            refine vocn c_spec_l01In rfl rfl ?_
            iterate 2 refine vo ?_
            refine vsp (fun g9 => ?_) (fun g9 => ?_)
            · iterate 2 refine von ?_
              refine vocn c_spec_l01In rfl rfl ?_
              iterate 2 refine vo ?_
              refine vsp (fun g10 => ?_) (fun g10 => ?_)
              · iterate 2 refine von ?_
                refine vocn c_spec_l01In rfl rfl ?_
                iterate 2 refine vo ?_
                refine vsp (fun g11 => ?_) (fun g11 => ?_)
                · iterate 2 refine von ?_
                  refine vocn c_spec_l01In rfl rfl ?_
                  iterate 2 refine vo ?_
                  refine vnt ?_
                  refine vc_ret ?_
                  refine fin_i [] rfl (fz ?_) trivial
                  simp_all [segOkB]
                  try first | omega | (rw [Bool.eq_iff_iff]; simp; omega)
                · iterate 3 refine vof ?_
                  iterate 2 refine vo ?_
                  refine vnt ?_
                  refine vc_ret ?_
                  refine fin_i [] rfl (fz ?_) trivial
                  simp_all [segOkB]
                  try first | omega | (rw [Bool.eq_iff_iff]; simp; omega)
              · iterate 3 refine vof ?_
                iterate 2 refine vo ?_
                iterate 3 refine vof ?_
                iterate 2 refine vo ?_
                refine vnt ?_
                refine vc_ret ?_
                refine fin_i [] rfl (fz ?_) trivial
                simp_all [segOkB]
                try first | omega | (rw [Bool.eq_iff_iff]; simp; omega)
            · iterate 3 refine vof ?_
              iterate 2 refine vo ?_
              iterate 3 refine vof ?_
              iterate 2 refine vo ?_
              iterate 3 refine vof ?_
              iterate 2 refine vo ?_
              refine vnt ?_
              refine vc_ret ?_
              refine fin_i [] rfl (fz ?_) trivial
              simp_all [segOkB]
              try first | omega | (rw [Bool.eq_iff_iff]; simp; omega)
          · iterate 3 refine vof ?_
            iterate 2 refine vo ?_
            iterate 3 refine vof ?_
            iterate 2 refine vo ?_
            iterate 3 refine vof ?_
            iterate 2 refine vo ?_
            iterate 3 refine vof ?_
            iterate 2 refine vo ?_
            refine vnt ?_
            refine vc_ret ?_
            refine fin_i [] rfl (fz ?_) trivial
            simp_all [segOkB]
            try first | omega | (rw [Bool.eq_iff_iff]; simp; omega)
set_option maxHeartbeats 4000000 in
theorem c_impl_streaming {fl : Int} (hf : 0 ≤ fl ∧ fl ≤ 31 := by assumption) : Con0 Tryz.prog 73 [I fl] (B (streamB fl)) [] := by
  refine con_i Tryz.func73 Tryz.ntmps73 (t := [(0, I fl)]) rfl ?_
  refine vc_sr ?_
  refine vo ?_
  refine vnt ?_
  refine vc_sr ?_
  iterate 4 refine vo ?_
  refine vsp (fun g1 => ?_) (fun g1 => ?_)
  · iterate 3 refine von ?_
    iterate 2 refine vo ?_
    refine vnt ?_
    refine vc_ret ?_
    refine fin_i [] rfl (fz ?_) trivial
    exact strm_a hf g1
  · iterate 3 refine vof ?_
    iterate 2 refine vo ?_
    refine vnt ?_
    refine vc_ret ?_
    refine fin_i [] rfl (fz ?_) trivial
    exact strm_b hf g1
set_option maxHeartbeats 4000000 in
theorem c_impl_SuperOk {dm sm vl tos id ttl si di kind sp dp seq ack fl win : Int} {body : ByteArray} : Con0 Tryz.prog 42 [.agg [V dm, V sm, V vl, V tos, V id, V ttl, V si, V di, V kind, V sp, V dp, V seq, V ack, V fl, V win, VS body]] (B (superOkB dm sm vl tos id ttl si di kind sp dp seq ack fl win body.size)) [] := by
  refine con_i Tryz.func42 Tryz.ntmps42 (t := [(0, .agg [V dm, V sm, V vl, V tos, V id, V ttl, V si, V di, V kind, V sp, V dp, V seq, V ack, V fl, V win, VS body])]) rfl ?_
  refine vc_sr ?_
  iterate 2 refine vo ?_
  refine vnt ?_
  refine vc_sr ?_
  iterate 2 refine vo ?_
  refine voc c_impl_between rfl rfl ?_
  refine vo ?_
  refine vsp (fun g1 => ?_) (fun g1 => ?_)
  · iterate 2 refine von ?_
    refine vocn c_impl_between rfl rfl ?_
    iterate 2 refine vo ?_
    refine vsp (fun g2 => ?_) (fun g2 => ?_)
    · iterate 2 refine von ?_
      refine vocn c_impl_between rfl rfl ?_
      iterate 2 refine vo ?_
      refine vsp (fun g3 => ?_) (fun g3 => ?_)
      · iterate 2 refine von ?_
        refine vocn c_impl_between rfl rfl ?_
        iterate 2 refine vo ?_
        refine vsp (fun g4 => ?_) (fun g4 => ?_)
        · iterate 2 refine von ?_
          refine vocn c_impl_between rfl rfl ?_
          iterate 2 refine vo ?_
          refine vsp (fun g5 => ?_) (fun g5 => ?_)
          · iterate 2 refine von ?_
            refine vocn c_impl_between rfl rfl ?_
            iterate 2 refine vo ?_
            refine vsp (fun g6 => ?_) (fun g6 => ?_)
            · iterate 2 refine von ?_
              refine vocn c_impl_between rfl rfl ?_
              iterate 2 refine vo ?_
              refine vsp (fun g7 => ?_) (fun g7 => ?_)
              · iterate 2 refine von ?_
                refine vocn c_impl_between rfl rfl ?_
                iterate 2 refine vo ?_
                refine vsp (fun g8 => ?_) (fun g8 => ?_)
                · iterate 2 refine von ?_
                  refine vocn c_impl_SegmentOk rfl rfl ?_
                  iterate 2 refine vo ?_
                  refine vsp (fun g9 => ?_) (fun g9 => ?_)
                  · have hf := segOk_fl g9
                    have hc := strm_c hf
                    iterate 6 refine von ?_
                    refine vsp (fun g10 => ?_) (fun g10 => ?_)
                    · iterate 10 refine vof ?_
                      refine von ?_
                      iterate 2 refine vo ?_
                      refine vnt ?_
                      refine vc_ret ?_
                      refine fin_i [] rfl (fz ?_) trivial
                      simp_all [superOkB]
                      try first | omega | (rw [Bool.eq_iff_iff]; simp; omega)
                    · iterate 5 refine von ?_
                      refine vsp (fun g11 => ?_) (fun g11 => ?_)
                      · iterate 3 refine von ?_
                        refine vocn c_impl_streaming rfl rfl ?_
                        iterate 2 refine von ?_
                        iterate 2 refine vo ?_
                        refine vnt ?_
                        refine vc_ret ?_
                        refine fin_i [] rfl (fz ?_) trivial
                        simp_all [superOkB]
                        try first | omega | (rw [Bool.eq_iff_iff]; simp; omega)
                      · iterate 4 refine vof ?_
                        iterate 2 refine von ?_
                        iterate 2 refine vo ?_
                        refine vnt ?_
                        refine vc_ret ?_
                        refine fin_i [] rfl (fz ?_) trivial
                        simp_all [superOkB]
                        try first | omega | (rw [Bool.eq_iff_iff]; simp; omega)
                  · iterate 17 refine vof ?_
                    iterate 2 refine vo ?_
                    refine vnt ?_
                    refine vc_ret ?_
                    refine fin_i [] rfl (fz ?_) trivial
                    simp_all [superOkB]
                    try first | omega | (rw [Bool.eq_iff_iff]; simp; omega)
                · iterate 3 refine vof ?_
                  iterate 2 refine vo ?_
                  iterate 17 refine vof ?_
                  iterate 2 refine vo ?_
                  refine vnt ?_
                  refine vc_ret ?_
                  refine fin_i [] rfl (fz ?_) trivial
                  simp_all [superOkB]
                  try first | omega | (rw [Bool.eq_iff_iff]; simp; omega)
              · iterate 3 refine vof ?_
                iterate 2 refine vo ?_
                iterate 3 refine vof ?_
                iterate 2 refine vo ?_
                iterate 17 refine vof ?_
                iterate 2 refine vo ?_
                refine vnt ?_
                refine vc_ret ?_
                refine fin_i [] rfl (fz ?_) trivial
                simp_all [superOkB]
                try first | omega | (rw [Bool.eq_iff_iff]; simp; omega)
            · iterate 3 refine vof ?_
              iterate 2 refine vo ?_
              iterate 3 refine vof ?_
              iterate 2 refine vo ?_
              iterate 3 refine vof ?_
              iterate 2 refine vo ?_
              iterate 17 refine vof ?_
              iterate 2 refine vo ?_
              refine vnt ?_
              refine vc_ret ?_
              refine fin_i [] rfl (fz ?_) trivial
              simp_all [superOkB]
              try first | omega | (rw [Bool.eq_iff_iff]; simp; omega)
          · iterate 3 refine vof ?_
            iterate 2 refine vo ?_
            iterate 3 refine vof ?_
            iterate 2 refine vo ?_
            iterate 3 refine vof ?_
            iterate 2 refine vo ?_
            iterate 3 refine vof ?_
            iterate 2 refine vo ?_
            iterate 17 refine vof ?_
            iterate 2 refine vo ?_
            refine vnt ?_
            refine vc_ret ?_
            refine fin_i [] rfl (fz ?_) trivial
            simp_all [superOkB]
            try first | omega | (rw [Bool.eq_iff_iff]; simp; omega)
        · iterate 3 refine vof ?_
          iterate 2 refine vo ?_
          iterate 3 refine vof ?_
          iterate 2 refine vo ?_
          iterate 3 refine vof ?_
          iterate 2 refine vo ?_
          iterate 3 refine vof ?_
          iterate 2 refine vo ?_
          iterate 3 refine vof ?_
          iterate 2 refine vo ?_
          iterate 17 refine vof ?_
          iterate 2 refine vo ?_
          refine vnt ?_
          refine vc_ret ?_
          refine fin_i [] rfl (fz ?_) trivial
          simp_all [superOkB]
          try first | omega | (rw [Bool.eq_iff_iff]; simp; omega)
      · iterate 3 refine vof ?_
        iterate 2 refine vo ?_
        iterate 3 refine vof ?_
        iterate 2 refine vo ?_
        iterate 3 refine vof ?_
        iterate 2 refine vo ?_
        iterate 3 refine vof ?_
        iterate 2 refine vo ?_
        iterate 3 refine vof ?_
        iterate 2 refine vo ?_
        iterate 3 refine vof ?_
        iterate 2 refine vo ?_
        iterate 17 refine vof ?_
        iterate 2 refine vo ?_
        refine vnt ?_
        refine vc_ret ?_
        refine fin_i [] rfl (fz ?_) trivial
        simp_all [superOkB]
        try first | omega | (rw [Bool.eq_iff_iff]; simp; omega)
    · iterate 3 refine vof ?_
      iterate 2 refine vo ?_
      iterate 3 refine vof ?_
      iterate 2 refine vo ?_
      iterate 3 refine vof ?_
      iterate 2 refine vo ?_
      iterate 3 refine vof ?_
      iterate 2 refine vo ?_
      iterate 3 refine vof ?_
      iterate 2 refine vo ?_
      iterate 3 refine vof ?_
      iterate 2 refine vo ?_
      iterate 3 refine vof ?_
      iterate 2 refine vo ?_
      iterate 17 refine vof ?_
      iterate 2 refine vo ?_
      refine vnt ?_
      refine vc_ret ?_
      refine fin_i [] rfl (fz ?_) trivial
      simp_all [superOkB]
      try first | omega | (rw [Bool.eq_iff_iff]; simp; omega)
  · iterate 3 refine vof ?_
    iterate 2 refine vo ?_
    iterate 3 refine vof ?_
    iterate 2 refine vo ?_
    iterate 3 refine vof ?_
    iterate 2 refine vo ?_
    iterate 3 refine vof ?_
    iterate 2 refine vo ?_
    iterate 3 refine vof ?_
    iterate 2 refine vo ?_
    iterate 3 refine vof ?_
    iterate 2 refine vo ?_
    iterate 3 refine vof ?_
    iterate 2 refine vo ?_
    iterate 3 refine vof ?_
    iterate 2 refine vo ?_
    iterate 17 refine vof ?_
    iterate 2 refine vo ?_
    refine vnt ?_
    refine vc_ret ?_
    refine fin_i [] rfl (fz ?_) trivial
    simp_all [superOkB]
    try first | omega | (rw [Bool.eq_iff_iff]; simp; omega)
set_option maxHeartbeats 4000000 in
theorem c_impl_PacketOk {dm sm vl tos id ttl si di kind sp dp seq ack fl win : Int} {body : ByteArray} : Con0 Tryz.prog 28 [.agg [V dm, V sm, V vl, V tos, V id, V ttl, V si, V di, V kind, V sp, V dp, V seq, V ack, V fl, V win, VS body]] (B (superOkB dm sm vl tos id ttl si di kind sp dp seq ack fl win body.size && decide (body.size ≤ 128))) [] := by
  refine con_i Tryz.func28 Tryz.ntmps28 (t := [(0, .agg [V dm, V sm, V vl, V tos, V id, V ttl, V si, V di, V kind, V sp, V dp, V seq, V ack, V fl, V win, VS body])]) rfl ?_
  refine vc_sr ?_
  iterate 2 refine vo ?_
  refine vnt ?_
  refine vc_sr ?_
  refine vo ?_
  refine voc c_impl_SuperOk rfl rfl ?_
  refine vo ?_
  refine vsp (fun g1 => ?_) (fun g1 => ?_)
  · iterate 5 refine von ?_
    iterate 2 refine vo ?_
    refine vnt ?_
    refine vc_ret ?_
    refine fin_i [] rfl (fz ?_) trivial
    simp_all
    try first | omega | (rw [Bool.eq_iff_iff]; simp; omega)
  · iterate 5 refine vof ?_
    iterate 2 refine vo ?_
    refine vnt ?_
    refine vc_ret ?_
    refine fin_i [] rfl (fz ?_) trivial
    simp_all
    try first | omega | (rw [Bool.eq_iff_iff]; simp; omega)
set_option maxHeartbeats 4000000 in
theorem c_spec_SuperOk {dm sm vl tos id ttl si di kind sp dp seq ack fl win : Int} {body : ByteArray} : Con0 Tryz.prog 52 [.agg [V dm, V sm, V vl, V tos, V id, V ttl, V si, V di, V kind, V sp, V dp, V seq, V ack, V fl, V win, VS body]] (B (superOkB dm sm vl tos id ttl si di kind sp dp seq ack fl win body.size)) [] := by
  refine con_i Tryz.func52 Tryz.ntmps52 (t := [(0, .agg [V dm, V sm, V vl, V tos, V id, V ttl, V si, V di, V kind, V sp, V dp, V seq, V ack, V fl, V win, VS body])]) rfl ?_
  refine vc_sr ?_
  iterate 2 refine vo ?_
  refine vnt ?_
  refine vc_seq' ?_
  refine vc_sr ?_
  iterate 2 refine vo ?_
  refine voc c_spec_l01In rfl rfl ?_
  iterate 2 refine vo ?_
  refine vsp (fun g1 => ?_) (fun g1 => ?_)
  · iterate 4 refine vof ?_
    iterate 2 refine vo ?_
    iterate 4 refine vof ?_
    iterate 2 refine vo ?_
    iterate 4 refine vof ?_
    iterate 2 refine vo ?_
    iterate 4 refine vof ?_
    iterate 2 refine vo ?_
    iterate 4 refine vof ?_
    iterate 2 refine vo ?_
    iterate 4 refine vof ?_
    iterate 2 refine vo ?_
    iterate 4 refine vof ?_
    iterate 2 refine vo ?_
    iterate 4 refine vof ?_
    refine vo ?_
    refine vnt ?_
    refine vc_then ?_
    refine vc_sr ?_
    refine vo ?_
    refine vnt ?_
    refine vc_ret ?_
    refine thn_r ?_
    refine fin_i [] rfl (fz ?_) trivial
    simp_all [superOkB]
    try first | omega | (rw [Bool.eq_iff_iff]; simp; omega)
  · iterate 2 refine von ?_
    refine vocn c_spec_l01In rfl rfl ?_
    refine von ?_
    iterate 2 refine vo ?_
    refine vsp (fun g2 => ?_) (fun g2 => ?_)
    · iterate 4 refine vof ?_
      iterate 2 refine vo ?_
      iterate 4 refine vof ?_
      iterate 2 refine vo ?_
      iterate 4 refine vof ?_
      iterate 2 refine vo ?_
      iterate 4 refine vof ?_
      iterate 2 refine vo ?_
      iterate 4 refine vof ?_
      iterate 2 refine vo ?_
      iterate 4 refine vof ?_
      iterate 2 refine vo ?_
      iterate 4 refine vof ?_
      refine vo ?_
      refine vnt ?_
      refine vc_then ?_
      refine vc_sr ?_
      refine vo ?_
      refine vnt ?_
      refine vc_ret ?_
      refine thn_r ?_
      refine fin_i [] rfl (fz ?_) trivial
      simp_all [superOkB]
      try first | omega | (rw [Bool.eq_iff_iff]; simp; omega)
    · iterate 2 refine von ?_
      refine vocn c_spec_l01In rfl rfl ?_
      refine von ?_
      iterate 2 refine vo ?_
      refine vsp (fun g3 => ?_) (fun g3 => ?_)
      · iterate 4 refine vof ?_
        iterate 2 refine vo ?_
        iterate 4 refine vof ?_
        iterate 2 refine vo ?_
        iterate 4 refine vof ?_
        iterate 2 refine vo ?_
        iterate 4 refine vof ?_
        iterate 2 refine vo ?_
        iterate 4 refine vof ?_
        iterate 2 refine vo ?_
        iterate 4 refine vof ?_
        refine vo ?_
        refine vnt ?_
        refine vc_then ?_
        refine vc_sr ?_
        refine vo ?_
        refine vnt ?_
        refine vc_ret ?_
        refine thn_r ?_
        refine fin_i [] rfl (fz ?_) trivial
        simp_all [superOkB]
        try first | omega | (rw [Bool.eq_iff_iff]; simp; omega)
      · iterate 2 refine von ?_
        refine vocn c_spec_l01In rfl rfl ?_
        refine von ?_
        iterate 2 refine vo ?_
        refine vsp (fun g4 => ?_) (fun g4 => ?_)
        · iterate 4 refine vof ?_
          iterate 2 refine vo ?_
          iterate 4 refine vof ?_
          iterate 2 refine vo ?_
          iterate 4 refine vof ?_
          iterate 2 refine vo ?_
          iterate 4 refine vof ?_
          iterate 2 refine vo ?_
          iterate 4 refine vof ?_
          refine vo ?_
          refine vnt ?_
          refine vc_then ?_
          refine vc_sr ?_
          refine vo ?_
          refine vnt ?_
          refine vc_ret ?_
          refine thn_r ?_
          refine fin_i [] rfl (fz ?_) trivial
          simp_all [superOkB]
          try first | omega | (rw [Bool.eq_iff_iff]; simp; omega)
        · iterate 2 refine von ?_
          refine vocn c_spec_l01In rfl rfl ?_
          refine von ?_
          iterate 2 refine vo ?_
          refine vsp (fun g5 => ?_) (fun g5 => ?_)
          · iterate 4 refine vof ?_
            iterate 2 refine vo ?_
            iterate 4 refine vof ?_
            iterate 2 refine vo ?_
            iterate 4 refine vof ?_
            iterate 2 refine vo ?_
            iterate 4 refine vof ?_
            refine vo ?_
            refine vnt ?_
            refine vc_then ?_
            refine vc_sr ?_
            refine vo ?_
            refine vnt ?_
            refine vc_ret ?_
            refine thn_r ?_
            refine fin_i [] rfl (fz ?_) trivial
            simp_all [superOkB]
            try first | omega | (rw [Bool.eq_iff_iff]; simp; omega)
          · iterate 2 refine von ?_
            refine vocn c_spec_l01In rfl rfl ?_
            refine von ?_
            iterate 2 refine vo ?_
            refine vsp (fun g6 => ?_) (fun g6 => ?_)
            · iterate 4 refine vof ?_
              iterate 2 refine vo ?_
              iterate 4 refine vof ?_
              iterate 2 refine vo ?_
              iterate 4 refine vof ?_
              refine vo ?_
              refine vnt ?_
              refine vc_then ?_
              refine vc_sr ?_
              refine vo ?_
              refine vnt ?_
              refine vc_ret ?_
              refine thn_r ?_
              refine fin_i [] rfl (fz ?_) trivial
              simp_all [superOkB]
              try first | omega | (rw [Bool.eq_iff_iff]; simp; omega)
            · iterate 2 refine von ?_
              refine vocn c_spec_l01In rfl rfl ?_
              refine von ?_
              iterate 2 refine vo ?_
              refine vsp (fun g7 => ?_) (fun g7 => ?_)
              · iterate 4 refine vof ?_
                iterate 2 refine vo ?_
                iterate 4 refine vof ?_
                refine vo ?_
                refine vnt ?_
                refine vc_then ?_
                refine vc_sr ?_
                refine vo ?_
                refine vnt ?_
                refine vc_ret ?_
                refine thn_r ?_
                refine fin_i [] rfl (fz ?_) trivial
                simp_all [superOkB]
                try first | omega | (rw [Bool.eq_iff_iff]; simp; omega)
              · iterate 2 refine von ?_
                refine vocn c_spec_l01In rfl rfl ?_
                refine von ?_
                iterate 2 refine vo ?_
                refine vsp (fun g8 => ?_) (fun g8 => ?_)
                · iterate 4 refine vof ?_
                  refine vo ?_
                  refine vnt ?_
                  refine vc_then ?_
                  refine vc_sr ?_
                  refine vo ?_
                  refine vnt ?_
                  refine vc_ret ?_
                  refine thn_r ?_
                  refine fin_i [] rfl (fz ?_) trivial
                  simp_all [superOkB]
                  try first | omega | (rw [Bool.eq_iff_iff]; simp; omega)
                · iterate 2 refine von ?_
                  refine vocn c_spec_SegmentOk rfl rfl ?_
                  refine von ?_
                  refine vo ?_
                  refine vnt ?_
                  refine vc_if (fun g9 => ?_) (fun g9 => ?_)
                  · refine vc_sr ?_
                    refine vo ?_
                    refine vnt ?_
                    refine vc_ret ?_
                    refine thn_r ?_
                    refine fin_i [] rfl (fz ?_) trivial
                    simp_all [superOkB]
                    try first | omega | (rw [Bool.eq_iff_iff]; simp; omega)
                  · have hf := segOk_fl g9
                    have hc := strm_c hf
                    refine vc_skip ?_
                    refine thn ?_
                    refine vc_sr ?_
                    iterate 5 refine vo ?_
                    refine vsp (fun g10 => ?_) (fun g10 => ?_)
                    · iterate 5 refine von ?_
                      iterate 2 refine vo ?_
                      refine vnt ?_
                      refine vc_sr ?_
                      iterate 2 refine vo ?_
                      refine vsp (fun g11 => ?_) (fun g11 => ?_)
                      · iterate 5 refine vof ?_
                        iterate 2 refine vo ?_
                        refine vnt ?_
                        refine vc_ret ?_
                        refine fin_i [] rfl (fz ?_) trivial
                        simp_all [superOkB]
                        try first | omega | (rw [Bool.eq_iff_iff]; simp; omega)
                      · iterate 5 refine von ?_
                        iterate 2 refine vo ?_
                        refine vnt ?_
                        refine vc_ret ?_
                        refine fin_i [] rfl (fz ?_) trivial
                        simp_all [superOkB]
                        try first | omega | (rw [Bool.eq_iff_iff]; simp; omega)
                    · iterate 5 refine vof ?_
                      iterate 2 refine vo ?_
                      refine vnt ?_
                      refine vc_sr ?_
                      iterate 2 refine vo ?_
                      iterate 5 refine von ?_
                      iterate 2 refine vo ?_
                      refine vnt ?_
                      refine vc_ret ?_
                      refine fin_i [] rfl (fz ?_) trivial
                      simp_all [superOkB]
                      try first | omega | (rw [Bool.eq_iff_iff]; simp; omega)
end Go.Proofs.YtfcmcedeapgdcaaGreat
end

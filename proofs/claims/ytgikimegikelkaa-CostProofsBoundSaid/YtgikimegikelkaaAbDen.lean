/- A machine of lists and tries, told by continuations over a heap that is a function: definitions. -/
import Derived.Test.YtgikimegikelkaaAb3
namespace Go.Proofs.Ytgikimegikelkaa.Ab
open Go

/-! ### The heap -/
structure Hp where
  g : Nat → Option Blk
  next : Nat
noncomputable def Hp.set (h : Hp) (b : Nat) (K : Blk) : Hp := ⟨fun x => if x = b then some K else h.g x, h.next⟩
noncomputable def Hp.new (h : Hp) (K : Blk) : Hp := ⟨fun x => if x = h.next then some K else h.g x, h.next + 1⟩
noncomputable def Hp.bump (h : Hp) : Hp := ⟨h.g, h.next + 1⟩

structure Sl where
  a : Option Addr
  n : Nat
  c : Nat

/-! ### Temporaries -/
structure TS where
  ov : List (Nat × Value)
  G : Tr Value
  marks : List Nat
noncomputable def look (l : List (Nat × Value)) (d : Nat) (z : Value) : Value :=
  List.rec (motive := fun _ => Value) z (fun p _ r => bc (Nat.beq p.1 d) p.2 r) l
noncomputable def TS.get (T : TS) (d : Nat) : Value := look T.ov d ((T.G.get d).getD (.tuple #[]))
noncomputable def TS.tr (T : TS) : Tr Value := List.rec (motive := fun _ => Tr Value) T.G (fun p _ t => t.set p.2 30 p.1) T.ov
noncomputable def TS.put (T : TS) (d : Nat) (v : Value) : TS := ⟨(d, v) :: T.ov, T.G, T.marks⟩
noncomputable def ev (T : TS) : Operand → Value
  | .tmp t => T.get t
  | .const v => bc (litV v) v junk
  | .global _ => junk
  | .func f => .func (.func f) #[] #[]

/-- What opEval does, by the operands' values alone. -/
noncomputable def opEvalG (E : Env) (ev : Operand → Value) (m : Mem) (o : Oper) : OpR :=
  match o.op with
  | .move x | .assign x => .val (ev x)
  | .pick c a b => (match ev c with | .bool t => .val (bif t then ev a else ev b) | _ => .bad)
  | .alloc e => (match E.info e with | some (_, i) => (match i.zero with | some z => .alloc (.row 0 z.cells.toList) (fun b => .pointer (some ⟨b, 0, none⟩)) | none => .bad) | none => .bad)
  | .box _ x => bif okp (ev x) then .alloc (.row 0 (ev x).cells.toList) (fun b => .pointer (some ⟨b, 0, none⟩)) else .bad
  | .build t parts => OpR.ofVal (opBuild E t (parts.toList.map fun (i, x) => (i, ev x)))
  | .buildSlice t n parts => OpR.ofAlloc (opBuildSlice E t n (parts.toList.map fun (i, x) => (i, ev x)))
  | .load t a => OpR.ofRead (opLoad E m t (ev a))
  | .store t a x => OpR.ofStore (opStore E m t (ev a) (ev x))
  | .nilCheck x => (match ev x with | .pointer (some ⟨b, o, none⟩) => .val (.pointer (some ⟨b, o, none⟩)) | _ => .bad)
  | .binOp op t x y _ => OpR.ofVal (binV E op t (ev x) (ev y))
  | .unOp op _ x => OpR.ofVal (unV op (ev x))
  | .convert s d x => (match E.info s, E.info d, ev x with | some _, some (.int k, _), .int _ n => .val (.int k (k.wrap n)) | _, _, _ => .bad)
  | .makeFunc fn first cap => (match fn with | .func f => .val (.func (.func f) (first.map (ev)) (cap.map (ev))) | _ => .bad)
  | .makeMap _ none => .alloc (.map [] 0) (fun b => .map (some b))
  | .makeSlice t l c => OpR.ofAlloc (opMakeSlice E t (ev l) (ev c))
  | .slice t x lo hi mx => OpR.ofVal (opSlice E t (ev x) (lo.map (ev)) (hi.map (ev)) (mx.map (ev)))
  | .fieldAddr s x f => OpR.ofVal (opFieldAddr E s (ev x) f)
  | .field s x f => OpR.ofVal (opField E s (ev x) f)
  | .indexAddr t x i => OpR.ofVal (opIndexAddr E t (ev x) (ev i))
  | .lookup t x k ok => OpR.ofRead (opLookup E m t (ev x) (ev k) ok)
  | .mapUpdate t x k v | .insert t x k v => OpR.ofStore (opMapUpdate E m t (ev x) (ev k) (ev v))
  | .extract x i => (match ev x with | .tuple vs => OpR.ofVal (nth vs.toList i) | _ => .bad)
  | .call c => (match c.callee with
    | .value f => (match ev f with | .func fn first cap => opCall first.toList (c.args.toList.map (ev)) cap.toList fn | _ => .bad)
    | .builtin b => opBuiltin E m b c.argTypes.toList (c.args.toList.map (ev))
    | _ => .bad)
  | _ => .bad
theorem opEval_G (E : Env) (T : Tr Value) (m : Mem) (o : Oper) : opEval E T m o = opEvalG E (evT T) m o := rfl

/-! ### Kinds of cells, and reading by them -/
inductive Ck where
  | int (k : IntKind) | bool | ptr | slc | map

noncomputable def kindOf : TypeDesc → Option Ck
  | .int k => some (.int k)
  | .bool => some .bool
  | .pointer _ => some .ptr
  | .slice _ => some .slc
  | .map _ _ => some .map
  | _ => none
noncomputable def replK (l : List Ck) : Nat → List Ck
  | 0 => []
  | n + 1 => l ++ replK l n
noncomputable def kindsF (f : Nat → Option (List Ck)) : List Field → Option (List Ck)
  | [] => some []
  | x :: l => match f x.type, kindsF f l with
    | some a, some b => some (a ++ b)
    | _, _ => none
noncomputable def kindsOf (E : Env) : Nat → Nat → Option (List Ck)
  | 0, _ => none
  | f + 1, t => match E.info t with
    | some (.struct fs, _) => kindsF (kindsOf E f) fs.toList
    | some (.array n e, _) => (match kindsOf E f e with | some l => some (replK l n) | none => none)
    | some (d, _) => (match kindOf d with | some k => some [k] | none => none)
    | none => none

noncomputable def asI (k : IntKind) : Option Value → Option Int
  | some (.int k' x) => bif sameKind k' k then some x else none
  | _ => none
noncomputable def asB : Option Value → Option Bool
  | some (.bool b) => some b
  | _ => none
noncomputable def asP : Option Value → Option (Nat × Nat)
  | some (.pointer (some ⟨b, o, none⟩)) => some (b, o)
  | _ => none
noncomputable def asS : Option Value → Option Sl
  | some (.slice none n c) => some ⟨none, n, c⟩
  | some (.slice (some ⟨b, o, none⟩) n c) => some ⟨some ⟨b, o, none⟩, n, c⟩
  | _ => none
noncomputable def asS0 : Option Value → Option Sl
  | some (.slice a n c) => some ⟨a, n, c⟩
  | _ => none
noncomputable def asM : Option Value → Option Nat
  | some (.map (some b)) => some b
  | _ => none
noncomputable def asF (g n : Nat) : Option Value → Option (List Value)
  | some (.func (.func g') first cap) => bif Nat.beq g' g && Nat.beq first.size 0 && Nat.beq cap.size n then some cap.toList else none
  | _ => none
noncomputable def asY : Option Value → Option Nat
  | some (.func (.yield l) first cap) => bif Nat.beq first.size 0 && Nat.beq cap.size 0 then some l else none
  | _ => none

section
variable {R : Type}
noncomputable def castK (k : Ck) (v : Option Value) (K : Value → Option R) : Option R :=
  match k with
  | .int i => (asI i v).bind fun x => K (.int i x)
  | .bool => (asB v).bind fun b => K (.bool b)
  | .ptr => (asP v).bind fun p => K (.pointer (some ⟨p.1, p.2, none⟩))
  | .slc => (asS v).bind fun s => K (.slice s.a s.n s.c)
  | .map => (asM v).bind fun b => K (.map (some b))
noncomputable def castL (f : Nat → Option Value) (l : List Ck) : Nat → (List Value → Option R) → Option R :=
  List.rec (motive := fun _ => Nat → (List Value → Option R) → Option R) (fun _ K => K [])
    (fun k _ r j K => castK k (f j) fun v => r (j + 1) fun vs => K (v :: vs)) l
noncomputable def fnK (g : Nat) (ks : List Ck) (v : Option Value) (K : Value → Option R) : Option R :=
  (asF g ks.length v).bind fun cs => castL (fun j => nth cs j) ks 0 fun vs => K (.func (.func g) #[] vs.toArray)

/-- As castK, but a slice's address is not looked at. -/
noncomputable def castK0 (k : Ck) (v : Option Value) (K : Value → Option R) : Option R :=
  match k with
  | .int i => (asI i v).bind fun x => K (.int i x)
  | .bool => (asB v).bind fun b => K (.bool b)
  | .ptr => (asP v).bind fun p => K (.pointer (some ⟨p.1, p.2, none⟩))
  | .slc => (asS0 v).bind fun s => K (.slice s.a s.n s.c)
  | .map => (asM v).bind fun b => K (.map (some b))
noncomputable def castL0 (f : Nat → Option Value) (l : List Ck) : Nat → (List Value → Option R) → Option R :=
  List.rec (motive := fun _ => Nat → (List Value → Option R) → Option R) (fun _ K => K [])
    (fun k _ r j K => castK0 k (f j) fun v => r (j + 1) fun vs => K (v :: vs)) l
inductive Sh where
  | cell (k : Ck)
  | agg (ks : List Ck)
  | fn (g : Nat) (ks : List Ck)
  | yld
noncomputable def asA (n : Nat) : Option Value → Option (List Value)
  | some (.agg cs) => bif Nat.beq cs.size n then some cs.toList else none
  | _ => none
noncomputable def asTup (n : Nat) : Value → Option (List Value)
  | .tuple cs => bif Nat.beq cs.size n then some cs.toList else none
  | _ => none
noncomputable def castS (s : Sh) (v : Option Value) (K : Value → Option R) : Option R :=
  match s with
  | .cell k => castK0 k v K
  | .agg ks => (asA ks.length v).bind fun cs => castL0 (fun j => nth cs j) ks 0 fun vs => K (.agg vs.toArray)
  | .fn g ks => (asF g ks.length v).bind fun cs => castL0 (fun j => nth cs j) ks 0 fun vs => K (.func (.func g) #[] vs.toArray)
  | .yld => (asY v).bind fun l => K (.func (.yield l) #[] #[])
noncomputable def castSL (f : Nat → Option Value) (l : List Sh) : Nat → (List Value → Option R) → Option R :=
  List.rec (motive := fun _ => Nat → (List Value → Option R) → Option R) (fun _ K => K [])
    (fun s _ r j K => castS s (f j) fun v => r (j + 1) fun vs => K (v :: vs)) l
/-- A call's result, by its shape: none, one value, several. -/
noncomputable def castR (l : List Sh) (v : Value) (K : Value → Option R) : Option R :=
  match l with
  | [] => (asTup 0 v).bind fun _ => K (.tuple #[])
  | [s] => castS s (some v) K
  | l => (asTup l.length v).bind fun cs => castSL (fun j => nth cs j) l 0 fun vs => K (.tuple vs.toArray)

noncomputable def ckB (c : Bool) (K : Option R) : Option R := bc c K none
noncomputable def ckN (a b : Nat) (K : Option R) : Option R := if a = b then K else none
noncomputable def lt {α : Type} (x : α) (f : α → Option R) : Option R := f x
open Classical in
noncomputable def ckE (a b : Option Blk) (K : Option R) : Option R := if a = b then K else none

/-! ### Heap words -/
noncomputable def rd (h : Hp) (b o : Nat) : Option Value :=
  match h.g b with
  | some (.row _ cs) => nth cs o
  | some (.ro f) => f o
  | _ => none
noncomputable def wr (h : Hp) (b o : Nat) (vs : List Value) : Option Hp :=
  match h.g b with
  | some (.row sz cs) => (match putN cs o vs with | some r => some (h.set b (.row sz r)) | none => none)
  | _ => none
noncomputable def ixA (a : Option Addr) (len sz : Nat) (i : Int) : Option (Nat × Nat) :=
  match a with
  | some ⟨b, o, none⟩ => bif decide (0 ≤ i) && decide (i < (len : Int)) then some (b, o + i.toNat * sz) else none
  | _ => none
noncomputable def slA (a : Option Addr) (cap sz : Nat) (l u : Int) : Option Sl :=
  bif decide (0 ≤ l) && decide (l ≤ u) && decide (u ≤ (cap : Int)) then
    (match a with
    | some ⟨b, o, none⟩ => some ⟨some ⟨b, o + l.toNat * sz, none⟩, u.toNat - l.toNat, cap - l.toNat⟩
    | none => some ⟨none, u.toNat - l.toNat, cap - l.toNat⟩
    | _ => none)
  else none
noncomputable def srcH (h : Hp) (src : Option Addr) (k : Nat) : Option (List Value) :=
  match src with
  | some ⟨b, o, none⟩ => (match h.g b with
    | some (.row _ cs) => takeN k (dropN o cs)
    | some (.ro f) => roN f k o
    | _ => none)
  | none => some []
  | _ => none
noncomputable def appS (h : Hp) (size : Nat) (base : Option Addr) (len cap : Nat) (src : Option Addr) (n : Nat) : Option (Sl × Hp) :=
  match srcH h src (n * size) with
  | some new =>
    bif Nat.ble (len + n) cap then
      (match base with
      | some ⟨b, o, none⟩ => (match h.g b with
        | some (.row sz cs) => (match putN cs (o + len * size) new with
          | some r => some (⟨base, len + n, cap⟩, h.set b (.row sz r))
          | none => none)
        | _ => none)
      | none => bif Nat.beq n 0 then some (⟨none, len + n, cap⟩, h) else none
      | _ => none)
    else bif Nat.ble (len + n) 1048576 && Nat.ble 1 new.length then
      (match base with
      | some ⟨b, o, none⟩ => (match h.g b with
        | some (.row sz cs) => (match takeN (len * size) (dropN o cs) with
          | some old => bif Nat.beq sz size && Nat.beq cs.length (o + cap * size) then some (⟨some ⟨h.next, 0, none⟩, len + n, len + n⟩, (h.set b .dead).new (.row size (old ++ new))) else none
          | none => none)
        | _ => none)
      | none => bif Nat.beq len 0 then some (⟨some ⟨h.next, 0, none⟩, n, n⟩, h.new (.row size new)) else none
      | _ => none)
    else none
  | none => none
noncomputable def copyS (h : Hp) (size : Nat) (dst : Option Addr) (dl : Nat) (src : Option Addr) (sl : Nat) : Option (Nat × Hp) :=
  match srcH h src (Nat.min sl dl * size) with
  | some new =>
    (match dst with
    | some ⟨b, o, none⟩ => (match h.g b with
      | some (.row sz cs) => (match putN cs o new with
        | some r => some (Nat.min sl dl, h.set b (.row sz r))
        | none => none)
      | _ => none)
    | none => some (Nat.min sl dl, h)
    | _ => none)
  | none => none
noncomputable def clrS (h : Hp) (zs : List Value) (base : Option Addr) (n : Nat) : Option Hp :=
  bif Nat.beq n 0 then some h else
  (match base with
  | some ⟨b, o, none⟩ => (match h.g b with
    | some (.row sz cs) => (match putN cs o (repl zs n) with
      | some r => some (h.set b (.row sz r))
      | none => none)
    | _ => none)
  | none => some h
  | _ => none)
noncomputable def mgI (h : Hp) (b : Nat) (key : Value) (k : IntKind) (z : Int) : Option (Int × Bool) :=
  match h.g b with
  | some (.map es _) => (match findE key es 0 with
    | some (some (_, .int k' x)) => bif sameKind k' k then some (x, true) else none
    | some none => some (z, false)
    | _ => none)
  | _ => none
noncomputable def mgB (h : Hp) (b : Nat) (key : Value) (z : Bool) : Option (Bool × Bool) :=
  match h.g b with
  | some (.map es _) => (match findE key es 0 with
    | some (some (_, .bool x)) => some (x, true)
    | some none => some (z, false)
    | _ => none)
  | _ => none
noncomputable def mput (h : Hp) (b : Nat) (k v : Value) : Option Hp :=
  match h.g b with
  | some (.map es clock) => (match findE k es 0 with
    | some (some (i, _)) => some (h.set b (.map (setVal v k es i) clock))
    | some none => some (h.set b (.map (es ++ [{ key := k, val := v, born := clock }]) (clock + 1)))
    | none => none)
  | _ => none
noncomputable def mlen (h : Hp) (b : Nat) : Option Nat :=
  match h.g b with
  | some (.map es _) => some es.length
  | _ => none

/-! ### Loops over functions -/
noncomputable def stub (st : LoopState) (pend : Option Code) : Blk := .loop st pend 0 .nil 0 [] .skip .skip 0
noncomputable def isL (h : Hp) (l : Nat) : Bool :=
  match h.g l with
  | some (.loop _ _ _ _ _ _ _ _ _) => true
  | _ => false
noncomputable def begL (h : Hp) (l : Nat) : Option Hp :=
  match h.g l with
  | some (.loop .ready pend _ _ _ _ _ _ _) => some (h.set l (stub .busy pend))
  | _ => none
noncomputable def finL (h : Hp) (l : Nat) (jump : Option Code) : Option Hp :=
  match h.g l with
  | some (.loop _ _ _ _ _ _ _ _ _) => some (h.set l (stub (match jump with | none => .ready | some _ => .done) jump))
  | _ => none
noncomputable def endL (h : Hp) (l : Nat) : Option (Option Code × Hp) :=
  match h.g l with
  | some (.loop st pend _ _ _ _ _ _ _) => (match st with
    | .busy => none
    | _ => some (pend, h.set l (stub .exhausted pend)))
  | _ => none
noncomputable def takeM (h : Hp) (l : List Nat) : Option Hp :=
  List.rec (motive := fun _ => Hp → Option Hp) (fun h => some h)
    (fun b _ r h => match h.g b with
      | some .defs => r (h.set b .dead)
      | _ => none) l h
noncomputable def isN : Option Code → Bool
  | none => true
  | _ => false
noncomputable def isJ : Code → Option Code → Bool
  | .exit a, some (.exit b) => Nat.beq a b
  | .goto a, some (.goto b) => Nat.beq a b
  | .ret, some .ret => true
  | _, _ => false
noncomputable def selJ (js : List Code) (pend : Option Code) (KJ : Code → Option R) : Option R :=
  List.rec (motive := fun _ => Option R) none (fun j _ r => bc (isJ j pend) (KJ j) r) js
/-- The jumps that a text holds. -/
noncomputable def jumpsOf : Code → List Code := fun c =>
  Code.rec (motive := fun _ => List Code) [] (fun _ _ _ => []) (fun _ _ a b => a ++ b) (fun _ _ _ a b => a ++ b) (fun _ _ a => a) (fun _ a => a) (fun _ _ _ _ a b => a ++ b)
    (fun id => [.exit id]) (fun _ a => a) (fun _ => []) (fun l => [.goto l]) [.ret] (fun _ => []) c
/-- How many loops a text holds, of both kinds. -/
noncomputable def nl : Code → Nat := fun c =>
  Code.rec (motive := fun _ => Nat) 0 (fun _ _ _ => 0) (fun _ _ a b => a + b) (fun _ _ _ a b => a + b) (fun _ _ a => a) (fun _ a => a + 1) (fun _ _ _ _ _ _ => 1)
    (fun _ => 0) (fun _ a => a + 1) (fun _ => 0) (fun _ => 0) 0 (fun _ => 0) c
/-- The first label of a text, and what stands behind it. -/
noncomputable def firstL : Code → Option (Nat × Code) := fun c =>
  Code.rec (motive := fun _ => Option (Nat × Code)) none (fun _ _ _ => none) (fun _ b fa fb => match fa with | some p => some (p.1, .seq p.2 b) | none => fb) (fun _ _ _ _ _ => none) (fun _ _ _ => none) (fun _ _ => none) (fun _ _ _ _ _ _ => none)
    (fun _ => none) (fun _ _ => none) (fun l => some (l, .skip)) (fun _ => none) none (fun _ => none) c

/-! ### One operation -/
noncomputable def loadK (E : Env) (hn : Option (Nat × List Ck)) (h : Hp) (t b o : Nat) (K : Value → Option R) : Option R :=
  match E.info t with
  | some (d, i) =>
    bif isAggD d then
      (match kindsOf E 6 t with
      | some ks => bif Nat.beq ks.length i.size && Nat.ble 1 i.size then castL (fun j => rd h b (o + j)) ks 0 (fun vs => K (.agg vs.toArray)) else none
      | none => none)
    else (match hn with
      | some (g, ks) => fnK g ks (rd h b o) K
      | none => (match kindOf d with
        | some k => castK k (rd h b o) K
        | none => none))
  | none => none
noncomputable def intV : Value → Option Int
  | .int _ x => some x
  | _ => none

noncomputable def direct : Op → Bool
  | .move _ | .assign _ | .alloc _ | .box _ _ | .build _ _ | .buildSlice _ _ _ | .nilCheck _ | .unOp _ _ _ | .convert _ _ _ | .makeMap _ none | .fieldAddr _ _ _ | .field _ _ _ | .extract _ _ => true
  | .binOp .quo _ _ _ _ | .binOp .rem _ _ _ _ | .binOp .eql _ _ _ _ | .binOp .neq _ _ _ _ => false
  | .binOp _ _ _ _ _ => true
  | _ => false

noncomputable def eqAll : List Value → List Value → Option Bool
  | [], [] => some true
  | .int k a :: l, .int k' b :: r => bif sameKind k k' then (match eqAll l r with | some c => some (a == b && c) | none => none) else none
  | _, _ => none
/-- Are two values equal? -/
noncomputable def eqB (E : Env) (t : Nat) (x y : Value) : Option Bool :=
  match x, y with
  | .slice a _ _, .slice none _ _ => (match E.info t with | some (.slice _, _) => some a.isNone | _ => none)
  | .agg xs, .agg ys => (match E.info t with | some (.struct fs, _) => bif flatFields E fs.toList 0 && Nat.beq fs.size xs.size && Nat.beq fs.size ys.size then eqAll xs.toList ys.toList else none | _ => none)
  | x, y => (match binV E .eql t x y with | some (.bool b) => some b | _ => none)
noncomputable def opK (E : Env) (hint : Nat → Option (Nat × List Ck)) (T : TS) (h : Hp) (o : Oper) (KV : Value → Option R) (KR : Nat → Value → Option R) (KA : Blk → (Nat → Value) → Option R) (KW : Value → Hp → Option R) (KC : CallTo → List Value → Option R) : Option R :=
  bif direct o.op then
    (match opEvalG E (ev T) ⟨.nil, 0⟩ o with
    | .val v => KV v
    | .alloc k mk => KA k mk
    | _ => none)
  else
  match o.op with
  | .makeFunc fn first cap => (match fn with | .func f => KV (.func (.func f) (first.toList.map (ev T)).toArray (cap.toList.map (ev T)).toArray) | _ => none)
  | .pick c a b => (match ev T c with | .bool t => bc t (KV (ev T a)) (KV (ev T b)) | _ => none)
  | .load t a => (match ev T a with
    | .pointer (some ⟨b, off, none⟩) => loadK E (match o.dst with | some d => hint d | none => none) h t b off (KR b)
    | _ => none)
  | .store t a x => (match ev T a, E.info t with
    | .pointer (some ⟨b, off, none⟩), some (_, i) =>
      bif okp (ev T x) && Nat.beq (ev T x).cells.toList.length i.size && Nat.ble 1 i.size then (wr h b off (ev T x).cells.toList).bind fun h1 => KW (.tuple #[]) h1 else none
    | _, _ => none)
  | .binOp .eql t x y _ => (match eqB E t (ev T x) (ev T y) with | some b => KV (.bool b) | none => none)
  | .binOp .neq t x y _ => (match eqB E t (ev T x) (ev T y) with | some b => KV (.bool (!b)) | none => none)
  | .binOp op _ x y _ => (match ev T x, ev T y with
    | .int k a, .int k' b => bif sameKind k k' then ckB (!(b == 0)) (match op with
        | .quo => KV (.int k (k.wrap (a.tdiv b)))
        | .rem => KV (.int k (a.tmod b))
        | _ => none) else none
    | _, _ => none)
  | .indexAddr t x ix => (match E.info t, ev T x, ev T ix with
    | some (.slice e, _), .slice a len _, .int _ i => (match E.info e with
      | some (_, ei) => (ixA a len ei.size i).bind fun p => KV (.pointer (some ⟨p.1, p.2, none⟩))
      | none => none)
    | some (.array n e, _), .pointer (some ⟨b, off, none⟩), .int _ i => (match E.info e with
      | some (_, ei) => ckB (decide (0 ≤ i) && decide (i < (n : Int))) (KV (.pointer (some ⟨b, off + i.toNat * ei.size, none⟩)))
      | none => none)
    | _, _, _ => none)
  | .slice t x lo hi none => (match sliceElem E t, ev T x with
    | some (_, size, _, _), .slice a len cap => (match (match lo with | none => some 0 | some l => intV (ev T l)), (match hi with | none => some (len : Int) | some u => intV (ev T u)) with
      | some l, some u => (slA a cap size l u).bind fun s => KV (.slice s.a s.n s.c)
      | _, _ => none)
    | _, _ => none)
  | .lookup t x k ok => (match E.info t, ev T x with
    | some (.map kt et, _), .map (some b) => (match E.info et with
      | some (_, ei) => bif keyOk E kt (ev T k) then (match ei.zero with
        | some (.int ki z) => bif sameKind ki ki then (mgI h b (ev T k) ki z).bind fun p => KR b (bif ok then .tuple #[.int ki p.1, .bool p.2] else .int ki p.1) else none
        | some (.bool z) => (mgB h b (ev T k) z).bind fun p => KR b (bif ok then .tuple #[.bool p.1, .bool p.2] else .bool p.1)
        | _ => none) else none
      | none => none)
    | _, _ => none)
  | .mapUpdate t x k v | .insert t x k v => (match E.info t, ev T x with
    | some (.map kt _, _), .map (some b) => bif keyOk E kt (ev T k) then (mput h b (ev T k) (ev T v)).bind fun h1 => KW (.tuple #[]) h1 else none
    | _, _ => none)
  | .makeSlice t l c => (match sliceElem E t, ev T l, ev T c with
    | some (_, size, bytes, zs), .int _ l, .int _ c => bif Nat.ble bytes 1048576 then
      ckB (decide (0 ≤ l) && decide (l ≤ c) && decide (c ≤ 1048576)) (KA (.row size (repl zs c.toNat)) (fun b => .slice (some ⟨b, 0, none⟩) l.toNat c.toNat)) else none
    | _, _, _ => none)
  | .call c => (match c.callee with
    | .value f => (match ev T f with
      | .func fn first cap => (match fn with
        | .func g => KC (.fn g) (first.toList ++ c.args.toList.map (ev T) ++ cap.toList)
        | .yield l => KC (.yield l) (first.toList ++ c.args.toList.map (ev T))
        | _ => none)
      | _ => none)
    | .builtin b => (match b, c.argTypes.toList, c.args.toList.map (ev T) with
      | .len, [t], [.slice _ n _] => (match E.info t with | some (.slice _, _) => KV (.int .i64 n) | _ => none)
      | .len, [t], [.map (some b)] => (match E.info t with | some (.map _ _, _) => (mlen h b).bind fun n => KR b (.int .i64 n) | _ => none)
      | .min, _, .int k a :: l => (match minL a l k with | some n => KV (.int k n) | none => none)
      | .max, _, .int k a :: l => (match maxL a l k with | some n => KV (.int k n) | none => none)
      | .append, [t, t2], [.slice base len cap, .slice src n _] => (match sliceElem E t, sliceElem E t2 with
        | some (_, size, bytes, _), some _ => bif Nat.ble bytes 1048576 then (appS h size base len cap src n).bind fun p => KW (.slice p.1.a p.1.n p.1.c) p.2 else none
        | _, _ => none)
      | .copy, t :: _, [.slice dst dl _, .slice src sl _] => (match sliceElem E t with
        | some (_, size, _, _) => (copyS h size dst dl src sl).bind fun p => KW (.int .i64 p.1) p.2
        | none => none)
      | .clear, [t], [.slice base n _] => (match sliceElem E t with
        | some (_, _, _, zs) => (clrS h zs base n).bind fun h1 => KW (.tuple #[]) h1
        | none => none)
      | _, _, _ => none)
    | _ => none)
  | _ => none
end

/-! ### Regions, texts -/
/-- What a frame is told: types, its size, what its calls do. -/
structure Ctx (R : Type) where
  E : Env
  size : Nat
  hint : Nat → Option (Nat × List Ck)
  tbl : CallTo → List Value → Hp → (Value → Hp → Option R) → Option R
  itK : Nat → Nat → List Value → (List Value → Hp → Option (Bool × Hp)) → Hp → (Value → Hp → Option R) → Option R
  LP : Nat → TS → Hp → Option R
  YO : Nat → TS → Nat → List Value → Hp → Option (Bool × Hp)

section
variable {R : Type}
noncomputable def putK (size : Nat) (T : TS) (dst : Option Tmp) (v : Value) (K : TS → Option R) : Option R :=
  match dst with
  | none => K T
  | some d => bif Nat.ble (d + 1) size && Nat.ble d 65535 then K (T.put d v) else none
noncomputable def guardK (all : List Oper) (T : TS) (o : Oper) (A B : TS → Option R) : Option R :=
  match o.guard with
  | none => A T
  | some (j, want) => (match nth all j with
    | some oj => (match oj.dst with
      | some t => (match T.get t with
        | .bool b => bif Nat.ble t 65535 then bc (bif want then b else !b) (A (T.put t (.bool want))) (B (T.put t (.bool (!want)))) else none
        | .tuple vs => (match vs.toList with | [] => B T | _ => none)
        | _ => none)
      | none => B T)
    | none => B T)

noncomputable def opsK (C : Ctx R) (all : List Oper) (l : List Oper) : TS → Hp → (TS → Hp → Option R) → Option R :=
  List.rec (motive := fun _ => TS → Hp → (TS → Hp → Option R) → Option R) (fun T h K => K T h)
    (fun o _ g T h K => guardK all T o
      (fun T => opK C.E C.hint T h o (fun v => putK C.size T o.dst v fun T1 => g T1 h K) (fun _ v => putK C.size T o.dst v fun T1 => g T1 h K)
        (fun k mk => putK C.size T o.dst (mk h.next) fun T1 => g T1 (h.new k) K) (fun v h1 => putK C.size T o.dst v fun T1 => g T1 h1 K)
        (fun c args => C.tbl c args h fun v h1 => putK C.size T o.dst v fun T1 => g T1 h1 K))
      (fun T => putK C.size T o.dst (.tuple #[]) fun T1 => g T1 h K)) l

structure DD where
  T : TS
  h : Hp
  rs : List (Nat × Nat × Option Blk)
  as : List ARec
  ws : List (Nat × Hp)
noncomputable def layH (sel : Nat → Bool) (l : List ARec) : Hp → Hp :=
  List.rec (motive := fun _ => Hp → Hp) (fun h => h) (fun a _ g h => g (bif sel a.i then h.set a.id a.k else h)) l
noncomputable def ckR (mask : Nat) (h1 : Hp) (rs : List (Nat × Nat × Option Blk)) (K : Option R) : Option R :=
  List.rec (motive := fun _ => Option R) K (fun r _ g => bif has mask r.1 then g else ckE (h1.g r.2.1) r.2.2 g) rs
noncomputable def ckW (mask : Nat) (b : Nat) (B : Option Blk) (ws : List (Nat × Hp)) (K : Option R) : Option R :=
  List.rec (motive := fun _ => Option R) K (fun w _ g => bif has mask w.1 then g else ckE (w.2.g b) B g) ws
noncomputable def allW (mask : Nat) (ws : List (Nat × Hp)) : Bool :=
  List.rec (motive := fun _ => Bool) true (fun w _ g => has mask w.1 && g) ws
noncomputable def keepA (mask : Nat) (as : List ARec) : List ARec :=
  List.rec (motive := fun _ => List ARec) [] (fun a _ g => bif has mask a.i then g else a :: g) as
noncomputable def drawWK (C : Ctx R) (i : Nat) (o : Oper) (mask : Nat) (D : DD) (v : Value) (h1 : Hp) (K : DD → Option R) : Option R :=
  bif allW mask D.ws then ckR mask h1 D.rs (putK C.size D.T o.dst v fun T1 => K ⟨T1, h1, D.rs, keepA mask D.as, (i, D.h) :: D.ws⟩) else none
noncomputable def drawK (C : Ctx R) (base i : Nat) (o : Oper) (mask : Nat) (D : DD) (K : DD → Option R) : Option R :=
  opK C.E (fun _ => none) D.T (layH (has mask) D.as D.h) o
    (fun v => putK C.size D.T o.dst v fun T1 => K ⟨T1, D.h, D.rs, D.as, D.ws⟩)
    (fun b v => ckB (Nat.ble (b + 1) base) (ckW mask b ((layH (has mask) D.as D.h).g b) D.ws (putK C.size D.T o.dst v fun T1 => K ⟨T1, D.h, (i, b, (layH (has mask) D.as D.h).g b) :: D.rs, D.as, D.ws⟩)))
    (fun k mk => putK C.size D.T o.dst (mk D.h.next) fun T1 => K ⟨T1, D.h.bump, D.rs, ⟨i, D.h.next, k⟩ :: D.as, D.ws⟩)
    (fun v h1 => drawWK C i o mask D v h1 K)
    (fun c args => C.tbl c args (layH (has mask) D.as D.h) fun v h1 => drawWK C i o mask D v h1 K)
noncomputable def drawsK (C : Ctx R) (all : List Oper) (base : Nat) (l : List Oper) : Nat → List Nat → DD → (DD → Option R) → Option R :=
  List.rec (motive := fun _ => Nat → List Nat → DD → (DD → Option R) → Option R) (fun _ _ D K => K D)
    (fun o _ g i ms D K => match ms with
      | mask :: ms => guardK all D.T o
        (fun T => drawK C base i o mask { D with T := T } fun D1 => g (i + 1) ms D1 K)
        (fun T => putK C.size T o.dst (.tuple #[]) fun T1 => g (i + 1) ms { D with T := T1 } K)
      | [] => none) l
noncomputable def regionK (C : Ctx R) (ops : List Oper) (draw : Bool) (T : TS) (h : Hp) (K : TS → Hp → Option R) : Option R :=
  bif draw then
    (bif okStatic ops && Nat.ble C.size 65535 then drawsK C ops h.next ops 0 (masksOf ops) ⟨T, h, [], [], []⟩ fun D => K D.T (layH (fun _ => true) D.as D.h) else none)
  else opsK C ops ops T h K

noncomputable def exitX (id : Nat) (K : TS → Hp → Option R) (X : Code → TS → Hp → Option R) (j : Code) : TS → Hp → Option R :=
  match j with
  | .exit id' => fun T h => bc (Nat.beq id' id) (K T h) (X (.exit id') T h)
  | j => X j

/-- A jump to the label of a scope begins its text anew behind it. -/
noncomputable def gotoX (b : Code) (G : TS → Hp → Option R) (X : Code → TS → Hp → Option R) (j : Code) : TS → Hp → Option R :=
  match j with
  | .goto l => (match firstL b with | some p => (fun T h => bc (Nat.beq p.1 l) (G T h) none) | none => X (.goto l))
  | j => X j

abbrev DenTy (R : Type) := Nat → (TS → Hp → Option R) → (Code → TS → Hp → Option R) → TS → Hp → Option R
noncomputable def rangeK (C : Ctx R) (js : List Code) (f : Operand) (i : Nat) (K : TS → Hp → Option R) (X : Code → TS → Hp → Option R) (T : TS) (h : Hp) : Option R :=
  match ev T f with
  | .func (.func g) first cap =>
    C.itK g (h.next + 1) (first.toList ++ (.func (.yield (h.next + 1)) #[] #[]) :: cap.toList) (C.YO i T (h.next + 1)) ((h.new .defs).new (stub .ready none)) fun _ h2 =>
      (endL h2 (h.next + 1)).bind fun p => bc (isN p.1) (K { T with marks := h.next :: T.marks } p.2) (selJ js p.1 fun j => X j { T with marks := h.next :: T.marks } p.2)
  | _ => none
noncomputable def denC (C : Ctx R) (c : Code) : DenTy R :=
  Code.rec (motive := fun _ => DenTy R)
    (fun _ K _ T h => K T h)
    (fun _ ops draw _ K _ T h => regionK C ops.toList draw T h K)
    (fun a _ ra rb i K X => ra i (rb (i + nl a) K X) X)
    (fun c t _ rt re i K X T h => match ev T c with | .bool b => bc b (rt i K X T h) (re (i + nl t) K X T h) | _ => none)
    (fun id _ rb i K X => rb i K (exitX id K X))
    (fun _ _ i _ _ T h => C.LP i T h)
    (fun f _ a b _ _ i K X T h => rangeK C (jumpsOf a ++ jumpsOf b) f i K X T h)
    (fun id _ _ X T h => X (.exit id) T h)
    (fun b rb i K X => rb (i + 1) K (gotoX b (C.LP i) X))
    (fun _ _ K _ T h => K T h)
    (fun l _ _ X T h => X (.goto l) T h)
    (fun _ _ X T h => X .ret T h)
    (fun _ _ _ _ _ _ => none) c

/-- The bodies of the loops of a text. -/
noncomputable def loopsC (C : Ctx R) (c : Code) : Nat → (TS → Hp → Option R) → (Code → TS → Hp → Option R) → List (TS → Hp → Option R) :=
  Code.rec (motive := fun _ => Nat → (TS → Hp → Option R) → (Code → TS → Hp → Option R) → List (TS → Hp → Option R))
    (fun _ _ _ => [])
    (fun _ _ _ _ _ _ => [])
    (fun a b ra rb i K X => ra i (denC C b (i + nl a) K X) X ++ rb (i + nl a) K X)
    (fun _ t _ rt re i K X => rt i K X ++ re (i + nl t) K X)
    (fun id _ rb i K X => rb i K (exitX id K X))
    (fun b rb i _ X => denC C b (i + 1) (C.LP i) X :: rb (i + 1) (C.LP i) X)
    (fun _ _ _ _ _ _ _ _ _ => [fun _ _ => none])
    (fun _ _ _ _ => [])
    (fun b rb i K X => (match firstL b with | some p => denC C p.2 (i + 1 + (nl b - nl p.2)) K (gotoX b (C.LP i) X) | none => fun _ _ => none) :: rb (i + 1) K (gotoX b (C.LP i) X))
    (fun _ _ _ _ => [])
    (fun _ _ _ _ => [])
    (fun _ _ _ => [])
    (fun _ _ _ _ => []) c

noncomputable def resK (E : Env) (T : TS) (h : Hp) (l : List ResultVar) : (List Value → Option R) → Option R :=
  List.rec (motive := fun _ => (List Value → Option R) → Option R) (fun K => K [])
    (fun r _ g K => match r with
      | .tmp t => g fun vs => K (T.get t :: vs)
      | .cell a t => (match T.get a with
        | .pointer (some ⟨b, o, none⟩) => loadK E none h t b o fun v => g fun vs => K (v :: vs)
        | _ => none)) l
noncomputable def retK (E : Env) (res : List ResultVar) (K0 : Value → Hp → Option R) (T : TS) (h : Hp) : Option R :=
  (takeM h T.marks).bind fun h1 => resK E T h1 res fun vs => K0 (oneOf vs) h1
noncomputable def retX (E : Env) (res : List ResultVar) (K0 : Value → Hp → Option R) (j : Code) : TS → Hp → Option R :=
  match j with
  | .ret => retK E res K0
  | _ => fun _ _ => none
noncomputable def argsO (args : List Value) : Nat → List (Nat × Value) → List (Nat × Value) :=
  List.rec (motive := fun _ => Nat → List (Nat × Value) → List (Nat × Value)) (fun _ l => l) (fun v _ g i l => g (i + 1) ((i, v) :: l)) args
noncomputable def denF (C : Ctx R) (F : Func) (args : List Value) (h : Hp) (K0 : Value → Hp → Option R) : Option R :=
  match F.body with
  | some body => bif Nat.ble args.length 65535 then denC C body 0 (retK C.E F.results.toList K0) (retX C.E F.results.toList K0) ⟨argsO args 0 [], .nil, []⟩ h else none
  | none => none
noncomputable def loopF' (C : Ctx R) (F : Func) (K0 : Value → Hp → Option R) (i : Nat) : TS → Hp → Option R :=
  match F.body with
  | some body => (match nth (loopsC C body 0 (retK C.E F.results.toList K0) (retX C.E F.results.toList K0)) i with | some B => B | none => fun _ _ => none)
  | none => fun _ _ => none
end

/-- A round of a loop over a function. -/
noncomputable def finY (l : Nat) (j : Option Code) (T : TS) (h : Hp) : Option (Bool × Hp) :=
  match T.marks with
  | [] => (finL h l j).bind fun h1 => some (isN j, h1)
  | _ => none
noncomputable def setY (ps : List Nat) (size : Nat) : List Value → TS → Option TS :=
  List.rec (motive := fun _ => List Value → TS → Option TS) (fun vs T => match vs with | [] => some T | _ => none)
    (fun p _ g vs T => match vs with | v :: vs => bif Nat.ble (p + 1) size && Nat.ble p 65535 then g vs (T.put p v) else none | [] => none) ps
noncomputable def denY (C : Ctx (Bool × Hp)) (ps : List Nat) (assign body : Code) (T : TS) (l : Nat) (args : List Value) (h : Hp) : Option (Bool × Hp) :=
  match setY ps C.size args { T with marks := [] } with
  | some T1 => ckB (isL h l) <| denC C assign 0 (fun T h => (begL h l).bind fun h1 => denC C body 0 (finY l none) (fun j => finY l (some j)) T h1) (fun _ _ _ => none) T1 h
  | none => none
/-- What a table tells of a call: the function's text, and the shape of its result. -/
noncomputable def call1 {R : Type} (sh : List Sh) (x : Option (Value × Hp)) (K : Value → Hp → Option R) : Option R := x.bind fun p => castR sh p.1 fun v => K v p.2
noncomputable def callY {R : Type} (l l' : Nat) (x : Option (Bool × Hp)) (K : Value → Hp → Option R) : Option R := ckN l' l (x.bind fun p => K (.bool p.1) p.2)
/-- The temporaries that a loop begins with, by their shapes. -/
noncomputable def castTS {R : Type} (T : TS) (l : List (Nat × Sh)) : (List Value → Option R) → Option R :=
  List.rec (motive := fun _ => (List Value → Option R) → Option R) (fun K => K [])
    (fun x _ r K => castS x.2 (some (T.get x.1)) fun v => r fun vs => K (v :: vs)) l
noncomputable def ovl : List (Nat × Sh) → List Value → List (Nat × Value)
  | x :: l, v :: vs => (x.1, v) :: ovl l vs
  | _, _ => []
/-- The loops of a function: what is told of each. -/
inductive LEnt where
  | lp (shs : List (Nat × Sh)) (w : Nat → List Value → List Nat → Hp → Option (Value × Hp))
  | yo (shs : List (Nat × Sh)) (y : Nat → List Value → Nat → List Value → Hp → Option (Bool × Hp))
noncomputable def LPof (L : List LEnt) (k i : Nat) (T : TS) (h : Hp) : Option (Value × Hp) :=
  match nth L i with
  | some (.lp shs w) => castTS T shs fun vs => w k vs T.marks h
  | _ => none
noncomputable def YOof (L : List LEnt) (k i : Nat) (T : TS) (l : Nat) (args : List Value) (h : Hp) : Option (Bool × Hp) :=
  match nth L i with
  | some (.yo shs y) => castTS T shs fun vs => y k vs l args h
  | _ => none
noncomputable def w64 (x : Int) : Int := IntKind.i64.wrap x
noncomputable def mnI (a b : Int) : Int := bif decide (b < a) then b else a
noncomputable def mxI (a b : Int) : Int := bif decide (b > a) then b else a
/-- A call's arguments, by their shapes. -/
noncomputable def castAL {R : Type} (l : List Sh) : List Value → (List Value → Option R) → Option R :=
  List.rec (motive := fun _ => List Value → (List Value → Option R) → Option R) (fun vs K => match vs with | [] => K [] | _ => none)
    (fun s _ g vs K => match vs with | v :: vs => castS s (some v) fun v => g vs fun vs => K (v :: vs) | [] => none) l
end Go.Proofs.Ytgikimegikelkaa.Ab

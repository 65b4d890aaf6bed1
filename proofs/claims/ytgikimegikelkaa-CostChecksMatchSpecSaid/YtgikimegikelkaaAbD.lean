/- The machine's runs re-told as plain functions over a heap; what they tell is what the machine does. -/
import Derived.Test.YtgikimegikelkaaAb3
/- A machine of lists and tries, told by continuations over a heap that is a function: definitions. -/
namespace Go.Proofs.Ytgikimegikelkaa.Ab
open Go

/-! ### The heap -/
structure Hp where
  g : Nat → Option Blk
  next : Nat
noncomputable def Hp.set (h : Hp) (b : Nat) (K : Blk) : Hp := ⟨fun x => if x = b then some K else h.g x, h.next⟩
noncomputable def Hp.new (h : Hp) (K : Blk) : Hp := ⟨fun x => if x = h.next then some K else h.g x, h.next + 1⟩
noncomputable def Hp.bump (h : Hp) : Hp := ⟨h.g, h.next + 1⟩

structure Sl where
  a : Option Addr
  n : Nat
  c : Nat

/-! ### Temporaries -/
structure TS where
  ov : List (Nat × Value)
  G : Tr Value
  marks : List Nat
noncomputable def look (l : List (Nat × Value)) (d : Nat) (z : Value) : Value :=
  List.rec (motive := fun _ => Value) z (fun p _ r => bc (Nat.beq p.1 d) p.2 r) l
noncomputable def TS.get (T : TS) (d : Nat) : Value := look T.ov d ((T.G.get d).getD (.tuple #[]))
noncomputable def TS.tr (T : TS) : Tr Value := List.rec (motive := fun _ => Tr Value) T.G (fun p _ t => t.set p.2 30 p.1) T.ov
noncomputable def TS.put (T : TS) (d : Nat) (v : Value) : TS := ⟨(d, v) :: T.ov, T.G, T.marks⟩
noncomputable def ev (T : TS) : Operand → Value
  | .tmp t => T.get t
  | .const v => bc (litV v) v junk
  | .global _ => junk
  | .func f => .func (.func f) #[] #[]

/-- What opEval does, by the operands' values alone. -/
noncomputable def opEvalG (E : Env) (ev : Operand → Value) (m : Mem) (o : Oper) : OpR :=
  match o.op with
  | .move x | .assign x => .val (ev x)
  | .pick c a b => (match ev c with | .bool t => .val (bif t then ev a else ev b) | _ => .bad)
  | .alloc e => (match E.info e with | some (_, i) => (match i.zero with | some z => .alloc (.row 0 z.cells.toList) (fun b => .pointer (some ⟨b, 0, none⟩)) | none => .bad) | none => .bad)
  | .box _ x => bif okp (ev x) then .alloc (.row 0 (ev x).cells.toList) (fun b => .pointer (some ⟨b, 0, none⟩)) else .bad
  | .build t parts => OpR.ofVal (opBuild E t (parts.toList.map fun (i, x) => (i, ev x)))
  | .buildSlice t n parts => OpR.ofAlloc (opBuildSlice E t n (parts.toList.map fun (i, x) => (i, ev x)))
  | .load t a => OpR.ofRead (opLoad E m t (ev a))
  | .store t a x => OpR.ofStore (opStore E m t (ev a) (ev x))
  | .nilCheck x => (match ev x with | .pointer (some ⟨b, o, none⟩) => .val (.pointer (some ⟨b, o, none⟩)) | _ => .bad)
  | .binOp op t x y _ => OpR.ofVal (binV E op t (ev x) (ev y))
  | .unOp op _ x => OpR.ofVal (unV op (ev x))
  | .convert s d x => (match E.info s, E.info d, ev x with | some _, some (.int k, _), .int _ n => .val (.int k (k.wrap n)) | _, _, _ => .bad)
  | .makeFunc fn first cap => (match fn with | .func f => .val (.func (.func f) (first.map (ev)) (cap.map (ev))) | _ => .bad)
  | .makeMap _ none => .alloc (.map [] 0) (fun b => .map (some b))
  | .makeSlice t l c => OpR.ofAlloc (opMakeSlice E t (ev l) (ev c))
  | .slice t x lo hi mx => OpR.ofVal (opSlice E t (ev x) (lo.map (ev)) (hi.map (ev)) (mx.map (ev)))
  | .fieldAddr s x f => OpR.ofVal (opFieldAddr E s (ev x) f)
  | .field s x f => OpR.ofVal (opField E s (ev x) f)
  | .indexAddr t x i => OpR.ofVal (opIndexAddr E t (ev x) (ev i))
  | .lookup t x k ok => OpR.ofRead (opLookup E m t (ev x) (ev k) ok)
  | .mapUpdate t x k v | .insert t x k v => OpR.ofStore (opMapUpdate E m t (ev x) (ev k) (ev v))
  | .extract x i => (match ev x with | .tuple vs => OpR.ofVal (nth vs.toList i) | _ => .bad)
  | .call c => (match c.callee with
    | .value f => (match ev f with | .func fn first cap => opCall first.toList (c.args.toList.map (ev)) cap.toList fn | _ => .bad)
    | .builtin b => opBuiltin E m b c.argTypes.toList (c.args.toList.map (ev))
    | _ => .bad)
  | _ => .bad
theorem opEval_G (E : Env) (T : Tr Value) (m : Mem) (o : Oper) : opEval E T m o = opEvalG E (evT T) m o := rfl

/-! ### Kinds of cells, and reading by them -/
inductive Ck where
  | int (k : IntKind) | bool | ptr | slc | map

noncomputable def kindOf : TypeDesc → Option Ck
  | .int k => some (.int k)
  | .bool => some .bool
  | .pointer _ => some .ptr
  | .slice _ => some .slc
  | .map _ _ => some .map
  | _ => none
noncomputable def replK (l : List Ck) : Nat → List Ck
  | 0 => []
  | n + 1 => l ++ replK l n
noncomputable def kindsF (f : Nat → Option (List Ck)) : List Field → Option (List Ck)
  | [] => some []
  | x :: l => match f x.type, kindsF f l with
    | some a, some b => some (a ++ b)
    | _, _ => none
noncomputable def kindsOf (E : Env) : Nat → Nat → Option (List Ck)
  | 0, _ => none
  | f + 1, t => match E.info t with
    | some (.struct fs, _) => kindsF (kindsOf E f) fs.toList
    | some (.array n e, _) => (match kindsOf E f e with | some l => some (replK l n) | none => none)
    | some (d, _) => (match kindOf d with | some k => some [k] | none => none)
    | none => none

noncomputable def asI (k : IntKind) : Option Value → Option Int
  | some (.int k' x) => bif sameKind k' k then some x else none
  | _ => none
noncomputable def asB : Option Value → Option Bool
  | some (.bool b) => some b
  | _ => none
noncomputable def asP : Option Value → Option (Nat × Nat)
  | some (.pointer (some ⟨b, o, none⟩)) => some (b, o)
  | _ => none
noncomputable def asS : Option Value → Option Sl
  | some (.slice none n c) => some ⟨none, n, c⟩
  | some (.slice (some ⟨b, o, none⟩) n c) => some ⟨some ⟨b, o, none⟩, n, c⟩
  | _ => none
noncomputable def asS0 : Option Value → Option Sl
  | some (.slice a n c) => some ⟨a, n, c⟩
  | _ => none
noncomputable def asM : Option Value → Option Nat
  | some (.map (some b)) => some b
  | _ => none
noncomputable def asF (g n : Nat) : Option Value → Option (List Value)
  | some (.func (.func g') first cap) => bif Nat.beq g' g && Nat.beq first.size 0 && Nat.beq cap.size n then some cap.toList else none
  | _ => none
noncomputable def asY : Option Value → Option Nat
  | some (.func (.yield l) first cap) => bif Nat.beq first.size 0 && Nat.beq cap.size 0 then some l else none
  | _ => none

section
variable {R : Type}
noncomputable def castK (k : Ck) (v : Option Value) (K : Value → Option R) : Option R :=
  match k with
  | .int i => (asI i v).bind fun x => K (.int i x)
  | .bool => (asB v).bind fun b => K (.bool b)
  | .ptr => (asP v).bind fun p => K (.pointer (some ⟨p.1, p.2, none⟩))
  | .slc => (asS v).bind fun s => K (.slice s.a s.n s.c)
  | .map => (asM v).bind fun b => K (.map (some b))
noncomputable def castL (f : Nat → Option Value) (l : List Ck) : Nat → (List Value → Option R) → Option R :=
  List.rec (motive := fun _ => Nat → (List Value → Option R) → Option R) (fun _ K => K [])
    (fun k _ r j K => castK k (f j) fun v => r (j + 1) fun vs => K (v :: vs)) l
noncomputable def fnK (g : Nat) (ks : List Ck) (v : Option Value) (K : Value → Option R) : Option R :=
  (asF g ks.length v).bind fun cs => castL (fun j => nth cs j) ks 0 fun vs => K (.func (.func g) #[] vs.toArray)

/-- As castK, but a slice's address is not looked at. -/
noncomputable def castK0 (k : Ck) (v : Option Value) (K : Value → Option R) : Option R :=
  match k with
  | .int i => (asI i v).bind fun x => K (.int i x)
  | .bool => (asB v).bind fun b => K (.bool b)
  | .ptr => (asP v).bind fun p => K (.pointer (some ⟨p.1, p.2, none⟩))
  | .slc => (asS0 v).bind fun s => K (.slice s.a s.n s.c)
  | .map => (asM v).bind fun b => K (.map (some b))
noncomputable def castL0 (f : Nat → Option Value) (l : List Ck) : Nat → (List Value → Option R) → Option R :=
  List.rec (motive := fun _ => Nat → (List Value → Option R) → Option R) (fun _ K => K [])
    (fun k _ r j K => castK0 k (f j) fun v => r (j + 1) fun vs => K (v :: vs)) l
inductive Sh where
  | cell (k : Ck)
  | agg (ks : List Ck)
  | fn (g : Nat) (ks : List Ck)
  | yld
noncomputable def asA (n : Nat) : Option Value → Option (List Value)
  | some (.agg cs) => bif Nat.beq cs.size n then some cs.toList else none
  | _ => none
noncomputable def asTup (n : Nat) : Value → Option (List Value)
  | .tuple cs => bif Nat.beq cs.size n then some cs.toList else none
  | _ => none
noncomputable def castS (s : Sh) (v : Option Value) (K : Value → Option R) : Option R :=
  match s with
  | .cell k => castK0 k v K
  | .agg ks => (asA ks.length v).bind fun cs => castL0 (fun j => nth cs j) ks 0 fun vs => K (.agg vs.toArray)
  | .fn g ks => (asF g ks.length v).bind fun cs => castL0 (fun j => nth cs j) ks 0 fun vs => K (.func (.func g) #[] vs.toArray)
  | .yld => (asY v).bind fun l => K (.func (.yield l) #[] #[])
noncomputable def castSL (f : Nat → Option Value) (l : List Sh) : Nat → (List Value → Option R) → Option R :=
  List.rec (motive := fun _ => Nat → (List Value → Option R) → Option R) (fun _ K => K [])
    (fun s _ r j K => castS s (f j) fun v => r (j + 1) fun vs => K (v :: vs)) l
/-- A call's result, by its shape: none, one value, several. -/
noncomputable def castR (l : List Sh) (v : Value) (K : Value → Option R) : Option R :=
  match l with
  | [] => (asTup 0 v).bind fun _ => K (.tuple #[])
  | [s] => castS s (some v) K
  | l => (asTup l.length v).bind fun cs => castSL (fun j => nth cs j) l 0 fun vs => K (.tuple vs.toArray)

noncomputable def ckB (c : Bool) (K : Option R) : Option R := bc c K none
noncomputable def ckN (a b : Nat) (K : Option R) : Option R := if a = b then K else none
noncomputable def lt {α : Type} (x : α) (f : α → Option R) : Option R := f x
open Classical in
noncomputable def ckE (a b : Option Blk) (K : Option R) : Option R := if a = b then K else none

/-! ### Heap words -/
noncomputable def rd (h : Hp) (b o : Nat) : Option Value :=
  match h.g b with
  | some (.row _ cs) => nth cs o
  | some (.ro f) => f o
  | _ => none
noncomputable def wr (h : Hp) (b o : Nat) (vs : List Value) : Option Hp :=
  match h.g b with
  | some (.row sz cs) => (match putN cs o vs with | some r => some (h.set b (.row sz r)) | none => none)
  | _ => none
noncomputable def ixA (a : Option Addr) (len sz : Nat) (i : Int) : Option (Nat × Nat) :=
  match a with
  | some ⟨b, o, none⟩ => bif decide (0 ≤ i) && decide (i < (len : Int)) then some (b, o + i.toNat * sz) else none
  | _ => none
noncomputable def slA (a : Option Addr) (cap sz : Nat) (l u : Int) : Option Sl :=
  bif decide (0 ≤ l) && decide (l ≤ u) && decide (u ≤ (cap : Int)) then
    (match a with
    | some ⟨b, o, none⟩ => some ⟨some ⟨b, o + l.toNat * sz, none⟩, u.toNat - l.toNat, cap - l.toNat⟩
    | none => some ⟨none, u.toNat - l.toNat, cap - l.toNat⟩
    | _ => none)
  else none
noncomputable def srcH (h : Hp) (src : Option Addr) (k : Nat) : Option (List Value) :=
  match src with
  | some ⟨b, o, none⟩ => (match h.g b with
    | some (.row _ cs) => takeN k (dropN o cs)
    | some (.ro f) => roN f k o
    | _ => none)
  | none => some []
  | _ => none
noncomputable def appS (h : Hp) (size : Nat) (base : Option Addr) (len cap : Nat) (src : Option Addr) (n : Nat) : Option (Sl × Hp) :=
  match srcH h src (n * size) with
  | some new =>
    bif Nat.ble (len + n) cap then
      (match base with
      | some ⟨b, o, none⟩ => (match h.g b with
        | some (.row sz cs) => (match putN cs (o + len * size) new with
          | some r => some (⟨base, len + n, cap⟩, h.set b (.row sz r))
          | none => none)
        | _ => none)
      | none => bif Nat.beq n 0 then some (⟨none, len + n, cap⟩, h) else none
      | _ => none)
    else bif Nat.ble (len + n) 1048576 && Nat.ble 1 new.length then
      (match base with
      | some ⟨b, o, none⟩ => (match h.g b with
        | some (.row sz cs) => (match takeN (len * size) (dropN o cs) with
          | some old => bif Nat.beq sz size && Nat.beq cs.length (o + cap * size) then some (⟨some ⟨h.next, 0, none⟩, len + n, len + n⟩, (h.set b .dead).new (.row size (old ++ new))) else none
          | none => none)
        | _ => none)
      | none => bif Nat.beq len 0 then some (⟨some ⟨h.next, 0, none⟩, n, n⟩, h.new (.row size new)) else none
      | _ => none)
    else none
  | none => none
noncomputable def copyS (h : Hp) (size : Nat) (dst : Option Addr) (dl : Nat) (src : Option Addr) (sl : Nat) : Option (Nat × Hp) :=
  match srcH h src (Nat.min sl dl * size) with
  | some new =>
    (match dst with
    | some ⟨b, o, none⟩ => (match h.g b with
      | some (.row sz cs) => (match putN cs o new with
        | some r => some (Nat.min sl dl, h.set b (.row sz r))
        | none => none)
      | _ => none)
    | none => some (Nat.min sl dl, h)
    | _ => none)
  | none => none
noncomputable def clrS (h : Hp) (zs : List Value) (base : Option Addr) (n : Nat) : Option Hp :=
  bif Nat.beq n 0 then some h else
  (match base with
  | some ⟨b, o, none⟩ => (match h.g b with
    | some (.row sz cs) => (match putN cs o (repl zs n) with
      | some r => some (h.set b (.row sz r))
      | none => none)
    | _ => none)
  | none => some h
  | _ => none)
noncomputable def mgI (h : Hp) (b : Nat) (key : Value) (k : IntKind) (z : Int) : Option (Int × Bool) :=
  match h.g b with
  | some (.map es _) => (match findE key es 0 with
    | some (some (_, .int k' x)) => bif sameKind k' k then some (x, true) else none
    | some none => some (z, false)
    | _ => none)
  | _ => none
noncomputable def mgB (h : Hp) (b : Nat) (key : Value) (z : Bool) : Option (Bool × Bool) :=
  match h.g b with
  | some (.map es _) => (match findE key es 0 with
    | some (some (_, .bool x)) => some (x, true)
    | some none => some (z, false)
    | _ => none)
  | _ => none
noncomputable def mput (h : Hp) (b : Nat) (k v : Value) : Option Hp :=
  match h.g b with
  | some (.map es clock) => (match findE k es 0 with
    | some (some (i, _)) => some (h.set b (.map (setVal v k es i) clock))
    | some none => some (h.set b (.map (es ++ [{ key := k, val := v, born := clock }]) (clock + 1)))
    | none => none)
  | _ => none
noncomputable def mlen (h : Hp) (b : Nat) : Option Nat :=
  match h.g b with
  | some (.map es _) => some es.length
  | _ => none

/-! ### Loops over functions -/
noncomputable def stub (st : LoopState) (pend : Option Code) : Blk := .loop st pend 0 .nil 0 [] .skip .skip 0
noncomputable def isL (h : Hp) (l : Nat) : Bool :=
  match h.g l with
  | some (.loop _ _ _ _ _ _ _ _ _) => true
  | _ => false
noncomputable def begL (h : Hp) (l : Nat) : Option Hp :=
  match h.g l with
  | some (.loop .ready pend _ _ _ _ _ _ _) => some (h.set l (stub .busy pend))
  | _ => none
noncomputable def finL (h : Hp) (l : Nat) (jump : Option Code) : Option Hp :=
  match h.g l with
  | some (.loop _ _ _ _ _ _ _ _ _) => some (h.set l (stub (match jump with | none => .ready | some _ => .done) jump))
  | _ => none
noncomputable def endL (h : Hp) (l : Nat) : Option (Option Code × Hp) :=
  match h.g l with
  | some (.loop st pend _ _ _ _ _ _ _) => (match st with
    | .busy => none
    | _ => some (pend, h.set l (stub .exhausted pend)))
  | _ => none
noncomputable def takeM (h : Hp) (l : List Nat) : Option Hp :=
  List.rec (motive := fun _ => Hp → Option Hp) (fun h => some h)
    (fun b _ r h => match h.g b with
      | some .defs => r (h.set b .dead)
      | _ => none) l h
noncomputable def isN : Option Code → Bool
  | none => true
  | _ => false
noncomputable def isJ : Code → Option Code → Bool
  | .exit a, some (.exit b) => Nat.beq a b
  | .goto a, some (.goto b) => Nat.beq a b
  | .ret, some .ret => true
  | _, _ => false
noncomputable def selJ (js : List Code) (pend : Option Code) (KJ : Code → Option R) : Option R :=
  List.rec (motive := fun _ => Option R) none (fun j _ r => bc (isJ j pend) (KJ j) r) js
/-- The jumps that a text holds. -/
noncomputable def jumpsOf : Code → List Code := fun c =>
  Code.rec (motive := fun _ => List Code) [] (fun _ _ _ => []) (fun _ _ a b => a ++ b) (fun _ _ _ a b => a ++ b) (fun _ _ a => a) (fun _ a => a) (fun _ _ _ _ a b => a ++ b)
    (fun id => [.exit id]) (fun _ a => a) (fun _ => []) (fun l => [.goto l]) [.ret] (fun _ => []) c
/-- How many loops a text holds, of both kinds. -/
noncomputable def nl : Code → Nat := fun c =>
  Code.rec (motive := fun _ => Nat) 0 (fun _ _ _ => 0) (fun _ _ a b => a + b) (fun _ _ _ a b => a + b) (fun _ _ a => a) (fun _ a => a + 1) (fun _ _ _ _ _ _ => 1)
    (fun _ => 0) (fun _ a => a + 1) (fun _ => 0) (fun _ => 0) 0 (fun _ => 0) c
/-- The first label of a text, and what stands behind it. -/
noncomputable def firstL : Code → Option (Nat × Code) := fun c =>
  Code.rec (motive := fun _ => Option (Nat × Code)) none (fun _ _ _ => none) (fun _ b fa fb => match fa with | some p => some (p.1, .seq p.2 b) | none => fb) (fun _ _ _ _ _ => none) (fun _ _ _ => none) (fun _ _ => none) (fun _ _ _ _ _ _ => none)
    (fun _ => none) (fun _ _ => none) (fun l => some (l, .skip)) (fun _ => none) none (fun _ => none) c

/-! ### One operation -/
noncomputable def loadK (E : Env) (hn : Option (Nat × List Ck)) (h : Hp) (t b o : Nat) (K : Value → Option R) : Option R :=
  match E.info t with
  | some (d, i) =>
    bif isAggD d then
      (match kindsOf E 6 t with
      | some ks => bif Nat.beq ks.length i.size && Nat.ble 1 i.size then castL (fun j => rd h b (o + j)) ks 0 (fun vs => K (.agg vs.toArray)) else none
      | none => none)
    else (match hn with
      | some (g, ks) => fnK g ks (rd h b o) K
      | none => (match kindOf d with
        | some k => castK k (rd h b o) K
        | none => none))
  | none => none
noncomputable def intV : Value → Option Int
  | .int _ x => some x
  | _ => none

noncomputable def direct : Op → Bool
  | .move _ | .assign _ | .alloc _ | .box _ _ | .build _ _ | .buildSlice _ _ _ | .nilCheck _ | .unOp _ _ _ | .convert _ _ _ | .makeMap _ none | .fieldAddr _ _ _ | .field _ _ _ | .extract _ _ => true
  | .binOp .quo _ _ _ _ | .binOp .rem _ _ _ _ | .binOp .eql _ _ _ _ | .binOp .neq _ _ _ _ => false
  | .binOp _ _ _ _ _ => true
  | _ => false

noncomputable def eqAll : List Value → List Value → Option Bool
  | [], [] => some true
  | .int k a :: l, .int k' b :: r => bif sameKind k k' then (match eqAll l r with | some c => some (a == b && c) | none => none) else none
  | _, _ => none
/-- Are two values equal? -/
noncomputable def eqB (E : Env) (t : Nat) (x y : Value) : Option Bool :=
  match x, y with
  | .slice a _ _, .slice none _ _ => (match E.info t with | some (.slice _, _) => some a.isNone | _ => none)
  | .agg xs, .agg ys => (match E.info t with | some (.struct fs, _) => bif flatFields E fs.toList 0 && Nat.beq fs.size xs.size && Nat.beq fs.size ys.size then eqAll xs.toList ys.toList else none | _ => none)
  | x, y => (match binV E .eql t x y with | some (.bool b) => some b | _ => none)
noncomputable def opK (E : Env) (hint : Nat → Option (Nat × List Ck)) (T : TS) (h : Hp) (o : Oper) (KV : Value → Option R) (KR : Nat → Value → Option R) (KA : Blk → (Nat → Value) → Option R) (KW : Value → Hp → Option R) (KC : CallTo → List Value → Option R) : Option R :=
  bif direct o.op then
    (match opEvalG E (ev T) ⟨.nil, 0⟩ o with
    | .val v => KV v
    | .alloc k mk => KA k mk
    | _ => none)
  else
  match o.op with
  | .makeFunc fn first cap => (match fn with | .func f => KV (.func (.func f) (first.toList.map (ev T)).toArray (cap.toList.map (ev T)).toArray) | _ => none)
  | .pick c a b => (match ev T c with | .bool t => bc t (KV (ev T a)) (KV (ev T b)) | _ => none)
  | .load t a => (match ev T a with
    | .pointer (some ⟨b, off, none⟩) => loadK E (match o.dst with | some d => hint d | none => none) h t b off (KR b)
    | _ => none)
  | .store t a x => (match ev T a, E.info t with
    | .pointer (some ⟨b, off, none⟩), some (_, i) =>
      bif okp (ev T x) && Nat.beq (ev T x).cells.toList.length i.size && Nat.ble 1 i.size then (wr h b off (ev T x).cells.toList).bind fun h1 => KW (.tuple #[]) h1 else none
    | _, _ => none)
  | .binOp .eql t x y _ => (match eqB E t (ev T x) (ev T y) with | some b => KV (.bool b) | none => none)
  | .binOp .neq t x y _ => (match eqB E t (ev T x) (ev T y) with | some b => KV (.bool (!b)) | none => none)
  | .binOp op _ x y _ => (match ev T x, ev T y with
    | .int k a, .int k' b => bif sameKind k k' then ckB (!(b == 0)) (match op with
        | .quo => KV (.int k (k.wrap (a.tdiv b)))
        | .rem => KV (.int k (a.tmod b))
        | _ => none) else none
    | _, _ => none)
  | .indexAddr t x ix => (match E.info t, ev T x, ev T ix with
    | some (.slice e, _), .slice a len _, .int _ i => (match E.info e with
      | some (_, ei) => (ixA a len ei.size i).bind fun p => KV (.pointer (some ⟨p.1, p.2, none⟩))
      | none => none)
    | some (.array n e, _), .pointer (some ⟨b, off, none⟩), .int _ i => (match E.info e with
      | some (_, ei) => ckB (decide (0 ≤ i) && decide (i < (n : Int))) (KV (.pointer (some ⟨b, off + i.toNat * ei.size, none⟩)))
      | none => none)
    | _, _, _ => none)
  | .slice t x lo hi none => (match sliceElem E t, ev T x with
    | some (_, size, _, _), .slice a len cap => (match (match lo with | none => some 0 | some l => intV (ev T l)), (match hi with | none => some (len : Int) | some u => intV (ev T u)) with
      | some l, some u => (slA a cap size l u).bind fun s => KV (.slice s.a s.n s.c)
      | _, _ => none)
    | _, _ => none)
  | .lookup t x k ok => (match E.info t, ev T x with
    | some (.map kt et, _), .map (some b) => (match E.info et with
      | some (_, ei) => bif keyOk E kt (ev T k) then (match ei.zero with
        | some (.int ki z) => bif sameKind ki ki then (mgI h b (ev T k) ki z).bind fun p => KR b (bif ok then .tuple #[.int ki p.1, .bool p.2] else .int ki p.1) else none
        | some (.bool z) => (mgB h b (ev T k) z).bind fun p => KR b (bif ok then .tuple #[.bool p.1, .bool p.2] else .bool p.1)
        | _ => none) else none
      | none => none)
    | _, _ => none)
  | .mapUpdate t x k v | .insert t x k v => (match E.info t, ev T x with
    | some (.map kt _, _), .map (some b) => bif keyOk E kt (ev T k) then (mput h b (ev T k) (ev T v)).bind fun h1 => KW (.tuple #[]) h1 else none
    | _, _ => none)
  | .makeSlice t l c => (match sliceElem E t, ev T l, ev T c with
    | some (_, size, bytes, zs), .int _ l, .int _ c => bif Nat.ble bytes 1048576 then
      ckB (decide (0 ≤ l) && decide (l ≤ c) && decide (c ≤ 1048576)) (KA (.row size (repl zs c.toNat)) (fun b => .slice (some ⟨b, 0, none⟩) l.toNat c.toNat)) else none
    | _, _, _ => none)
  | .call c => (match c.callee with
    | .value f => (match ev T f with
      | .func fn first cap => (match fn with
        | .func g => KC (.fn g) (first.toList ++ c.args.toList.map (ev T) ++ cap.toList)
        | .yield l => KC (.yield l) (first.toList ++ c.args.toList.map (ev T))
        | _ => none)
      | _ => none)
    | .builtin b => (match b, c.argTypes.toList, c.args.toList.map (ev T) with
      | .len, [t], [.slice _ n _] => (match E.info t with | some (.slice _, _) => KV (.int .i64 n) | _ => none)
      | .len, [t], [.map (some b)] => (match E.info t with | some (.map _ _, _) => (mlen h b).bind fun n => KR b (.int .i64 n) | _ => none)
      | .min, _, .int k a :: l => (match minL a l k with | some n => KV (.int k n) | none => none)
      | .max, _, .int k a :: l => (match maxL a l k with | some n => KV (.int k n) | none => none)
      | .append, [t, t2], [.slice base len cap, .slice src n _] => (match sliceElem E t, sliceElem E t2 with
        | some (_, size, bytes, _), some _ => bif Nat.ble bytes 1048576 then (appS h size base len cap src n).bind fun p => KW (.slice p.1.a p.1.n p.1.c) p.2 else none
        | _, _ => none)
      | .copy, t :: _, [.slice dst dl _, .slice src sl _] => (match sliceElem E t with
        | some (_, size, _, _) => (copyS h size dst dl src sl).bind fun p => KW (.int .i64 p.1) p.2
        | none => none)
      | .clear, [t], [.slice base n _] => (match sliceElem E t with
        | some (_, _, _, zs) => (clrS h zs base n).bind fun h1 => KW (.tuple #[]) h1
        | none => none)
      | _, _, _ => none)
    | _ => none)
  | _ => none
end

/-! ### Regions, texts -/
/-- What a frame is told: types, its size, what its calls do. -/
structure Ctx (R : Type) where
  E : Env
  size : Nat
  hint : Nat → Option (Nat × List Ck)
  tbl : CallTo → List Value → Hp → (Value → Hp → Option R) → Option R
  itK : Nat → Nat → List Value → (List Value → Hp → Option (Bool × Hp)) → Hp → (Value → Hp → Option R) → Option R
  LP : Nat → TS → Hp → Option R
  YO : Nat → TS → Nat → List Value → Hp → Option (Bool × Hp)

section
variable {R : Type}
noncomputable def putK (size : Nat) (T : TS) (dst : Option Tmp) (v : Value) (K : TS → Option R) : Option R :=
  match dst with
  | none => K T
  | some d => bif Nat.ble (d + 1) size && Nat.ble d 65535 then K (T.put d v) else none
noncomputable def guardK (all : List Oper) (T : TS) (o : Oper) (A B : TS → Option R) : Option R :=
  match o.guard with
  | none => A T
  | some (j, want) => (match nth all j with
    | some oj => (match oj.dst with
      | some t => (match T.get t with
        | .bool b => bif Nat.ble t 65535 then bc (bif want then b else !b) (A (T.put t (.bool want))) (B (T.put t (.bool (!want)))) else none
        | .tuple vs => (match vs.toList with | [] => B T | _ => none)
        | _ => none)
      | none => B T)
    | none => B T)

noncomputable def opsK (C : Ctx R) (all : List Oper) (l : List Oper) : TS → Hp → (TS → Hp → Option R) → Option R :=
  List.rec (motive := fun _ => TS → Hp → (TS → Hp → Option R) → Option R) (fun T h K => K T h)
    (fun o _ g T h K => guardK all T o
      (fun T => opK C.E C.hint T h o (fun v => putK C.size T o.dst v fun T1 => g T1 h K) (fun _ v => putK C.size T o.dst v fun T1 => g T1 h K)
        (fun k mk => putK C.size T o.dst (mk h.next) fun T1 => g T1 (h.new k) K) (fun v h1 => putK C.size T o.dst v fun T1 => g T1 h1 K)
        (fun c args => C.tbl c args h fun v h1 => putK C.size T o.dst v fun T1 => g T1 h1 K))
      (fun T => putK C.size T o.dst (.tuple #[]) fun T1 => g T1 h K)) l

structure DD where
  T : TS
  h : Hp
  rs : List (Nat × Nat × Option Blk)
  as : List ARec
  ws : List (Nat × Hp)
noncomputable def layH (sel : Nat → Bool) (l : List ARec) : Hp → Hp :=
  List.rec (motive := fun _ => Hp → Hp) (fun h => h) (fun a _ g h => g (bif sel a.i then h.set a.id a.k else h)) l
noncomputable def ckR (mask : Nat) (h1 : Hp) (rs : List (Nat × Nat × Option Blk)) (K : Option R) : Option R :=
  List.rec (motive := fun _ => Option R) K (fun r _ g => bif has mask r.1 then g else ckE (h1.g r.2.1) r.2.2 g) rs
noncomputable def ckW (mask : Nat) (b : Nat) (B : Option Blk) (ws : List (Nat × Hp)) (K : Option R) : Option R :=
  List.rec (motive := fun _ => Option R) K (fun w _ g => bif has mask w.1 then g else ckE (w.2.g b) B g) ws
noncomputable def allW (mask : Nat) (ws : List (Nat × Hp)) : Bool :=
  List.rec (motive := fun _ => Bool) true (fun w _ g => has mask w.1 && g) ws
noncomputable def keepA (mask : Nat) (as : List ARec) : List ARec :=
  List.rec (motive := fun _ => List ARec) [] (fun a _ g => bif has mask a.i then g else a :: g) as
noncomputable def drawWK (C : Ctx R) (i : Nat) (o : Oper) (mask : Nat) (D : DD) (v : Value) (h1 : Hp) (K : DD → Option R) : Option R :=
  bif allW mask D.ws then ckR mask h1 D.rs (putK C.size D.T o.dst v fun T1 => K ⟨T1, h1, D.rs, keepA mask D.as, (i, D.h) :: D.ws⟩) else none
noncomputable def drawK (C : Ctx R) (base i : Nat) (o : Oper) (mask : Nat) (D : DD) (K : DD → Option R) : Option R :=
  opK C.E (fun _ => none) D.T (layH (has mask) D.as D.h) o
    (fun v => putK C.size D.T o.dst v fun T1 => K ⟨T1, D.h, D.rs, D.as, D.ws⟩)
    (fun b v => ckB (Nat.ble (b + 1) base) (ckW mask b ((layH (has mask) D.as D.h).g b) D.ws (putK C.size D.T o.dst v fun T1 => K ⟨T1, D.h, (i, b, (layH (has mask) D.as D.h).g b) :: D.rs, D.as, D.ws⟩)))
    (fun k mk => putK C.size D.T o.dst (mk D.h.next) fun T1 => K ⟨T1, D.h.bump, D.rs, ⟨i, D.h.next, k⟩ :: D.as, D.ws⟩)
    (fun v h1 => drawWK C i o mask D v h1 K)
    (fun c args => C.tbl c args (layH (has mask) D.as D.h) fun v h1 => drawWK C i o mask D v h1 K)
noncomputable def drawsK (C : Ctx R) (all : List Oper) (base : Nat) (l : List Oper) : Nat → List Nat → DD → (DD → Option R) → Option R :=
  List.rec (motive := fun _ => Nat → List Nat → DD → (DD → Option R) → Option R) (fun _ _ D K => K D)
    (fun o _ g i ms D K => match ms with
      | mask :: ms => guardK all D.T o
        (fun T => drawK C base i o mask { D with T := T } fun D1 => g (i + 1) ms D1 K)
        (fun T => putK C.size T o.dst (.tuple #[]) fun T1 => g (i + 1) ms { D with T := T1 } K)
      | [] => none) l
noncomputable def regionK (C : Ctx R) (ops : List Oper) (draw : Bool) (T : TS) (h : Hp) (K : TS → Hp → Option R) : Option R :=
  bif draw then
    (bif okStatic ops && Nat.ble C.size 65535 then drawsK C ops h.next ops 0 (masksOf ops) ⟨T, h, [], [], []⟩ fun D => K D.T (layH (fun _ => true) D.as D.h) else none)
  else opsK C ops ops T h K

noncomputable def exitX (id : Nat) (K : TS → Hp → Option R) (X : Code → TS → Hp → Option R) (j : Code) : TS → Hp → Option R :=
  match j with
  | .exit id' => fun T h => bc (Nat.beq id' id) (K T h) (X (.exit id') T h)
  | j => X j

/-- A jump to the label of a scope begins its text anew behind it. -/
noncomputable def gotoX (b : Code) (G : TS → Hp → Option R) (X : Code → TS → Hp → Option R) (j : Code) : TS → Hp → Option R :=
  match j with
  | .goto l => (match firstL b with | some p => (fun T h => bc (Nat.beq p.1 l) (G T h) none) | none => X (.goto l))
  | j => X j

abbrev DenTy (R : Type) := Nat → (TS → Hp → Option R) → (Code → TS → Hp → Option R) → TS → Hp → Option R
noncomputable def rangeK (C : Ctx R) (js : List Code) (f : Operand) (i : Nat) (K : TS → Hp → Option R) (X : Code → TS → Hp → Option R) (T : TS) (h : Hp) : Option R :=
  match ev T f with
  | .func (.func g) first cap =>
    C.itK g (h.next + 1) (first.toList ++ (.func (.yield (h.next + 1)) #[] #[]) :: cap.toList) (C.YO i T (h.next + 1)) ((h.new .defs).new (stub .ready none)) fun _ h2 =>
      (endL h2 (h.next + 1)).bind fun p => bc (isN p.1) (K { T with marks := h.next :: T.marks } p.2) (selJ js p.1 fun j => X j { T with marks := h.next :: T.marks } p.2)
  | _ => none
noncomputable def denC (C : Ctx R) (c : Code) : DenTy R :=
  Code.rec (motive := fun _ => DenTy R)
    (fun _ K _ T h => K T h)
    (fun _ ops draw _ K _ T h => regionK C ops.toList draw T h K)
    (fun a _ ra rb i K X => ra i (rb (i + nl a) K X) X)
    (fun c t _ rt re i K X T h => match ev T c with | .bool b => bc b (rt i K X T h) (re (i + nl t) K X T h) | _ => none)
    (fun id _ rb i K X => rb i K (exitX id K X))
    (fun _ _ i _ _ T h => C.LP i T h)
    (fun f _ a b _ _ i K X T h => rangeK C (jumpsOf a ++ jumpsOf b) f i K X T h)
    (fun id _ _ X T h => X (.exit id) T h)
    (fun b rb i K X => rb (i + 1) K (gotoX b (C.LP i) X))
    (fun _ _ K _ T h => K T h)
    (fun l _ _ X T h => X (.goto l) T h)
    (fun _ _ X T h => X .ret T h)
    (fun _ _ _ _ _ _ => none) c

/-- The bodies of the loops of a text. -/
noncomputable def loopsC (C : Ctx R) (c : Code) : Nat → (TS → Hp → Option R) → (Code → TS → Hp → Option R) → List (TS → Hp → Option R) :=
  Code.rec (motive := fun _ => Nat → (TS → Hp → Option R) → (Code → TS → Hp → Option R) → List (TS → Hp → Option R))
    (fun _ _ _ => [])
    (fun _ _ _ _ _ _ => [])
    (fun a b ra rb i K X => ra i (denC C b (i + nl a) K X) X ++ rb (i + nl a) K X)
    (fun _ t _ rt re i K X => rt i K X ++ re (i + nl t) K X)
    (fun id _ rb i K X => rb i K (exitX id K X))
    (fun b rb i _ X => denC C b (i + 1) (C.LP i) X :: rb (i + 1) (C.LP i) X)
    (fun _ _ _ _ _ _ _ _ _ => [fun _ _ => none])
    (fun _ _ _ _ => [])
    (fun b rb i K X => (match firstL b with | some p => denC C p.2 (i + 1 + (nl b - nl p.2)) K (gotoX b (C.LP i) X) | none => fun _ _ => none) :: rb (i + 1) K (gotoX b (C.LP i) X))
    (fun _ _ _ _ => [])
    (fun _ _ _ _ => [])
    (fun _ _ _ => [])
    (fun _ _ _ _ => []) c

noncomputable def resK (E : Env) (T : TS) (h : Hp) (l : List ResultVar) : (List Value → Option R) → Option R :=
  List.rec (motive := fun _ => (List Value → Option R) → Option R) (fun K => K [])
    (fun r _ g K => match r with
      | .tmp t => g fun vs => K (T.get t :: vs)
      | .cell a t => (match T.get a with
        | .pointer (some ⟨b, o, none⟩) => loadK E none h t b o fun v => g fun vs => K (v :: vs)
        | _ => none)) l
noncomputable def retK (E : Env) (res : List ResultVar) (K0 : Value → Hp → Option R) (T : TS) (h : Hp) : Option R :=
  (takeM h T.marks).bind fun h1 => resK E T h1 res fun vs => K0 (oneOf vs) h1
noncomputable def retX (E : Env) (res : List ResultVar) (K0 : Value → Hp → Option R) (j : Code) : TS → Hp → Option R :=
  match j with
  | .ret => retK E res K0
  | _ => fun _ _ => none
noncomputable def argsO (args : List Value) : Nat → List (Nat × Value) → List (Nat × Value) :=
  List.rec (motive := fun _ => Nat → List (Nat × Value) → List (Nat × Value)) (fun _ l => l) (fun v _ g i l => g (i + 1) ((i, v) :: l)) args
noncomputable def denF (C : Ctx R) (F : Func) (args : List Value) (h : Hp) (K0 : Value → Hp → Option R) : Option R :=
  match F.body with
  | some body => bif Nat.ble args.length 65535 then denC C body 0 (retK C.E F.results.toList K0) (retX C.E F.results.toList K0) ⟨argsO args 0 [], .nil, []⟩ h else none
  | none => none
noncomputable def loopF' (C : Ctx R) (F : Func) (K0 : Value → Hp → Option R) (i : Nat) : TS → Hp → Option R :=
  match F.body with
  | some body => (match nth (loopsC C body 0 (retK C.E F.results.toList K0) (retX C.E F.results.toList K0)) i with | some B => B | none => fun _ _ => none)
  | none => fun _ _ => none
end

/-- A round of a loop over a function. -/
noncomputable def finY (l : Nat) (j : Option Code) (T : TS) (h : Hp) : Option (Bool × Hp) :=
  match T.marks with
  | [] => (finL h l j).bind fun h1 => some (isN j, h1)
  | _ => none
noncomputable def setY (ps : List Nat) (size : Nat) : List Value → TS → Option TS :=
  List.rec (motive := fun _ => List Value → TS → Option TS) (fun vs T => match vs with | [] => some T | _ => none)
    (fun p _ g vs T => match vs with | v :: vs => bif Nat.ble (p + 1) size && Nat.ble p 65535 then g vs (T.put p v) else none | [] => none) ps
noncomputable def denY (C : Ctx (Bool × Hp)) (ps : List Nat) (assign body : Code) (T : TS) (l : Nat) (args : List Value) (h : Hp) : Option (Bool × Hp) :=
  match setY ps C.size args { T with marks := [] } with
  | some T1 => ckB (isL h l) <| denC C assign 0 (fun T h => (begL h l).bind fun h1 => denC C body 0 (finY l none) (fun j => finY l (some j)) T h1) (fun _ _ _ => none) T1 h
  | none => none
/-- What a table tells of a call: the function's text, and the shape of its result. -/
noncomputable def call1 {R : Type} (sh : List Sh) (x : Option (Value × Hp)) (K : Value → Hp → Option R) : Option R := x.bind fun p => castR sh p.1 fun v => K v p.2
noncomputable def callY {R : Type} (l l' : Nat) (x : Option (Bool × Hp)) (K : Value → Hp → Option R) : Option R := ckN l' l (x.bind fun p => K (.bool p.1) p.2)
/-- The temporaries that a loop begins with, by their shapes. -/
noncomputable def castTS {R : Type} (T : TS) (l : List (Nat × Sh)) : (List Value → Option R) → Option R :=
  List.rec (motive := fun _ => (List Value → Option R) → Option R) (fun K => K [])
    (fun x _ r K => castS x.2 (some (T.get x.1)) fun v => r fun vs => K (v :: vs)) l
noncomputable def ovl : List (Nat × Sh) → List Value → List (Nat × Value)
  | x :: l, v :: vs => (x.1, v) :: ovl l vs
  | _, _ => []
/-- The loops of a function: what is told of each. -/
inductive LEnt where
  | lp (shs : List (Nat × Sh)) (w : Nat → List Value → List Nat → Hp → Option (Value × Hp))
  | yo (shs : List (Nat × Sh)) (y : Nat → List Value → Nat → List Value → Hp → Option (Bool × Hp))
noncomputable def LPof (L : List LEnt) (k i : Nat) (T : TS) (h : Hp) : Option (Value × Hp) :=
  match nth L i with
  | some (.lp shs w) => castTS T shs fun vs => w k vs T.marks h
  | _ => none
noncomputable def YOof (L : List LEnt) (k i : Nat) (T : TS) (l : Nat) (args : List Value) (h : Hp) : Option (Bool × Hp) :=
  match nth L i with
  | some (.yo shs y) => castTS T shs fun vs => y k vs l args h
  | _ => none
noncomputable def w64 (x : Int) : Int := IntKind.i64.wrap x
noncomputable def mnI (a b : Int) : Int := bif decide (b < a) then b else a
noncomputable def mxI (a b : Int) : Int := bif decide (b > a) then b else a
/-- A call's arguments, by their shapes. -/
noncomputable def castAL {R : Type} (l : List Sh) : List Value → (List Value → Option R) → Option R :=
  List.rec (motive := fun _ => List Value → (List Value → Option R) → Option R) (fun vs K => match vs with | [] => K [] | _ => none)
    (fun s _ g vs K => match vs with | v :: vs => castS s (some v) fun v => g vs fun vs => K (v :: vs) | [] => none) l
end Go.Proofs.Ytgikimegikelkaa.Ab
/- The machine told by continuations: temporaries, heaps, one operation. -/
namespace Go.Proofs.Ytgikimegikelkaa.Ab
open Go Go.RowKit
set_option linter.unusedVariables false
set_option linter.unusedSimpArgs false
set_option linter.unusedSectionVars false

/-! ### Temporaries -/
def TS.OK (T : TS) : Prop := ∀ p ∈ T.ov, p.1 ≤ 65535
theorem bc_true {α : Type} (x y : α) : bc true x y = x := rfl
theorem bc_false {α : Type} (x y : α) : bc false x y = y := rfl
theorem look_cons (p : Nat × Value) (l : List (Nat × Value)) (d : Nat) (z : Value) : look (p :: l) d z = bc (Nat.beq p.1 d) p.2 (look l d z) := rfl
theorem get_ov (G : Tr Value) (marks : List Nat) (d : Nat) : ∀ (ov : List (Nat × Value)), (∀ p ∈ ov, p.1 ≤ 65535) → (((⟨ov, G, marks⟩ : TS).tr.get d).getD (.tuple #[])) = look ov d ((G.get d).getD (.tuple #[]))
  | [], _ => rfl
  | p :: l, h => by
    have ih := get_ov G marks d l (fun q hq => h q (List.mem_cons_of_mem _ hq))
    have hp : p.1 ≤ 65535 := h p (List.mem_cons_self ..)
    show (((⟨l, G, marks⟩ : TS).tr.set p.2 30 p.1).get d).getD (.tuple #[]) = _
    rw [Tr.get_set, look_cons]
    by_cases c : d = p.1
    · subst c
      rw [if_pos ⟨rfl, by omega⟩, show Nat.beq p.1 p.1 = true from Nat.beq_refl _]; rfl
    · rw [if_neg (fun h => c h.1), beq_ff (fun e => c e.symm)]; exact ih
theorem TS.get_tr {T : TS} (h : T.OK) (d : Nat) : ((T.tr.get d).getD (.tuple #[])) = T.get d := by
  obtain ⟨ov, G, marks⟩ := T; exact get_ov G marks d ov h
theorem ev_tr {T : TS} (h : T.OK) : evT T.tr = ev T := by
  funext x
  cases x with
  | tmp t => exact TS.get_tr h t
  | _ => rfl
theorem TS.OK.put {T : TS} (h : T.OK) {d : Nat} (hd : d ≤ 65535) (v : Value) : (T.put d v).OK := by
  intro p hp
  rcases List.mem_cons.1 hp with rfl | hp
  · exact hd
  · exact h p hp
theorem Tr.set_self {α : Type} (v : α) : ∀ (f : Nat) (t : Tr α) (n : Nat), t.get n = some v → n + 1 < 2 ^ f → t.set v f n = t
  | 0, t, n, _, _ => rfl
  | f + 1, t, n, h, hn => by
    have e : 2 ^ (f + 1) = 2 * 2 ^ f := by rw [Nat.pow_succ]; omega
    cases t with
    | nil => rw [Tr.get_nil] at h; cases h
    | node u l r =>
      rw [Tr.get_node] at h
      rw [Tr.set_node]
      by_cases h0 : n = 0
      · rw [if_pos h0] at h ⊢; rw [h]
      · rw [if_neg h0] at h ⊢
        by_cases h1 : n % 2 = 1
        · rw [if_pos h1] at h ⊢; rw [Tr.set_self v f l _ h (by omega)]
        · rw [if_neg h1] at h ⊢; rw [Tr.set_self v f r _ h (by omega)]
theorem TS.set_self {T : TS} (h : T.OK) {d : Nat} (hd : d ≤ 65535) {v : Value} (hv : T.get d = v) (hu : v ≠ .tuple #[]) : Tr.set v 30 T.tr d = T.tr := by
  refine Tr.set_self v 30 _ _ ?_ (by omega)
  have := TS.get_tr h d
  rw [hv] at this
  cases hg : T.tr.get d with
  | none => rw [hg] at this; exact absurd this.symm hu
  | some u => rw [hg] at this; exact congrArg some this
theorem TS.tr_put (T : TS) (d : Nat) (v : Value) : (T.put d v).tr = Tr.set v 30 T.tr d := rfl
theorem TS.put_self {T : TS} (h : T.OK) {d : Nat} (hd : d ≤ 65535) {v : Value} (hv : T.get d = v) (hu : v ≠ .tuple #[]) : (T.put d v).tr = T.tr := by
  rw [TS.tr_put]; exact TS.set_self h hd hv hu

/-! ### Heaps -/
structure Pay where
  fn : Nat
  T : Tr Value
  size : Nat
  params : List Nat
  assign : Code
  body : Code
  d : Nat
abbrev Pl := Nat → Option Pay
def Pay.blk (p : Pay) (st : LoopState) (pend : Option Code) : Blk := .loop st pend p.fn p.T p.size p.params p.assign p.body p.d
def fillB (p : Option Pay) : Blk → Blk
  | .loop st pend a b c d e f g => match p with
    | some p => p.blk st pend
    | none => .loop st pend a b c d e f g
  | K => K
def Plain : Blk → Prop
  | .loop _ _ _ _ _ _ _ _ _ => False
  | _ => True
theorem fill_plain {K : Blk} (h : Plain K) (p : Option Pay) : fillB p K = K := by cases K <;> first | rfl | exact h.elim
structure Fill (pl : Pl) (h : Hp) (m : Mem) : Prop where
  next : m.next = h.next
  get : ∀ b, m.get b = (h.g b).map (fillB (pl b))
  loops : ∀ b K, h.g b = some K → ¬ Plain K → ∃ p, pl b = some p
  fresh : ∀ b, h.next ≤ b → pl b = none
def PSub (a b : Pl) : Prop := ∀ x p, a x = some p → b x = some p
theorem PSub.refl (a : Pl) : PSub a a := fun _ _ h => h
theorem PSub.trans {a b c : Pl} (h : PSub a b) (k : PSub b c) : PSub a c := fun x p hp => k x p (h x p hp)

theorem Mem.get_set' (m : Mem) (b : Nat) (K : Blk) (i : Nat) : (m.set b K).get i = if i = b then some K else m.get i := by
  rw [Mem.get_set]
  have : b + 1 < 2 ^ (b + 1) := Nat.lt_two_pow_self
  by_cases c : i = b <;> simp [c, this]
theorem Mem.get_new' (m : Mem) (K : Blk) (i : Nat) : (m.new K).get i = if i = m.next then some K else m.get i := by
  rw [Mem.get_new]
  have : m.next + 1 < 2 ^ (m.next + 1) := Nat.lt_two_pow_self
  by_cases c : i = m.next <;> simp [c, this]

section
variable {pl : Pl} {h : Hp} {m : Mem}
theorem Fill.plain (hF : Fill pl h m) {b : Nat} {K : Blk} (hb : h.g b = some K) (hK : Plain K) : m.get b = some K := by
  rw [hF.get, hb]; exact congrArg some (fill_plain hK _)
theorem Fill.row (hF : Fill pl h m) {b sz : Nat} {cs : List Value} (hb : h.g b = some (.row sz cs)) : m.get b = some (.row sz cs) := hF.plain hb trivial
theorem Fill.map (hF : Fill pl h m) {b c : Nat} {es : List MapEntry} (hb : h.g b = some (.map es c)) : m.get b = some (.map es c) := hF.plain hb trivial
theorem Fill.set (hF : Fill pl h m) (b : Nat) {K : Blk} (hK : Plain K) : Fill pl (h.set b K) (m.set b K) := by
  refine ⟨hF.next, fun i => ?_, fun i K' hi hK' => ?_, hF.fresh⟩
  · rw [Mem.get_set']
    show _ = (if i = b then some K else h.g i).map _
    by_cases c : i = b
    · rw [if_pos c, if_pos c]; exact congrArg some (fill_plain hK _).symm
    · rw [if_neg c, if_neg c]; exact hF.get i
  · change (if i = b then some K else h.g i) = some K' at hi
    by_cases c : i = b
    · rw [if_pos c] at hi; cases hi; exact absurd hK hK'
    · rw [if_neg c] at hi; exact hF.loops i K' hi hK'
theorem Fill.new (hF : Fill pl h m) {K : Blk} (hK : Plain K) : Fill pl (h.new K) (m.new K) := by
  refine ⟨by rw [Mem.next_new, hF.next]; rfl, fun i => ?_, fun i K' hi hK' => ?_, fun b hb => hF.fresh b (Nat.le_trans (Nat.le_succ _) hb)⟩
  · rw [Mem.get_new', hF.next]
    show _ = (if i = h.next then some K else h.g i).map _
    by_cases c : i = h.next
    · rw [if_pos c, if_pos c]; exact congrArg some (fill_plain hK _).symm
    · rw [if_neg c, if_neg c]; exact hF.get i
  · change (if i = h.next then some K else h.g i) = some K' at hi
    by_cases c : i = h.next
    · rw [if_pos c] at hi; cases hi; exact absurd hK hK'
    · rw [if_neg c] at hi; exact hF.loops i K' hi hK'
theorem Fill.bump (hF : Fill pl h m) : Fill pl h.bump ⟨m.t, m.next + 1⟩ :=
  ⟨by rw [hF.next]; rfl, fun i => hF.get i, fun i K hi hK => hF.loops i K hi hK, fun b hb => hF.fresh b (Nat.le_trans (Nat.le_succ _) hb)⟩
/-- A loop's block is turned. -/
theorem Fill.loop (hF : Fill pl h m) {l : Nat} {p : Pay} (hp : pl l = some p) (st : LoopState) (pend : Option Code) : Fill pl (h.set l (stub st pend)) (m.set l (p.blk st pend)) := by
  refine ⟨hF.next, fun i => ?_, fun i K' hi hK' => ?_, hF.fresh⟩
  · rw [Mem.get_set']
    show _ = (if i = l then some (stub st pend) else h.g i).map _
    by_cases c : i = l
    · subst c; rw [if_pos rfl, if_pos rfl, hp]; rfl
    · rw [if_neg c, if_neg c]; exact hF.get i
  · change (if i = l then some _ else h.g i) = some K' at hi
    by_cases c : i = l
    · subst c; exact ⟨p, hp⟩
    · rw [if_neg c] at hi; exact hF.loops i K' hi hK'
/-- A new loop's block. -/
theorem Fill.newLoop (hF : Fill pl h m) (p : Pay) (st : LoopState) (pend : Option Code) : ∃ pl1, PSub pl pl1 ∧ pl1 h.next = some p ∧ Fill pl1 (h.new (stub st pend)) (m.new (p.blk st pend)) := by
  refine ⟨fun i => if i = h.next then some p else pl i, fun x q hx => ?_, if_pos rfl, ⟨by rw [Mem.next_new, hF.next]; rfl, fun i => ?_, fun i K' hi hK' => ?_, fun b hb => ?_⟩⟩
  · show (if x = h.next then some p else pl x) = _
    by_cases c : x = h.next
    · subst c; rw [hF.fresh _ (Nat.le_refl _)] at hx; cases hx
    · rw [if_neg c]; exact hx
  · rw [Mem.get_new', hF.next]
    show _ = (if i = h.next then some (stub st pend) else h.g i).map (fillB (if i = h.next then some p else pl i))
    by_cases c : i = h.next
    · rw [if_pos c, if_pos c, if_pos c]; rfl
    · rw [if_neg c, if_neg c, if_neg c]; exact hF.get i
  · change (if i = h.next then some (stub st pend) else h.g i) = some K' at hi
    show ∃ q, (if i = h.next then some p else pl i) = some q
    by_cases c : i = h.next
    · exact ⟨p, if_pos c⟩
    · rw [if_neg c] at hi ⊢; exact hF.loops i K' hi hK'
  · show (if b = h.next then some p else pl b) = none
    change h.next + 1 ≤ b at hb
    rw [if_neg (by omega)]; exact hF.fresh b (by omega)
end

/-! ### Options -/
theorem bind_some' {α β : Type} {x : Option α} {f : α → Option β} {r : β} (h : x.bind f = some r) : ∃ a, x = some a ∧ f a = some r := by
  cases x with
  | none => cases h
  | some a => exact ⟨a, rfl, h⟩
theorem bc_some {α : Type} {c : Bool} {x : Option α} {r : α} (h : bc c x none = some r) : c = true ∧ x = some r := by
  cases c with
  | true => exact ⟨rfl, h⟩
  | false => cases h
theorem ckB_some {R : Type} {c : Bool} {x : Option R} {r : R} (h : ckB c x = some r) : c = true ∧ x = some r := bc_some h
theorem ckE_some {R : Type} {a b : Option Blk} {x : Option R} {r : R} (h : ckE a b x = some r) : a = b ∧ x = some r := by
  unfold ckE at h
  split at h
  · exact ⟨‹_›, h⟩
  · cases h
end Go.Proofs.Ytgikimegikelkaa.Ab
/- The machine told by continuations: one operation does what the machine of lists and tries does. -/
namespace Go.Proofs.Ytgikimegikelkaa.Ab
open Go Go.RowKit
set_option linter.unusedVariables false
set_option linter.unusedSimpArgs false
set_option linter.unusedSectionVars false

theorem sameKind_refl {k k' : IntKind} (h : sameKind k k' = true) : k = k' := by cases k <;> cases k' <;> first | rfl | cases h
theorem bif_t {α : Type} {c : Bool} {x : Option α} {r : α} (h : (bif c then x else none) = some r) : c = true ∧ x = some r := by
  cases c with
  | true => exact ⟨rfl, h⟩
  | false => cases h
theorem int_beq (x : Int) : (x == x) = true := by simp
theorem castK_ok {R : Type} {k : Ck} {v : Option Value} {K : Value → Option R} {r : R} (h : castK k v K = some r) : ∃ x, v = some x ∧ K x = some r ∧ eqCell x x = true := by
  cases k with
  | int i =>
    obtain ⟨x, h1, h2⟩ := bind_some' h
    unfold asI at h1
    split at h1
    · obtain ⟨h3, h4⟩ := bif_t h1
      cases h4
      obtain rfl := sameKind_refl h3
      exact ⟨_, rfl, h2, by simp [eqCell, h3]⟩
    · cases h1
  | bool =>
    obtain ⟨x, h1, h2⟩ := bind_some' h
    unfold asB at h1
    split at h1
    · cases h1; exact ⟨_, rfl, h2, by show (x == x) = true; simp⟩
    · cases h1
  | ptr =>
    obtain ⟨x, h1, h2⟩ := bind_some' h
    unfold asP at h1
    split at h1
    · cases h1; exact ⟨_, rfl, h2, by simp [eqCell, Nat.beq_refl]⟩
    · cases h1
  | slc =>
    obtain ⟨x, h1, h2⟩ := bind_some' h
    unfold asS at h1
    split at h1
    · cases h1; exact ⟨_, rfl, h2, by simp [eqCell, Nat.beq_refl]⟩
    · cases h1; exact ⟨_, rfl, h2, by simp [eqCell, Nat.beq_refl]⟩
    · cases h1
  | map =>
    obtain ⟨x, h1, h2⟩ := bind_some' h
    unfold asM at h1
    split at h1
    · cases h1; exact ⟨_, rfl, h2, by simp [eqCell, Nat.beq_refl]⟩
    · cases h1
theorem castL_cons {R : Type} (f : Nat → Option Value) (k : Ck) (l : List Ck) (j : Nat) (K : List Value → Option R) : castL f (k :: l) j K = castK k (f j) fun v => castL f l (j + 1) fun vs => K (v :: vs) := rfl
theorem castL_ok {R : Type} {f : Nat → Option Value} {r : R} : ∀ {l : List Ck} {j : Nat} {K : List Value → Option R}, castL f l j K = some r → ∃ vs, vs.length = l.length ∧ (∀ i v, vs[i]? = some v → f (j + i) = some v ∧ eqCell v v = true) ∧ K vs = some r
  | [], j, K, h => ⟨[], rfl, fun i v hv => by simp at hv, h⟩
  | k :: l, j, K, h => by
    rw [castL_cons] at h
    obtain ⟨x, h1, h2, h3⟩ := castK_ok h
    obtain ⟨vs, h4, h5, h6⟩ := castL_ok h2
    refine ⟨x :: vs, by simp [h4], fun i v hv => ?_, h6⟩
    cases i with
    | zero => simp at hv; subst hv; exact ⟨h1, h3⟩
    | succ i =>
      have := h5 i v (by simpa using hv)
      rw [show j + (i + 1) = j + 1 + i by omega]; exact this
theorem takeN_of {α : Type} : ∀ (vs l : List α), (∀ (i : Nat) v, vs[i]? = some v → l[i]? = some v) → takeN vs.length l = some vs
  | [], l, _ => rfl
  | v :: vs, [], h => by have := h 0 v (by simp); simp at this
  | v :: vs, x :: l, h => by
    have h0 : x = v := by have := h 0 v (by simp); simpa using this
    subst h0
    rw [List.length_cons, takeN_cons, takeN_of vs l (fun i w hw => by have := h (i + 1) w (by simpa using hw); simpa using this)]
    rfl
theorem eqCells_of : ∀ (vs : List Value), (∀ (i : Nat) v, vs[i]? = some v → eqCell v v = true) → eqCells vs vs = true
  | [], _ => rfl
  | v :: vs, h => by
    show (eqCell v v && eqCells vs vs) = true
    rw [h 0 v (by simp), eqCells_of vs (fun i w hw => h (i + 1) w (by simpa using hw))]; rfl
theorem eqVal_cell {v : Value} (h : eqCell v v = true) : eqVal v v = true := by
  cases v <;> first | exact h | cases h
/-- What a block's cell reads. -/
def CellB (K : Blk) (o : Nat) (v : Value) : Prop := (∃ sz cs, K = .row sz cs ∧ nth cs o = some v) ∨ (∃ f, K = .ro f ∧ f o = some v)
theorem CellB.plain {K : Blk} {o : Nat} {v : Value} (h : CellB K o v) : Plain K := by
  rcases h with ⟨sz, cs, rfl, _⟩ | ⟨f, rfl, _⟩ <;> trivial
theorem rd_row {h : Hp} {b o : Nat} {v : Value} (hr : rd h b o = some v) : ∃ K, h.g b = some K ∧ CellB K o v := by
  unfold rd at hr
  split at hr
  · rename_i sz cs hg; exact ⟨_, hg, .inl ⟨sz, cs, rfl, hr⟩⟩
  · rename_i f hg; exact ⟨_, hg, .inr ⟨f, rfl, hr⟩⟩
  · cases hr
theorem roN_of {f : Nat → Option Value} : ∀ (vs : List Value) (o : Nat), (∀ (i : Nat) v, vs[i]? = some v → f (o + i) = some v) → roN f vs.length o = some vs
  | [], o, _ => rfl
  | v :: vs, o, h => by
    have h0 : f o = some v := h 0 v (by simp)
    have ih := roN_of vs (o + 1) (fun i w hw => by
      have := h (i + 1) w (by simpa using hw)
      rw [show o + 1 + i = o + (i + 1) by omega]; exact this)
    show (match f o with | some v => (match roN f vs.length (o + 1) with | some l => some (v :: l) | none => none) | none => none) = _
    rw [h0, ih]
section
variable {E : Env} {R : Type}
theorem loadK_ok {hn : Option (Nat × List Ck)} {h : Hp} {t b o : Nat} {K : Value → Option R} {r : R} (hk : loadK E hn h t b o K = some r) :
    ∃ v KK, h.g b = some KK ∧ Plain KK ∧ (∀ m : Mem, m.get b = some KK → loadV E m t b o = some v) ∧ K v = some r ∧ (hn = none → eqVal v v = true) := by
  unfold loadK at hk
  cases hi : E.info t with
  | none => rw [hi] at hk; cases hk
  | some di =>
    obtain ⟨d, i⟩ := di
    rw [hi] at hk
    simp only at hk
    cases ha : isAggD d with
    | true =>
      rw [ha, cond_true] at hk
      split at hk
      · rename_i ks hks
        obtain ⟨hc, hk⟩ := bif_t hk
        rw [Bool.and_eq_true] at hc
        have hlen := Nat.eq_of_beq_eq_true hc.1
        have hpos := Nat.le_of_ble_eq_true hc.2
        obtain ⟨vs, h1, h2, h3⟩ := castL_ok hk
        have hex : ∃ v0, vs[0]? = some v0 := ⟨vs[0]'(by omega), List.getElem?_eq_getElem _⟩
        obtain ⟨v0, hv0⟩ := hex
        obtain ⟨KK, hg, hcb⟩ := rd_row (h2 0 v0 hv0).1
        refine ⟨_, KK, hg, hcb.plain, fun m hm => ?_, h3, fun _ => ?_⟩
        · unfold loadV
          rw [hi]
          simp only [ha, cond_true]
          unfold readN
          rw [hm]
          rcases hcb with ⟨sz, cs, rfl, _⟩ | ⟨f, rfl, _⟩
          · simp only
            rw [dropN_eq, ← hlen, ← h1, takeN_of vs (cs.drop o) (fun i v hv => ?_)]
            obtain ⟨K2, hg', hn'⟩ := rd_row (h2 i v hv).1
            rw [hg] at hg'; cases hg'
            rcases hn' with ⟨sz', cs', he, hn'⟩ | ⟨f, he, _⟩
            · cases he
              rw [nth_eq] at hn'
              rw [List.getElem?_drop, ← hn']; congr 1; omega
            · cases he
          · simp only
            rw [← hlen, ← h1, roN_of vs o (fun i v hv => ?_)]
            obtain ⟨K2, hg', hn'⟩ := rd_row (h2 i v hv).1
            rw [hg] at hg'; cases hg'
            rcases hn' with ⟨sz', cs', he, hn'⟩ | ⟨f', he, hn'⟩
            · cases he
            · cases he
              rw [Nat.zero_add] at hn'; exact hn'
        · exact eqCells_of vs (fun i v hv => (h2 i v hv).2)
      · cases hk
    | false =>
      rw [ha, cond_false] at hk
      have hload : ∀ KK v, CellB KK o v → ∀ m : Mem, m.get b = some KK → loadV E m t b o = some v := by
        intro KK v hv m hm
        unfold loadV
        rw [hi]
        simp only [ha, cond_false]
        unfold read1
        rw [hm]
        rcases hv with ⟨sz, cs, rfl, hv⟩ | ⟨f, rfl, hv⟩ <;> exact hv
      cases hn with
      | some gk =>
        obtain ⟨g, ks⟩ := gk
        simp only at hk
        unfold fnK at hk
        obtain ⟨cs0, h1, h2⟩ := bind_some' hk
        unfold asF at h1
        split at h1
        · rename_i g' first cap hrd
          obtain ⟨hc, h1⟩ := bif_t h1
          simp only [Bool.and_eq_true] at hc
          cases h1
          obtain ⟨vs, h3, h4, h5⟩ := castL_ok h2
          obtain ⟨KK, hg, hcb⟩ := rd_row hrd
          have e1 : g' = g := Nat.eq_of_beq_eq_true hc.1.1
          have e2 : first = #[] := Array.eq_empty_of_size_eq_zero (Nat.eq_of_beq_eq_true hc.1.2)
          have e3 : cap = vs.toArray := by
            apply Array.ext'
            apply List.ext_getElem?
            intro i
            have hcl : cap.toList.length = vs.length := by rw [h3]; simpa using Nat.eq_of_beq_eq_true hc.2
            cases hv : vs[i]? with
            | none => rw [List.getElem?_eq_none_iff] at hv ⊢; omega
            | some v =>
              have := (h4 i v hv).1
              rw [nth_eq, Nat.zero_add] at this
              exact this
          subst e1 e2 e3
          exact ⟨_, KK, hg, hcb.plain, hload KK _ hcb, h5, fun hx => by cases hx⟩
        · cases h1
      | none =>
        simp only at hk
        split at hk
        · rename_i k hkd
          obtain ⟨x, h1, h2, h3⟩ := castK_ok hk
          obtain ⟨KK, hg, hcb⟩ := rd_row h1
          exact ⟨x, KK, hg, hcb.plain, hload KK _ hcb, h2, fun _ => eqVal_cell h3⟩
        · cases hk

theorem direct_ok {ev : Operand → Value} {m : Mem} {o : Oper} (hd : direct o.op = true) : opEvalG E ev ⟨.nil, 0⟩ o = opEvalG E ev m o := by
  obtain ⟨dst, op, ty, pos, after, guard⟩ := o
  cases op with
  | makeMap t r => cases r <;> first | rfl | cases hd
  | binOp op a b c d => rfl
  | _ => first | rfl | cases hd
theorem ofAlloc_some {x : Option (Blk × (Nat → Value))} {k : Blk} {mk : Nat → Value} (h : OpR.ofAlloc x = .alloc k mk) : x = some (k, mk) := by
  cases x with
  | none => cases h
  | some y => obtain ⟨a, b⟩ := y; cases h; rfl
theorem ofVal_alloc {x : Option Value} {k : Blk} {mk : Nat → Value} : OpR.ofVal x ≠ .alloc k mk := by cases x <;> (intro h; cases h)
theorem alloc_plain {ev : Operand → Value} {m : Mem} {o : Oper} {k : Blk} {mk : Nat → Value} (h : opEvalG E ev m o = .alloc k mk) : Plain k := by
  obtain ⟨dst, op, ty, pos, after, guard⟩ := o
  unfold opEvalG at h
  cases op with
  | alloc e =>
    simp only at h
    repeat' split at h
    all_goals first | cases h; exact trivial | cases h
  | box e x =>
    simp only at h
    cases hc : okp (ev x) with
    | true => rw [hc, cond_true] at h; cases h; exact trivial
    | false => rw [hc, cond_false] at h; cases h
  | buildSlice t n parts =>
    have h := ofAlloc_some h
    unfold opBuildSlice at h
    split at h
    · obtain ⟨_, h⟩ := bif_t h
      split at h
      · cases h; exact trivial
      · cases h
    · cases h
  | makeMap t r =>
    cases r with
    | none => simp only at h; cases h; exact trivial
    | some r => simp only at h; cases h
  | makeSlice t l c =>
    have h := ofAlloc_some h
    unfold opMakeSlice at h
    split at h
    · obtain ⟨_, h⟩ := bif_t h
      cases h; exact trivial
    · cases h
  | move x => cases h
  | assign x => cases h
  | pick c a b => simp only at h; split at h <;> cases h
  | build t parts => exact absurd h ofVal_alloc
  | nilCheck x => simp only at h; split at h <;> cases h
  | binOp op t x y _ => exact absurd h ofVal_alloc
  | unOp op t x => exact absurd h ofVal_alloc
  | convert s d x => simp only at h; split at h <;> cases h
  | makeFunc fn f c => simp only at h; split at h <;> cases h
  | slice t x lo hi mx => exact absurd h ofVal_alloc
  | fieldAddr s x f => exact absurd h ofVal_alloc
  | field s x f => exact absurd h ofVal_alloc
  | indexAddr t x i => exact absurd h ofVal_alloc
  | extract x i =>
    simp only at h
    split at h
    · exact absurd h ofVal_alloc
    · cases h
  | load t a => simp only at h; cases hx : opLoad E m t (ev a) <;> (rw [hx] at h; cases h)
  | store t a x => simp only at h; cases hx : opStore E m t (ev a) (ev x) <;> (rw [hx] at h; cases h)
  | lookup t x k b => simp only at h; cases hx : opLookup E m t (ev x) (ev k) b <;> (rw [hx] at h; cases h)
  | mapUpdate t x k v => simp only at h; cases hx : opMapUpdate E m t (ev x) (ev k) (ev v) <;> (rw [hx] at h; cases h)
  | insert t x k v => simp only at h; cases hx : opMapUpdate E m t (ev x) (ev k) (ev v) <;> (rw [hx] at h; cases h)
  | call c =>
    simp only at h
    split at h
    · split at h
      · rename_i fn first cap _
        cases fn <;> (first | (simp only [opCall] at h; cases h))
      · cases h
    · unfold opBuiltin at h
      repeat' split at h
      all_goals first
        | cases h
        | (cases hx : opAppend E m c.argTypes.toList (c.args.toList.map ev) <;> (rw [hx] at h; cases h))
        | (cases hx : opCopy E m c.argTypes.toList (c.args.toList.map ev) <;> (rw [hx] at h; cases h))
        | (cases hx : opClear E m c.argTypes.toList (c.args.toList.map ev) <;> (rw [hx] at h; cases h))
        | (rename_i hx; cases hx; cases h)
    · cases h
  | _ => cases h
end
end Go.Proofs.Ytgikimegikelkaa.Ab
/- The machine told by continuations: one operation does what the machine of lists and tries does (each of them). -/
namespace Go.Proofs.Ytgikimegikelkaa.Ab
open Go Go.RowKit
set_option linter.unusedVariables false
set_option linter.unusedSimpArgs false
set_option linter.unusedSectionVars false

inductive OpS {R : Type} (E : Env) (e : Operand → Value) (nohint : Prop) (pl : Pl) (h : Hp) (m : Mem) (o : Oper) (KV : Value → Option R) (KR : Nat → Value → Option R) (KA : Blk → (Nat → Value) → Option R) (KW : Value → Hp → Option R) (KC : CallTo → List Value → Option R) (r : R) : Prop
  | V (v : Value) (h1 : opEvalG E e m o = .val v) (h2 : KV v = some r)
  | R (b : Nat) (v : Value) (K : Blk) (hb : h.g b = some K) (hp : Plain K) (h1 : ∀ m' : Mem, m'.get b = m.get b → opEvalG E e m' o = .read b v) (h2 : KR b v = some r) (h3 : nohint → eqVal v v = true)
  | A (k : Blk) (mk : Nat → Value) (h1 : opEvalG E e m o = .alloc k mk) (hp : Plain k) (h2 : KA k mk = some r)
  | W (v : Value) (h' : Hp) (m' : Mem) (h1 : opEvalG E e m o = .write v m') (h2 : KW v h' = some r) (h3 : Fill pl h' m')
  | C (c : CallTo) (args : List Value) (h1 : opEvalG E e m o = .call c args) (h2 : KC c args = some r)

section
variable {E : Env} {R : Type} {pl : Pl} {h : Hp} {m : Mem}
theorem wr_ok (hF : Fill pl h m) {b o : Nat} {vs : List Value} {h1 : Hp} (hw : wr h b o vs = some h1) : ∃ sz cs r, m.get b = some (.row sz cs) ∧ putN cs o vs = some r ∧ Fill pl h1 (m.set b (.row sz r)) := by
  unfold wr at hw
  split at hw
  · rename_i sz cs hg
    split at hw
    · rename_i r hp
      cases hw
      exact ⟨sz, cs, r, hF.row hg, hp, hF.set _ trivial⟩
    · cases hw
  · cases hw
theorem srcH_ok (hF : Fill pl h m) {src : Option Addr} {k : Nat} {l : List Value} (hs : srcH h src k = some l) : srcCells m src k = some l := by
  unfold srcH at hs
  unfold srcCells
  split at hs
  · split at hs
    · rename_i sz cs hg
      simp only [readN, hF.row hg]; exact hs
    · rename_i f hg
      simp only [readN, hF.plain hg trivial]; exact hs
    · cases hs
  · exact hs
  · cases hs
theorem app_ok (hF : Fill pl h m) {t t2 size bytes e : Nat} {zs : List Value} {x : Nat × Nat × Nat × List Value} (ht : sliceElem E t = some (e, size, bytes, zs)) (ht2 : sliceElem E t2 = some x) (hbytes : Nat.ble bytes 1048576 = true)
    {base src : Option Addr} {len cap n c2 : Nat} {p : Sl × Hp} (ha : appS h size base len cap src n = some p) :
    ∃ m1, opAppend E m [t, t2] [.slice base len cap, .slice src n c2] = some (.slice p.1.a p.1.n p.1.c, m1) ∧ Fill pl p.2 m1 := by
  unfold appS at ha
  unfold opAppend
  simp only [ht, ht2]
  split at ha
  · rename_i new hs
    simp only [srcH_ok hF hs]
    cases hc : Nat.ble (len + n) cap with
    | true =>
      rw [hc, cond_true] at ha
      rw [cond_true]
      split at ha
      · rename_i b o
        split at ha
        · rename_i sz cs hg
          simp only [hF.row hg]
          split at ha
          · rename_i r hp
            cases ha
            exact ⟨_, by simp only [hp], hF.set _ trivial⟩
          · cases ha
        · cases ha
      · obtain ⟨hn, ha⟩ := bif_t ha
        cases ha
        exact ⟨m, by simp only [hn, cond_true], hF⟩
      · cases ha
    | false =>
      rw [hc, cond_false] at ha
      rw [cond_false]
      obtain ⟨hn, ha⟩ := bif_t ha
      rw [Bool.and_eq_true] at hn
      rw [hn.1, hn.2, hbytes]
      simp only [Bool.and_self, cond_true]
      split at ha
      · rename_i b o
        split at ha
        · rename_i sz cs hg
          simp only [hF.row hg]
          split at ha
          · rename_i old ho
            obtain ⟨hq, ha⟩ := bif_t ha
            cases ha
            refine ⟨_, by simp only [ho, hq, cond_true, hF.next], Fill.new (K := .row size (old ++ new)) (Fill.set hF _ (K := .dead) trivial) trivial⟩
          · cases ha
        · cases ha
      · obtain ⟨hq, ha⟩ := bif_t ha
        cases ha
        exact ⟨_, by simp only [hq, cond_true, hF.next], hF.new trivial⟩
      · cases ha
  · cases ha
theorem copy_ok (hF : Fill pl h m) {t size bytes e : Nat} {zs : List Value} {ts : List Nat} (ht : sliceElem E t = some (e, size, bytes, zs)) {dst src : Option Addr} {dl sl c1 c2 : Nat} {p : Nat × Hp} (ha : copyS h size dst dl src sl = some p) :
    ∃ m1, opCopy E m (t :: ts) [.slice dst dl c1, .slice src sl c2] = some (.int .i64 p.1, m1) ∧ Fill pl p.2 m1 := by
  unfold copyS at ha
  unfold opCopy
  simp only [ht]
  split at ha
  · rename_i new hs
    simp only [srcH_ok hF hs]
    split at ha
    · rename_i b o
      split at ha
      · rename_i sz cs hg
        simp only [hF.row hg]
        split at ha
        · rename_i r hp
          cases ha
          exact ⟨_, by simp only [hp], hF.set _ trivial⟩
        · cases ha
      · cases ha
    · cases ha; exact ⟨m, rfl, hF⟩
    · cases ha
  · cases ha
theorem clr_ok (hF : Fill pl h m) {t size bytes e : Nat} {zs : List Value} (ht : sliceElem E t = some (e, size, bytes, zs)) {base : Option Addr} {n c1 : Nat} {h1 : Hp} (ha : clrS h zs base n = some h1) :
    ∃ m1, opClear E m [t] [.slice base n c1] = some (.tuple #[], m1) ∧ Fill pl h1 m1 := by
  unfold clrS at ha
  unfold opClear
  simp only [ht]
  cases hc : Nat.beq n 0 with
  | true => rw [hc, cond_true] at ha; cases ha; exact ⟨m, by rw [cond_true], hF⟩
  | false =>
    rw [hc, cond_false] at ha
    rw [cond_false]
    split at ha
    · rename_i b o
      split at ha
      · rename_i sz cs hg
        simp only [hF.row hg]
        split at ha
        · rename_i r hp
          cases ha
          exact ⟨_, by simp only [hp], hF.set _ trivial⟩
        · cases ha
      · cases ha
    · cases ha; exact ⟨m, rfl, hF⟩
    · cases ha
theorem mput_ok (hF : Fill pl h m) {t b kt et : Nat} {i : TypeInfo} {k v : Value} (ht : E.info t = some (.map kt et, i)) (hkey : keyOk E kt k = true) {h1 : Hp} (ha : mput h b k v = some h1) :
    ∃ m1, opMapUpdate E m t (.map (some b)) k v = some m1 ∧ Fill pl h1 m1 := by
  unfold mput at ha
  unfold opMapUpdate
  rw [ht]
  simp only
  split at ha
  · rename_i es clock hg
    rw [hF.map hg]
    simp only [hkey, cond_true]
    split at ha
    · rename_i ix v0 hf
      cases ha
      exact ⟨_, by simp only [hf], hF.set _ trivial⟩
    · rename_i hf
      cases ha
      exact ⟨_, by simp only [hf], hF.set _ trivial⟩
    · cases ha
  · cases ha
theorem mgI_ok {b t kt et : Nat} {i ei : TypeInfo} {ed : TypeDesc} {key : Value} {ki : IntKind} {z : Int} {p : Int × Bool} {ok : Bool} (ht : E.info t = some (.map kt et, i)) (het : E.info et = some (ed, ei)) (hz : ei.zero = some (.int ki z)) (hkey : keyOk E kt key = true) (hg : mgI h b key ki z = some p) :
    ∃ es c, h.g b = some (.map es c) ∧ ∀ m : Mem, m.get b = some (.map es c) → opLookup E m t (.map (some b)) key ok = some (b, bif ok then .tuple #[.int ki p.1, .bool p.2] else .int ki p.1) := by
  unfold mgI at hg
  split at hg
  · rename_i es c hb
    refine ⟨es, c, hb, fun m hm => ?_⟩
    unfold opLookup
    rw [ht]
    simp only
    rw [hm, het]
    simp only [hkey, cond_true, hz]
    split at hg
    · rename_i ix k' x hf
      obtain ⟨hk, hg⟩ := bif_t hg
      cases hg
      obtain rfl := sameKind_refl hk
      simp only [hf]
    · rename_i hf
      cases hg
      simp only [hf]
    · cases hg
  · cases hg
theorem mgB_ok {b t kt et : Nat} {i ei : TypeInfo} {ed : TypeDesc} {key : Value} {z : Bool} {p : Bool × Bool} {ok : Bool} (ht : E.info t = some (.map kt et, i)) (het : E.info et = some (ed, ei)) (hz : ei.zero = some (.bool z)) (hkey : keyOk E kt key = true) (hg : mgB h b key z = some p) :
    ∃ es c, h.g b = some (.map es c) ∧ ∀ m : Mem, m.get b = some (.map es c) → opLookup E m t (.map (some b)) key ok = some (b, bif ok then .tuple #[.bool p.1, .bool p.2] else .bool p.1) := by
  unfold mgB at hg
  split at hg
  · rename_i es c hb
    refine ⟨es, c, hb, fun m hm => ?_⟩
    unfold opLookup
    rw [ht]
    simp only
    rw [hm, het]
    simp only [hkey, cond_true, hz]
    split at hg
    · rename_i ix x hf
      cases hg
      simp only [hf]
    · rename_i hf
      cases hg
      simp only [hf]
    · cases hg
  · cases hg
theorem sameKind_self {k k' : IntKind} (h : sameKind k k' = true) : sameKind k k = true := by have := sameKind_refl h; subst this; exact h

theorem sl_eq {t : Nat} {x : Value} {lo hi : Option Operand} {e : Operand → Value} {size el bytes : Nat} {zs : List Value} {a : Option Addr} {len cap : Nat} {l u : Int} {s : Sl} (ht : sliceElem E t = some (el, size, bytes, zs))
    (hl : (match lo with | none => some 0 | some l => intV (e l)) = some l) (hu : (match hi with | none => some (len : Int) | some u => intV (e u)) = some u) (hs : slA a cap size l u = some s) :
    opSlice E t (.slice a len cap) (lo.map e) (hi.map e) none = some (.slice s.a s.n s.c) := by
  unfold slA at hs
  obtain ⟨hc, hs⟩ := bif_t hs
  simp only [Bool.and_eq_true, decide_eq_true_eq] at hc
  obtain ⟨⟨h0, h1⟩, h2⟩ := hc
  have e1 : natOf (lo.map e) 0 = some l.toNat := by
    cases lo with
    | none => cases hl; rfl
    | some x =>
      simp only [intV] at hl
      simp only [Option.map_some, natOf]
      split at hl
      · rename_i n hx; rw [hx]; cases hl; simp [h0]
      · cases hl
  have e2 : natOf (hi.map e) len = some u.toNat := by
    cases hi with
    | none => cases hu; simp [natOf]
    | some x =>
      simp only [intV] at hu
      simp only [Option.map_some, natOf]
      split at hu
      · rename_i n hx; rw [hx]; cases hu
        have : (0 : Int) ≤ u := by omega
        simp [this]
      · cases hu
  unfold opSlice
  simp only [ht, e1, e2]
  have c1 : Nat.ble l.toNat u.toNat = true := Nat.ble_eq_true_of_le (by omega)
  have c2 : Nat.ble u.toNat cap = true := Nat.ble_eq_true_of_le (by omega)
  rw [c1, c2]
  simp only [Bool.and_self, cond_true]
  split at hs
  · cases hs; rfl
  · cases hs; rfl
  · cases hs
theorem ix_eq {t e len c : Nat} {i ei : TypeInfo} {d : TypeDesc} {a : Option Addr} {k : IntKind} {x : Int} {p : Nat × Nat} (ht : E.info t = some (.slice e, i)) (he : E.info e = some (d, ei)) (hp : ixA a len ei.size x = some p) :
    opIndexAddr E t (.slice a len c) (.int k x) = some (.pointer (some ⟨p.1, p.2, none⟩)) := by
  unfold ixA at hp
  split at hp
  · obtain ⟨hc, hp⟩ := bif_t hp
    cases hp
    unfold opIndexAddr
    simp only [ht, hc, cond_true, he]
  · cases hp

theorem eqAll_ok : ∀ (l r : List Value) (b : Bool), eqAll l r = some b → eqFlats l r = some b
  | [], [], b, h => h
  | [], _ :: _, b, h => by simp [eqAll] at h
  | x :: l, [], b, h => by cases x <;> simp [eqAll] at h
  | x :: l, y :: r, b, h => by
    cases x with
    | int k a =>
      cases y with
      | int k' c =>
        simp only [eqAll] at h
        obtain ⟨hs, h⟩ := bif_t h
        split at h
        · rename_i d hd
          cases h
          have ih := eqAll_ok l r d hd
          unfold eqFlats
          simp only [eqFlat, hs, cond_true]
          cases hc : (a == c) with
          | true => simp only [ih, Bool.true_and]
          | false => simp only [ih, Bool.false_and]
        · cases h
      | _ => simp [eqAll] at h
    | _ => simp [eqAll] at h
theorem eqB_ok {t : Nat} {x y : Value} {b : Bool} (h : eqB E t x y = some b) : binV E .eql t x y = some (.bool b) ∧ binV E .neq t x y = some (.bool (!b)) := by
  unfold eqB at h
  split at h
  · rename_i a n c n' c'
    split at h
    · rename_i e i ht
      cases h
      have : eqIs E t (.slice a n c) (.slice none n' c') = some a.isNone := by cases a <;> rfl
      simp only [binV, ht, okEq, cond_true, this]
      exact ⟨trivial, trivial⟩
    · cases h
  · rename_i xs ys
    split at h
    · rename_i fs i ht
      obtain ⟨hc, h⟩ := bif_t h
      have : eqIs E t (.agg xs) (.agg ys) = some b := by
        show eqStruct E t xs ys = some b
        unfold eqStruct
        simp only [ht, hc, cond_true, eqAll_ok _ _ _ h]
      simp only [binV, ht, okEq, cond_true, this]
      exact ⟨trivial, trivial⟩
    · cases h
  · split at h
    · rename_i b' hb
      cases h
      refine ⟨hb, ?_⟩
      cases x <;> cases y
      all_goals first
        | (simp only [binV] at hb ⊢
           obtain ⟨hs, hb⟩ := bif_t hb
           rw [hs, cond_true]
           simp only [arith, Option.some.injEq, Value.bool.injEq] at hb ⊢
           rw [← hb]; rfl)
        | (simp only [binV] at hb ⊢
           split at hb
           · rename_i d i ht
             obtain ⟨hs, hb⟩ := bif_t hb
             split at hb
             · rename_i c hc
               cases hb
               simp only [hs, cond_true, hc]
             · cases hb
           · cases hb)
    · cases h

theorem opK_ok {hint : Nat → Option (Nat × List Ck)} {T : TS} {o : Oper} {KV : Value → Option R} {KR : Nat → Value → Option R} {KA : Blk → (Nat → Value) → Option R} {KW : Value → Hp → Option R} {KC : CallTo → List Value → Option R} {r : R}
    (hF : Fill pl h m) (hk : opK E hint T h o KV KR KA KW KC = some r) : OpS E (ev T) (∀ d, hint d = none) pl h m o KV KR KA KW KC r := by
  unfold opK at hk
  cases hd : direct o.op with
  | true =>
    rw [hd, cond_true, direct_ok (m := m) hd] at hk
    split at hk
    · rename_i v hv; exact .V v hv hk
    · rename_i k mk hv; exact .A k mk hv (alloc_plain hv) hk
    · cases hk
  | false =>
    rw [hd, cond_false] at hk
    obtain ⟨dst, op, ty, pos, after, guard⟩ := o
    cases op with
    | makeFunc fn first cap =>
      simp only at hk
      split at hk
      · rename_i f
        refine .V _ ?_ hk
        simp only [opEvalG]
        congr 2
        · apply Array.ext'; simp
        · apply Array.ext'; simp
      · cases hk
    | pick c a b =>
      simp only at hk
      split at hk
      · rename_i t ht
        cases t with
        | true => exact .V (ev T a) (by simp only [opEvalG, ht, cond_true]) hk
        | false => exact .V (ev T b) (by simp only [opEvalG, ht, cond_false]) hk
      · cases hk
    | load t a =>
      simp only at hk
      split at hk
      · rename_i b off ha
        obtain ⟨v, KK, h1, hp, h2, h3, h4⟩ := loadK_ok hk
        refine .R b v KK h1 hp (fun m' hm' => ?_) h3 (fun hn => h4 ?_)
        · simp only [opEvalG, opLoad, ha, h2 m' (hm'.trans (hF.plain h1 hp))]; rfl
        · cases dst with
          | none => rfl
          | some d => exact hn d
      · cases hk
    | store t a x =>
      simp only at hk
      split at hk
      · rename_i b off d i ha ht
        obtain ⟨hc, hk⟩ := bif_t hk
        obtain ⟨h1, hw, hk⟩ := bind_some' hk
        obtain ⟨sz, cs, r', h2, h3, h4⟩ := wr_ok hF hw
        refine .W (.tuple #[]) h1 _ ?_ hk h4
        simp only [opEvalG, opStore, ha, storeV, ht, hc, cond_true, h2, h3]; rfl
      · cases hk
    | binOp op t x y yt =>
      have heq : ∀ b, (op = .eql ∧ eqB E t (ev T x) (ev T y) = some b ∧ KV (.bool b) = some r) ∨ (op = .neq ∧ eqB E t (ev T x) (ev T y) = some b ∧ KV (.bool (!b)) = some r) → OpS E (ev T) (∀ d, hint d = none) pl h m ⟨dst, .binOp op t x y yt, ty, pos, after, guard⟩ KV KR KA KW KC r := by
        rintro b (⟨rfl, h1, h2⟩ | ⟨rfl, h1, h2⟩)
        · exact .V _ (by simp only [opEvalG, (eqB_ok h1).1]; rfl) h2
        · exact .V _ (by simp only [opEvalG, (eqB_ok h1).2]; rfl) h2
      by_cases he : op = .eql
      · subst he
        simp only at hk
        split at hk
        · rename_i b hb; exact heq b (.inl ⟨rfl, hb, hk⟩)
        · cases hk
      by_cases hne : op = .neq
      · subst hne
        simp only at hk
        split at hk
        · rename_i b hb; exact heq b (.inr ⟨rfl, hb, hk⟩)
        · cases hk
      replace hk : (match ev T x, ev T y with
    | .int k a, .int k' b => bif sameKind k k' then ckB (!(b == 0)) (match op with
        | .quo => KV (.int k (k.wrap (a.tdiv b)))
        | .rem => KV (.int k (a.tmod b))
        | _ => none) else none
    | _, _ => none) = some r := by
        cases op <;> first | exact absurd rfl he | exact absurd rfl hne | exact hk
      simp only at hk
      split at hk
      · rename_i k a k' b ha hb
        obtain ⟨hs, hk⟩ := bif_t hk
        obtain ⟨hz, hk⟩ := ckB_some hk
        have hz' : (b == 0) = false := by simpa using hz
        cases op <;> (simp only at hk; try cases hk)
        all_goals refine .V _ ?_ hk
        all_goals simp only [opEvalG, ha, hb, binV, hs, cond_true, arith, hz', cond_false]; rfl
      · cases hk
    | indexAddr t x ix =>
      simp only at hk
      split at hk
      · rename_i e i a len c k n ht hx hi
        split at hk
        · rename_i d ei he
          obtain ⟨p, hp, hk⟩ := bind_some' hk
          refine .V _ ?_ hk
          simp only [opEvalG, hx, hi, ix_eq ht he hp]; rfl
        · cases hk
      · rename_i n e i b off k x' ht hx hi
        split at hk
        · rename_i d ei he
          obtain ⟨hc, hk⟩ := ckB_some hk
          refine .V _ ?_ hk
          simp only [opEvalG, hx, hi, opIndexAddr, ht, hc, cond_true, he]; rfl
        · cases hk
      · cases hk
    | slice t x lo hi mx =>
      cases mx with
      | some y => simp only at hk; cases hk
      | none =>
        simp only at hk
        split at hk
        · rename_i el size bytes zs a len cap ht hx
          split at hk
          · rename_i l u hl hu
            obtain ⟨s, hs, hk⟩ := bind_some' hk
            refine .V _ ?_ hk
            have e := sl_eq (lo := lo) (hi := hi) (e := ev T) (x := ev T x) ht hl hu hs
            simp only [opEvalG, hx, Option.map_none]
            rw [e]; rfl
          · cases hk
        · cases hk
    | lookup t x k ok =>
      simp only at hk
      split at hk
      · rename_i kt et i b ht hx
        split at hk
        · rename_i ed ei het
          obtain ⟨hkey, hk⟩ := bif_t hk
          split at hk
          · rename_i ki z hz
            obtain ⟨hsk, hk⟩ := bif_t hk
            obtain ⟨p, hp, hk⟩ := bind_some' hk
            obtain ⟨es, c, h1, h2⟩ := mgI_ok (ok := ok) ht het hz hkey hp
            refine .R b _ (.map es c) h1 trivial (fun m' hm' => ?_) hk (fun _ => ?_)
            · simp only [opEvalG, hx, h2 m' (hm'.trans (hF.map h1))]; rfl
            · obtain ⟨p1, p2⟩ := p
              cases ok <;> simp [eqVal, eqCells, eqCell, hsk]
          · rename_i z hz
            obtain ⟨p, hp, hk⟩ := bind_some' hk
            obtain ⟨es, c, h1, h2⟩ := mgB_ok (ok := ok) ht het hz hkey hp
            refine .R b _ (.map es c) h1 trivial (fun m' hm' => ?_) hk (fun _ => ?_)
            · simp only [opEvalG, hx, h2 m' (hm'.trans (hF.map h1))]; rfl
            · obtain ⟨p1, p2⟩ := p
              cases ok <;> simp [eqVal, eqCells, eqCell]
          · cases hk
        · cases hk
      · cases hk
    | mapUpdate t x k v =>
      simp only at hk
      split at hk
      · rename_i kt et i b ht hx
        obtain ⟨hkey, hk⟩ := bif_t hk
        obtain ⟨h1, hw, hk⟩ := bind_some' hk
        obtain ⟨m1, h2, h3⟩ := mput_ok hF ht hkey hw
        refine .W (.tuple #[]) h1 m1 ?_ hk h3
        simp only [opEvalG, hx, h2]; rfl
      · cases hk
    | insert t x k v =>
      simp only at hk
      split at hk
      · rename_i kt et i b ht hx
        obtain ⟨hkey, hk⟩ := bif_t hk
        obtain ⟨h1, hw, hk⟩ := bind_some' hk
        obtain ⟨m1, h2, h3⟩ := mput_ok hF ht hkey hw
        refine .W (.tuple #[]) h1 m1 ?_ hk h3
        simp only [opEvalG, hx, h2]; rfl
      · cases hk
    | makeSlice t l c =>
      simp only at hk
      split at hk
      · rename_i el size bytes zs kl l' kc c' ht hl hc
        obtain ⟨hb, hk⟩ := bif_t hk
        obtain ⟨hq, hk⟩ := ckB_some hk
        refine .A (.row size (repl zs c'.toNat)) (fun b => .slice (some ⟨b, 0, none⟩) l'.toNat c'.toNat) ?_ trivial hk
        simp only [opEvalG, hl, hc, opMakeSlice, ht, hq, hb, Bool.and_self, cond_true]; rfl
      · cases hk
    | call c =>
      obtain ⟨callee, args, argTypes⟩ := c
      cases callee with
      | value f =>
        simp only at hk
        split at hk
        · rename_i fn first cap hf
          split at hk
          · refine .C _ _ ?_ hk
            simp only [opEvalG, hf]; rfl
          · refine .C _ _ ?_ hk
            simp only [opEvalG, hf]; rfl
          · cases hk
        · cases hk
      | invoke r m => simp only at hk; cases hk
      | builtin b =>
        simp only at hk
        split at hk
        · rename_i t a n c hts hargs
          split at hk
          · rename_i e i ht
            refine .V _ ?_ hk
            simp only [opEvalG, hts, hargs, opBuiltin, ht]
          · cases hk
        · rename_i t b hts hargs
          split at hk
          · rename_i kt et i ht
            obtain ⟨n, hn, hk⟩ := bind_some' hk
            unfold mlen at hn
            split at hn
            · rename_i es c hg
              cases hn
              refine .R b _ (.map es c) hg trivial (fun m' hm' => ?_) hk (fun _ => by simp [eqVal, eqCell, sameKind])
              simp only [opEvalG, hts, hargs, opBuiltin, ht, hm'.trans (hF.map hg)]
            · cases hn
          · cases hk
        · rename_i ts k a l hargs
          split at hk
          · rename_i n hn
            refine .V _ ?_ hk
            simp only [opEvalG, hargs, opBuiltin, hn]
          · cases hk
        · rename_i ts k a l hargs
          split at hk
          · rename_i n hn
            refine .V _ ?_ hk
            simp only [opEvalG, hargs, opBuiltin, hn]
          · cases hk
        · rename_i t t2 base len cap src n c2 hts hargs
          split at hk
          · rename_i e size bytes zs x ht ht2
            obtain ⟨hb, hk⟩ := bif_t hk
            obtain ⟨p, hp, hk⟩ := bind_some' hk
            obtain ⟨m1, h1, h2⟩ := app_ok (c2 := c2) hF ht ht2 hb hp
            refine .W _ p.2 m1 ?_ hk h2
            simp only [opEvalG, hts, hargs, opBuiltin, h1]; rfl
          · cases hk
        · rename_i t ts dst dl c1 src sl c2 hts hargs
          split at hk
          · rename_i e size bytes zs ht
            obtain ⟨p, hp, hk⟩ := bind_some' hk
            obtain ⟨m1, h1, h2⟩ := copy_ok (ts := ts) (c1 := c1) (c2 := c2) hF ht hp
            refine .W _ p.2 m1 ?_ hk h2
            simp only [opEvalG, hts, hargs, opBuiltin, h1]; rfl
          · cases hk
        · rename_i t base n c1 hts hargs
          split at hk
          · rename_i e size bytes zs ht
            obtain ⟨h1, hw, hk⟩ := bind_some' hk
            obtain ⟨m1, h2, h3⟩ := clr_ok (c1 := c1) hF ht hw
            refine .W _ h1 m1 ?_ hk h3
            simp only [opEvalG, hts, hargs, opBuiltin, h2]; rfl
          · cases hk
        · cases hk
    | _ => simp only at hk; cases hk
end
end Go.Proofs.Ytgikimegikelkaa.Ab
/- The machine told by continuations: regions. -/
namespace Go.Proofs.Ytgikimegikelkaa.Ab
open Go Go.RowKit
set_option linter.unusedVariables false
set_option linter.unusedSimpArgs false
set_option linter.unusedSectionVars false

/-- What a call does, as the machine of lists and tries tells it. -/
def RunsH (E : Env) (H : Pl → Prop) (c : CallTo) (args : List Value) (h : Hp) (v : Value) (h1 : Hp) : Prop :=
  ∀ pl m, H pl → Fill pl h m → ∃ n m1 pl1, PSub pl pl1 ∧ aRun E n c args m = some (v, m1) ∧ Fill pl1 h1 m1
def TblOK {R : Type} (E : Env) (H : Pl → Prop) (tbl : CallTo → List Value → Hp → (Value → Hp → Option R) → Option R) : Prop :=
  ∀ c args h K r, tbl c args h K = some r → ∃ v h1, K v h1 = some r ∧ RunsH E H c args h v h1
def MonoH (H : Pl → Prop) : Prop := ∀ a b, PSub a b → H a → H b

section
variable {R : Type} {all : List Oper} {T : TS} {o : Oper} {r : R}
theorem guardK_ok {A B : TS → Option R} (hT : T.OK) (hk : guardK all T o A B = some r) :
    ∃ T' : TS, T'.tr = T.tr ∧ T'.OK ∧ T'.marks = T.marks ∧ ((wantedT all T.tr o = some true ∧ A T' = some r) ∨ (wantedT all T.tr o = some false ∧ B T' = some r)) := by
  unfold guardK at hk
  unfold wantedT
  split at hk
  · rename_i hg; rw [hg]; exact ⟨T, rfl, hT, rfl, .inl ⟨rfl, hk⟩⟩
  · rename_i j want hg
    rw [hg]
    simp only
    split at hk
    · rename_i oj hj
      rw [hj]
      simp only
      split at hk
      · rename_i t ht
        rw [ht]
        simp only
        rw [TS.get_tr hT]
        split at hk
        · rename_i b hb
          rw [hb]
          obtain ⟨hl, hk⟩ := bif_t hk
          have hl := Nat.le_of_ble_eq_true hl
          cases want with
          | true =>
            cases b with
            | true => exact ⟨T.put t (.bool true), TS.put_self hT hl hb (by intro h; cases h), hT.put hl _, rfl, .inl ⟨rfl, hk⟩⟩
            | false => exact ⟨T.put t (.bool false), TS.put_self hT hl hb (by intro h; cases h), hT.put hl _, rfl, .inr ⟨rfl, hk⟩⟩
          | false =>
            cases b with
            | true => exact ⟨T.put t (.bool true), TS.put_self hT hl hb (by intro h; cases h), hT.put hl _, rfl, .inr ⟨rfl, hk⟩⟩
            | false => exact ⟨T.put t (.bool false), TS.put_self hT hl hb (by intro h; cases h), hT.put hl _, rfl, .inl ⟨rfl, hk⟩⟩
        · rename_i vs hb
          rw [hb]
          simp only
          split at hk
          · rename_i hv; rw [hv]; exact ⟨T, rfl, hT, rfl, .inr ⟨rfl, hk⟩⟩
          · cases hk
        · cases hk
      · rename_i ht; rw [ht]; exact ⟨T, rfl, hT, rfl, .inr ⟨rfl, hk⟩⟩
    · rename_i hj; rw [hj]; exact ⟨T, rfl, hT, rfl, .inr ⟨rfl, hk⟩⟩
theorem putK_ok {size : Nat} {dst : Option Tmp} {v : Value} {K : TS → Option R} (hT : T.OK) (hk : putK size T dst v K = some r) : ∃ T1 : TS, putT T.tr size dst v = some T1.tr ∧ T1.OK ∧ T1.marks = T.marks ∧ K T1 = some r := by
  unfold putK at hk
  unfold putT
  split at hk
  · exact ⟨T, rfl, hT, rfl, hk⟩
  · rename_i d
    obtain ⟨hc, hk⟩ := bif_t hk
    rw [Bool.and_eq_true] at hc
    refine ⟨T.put d v, ?_, hT.put (Nat.le_of_ble_eq_true hc.2) v, rfl, hk⟩
    simp only [hc.1, hc.2, Bool.and_self, cond_true]; rfl
end

theorem opsK_cons {R : Type} (C : Ctx R) (all : List Oper) (o : Oper) (l : List Oper) (T : TS) (h : Hp) (K : TS → Hp → Option R) : opsK C all (o :: l) T h K = guardK all T o
      (fun T => opK C.E C.hint T h o (fun v => putK C.size T o.dst v fun T1 => opsK C all l T1 h K) (fun _ v => putK C.size T o.dst v fun T1 => opsK C all l T1 h K)
        (fun k mk => putK C.size T o.dst (mk h.next) fun T1 => opsK C all l T1 (h.new k) K) (fun v h1 => putK C.size T o.dst v fun T1 => opsK C all l T1 h1 K)
        (fun c args => C.tbl c args h fun v h1 => putK C.size T o.dst v fun T1 => opsK C all l T1 h1 K))
      (fun T => putK C.size T o.dst (.tuple #[]) fun T1 => opsK C all l T1 h K) := rfl
theorem drawsK_cons {R : Type} (C : Ctx R) (all : List Oper) (base : Nat) (o : Oper) (l : List Oper) (i mask : Nat) (ms : List Nat) (D : DD) (K : DD → Option R) : drawsK C all base (o :: l) i (mask :: ms) D K = guardK all D.T o
        (fun T => drawK C base i o mask { D with T := T } fun D1 => drawsK C all base l (i + 1) ms D1 K)
        (fun T => putK C.size T o.dst (.tuple #[]) fun T1 => drawsK C all base l (i + 1) ms { D with T := T1 } K) := rfl
section
variable {R : Type} {C : Ctx R} {H : Pl → Prop} (hH : MonoH H) (htbl : TblOK C.E H C.tbl)
include hH htbl

theorem opsK_ok {all : List Oper} {r : R} : ∀ (l : List Oper) (T : TS) (h : Hp) (K : TS → Hp → Option R) (pl : Pl) (m : Mem), opsK C all l T h K = some r → T.OK → H pl → Fill pl h m →
    ∃ n T1 h1 m1 pl1, runOps (aRun C.E n) C.E all C.size l T.tr m = some (TS.tr T1, m1) ∧ T1.OK ∧ T1.marks = T.marks ∧ PSub pl pl1 ∧ Fill pl1 h1 m1 ∧ K T1 h1 = some r
  | [], T, h, K, pl, m, hk, hT, hpl, hF => ⟨0, T, h, m, pl, runOps_nil _ _, hT, rfl, PSub.refl _, hF, hk⟩
  | o :: l, T, h, K, pl, m, hk, hT, hpl, hF => by
    rw [opsK_cons] at hk
    obtain ⟨T', e1, hT', hmk, hw⟩ := guardK_ok hT hk
    have hev : ∀ m' : Mem, opEval C.E T.tr m' o = opEvalG C.E (ev T') m' o := fun m' => by rw [← e1, opEval_G, ev_tr hT']
    rcases hw with ⟨hw, hk⟩ | ⟨hw, hk⟩
    · have one : ∀ (n0 : Nat) (v : Value) (h1 : Hp) (m1 : Mem) (pl0 : Pl), PSub pl pl0 → applyR (aRun C.E n0) m (opEval C.E T.tr m o) = some (v, m1) → Fill pl0 h1 m1 → putK C.size T' o.dst v (fun T1 => opsK C all l T1 h1 K) = some r →
          ∃ n T1 h1 m1 pl1, runOps (aRun C.E n) C.E all C.size (o :: l) T.tr m = some (TS.tr T1, m1) ∧ T1.OK ∧ T1.marks = T.marks ∧ PSub pl pl1 ∧ Fill pl1 h1 m1 ∧ K T1 h1 = some r := by
        intro n0 v h1 m1 pl0 hs ha hF1 hp
        obtain ⟨T1, p1, p2, p3, p4⟩ := putK_ok hT' hp
        obtain ⟨n, T2, h2, m2, pl2, q1, q2, q3, q4, q5, q6⟩ := opsK_ok l T1 h1 K pl0 m1 p4 p2 (hH _ _ hs hpl) hF1
        refine ⟨max n0 n, T2, h2, m2, pl2, ?_, q2, by rw [q3, p3, hmk], hs.trans q4, q5, q6⟩
        rw [runOps_cons, hw]
        simp only [applyR_mono (aRun_le (Nat.le_max_left n0 n)) ha]
        rw [← e1, p1]
        exact runOps_mono (aRun_le (Nat.le_max_right n0 n)) _ _ _ _ q1
      rcases opK_ok hF hk with ⟨v, h1, h2⟩ | ⟨b, v, KK, hb, hp, h1, h2, h3⟩ | ⟨k, mk, h1, hp, h2⟩ | ⟨v, h', m', h1, h2, h3⟩ | ⟨c, args, h1, h2⟩
      · exact one 0 v h m pl (PSub.refl _) (by rw [hev, h1]; rfl) hF h2
      · exact one 0 v h m pl (PSub.refl _) (by rw [hev, h1 m rfl]; rfl) hF h2
      · exact one 0 (mk h.next) (h.new k) (m.new k) pl (PSub.refl _) (by rw [hev, h1, ← hF.next]; rfl) (hF.new hp) h2
      · exact one 0 v h' m' pl (PSub.refl _) (by rw [hev, h1]; rfl) h3 h2
      · obtain ⟨v, h', q1, q2⟩ := htbl _ _ _ _ _ h2
        obtain ⟨n0, m1, pl1, q3, q4, q5⟩ := q2 pl m hpl hF
        exact one n0 v h' m1 pl1 q3 (by rw [hev, h1]; exact q4) q5 q1
    · obtain ⟨T1, p1, p2, p3, p4⟩ := putK_ok hT' hk
      obtain ⟨n, T2, h2, m2, pl2, q1, q2, q3, q4, q5, q6⟩ := opsK_ok l T1 h K pl m p4 p2 hpl hF
      refine ⟨n, T2, h2, m2, pl2, ?_, q2, by rw [q3, p3, hmk], q4, q5, q6⟩
      rw [runOps_cons, hw]
      simp only
      rw [← e1, p1]
      exact q1

omit hH htbl
/-! ### Regions that draw -/
def PR (h : Hp) (V : Mem) : Prop := ∀ b K, h.g b = some K → Plain K → V.get b = some K
theorem Fill.pr {pl : Pl} {h : Hp} {m : Mem} (hF : Fill pl h m) : PR h m := fun b K hb hK => hF.plain hb hK
def RR (E : Env) : List (Nat × Nat × Option Blk) → List RRec → Prop
  | [], [] => True
  | a :: l, x :: xs => (x.i = a.1 ∧ x.b = a.2.1 ∧ (∃ K, a.2.2 = some K ∧ Plain K ∧ ∀ m' : Mem, m'.get a.2.1 = some K → opEval E x.T m' x.o = .read a.2.1 x.v) ∧ eqVal x.v x.v = true) ∧ RR E l xs
  | _, _ => False
def WR : List (Nat × Hp) → List (Nat × Mem) → Prop
  | [], [] => True
  | a :: l, x :: xs => (x.1 = a.1 ∧ PR a.2 x.2) ∧ WR l xs
  | _, _ => False
theorem layH_cons (sel : Nat → Bool) (a : ARec) (l : List ARec) (h : Hp) : layH sel (a :: l) h = layH sel l (bif sel a.i then h.set a.id a.k else h) := rfl
theorem lay_fill {pl : Pl} (sel : Nat → Bool) : ∀ (l : List ARec) (h : Hp) (m : Mem), (∀ a ∈ l, Plain a.k) → Fill pl h m → Fill pl (layH sel l h) (layA sel l m)
  | [], h, m, _, hF => hF
  | a :: l, h, m, hp, hF => by
    rw [layH_cons, layA]
    refine lay_fill sel l _ _ (fun x hx => hp x (List.mem_cons_of_mem _ hx)) ?_
    cases sel a.i with
    | true => exact hF.set _ (hp a (List.mem_cons_self ..))
    | false => exact hF
theorem layH_next (sel : Nat → Bool) : ∀ (l : List ARec) (h : Hp), (layH sel l h).next = h.next
  | [], h => rfl
  | a :: l, h => by rw [layH_cons, layH_next sel l]; cases sel a.i <;> rfl
theorem keepA_eq (mask : Nat) : ∀ (l : List ARec), keepA mask l = l.filter (fun a => !has mask a.i)
  | [] => rfl
  | a :: l => by
    show (bif has mask a.i then keepA mask l else a :: keepA mask l) = _
    rw [keepA_eq mask l, List.filter_cons]
    cases has mask a.i <;> rfl
theorem sameRead_of {E : Env} {x : RRec} {K : Blk} {m : Mem} (h : ∀ m' : Mem, m'.get x.b = some K → opEval E x.T m' x.o = .read x.b x.v) (hv : eqVal x.v x.v = true) (hm : m.get x.b = some K) : sameRead E x m = true := by
  unfold sameRead
  rw [h m hm]
  simp only [hv, Bool.and_true]
  exact Nat.beq_refl _
theorem ckR_ok {E : Env} {mask : Nat} {h1 : Hp} {m1 : Mem} {r : R} (hp : PR h1 m1) : ∀ (l : List (Nat × Nat × Option Blk)) (xs : List RRec) (K : Option R), RR E l xs → ckR mask h1 l K = some r → xs.all (fun r => has mask r.i || sameRead E r m1) = true ∧ K = some r
  | [], [], K, _, hk => ⟨rfl, hk⟩
  | a :: l, x :: xs, K, hr, hk => by
    obtain ⟨⟨e1, e2, ⟨KK, e3, e4, e5⟩, e6⟩, hr⟩ := hr
    change (bif has mask a.1 then ckR mask h1 l K else ckE (h1.g a.2.1) a.2.2 (ckR mask h1 l K)) = some r at hk
    rw [List.all_cons, e1]
    cases hm : has mask a.1 with
    | true =>
      rw [hm, cond_true] at hk
      obtain ⟨q1, q2⟩ := ckR_ok hp l xs K hr hk
      exact ⟨by simp only [Bool.true_or, Bool.true_and, q1], q2⟩
    | false =>
      rw [hm, cond_false] at hk
      obtain ⟨c1, hk⟩ := ckE_some hk
      obtain ⟨q1, q2⟩ := ckR_ok hp l xs K hr hk
      refine ⟨?_, q2⟩
      rw [q1, Bool.false_or, Bool.and_true]
      refine sameRead_of (K := KK) (by rw [e2]; exact e5) e6 ?_
      rw [e2]; exact hp _ _ (c1.trans e3) e4
  | [], _ :: _, _, h, _ => h.elim
  | _ :: _, [], _, h, _ => h.elim
theorem ckW_ok {E : Env} {mask b : Nat} {K0 : Blk} {x : RRec} {r : R} (hpl : Plain K0) (hx : ∀ m' : Mem, m'.get x.b = some K0 → opEval E x.T m' x.o = .read x.b x.v) (hv : eqVal x.v x.v = true) (hb : x.b = b) : ∀ (l : List (Nat × Hp)) (ws : List (Nat × Mem)) (K : Option R), WR l ws → ckW mask b (some K0) l K = some r → ws.all (fun w => has mask w.1 || sameRead E x w.2) = true ∧ K = some r
  | [], [], K, _, hk => ⟨rfl, hk⟩
  | a :: l, y :: ws, K, hr, hk => by
    obtain ⟨⟨e1, e2⟩, hr⟩ := hr
    change (bif has mask a.1 then ckW mask b (some K0) l K else ckE (a.2.g b) (some K0) (ckW mask b (some K0) l K)) = some r at hk
    rw [List.all_cons, e1]
    cases hm : has mask a.1 with
    | true =>
      rw [hm, cond_true] at hk
      obtain ⟨q1, q2⟩ := ckW_ok hpl hx hv hb l ws K hr hk
      exact ⟨by simp only [Bool.true_or, Bool.true_and, q1], q2⟩
    | false =>
      rw [hm, cond_false] at hk
      obtain ⟨c1, hk⟩ := ckE_some hk
      obtain ⟨q1, q2⟩ := ckW_ok hpl hx hv hb l ws K hr hk
      refine ⟨?_, q2⟩
      rw [q1, Bool.false_or, Bool.and_true]
      refine sameRead_of (K := K0) hx hv ?_
      rw [hb]; exact e2 _ _ c1 hpl
  | [], _ :: _, _, h, _ => h.elim
  | _ :: _, [], _, h, _ => h.elim
theorem allW_ok {mask : Nat} : ∀ (l : List (Nat × Hp)) (ws : List (Nat × Mem)), WR l ws → allW mask l = true → ws.all (fun w => has mask w.1) = true
  | [], [], _, _ => rfl
  | a :: l, y :: ws, hr, hk => by
    obtain ⟨⟨e1, e2⟩, hr⟩ := hr
    change (has mask a.1 && allW mask l) = true at hk
    rw [Bool.and_eq_true] at hk
    rw [List.all_cons, e1, hk.1, allW_ok l ws hr hk.2]; rfl
  | [], _ :: _, h, _ => h.elim
  | _ :: _, [], h, _ => h.elim

structure RelD (E : Env) (pl : Pl) (D : DD) (s : DS) : Prop where
  ok : D.T.OK
  t : s.T = D.T.tr
  fill : Fill pl D.h s.V
  as : s.as = D.as
  plain : ∀ a ∈ D.as, Plain a.k
  rs : RR E D.rs s.rs
  ws : WR D.ws s.ws

theorem drawWK_ok {i : Nat} {o : Oper} {mask : Nat} {D : DD} {s : DS} {pl pl1 : Pl} {v : Value} {h1 : Hp} {m1 : Mem} {K : DD → Option R} {r : R} {call : CallF} {mr : Mem} {x : OpR} (hr : RelD C.E pl D s) (hs : PSub pl pl1) (hF : Fill pl1 h1 m1) (ha : applyR call mr x = some (v, m1)) (hk : drawWK C i o mask D v h1 K = some r) :
    ∃ D1 s1, drawW call C.E C.size i o mask s mr x = some s1 ∧ RelD C.E pl1 D1 s1 ∧ D1.T.marks = D.T.marks ∧ K D1 = some r := by
  unfold drawWK at hk
  obtain ⟨hc, hk⟩ := bif_t hk
  obtain ⟨q1, hk⟩ := ckR_ok hF.pr D.rs s.rs _ hr.rs hk
  obtain ⟨T1, p1, p2, p3, p4⟩ := putK_ok hr.ok hk
  refine ⟨⟨T1, h1, D.rs, keepA mask D.as, (i, D.h) :: D.ws⟩, ⟨T1.tr, m1, s.rs, s.as.filter (fun a => !has mask a.i), (i, s.V) :: s.ws⟩, ?_, ⟨p2, rfl, hF, ?_, fun a ha => ?_, hr.rs, ⟨⟨rfl, hr.fill.pr⟩, hr.ws⟩⟩, p3, p4⟩
  · unfold drawW
    rw [ha]
    simp only [allW_ok _ _ hr.ws hc, q1, Bool.and_self, cond_true, hr.t, p1]
  · show _ = keepA mask D.as
    rw [keepA_eq, hr.as]
  · change a ∈ keepA mask D.as at ha; rw [keepA_eq] at ha; exact hr.plain a (List.mem_filter.1 ha).1
include hH htbl
theorem drawK_ok {base i : Nat} {o : Oper} {mask : Nat} {D : DD} {s : DS} {pl : Pl} {K : DD → Option R} {r : R} (hpl : H pl) (hr : RelD C.E pl D s) (hk : drawK C base i o mask D K = some r) :
    ∃ n D1 s1 pl1, drawStep (aRun C.E n) C.E C.size base i o mask s = some s1 ∧ PSub pl pl1 ∧ RelD C.E pl1 D1 s1 ∧ D1.T.marks = D.T.marks ∧ K D1 = some r := by
  have hFr := lay_fill (pl := pl) (has mask) D.as D.h s.V hr.plain hr.fill
  have hev : ∀ m' : Mem, opEval C.E s.T m' o = opEvalG C.E (ev D.T) m' o := fun m' => by rw [hr.t, opEval_G, ev_tr hr.ok]
  unfold drawK at hk
  rcases opK_ok hFr hk with ⟨v, h1, h2⟩ | ⟨b, v, KK, hb, hp, h1, h2, h3⟩ | ⟨k, mk, h1, hp, h2⟩ | ⟨v, h', m', h1, h2, h3⟩ | ⟨c, args, h1, h2⟩
  · obtain ⟨T1, p1, p2, p3, p4⟩ := putK_ok hr.ok h2
    refine ⟨0, ⟨T1, D.h, D.rs, D.as, D.ws⟩, ⟨T1.tr, s.V, s.rs, s.as, s.ws⟩, pl, ?_, PSub.refl _, ⟨p2, rfl, hr.fill, hr.as, hr.plain, hr.rs, hr.ws⟩, p3, p4⟩
    unfold drawStep
    simp only [hr.as, hev, h1]
    rw [hr.t, p1]
  · obtain ⟨hbase, h2⟩ := ckB_some h2
    have hv : eqVal v v = true := h3 (fun _ => rfl)
    have hread : ∀ m' : Mem, m'.get b = some KK → opEval C.E s.T m' o = .read b v := fun m' hm' => by
      rw [hev]; exact h1 m' (hm'.trans (hFr.plain hb hp).symm)
    rw [hb] at h2
    obtain ⟨q1, h2⟩ := ckW_ok (K0 := KK) (x := ⟨i, o, s.T, b, v⟩) hp hread hv rfl D.ws s.ws _ hr.ws h2
    obtain ⟨T1, p1, p2, p3, p4⟩ := putK_ok hr.ok h2
    refine ⟨0, ⟨T1, D.h, (i, b, some KK) :: D.rs, D.as, D.ws⟩, ⟨T1.tr, s.V, ⟨i, o, s.T, b, v⟩ :: s.rs, s.as, s.ws⟩, pl, ?_, PSub.refl _, ⟨p2, rfl, hr.fill, hr.as, hr.plain, ⟨⟨rfl, rfl, ⟨KK, rfl, hp, hread⟩, hv⟩, hr.rs⟩, hr.ws⟩, p3, p4⟩
    unfold drawStep
    simp only [hr.as, hev, h1 _ rfl, hbase, Bool.true_and]
    rw [q1, cond_true, hr.t, p1]
  · obtain ⟨T1, p1, p2, p3, p4⟩ := putK_ok hr.ok h2
    refine ⟨0, ⟨T1, D.h.bump, D.rs, ⟨i, D.h.next, k⟩ :: D.as, D.ws⟩, ⟨T1.tr, ⟨s.V.t, s.V.next + 1⟩, s.rs, ⟨i, s.V.next, k⟩ :: s.as, s.ws⟩, pl, ?_, PSub.refl _, ⟨p2, rfl, hr.fill.bump, by rw [hr.as, hr.fill.next], fun a ha => ?_, hr.rs, hr.ws⟩, p3, p4⟩
    · unfold drawStep
      simp only [hev, hr.as, h1]
      rw [hr.fill.next, hr.t, p1]
    · rcases List.mem_cons.1 ha with rfl | ha
      · exact hp
      · exact hr.plain a ha
  · obtain ⟨D1, s1, p1, p2, p3, p4⟩ := drawWK_ok (call := aRun C.E 0) (mr := layA (has mask) D.as s.V) (x := .write v m') hr (PSub.refl _) h3 rfl h2
    refine ⟨0, D1, s1, pl, ?_, PSub.refl _, p2, p3, p4⟩
    unfold drawStep
    simp only [hev, hr.as, h1]
    exact p1
  · obtain ⟨v, h', q1, q2⟩ := htbl _ _ _ _ _ h2
    obtain ⟨n0, m1, pl1, q3, q4, q5⟩ := q2 pl _ hpl hFr
    obtain ⟨D1, s1, p1, p2, p3, p4⟩ := drawWK_ok (call := aRun C.E n0) (mr := layA (has mask) D.as s.V) (x := .call c args) hr q3 q5 q4 q1
    refine ⟨n0, D1, s1, pl1, ?_, q3, p2, p3, p4⟩
    unfold drawStep
    simp only [hev, hr.as, h1]
    exact p1
theorem drawsK_ok {all : List Oper} {base : Nat} {r : R} : ∀ (l : List Oper) (i : Nat) (ms : List Nat) (D : DD) (s : DS) (K : DD → Option R) (pl : Pl), drawsK C all base l i ms D K = some r → H pl → RelD C.E pl D s →
    ∃ n D1 s1 pl1, runDraw (aRun C.E n) C.E all C.size base i l ms s = some s1 ∧ PSub pl pl1 ∧ RelD C.E pl1 D1 s1 ∧ D1.T.marks = D.T.marks ∧ K D1 = some r
  | [], i, ms, D, s, K, pl, hk, hpl, hr => ⟨0, D, s, pl, by simp only [runDraw], PSub.refl _, hr, rfl, hk⟩
  | o :: l, i, [], D, s, K, pl, hk, hpl, hr => by cases hk
  | o :: l, i, mask :: ms, D, s, K, pl, hk, hpl, hr => by
    rw [drawsK_cons] at hk
    obtain ⟨T', e1, hT', hmk, hw⟩ := guardK_ok hr.ok hk
    rcases hw with ⟨hw, hk⟩ | ⟨hw, hk⟩
    · have hr' : RelD C.E pl { D with T := T' } s := ⟨hT', by rw [hr.t]; exact e1.symm, hr.fill, hr.as, hr.plain, hr.rs, hr.ws⟩
      obtain ⟨n0, D1, s1, pl1, p1, p2, p3, p4, p5⟩ := drawK_ok hH htbl hpl hr' hk
      obtain ⟨n, D2, s2, pl2, q1, q2, q3, q4, q5⟩ := drawsK_ok l (i + 1) ms D1 s1 K pl1 p5 (hH _ _ p2 hpl) p3
      refine ⟨max n0 n, D2, s2, pl2, ?_, p2.trans q2, q3, by rw [q4, p4, ← hmk], q5⟩
      simp only [runDraw]
      rw [hr.t, hw]
      simp only
      rw [drawStep_mono (aRun_le (Nat.le_max_left n0 n)) p1]
      exact runDraw_mono (aRun_le (Nat.le_max_right n0 n)) _ _ _ _ _ q1
    · obtain ⟨T1, p1, p2, p3, p4⟩ := putK_ok hT' hk
      have hr' : RelD C.E pl { D with T := T1 } { s with T := T1.tr } := ⟨p2, rfl, hr.fill, hr.as, hr.plain, hr.rs, hr.ws⟩
      obtain ⟨n, D2, s2, pl2, q1, q2, q3, q4, q5⟩ := drawsK_ok l (i + 1) ms _ _ K pl p4 hpl hr'
      refine ⟨n, D2, s2, pl2, ?_, q2, q3, by rw [q4]; show T1.marks = _; rw [p3, hmk], q5⟩
      simp only [runDraw]
      rw [hr.t, hw]
      simp only
      rw [← e1, p1]
      exact q1

theorem regionK_ok {ops : List Oper} {draw : Bool} {T : TS} {h : Hp} {K : TS → Hp → Option R} {pl : Pl} {m : Mem} {r : R} (hk : regionK C ops draw T h K = some r) (hT : T.OK) (hpl : H pl) (hF : Fill pl h m) :
    ∃ n T1 h1 m1 pl1, runRegion (aRun C.E n) C.E C.size ops draw T.tr m = some (TS.tr T1, m1) ∧ T1.OK ∧ T1.marks = T.marks ∧ PSub pl pl1 ∧ Fill pl1 h1 m1 ∧ K T1 h1 = some r := by
  unfold regionK at hk
  cases draw with
  | false =>
    rw [cond_false] at hk
    obtain ⟨n, T1, h1, m1, pl1, q⟩ := opsK_ok hH htbl ops T h K pl m hk hT hpl hF
    exact ⟨n, T1, h1, m1, pl1, by unfold runRegion; rw [cond_false]; exact q.1, q.2⟩
  | true =>
    rw [cond_true] at hk
    obtain ⟨hc, hk⟩ := bif_t hk
    have h0 : RelD C.E pl ⟨T, h, [], [], []⟩ ⟨T.tr, m, [], [], []⟩ := ⟨hT, rfl, hF, rfl, fun a ha => by simp at ha, trivial, trivial⟩
    obtain ⟨n, D1, s1, pl1, q1, q2, q3, q4, q5⟩ := drawsK_ok hH htbl ops 0 (masksOf ops) _ _ _ pl hk hpl h0
    refine ⟨n, D1.T, layH (fun _ => true) D1.as D1.h, layA (fun _ => true) s1.as s1.V, pl1, ?_, q3.ok, q4, q2, ?_, q5⟩
    · unfold runRegion
      rw [cond_true, hc, cond_true, hF.next, q1]
      simp only [q3.t]
    · rw [q3.as]; exact lay_fill (fun _ => true) D1.as D1.h s1.V q3.plain q3.fill
end
end Go.Proofs.Ytgikimegikelkaa.Ab
/- The machine told by continuations: texts, loops, calls. -/
namespace Go.Proofs.Ytgikimegikelkaa.Ab
open Go Go.RowKit
set_option linter.unusedVariables false
set_option linter.unusedSimpArgs false
set_option linter.unusedSectionVars false

/-- The loops of a text, with what is left to do after each. -/
inductive LoopAt where
  | loop (b : Code) (k : List Item)
  | range (ps : Array Tmp) (assign body : Code)
  | label (b : Code) (k : List Item)
noncomputable def todoC (c : Code) : List Item → List LoopAt :=
  Code.rec (motive := fun _ => List Item → List LoopAt) (fun _ => []) (fun _ _ _ _ => []) (fun _ b ra rb k => ra (.code b :: k) ++ rb k) (fun _ _ _ rt re k => rt k ++ re k)
    (fun id _ rb k => rb (.inBlock id :: k)) (fun b rb k => .loop b k :: rb (.inLoop b :: k)) (fun _ ps a b _ _ _ => [.range ps a b])
    (fun _ _ => []) (fun b rb k => .label b k :: rb (.inScope b :: k)) (fun _ _ => []) (fun _ _ => []) (fun _ => []) (fun _ _ => []) c
theorem todoC_length (c : Code) : ∀ k, (todoC c k).length = nl c := by
  induction c with
  | seq a b iha ihb => intro k; show (todoC a (.code b :: k) ++ todoC b k).length = nl a + nl b; rw [List.length_append, iha, ihb]
  | cond c t e iht ihe => intro k; show (todoC t k ++ todoC e k).length = nl t + nl e; rw [List.length_append, iht, ihe]
  | block id b ih => intro k; exact ih _
  | loop b ih => intro k; show (todoC b (.inLoop b :: k)).length + 1 = nl b + 1; rw [ih]
  | scope b ih => intro k; show (todoC b (.inScope b :: k)).length + 1 = nl b + 1; rw [ih]
  | _ => intro k; rfl

section
variable {R : Type} (C : Ctx R) (fn : Nat) (round : Option Nat) (Q : Pl → Option Code → Tr Value → List Nat → Mem → R → Prop) (H : Pl → Prop)
def Reach (pl : Pl) (s : Fr) (r : R) : Prop := ∃ n j s' pl1, PSub pl pl1 ∧ loopF (aRun C.E n) C.E fn C.size round n s = some (j, s') ∧ Q pl1 j s'.T s'.marks s'.m r
def KS (k : List Item) (K : TS → Hp → Option R) : Prop := ∀ pl T h m r, H pl → TS.OK T → Fill pl h m → K T h = some r → Reach C fn round Q pl ⟨T.tr, k, T.marks, m⟩ r
def isJump : Code → Prop
  | .exit _ | .goto _ | .ret => True
  | _ => False
def XS (k : List Item) (X : Code → TS → Hp → Option R) : Prop := ∀ j, isJump j → KS C fn round Q H (.code j :: k) (X j)
def YS (i : Nat) (ps : Array Tmp) (assign body : Code) : Prop := ∀ T l args h b h1 d, TS.OK T → C.YO i T l args h = some (b, h1) →
  RunsH C.E (fun pl => H pl ∧ pl l = some ⟨fn, T.tr, C.size, ps.toList, assign, body, d⟩) (.yield l) args h (.bool b) h1
def LX (i : Nat) : LoopAt → Prop
  | .loop b k => KS C fn round Q H (.code b :: .inLoop b :: k) (C.LP i)
  | .range ps a b => YS C fn H i ps a b
  | .label b k => ∀ p, firstL b = some p → KS C fn round Q H (.code p.2 :: .inScope b :: k) (C.LP i)
def LS (i : Nat) (l : List LoopAt) : Prop := ∀ n x, l[n]? = some x → LX C fn round Q H (i + n) x
/-- A loop over a function, over a call of a function that yields. -/
def ItOK : Prop := ∀ g l args Y h K r, C.itK g l args Y h K = some r → ∀ (p : Pay), (∀ a h b h1, Y a h = some (b, h1) → RunsH C.E (fun pl => H pl ∧ pl l = some p) (.yield l) a h (.bool b) h1) →
  ∃ v h1, K v h1 = some r ∧ RunsH C.E (fun pl => H pl ∧ pl l = some p) (.fn g) args h v h1
end

section
variable {R : Type} {C : Ctx R} {fn : Nat} {round : Option Nat} {Q : Pl → Option Code → Tr Value → List Nat → Mem → R → Prop} {H : Pl → Prop}
theorem Reach.step {n0 : Nat} {pl pl1 : Pl} {s s1 : Fr} {r : R} (hs : stepF (aRun C.E n0) C.E fn C.size round s = some (.run s1)) (hp : PSub pl pl1) (h : Reach C fn round Q pl1 s1 r) : Reach C fn round Q pl s r := by
  obtain ⟨n, j, s', pl2, h1, h2, h3⟩ := h
  refine ⟨max n0 n + 1, j, s', pl2, hp.trans h1, ?_, h3⟩
  rw [loopF_succ, stepF_mono (aRun_le (by omega)) hs]
  simp only
  exact loopF_mono (aRun_le (by omega)) n _ _ _ (by omega) h2
theorem Reach.leave {n0 : Nat} {pl pl1 : Pl} {s s1 : Fr} {j : Option Code} {r : R} (hs : stepF (aRun C.E n0) C.E fn C.size round s = some (.leave j s1)) (hp : PSub pl pl1) (h : Q pl1 j s1.T s1.marks s1.m r) : Reach C fn round Q pl s r := by
  refine ⟨n0 + 1, j, s1, pl1, hp, ?_, h⟩
  rw [loopF_succ, stepF_mono (aRun_le (by omega)) hs]
theorem KS.step {k k1 : List Item} {K : TS → Hp → Option R} (hs : ∀ T marks m, stepF (aRun C.E 0) C.E fn C.size round ⟨T, k, marks, m⟩ = some (.run ⟨T, k1, marks, m⟩)) (h : KS C fn round Q H k1 K) : KS C fn round Q H k K :=
  fun pl T hh m r hpl hT hF hk => Reach.step (hs _ _ _) (PSub.refl _) (h pl T hh m r hpl hT hF hk)

/-- An item that no jump of this kind stops at. -/
def Skips (j : Code) (x : Item) : Prop :=
  match j with
  | .exit id => ∀ k, exitTo id (x :: k) = exitTo id k
  | .goto l => ∀ k, gotoIn l (x :: k) = gotoIn l k
  | _ => True
theorem leaveF_todo {j : Option Code} {T : Tr Value} {k k' : List Item} {marks : List Nat} {m : Mem} {st : St} (h : leaveF round j ⟨T, k, marks, m⟩ = some st) : st = .leave j ⟨T, k, marks, m⟩ ∧ leaveF round j ⟨T, k', marks, m⟩ = some (.leave j ⟨T, k', marks, m⟩) := by
  unfold leaveF at h ⊢
  cases round with
  | some l => cases h; exact ⟨rfl, rfl⟩
  | none =>
    simp only at h ⊢
    split at h
    · cases h; exact ⟨rfl, rfl⟩
    · cases h; exact ⟨rfl, rfl⟩
    · cases h
theorem jump_step {call : CallF} {E : Env} {size : Nat} {j : Code} {x : Item} {k : List Item} {T : Tr Value} {marks : List Nat} {m : Mem} {st : St} (hj : isJump j) (hx : Skips j x) (h : stepF call E fn size round ⟨T, .code j :: k, marks, m⟩ = some st) :
    (∃ k1, st = .run ⟨T, k1, marks, m⟩ ∧ stepF call E fn size round ⟨T, .code j :: x :: k, marks, m⟩ = some (.run ⟨T, k1, marks, m⟩)) ∨
    (∃ jj k1 k2, st = .leave jj ⟨T, k1, marks, m⟩ ∧ stepF call E fn size round ⟨T, .code j :: x :: k, marks, m⟩ = some (.leave jj ⟨T, k2, marks, m⟩)) := by
  cases j with
  | ret =>
    unfold stepF at h ⊢
    simp only at h ⊢
    obtain ⟨h1, h2⟩ := leaveF_todo (k' := .code .ret :: x :: k) h
    exact .inr ⟨_, _, _, h1, h2⟩
  | exit id =>
    have e := hx k
    unfold stepF at h ⊢
    simp only at h ⊢
    rw [e]
    split at h
    · rename_i k' hk
      cases h
      exact .inl ⟨k', rfl, rfl⟩
    · rename_i hk
      obtain ⟨h1, h2⟩ := leaveF_todo (k' := .code (.exit id) :: x :: k) h
      exact .inr ⟨_, _, _, h1, h2⟩
  | goto l =>
    have e := hx k
    unfold stepF at h ⊢
    simp only at h ⊢
    rw [e]
    split at h
    · rename_i k' hk
      cases h
      exact .inl ⟨k', rfl, rfl⟩
    · rename_i hk
      obtain ⟨h1, h2⟩ := leaveF_todo (k' := .code (.goto l) :: x :: k) h
      exact .inr ⟨_, _, _, h1, h2⟩
  | _ => exact hj.elim
theorem KS.skip {j : Code} {x : Item} {k : List Item} {K : TS → Hp → Option R} (hj : isJump j) (hx : Skips j x) (h : KS C fn round Q H (.code j :: k) K) : KS C fn round Q H (.code j :: x :: k) K := by
  intro pl T hh m r hpl hT hF hk
  obtain ⟨n, jj, s', pl1, h1, h2, h3⟩ := h pl T hh m r hpl hT hF hk
  cases n with
  | zero => rw [loopF_zero] at h2; cases h2
  | succ n =>
    rw [loopF_succ] at h2
    cases hs : stepF (aRun C.E (n + 1)) C.E fn C.size round ⟨T.tr, .code j :: k, T.marks, m⟩ with
    | none => rw [hs] at h2; cases h2
    | some st =>
      rw [hs] at h2
      rcases jump_step hj hx hs with ⟨k1, rfl, e2⟩ | ⟨jj', k1, k2, rfl, e2⟩
      · refine ⟨n + 1, jj, s', pl1, h1, ?_, h3⟩
        rw [loopF_succ, e2]; exact h2
      · cases h2
        refine ⟨n + 1, jj, ⟨T.tr, k2, T.marks, m⟩, pl1, h1, ?_, h3⟩
        rw [loopF_succ, e2]
theorem XS.skip {x : Item} {k : List Item} {X : Code → TS → Hp → Option R} (hx : ∀ j, isJump j → Skips j x) (h : XS C fn round Q H k X) : XS C fn round Q H (x :: k) X :=
  fun j hj => (h j hj).skip hj (hx j hj)
theorem skips_code (c : Code) (j : Code) (hj : isJump j) : Skips j (.code c) := by cases j <;> first | exact hj.elim | trivial | (intro k; rfl)
theorem skips_loop (c : Code) (j : Code) (hj : isJump j) : Skips j (.inLoop c) := by cases j <;> first | exact hj.elim | trivial | (intro k; rfl)
theorem XS.block {id : Nat} {k : List Item} {K : TS → Hp → Option R} {X : Code → TS → Hp → Option R} (hK : KS C fn round Q H k K) (hX : XS C fn round Q H k X) : XS C fn round Q H (.inBlock id :: k) (exitX id K X) := by
  intro j hj
  cases j with
  | exit id' =>
    intro pl T hh m r hpl hT hF hk
    change bc (Nat.beq id' id) (K T hh) (X (.exit id') T hh) = some r at hk
    cases hc : Nat.beq id' id with
    | true =>
      rw [hc, bc_true] at hk
      have := Nat.eq_of_beq_eq_true hc
      subst this
      refine Reach.step (n0 := 0) (s1 := ⟨T.tr, k, T.marks, m⟩) ?_ (PSub.refl _) (hK pl T hh m r hpl hT hF hk)
      simp [stepF, exitTo]
    | false =>
      rw [hc, bc_false] at hk
      have hne : ¬ id = id' := fun e => by subst e; rw [show Nat.beq id id = true from Nat.beq_refl _] at hc; cases hc
      exact KS.skip (K := X (.exit id')) hj (fun k => by simp [exitTo, hne]) (hX _ hj) pl T hh m r hpl hT hF hk
  | goto l => exact KS.skip hj (fun k => rfl) (hX _ hj)
  | ret => exact KS.skip hj trivial (hX _ hj)
  | _ => exact hj.elim
theorem firstL_seq (a b : Code) : firstL (.seq a b) = match firstL a with | some p => some (p.1, .seq p.2 b) | none => firstL b := rfl
theorem first_none : ∀ (c : Code), firstL c = none → ∀ l, findLabel c l = none := by
  intro c
  induction c with
  | seq a b iha ihb =>
    intro h l
    rw [firstL_seq] at h
    cases ha : firstL a with
    | some p => rw [ha] at h; cases h
    | none =>
      rw [ha] at h
      unfold findLabel
      rw [iha ha l]
      exact ihb h l
  | label l' => intro h; cases h
  | _ => intro h l; rfl
theorem first_some : ∀ (c : Code) (p : Nat × Code), firstL c = some p → findLabel c p.1 = some p.2 := by
  intro c
  induction c with
  | seq a b iha ihb =>
    intro p h
    rw [firstL_seq] at h
    cases ha : firstL a with
    | some q =>
      rw [ha] at h; cases h
      unfold findLabel
      rw [iha q ha]
    | none =>
      rw [ha] at h
      unfold findLabel
      rw [first_none a ha]
      exact ihb p h
  | label l' => intro p h; cases h; simp [findLabel]
  | _ => intro p h; cases h
theorem first_todo : ∀ (c : Code) (p : Nat × Code), firstL c = some p → ∀ k, ∃ pre, todoC c k = pre ++ todoC p.2 k ∧ pre.length = nl c - nl p.2 := by
  intro c
  induction c with
  | seq a b iha ihb =>
    intro p h k
    rw [firstL_seq] at h
    cases ha : firstL a with
    | some q =>
      rw [ha] at h; cases h
      obtain ⟨pre, h1, h2⟩ := iha q ha (.code b :: k)
      refine ⟨pre, ?_, ?_⟩
      · show todoC a (.code b :: k) ++ todoC b k = pre ++ (todoC q.2 (.code b :: k) ++ todoC b k)
        rw [h1, List.append_assoc]
      · show pre.length = nl a + nl b - (nl q.2 + nl b)
        omega
    | none =>
      rw [ha] at h
      obtain ⟨pre, h1, h2⟩ := ihb p h k
      have e1 : (todoC a (.code b :: k)).length = nl a := todoC_length a _
      have e2 : (todoC b k).length = nl b := todoC_length b _
      have e3 : (todoC p.2 k).length = nl p.2 := todoC_length _ _
      have e4 : nl b = pre.length + nl p.2 := by rw [← e2, h1, List.length_append, e3]
      refine ⟨todoC a (.code b :: k) ++ pre, ?_, ?_⟩
      · show todoC a (.code b :: k) ++ todoC b k = _
        rw [h1, List.append_assoc]
      · show (todoC a (.code b :: k) ++ pre).length = nl a + nl b - nl p.2
        rw [List.length_append]; omega
  | label l' => intro p h k; cases h; exact ⟨[], rfl, rfl⟩
  | _ => intro p h; cases h
theorem XS.scope {b : Code} {k : List Item} {G : TS → Hp → Option R} {X : Code → TS → Hp → Option R} (hX : XS C fn round Q H k X) (hG : ∀ p, firstL b = some p → KS C fn round Q H (.code p.2 :: .inScope b :: k) G) : XS C fn round Q H (.inScope b :: k) (gotoX b G X) := by
  intro j hj
  cases j with
  | exit id => exact KS.skip hj (fun k => rfl) (hX _ hj)
  | goto l =>
    intro pl T hh m r hpl hT hF hk
    unfold gotoX at hk
    cases hf : firstL b with
    | some p =>
      rw [hf] at hk
      simp only at hk
      obtain ⟨hc, hk2⟩ := bc_some hk
      have e := Nat.eq_of_beq_eq_true hc
      subst e
      refine Reach.step (n0 := 0) (s1 := ⟨T.tr, .code p.2 :: .inScope b :: k, T.marks, m⟩) ?_ (PSub.refl _) (hG p hf pl T hh m r hpl hT hF hk2)
      simp [stepF, gotoIn, first_some b p hf]
    | none =>
      rw [hf] at hk
      exact KS.skip (K := X (.goto l)) hj (fun k => by simp [gotoIn, first_none b hf]) (hX _ hj) pl T hh m r hpl hT hF hk
  | ret => exact KS.skip hj trivial (hX _ hj)
  | _ => exact hj.elim

theorem LS.left {i : Nat} {a b : List LoopAt} (h : LS C fn round Q H i (a ++ b)) : LS C fn round Q H i a := fun n x hx => h n x (by
  have := (List.getElem?_eq_some_iff.1 hx).1
  rw [List.getElem?_append_left this]; exact hx)
theorem LS.right {i : Nat} {a b : List LoopAt} (h : LS C fn round Q H i (a ++ b)) : LS C fn round Q H (i + a.length) b := fun n x hx => by
  have := h (a.length + n) x (by rw [List.getElem?_append_right (by omega)]; rw [show a.length + n - a.length = n by omega]; exact hx)
  rw [show i + a.length + n = i + (a.length + n) by omega]; exact this
theorem isJ_eq {j : Code} {p : Option Code} (h : isJ j p = true) : p = some j := by
  unfold isJ at h
  split at h
  · rw [Nat.eq_of_beq_eq_true h]
  · rw [Nat.eq_of_beq_eq_true h]
  · rfl
  · cases h
theorem isJ_jump {j : Code} {p : Option Code} (h : isJ j p = true) : isJump j := by
  unfold isJ at h
  split at h
  · trivial
  · trivial
  · trivial
  · cases h
theorem selJ_ok {p : Option Code} {KJ : Code → Option R} {r : R} : ∀ (js : List Code), selJ js p KJ = some r → ∃ j, p = some j ∧ isJump j ∧ KJ j = some r
  | [], h => by cases h
  | j :: js, h => by
    change bc (isJ j p) (KJ j) (selJ js p KJ) = some r at h
    cases hc : isJ j p with
    | true => rw [hc, bc_true] at h; exact ⟨j, isJ_eq hc, isJ_jump hc, h⟩
    | false => rw [hc, bc_false] at h; exact selJ_ok js h
theorem end_ok {pl : Pl} {h : Hp} {m : Mem} (hF : Fill pl h m) {l : Nat} {p : Option Code × Hp} (hk : endL h l = some p) : ∃ m1, endLoopF l m = some (p.1, m1) ∧ Fill pl p.2 m1 := by
  unfold endL at hk
  split at hk
  · rename_i st pend a b c d e f g hg
    obtain ⟨q, hq⟩ := hF.loops l _ hg (fun h => h)
    have hm : m.get l = some (q.blk st pend) := by rw [hF.get, hg, hq]; rfl
    have : ∃ m1, endLoopF l m = some (pend, m1) ∧ m1 = m.set l (q.blk .exhausted pend) ∧ p = (pend, h.set l (stub .exhausted pend)) := by
      unfold endLoopF
      rw [hm]
      simp only [Pay.blk]
      split at hk
      · cases hk
      · cases hk
        cases st <;> first | exact ⟨_, rfl, rfl, rfl⟩ | (rename_i hne; exact absurd rfl hne)
    obtain ⟨m1, e1, e2, e3⟩ := this
    subst e2 e3
    exact ⟨_, e1, hF.loop hq _ _⟩
  · cases hk

theorem denC_ok (hH : MonoH H) (htbl : TblOK C.E H C.tbl) (hit : ItOK C H) : ∀ (c : Code), (round = none ∨ nl c = 0) → ∀ (i : Nat) (k : List Item) (K : TS → Hp → Option R) (X : Code → TS → Hp → Option R),
    LS C fn round Q H i (todoC c k) → KS C fn round Q H k K → XS C fn round Q H k X → KS C fn round Q H (.code c :: k) (denC C c i K X) := by
  intro c
  induction c with
  | skip => intro hr i k K X hl hK hX; exact KS.step (fun T marks m => rfl) hK
  | region id ops draw =>
    intro hr i k K X hl hK hX pl T h m r hpl hT hF hk
    obtain ⟨n, T1, h1, m1, pl1, q1, q2, q3, q4, q5, q6⟩ := regionK_ok hH htbl hk hT hpl hF
    have := hK pl1 T1 h1 m1 r (hH _ _ q4 hpl) q2 q5 q6
    rw [q3] at this
    refine Reach.step (n0 := n) ?_ q4 this
    unfold stepF
    simp only [q1]
  | seq a b iha ihb =>
    intro hr i k K X hl hK hX
    have e : (todoC a (.code b :: k)).length = nl a := todoC_length a _
    refine KS.step (k1 := .code a :: .code b :: k) (fun T marks m => rfl) ?_
    have hra : round = none ∨ nl a = 0 := hr.imp_right (fun h => by have : nl a + nl b = 0 := h; omega)
    have hrb : round = none ∨ nl b = 0 := hr.imp_right (fun h => by have : nl a + nl b = 0 := h; omega)
    refine iha hra i (.code b :: k) (denC C b (i + nl a) K X) X (LS.left hl) (ihb hrb (i + nl a) k K X ?_ hK hX) (hX.skip (skips_code b))
    have := LS.right (C := C) (a := todoC a (.code b :: k)) (b := todoC b k) hl
    rw [e] at this; exact this
  | cond c t e iht ihe =>
    intro hr i k K X hl hK hX pl T h m r hpl hT hF hk
    have el : (todoC t k).length = nl t := todoC_length t _
    have hra : round = none ∨ nl t = 0 := hr.imp_right (fun h => by have : nl t + nl e = 0 := h; omega)
    have hrb : round = none ∨ nl e = 0 := hr.imp_right (fun h => by have : nl t + nl e = 0 := h; omega)
    have hr' : LS C fn round Q H (i + nl t) (todoC e k) := by
      have := LS.right (C := C) (a := todoC t k) (b := todoC e k) hl
      rw [el] at this; exact this
    change (match ev T c with | .bool b => bc b (denC C t i K X T h) (denC C e (i + nl t) K X T h) | _ => none) = some r at hk
    split at hk
    · rename_i b hb
      cases b with
      | true =>
        refine Reach.step (n0 := 0) (s1 := ⟨T.tr, .code t :: k, T.marks, m⟩) ?_ (PSub.refl _) (iht hra i k K X (LS.left hl) hK hX pl T h m r hpl hT hF hk)
        unfold stepF
        simp only [ev_tr hT, hb, cond_true]
      | false =>
        refine Reach.step (n0 := 0) (s1 := ⟨T.tr, .code e :: k, T.marks, m⟩) ?_ (PSub.refl _) (ihe hrb (i + nl t) k K X hr' hK hX pl T h m r hpl hT hF hk)
        unfold stepF
        simp only [ev_tr hT, hb, cond_false]
    · cases hk
  | block id b ih =>
    intro hr i k K X hl hK hX
    refine KS.step (k1 := .code b :: .inBlock id :: k) (fun T marks m => rfl) ?_
    exact ih hr i (.inBlock id :: k) K (exitX id K X) hl (KS.step (fun T marks m => rfl) hK) (XS.block hK hX)
  | loop b ih =>
    intro hr i k K X hl hK hX
    exact KS.step (k1 := .code b :: .inLoop b :: k) (fun T marks m => rfl) (hl 0 _ rfl)
  | rangeFunc f ps a b iha ihb =>
    intro hr i k K X hl hK hX pl T h m r hpl hT hF hk
    have hr : round = none := hr.resolve_right (fun h => by have : 1 = 0 := h; omega)
    subst hr
    have hY : YS C fn H i ps a b := hl 0 _ rfl
    change rangeK C (jumpsOf a ++ jumpsOf b) f i K X T h = some r at hk
    unfold rangeK at hk
    split at hk
    · rename_i g first cap hf
      obtain ⟨pl1, s1, s2, s3⟩ := Fill.newLoop (hF.new (K := .defs) trivial) ⟨fn, T.tr, C.size, ps.toList, a, b, m.next⟩ .ready none
      have s2' : pl1 (h.next + 1) = some ⟨fn, T.tr, C.size, ps.toList, a, b, m.next⟩ := s2
      obtain ⟨v, h2, q1, q2⟩ := hit g _ _ _ _ _ r hk ⟨fn, T.tr, C.size, ps.toList, a, b, m.next⟩ (fun aa hh bb hh1 hy => hY T (h.next + 1) aa hh bb hh1 m.next hT hy)
      obtain ⟨n, m2, pl2, p1, p2, p3⟩ := q2 pl1 _ ⟨hH _ _ s1 hpl, s2'⟩ s3
      obtain ⟨p, e1, e2⟩ := bind_some' q1
      obtain ⟨m3, e3, e4⟩ := end_ok p3 e1
      have hen : enterLoopF fn C.size none ⟨T.tr, .code (.rangeFunc f ps a b) :: k, T.marks, m⟩ ps a b = some (h.next + 1, ⟨T.tr, .code (.rangeFunc f ps a b) :: k, m.next :: T.marks, (m.new .defs).new (.loop .ready none fn T.tr C.size ps.toList a b m.next)⟩) := by
        unfold enterLoopF
        simp only [Mem.next_new, hF.next]
      have hstep : ∀ jump, p.1 = jump → stepF (aRun C.E n) C.E fn C.size none ⟨T.tr, .code (.rangeFunc f ps a b) :: k, T.marks, m⟩ = some (.run ⟨T.tr, (match jump with | some c => .code c :: k | none => k), m.next :: T.marks, m3⟩) := by
        intro jump hj
        unfold stepF
        simp only [ev_tr hT, hf, hen]
        have p2' : aRun C.E n (.fn g) (first.toList ++ (.func (.yield (h.next + 1)) #[] #[]) :: cap.toList) ((m.new .defs).new (.loop .ready none fn T.tr C.size ps.toList a b m.next)) = some (v, m2) := p2
        simp only [p2', e3, hj]
        cases jump <;> rfl
      have hT' : TS.OK { T with marks := h.next :: T.marks } := hT
      cases hc : isN p.1 with
      | true =>
        rw [hc, bc_true] at e2
        have hp : p.1 = none := by
          cases hp : p.1 with
          | none => rfl
          | some c => rw [hp] at hc; cases hc
        refine Reach.step (hstep none hp) (s1.trans p1) ?_
        have := hK pl2 _ p.2 m3 r (hH _ _ (s1.trans p1) hpl) hT' e4 e2
        rw [← hF.next] at this
        exact this
      | false =>
        rw [hc, bc_false] at e2
        obtain ⟨j, hj, hj2, hj3⟩ := selJ_ok _ e2
        refine Reach.step (hstep (some j) hj) (s1.trans p1) ?_
        have := hX j hj2 pl2 _ p.2 m3 r (hH _ _ (s1.trans p1) hpl) hT' e4 hj3
        rw [← hF.next] at this
        exact this
    · cases hk
  | exit id => intro hr i k K X hl hK hX; exact hX _ trivial
  | scope b ih =>
    intro hr i k K X hl hK hX
    refine KS.step (k1 := .code b :: .inScope b :: k) (fun T marks m => rfl) ?_
    have hlb : LS C fn round Q H (i + 1) (todoC b (.inScope b :: k)) := fun n x hx => by
      have := hl (n + 1) x (by exact hx)
      rw [show i + 1 + n = i + (n + 1) by omega]; exact this
    have hr' : round = none ∨ nl b = 0 := hr.imp_right (fun h => by have : nl b + 1 = 0 := h; omega)
    exact ih hr' (i + 1) (.inScope b :: k) K (gotoX b (C.LP i) X) hlb (KS.step (fun T marks m => rfl) hK) (hX.scope (hl 0 _ rfl))
  | label l => intro hr i k K X hl hK hX; exact KS.step (fun T marks m => rfl) hK
  | goto l => intro hr i k K X hl hK hX; exact hX _ trivial
  | ret => intro hr i k K X hl hK hX; exact hX _ trivial
  | refuse w => intro hr i k K X hl hK hX pl T h m r hpl hT hF hk; cases hk

/-- What is told of a loop's text. -/
def BX (C : Ctx R) (fn : Nat) (round : Option Nat) (Q : Pl → Option Code → Tr Value → List Nat → Mem → R → Prop) (H : Pl → Prop) : LoopAt → (TS → Hp → Option R) → Prop
  | .loop b k, B => KS C fn round Q H (.code b :: .inLoop b :: k) B
  | .label b k, B => ∀ p, firstL b = some p → KS C fn round Q H (.code p.2 :: .inScope b :: k) B
  | .range _ _ _, _ => True
theorem loopsC_ok (hH : MonoH H) (htbl : TblOK C.E H C.tbl) (hit : ItOK C H) (hr : round = none) : ∀ (c : Code) (i : Nat) (k : List Item) (K : TS → Hp → Option R) (X : Code → TS → Hp → Option R),
    LS C fn round Q H i (todoC c k) → KS C fn round Q H k K → XS C fn round Q H k X → ∀ (n : Nat) (B : TS → Hp → Option R) (x : LoopAt), (loopsC C c i K X)[n]? = some B → (todoC c k)[n]? = some x → BX C fn round Q H x B := by
  have len : ∀ (c : Code) (i : Nat) (K : TS → Hp → Option R) (X : Code → TS → Hp → Option R), (loopsC C c i K X).length = nl c := by
    intro c
    induction c with
    | seq a b iha ihb => intro i K X; show (loopsC C a i (denC C b (i + nl a) K X) X ++ loopsC C b (i + nl a) K X).length = nl a + nl b; rw [List.length_append, iha, ihb]
    | cond c t e iht ihe => intro i K X; show (loopsC C t i K X ++ loopsC C e (i + nl t) K X).length = nl t + nl e; rw [List.length_append, iht, ihe]
    | block id b ih => intro i K X; exact ih _ _ _
    | loop b ih => intro i K X; show (loopsC C b (i + 1) (C.LP i) X).length + 1 = nl b + 1; rw [ih]
    | scope b ih => intro i K X; show (loopsC C b (i + 1) K (gotoX b (C.LP i) X)).length + 1 = nl b + 1; rw [ih]
    | _ => intro i K X; rfl
  intro c
  induction c with
  | seq a b iha ihb =>
    intro i k K X hl hK hX n B x h1 h2
    change (loopsC C a i (denC C b (i + nl a) K X) X ++ loopsC C b (i + nl a) K X)[n]? = some B at h1
    change (todoC a (.code b :: k) ++ todoC b k)[n]? = some _ at h2
    have e : (todoC a (.code b :: k)).length = nl a := todoC_length a _
    have hlb : LS C fn round Q H (i + nl a) (todoC b k) := by
      have := LS.right (C := C) (a := todoC a (.code b :: k)) (b := todoC b k) hl
      rw [e] at this; exact this
    by_cases c : n < nl a
    · rw [List.getElem?_append_left (by rw [len]; exact c)] at h1
      rw [List.getElem?_append_left (by rw [e]; exact c)] at h2
      exact iha i _ _ X (LS.left hl) (denC_ok hH htbl hit b (.inl hr) _ k K X hlb hK hX) (hX.skip (skips_code b)) n B x h1 h2
    · rw [List.getElem?_append_right (by rw [len]; omega), len] at h1
      rw [List.getElem?_append_right (by rw [e]; omega), e] at h2
      exact ihb _ k K X hlb hK hX _ B x h1 h2
  | cond c t e iht ihe =>
    intro i k K X hl hK hX n B x h1 h2
    change (loopsC C t i K X ++ loopsC C e (i + nl t) K X)[n]? = some B at h1
    change (todoC t k ++ todoC e k)[n]? = some _ at h2
    have el : (todoC t k).length = nl t := todoC_length t _
    have hlb : LS C fn round Q H (i + nl t) (todoC e k) := by
      have := LS.right (C := C) (a := todoC t k) (b := todoC e k) hl
      rw [el] at this; exact this
    by_cases c : n < nl t
    · rw [List.getElem?_append_left (by rw [len]; exact c)] at h1
      rw [List.getElem?_append_left (by rw [el]; exact c)] at h2
      exact iht i _ _ X (LS.left hl) hK hX n B x h1 h2
    · rw [List.getElem?_append_right (by rw [len]; omega), len] at h1
      rw [List.getElem?_append_right (by rw [el]; omega), el] at h2
      exact ihe _ k K X hlb hK hX _ B x h1 h2
  | block id b ih =>
    intro i k K X hl hK hX
    exact ih i (.inBlock id :: k) K (exitX id K X) hl (KS.step (fun T marks m => rfl) hK) (XS.block hK hX)
  | loop b ih =>
    intro i k K X hl hK hX n B x h1 h2
    have h0 : KS C fn round Q H (.inLoop b :: k) (C.LP i) := KS.step (k1 := .code b :: .inLoop b :: k) (fun T marks m => rfl) (hl 0 _ rfl)
    have hlb : LS C fn round Q H (i + 1) (todoC b (.inLoop b :: k)) := fun n x hx => by
      have := hl (n + 1) x (by exact hx)
      rw [show i + 1 + n = i + (n + 1) by omega]; exact this
    cases n with
    | zero =>
      cases h1; cases h2
      exact denC_ok hH htbl hit b (.inl hr) (i + 1) (.inLoop b :: k) (C.LP i) X hlb h0 (hX.skip (skips_loop b))
    | succ n => exact ih (i + 1) (.inLoop b :: k) (C.LP i) X hlb h0 (hX.skip (skips_loop b)) n B x h1 h2
  | rangeFunc f ps a b iha ihb =>
    intro i k K X hl hK hX n B x h1 h2
    change ([LoopAt.range ps a b])[n]? = some _ at h2
    cases n with
    | zero => cases h2; trivial
    | succ n => cases h2
  | scope b ih =>
    intro i k K X hl hK hX n B x h1 h2
    have hlb : LS C fn round Q H (i + 1) (todoC b (.inScope b :: k)) := fun n x hx => by
      have := hl (n + 1) x (by exact hx)
      rw [show i + 1 + n = i + (n + 1) by omega]; exact this
    have hX' := hX.scope (b := b) (G := C.LP i) (hl 0 _ rfl)
    have hK' : KS C fn round Q H (.inScope b :: k) K := KS.step (fun T marks m => rfl) hK
    cases n with
    | zero =>
      cases h1; cases h2
      intro p hp
      rw [hp]
      obtain ⟨pre, q1, q2⟩ := first_todo b p hp (.inScope b :: k)
      refine denC_ok hH htbl hit p.2 (.inl hr) _ (.inScope b :: k) K _ ?_ hK' hX'
      rw [q1] at hlb
      have := LS.right hlb
      rw [q2] at this
      exact this
    | succ n => exact ih (i + 1) (.inScope b :: k) K _ hlb hK' hX' n B x h1 h2
  | _ => intro i k K X hl hK hX n B x h1 h2; cases h1
end
end Go.Proofs.Ytgikimegikelkaa.Ab
/- The machine told by continuations: calls, rounds of loops over functions. -/
namespace Go.Proofs.Ytgikimegikelkaa.Ab
open Go Go.RowKit
set_option linter.unusedVariables false
set_option linter.unusedSimpArgs false
set_option linter.unusedSectionVars false

theorem takeM_ok {pl : Pl} : ∀ (l : List Nat) (h h1 : Hp) (m : Mem), Fill pl h m → takeM h l = some h1 → ∃ m1, takeMarks l m = some m1 ∧ Fill pl h1 m1
  | [], h, h1, m, hF, hk => by cases hk; exact ⟨m, rfl, hF⟩
  | b :: l, h, h1, m, hF, hk => by
    change (match h.g b with | some .defs => takeM (h.set b .dead) l | _ => none) = some h1 at hk
    split at hk
    · rename_i hb
      obtain ⟨m1, e1, e2⟩ := takeM_ok l _ h1 _ (hF.set b (K := .dead) trivial) hk
      exact ⟨m1, by unfold takeMarks; rw [hF.plain hb trivial]; exact e1, e2⟩
    · cases hk
theorem resK_ok {R : Type} {E : Env} {T : TS} {h : Hp} {m : Mem} {pl : Pl} (hT : T.OK) (hF : Fill pl h m) {r : R} : ∀ (l : List ResultVar) (K : List Value → Option R), resK E T h l K = some r → ∃ vs, resL E T.tr m l = some vs ∧ K vs = some r
  | [], K, hk => ⟨[], rfl, hk⟩
  | x :: l, K, hk => by
    cases x with
    | tmp t =>
      change resK E T h l (fun vs => K (T.get t :: vs)) = some r at hk
      obtain ⟨vs, e1, e2⟩ := resK_ok hT hF l _ hk
      refine ⟨T.get t :: vs, ?_, e2⟩
      unfold resL resV
      simp only [TS.get_tr hT, e1]
    | cell a t =>
      change (match T.get a with | .pointer (some ⟨b, o, none⟩) => loadK E none h t b o fun v => resK E T h l fun vs => K (v :: vs) | _ => none) = some r at hk
      split at hk
      · rename_i b o ha
        obtain ⟨v, KK, h1, hp, h2, h3, _⟩ := loadK_ok hk
        obtain ⟨vs, e1, e2⟩ := resK_ok hT hF l _ h3
        refine ⟨v :: vs, ?_, e2⟩
        have hg : T.tr.get a = some (.pointer (some ⟨b, o, none⟩)) := by
          have := TS.get_tr hT a
          rw [ha] at this
          cases hx : T.tr.get a with
          | none => rw [hx] at this; cases this
          | some y => rw [hx] at this; exact congrArg some this
        unfold resL resV
        simp only [hg, h2 m (hF.plain h1 hp), e1]
      · cases hk
theorem argsO_tr (G : Tr Value) (mk : List Nat) : ∀ (l : List Value) (i : Nat) (ov : List (Nat × Value)), (⟨argsO l i ov, G, mk⟩ : TS).tr = argsT l i (⟨ov, G, mk⟩ : TS).tr
  | [], i, ov => rfl
  | v :: l, i, ov => by
    show (⟨argsO l (i + 1) ((i, v) :: ov), G, mk⟩ : TS).tr = _
    rw [argsO_tr G mk l (i + 1)]; rfl
theorem argsO_ok (n : Nat) : ∀ (l : List Value) (i : Nat) (ov : List (Nat × Value)), i + l.length ≤ n → (∀ p ∈ ov, p.1 ≤ n) → ∀ p ∈ argsO l i ov, p.1 ≤ n
  | [], i, ov, _, h => h
  | v :: l, i, ov, hl, h => argsO_ok n l (i + 1) ((i, v) :: ov) (by simp only [List.length_cons] at hl; omega) (fun p hp => by
      rcases List.mem_cons.1 hp with rfl | hp
      · simp only [List.length_cons] at hl; show i ≤ n; omega
      · exact h p hp)

/-- What a function's frame leaves with. -/
def FnQ (E : Env) (F : Func) (pl : Pl) (_ : Option Code) (T : Tr Value) (marks : List Nat) (m : Mem) (r : Value × Hp) : Prop :=
  ∃ m1 vs h1, takeMarks marks m = some m1 ∧ resL E T m1 F.results.toList = some vs ∧ Fill pl h1 m1 ∧ r = (oneOf vs, h1)
noncomputable abbrev pairK : Value → Hp → Option (Value × Hp) := fun v h => some (v, h)

section
variable {E : Env} {N g : Nat} {F : Func} {hint : Nat → Option (Nat × List Ck)} {H : Pl → Prop}
theorem ret_ok {C : Ctx (Value × Hp)} {T : TS} {h : Hp} {m : Mem} {pl : Pl} {r : Value × Hp} (hT : T.OK) (hF : Fill pl h m) (hk : retK C.E F.results.toList pairK T h = some r) (j : Option Code) : FnQ C.E F pl j T.tr T.marks m r := by
  unfold retK at hk
  obtain ⟨h1, e1, hk⟩ := bind_some' hk
  obtain ⟨m1, e2, e3⟩ := takeM_ok _ _ _ _ hF e1
  obtain ⟨vs, e4, e5⟩ := resK_ok hT e3 _ _ hk
  cases e5
  exact ⟨m1, vs, h1, e2, e4, e3, rfl⟩
theorem ks_end {C : Ctx (Value × Hp)} : KS C g none (FnQ C.E F) H [] (retK C.E F.results.toList pairK) := by
  intro pl T h m r hpl hT hF hk
  exact Reach.leave (n0 := 0) (j := none) (s1 := ⟨T.tr, [], T.marks, m⟩) rfl (PSub.refl _) (ret_ok hT hF hk none)
theorem xs_end {C : Ctx (Value × Hp)} : XS C g none (FnQ C.E F) H [] (retX C.E F.results.toList pairK) := by
  intro j hj
  cases j with
  | ret =>
    intro pl T h m r hpl hT hF hk
    exact Reach.leave (n0 := 0) (j := some .ret) (s1 := ⟨T.tr, [.code .ret], T.marks, m⟩) rfl (PSub.refl _) (ret_ok hT hF hk _)
  | exit id => intro pl T h m r hpl hT hF hk; cases hk
  | goto l => intro pl T h m r hpl hT hF hk; cases hk
  | _ => exact hj.elim

variable {tbl : Nat → CallTo → List Value → Hp → (Value → Hp → Option (Value × Hp)) → Option (Value × Hp)}
variable {itK : Nat → Nat → Nat → List Value → (List Value → Hp → Option (Bool × Hp)) → Hp → (Value → Hp → Option (Value × Hp)) → Option (Value × Hp)}
variable {LP : Nat → Nat → TS → Hp → Option (Value × Hp)}
variable {YO : Nat → Nat → TS → Nat → List Value → Hp → Option (Bool × Hp)}
/-- The frames of a function, by rounds. -/
noncomputable abbrev ctx (E : Env) (N : Nat) (hint : Nat → Option (Nat × List Ck)) (tbl : Nat → CallTo → List Value → Hp → (Value → Hp → Option (Value × Hp)) → Option (Value × Hp))
    (itK : Nat → Nat → Nat → List Value → (List Value → Hp → Option (Bool × Hp)) → Hp → (Value → Hp → Option (Value × Hp)) → Option (Value × Hp))
    (LP : Nat → Nat → TS → Hp → Option (Value × Hp)) (YO : Nat → Nat → TS → Nat → List Value → Hp → Option (Bool × Hp)) (k : Nat) : Ctx (Value × Hp) := ⟨E, N, hint, tbl k, itK k, LP k, YO k⟩

theorem fn_ok (hsn : E.sane g = false) (hg : E.fn g = some F) {body : Code} (hb : F.body = some body) (hH : MonoH H) (htbl : ∀ k, TblOK E H (tbl k)) (hit : ∀ k, ItOK (ctx E N hint tbl itK LP YO k) H)
    (hys : ∀ k i ps a b, (todoC body [])[i]? = some (.range ps a b) → YS (ctx E N hint tbl itK LP YO k) g H i ps a b)
    (h0 : ∀ i T h, LP 0 i T h = none)
    (hs : ∀ k i T h r, TS.OK T → LP (k + 1) i T h = some r → ∃ T' : TS, T'.tr = T.tr ∧ T'.OK ∧ T'.marks = T.marks ∧ loopF' (ctx E N hint tbl itK LP YO k) F pairK i T' h = some r)
    (k : Nat) {args : List Value} (hn : Nat.max args.length F.ntmps = N) {h h1 : Hp} {v : Value} (hk : denF (ctx E N hint tbl itK LP YO k) F args h pairK = some (v, h1)) : RunsH E H (.fn g) args h v h1 := by
  have hloops : ∀ k, LS (ctx E N hint tbl itK LP YO k) g none (FnQ E F) H 0 (todoC body []) := by
    intro k
    induction k with
    | zero =>
      intro n x hx
      cases x with
      | range ps a b => rw [Nat.zero_add]; exact hys 0 n ps a b hx
      | label b k' =>
        intro p hp pl T h m r hpl hT hF hk
        rw [show (ctx E N hint tbl itK LP YO 0).LP (0 + n) T h = none from h0 _ _ _] at hk; cases hk
      | loop b k' =>
        intro pl T h m r hpl hT hF hk
        rw [show (ctx E N hint tbl itK LP YO 0).LP (0 + n) T h = none from h0 _ _ _] at hk; cases hk
    | succ k ih =>
      intro n x hx
      cases x with
      | range ps a b => rw [Nat.zero_add]; exact hys (k + 1) n ps a b hx
      | label b k' =>
        intro p hp pl T h m r hpl hT hF hk
        rw [Nat.zero_add] at hk
        obtain ⟨T', e1, e2, e3, e4⟩ := hs k n T h r hT hk
        unfold loopF' at e4
        rw [hb] at e4
        simp only at e4
        rw [nth_eq] at e4
        cases hB : (loopsC (ctx E N hint tbl itK LP YO k) body 0 (retK E F.results.toList pairK) (retX E F.results.toList pairK))[n]? with
        | none => rw [hB] at e4; cases e4
        | some B =>
          rw [hB] at e4
          have := loopsC_ok (C := ctx E N hint tbl itK LP YO k) (fn := g) (round := none) (Q := FnQ E F) hH (htbl k) (hit k) rfl body 0 [] (retK E F.results.toList pairK) (retX E F.results.toList pairK) ih ks_end xs_end n B _ hB hx p hp pl T' h m r hpl e2 hF e4
          rw [e1, e3] at this
          obtain ⟨n', j, s', pl1, q⟩ := this
          exact ⟨n', j, s', pl1, q⟩
      | loop b k' =>
        intro pl T h m r hpl hT hF hk
        rw [Nat.zero_add] at hk
        obtain ⟨T', e1, e2, e3, e4⟩ := hs k n T h r hT hk
        unfold loopF' at e4
        rw [hb] at e4
        simp only at e4
        rw [nth_eq] at e4
        cases hB : (loopsC (ctx E N hint tbl itK LP YO k) body 0 (retK E F.results.toList pairK) (retX E F.results.toList pairK))[n]? with
        | none => rw [hB] at e4; cases e4
        | some B =>
          rw [hB] at e4
          have := loopsC_ok (C := ctx E N hint tbl itK LP YO k) (fn := g) (round := none) (Q := FnQ E F) hH (htbl k) (hit k) rfl body 0 [] (retK E F.results.toList pairK) (retX E F.results.toList pairK) ih ks_end xs_end n B _ hB hx pl T' h m r hpl e2 hF e4
          rw [e1, e3] at this
          obtain ⟨n', j, s', pl1, q⟩ := this
          exact ⟨n', j, s', pl1, q⟩
  unfold denF at hk
  rw [hb] at hk
  simp only at hk
  obtain ⟨hle, hk⟩ := bif_t hk
  have hle' := Nat.le_of_ble_eq_true hle
  intro pl m hpl hF
  have hok : TS.OK ⟨argsO args 0 [], .nil, []⟩ := argsO_ok 65535 args 0 [] (by omega) (fun p hp => by simp at hp)
  obtain ⟨n, j, s', pl1, q1, q2, m1, vs, h2, q3, q4, q5, q6⟩ := denC_ok (C := ctx E N hint tbl itK LP YO k) (fn := g) (round := none) (Q := FnQ E F) hH (htbl k) (hit k) body (.inl rfl) 0 [] (retK E F.results.toList pairK) (retX E F.results.toList pairK) (hloops k) ks_end xs_end pl _ h m _ hpl hok hF hk
  cases q6
  rw [argsO_tr] at q2
  refine ⟨n + 1, m1, pl1, q1, ?_, q5⟩
  unfold aRun
  simp only [hsn, Bool.false_and, cond_false, hg, hb, hle, cond_true]
  have q2' : loopF (aRun E n) E g (Nat.max args.length F.ntmps) none n ⟨argsT args 0 .nil, [.code body], [], m⟩ = some (j, s') := by rw [hn]; exact q2
  simp only [q2', q3, q4]
end

/-! ### Rounds -/
theorem setY_ok {size : Nat} : ∀ (ps : List Nat) (vs : List Value) (T T1 : TS), setY ps size vs T = some T1 → T.OK → setPs ps vs size T.tr = some T1.tr ∧ T1.OK ∧ T1.marks = T.marks
  | [], [], T, T1, h, hT => by cases h; exact ⟨rfl, hT, rfl⟩
  | [], _ :: _, T, T1, h, hT => by cases h
  | p :: ps, [], T, T1, h, hT => by cases h
  | p :: ps, v :: vs, T, T1, h, hT => by
    change (bif Nat.ble (p + 1) size && Nat.ble p 65535 then setY ps size vs (T.put p v) else none) = some T1 at h
    obtain ⟨hc, h⟩ := bif_t h
    have hc' := hc
    rw [Bool.and_eq_true] at hc
    obtain ⟨q1, q2, q3⟩ := setY_ok ps vs _ T1 h (hT.put (Nat.le_of_ble_eq_true hc.2) v)
    exact ⟨by unfold setPs; rw [hc', cond_true]; exact q1, q2, q3⟩

def YQ (l : Nat) (p : Pay) (pl : Pl) (j : Option Code) (_ : Tr Value) (marks : List Nat) (m : Mem) (r : Bool × Hp) : Prop :=
  marks = [] ∧ pl l = some p ∧ ∃ h h1, Fill pl h m ∧ finL h l j = some h1 ∧ r = (isN j, h1)
theorem round_ok {C : Ctx (Bool × Hp)} {H : Pl → Prop} (hH : MonoH H) {ps : List Nat} {assign body : Code} {T : TS} {l fn d : Nat} (ha : nl assign = 0) (hb : nl body = 0) (hT : T.OK)
    (htbl : TblOK C.E (fun pl => H pl ∧ pl l = some ⟨fn, T.tr, C.size, ps, assign, body, d⟩) C.tbl) (hit : ItOK C (fun pl => H pl ∧ pl l = some ⟨fn, T.tr, C.size, ps, assign, body, d⟩))
    {args : List Value} {h h1 : Hp} {b : Bool} (hk : denY C ps assign body T l args h = some (b, h1)) :
    RunsH C.E (fun pl => H pl ∧ pl l = some ⟨fn, T.tr, C.size, ps, assign, body, d⟩) (.yield l) args h (.bool b) h1 := by
  generalize hp : (⟨fn, T.tr, C.size, ps, assign, body, d⟩ : Pay) = p at *
  have hH' : MonoH (fun pl => H pl ∧ pl l = some p) := fun a b hs h => ⟨hH a b hs h.1, hs _ _ h.2⟩
  unfold denY at hk
  split at hk
  · rename_i T1 hset
    obtain ⟨hisl, hk⟩ := ckB_some hk
    obtain ⟨s1, s2, s3⟩ := setY_ok ps args { T with marks := [] } T1 hset hT
    have hls : ∀ c, nl c = 0 → ∀ k, LS C fn (some l) (YQ l p) (fun pl => H pl ∧ pl l = some p) 0 (todoC c k) := fun c hc k n x hx => by
      have := (List.getElem?_eq_some_iff.1 hx).1
      rw [todoC_length, hc] at this; omega
    have kend : ∀ (jj : Option Code) (k : List Item), (∀ T marks m, stepF (aRun C.E 0) C.E fn C.size (some l) ⟨T, k, marks, m⟩ = some (.leave jj ⟨T, k, marks, m⟩)) → KS C fn (some l) (YQ l p) (fun pl => H pl ∧ pl l = some p) k (finY l jj) := by
      intro jj k hst pl T h m r hpl hT hF hk
      unfold finY at hk
      split at hk
      · rename_i hm
        obtain ⟨h2, e1, e2⟩ := bind_some' hk
        cases e2
        exact Reach.leave (hst _ _ _) (PSub.refl _) ⟨hm, hpl.2, h, h2, hF, e1, rfl⟩
      · cases hk
    have xend : XS C fn (some l) (YQ l p) (fun pl => H pl ∧ pl l = some p) [] (fun j => finY l (some j)) := by
      intro j hj
      cases j with
      | ret => exact kend (some .ret) _ (fun T marks m => rfl)
      | exit id => exact kend (some (.exit id)) _ (fun T marks m => rfl)
      | goto l' => exact kend (some (.goto l')) _ (fun T marks m => rfl)
      | _ => exact hj.elim
    have kbody := denC_ok (C := C) (fn := fn) (round := some l) (Q := YQ l p) hH' htbl hit body (.inr hb) 0 [] (finY l none) (fun j => finY l (some j)) (hls body hb []) (kend none [] (fun T marks m => rfl)) xend
    have kbeg : KS C fn (some l) (YQ l p) (fun pl => H pl ∧ pl l = some p) [.beginRound, .code body] (fun T h => (begL h l).bind fun h1 => denC C body 0 (finY l none) (fun j => finY l (some j)) T h1) := by
      intro pl T h m r hpl hT hF hk
      obtain ⟨h2, e1, e2⟩ := bind_some' hk
      unfold begL at e1
      split at e1
      · rename_i pend a b c d e f g hg
        cases e1
        have hm : m.get l = some (p.blk .ready pend) := by rw [hF.get, hg, hpl.2]; rfl
        refine Reach.step (n0 := 0) (s1 := ⟨T.tr, [.code body], T.marks, m.set l (p.blk .busy pend)⟩) ?_ (PSub.refl _) (kbody pl T _ _ r hpl hT (hF.loop hpl.2 _ _) e2)
        unfold stepF
        simp only [hm, Pay.blk]
      · cases e1
    have kall := denC_ok (C := C) (fn := fn) (round := some l) (Q := YQ l p) hH' htbl hit assign (.inr ha) 0 [.beginRound, .code body] _ (fun _ _ _ => none) (hls assign ha _) kbeg (fun j hj pl T h m r hpl hT hF hk => by cases hk)
    intro pl m hpl hF
    obtain ⟨n, j, s', pl1, q1, q2, q3, q4, h2, h3, q5, q6, q7⟩ := kall pl T1 h m (b, h1) hpl s2 hF hk
    cases q7
    unfold finL at q6
    split at q6
    · rename_i st pend c1 c2 c3 c4 c5 c6 c7 hg
      cases q6
      have hm' : s'.m.get l = some (p.blk st pend) := by rw [q5.get, hg, q4]; rfl
      have hst : ∃ st0 pend0, m.get l = some (p.blk st0 pend0) := by
        unfold isL at hisl
        split at hisl
        · rename_i st0 pend0 _ _ _ _ _ _ _ hg0
          exact ⟨st0, pend0, by rw [hF.get, hg0, hpl.2]; rfl⟩
        · cases hisl
      obtain ⟨st0, pend0, hm0⟩ := hst
      refine ⟨n + 1, s'.m.set l (p.blk (match (generalizing := false) j with | none => .ready | some _ => .done) j), pl1, q1, ?_, q5.loop q4 _ _⟩
      subst hp
      unfold aRun
      simp only [Pay.blk] at hm0 hm' ⊢
      simp only [hm0]
      have s1' : setPs ps args C.size T.tr = some T1.tr := s1
      simp only [s1']
      have q2' : loopF (aRun C.E n) C.E fn C.size (some l) n ⟨T1.tr, [.code assign, .beginRound, .code body], [], m⟩ = some (j, s') := by
        have : T1.marks = [] := s3
        rw [this] at q2; exact q2
      simp only [q2', q3, hm']
      cases j <;> rfl
    · cases q6
  · cases hk
end Go.Proofs.Ytgikimegikelkaa.Ab
/- The machine told by continuations: shapes, tables, functions. -/
namespace Go.Proofs.Ytgikimegikelkaa.Ab
open Go Go.RowKit
set_option linter.unusedVariables false
set_option linter.unusedSimpArgs false
set_option linter.unusedSectionVars false

def TyC : Ck → Value → Prop
  | .int i, v => ∃ x, v = .int i x
  | .bool, v => ∃ b, v = .bool b
  | .ptr, v => ∃ b o, v = .pointer (some ⟨b, o, none⟩)
  | .slc, v => ∃ a n c, v = .slice a n c
  | .map, v => ∃ b, v = .map (some b)
def TyCL : List Ck → List Value → Prop
  | [], [] => True
  | k :: ks, v :: vs => TyC k v ∧ TyCL ks vs
  | _, _ => False
def TyS : Sh → Value → Prop
  | .cell k, v => TyC k v
  | .agg ks, v => ∃ vs, v = .agg (List.toArray vs) ∧ TyCL ks vs
  | .fn g ks, v => ∃ vs, v = .func (.func g) #[] (List.toArray vs) ∧ TyCL ks vs
  | .yld, v => ∃ l, v = .func (.yield l) #[] #[]
def TySL : List (Nat × Sh) → List Value → Prop
  | [], [] => True
  | x :: l, v :: vs => TyS x.2 v ∧ TySL l vs
  | _, _ => False
theorem TyC.ne {k : Ck} {v : Value} (h : TyC k v) : v ≠ .tuple #[] := by
  cases k with
  | int i => obtain ⟨x, rfl⟩ := h; intro h; cases h
  | bool => obtain ⟨x, rfl⟩ := h; intro h; cases h
  | ptr => obtain ⟨x, y, rfl⟩ := h; intro h; cases h
  | slc => obtain ⟨x, y, z, rfl⟩ := h; intro h; cases h
  | map => obtain ⟨x, rfl⟩ := h; intro h; cases h
theorem TyS.ne {s : Sh} {v : Value} (h : TyS s v) : v ≠ .tuple #[] := by
  cases s with
  | cell k => exact TyC.ne h
  | agg ks => obtain ⟨vs, rfl, _⟩ := h; intro h; cases h
  | fn g ks => obtain ⟨vs, rfl, _⟩ := h; intro h; cases h
  | yld => obtain ⟨l, rfl⟩ := h; intro h; cases h

section
variable {R : Type} {r : R}
theorem castK0_ty {k : Ck} {v : Option Value} {K : Value → Option R} (h : castK0 k v K = some r) : ∃ x, v = some x ∧ K x = some r ∧ TyC k x := by
  cases k with
  | int i =>
    obtain ⟨x, h1, h2⟩ := bind_some' h
    unfold asI at h1
    split at h1
    · obtain ⟨h3, h4⟩ := bif_t h1
      cases h4
      obtain rfl := sameKind_refl h3
      exact ⟨_, rfl, h2, _, rfl⟩
    · cases h1
  | bool =>
    obtain ⟨x, h1, h2⟩ := bind_some' h
    unfold asB at h1
    split at h1
    · cases h1; exact ⟨_, rfl, h2, _, rfl⟩
    · cases h1
  | ptr =>
    obtain ⟨x, h1, h2⟩ := bind_some' h
    unfold asP at h1
    split at h1
    · cases h1; exact ⟨_, rfl, h2, _, _, rfl⟩
    · cases h1
  | slc =>
    obtain ⟨x, h1, h2⟩ := bind_some' h
    unfold asS0 at h1
    split at h1
    · cases h1; exact ⟨_, rfl, h2, _, _, _, rfl⟩
    · cases h1
  | map =>
    obtain ⟨x, h1, h2⟩ := bind_some' h
    unfold asM at h1
    split at h1
    · cases h1; exact ⟨_, rfl, h2, _, rfl⟩
    · cases h1
theorem castL0_ty {f : Nat → Option Value} : ∀ {l : List Ck} {j : Nat} {K : List Value → Option R}, castL0 f l j K = some r → ∃ vs, vs.length = l.length ∧ (∀ i v, vs[i]? = some v → f (j + i) = some v) ∧ K vs = some r ∧ TyCL l vs
  | [], j, K, h => ⟨[], rfl, fun i v hv => by simp at hv, h, trivial⟩
  | k :: l, j, K, h => by
    change castK0 k (f j) (fun v => castL0 f l (j + 1) fun vs => K (v :: vs)) = some r at h
    obtain ⟨x, h1, h2, h3⟩ := castK0_ty h
    obtain ⟨vs, h4, h5, h6, h7⟩ := castL0_ty h2
    refine ⟨x :: vs, by simp [h4], fun i v hv => ?_, h6, h3, h7⟩
    cases i with
    | zero => simp at hv; subst hv; exact h1
    | succ i =>
      have := h5 i v (by simpa using hv)
      rw [show j + (i + 1) = j + 1 + i by omega]; exact this
theorem list_of_nth {l vs : List Value} (hl : l.length = vs.length) (h : ∀ i v, vs[i]? = some v → nth l i = some v) : l = vs := by
  apply List.ext_getElem?
  intro i
  cases hv : vs[i]? with
  | none => rw [List.getElem?_eq_none_iff] at hv ⊢; omega
  | some v => have := h i v hv; rw [nth_eq] at this; exact this
theorem castS_ok {s : Sh} {v : Option Value} {K : Value → Option R} (h : castS s v K = some r) : ∃ x, v = some x ∧ K x = some r ∧ TyS s x := by
  cases s with
  | cell k => exact castK0_ty h
  | agg ks =>
    obtain ⟨cs, h1, h2⟩ := bind_some' h
    unfold asA at h1
    split at h1
    · rename_i a
      obtain ⟨h3, h4⟩ := bif_t h1
      cases h4
      obtain ⟨vs, q1, q2, q3, q4⟩ := castL0_ty h2
      have e : a.toList = vs := list_of_nth (by rw [q1]; simpa using Nat.eq_of_beq_eq_true h3) (fun i v hv => by have := q2 i v hv; rwa [Nat.zero_add] at this)
      have e' : a = vs.toArray := by rw [← e]
      subst e'
      exact ⟨_, rfl, q3, _, rfl, q4⟩
    · cases h1
  | fn g ks =>
    obtain ⟨cs, h1, h2⟩ := bind_some' h
    unfold asF at h1
    split at h1
    · rename_i g' first cap
      obtain ⟨h3, h4⟩ := bif_t h1
      simp only [Bool.and_eq_true] at h3
      cases h4
      obtain ⟨vs, q1, q2, q3, q4⟩ := castL0_ty h2
      have e : cap.toList = vs := list_of_nth (by rw [q1]; simpa using Nat.eq_of_beq_eq_true h3.2) (fun i v hv => by have := q2 i v hv; rwa [Nat.zero_add] at this)
      have e' : cap = vs.toArray := by rw [← e]
      have e1 : g' = g := Nat.eq_of_beq_eq_true h3.1.1
      have e2 : first = #[] := Array.eq_empty_of_size_eq_zero (Nat.eq_of_beq_eq_true h3.1.2)
      subst e' e1 e2
      exact ⟨_, rfl, q3, _, rfl, q4⟩
    · cases h1
  | yld =>
    obtain ⟨l, h1, h2⟩ := bind_some' h
    unfold asY at h1
    split at h1
    · rename_i l' first cap
      obtain ⟨h3, h4⟩ := bif_t h1
      rw [Bool.and_eq_true] at h3
      cases h4
      have e1 : first = #[] := Array.eq_empty_of_size_eq_zero (Nat.eq_of_beq_eq_true h3.1)
      have e2 : cap = #[] := Array.eq_empty_of_size_eq_zero (Nat.eq_of_beq_eq_true h3.2)
      subst e1 e2
      exact ⟨_, rfl, h2, _, rfl⟩
    · cases h1
theorem castSL_ok {f : Nat → Option Value} : ∀ {l : List Sh} {j : Nat} {K : List Value → Option R}, castSL f l j K = some r → ∃ vs, vs.length = l.length ∧ (∀ i v, vs[i]? = some v → f (j + i) = some v) ∧ K vs = some r
  | [], j, K, h => ⟨[], rfl, fun i v hv => by simp at hv, h⟩
  | s :: l, j, K, h => by
    change castS s (f j) (fun v => castSL f l (j + 1) fun vs => K (v :: vs)) = some r at h
    obtain ⟨x, h1, h2, _⟩ := castS_ok h
    obtain ⟨vs, h4, h5, h6⟩ := castSL_ok h2
    refine ⟨x :: vs, by simp [h4], fun i v hv => ?_, h6⟩
    cases i with
    | zero => simp at hv; subst hv; exact h1
    | succ i =>
      have := h5 i v (by simpa using hv)
      rw [show j + (i + 1) = j + 1 + i by omega]; exact this
theorem asTup_ok {n : Nat} {v : Value} {cs : List Value} (h : asTup n v = some cs) : ∃ a, v = .tuple a ∧ a.toList = cs ∧ cs.length = n := by
  unfold asTup at h
  split at h
  · rename_i a
    obtain ⟨h1, h2⟩ := bif_t h
    cases h2
    exact ⟨a, rfl, rfl, by simpa using Nat.eq_of_beq_eq_true h1⟩
  · cases h
theorem castR_ok {l : List Sh} {v : Value} {K : Value → Option R} (h : castR l v K = some r) : K v = some r := by
  unfold castR at h
  split at h
  · obtain ⟨cs, h1, h2⟩ := bind_some' h
    obtain ⟨a, rfl, h3, h4⟩ := asTup_ok h1
    have : a = #[] := by apply Array.eq_empty_of_size_eq_zero; rw [← Array.length_toList, h3]; exact h4
    subst this
    exact h2
  · obtain ⟨x, h1, h2, _⟩ := castS_ok h
    cases h1; exact h2
  · rename_i l' _ _
    obtain ⟨cs, h1, h2⟩ := bind_some' h
    obtain ⟨a, rfl, h3, h4⟩ := asTup_ok h1
    obtain ⟨vs, q1, q2, q3⟩ := castSL_ok h2
    have e : cs = vs := list_of_nth (by omega) (fun i v hv => by have := q2 i v hv; rwa [Nat.zero_add] at this)
    have e' : a = vs.toArray := by rw [← e, ← h3]
    subst e'
    exact q3
theorem castTS_ok {T : TS} (hT : T.OK) : ∀ {l : List (Nat × Sh)} {K : List Value → Option R}, (∀ x ∈ l, x.1 ≤ 65535) → castTS T l K = some r → ∃ vs, TySL l vs ∧ K vs = some r ∧ (⟨ovl l vs, T.tr, T.marks⟩ : TS).tr = T.tr ∧ TS.OK ⟨ovl l vs, T.tr, T.marks⟩
  | [], K, _, h => ⟨[], trivial, h, rfl, fun p hp => by cases hp⟩
  | x :: l, K, hl, h => by
    change castS x.2 (some (T.get x.1)) (fun v => castTS T l fun vs => K (v :: vs)) = some r at h
    obtain ⟨v, h1, h2, h3⟩ := castS_ok h
    obtain ⟨vs, h4, h5, h6, h7⟩ := castTS_ok hT (fun y hy => hl y (List.mem_cons_of_mem _ hy)) h2
    have hv : T.get x.1 = v := by cases h1; rfl
    have hx := hl x (List.mem_cons_self ..)
    have h8 : ((⟨ovl l vs, T.tr, T.marks⟩ : TS).put x.1 v).tr = T.tr := by
      rw [TS.tr_put, h6]
      exact TS.set_self hT hx hv h3.ne
    exact ⟨v :: vs, ⟨h3, h4⟩, h5, h8, TS.OK.put (T := ⟨ovl l vs, T.tr, T.marks⟩) h7 hx v⟩
end

/-- A function's text is sound. -/
def SndF (E : Env) (H : Pl → Prop) (g : Nat) (fv : List Value → Hp → Option (Value × Hp)) : Prop := ∀ args h v h1, fv args h = some (v, h1) → RunsH E H (.fn g) args h v h1
/-- A function that yields. -/
def SndI (E : Env) (g : Nat) (fv : Nat → (List Value → Hp → Option (Bool × Hp)) → List Value → Hp → Option (Value × Hp)) : Prop :=
  ∀ H, MonoH H → ∀ l Y (p : Pay), (∀ a h b h1, Y a h = some (b, h1) → RunsH E (fun pl => H pl ∧ pl l = some p) (.yield l) a h (.bool b) h1) → SndF E (fun pl => H pl ∧ pl l = some p) g (fv l Y)
theorem SndF.call {R : Type} {E : Env} {H : Pl → Prop} {g : Nat} {fv : List Value → Hp → Option (Value × Hp)} (hf : SndF E H g fv) {sh : List Sh} {args : List Value} {h : Hp} {K : Value → Hp → Option R} {r : R} (hk : call1 sh (fv args h) K = some r) :
    ∃ v h1, K v h1 = some r ∧ RunsH E H (.fn g) args h v h1 := by
  obtain ⟨p, h1, h2⟩ := bind_some' hk
  exact ⟨p.1, p.2, castR_ok h2, hf args h p.1 p.2 h1⟩
theorem ckN_some {R : Type} {a b : Nat} {x : Option R} {r : R} (h : ckN a b x = some r) : a = b ∧ x = some r := by
  unfold ckN at h
  split at h
  · exact ⟨‹_›, h⟩
  · cases h
theorem ty_nil {P : Prop} {vs : List Value} (h : TySL [] vs) (k : vs = [] → P) : P := by
  cases vs with
  | nil => exact k rfl
  | cons v vs => exact h.elim

theorem TySL_cons {x : Nat × Sh} {l : List (Nat × Sh)} {vs : List Value} (h : TySL (x :: l) vs) : ∃ v vs', vs = v :: vs' ∧ TyS x.2 v ∧ TySL l vs' := by
  cases vs with
  | nil => exact h.elim
  | cons v vs => exact ⟨v, vs, rfl, h.1, h.2⟩
theorem TySL_nil {vs : List Value} (h : TySL [] vs) : vs = [] := by
  cases vs with
  | nil => rfl
  | cons v vs => exact h.elim
theorem TyCL_cons {x : Ck} {l : List Ck} {vs : List Value} (h : TyCL (x :: l) vs) : ∃ v vs', vs = v :: vs' ∧ TyC x v ∧ TyCL l vs' := by
  cases vs with
  | nil => exact h.elim
  | cons v vs => exact ⟨v, vs, rfl, h.1, h.2⟩
theorem TyCL_nil {vs : List Value} (h : TyCL [] vs) : vs = [] := by
  cases vs with
  | nil => rfl
  | cons v vs => exact h.elim
def TyAL : List Sh → List Value → Prop
  | [], [] => True
  | s :: l, v :: vs => TyS s v ∧ TyAL l vs
  | _, _ => False
theorem TyAL_cons {x : Sh} {l : List Sh} {vs : List Value} (h : TyAL (x :: l) vs) : ∃ v vs', vs = v :: vs' ∧ TyS x v ∧ TyAL l vs' := by
  cases vs with
  | nil => exact h.elim
  | cons v vs => exact ⟨v, vs, rfl, h.1, h.2⟩
theorem TyAL_nil {vs : List Value} (h : TyAL [] vs) : vs = [] := by
  cases vs with
  | nil => rfl
  | cons v vs => exact h.elim
theorem castAL_ok {R : Type} {r : R} : ∀ {l : List Sh} {vs : List Value} {K : List Value → Option R}, castAL l vs K = some r → TyAL l vs ∧ K vs = some r
  | [], [], K, h => ⟨trivial, h⟩
  | [], _ :: _, K, h => by cases h
  | s :: l, [], K, h => by cases h
  | s :: l, v :: vs, K, h => by
    change castS s (some v) (fun v => castAL l vs fun vs => K (v :: vs)) = some r at h
    obtain ⟨x, h1, h2, h3⟩ := castS_ok h
    cases h1
    obtain ⟨h4, h5⟩ := castAL_ok h2
    exact ⟨⟨h3, h4⟩, h5⟩
theorem castTS_ty {R : Type} {r : R} {T : TS} : ∀ {l : List (Nat × Sh)} {K : List Value → Option R}, castTS T l K = some r → ∃ vs, TySL l vs ∧ K vs = some r
  | [], K, h => ⟨[], trivial, h⟩
  | x :: l, K, h => by
    change castS x.2 (some (T.get x.1)) (fun v => castTS T l fun vs => K (v :: vs)) = some r at h
    obtain ⟨v, h1, h2, h3⟩ := castS_ok h
    obtain ⟨vs, h4, h5⟩ := castTS_ty h2
    exact ⟨v :: vs, ⟨h3, h4⟩, h5⟩

noncomputable def denYAt (C : Ctx (Bool × Hp)) (todo : List LoopAt) (i : Nat) (T : TS) (l : Nat) (args : List Value) (h : Hp) : Option (Bool × Hp) :=
  match nth todo i with
  | some (.range ps a b) => denY C ps.toList a b T l args h
  | _ => none
noncomputable def rangeOK (todo : List LoopAt) (i : Nat) : Bool :=
  match nth todo i with
  | some (.range _ a b) => Nat.beq (nl a) 0 && Nat.beq (nl b) 0
  | _ => false
abbrev TblTy (R : Type) := Nat → CallTo → List Value → Hp → (Value → Hp → Option R) → Option R
abbrev ItTy (R : Type) := Nat → Nat → Nat → List Value → (List Value → Hp → Option (Bool × Hp)) → Hp → (Value → Hp → Option R) → Option R
noncomputable abbrev ctxY (E : Env) (N : Nat) (hint : Nat → Option (Nat × List Ck)) (tbl : TblTy (Bool × Hp)) (k : Nat) : Ctx (Bool × Hp) := ⟨E, N, hint, tbl k, fun _ _ _ _ _ _ => none, fun _ _ _ => none, fun _ _ _ _ _ => none⟩
noncomputable def smallL (l : List (Nat × Sh)) : Bool := List.rec (motive := fun _ => Bool) true (fun x _ r => Nat.ble x.1 65535 && r) l
theorem smallL_ok : ∀ {l : List (Nat × Sh)}, smallL l = true → ∀ x ∈ l, x.1 ≤ 65535
  | [], _, x, hx => by cases hx
  | y :: l, h, x, hx => by
    change (Nat.ble y.1 65535 && smallL l) = true at h
    rw [Bool.and_eq_true] at h
    cases hx with
    | head => exact Nat.le_of_ble_eq_true h.1
    | tail _ hx => exact smallL_ok h.2 x hx
/-- What is asked of each loop. -/
def LOK (C : Nat → Ctx (Value × Hp)) (CY : Nat → Ctx (Bool × Hp)) (F : Func) (todo : List LoopAt) (i : Nat) : LEnt → Prop
  | .lp shs w => smallL shs = true ∧ (∀ vs mk h, TySL shs vs → w 0 vs mk h = none) ∧ ∀ k vs mk h r, TySL shs vs → w (k + 1) vs mk h = some r → ∀ G, loopF' (C k) F pairK i ⟨ovl shs vs, G, mk⟩ h = some r
  | .yo shs y => smallL shs = true ∧ rangeOK todo i = true ∧ ∀ k vs l args h r, TySL shs vs → y k vs l args h = some r → ∀ G mk, denYAt (CY k) todo i ⟨ovl shs vs, G, mk⟩ l args h = some r

theorem fn_ok' {E : Env} {N g : Nat} {F : Func} {hint : Nat → Option (Nat × List Ck)} {H : Pl → Prop}
    {tbl : TblTy (Value × Hp)} {tblY : TblTy (Bool × Hp)} {itK : ItTy (Value × Hp)} {L : List LEnt}
    (hsn : E.sane g = false) (hg : E.fn g = some F) {body : Code} (hb : F.body = some body) (hH : MonoH H) (htbl : ∀ k, TblOK E H (tbl k)) (htblY : ∀ l p k, TblOK E (fun pl => H pl ∧ pl l = some p) (tblY k)) (hit : ∀ k, ItOK (ctx E N hint tbl itK (LPof L) (YOof L) k) H)
    (hL : ∀ i x, L[i]? = some x → LOK (ctx E N hint tbl itK (LPof L) (YOof L)) (ctxY E N hint tblY) F (todoC body []) i x)
    (k : Nat) {args : List Value} (hn : Nat.max args.length F.ntmps = N) {h h1 : Hp} {v : Value} (hk : denF (ctx E N hint tbl itK (LPof L) (YOof L) k) F args h pairK = some (v, h1)) : RunsH E H (.fn g) args h v h1 := by
  refine fn_ok hsn hg hb hH htbl hit ?_ ?_ ?_ k hn hk
  · intro k i ps a b hi T l args h c h1 d hT hy
    change YOof L k i T l args h = some (c, h1) at hy
    unfold YOof at hy
    rw [nth_eq] at hy
    cases hx : L[i]? with
    | none => rw [hx] at hy; cases hy
    | some x =>
      rw [hx] at hy
      cases x with
      | lp shs w => cases hy
      | yo shs y =>
        obtain ⟨q1, q2, q3⟩ := hL i _ hx
        obtain ⟨vs, p1, p2, p3, p4⟩ := castTS_ok hT (smallL_ok q1) hy
        have e := q3 k vs l args h (c, h1) p1 p2 T.tr T.marks
        unfold denYAt at e
        unfold rangeOK at q2
        rw [nth_eq, hi] at e q2
        simp only at e q2
        rw [Bool.and_eq_true] at q2
        have := round_ok (C := ctxY E N hint tblY k) (H := H) (fn := g) (d := d) hH (Nat.eq_of_beq_eq_true q2.1) (Nat.eq_of_beq_eq_true q2.2) p4 (htblY _ _ _) (fun _ _ _ _ _ _ _ hc => by cases hc) e
        rw [p3] at this
        exact this
  · intro i T h
    cases hv : LPof L 0 i T h with
    | none => rfl
    | some r =>
      exfalso
      unfold LPof at hv
      rw [nth_eq] at hv
      cases hx : L[i]? with
      | none => rw [hx] at hv; cases hv
      | some x =>
        rw [hx] at hv
        cases x with
        | yo shs y => cases hv
        | lp shs w =>
          obtain ⟨q1, q2, q3⟩ := hL i _ hx
          obtain ⟨vs, p1, p2⟩ := castTS_ty hv
          rw [q2 vs T.marks h p1] at p2; cases p2
  · intro k i T h r hT hv
    unfold LPof at hv
    rw [nth_eq] at hv
    cases hx : L[i]? with
    | none => rw [hx] at hv; cases hv
    | some x =>
      rw [hx] at hv
      cases x with
      | yo shs y => cases hv
      | lp shs w =>
        obtain ⟨q1, q2, q3⟩ := hL i _ hx
        obtain ⟨vs, p1, p2, p3, p4⟩ := castTS_ok hT (smallL_ok q1) hv
        exact ⟨⟨ovl shs vs, T.tr, T.marks⟩, p3, p4, rfl, q3 k vs T.marks h r p1 p2 _⟩
theorem all_of {P : Nat → LEnt → Prop} : ∀ (L : List LEnt) (j : Nat), (∀ n x, L[n]? = some x → P (j + n) x) → ∀ n x, L[n]? = some x → P (j + n) x := fun L j h => h
theorem LOK_nil {P : Nat → LEnt → Prop} : ∀ (i : Nat) x, ([] : List LEnt)[i]? = some x → P i x := fun i x h => by simp at h
theorem LOK_cons {P : Nat → LEnt → Prop} {y : LEnt} {L : List LEnt} (h0 : P 0 y) (h : ∀ (i : Nat) x, L[i]? = some x → P (i + 1) x) : ∀ (i : Nat) x, (y :: L)[i]? = some x → P i x := by
  intro i x hx
  cases i with
  | zero => simp at hx; subst hx; exact h0
  | succ i => exact h i x (by simpa using hx)
noncomputable def noTbl {R : Type} : TblTy R := fun _ _ _ _ _ => none
noncomputable def noIt {R : Type} : ItTy R := fun _ _ _ _ _ _ _ => none
theorem noTbl_ok {R : Type} {E : Env} {H : Pl → Prop} (k : Nat) : TblOK E H (noTbl (R := R) k) := fun _ _ _ _ _ h => by cases h
noncomputable def addF {R : Type} (g : Nat) (sh : List Sh) (fv : Nat → List Value → Hp → Option (Value × Hp)) (t : TblTy R) : TblTy R :=
  fun k c args h K => match c with
    | .fn g' => bc (Nat.beq g' g) (call1 sh (fv k args h) K) (t k (.fn g') args h K)
    | .yield l => t k (.yield l) args h K
theorem addF_ok {R : Type} {E : Env} {H : Pl → Prop} {g : Nat} {sh : List Sh} {fv : Nat → List Value → Hp → Option (Value × Hp)} {t : TblTy R} {k : Nat} (hf : SndF E H g (fv k)) (ht : TblOK E H (t k)) : TblOK E H (addF g sh fv t k) := by
  intro c args h K r hk
  cases c with
  | yield l => exact ht _ _ _ _ _ hk
  | fn g' =>
    change bc (Nat.beq g' g) (call1 sh (fv k args h) K) (t k (.fn g') args h K) = some r at hk
    cases hc : Nat.beq g' g with
    | false => rw [hc, bc_false] at hk; exact ht _ _ _ _ _ hk
    | true =>
      rw [hc, bc_true] at hk
      have := Nat.eq_of_beq_eq_true hc
      subst this
      exact hf.call hk
/-- The table of a function that yields. -/
noncomputable def addY {R : Type} (l : Nat) (Y : List Value → Hp → Option (Bool × Hp)) (t : TblTy R) : TblTy R :=
  fun k c args h K => match c with
    | .fn g' => t k (.fn g') args h K
    | .yield l' => callY l l' (Y args h) K
theorem addY_ok {R : Type} {E : Env} {H : Pl → Prop} {l : Nat} {Y : List Value → Hp → Option (Bool × Hp)} {t : TblTy R} {k : Nat} (hY : ∀ a h b h1, Y a h = some (b, h1) → RunsH E H (.yield l) a h (.bool b) h1) (ht : TblOK E H (t k)) : TblOK E H (addY l Y t k) := by
  intro c args h K r hk
  cases c with
  | fn g' => exact ht _ _ _ _ _ hk
  | yield l' =>
    change ckN l' l ((Y args h).bind fun p => K (.bool p.1) p.2) = some r at hk
    obtain ⟨e, hk2⟩ := ckN_some hk
    subst e
    obtain ⟨p, h1, h2⟩ := bind_some' hk2
    exact ⟨_, _, h2, hY args h p.1 p.2 h1⟩
noncomputable def addI {R : Type} (g : Nat) (sh : List Sh) (fv : Nat → Nat → (List Value → Hp → Option (Bool × Hp)) → List Value → Hp → Option (Value × Hp)) (t : ItTy R) : ItTy R :=
  fun k g' l args Y h K => bc (Nat.beq g' g) (call1 sh (fv k l Y args h) K) (t k g' l args Y h K)
theorem noIt_ok {E : Env} {N : Nat} {hint : Nat → Option (Nat × List Ck)} {H : Pl → Prop} {tbl : TblTy (Value × Hp)} {LP : Nat → Nat → TS → Hp → Option (Value × Hp)} {YO : Nat → Nat → TS → Nat → List Value → Hp → Option (Bool × Hp)} (k : Nat) : ItOK (ctx E N hint tbl noIt LP YO k) H :=
  fun _ _ _ _ _ _ _ h => by cases h
theorem addI_ok {E : Env} {N : Nat} {hint : Nat → Option (Nat × List Ck)} {H : Pl → Prop} (hH : MonoH H) {tbl : TblTy (Value × Hp)} {LP : Nat → Nat → TS → Hp → Option (Value × Hp)} {YO : Nat → Nat → TS → Nat → List Value → Hp → Option (Bool × Hp)} {k g : Nat} {sh : List Sh}
    {fv : Nat → Nat → (List Value → Hp → Option (Bool × Hp)) → List Value → Hp → Option (Value × Hp)} {t : ItTy (Value × Hp)} (hf : SndI E g (fv k)) (ht : ItOK (ctx E N hint tbl t LP YO k) H) : ItOK (ctx E N hint tbl (addI g sh fv t) LP YO k) H := by
  intro g' l args Y h K r hk p hY
  change bc (Nat.beq g' g) (call1 sh (fv k l Y args h) K) (t k g' l args Y h K) = some r at hk
  cases hc : Nat.beq g' g with
  | false => rw [hc, bc_false] at hk; exact ht _ _ _ _ _ _ _ hk p hY
  | true =>
    rw [hc, bc_true] at hk
    have := Nat.eq_of_beq_eq_true hc
    subst this
    exact SndF.call (hf H hH l Y p hY) hk
theorem MonoH.pay {H : Pl → Prop} (hH : MonoH H) (l : Nat) (p : Pay) : MonoH (fun pl => H pl ∧ pl l = some p) := fun a b hs h => ⟨hH a b hs h.1, hs _ _ h.2⟩
/-- The table's row of a function that is known to return true. -/
noncomputable def addO {R : Type} (g : Nat) (t : TblTy R) : TblTy R :=
  fun k c args h K => match c with
    | .fn g' => bc (Nat.beq g' g && args.isEmpty) (K (.bool true) h) (t k (.fn g') args h K)
    | .yield l => t k (.yield l) args h K
theorem addO_ok {R : Type} {E : Env} {H : Pl → Prop} {g : Nat} {t : TblTy R} {k : Nat} (hg : E.sane g = true) (ht : TblOK E H (t k)) : TblOK E H (addO g t k) := by
  intro c args h K r hk
  cases c with
  | yield l => exact ht _ _ _ _ _ hk
  | fn g' =>
    change bc (Nat.beq g' g && args.isEmpty) (K (.bool true) h) (t k (.fn g') args h K) = some r at hk
    cases hc : (Nat.beq g' g && args.isEmpty) with
    | false => rw [hc, bc_false] at hk; exact ht _ _ _ _ _ hk
    | true =>
      rw [hc, bc_true] at hk
      rw [Bool.and_eq_true] at hc
      have := Nat.eq_of_beq_eq_true hc.1
      subst this
      have := List.isEmpty_iff.1 hc.2
      subst this
      refine ⟨_, _, hk, fun pl m hp hF => ⟨1, m, pl, PSub.refl _, ?_, hF⟩⟩
      unfold aRun
      rw [hg]; rfl
end Go.Proofs.Ytgikimegikelkaa.Ab

/- From a law's call to the re-told functions and back: heaps, results with rounds enough, arguments. -/
import Derived.Test.YtgikimegikelkaaAbD
import Derived.Deep.Slices
import Derived.WideShapes
import Derived.IntWalk
import Derived.ChangeArms
import Derived.Carry
/- From the model's world to a heap that is read alone, and back: a law's call. -/
namespace Go.Proofs.Ytgikimegikelkaa.Ab
open Go Go.RowKit
set_option linter.unusedVariables false
set_option linter.unusedSimpArgs false
set_option linter.unusedSectionVars false

/-- The numbers and truths of a block of the world. -/
noncomputable def roOf (w : World) (b : Nat) : Nat → Option Value := fun i =>
  match w.cell? ⟨b, i, none⟩ with
  | some (.int k n) => some (.int k n)
  | some (.bool x) => some (.bool x)
  | _ => none
noncomputable def memOf (w : World) : Nat → Mem
  | 0 => ⟨.nil, 0⟩
  | n + 1 => (memOf w n).new (.ro (roOf w n))
theorem memOf_next (w : World) : ∀ n, (memOf w n).next = n
  | 0 => rfl
  | n + 1 => by rw [memOf, Mem.next_new, memOf_next w n]
theorem memOf_get (w : World) : ∀ n b, (memOf w n).get b = if b < n then some (.ro (roOf w b)) else none
  | 0, b => by simp [memOf, Mem.get, Tr.get_nil]
  | n + 1, b => by
    rw [memOf, Mem.get_new', memOf_next, memOf_get w n]
    by_cases c : b = n
    · subst c; simp
    · rw [if_neg c]
      by_cases c2 : b < n
      · rw [if_pos c2, if_pos (by omega)]
      · rw [if_neg c2, if_neg (by omega)]
noncomputable def hp0 (w : World) : Hp := ⟨fun b => if b < w.heap.size then some (.ro (roOf w b)) else none, w.heap.size⟩
def ren0 (w : World) : Ren := fun b => if b < w.heap.size then some ⟨b, 0, 0⟩ else none
theorem fill0 (w : World) : Fill (fun _ => none) (hp0 w) (memOf w w.heap.size) := by
  refine ⟨memOf_next _ _, fun b => ?_, fun b K hb hK => ?_, fun _ _ => rfl⟩
  · rw [memOf_get]
    show _ = (if b < w.heap.size then some (Blk.ro (roOf w b)) else none).map _
    by_cases c : b < w.heap.size
    · rw [if_pos c]; rfl
    · rw [if_neg c]; rfl
  · change (if b < w.heap.size then some (Blk.ro (roOf w b)) else none) = some K at hb
    split at hb
    · cases hb; exact absurd trivial hK
    · cases hb
theorem mr0 (w : World) : MR (ren0 w) (memOf w w.heap.size) w := by
  refine ⟨fun b K hb hK => ?_, fun b b' K K' l l' hb hK hb' hK' h1 h2 h3 => ?_⟩
  · rw [memOf_get] at hb
    split at hb
    · rename_i c
      cases hb
      refine ⟨⟨b, 0, 0⟩, if_pos c, c, fun i v hv => ?_⟩
      unfold roOf at hv
      split at hv
      · rename_i k n hc
        cases hv
        exact ⟨rfl, _, by rw [Nat.zero_add]; exact hc, .int k n⟩
      · rename_i x hc
        cases hv
        exact ⟨rfl, _, by rw [Nat.zero_add]; exact hc, .bool x⟩
      · cases hv
    · cases hb
  · unfold ren0 at h1 h2
    split at h1
    · split at h2
      · cases h1; cases h2; exact h3
      · cases h2
    · cases h1
theorem fresh0 (w : World) : Fresh (memOf w w.heap.size) := by
  intro b K hb
  rw [memOf_get] at hb
  split at hb
  · rename_i c; exact ⟨by rw [memOf_next]; exact c, Nat.lt_two_pow_self⟩
  · cases hb

/-- A law's call returns true, and old memory is as it was. -/
theorem top_true {E : Env} {P : Program} {g : Nat} {fv : List Value → Hp → Option (Value × Hp)} (hf : SndF E (fun _ => True) g fv) (w : World) (hE : EnvOK E P) {args : List Value} {args' : Array Value} (hv : VRL (ren0 w) args args'.toList)
    {h1 : Hp} (hr : fv args (hp0 w) = some (.bool true, h1)) : Calls P g args' w (fun e w1 => e = .returned (.bool true) ∧ Below w.heap.size w w1) := by
  obtain ⟨n, m1, pl1, _, h2, _⟩ := hf args (hp0 w) _ _ hr (fun _ => none) (memOf w w.heap.size) trivial (fill0 w)
  obtain ⟨_, h3⟩ := (aRun_ok hE n).ok.fn g args _ _ _ h2
  have h4 := h3 (ren0 w) w args' (mr0 w) (fresh0 w) hv (fun b hb _ => by rw [memOf_next] at hb; exact if_neg (by omega))
  refine Calls.mono h4 ?_
  rintro e w1 ⟨v', ρ1, rfl, q1, q2⟩
  cases q1
  refine ⟨rfl, ?_⟩
  have hno : ∀ k, ¬ Im (ren0 w) (memOf w w.heap.size) k := by
    rintro k ⟨b, K, l, hb, hK, _⟩
    rw [memOf_get] at hb
    split at hb
    · cases hb; exact hK
    · cases hb
  exact ⟨q2.fr.os, q2.fr.tape, q2.fr.output, q2.fr.size, fun k hk => q2.fr.unch k hk (hno k)⟩

/-- An argument that is a slice. -/
def ArgS (w : World) (A : Option Addr) (n c : Nat) : Prop := (A = none ∧ n = 0 ∧ c = 0) ∨ ∃ b o, A = some ⟨b, o, none⟩ ∧ b < w.heap.size ∧ n ≤ c
theorem ArgS.vr {w : World} {A : Option Addr} {n c : Nat} (h : ArgS w A n c) : VR (ren0 w) (.slice A n c) (.slice A n c) := by
  rcases h with ⟨rfl, rfl, rfl⟩ | ⟨b, o, rfl, hb, hn⟩
  · exact .snil 0 0
  · have := VR.slc (ρ := ren0 w) b o n c ⟨b, 0, 0⟩ (if_pos hb)
    simpa using this
theorem ArgS.of {P : Program} {w : World} {base : Nat} {t e : TypeId} {A : Option Addr} {n c : Nat} (ht : P.underlying t = some (.slice e)) (h : Cell.okWide P w .any base t (.slice A n c)) : ArgS w A n c := by
  simp only [Cell.okWide, ht] at h
  unfold Cell.ok at h
  rw [ht] at h
  cases A with
  | none =>
    cases n with
    | zero => cases c with
      | zero => exact .inl ⟨rfl, rfl, rfl⟩
      | succ c => exact h.elim
    | succ n => exact h.elim
  | some a =>
    obtain ⟨h1, h2, h3⟩ := h
    obtain ⟨_, h4, row, cells, h5, _⟩ := h3
    obtain ⟨b, o, sp⟩ := a
    cases h4
    refine .inr ⟨b, o, rfl, ?_, h1⟩
    unfold World.shape? at h5
    split at h5
    · rename_i hc; exact (Array.getElem?_eq_some_iff.1 hc).1
    · cases h5
end Go.Proofs.Ytgikimegikelkaa.Ab
/- What printed functions come to: rounds enough, heaps that only grow. -/
namespace Go.Proofs.Ytgikimegikelkaa.Ab
open Go
set_option linter.unusedVariables false
set_option linter.unusedSimpArgs false

/-- With rounds enough, F tells something of which Q holds. -/
def Ev {α : Type} (F : Nat → Option α) (Q : α → Prop) : Prop := ∃ a, Q a ∧ ∃ K, ∀ k, K ≤ k → F k = some a
section
variable {α β : Type}
theorem Ev.ret {a : α} {Q : α → Prop} (h : Q a) : Ev (fun _ => some a) Q := ⟨a, h, 0, fun _ _ => rfl⟩
theorem Ev.mono {F : Nat → Option α} {Q Q' : α → Prop} (h : Ev F Q) (hq : ∀ a, Q a → Q' a) : Ev F Q' := let ⟨a, h1, h2⟩ := h; ⟨a, hq a h1, h2⟩
theorem Ev.bind {F : Nat → Option α} {G : Nat → α → Option β} {Q : α → Prop} {R : β → Prop} (h : Ev F Q) (hg : ∀ a, Q a → Ev (fun k => G k a) R) : Ev (fun k => (F k).bind (G k)) R := by
  obtain ⟨a, h1, K, h2⟩ := h
  obtain ⟨b, h3, K', h4⟩ := hg a h1
  exact ⟨b, h3, max K K', fun k hk => by show (F k).bind (G k) = _; rw [h2 k (by omega)]; exact h4 k (by omega)⟩
theorem Ev.shift {F : Nat → Option α} {Q : α → Prop} (h : Ev (fun k => F (k + 1)) Q) : Ev F Q := by
  obtain ⟨a, h1, K, h2⟩ := h
  refine ⟨a, h1, K + 1, fun k hk => ?_⟩
  obtain ⟨k', rfl⟩ : ∃ k', k = k' + 1 := ⟨k - 1, by omega⟩
  exact h2 k' (by omega)
theorem Ev.congr {F F' : Nat → Option α} {Q : α → Prop} (e : ∀ k, F' k = F k) (h : Ev F Q) : Ev F' Q := by
  obtain ⟨a, h1, K, h2⟩ := h
  exact ⟨a, h1, K, fun k hk => (e k).trans (h2 k hk)⟩
theorem Ev.get {F : Nat → Option α} {Q : α → Prop} (h : Ev F Q) : ∃ k a, F k = some a ∧ Q a := let ⟨a, h1, K, h2⟩ := h; ⟨K, a, h2 K (Nat.le_refl _), h1⟩
end

theorem Ev.pos {α : Type} {c : Bool} {F G : Nat → Option α} {Q : α → Prop} (hc : c = true) (h : Ev F Q) : Ev (fun k => bc c (F k) (G k)) Q := by subst hc; exact h
theorem Ev.neg {α : Type} {c : Bool} {F G : Nat → Option α} {Q : α → Prop} (hc : c = false) (h : Ev G Q) : Ev (fun k => bc c (F k) (G k)) Q := by subst hc; exact h
theorem Ev.split {α : Type} {c : Bool} {F G : Nat → Option α} {Q : α → Prop} (h1 : c = true → Ev F Q) (h2 : c = false → Ev G Q) : Ev (fun k => bc c (F k) (G k)) Q := by
  cases c with
  | true => exact h1 rfl
  | false => exact h2 rfl
theorem Ev.ck {α : Type} {c : Bool} {F : Nat → Option α} {Q : α → Prop} (hc : c = true) (h : Ev F Q) : Ev (fun k => ckB c (F k)) Q := by subst hc; exact h

/-! ### Words that simp turns -/
theorem lt_eq {α R : Type} (x : α) (f : α → Option R) : lt x f = f x := rfl
theorem bc_dec {R : Type} (p : Prop) [Decidable p] (x y : R) : bc (decide p) x y = if p then x else y := by by_cases h : p <;> simp [h, bc]
theorem bc_eq {R : Type} (c : Bool) (x y : R) : bc c x y = if c = true then x else y := by cases c <;> rfl
theorem ckB_eq {R : Type} (c : Bool) (x : Option R) : ckB c x = if c = true then x else none := by cases c <;> rfl
theorem ckN_self {R : Type} (a : Nat) (x : Option R) : ckN a a x = x := by simp [ckN]
theorem ckE_self {R : Type} (a : Option Blk) (x : Option R) : ckE a a x = x := by simp [ckE]
theorem ckE_pos {R : Type} {a b : Option Blk} (h : a = b) (x : Option R) : ckE a b x = x := by simp [ckE, h]
theorem ble_iff (a b : Nat) : (Nat.ble (a + 1) b = true) = (a < b) := by simp [Nat.ble_eq, Nat.succ_le_iff]
theorem asI_int (x : Int) : asI .i64 (some (.int .i64 x)) = some x := rfl
theorem asB_bool (x : Bool) : asB (some (.bool x)) = some x := rfl
theorem asP_ptr (b o : Nat) : asP (some (.pointer (some ⟨b, o, none⟩))) = some (b, o) := rfl
/-- A slice's address is plain. -/
def Pla : Option Addr → Prop
  | some ⟨_, _, some _⟩ => False
  | _ => True
theorem asS_slc {a : Option Addr} {n c : Nat} (h : Pla a) : asS (some (.slice a n c)) = some ⟨a, n, c⟩ := by
  cases a with
  | none => rfl
  | some a => obtain ⟨b, o, s⟩ := a; cases s with
    | none => rfl
    | some s => exact h.elim
theorem asS0_slc (a : Option Addr) (n c : Nat) : asS0 (some (.slice a n c)) = some ⟨a, n, c⟩ := rfl
theorem asM_map (b : Nat) : asM (some (.map (some b))) = some b := rfl
theorem w64_id {x : Int} (h1 : -9223372036854775808 ≤ x) (h2 : x < 9223372036854775808) : w64 x = x := Go.IntWalk.i64_in x ⟨h1, by omega⟩
theorem w64_succ {i n : Nat} (h : i < n) (hn : n ≤ 1152921504606846976) : w64 ((i : Int) + 1) = ((i + 1 : Nat) : Int) := by rw [w64_id (by omega) (by omega)]; rfl
theorem takeM_nil (h : Hp) : takeM h [] = some h := rfl

/-! ### Heaps that grow -/
structure Ext (h h1 : Hp) : Prop where
  next : h.next ≤ h1.next
  old : ∀ b, b < h.next → h1.g b = h.g b
theorem Ext.refl (h : Hp) : Ext h h := ⟨Nat.le_refl _, fun _ _ => rfl⟩
theorem Ext.trans {a b c : Hp} (h : Ext a b) (k : Ext b c) : Ext a c := ⟨Nat.le_trans h.next k.next, fun x hx => (k.old x (Nat.lt_of_lt_of_le hx h.next)).trans (h.old x hx)⟩
theorem Ext.new (h : Hp) (K : Blk) : Ext h (h.new K) := ⟨Nat.le_succ _, fun b hb => if_neg (by omega)⟩
theorem Ext.new' {a h : Hp} (e : Ext a h) (K : Blk) : Ext a (h.new K) := e.trans (Ext.new h K)
theorem Ext.rd {h h1 : Hp} (e : Ext h h1) {b : Nat} (hb : b < h.next) (o : Nat) : rd h1 b o = rd h b o := by unfold Go.Proofs.Ytgikimegikelkaa.Ab.rd; rw [e.old b hb]
theorem new_next (h : Hp) (K : Blk) : (h.new K).next = h.next + 1 := rfl
theorem set_next (h : Hp) (b : Nat) (K : Blk) : (h.set b K).next = h.next := rfl
theorem new_g (h : Hp) (K : Blk) : (h.new K).g h.next = some K := if_pos rfl
theorem new_g_old {h : Hp} {b : Nat} (K : Blk) (hb : b < h.next) : (h.new K).g b = h.g b := if_neg (by omega)
theorem set_g (h : Hp) (b : Nat) (K : Blk) : (h.set b K).g b = some K := if_pos rfl
theorem set_g_ne {h : Hp} {b x : Nat} (K : Blk) (hb : x ≠ b) : (h.set b K).g x = h.g x := if_neg hb
theorem rd_new (h : Hp) (sz : Nat) (l : List Value) (o : Nat) : rd (h.new (.row sz l)) h.next o = l[o]? := by unfold rd; rw [new_g]; exact nth_eq l o
theorem rd_new_old {h : Hp} {b : Nat} (K : Blk) (hb : b < h.next) (o : Nat) : rd (h.new K) b o = rd h b o := by unfold rd; rw [new_g_old K hb]
theorem putN_all {α : Type} : ∀ (l vs : List α), l.length = vs.length → putN l 0 vs = some vs
  | [], [], _ => rfl
  | x :: l, v :: vs, h => by rw [putN_cons_zero, putN_all l vs (by simpa using h)]; rfl
  | [], _ :: _, h => by simp at h
  | _ :: _, [], h => by simp at h
theorem set_new (h : Hp) (K K' : Blk) : (h.new K).set h.next K' = h.new K' := by
  unfold Hp.set Hp.new
  congr 1
  funext x
  by_cases c : x = h.next <;> simp [c]
theorem new_wr {R : Type} (h : Hp) (sz : Nat) (l vs : List Value) (hl : l.length = vs.length) (G : Hp → Option R) : ((wr (h.new (.row sz l)) h.next 0 vs).bind G) = G (h.new (.row sz vs)) := by
  unfold wr
  rw [new_g]
  simp only [putN_all l vs hl, set_new, Option.bind_some]

/-! ### Slices of numbers -/
structure Arc where
  f : Int
  t : Int
  cap : Int
  cost : Int
def arcAt (l : List Arc) (x : Int) : Arc := l.getD x.toNat ⟨0, 0, 0, 0⟩
def intAt (l : List Int) (x : Int) : Int := l.getD x.toNat 0
def boolAt (l : List Bool) (x : Int) : Bool := l.getD x.toNat false
/-- A slice reads as a list of numbers. -/
def Ints (h : Hp) (a : Option Addr) (l : List Int) : Prop := Pla a ∧ ∀ i x, l[i]? = some x → ∃ b o, a = some ⟨b, o, none⟩ ∧ b < h.next ∧ rd h b (o + i * 1) = some (.int .i64 x)
def Bools (h : Hp) (a : Option Addr) (l : List Bool) : Prop := Pla a ∧ ∀ i x, l[i]? = some x → ∃ b o, a = some ⟨b, o, none⟩ ∧ b < h.next ∧ rd h b (o + i * 1) = some (.bool x)
def Arcs (h : Hp) (a : Option Addr) (l : List Arc) : Prop := Pla a ∧ ∀ i x, l[i]? = some x → ∃ b o, a = some ⟨b, o, none⟩ ∧ b < h.next ∧ rd h b (o + i * 4) = some (.int .i64 x.f) ∧ rd h b (o + i * 4 + 1) = some (.int .i64 x.t) ∧ rd h b (o + i * 4 + 2) = some (.int .i64 x.cap) ∧ rd h b (o + i * 4 + 3) = some (.int .i64 x.cost)
theorem Ints.ext {h h1 : Hp} (e : Ext h h1) {a : Option Addr} {l : List Int} (hl : Ints h a l) : Ints h1 a l := ⟨hl.1, fun i x hx => let ⟨b, o, h1, h2, h3⟩ := hl.2 i x hx; ⟨b, o, h1, Nat.lt_of_lt_of_le h2 e.next, (e.rd h2 _).trans h3⟩⟩
theorem Bools.ext {h h1 : Hp} (e : Ext h h1) {a : Option Addr} {l : List Bool} (hl : Bools h a l) : Bools h1 a l := ⟨hl.1, fun i x hx => let ⟨b, o, h1, h2, h3⟩ := hl.2 i x hx; ⟨b, o, h1, Nat.lt_of_lt_of_le h2 e.next, (e.rd h2 _).trans h3⟩⟩
theorem Arcs.ext {h h1 : Hp} (e : Ext h h1) {a : Option Addr} {l : List Arc} (hl : Arcs h a l) : Arcs h1 a l := ⟨hl.1, fun i x hx => let ⟨b, o, h1, h2, h3, h4, h5, h6⟩ := hl.2 i x hx; ⟨b, o, h1, Nat.lt_of_lt_of_le h2 e.next, (e.rd h2 _).trans h3, (e.rd h2 _).trans h4, (e.rd h2 _).trans h5, (e.rd h2 _).trans h6⟩⟩
theorem ixA_in {b o n sz : Nat} {x : Int} (h0 : 0 ≤ x) (h : x < n) : ixA (some ⟨b, o, none⟩) n sz x = some (b, o + x.toNat * sz) := by
  unfold ixA
  simp [h0, h]
theorem Ints.ix {h : Hp} {a : Option Addr} {l : List Int} (hl : Ints h a l) {x : Int} {n : Nat} (hn : n = l.length) (h0 : 0 ≤ x) (hx : x < n) : ∃ b p, ixA a n 1 x = some (b, p) ∧ b < h.next ∧ rd h b p = some (.int .i64 (intAt l x)) := by
  obtain ⟨b, o, rfl, h2, h3⟩ := hl.2 x.toNat (intAt l x) (by unfold intAt; rw [List.getD_eq_getElem?_getD, List.getElem?_eq_getElem (by omega)]; rfl)
  exact ⟨b, _, ixA_in h0 hx, h2, h3⟩
theorem Bools.ix {h : Hp} {a : Option Addr} {l : List Bool} (hl : Bools h a l) {x : Int} {n : Nat} (hn : n = l.length) (h0 : 0 ≤ x) (hx : x < n) : ∃ b p, ixA a n 1 x = some (b, p) ∧ b < h.next ∧ rd h b p = some (.bool (boolAt l x)) := by
  obtain ⟨b, o, rfl, h2, h3⟩ := hl.2 x.toNat (boolAt l x) (by unfold boolAt; rw [List.getD_eq_getElem?_getD, List.getElem?_eq_getElem (by omega)]; rfl)
  exact ⟨b, _, ixA_in h0 hx, h2, h3⟩
theorem Arcs.ix {h : Hp} {a : Option Addr} {l : List Arc} (hl : Arcs h a l) {x : Int} {n : Nat} (hn : n = l.length) (h0 : 0 ≤ x) (hx : x < n) : ∃ b p, ixA a n 4 x = some (b, p) ∧ b < h.next ∧ rd h b p = some (.int .i64 (arcAt l x).f) ∧ rd h b (p + 1) = some (.int .i64 (arcAt l x).t) ∧ rd h b (p + 2) = some (.int .i64 (arcAt l x).cap) ∧ rd h b (p + 3) = some (.int .i64 (arcAt l x).cost) := by
  obtain ⟨b, o, rfl, h2, h3⟩ := hl.2 x.toNat (arcAt l x) (by unfold arcAt; rw [List.getD_eq_getElem?_getD, List.getElem?_eq_getElem (by omega)]; rfl)
  exact ⟨b, _, ixA_in h0 hx, h2, h3⟩
theorem arcAt_nat (l : List Arc) (i : Nat) (h : i < l.length) : arcAt l i = l[i] := by unfold arcAt; simp [List.getD_eq_getElem?_getD, h]
theorem intAt_nat (l : List Int) (i : Nat) (h : i < l.length) : intAt l i = l[i] := by unfold intAt; simp [List.getD_eq_getElem?_getD, h]
theorem boolAt_nat (l : List Bool) (i : Nat) (h : i < l.length) : boolAt l i = l[i] := by unfold boolAt; simp [List.getD_eq_getElem?_getD, h]
/-- A network in a box. -/
structure NetB (h : Hp) (b o : Nat) (n : Int) (a : Option Addr) (c : Nat) (l : List Arc) : Prop where
  lt : b < h.next
  n : rd h b o = some (.int .i64 n)
  s : rd h b (o + 1) = some (.slice a l.length c)
  arcs : Arcs h a l
theorem NetB.ext {h h1 : Hp} (e : Ext h h1) {b o : Nat} {n : Int} {a : Option Addr} {c : Nat} {l : List Arc} (k : NetB h b o n a c l) : NetB h1 b o n a c l := ⟨Nat.lt_of_lt_of_le k.lt e.next, (e.rd k.lt _).trans k.n, (e.rd k.lt _).trans k.s, k.arcs.ext e⟩
theorem NetB.new {h : Hp} {a : Option Addr} {l : List Arc} (ha : Arcs h a l) (n : Int) (c : Nat) : NetB (h.new (.row 0 [.int .i64 n, .slice a l.length c])) h.next 0 n a c l :=
  ⟨Nat.lt_succ_self _, rd_new _ _ _ _, rd_new _ _ _ _, ha.ext (Ext.new _ _)⟩
end Go.Proofs.Ytgikimegikelkaa.Ab
/- How a law's arguments read: from the row's reading to the heap that is read alone. -/
namespace Go.Proofs.Ytgikimegikelkaa.Ab
open Go Go.RowKit Go.ChangeShapes Go.WideShapes
set_option linter.all false

/-- Are all fields of a struct numbers, one cell each? -/
noncomputable def flatI (P : Program) : List Field → Nat → Bool
  | [], _ => true
  | f :: l, i => (match P.underlying f.type with | some (.int .i64) => true | _ => false) && Nat.beq f.offset i && Nat.beq (P.cellsOf f.type) 1 && flatI P l (i + 1)
theorem flatI_get {P : Program} : ∀ (l : List Field) (j i : Nat) (f : Field), flatI P l j = true → l[i]? = some f → P.underlying f.type = some (.int .i64) ∧ f.offset = j + i ∧ P.cellsOf f.type = 1
  | [], j, i, f, h, hi => by simp at hi
  | g :: l, j, i, f, h, hi => by
    simp only [flatI, Bool.and_eq_true] at h
    obtain ⟨⟨⟨h1, h2⟩, h3⟩, h4⟩ := h
    cases i with
    | zero =>
      simp at hi; subst hi
      refine ⟨?_, by rw [Nat.eq_of_beq_eq_true h2]; rfl, Nat.eq_of_beq_eq_true h3⟩
      split at h1
      · assumption
      · cases h1
    | succ i =>
      obtain ⟨q1, q2, q3⟩ := flatI_get l (j + 1) i f h4 (by simpa using hi)
      exact ⟨q1, by rw [q2]; omega, q3⟩
def IsInts (cs : List Value) (zs : List Int) : Prop := cs = zs.map (fun z => Value.int .i64 z)

section
variable {H : Type} {enc : TypeId × Value → H} {P : Program} {w : World} {spare : Nat → Bool} {held : Bool}
theorem choose_list {α : Type} {p : Nat → α → Prop} : ∀ (n : Nat), (∀ i, i < n → ∃ a, p i a) → ∃ l : List α, l.length = n ∧ ∀ i a, l[i]? = some a → p i a
  | 0, _ => ⟨[], rfl, fun i a h => by simp at h⟩
  | n + 1, h => by
    obtain ⟨l, h1, h2⟩ := choose_list n (fun i hi => h i (by omega))
    obtain ⟨a, ha⟩ := h n (by omega)
    refine ⟨l ++ [a], by simp [h1], fun i b hb => ?_⟩
    by_cases c : i < l.length
    · rw [List.getElem?_append_left c] at hb; exact h2 i b hb
    · rw [List.getElem?_append_right (by omega)] at hb
      have hi : i - l.length = 0 := by have := (List.getElem?_eq_some_iff.1 hb).1; simp at this; omega
      rw [hi] at hb; simp at hb; subst hb
      have : i = n := by omega
      subst this; exact ha
theorem ints_read {t : TypeId} {fs : Array Field} (ht : P.underlying t = some (.struct fs)) (hall : flatI P fs.toList 0 = true) (hc : P.cellsOf t = fs.size) {n : Nat} {cs : List Value} {x : DataW H × List MemPlace} (h : DataW.trod enc P w 0 spare held n t cs = some x) :
    ∃ zs : List Int, zs.length = fs.size ∧ IsInts cs zs := by
  obtain ⟨xs, m, _, _, hl, hlen, hf⟩ := DataW.trod_struct ht h
  have key : ∀ i, i < fs.size → ∃ z : Int, cs[i]? = some (.int .i64 z) := by
    intro i hi
    have hfi : fs[i]? = some fs[i] := Array.getElem?_eq_getElem hi
    obtain ⟨q1, q2, q3⟩ := flatI_get fs.toList 0 i fs[i] hall (by simpa using hfi)
    have := hf i _ hfi
    rw [q2, q3, Nat.zero_add, List.getElem?_eq_getElem (by omega)] at this
    obtain ⟨z, hz, _⟩ := DataW.trod_int q1 this
    refine ⟨z, ?_⟩
    have h0 : ((cs.drop i).take 1)[0]? = some (.int .i64 z) := by rw [hz]; rfl
    rw [List.getElem?_take, if_pos (by omega), List.getElem?_drop] at h0
    simpa using h0
  obtain ⟨zs, h1, h2⟩ := choose_list fs.size key
  refine ⟨zs, h1, List.ext_getElem? fun i => ?_⟩
  rw [List.getElem?_map]
  cases hz : zs[i]? with
  | none => rw [List.getElem?_eq_none_iff] at hz; rw [List.getElem?_eq_none_iff.2 (by omega)]; rfl
  | some z => rw [h2 i z hz]; rfl
theorem int_read {t : TypeId} (ht : P.underlying t = some (.int .i64)) {n : Nat} {cs : List Value} {x : DataW H × List MemPlace} (h : DataW.trod enc P w 0 spare held n t cs = some x) : ∃ zs : List Int, zs.length = 1 ∧ IsInts cs zs := by
  obtain ⟨z, hz, _⟩ := DataW.trod_int ht h
  exact ⟨[z], rfl, hz⟩

/-- A slice reads as a list of rows of numbers. -/
def RowI (h : Hp) (a : Option Addr) (sz : Nat) (l : List (List Int)) : Prop := Pla a ∧ ∀ i zs, l[i]? = some zs → zs.length = sz ∧ ∃ b o, a = some ⟨b, o, none⟩ ∧ b < h.next ∧ ∀ j z, zs[j]? = some z → rd h b (o + i * sz + j) = some (.int .i64 z)
theorem ArgS.pla {A : Option Addr} {n c : Nat} (h : ArgS w A n c) : Pla A := by
  rcases h with ⟨rfl, _⟩ | ⟨b, o, rfl, _⟩ <;> trivial
theorem rd0 {b o : Nat} {k : IntKind} {z : Int} (h : w.cell? ⟨b, o, none⟩ = some (.int k z)) : rd (hp0 w) b o = some (.int k z) := by
  have hb : b < w.heap.size := by
    unfold World.cell? at h
    split at h
    · rename_i hc; exact (Array.getElem?_eq_some_iff.1 hc).1
    · cases h
  have e : (hp0 w).g b = some (.ro (roOf w b)) := if_pos hb
  unfold rd
  rw [e]
  show roOf w b o = _
  unfold roOf
  rw [h]
theorem rd0b {b o : Nat} {z : Bool} (h : w.cell? ⟨b, o, none⟩ = some (.bool z)) : rd (hp0 w) b o = some (.bool z) := by
  have hb : b < w.heap.size := by
    unfold World.cell? at h
    split at h
    · rename_i hc; exact (Array.getElem?_eq_some_iff.1 hc).1
    · cases h
  have e : (hp0 w).g b = some (.ro (roOf w b)) := if_pos hb
  unfold rd
  rw [e]
  show roOf w b o = _
  unfold roOf
  rw [h]
theorem rows_read {t e : TypeId} {sz : Nat} (ht : P.underlying t = some (.slice e)) (hsz : P.cellsOf e = sz)
    (he : ∀ n cs x, DataW.trod enc P w 0 spare held n e cs = some x → ∃ zs : List Int, zs.length = sz ∧ IsInts cs zs) {A : Option Addr} {len cap fuel : Nat} {x : DataW H × List MemPlace} (hok : ArgS w A len cap) (h : DataW.trod enc P w 0 spare held fuel t [.slice A len cap] = some x) :
    ∃ l : List (List Int), l.length = len ∧ RowI (hp0 w) A sz l ∧ len ≤ maxLen := by
  rcases Go.Deep.open_slice ht h with ⟨hcs, _⟩ | ⟨a, len', cap', m, n, D, Pl, hcs, _, hl, hm, hmm, _, hx⟩
  · simp at hcs
    obtain ⟨rfl, rfl, rfl⟩ := hcs
    exact ⟨[], rfl, ⟨trivial, fun i zs h => by simp at h⟩, Nat.zero_le _⟩
  · simp at hcs
    obtain ⟨rfl, rfl, rfl⟩ := hcs
    rcases hok with ⟨h0, _⟩ | ⟨b, o, ha, hb, hn⟩
    · cases h0
    cases ha
    have hlm : len ≤ m := by rw [hmm]; split <;> omega
    obtain ⟨l, h1, h2⟩ := choose_list (p := fun i (zs : List Int) => zs.length = sz ∧ ∀ j z, zs[j]? = some z → w.cell? ⟨b, o + i * sz + j, none⟩ = some (.int .i64 z)) len (fun i hi => by
      obtain ⟨cs', h3, h4⟩ := hx i (by omega)
      obtain ⟨zs, h5, h6⟩ := he n cs' _ h4
      refine ⟨zs, h5, fun j z hz => ?_⟩
      obtain ⟨_, h7, h8⟩ := World.cells?_some h3
      have hj : j < sz := by rw [← h5]; exact (List.getElem?_eq_some_iff.1 hz).1
      have h9 := h8 j (by omega)
      rw [hsz, add_loc, add_loc] at h9
      rw [h9, h6, List.getElem?_map, hz]; rfl)
    refine ⟨l, h1, ⟨trivial, fun i zs hz => ?_⟩, by omega⟩
    obtain ⟨q1, q2⟩ := h2 i zs hz
    exact ⟨q1, b, o, rfl, hb, fun j z hj => rd0 (q2 j z hj)⟩

theorem okWide_row {t : TypeId} {fs : Array Field} {ts : List TypeId} {base : Nat} {v : Value} (ht : P.underlying t = some (.struct fs)) (hts : P.cellTypes P.depth t = some ts) (h : Value.okWide P w .any base t v) :
    ∃ cs : Array Value, v = .agg cs ∧ cs.size = P.cellsOf t ∧ ∀ i c u, cs[i]? = some c → ts[i % ts.length]? = some u → Cell.okWide P w .any base u c := by
  simp only [Value.okWide, ht] at h
  obtain ⟨cs, rfl, h1, ts', h2, _, h3⟩ := h
  rw [hts] at h2; cases h2
  refine ⟨cs, rfl, h1, fun i c u hc hu => ?_⟩
  obtain ⟨u', h4, h5⟩ := h3 i c hc
  rw [hu] at h4; cases h4
  exact h5
theorem okWide_cell {t e : TypeId} {base : Nat} {v : Value} (ht : P.underlying t = some (.slice e)) (h : Value.okWide P w .any base t v) : Cell.okWide P w .any base t v := by
  simpa only [Value.okWide, ht] using h
theorem okc_int {t : TypeId} {base : Nat} {c : Value} (ht : P.underlying t = some (.int .i64)) (h : Cell.okWide P w .any base t c) : ∃ z, c = .int .i64 z := by
  simp only [Cell.okWide, ht] at h
  cases c <;> simp_all [Cell.ok]
theorem okc_slice {t e : TypeId} {base : Nat} {c : Value} (ht : P.underlying t = some (.slice e)) (h : Cell.okWide P w .any base t c) : ∃ a n k, c = .slice a n k := by
  simp only [Cell.okWide, ht] at h
  cases c <;> simp_all [Cell.ok]
end

theorem RowI.arcs {h : Hp} {a : Option Addr} {l : List (List Int)} (hl : RowI h a 4 l) : ∃ l' : List Arc, l'.length = l.length ∧ Arcs h a l' := by
  refine ⟨l.map fun zs => ⟨zs.getD 0 0, zs.getD 1 0, zs.getD 2 0, zs.getD 3 0⟩, by simp, hl.1, fun i x hx => ?_⟩
  rw [List.getElem?_map] at hx
  cases hz : l[i]? with
  | none => rw [hz] at hx; cases hx
  | some zs =>
    rw [hz] at hx; cases hx
    obtain ⟨h1, b, o, h2, h3, h4⟩ := hl.2 i zs hz
    match zs, h1 with
    | [z0, z1, z2, z3], _ => exact ⟨b, o, h2, h3, h4 0 z0 rfl, h4 1 z1 rfl, h4 2 z2 rfl, h4 3 z3 rfl⟩
theorem RowI.ints {h : Hp} {a : Option Addr} {l : List (List Int)} (hl : RowI h a 1 l) : ∃ l' : List Int, l'.length = l.length ∧ Ints h a l' := by
  refine ⟨l.map fun zs => zs.getD 0 0, by simp, hl.1, fun i x hx => ?_⟩
  rw [List.getElem?_map] at hx
  cases hz : l[i]? with
  | none => rw [hz] at hx; cases hx
  | some zs =>
    rw [hz] at hx; cases hx
    obtain ⟨h1, b, o, h2, h3, h4⟩ := hl.2 i zs hz
    match zs, h1 with
    | [z0], _ => exact ⟨b, o, h2, h3, h4 0 z0 rfl⟩
end Go.Proofs.Ytgikimegikelkaa.Ab

/- What printed functions come to: rounds enough, heaps that only grow. -/
import Derived.Test.YtgikimegikelkaaAbTop
import Derived.IntWalk
namespace Go.Proofs.Ytgikimegikelkaa.Ab
open Go
set_option linter.unusedVariables false
set_option linter.unusedSimpArgs false

/-- With rounds enough, F tells something of which Q holds. -/
def Ev {α : Type} (F : Nat → Option α) (Q : α → Prop) : Prop := ∃ a, Q a ∧ ∃ K, ∀ k, K ≤ k → F k = some a
section
variable {α β : Type}
theorem Ev.ret {a : α} {Q : α → Prop} (h : Q a) : Ev (fun _ => some a) Q := ⟨a, h, 0, fun _ _ => rfl⟩
theorem Ev.mono {F : Nat → Option α} {Q Q' : α → Prop} (h : Ev F Q) (hq : ∀ a, Q a → Q' a) : Ev F Q' := let ⟨a, h1, h2⟩ := h; ⟨a, hq a h1, h2⟩
theorem Ev.bind {F : Nat → Option α} {G : Nat → α → Option β} {Q : α → Prop} {R : β → Prop} (h : Ev F Q) (hg : ∀ a, Q a → Ev (fun k => G k a) R) : Ev (fun k => (F k).bind (G k)) R := by
  obtain ⟨a, h1, K, h2⟩ := h
  obtain ⟨b, h3, K', h4⟩ := hg a h1
  exact ⟨b, h3, max K K', fun k hk => by show (F k).bind (G k) = _; rw [h2 k (by omega)]; exact h4 k (by omega)⟩
theorem Ev.shift {F : Nat → Option α} {Q : α → Prop} (h : Ev (fun k => F (k + 1)) Q) : Ev F Q := by
  obtain ⟨a, h1, K, h2⟩ := h
  refine ⟨a, h1, K + 1, fun k hk => ?_⟩
  obtain ⟨k', rfl⟩ : ∃ k', k = k' + 1 := ⟨k - 1, by omega⟩
  exact h2 k' (by omega)
theorem Ev.congr {F F' : Nat → Option α} {Q : α → Prop} (e : ∀ k, F' k = F k) (h : Ev F Q) : Ev F' Q := by
  obtain ⟨a, h1, K, h2⟩ := h
  exact ⟨a, h1, K, fun k hk => (e k).trans (h2 k hk)⟩
theorem Ev.get {F : Nat → Option α} {Q : α → Prop} (h : Ev F Q) : ∃ k a, F k = some a ∧ Q a := let ⟨a, h1, K, h2⟩ := h; ⟨K, a, h2 K (Nat.le_refl _), h1⟩
end

theorem Ev.pos {α : Type} {c : Bool} {F G : Nat → Option α} {Q : α → Prop} (hc : c = true) (h : Ev F Q) : Ev (fun k => bc c (F k) (G k)) Q := by subst hc; exact h
theorem Ev.neg {α : Type} {c : Bool} {F G : Nat → Option α} {Q : α → Prop} (hc : c = false) (h : Ev G Q) : Ev (fun k => bc c (F k) (G k)) Q := by subst hc; exact h
theorem Ev.split {α : Type} {c : Bool} {F G : Nat → Option α} {Q : α → Prop} (h1 : c = true → Ev F Q) (h2 : c = false → Ev G Q) : Ev (fun k => bc c (F k) (G k)) Q := by
  cases c with
  | true => exact h1 rfl
  | false => exact h2 rfl
theorem Ev.ck {α : Type} {c : Bool} {F : Nat → Option α} {Q : α → Prop} (hc : c = true) (h : Ev F Q) : Ev (fun k => ckB c (F k)) Q := by subst hc; exact h

/-! ### Words that simp turns -/
theorem lt_eq {α R : Type} (x : α) (f : α → Option R) : lt x f = f x := rfl
theorem bc_dec {R : Type} (p : Prop) [Decidable p] (x y : R) : bc (decide p) x y = if p then x else y := by by_cases h : p <;> simp [h, bc]
theorem bc_eq {R : Type} (c : Bool) (x y : R) : bc c x y = if c = true then x else y := by cases c <;> rfl
theorem ckB_eq {R : Type} (c : Bool) (x : Option R) : ckB c x = if c = true then x else none := by cases c <;> rfl
theorem ckN_self {R : Type} (a : Nat) (x : Option R) : ckN a a x = x := by simp [ckN]
theorem ckE_self {R : Type} (a : Option Blk) (x : Option R) : ckE a a x = x := by simp [ckE]
theorem ckE_pos {R : Type} {a b : Option Blk} (h : a = b) (x : Option R) : ckE a b x = x := by simp [ckE, h]
theorem ble_iff (a b : Nat) : (Nat.ble (a + 1) b = true) = (a < b) := by simp [Nat.ble_eq, Nat.succ_le_iff]
theorem asI_int (x : Int) : asI .i64 (some (.int .i64 x)) = some x := rfl
theorem asB_bool (x : Bool) : asB (some (.bool x)) = some x := rfl
theorem asP_ptr (b o : Nat) : asP (some (.pointer (some ⟨b, o, none⟩))) = some (b, o) := rfl
/-- A slice's address is plain. -/
def Pla : Option Addr → Prop
  | some ⟨_, _, some _⟩ => False
  | _ => True
theorem asS_slc {a : Option Addr} {n c : Nat} (h : Pla a) : asS (some (.slice a n c)) = some ⟨a, n, c⟩ := by
  cases a with
  | none => rfl
  | some a => obtain ⟨b, o, s⟩ := a; cases s with
    | none => rfl
    | some s => exact h.elim
theorem asS0_slc (a : Option Addr) (n c : Nat) : asS0 (some (.slice a n c)) = some ⟨a, n, c⟩ := rfl
theorem asM_map (b : Nat) : asM (some (.map (some b))) = some b := rfl
theorem w64_id {x : Int} (h1 : -9223372036854775808 ≤ x) (h2 : x < 9223372036854775808) : w64 x = x := Go.IntWalk.i64_in x ⟨h1, by omega⟩
theorem w64_succ {i n : Nat} (h : i < n) (hn : n ≤ 1152921504606846976) : w64 ((i : Int) + 1) = ((i + 1 : Nat) : Int) := by rw [w64_id (by omega) (by omega)]; rfl
theorem takeM_nil (h : Hp) : takeM h [] = some h := rfl

/-! ### Heaps that grow -/
structure Ext (h h1 : Hp) : Prop where
  next : h.next ≤ h1.next
  old : ∀ b, b < h.next → h1.g b = h.g b
theorem Ext.refl (h : Hp) : Ext h h := ⟨Nat.le_refl _, fun _ _ => rfl⟩
theorem Ext.trans {a b c : Hp} (h : Ext a b) (k : Ext b c) : Ext a c := ⟨Nat.le_trans h.next k.next, fun x hx => (k.old x (Nat.lt_of_lt_of_le hx h.next)).trans (h.old x hx)⟩
theorem Ext.new (h : Hp) (K : Blk) : Ext h (h.new K) := ⟨Nat.le_succ _, fun b hb => if_neg (by omega)⟩
theorem Ext.new' {a h : Hp} (e : Ext a h) (K : Blk) : Ext a (h.new K) := e.trans (Ext.new h K)
theorem Ext.rd {h h1 : Hp} (e : Ext h h1) {b : Nat} (hb : b < h.next) (o : Nat) : rd h1 b o = rd h b o := by unfold Go.Proofs.Ytgikimegikelkaa.Ab.rd; rw [e.old b hb]
theorem new_next (h : Hp) (K : Blk) : (h.new K).next = h.next + 1 := rfl
theorem set_next (h : Hp) (b : Nat) (K : Blk) : (h.set b K).next = h.next := rfl
theorem new_g (h : Hp) (K : Blk) : (h.new K).g h.next = some K := if_pos rfl
theorem new_g_old {h : Hp} {b : Nat} (K : Blk) (hb : b < h.next) : (h.new K).g b = h.g b := if_neg (by omega)
theorem set_g (h : Hp) (b : Nat) (K : Blk) : (h.set b K).g b = some K := if_pos rfl
theorem set_g_ne {h : Hp} {b x : Nat} (K : Blk) (hb : x ≠ b) : (h.set b K).g x = h.g x := if_neg hb
theorem rd_new (h : Hp) (sz : Nat) (l : List Value) (o : Nat) : rd (h.new (.row sz l)) h.next o = l[o]? := by unfold rd; rw [new_g]; exact nth_eq l o
theorem rd_new_old {h : Hp} {b : Nat} (K : Blk) (hb : b < h.next) (o : Nat) : rd (h.new K) b o = rd h b o := by unfold rd; rw [new_g_old K hb]
theorem putN_all {α : Type} : ∀ (l vs : List α), l.length = vs.length → putN l 0 vs = some vs
  | [], [], _ => rfl
  | x :: l, v :: vs, h => by rw [putN_cons_zero, putN_all l vs (by simpa using h)]; rfl
  | [], _ :: _, h => by simp at h
  | _ :: _, [], h => by simp at h
theorem set_new (h : Hp) (K K' : Blk) : (h.new K).set h.next K' = h.new K' := by
  unfold Hp.set Hp.new
  congr 1
  funext x
  by_cases c : x = h.next <;> simp [c]
theorem new_wr {R : Type} (h : Hp) (sz : Nat) (l vs : List Value) (hl : l.length = vs.length) (G : Hp → Option R) : ((wr (h.new (.row sz l)) h.next 0 vs).bind G) = G (h.new (.row sz vs)) := by
  unfold wr
  rw [new_g]
  simp only [putN_all l vs hl, set_new, Option.bind_some]

/-! ### Slices of numbers -/
structure Arc where
  f : Int
  t : Int
  cap : Int
  cost : Int
def arcAt (l : List Arc) (x : Int) : Arc := l.getD x.toNat ⟨0, 0, 0, 0⟩
def intAt (l : List Int) (x : Int) : Int := l.getD x.toNat 0
def boolAt (l : List Bool) (x : Int) : Bool := l.getD x.toNat false
/-- A slice reads as a list of numbers. -/
def Ints (h : Hp) (a : Option Addr) (l : List Int) : Prop := Pla a ∧ ∀ i x, l[i]? = some x → ∃ b o, a = some ⟨b, o, none⟩ ∧ b < h.next ∧ rd h b (o + i * 1) = some (.int .i64 x)
def Bools (h : Hp) (a : Option Addr) (l : List Bool) : Prop := Pla a ∧ ∀ i x, l[i]? = some x → ∃ b o, a = some ⟨b, o, none⟩ ∧ b < h.next ∧ rd h b (o + i * 1) = some (.bool x)
def Arcs (h : Hp) (a : Option Addr) (l : List Arc) : Prop := Pla a ∧ ∀ i x, l[i]? = some x → ∃ b o, a = some ⟨b, o, none⟩ ∧ b < h.next ∧ rd h b (o + i * 4) = some (.int .i64 x.f) ∧ rd h b (o + i * 4 + 1) = some (.int .i64 x.t) ∧ rd h b (o + i * 4 + 2) = some (.int .i64 x.cap) ∧ rd h b (o + i * 4 + 3) = some (.int .i64 x.cost)
theorem Ints.ext {h h1 : Hp} (e : Ext h h1) {a : Option Addr} {l : List Int} (hl : Ints h a l) : Ints h1 a l := ⟨hl.1, fun i x hx => let ⟨b, o, h1, h2, h3⟩ := hl.2 i x hx; ⟨b, o, h1, Nat.lt_of_lt_of_le h2 e.next, (e.rd h2 _).trans h3⟩⟩
theorem Bools.ext {h h1 : Hp} (e : Ext h h1) {a : Option Addr} {l : List Bool} (hl : Bools h a l) : Bools h1 a l := ⟨hl.1, fun i x hx => let ⟨b, o, h1, h2, h3⟩ := hl.2 i x hx; ⟨b, o, h1, Nat.lt_of_lt_of_le h2 e.next, (e.rd h2 _).trans h3⟩⟩
theorem Arcs.ext {h h1 : Hp} (e : Ext h h1) {a : Option Addr} {l : List Arc} (hl : Arcs h a l) : Arcs h1 a l := ⟨hl.1, fun i x hx => let ⟨b, o, h1, h2, h3, h4, h5, h6⟩ := hl.2 i x hx; ⟨b, o, h1, Nat.lt_of_lt_of_le h2 e.next, (e.rd h2 _).trans h3, (e.rd h2 _).trans h4, (e.rd h2 _).trans h5, (e.rd h2 _).trans h6⟩⟩
theorem ixA_in {b o n sz : Nat} {x : Int} (h0 : 0 ≤ x) (h : x < n) : ixA (some ⟨b, o, none⟩) n sz x = some (b, o + x.toNat * sz) := by
  unfold ixA
  simp [h0, h]
theorem Ints.ix {h : Hp} {a : Option Addr} {l : List Int} (hl : Ints h a l) {x : Int} {n : Nat} (hn : n = l.length) (h0 : 0 ≤ x) (hx : x < n) : ∃ b p, ixA a n 1 x = some (b, p) ∧ b < h.next ∧ rd h b p = some (.int .i64 (intAt l x)) := by
  obtain ⟨b, o, rfl, h2, h3⟩ := hl.2 x.toNat (intAt l x) (by unfold intAt; rw [List.getD_eq_getElem?_getD, List.getElem?_eq_getElem (by omega)]; rfl)
  exact ⟨b, _, ixA_in h0 hx, h2, h3⟩
theorem Bools.ix {h : Hp} {a : Option Addr} {l : List Bool} (hl : Bools h a l) {x : Int} {n : Nat} (hn : n = l.length) (h0 : 0 ≤ x) (hx : x < n) : ∃ b p, ixA a n 1 x = some (b, p) ∧ b < h.next ∧ rd h b p = some (.bool (boolAt l x)) := by
  obtain ⟨b, o, rfl, h2, h3⟩ := hl.2 x.toNat (boolAt l x) (by unfold boolAt; rw [List.getD_eq_getElem?_getD, List.getElem?_eq_getElem (by omega)]; rfl)
  exact ⟨b, _, ixA_in h0 hx, h2, h3⟩
theorem Arcs.ix {h : Hp} {a : Option Addr} {l : List Arc} (hl : Arcs h a l) {x : Int} {n : Nat} (hn : n = l.length) (h0 : 0 ≤ x) (hx : x < n) : ∃ b p, ixA a n 4 x = some (b, p) ∧ b < h.next ∧ rd h b p = some (.int .i64 (arcAt l x).f) ∧ rd h b (p + 1) = some (.int .i64 (arcAt l x).t) ∧ rd h b (p + 2) = some (.int .i64 (arcAt l x).cap) ∧ rd h b (p + 3) = some (.int .i64 (arcAt l x).cost) := by
  obtain ⟨b, o, rfl, h2, h3⟩ := hl.2 x.toNat (arcAt l x) (by unfold arcAt; rw [List.getD_eq_getElem?_getD, List.getElem?_eq_getElem (by omega)]; rfl)
  exact ⟨b, _, ixA_in h0 hx, h2, h3⟩
theorem arcAt_nat (l : List Arc) (i : Nat) (h : i < l.length) : arcAt l i = l[i] := by unfold arcAt; simp [List.getD_eq_getElem?_getD, h]
theorem intAt_nat (l : List Int) (i : Nat) (h : i < l.length) : intAt l i = l[i] := by unfold intAt; simp [List.getD_eq_getElem?_getD, h]
theorem boolAt_nat (l : List Bool) (i : Nat) (h : i < l.length) : boolAt l i = l[i] := by unfold boolAt; simp [List.getD_eq_getElem?_getD, h]
/-- A network in a box. -/
structure NetB (h : Hp) (b o : Nat) (n : Int) (a : Option Addr) (c : Nat) (l : List Arc) : Prop where
  lt : b < h.next
  n : rd h b o = some (.int .i64 n)
  s : rd h b (o + 1) = some (.slice a l.length c)
  arcs : Arcs h a l
theorem NetB.ext {h h1 : Hp} (e : Ext h h1) {b o : Nat} {n : Int} {a : Option Addr} {c : Nat} {l : List Arc} (k : NetB h b o n a c l) : NetB h1 b o n a c l := ⟨Nat.lt_of_lt_of_le k.lt e.next, (e.rd k.lt _).trans k.n, (e.rd k.lt _).trans k.s, k.arcs.ext e⟩
theorem NetB.new {h : Hp} {a : Option Addr} {l : List Arc} (ha : Arcs h a l) (n : Int) (c : Nat) : NetB (h.new (.row 0 [.int .i64 n, .slice a l.length c])) h.next 0 n a c l :=
  ⟨Nat.lt_succ_self _, rd_new _ _ _ _, rd_new _ _ _ _, ha.ext (Ext.new _ _)⟩
end Go.Proofs.Ytgikimegikelkaa.Ab

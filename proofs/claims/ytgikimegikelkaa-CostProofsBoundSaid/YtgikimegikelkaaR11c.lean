/- Chapter 11, the references: Few, Value, Total, has, Flows. -/
import Derived.Test.YtgikimegikelkaaR11b
namespace Go.Proofs.Ytgikimegikelkaa.Dn
open Go Go.Proofs.Ytgikimegikelkaa.Ab
set_option linter.unusedVariables false
set_option linter.unusedSimpArgs false

/-- A truth, and a heap that only grew. -/
def RB (h : Hp) (P : Prop) (q : Value × Hp) : Prop := ∃ v : Bool, q.1 = .bool v ∧ (v = true ↔ P) ∧ Ext h q.2
def RI (h : Hp) (z : Int) (q : Value × Hp) : Prop := q.1 = .int .i64 z ∧ Ext h q.2
theorem RB.mono {h h1 : Hp} {P P' : Prop} {q : Value × Hp} (k : RB h1 P q) (e : Ext h h1) (hp : P ↔ P') : RB h P' q := let ⟨v, a, b, c⟩ := k; ⟨v, a, b.trans hp, e.trans c⟩
theorem RI.mono {h h1 : Hp} {z : Int} {q : Value × Hp} (k : RI h1 z q) (e : Ext h h1) : RI h z q := ⟨k.1, e.trans k.2⟩
theorem RB.t {h h1 : Hp} {P : Prop} (e : Ext h h1) (hp : P) : RB h P (Value.bool true, h1) := ⟨true, rfl, by simp [hp], e⟩
theorem RB.f {h h1 : Hp} {P : Prop} (e : Ext h h1) (hp : ¬ P) : RB h P (Value.bool false, h1) := ⟨false, rfl, by simp [hp], e⟩
theorem RB.d {h h1 : Hp} {P : Prop} {c : Bool} (e : Ext h h1) (hp : c = true ↔ P) : RB h P (Value.bool c, h1) := ⟨c, rfl, hp, e⟩
theorem ckB_lt {R : Type} {b n : Nat} (h : b < n) (x : Option R) : ckB (Nat.ble (b + 1) n) x = x := by
  have : Nat.ble (b + 1) n = true := by rw [Nat.ble_eq]; exact h
  rw [this]; rfl
theorem ckE_ext {R : Type} {h h1 : Hp} (e : Ext h h1) {b : Nat} (hb : b < h.next) (x : Option R) : ckE (h.g b) (h1.g b) x = x := ckE_pos (e.old b hb).symm x
theorem all_step {i n : Nat} (hi : i < n) (P : Nat → Prop) : (∀ j, i ≤ j → j < n → P j) ↔ P i ∧ ∀ j, i + 1 ≤ j → j < n → P j := by
  constructor
  · intro h; exact ⟨h i (Nat.le_refl _) hi, fun j h1 h2 => h j (by omega) h2⟩
  · rintro ⟨h1, h2⟩ j h3 h4
    by_cases c : j = i
    · subst c; exact h1
    · exact h2 j (by omega) h4
theorem all_end {n : Nat} (P : Nat → Prop) : (∀ j, n ≤ j → j < n → P j) := fun j h1 h2 => by omega
theorem all_zero {n : Nat} (P : Nat → Prop) : (∀ j, 0 ≤ j → j < n → P j) ↔ ∀ j, j < n → P j := ⟨fun h j hj => h j (Nat.zero_le _) hj, fun h j _ hj => h j hj⟩

theorem checkL_ok {n : Int} {l : List Arc} (h : checkL n l = 0) {j : Nat} (hj : j < l.length) : okArc n (arcAt l j) = true := by
  unfold checkL at h
  split at h
  · rename_i c
    rw [arcAt_nat l j hj]
    exact List.all_eq_true.1 c _ (List.getElem_mem hj)
  · cases h
theorem checkP_ok {n : Int} {l : List Arc} (h : checkP n l = 0) : (1 ≤ n ∧ n ≤ 256 ∧ l.length ≤ 2048) ∧ ∀ j : Nat, j < l.length → (0 ≤ (arcAt l j).f ∧ (arcAt l j).f < n) ∧ (0 ≤ (arcAt l j).t ∧ (arcAt l j).t < n) ∧ (arcAt l j).f ≠ (arcAt l j).t ∧ 0 ≤ (arcAt l j).cap ∧ (arcAt l j).cap ≤ 1073741824 ∧ 0 ≤ (arcAt l j).cost ∧ (arcAt l j).cost ≤ 1048576 := by
  unfold checkP at h
  split at h
  · cases h
  · split at h
    · cases h
    · refine ⟨by omega, fun j hj => ?_⟩
      have := checkL_ok h hj
      unfold okArc at this
      simp only [Bool.and_eq_true, decide_eq_true_eq, Bool.not_eq_true', beq_eq_false_iff_ne] at this
      obtain ⟨⟨⟨⟨⟨⟨h1, h2⟩, h3⟩, h4⟩, h5⟩, h6⟩, h7⟩ := this
      exact ⟨h1, h2, h3, h4, h5, h6, h7⟩

def fewP (n : Int) (l : List Arc) (m : Int) : Prop := n ≤ 12 ∧ l.length ≤ 30 ∧ checkP n l = 0 ∧ ∀ j : Nat, j < l.length → (arcAt l j).cap ≤ m
theorem few_loop {h0 : Hp} {b o : Nat} {n m : Int} {a : Option Addr} {c : Nat} {l : List Arc} (N : NetB h0 b o n a c l) (hl : l.length ≤ 1048576) : ∀ (d i : Nat), i + d = l.length →
    Ev (fun k => d_ref11_Few.l0 k m b o (i : Int) [] h0) (RB h0 (∀ j : Nat, i ≤ j → j < l.length → (arcAt l j).cap ≤ m))
  | 0, i, hi => by
    apply Ev.shift
    obtain rfl : i = l.length := by omega
    simp only [d_ref11_Few.l0_succ, d_ref11_Few.b0, N.s, asS_slc N.arcs.1, Option.bind_some, takeM_nil]
    exact Ev.neg (by simp) (Ev.ret (RB.t (Ext.refl _) (all_end _)))
  | d + 1, i, hi => by
    apply Ev.shift
    have hlt : i < l.length := by omega
    obtain ⟨b', p, e1, e2, e3, e4, e5, e6⟩ := N.arcs.ix rfl (Int.natCast_nonneg i) (by omega)
    simp only [d_ref11_Few.l0_succ, d_ref11_Few.b0, N.s, asS_slc N.arcs.1, Option.bind_some, takeM_nil, e1, e5, asI_int, w64_succ hlt (by omega)]
    refine Ev.pos (by simp; omega) ?_
    rw [all_step hlt]
    refine Ev.split (fun h1 => Ev.ret (RB.f (Ext.refl _) ?_)) (fun h1 => (few_loop N hl d (i + 1) (by omega)).mono fun q hq => hq.mono (Ext.refl _) ?_)
    · simp at h1; omega
    · simp at h1; constructor
      · exact fun h => ⟨h1, h⟩
      · exact fun h => h.2
theorem few_ev {h : Hp} {n m : Int} {a : Option Addr} {c : Nat} {l : List Arc} (ha : Arcs h a l) : Ev (fun k => d_ref11_Few.r k n a l.length c m h) (RB h (fewP n l m)) := by
  have N := NetB.new ha n c
  have e := Ext.new h (.row 0 [.int .i64 n, .slice a l.length c])
  simp only [d_ref11_Few.r, lt_eq, N.n, N.s, Nat.zero_add, asI_int, asS_slc ha.1, Option.bind_some]
  unfold fewP
  refine Ev.split (fun h1 => ?_) (fun h1 => Ev.ret (RB.f e (by simp at h1; omega)))
  refine Ev.split (fun h2 => ?_) (fun h2 => Ev.ret (RB.f e (by simp at h2; omega)))
  simp at h1 h2
  refine Ev.bind (check_ev N.arcs) ?_
  rintro ⟨v, h3⟩ ⟨rfl, e3⟩
  simp only [asI_int, Option.bind_some]
  refine Ev.split (fun h4 => Ev.ret (RB.f (e.trans e3) (by simp at h4; omega))) (fun h4 => ?_)
  simp at h4
  refine (few_loop (N.ext e3) (by omega) l.length 0 (by omega)).mono fun q hq => hq.mono (e.trans e3) ?_
  rw [all_zero]
  constructor
  · exact fun h => ⟨h1, by omega, h4, h⟩
  · exact fun h => h.2.2.2

/-! ### Value and Total -/
def valN (l : List Arc) (fl : List Int) (x : Int) : Nat → Int
  | 0 => 0
  | i + 1 => valN l fl x i + (if (arcAt l i).f = x then intAt fl i else 0) - (if (arcAt l i).t = x then intAt fl i else 0)
def totN (l : List Arc) (fl : List Int) : Nat → Int
  | 0 => 0
  | i + 1 => totN l fl i + intAt fl i * (arcAt l i).cost
theorem valN_le {l : List Arc} {fl : List Int} {M : Int} (hM : 0 ≤ M) (x : Int) : ∀ i : Nat, (∀ j : Nat, j < i → 0 ≤ intAt fl j ∧ intAt fl j ≤ M) → -(i * M) ≤ valN l fl x i ∧ valN l fl x i ≤ i * M
  | 0, _ => by simp [valN]
  | i + 1, h => by
    have h1 := valN_le (l := l) hM x i (fun j hj => h j (by omega))
    have h2 := h i (by omega)
    simp only [valN]
    have e : ((i + 1 : Nat) : Int) * M = i * M + M := by rw [Int.natCast_succ, Int.add_mul, Int.one_mul]
    rw [e]
    split <;> split <;> omega
theorem totN_le {l : List Arc} {fl : List Int} : ∀ i : Nat, (∀ j : Nat, j < i → 0 ≤ intAt fl j ∧ intAt fl j ≤ 1073741824 ∧ 0 ≤ (arcAt l j).cost ∧ (arcAt l j).cost ≤ 1048576) → 0 ≤ totN l fl i ∧ totN l fl i ≤ i * 1125899906842624
  | 0, _ => by simp [totN]
  | i + 1, h => by
    have h1 := totN_le i (fun j hj => h j (by omega))
    obtain ⟨h2, h3, h4, h5⟩ := h i (by omega)
    simp only [totN]
    have k1 : 0 ≤ intAt fl i * (arcAt l i).cost := Int.mul_nonneg h2 h4
    have k2 : intAt fl i * (arcAt l i).cost ≤ 1073741824 * 1048576 := Int.mul_le_mul h3 h5 h4 (by omega)
    omega
/-- The numbers are a flow within the bounds of the arcs. -/
def inP (l : List Arc) (fl : List Int) : Prop := ∀ j : Nat, j < l.length → 0 ≤ intAt fl j ∧ intAt fl j ≤ (arcAt l j).cap
/-- A network without error, and not large. -/
structure Small (n : Int) (l : List Arc) : Prop where
  len : l.length ≤ 30
  ok : checkP n l = 0
theorem Small.in {n : Int} {l : List Arc} (S : Small n l) {fl : List Int} (hf : inP l fl) : ∀ j : Nat, j < l.length → 0 ≤ intAt fl j ∧ intAt fl j ≤ 1073741824 := fun j hj => by
  have := hf j hj
  have := (checkP_ok S.ok).2 j hj
  omega
theorem value_loop {h0 : Hp} {b o : Nat} {n x : Int} {a a1 : Option Addr} {c c1 : Nat} {l : List Arc} {fl : List Int} (N : NetB h0 b o n a c l) (F : Ints h0 a1 fl) (hf : fl.length = l.length) (S : Small n l) (hi : inP l fl) : ∀ (d i : Nat), i + d = l.length →
    Ev (fun k => d_ref11_Value.l0 k a1 fl.length c1 x b o (valN l fl x i) (i : Int) [] h0) (RI h0 (valN l fl x l.length))
  | 0, i, hd => by
    apply Ev.shift
    obtain rfl : i = l.length := by omega
    simp only [d_ref11_Value.l0_succ, d_ref11_Value.b0, N.s, asS_slc N.arcs.1, Option.bind_some, takeM_nil]
    exact Ev.neg (by simp) (Ev.ret ⟨rfl, Ext.refl _⟩)
  | d + 1, i, hd => by
    apply Ev.shift
    have hlt : i < l.length := by omega
    have hlen := S.len
    obtain ⟨b', p, e1, e2, e3, e4, e5, e6⟩ := N.arcs.ix rfl (Int.natCast_nonneg i) (by omega)
    obtain ⟨b2, p2, f1, f2, f3⟩ := F.ix rfl (Int.natCast_nonneg i) (by omega)
    have B := valN_le (l := l) (M := 1073741824) (by omega) x i (fun j hj => S.in hi j (by omega))
    have B1 := S.in hi i hlt
    have w1 : w64 (valN l fl x i + intAt fl i) = valN l fl x i + intAt fl i := w64_id (by omega) (by omega)
    have w2 : w64 (valN l fl x i - intAt fl i) = valN l fl x i - intAt fl i := w64_id (by omega) (by omega)
    have w3 : w64 (valN l fl x i + intAt fl i - intAt fl i) = valN l fl x i + intAt fl i - intAt fl i := w64_id (by omega) (by omega)
    simp only [d_ref11_Value.l0_succ, d_ref11_Value.b0, N.s, asS_slc N.arcs.1, Option.bind_some, takeM_nil, e1, e3, e4, f1, f3, asI_int, w64_succ hlt (by omega), w1, w2, w3]
    refine Ev.pos (by simp; omega) ?_
    have go : ∀ z, valN l fl x (i + 1) = z → Ev (fun k => d_ref11_Value.l0 k a1 fl.length c1 x b o z ((i + 1 : Nat) : Int) [] h0) (RI h0 (valN l fl x l.length)) := by
      rintro _ rfl; exact value_loop N F hf S hi d (i + 1) (by omega)
    refine Ev.split (fun h1 => ?_) (fun h1 => ?_)
    all_goals
      refine Ev.split (fun h2 => ?_) (fun h2 => ?_)
      all_goals
        refine go _ ?_
        simp only [beq_iff_eq, beq_eq_false_iff_ne] at h1 h2
        simp only [valN, h1, h2, if_true, if_false]
        try omega
theorem value_ev {h : Hp} {n x : Int} {a a1 : Option Addr} {c c1 : Nat} {l : List Arc} {fl : List Int} (ha : Arcs h a l) (F : Ints h a1 fl) (hf : fl.length = l.length) (S : Small n l) (hi : inP l fl) : Ev (fun k => d_ref11_Value.r k n a l.length c a1 fl.length c1 x h) (RI h (valN l fl x l.length)) := by
  have N := NetB.new ha n c
  have e := Ext.new h (.row 0 [.int .i64 n, .slice a l.length c])
  simp only [d_ref11_Value.r, lt_eq]
  exact (value_loop N (F.ext e) hf S hi l.length 0 (by omega)).mono fun q hq => hq.mono e
theorem total_loop {h0 : Hp} {b o : Nat} {n : Int} {a a1 : Option Addr} {c c1 : Nat} {l : List Arc} {fl : List Int} (N : NetB h0 b o n a c l) (F : Ints h0 a1 fl) (hf : fl.length = l.length) (S : Small n l) (hi : inP l fl) : ∀ (d i : Nat), i + d = l.length →
    Ev (fun k => d_ref11_Total.l0 k a1 fl.length c1 b o (totN l fl i) (i : Int) [] h0) (RI h0 (totN l fl l.length))
  | 0, i, hd => by
    apply Ev.shift
    obtain rfl : i = l.length := by omega
    simp only [d_ref11_Total.l0_succ, d_ref11_Total.b0, Option.bind_some, takeM_nil]
    exact Ev.neg (by simp; omega) (Ev.ret ⟨rfl, Ext.refl _⟩)
  | d + 1, i, hd => by
    apply Ev.shift
    have hlt : i < l.length := by omega
    have hlen := S.len
    obtain ⟨b', p, e1, e2, e3, e4, e5, e6⟩ := N.arcs.ix rfl (Int.natCast_nonneg i) (by omega)
    obtain ⟨b2, p2, f1, f2, f3⟩ := F.ix rfl (Int.natCast_nonneg i) (by omega)
    have hk : ∀ j : Nat, j < l.length → 0 ≤ intAt fl j ∧ intAt fl j ≤ 1073741824 ∧ 0 ≤ (arcAt l j).cost ∧ (arcAt l j).cost ≤ 1048576 := fun j hj => by
      have := S.in hi j hj
      have := (checkP_ok S.ok).2 j hj
      omega
    have B := totN_le (l := l) (fl := fl) i (fun j hj => hk j (by omega))
    have B2 := totN_le (l := l) (fl := fl) (i + 1) (fun j hj => hk j (by omega))
    obtain ⟨h2, h3, h4, h5⟩ := hk i hlt
    have k1 : 0 ≤ intAt fl i * (arcAt l i).cost := Int.mul_nonneg h2 h4
    have k2 : intAt fl i * (arcAt l i).cost ≤ 1073741824 * 1048576 := Int.mul_le_mul h3 h5 h4 (by omega)
    have w1 : w64 (intAt fl i * (arcAt l i).cost) = intAt fl i * (arcAt l i).cost := w64_id (by omega) (by omega)
    have w2 : w64 (totN l fl i + intAt fl i * (arcAt l i).cost) = totN l fl (i + 1) := w64_id (by omega) (by omega)
    simp only [d_ref11_Total.l0_succ, d_ref11_Total.b0, N.s, asS_slc N.arcs.1, Option.bind_some, takeM_nil, e1, e6, f1, f3, asI_int, w64_succ hlt (by omega), w1, w2, ckB_lt N.lt, ckB_lt e2, ckB_lt f2]
    refine Ev.pos (by simp; omega) ?_
    exact total_loop N F hf S hi d (i + 1) (by omega)
theorem total_ev {h : Hp} {n : Int} {a a1 : Option Addr} {c c1 : Nat} {l : List Arc} {fl : List Int} (ha : Arcs h a l) (F : Ints h a1 fl) (hf : fl.length = l.length) (S : Small n l) (hi : inP l fl) : Ev (fun k => d_ref11_Total.r k n a l.length c a1 fl.length c1 h) (RI h (totN l fl l.length)) := by
  have N := NetB.new ha n c
  have e := Ext.new h (.row 0 [.int .i64 n, .slice a l.length c])
  simp only [d_ref11_Total.r, lt_eq]
  exact (total_loop N (F.ext e) hf S hi l.length 0 (by omega)).mono fun q hq => hq.mono e

/-! ### has, Flows -/
def hasP (l : List Int) (x : Int) : Prop := ∃ j : Nat, j < l.length ∧ intAt l j = x
theorem w64_succ2 {i n : Nat} (h : i < n) (hn : n ≤ 9223372036854775807) : w64 ((i : Int) + 1) = ((i + 1 : Nat) : Int) := by rw [w64_id (by omega) (by omega)]; rfl
theorem has_loop {h0 : Hp} {x : Int} {a : Option Addr} {c : Nat} {l : List Int} (F : Ints h0 a l) (hl : l.length ≤ 9223372036854775807) : ∀ (d i : Nat), i + d = l.length →
    Ev (fun k => d_ref11_has.l0 k a l.length c x (i : Int) [] h0) (RB h0 (∃ j : Nat, i ≤ j ∧ j < l.length ∧ intAt l j = x))
  | 0, i, hd => by
    apply Ev.shift
    simp only [d_ref11_has.l0_succ, d_ref11_has.b0, Option.bind_some, takeM_nil]
    exact Ev.neg (by simp; omega) (Ev.ret (RB.f (Ext.refl _) (by rintro ⟨j, h1, h2, _⟩; omega)))
  | d + 1, i, hd => by
    apply Ev.shift
    have hlt : i < l.length := by omega
    obtain ⟨b2, p2, f1, f2, f3⟩ := F.ix rfl (Int.natCast_nonneg i) (by omega)
    simp only [d_ref11_has.l0_succ, d_ref11_has.b0, Option.bind_some, takeM_nil, f1, f3, asI_int, w64_succ2 hlt hl]
    refine Ev.pos (by simp; omega) ?_
    refine Ev.split (fun h1 => Ev.ret (RB.t (Ext.refl _) ⟨i, Nat.le_refl _, hlt, by simpa using h1⟩)) (fun h1 => (has_loop F hl d (i + 1) (by omega)).mono fun q hq => hq.mono (Ext.refl _) ?_)
    simp only [beq_eq_false_iff_ne] at h1
    constructor
    · rintro ⟨j, h2, h3, h4⟩; exact ⟨j, by omega, h3, h4⟩
    · rintro ⟨j, h2, h3, h4⟩
      by_cases c : j = i
      · subst c; exact absurd h4 h1
      · exact ⟨j, by omega, h3, h4⟩
theorem has_ev {h : Hp} {x : Int} {a : Option Addr} {c : Nat} {l : List Int} (F : Ints h a l) (hl : l.length ≤ 9223372036854775807) : Ev (fun k => d_ref11_has.r k a l.length c x h) (RB h (hasP l x)) := by
  simp only [d_ref11_has.r]
  refine (has_loop F hl l.length 0 (by omega)).mono fun q hq => hq.mono (Ext.refl _) ?_
  exact ⟨fun ⟨j, _, h2, h3⟩ => ⟨j, h2, h3⟩, fun ⟨j, h2, h3⟩ => ⟨j, Nat.zero_le _, h2, h3⟩⟩

/-- What leaves a node is what arrives there, but for the ends. -/
def restP (n : Int) (l : List Arc) (fl : List Int) (x y : Int) : Prop := ∀ j : Nat, (j : Int) < n → (j : Int) ≠ x → (j : Int) ≠ y → valN l fl j l.length = 0
def flowsP (n : Int) (l : List Arc) (fl : List Int) (x y : Int) : Prop := fl.length = l.length ∧ inP l fl ∧ restP n l fl x y
theorem flows_loop1 {h0 : Hp} {b o : Nat} {n x y : Int} {a a1 : Option Addr} {c c1 : Nat} {l : List Arc} {fl : List Int} (N : NetB h0 b o n a c l) (F : Ints h0 a1 fl) (hf : fl.length = l.length) (S : Small n l) (hi : inP l fl) (hn : n ≤ 1048576) : ∀ (d i : Nat) (h : Hp), (i + d : Int) = n → Ext h0 h →
    Ev (fun k => d_ref11_Flows.l1 k x y a1 fl.length c1 b o (i : Int) [] h) (RB h0 (∀ j : Nat, i ≤ j → (j : Int) < n → (j : Int) ≠ x → (j : Int) ≠ y → valN l fl j l.length = 0))
  | 0, i, h, hd, e => by
    apply Ev.shift
    have N1 := N.ext e
    simp only [d_ref11_Flows.l1_succ, d_ref11_Flows.b1, N1.n, asI_int, Option.bind_some, takeM_nil]
    exact Ev.neg (by simp; omega) (Ev.ret (RB.t e (fun j h1 h2 => by omega)))
  | d + 1, i, h, hd, e => by
    apply Ev.shift
    have N1 := N.ext e
    have F1 := F.ext e
    have ws : w64 ((i : Int) + 1) = ((i + 1 : Nat) : Int) := by rw [w64_id (by omega) (by omega)]; rfl
    have step : (∀ j : Nat, i ≤ j → (j : Int) < n → (j : Int) ≠ x → (j : Int) ≠ y → valN l fl j l.length = 0) ↔ ((i : Int) ≠ x → (i : Int) ≠ y → valN l fl i l.length = 0) ∧ ∀ j : Nat, i + 1 ≤ j → (j : Int) < n → (j : Int) ≠ x → (j : Int) ≠ y → valN l fl j l.length = 0 := by
      constructor
      · intro k; exact ⟨k i (Nat.le_refl _) (by omega), fun j h1 => k j (by omega)⟩
      · rintro ⟨k1, k2⟩ j h1 h2 h3 h4
        by_cases c : j = i
        · subst c; exact k1 h3 h4
        · exact k2 j (by omega) h2 h3 h4
    have go : ∀ h1, Ext h0 h1 → ((i : Int) ≠ x → (i : Int) ≠ y → valN l fl i l.length = 0) → Ev (fun k => d_ref11_Flows.l1 k x y a1 fl.length c1 b o ((i + 1 : Nat) : Int) [] h1) (RB h0 (∀ j : Nat, i ≤ j → (j : Int) < n → (j : Int) ≠ x → (j : Int) ≠ y → valN l fl j l.length = 0)) := fun h1 e1 k =>
      (flows_loop1 N F hf S hi hn d (i + 1) h1 (by omega) e1).mono fun q hq => hq.mono (Ext.refl _) (by rw [step]; exact ⟨fun t => ⟨k, t⟩, fun t => t.2⟩)
    simp only [d_ref11_Flows.l1_succ, d_ref11_Flows.b1, N1.n, N1.s, asS_slc N1.arcs.1, asI_int, Option.bind_some, takeM_nil, ws]
    refine Ev.pos (by simp; omega) ?_
    refine Ev.split (fun h1 => ?_) (fun h1 => go _ e (fun k => absurd (by simpa using h1) k))
    refine Ev.split (fun h2 => ?_) (fun h2 => go _ e (fun _ k => absurd (by simpa using h2) k))
    refine Ev.bind (value_ev N1.arcs F1 hf S hi) ?_
    rintro ⟨v, h3⟩ ⟨rfl, e3⟩
    simp only [asI_int, Option.bind_some]
    refine Ev.split (fun h4 => Ev.ret (RB.f (e.trans e3) ?_)) (fun h4 => go _ (e.trans e3) (fun _ _ => by simpa using h4))
    intro k
    simp at h1 h2 h4
    exact h4 ((step.1 k).1 h1 h2)
theorem flows_loop {h0 : Hp} {b o : Nat} {n x y : Int} {a a1 : Option Addr} {c c1 : Nat} {l : List Arc} {fl : List Int} (N : NetB h0 b o n a c l) (F : Ints h0 a1 fl) (hf : fl.length = l.length) (S : Small n l) : ∀ (d i : Nat), i + d = l.length → (∀ j : Nat, j < i → 0 ≤ intAt fl j ∧ intAt fl j ≤ (arcAt l j).cap) →
    Ev (fun k => d_ref11_Flows.l0 k x y a1 fl.length c1 b o (i : Int) [] h0) (RB h0 (inP l fl ∧ restP n l fl x y))
  | 0, i, hd, hp => by
    apply Ev.shift
    simp only [d_ref11_Flows.l0_succ, d_ref11_Flows.b0, Option.bind_some, takeM_nil]
    have hi : inP l fl := fun j hj => hp j (by omega)
    have := checkP_ok S.ok
    refine Ev.neg (by simp; omega) ((flows_loop1 N F hf S hi (by omega) n.toNat 0 h0 (by omega) (Ext.refl _)).mono fun q hq => hq.mono (Ext.refl _) ?_)
    constructor
    · exact fun k => ⟨hi, fun j => k j (Nat.zero_le _)⟩
    · exact fun k j _ => k.2 j
  | d + 1, i, hd, hp => by
    apply Ev.shift
    have hlt : i < l.length := by omega
    have hlen := S.len
    obtain ⟨b', p, e1, e2, e3, e4, e5, e6⟩ := N.arcs.ix rfl (Int.natCast_nonneg i) (by omega)
    obtain ⟨b2, p2, f1, f2, f3⟩ := F.ix rfl (Int.natCast_nonneg i) (by omega)
    simp only [d_ref11_Flows.l0_succ, d_ref11_Flows.b0, N.s, asS_slc N.arcs.1, Option.bind_some, takeM_nil, e1, e5, f1, f3, asI_int, w64_succ hlt (by omega), ckB_lt N.lt, ckB_lt e2, ckB_lt f2]
    refine Ev.pos (by simp; omega) ?_
    have bad : ¬ (0 ≤ intAt fl i ∧ intAt fl i ≤ (arcAt l i).cap) → ¬ (inP l fl ∧ restP n l fl x y) := fun k1 k2 => k1 (k2.1 i hlt)
    refine Ev.split (fun h1 => ?_) (fun h1 => Ev.ret (RB.f (Ext.refl _) (bad (by simp at h1; omega))))
    refine Ev.split (fun h2 => Ev.ret (RB.f (Ext.refl _) (bad (by simp at h2; omega)))) (fun h2 => ?_)
    refine flows_loop N F hf S d (i + 1) (by omega) fun j hj => ?_
    by_cases c : j = i
    · subst c; simp at h1 h2; omega
    · exact hp j (by omega)
theorem flows_ev {h : Hp} {n x y : Int} {a a1 : Option Addr} {c c1 : Nat} {l : List Arc} {fl : List Int} (ha : Arcs h a l) (F : Ints h a1 fl) (S : Small n l) : Ev (fun k => d_ref11_Flows.r k n a l.length c x y a1 fl.length c1 h) (RB h (flowsP n l fl x y)) := by
  have N := NetB.new ha n c
  have e := Ext.new h (.row 0 [.int .i64 n, .slice a l.length c])
  simp only [d_ref11_Flows.r, lt_eq, N.s, Nat.zero_add, asS_slc ha.1, Option.bind_some]
  refine Ev.split (fun h1 => Ev.ret (RB.f e (fun k => by have := k.1; simp at h1; omega))) (fun h1 => ?_)
  have hf : fl.length = l.length := by simp at h1; omega
  refine (flows_loop N (F.ext e) hf S l.length 0 (by omega) (fun j hj => by omega)).mono fun q hq => hq.mono e ?_
  exact ⟨fun k => ⟨hf, k⟩, fun k => k.2⟩
end Go.Proofs.Ytgikimegikelkaa.Dn

/- Chapter 11, the references: Priced, Cuts, Accept. -/
import Derived.Test.YtgikimegikelkaaR11c
namespace Go.Proofs.Ytgikimegikelkaa.Dn
open Go Go.Proofs.Ytgikimegikelkaa.Ab
set_option linter.unusedVariables false
set_option linter.unusedSimpArgs false

/-- A freight: numbers and three slices with their lists. -/
structure Fr where
  sent : Int
  cost : Int
  fa : Option Addr
  fc : Nat
  fl : List Int
  pa : Option Addr
  pc : Nat
  pl : List Int
  ca : Option Addr
  cc : Nat
  cl : List Int
def Fr.row (F : Fr) : List Value := [.int .i64 F.sent, .int .i64 F.cost, .slice F.fa F.fl.length F.fc, .slice F.pa F.pl.length F.pc, .slice F.ca F.cl.length F.cc]
structure FrL (h : Hp) (F : Fr) : Prop where
  f : Ints h F.fa F.fl
  p : Ints h F.pa F.pl
  c : Ints h F.ca F.cl
structure FrB (h : Hp) (b o : Nat) (F : Fr) : Prop where
  lt : b < h.next
  s : rd h b o = some (.int .i64 F.sent)
  k : rd h b (o + 1) = some (.int .i64 F.cost)
  fs : rd h b (o + 2) = some (.slice F.fa F.fl.length F.fc)
  ps : rd h b (o + 3) = some (.slice F.pa F.pl.length F.pc)
  cs : rd h b (o + 4) = some (.slice F.ca F.cl.length F.cc)
  l : FrL h F
theorem FrL.ext {h h1 : Hp} (e : Ext h h1) {F : Fr} (k : FrL h F) : FrL h1 F := ⟨k.f.ext e, k.p.ext e, k.c.ext e⟩
theorem FrB.ext {h h1 : Hp} (e : Ext h h1) {b o : Nat} {F : Fr} (k : FrB h b o F) : FrB h1 b o F := ⟨Nat.lt_of_lt_of_le k.lt e.next, (e.rd k.lt _).trans k.s, (e.rd k.lt _).trans k.k, (e.rd k.lt _).trans k.fs, (e.rd k.lt _).trans k.ps, (e.rd k.lt _).trans k.cs, k.l.ext e⟩
theorem FrB.new {h : Hp} {F : Fr} (k : FrL h F) : FrB (h.new (.row 0 F.row)) h.next 0 F := ⟨Nat.lt_succ_self _, rd_new _ _ _ _, rd_new _ _ _ _, rd_new _ _ _ _, rd_new _ _ _ _, rd_new _ _ _ _, k.ext (Ext.new _ _)⟩

/-- A reduced cost. -/
def redP (l : List Arc) (pl : List Int) (j : Nat) : Int := (arcAt l j).cost + intAt pl (arcAt l j).f - intAt pl (arcAt l j).t
def pricesP (n : Int) (pl : List Int) : Prop := ∀ j : Nat, (j : Int) < n → 0 ≤ intAt pl j ∧ intAt pl j ≤ 1073741824
def slackP (l : List Arc) (F : Fr) (j : Nat) : Prop := ¬ (redP l F.pl j < 0 ∧ intAt F.fl j < (arcAt l j).cap) ∧ ¬ (redP l F.pl j > 0 ∧ intAt F.fl j > 0)
def pricedP (n : Int) (l : List Arc) (x : Int) (F : Fr) : Prop := (F.pl.length : Int) = n ∧ intAt F.pl x = 0 ∧ pricesP n F.pl ∧ ∀ j : Nat, j < l.length → slackP l F j
theorem priced_loop1 {h0 : Hp} {b o b2 o2 : Nat} {n : Int} {a : Option Addr} {c : Nat} {l : List Arc} {F : Fr} (N : NetB h0 b o n a c l) (B : FrB h0 b2 o2 F) (hf : F.fl.length = l.length) (hp : (F.pl.length : Int) = n) (S : Small n l) (hi : pricesP n F.pl) : ∀ (d i : Nat) (h : Hp), i + d = l.length → Ext h0 h →
    Ev (fun k => d_ref11_Priced.l1 k b o b2 o2 (i : Int) [] h) (RB h0 (∀ j : Nat, i ≤ j → j < l.length → slackP l F j))
  | 0, i, h, hd, e => by
    apply Ev.shift
    have N1 := N.ext e
    obtain rfl : i = l.length := by omega
    simp only [d_ref11_Priced.l1_succ, d_ref11_Priced.b1, N1.s, asS_slc N1.arcs.1, Option.bind_some, takeM_nil]
    exact Ev.neg (by simp) (Ev.ret (RB.t e (all_end _)))
  | d + 1, i, h, hd, e => by
    apply Ev.shift
    have N1 := N.ext e
    have hlt : i < l.length := by omega
    have hlen := S.len
    obtain ⟨⟨a1, a2⟩, ⟨a3, a4⟩, a5, a6, a7, a8, a9⟩ := (checkP_ok S.ok).2 i hlt
    obtain ⟨b', p, e1, e2, e3, e4, e5, e6⟩ := N1.arcs.ix rfl (Int.natCast_nonneg i) (by omega)
    have e7 := e.new' (.row 0 [.int .i64 (arcAt l i).f, .int .i64 (arcAt l i).t, .int .i64 (arcAt l i).cap, .int .i64 (arcAt l i).cost])
    have N2 := N.ext e7
    have B2 := B.ext e7
    obtain ⟨q1, p1, f1, f2, f3⟩ := B2.l.p.ix rfl a1 (by omega)
    obtain ⟨q2, p2, g1, g2, g3⟩ := B2.l.p.ix rfl a3 (by omega)
    obtain ⟨q3, p3, k1, k2, k3⟩ := B2.l.f.ix rfl (Int.natCast_nonneg i) (by omega)
    have hx := hi (arcAt l i).f.toNat (by omega)
    have hy := hi (arcAt l i).t.toNat (by omega)
    rw [Int.toNat_of_nonneg a1] at hx
    rw [Int.toNat_of_nonneg a3] at hy
    have w1 : w64 ((arcAt l i).cost + intAt F.pl (arcAt l i).f) = (arcAt l i).cost + intAt F.pl (arcAt l i).f := w64_id (by omega) (by omega)
    have w2 : w64 ((arcAt l i).cost + intAt F.pl (arcAt l i).f - intAt F.pl (arcAt l i).t) = redP l F.pl i := w64_id (by omega) (by omega)
    have hb : h.next < (h.new (.row 0 [.int .i64 (arcAt l i).f, .int .i64 (arcAt l i).t, .int .i64 (arcAt l i).cap, .int .i64 (arcAt l i).cost])).next := Nat.lt_succ_self _
    simp only [d_ref11_Priced.l1_succ, d_ref11_Priced.b1, N1.s, asS_slc N1.arcs.1, Option.bind_some, takeM_nil, e1, e3, e4, e5, e6, asI_int, w64_succ hlt (by omega), lt_eq, new_wr, List.length_cons, List.length_nil, rd_new, List.getElem?_cons_zero, List.getElem?_cons_succ, Nat.zero_add,
      B2.ps, B2.fs, asS_slc B2.l.p.1, asS_slc B2.l.f.1, f1, f3, g1, g3, k1, k3, w1, w2, ckB_lt hb, ckB_lt B2.lt, ckB_lt f2, ckB_lt g2, ckB_lt k2]
    refine Ev.pos (by simp; omega) ?_
    have go : slackP l F i → Ev (fun k => d_ref11_Priced.l1 k b o b2 o2 ((i + 1 : Nat) : Int) [] (h.new (.row 0 [.int .i64 (arcAt l i).f, .int .i64 (arcAt l i).t, .int .i64 (arcAt l i).cap, .int .i64 (arcAt l i).cost]))) (RB h0 (∀ j : Nat, i ≤ j → j < l.length → slackP l F j)) := fun k =>
      (priced_loop1 N B hf hp S hi d (i + 1) _ (by omega) e7).mono fun q hq => hq.mono (Ext.refl _) (by rw [all_step hlt]; exact ⟨fun t => ⟨k, t⟩, fun t => t.2⟩)
    have bad : ¬ slackP l F i → ∀ h1, Ext h0 h1 → Ev (fun _ => some (Value.bool false, h1)) (RB h0 (∀ j : Nat, i ≤ j → j < l.length → slackP l F j)) := fun k h1 e1 => Ev.ret (RB.f e1 (by rw [all_step hlt]; exact fun t => k t.1))
    repeat' (refine Ev.split (fun _ => ?_) (fun _ => ?_))
    all_goals first
      | (refine go ?_
         unfold slackP
         simp only [Bool.not_not, Bool.not_eq_true', Bool.not_eq_false', decide_eq_true_eq, decide_eq_false_iff_not] at *
         omega)
      | (refine bad ?_ _ e7
         unfold slackP
         simp only [Bool.not_not, Bool.not_eq_true', Bool.not_eq_false', decide_eq_true_eq, decide_eq_false_iff_not] at *
         omega)
theorem priced_loop0 {h0 : Hp} {b o b2 o2 : Nat} {n : Int} {a : Option Addr} {c : Nat} {l : List Arc} {F : Fr} (N : NetB h0 b o n a c l) (B : FrB h0 b2 o2 F) (hf : F.fl.length = l.length) (hp : (F.pl.length : Int) = n) (S : Small n l) : ∀ (d i : Nat), (i + d : Int) = n → (∀ j : Nat, j < i → 0 ≤ intAt F.pl j ∧ intAt F.pl j ≤ 1073741824) →
    Ev (fun k => d_ref11_Priced.l0 k b o b2 o2 (i : Int) [] h0) (RB h0 (pricesP n F.pl ∧ ∀ j : Nat, j < l.length → slackP l F j))
  | 0, i, hd, hq => by
    apply Ev.shift
    have hi : pricesP n F.pl := fun j hj => hq j (by omega)
    simp only [d_ref11_Priced.l0_succ, d_ref11_Priced.b0, N.n, asI_int, Option.bind_some, takeM_nil]
    refine Ev.neg (by simp; omega) ((priced_loop1 N B hf hp S hi l.length 0 h0 (by omega) (Ext.refl _)).mono fun q hq => hq.mono (Ext.refl _) ?_)
    rw [all_zero]
    exact ⟨fun k => ⟨hi, k⟩, fun k => k.2⟩
  | d + 1, i, hd, hq => by
    apply Ev.shift
    have := (checkP_ok S.ok).1
    obtain ⟨q1, p1, f1, f2, f3⟩ := B.l.p.ix rfl (Int.natCast_nonneg i) (by omega)
    have ws : w64 ((i : Int) + 1) = ((i + 1 : Nat) : Int) := by rw [w64_id (by omega) (by omega)]; rfl
    simp only [d_ref11_Priced.l0_succ, d_ref11_Priced.b0, N.n, asI_int, Option.bind_some, takeM_nil, B.ps, asS_slc B.l.p.1, f1, f3, ws]
    refine Ev.pos (by simp; omega) ?_
    have bad : ¬ (0 ≤ intAt F.pl i ∧ intAt F.pl i ≤ 1073741824) → ¬ (pricesP n F.pl ∧ ∀ j : Nat, j < l.length → slackP l F j) := fun k1 k2 => k1 (k2.1 i (by omega))
    refine Ev.split (fun h1 => ?_) (fun h1 => Ev.ret (RB.f (Ext.refl _) (bad (by simp at h1; omega))))
    refine Ev.split (fun h2 => Ev.ret (RB.f (Ext.refl _) (bad (by simp at h2; omega)))) (fun h2 => ?_)
    refine priced_loop0 N B hf hp S d (i + 1) (by omega) fun j hj => ?_
    by_cases c : j = i
    · subst c; simp at h1 h2; omega
    · exact hq j (by omega)
theorem priced_ev {h : Hp} {n x : Int} {a : Option Addr} {c : Nat} {l : List Arc} {F : Fr} (ha : Arcs h a l) (B : FrL h F) (hf : F.fl.length = l.length) (S : Small n l) (hx : 0 ≤ x ∧ x < n) : Ev (fun k => d_ref11_Priced.r k n a l.length c x F.sent F.cost F.fa F.fl.length F.fc F.pa F.pl.length F.pc F.ca F.cl.length F.cc h) (RB h (pricedP n l x F)) := by
  have N := NetB.new ha n c
  have e := Ext.new h (.row 0 [.int .i64 n, .slice a l.length c])
  have B1 := FrB.new (B.ext e)
  have e1 := Ext.new (h.new (.row 0 [.int .i64 n, .slice a l.length c])) (.row 0 F.row)
  have N1 := N.ext e1
  unfold Fr.row at B1 N1 e1
  simp only [d_ref11_Priced.r, lt_eq, N1.n, B1.ps, Nat.zero_add, asS_slc B.p.1, Option.bind_some, asI_int]
  refine Ev.split (fun h1 => ?_) (fun h1 => Ev.ret (RB.f (e.trans e1) (fun k => by have := k.1; simp at h1; omega)))
  have hp : (F.pl.length : Int) = n := by simp at h1; omega
  obtain ⟨q1, p1, f1, f2, f3⟩ := B1.l.p.ix rfl hx.1 (by omega)
  simp only [f1, f3, asI_int, Option.bind_some]
  refine Ev.split (fun h2 => Ev.ret (RB.f (e.trans e1) (fun k => by have := k.2.1; simp at h2; omega))) (fun h2 => ?_)
  refine (priced_loop0 N1 B1 hf hp S n.toNat 0 (by omega) (fun j hj => by omega)).mono fun q hq => hq.mono (e.trans e1) ?_
  simp at h2
  exact ⟨fun k => ⟨hp, h2, k.1, k.2⟩, fun k => ⟨k.2.2.1, k.2.2.2⟩⟩

/-! ### Cuts -/
def rising (n : Int) (cl : List Int) (j : Nat) : Prop := 0 ≤ intAt cl j ∧ intAt cl j < n ∧ (0 < j → intAt cl ((j : Int) - 1) < intAt cl j)
def tight (l : List Arc) (F : Fr) (j : Nat) : Prop := ¬ (hasP F.cl (arcAt l j).f ∧ ¬ hasP F.cl (arcAt l j).t ∧ intAt F.fl j ≠ (arcAt l j).cap) ∧ ¬ (hasP F.cl (arcAt l j).t ∧ ¬ hasP F.cl (arcAt l j).f ∧ intAt F.fl j ≠ 0)
def cutsP (n : Int) (l : List Arc) (x y : Int) (F : Fr) : Prop := (∀ j : Nat, j < F.cl.length → rising n F.cl j) ∧ hasP F.cl x ∧ ¬ hasP F.cl y ∧ ∀ j : Nat, j < l.length → tight l F j
theorem cuts_loop1 {h0 : Hp} {b o b2 o2 : Nat} {n : Int} {a : Option Addr} {c : Nat} {l : List Arc} {F : Fr} (N : NetB h0 b o n a c l) (B : FrB h0 b2 o2 F) (hf : F.fl.length = l.length) (hc : F.cl.length ≤ 9223372036854775807) (S : Small n l) : ∀ (d i : Nat) (h : Hp), i + d = l.length → Ext h0 h →
    Ev (fun k => d_ref11_Cuts.l1 k b o b2 o2 (i : Int) [] h) (RB h0 (∀ j : Nat, i ≤ j → j < l.length → tight l F j))
  | 0, i, h, hd, e => by
    apply Ev.shift
    have N1 := N.ext e
    obtain rfl : i = l.length := by omega
    simp only [d_ref11_Cuts.l1_succ, d_ref11_Cuts.b1, N1.s, asS_slc N1.arcs.1, Option.bind_some, takeM_nil]
    exact Ev.neg (by simp) (Ev.ret (RB.t e (all_end _)))
  | d + 1, i, h, hd, e => by
    apply Ev.shift
    have N1 := N.ext e
    have hlt : i < l.length := by omega
    have hlen := S.len
    obtain ⟨⟨a1, a2⟩, ⟨a3, a4⟩, a5, a6, a7, a8, a9⟩ := (checkP_ok S.ok).2 i hlt
    obtain ⟨b', p, e1, e2, e3, e4, e5, e6⟩ := N1.arcs.ix rfl (Int.natCast_nonneg i) (by omega)
    have e7 := e.new' (.row 0 [.int .i64 (arcAt l i).f, .int .i64 (arcAt l i).t, .int .i64 (arcAt l i).cap, .int .i64 (arcAt l i).cost])
    have hb : h.next < (h.new (.row 0 [.int .i64 (arcAt l i).f, .int .i64 (arcAt l i).t, .int .i64 (arcAt l i).cap, .int .i64 (arcAt l i).cost])).next := Nat.lt_succ_self _
    have B2 := B.ext e7
    simp only [d_ref11_Cuts.l1_succ, d_ref11_Cuts.b1, N1.s, asS_slc N1.arcs.1, Option.bind_some, takeM_nil, e1, e3, e4, e5, e6, asI_int, w64_succ hlt (by omega), lt_eq, new_wr, List.length_cons, List.length_nil, rd_new, List.getElem?_cons_zero, List.getElem?_cons_succ, Nat.zero_add,
      B2.cs, asS_slc B2.l.c.1]
    refine Ev.pos (by simp; omega) ?_
    refine Ev.bind (has_ev B2.l.c hc) ?_
    rintro ⟨_, h1⟩ ⟨v1, rfl, hv1, k1⟩
    have e8 := e7.trans k1
    have B3 := B.ext e8
    have r1 : ∀ o, rd h1 h.next o = ([.int .i64 (arcAt l i).f, .int .i64 (arcAt l i).t, .int .i64 (arcAt l i).cap, .int .i64 (arcAt l i).cost] : List Value)[o]? := fun o => (k1.rd hb o).trans (rd_new _ _ _ _)
    simp only [asB_bool, Option.bind_some, B3.cs, asS_slc B3.l.c.1, r1, List.getElem?_cons_zero, List.getElem?_cons_succ, asI_int]
    refine Ev.bind (has_ev B3.l.c hc) ?_
    rintro ⟨_, h2⟩ ⟨v2, rfl, hv2, k2⟩
    have e9 := e8.trans k2
    have B4 := B.ext e9
    have r2 : ∀ o, rd h2 h.next o = ([.int .i64 (arcAt l i).f, .int .i64 (arcAt l i).t, .int .i64 (arcAt l i).cap, .int .i64 (arcAt l i).cost] : List Value)[o]? := fun o => (k2.rd (Nat.lt_of_lt_of_le hb k1.next) o).trans (r1 o)
    obtain ⟨q3, p3, g1, g2, g3⟩ := B4.l.f.ix rfl (Int.natCast_nonneg i) (by omega)
    have hb2 : h.next < h2.next := Nat.lt_of_lt_of_le hb (Nat.le_trans k1.next k2.next)
    simp only [asB_bool, Option.bind_some, B4.fs, asS_slc B4.l.f.1, r2, List.getElem?_cons_zero, List.getElem?_cons_succ, asI_int, g1, g3, ckB_lt B4.lt, ckB_lt g2, ckB_lt hb2]
    have go : tight l F i → Ev (fun k => d_ref11_Cuts.l1 k b o b2 o2 ((i + 1 : Nat) : Int) [] h2) (RB h0 (∀ j : Nat, i ≤ j → j < l.length → tight l F j)) := fun k =>
      (cuts_loop1 N B hf hc S d (i + 1) _ (by omega) e9).mono fun q hq => hq.mono (Ext.refl _) (by rw [all_step hlt]; exact ⟨fun t => ⟨k, t⟩, fun t => t.2⟩)
    have bad : ¬ tight l F i → Ev (fun _ => some (Value.bool false, h2)) (RB h0 (∀ j : Nat, i ≤ j → j < l.length → tight l F j)) := fun k => Ev.ret (RB.f e9 (by rw [all_step hlt]; exact fun t => k t.1))
    unfold tight at go bad
    rw [← hv1, ← hv2] at go bad
    clear hv1 hv2
    repeat' (refine Ev.split (fun _ => ?_) (fun _ => ?_))
    all_goals first
      | (refine go ?_
         simp_all
         done)
      | (refine bad ?_
         simp_all
         done)
theorem cuts_loop0 {h0 : Hp} {b o b2 o2 : Nat} {n x y : Int} {a : Option Addr} {c : Nat} {l : List Arc} {F : Fr} (N : NetB h0 b o n a c l) (B : FrB h0 b2 o2 F) (hf : F.fl.length = l.length) (hc : F.cl.length ≤ 9223372036854775807) (S : Small n l) : ∀ (d i : Nat) (h : Hp), i + d = F.cl.length → Ext h0 h →
    Ev (fun k => d_ref11_Cuts.l0 k x y b o b2 o2 (i : Int) [] h) (RB h0 ((∀ j : Nat, i ≤ j → j < F.cl.length → rising n F.cl j) ∧ hasP F.cl x ∧ ¬ hasP F.cl y ∧ ∀ j : Nat, j < l.length → tight l F j))
  | 0, i, h, hd, e => by
    apply Ev.shift
    have B1 := B.ext e
    obtain rfl : i = F.cl.length := by omega
    simp only [d_ref11_Cuts.l0_succ, d_ref11_Cuts.b0, B1.cs, asS_slc B1.l.c.1, Option.bind_some, takeM_nil]
    refine Ev.neg (by simp) ?_
    refine Ev.bind (has_ev B1.l.c hc) ?_
    rintro ⟨_, h1⟩ ⟨v1, rfl, hv1, k1⟩
    have e2 := e.trans k1
    have B2 := B.ext e2
    simp only [asB_bool, Option.bind_some, B2.cs, asS_slc B2.l.c.1]
    refine Ev.split (fun c1 => ?_) (fun c1 => Ev.ret (RB.f e2 (fun k => by rw [hv1.2 k.2.1] at c1; cases c1)))
    refine Ev.bind (has_ev B2.l.c hc) ?_
    rintro ⟨_, h2⟩ ⟨v2, rfl, hv2, k2⟩
    have e3 := e2.trans k2
    simp only [asB_bool, Option.bind_some]
    refine Ev.split (fun c2 => Ev.ret (RB.f e3 (fun k => k.2.2.1 (hv2.1 c2)))) (fun c2 => ?_)
    refine (cuts_loop1 N B hf hc S l.length 0 _ (by omega) e3).mono fun q hq => hq.mono (Ext.refl _) ?_
    rw [all_zero]
    constructor
    · exact fun k => ⟨all_end _, hv1.1 (by simpa using c1), fun t => (by rw [hv2.2 t] at c2; cases c2), k⟩
    · exact fun k => k.2.2.2
  | d + 1, i, h, hd, e => by
    apply Ev.shift
    have N1 := N.ext e
    have B1 := B.ext e
    have hlt : i < F.cl.length := by omega
    obtain ⟨q1, p1, f1, f2, f3⟩ := B1.l.c.ix rfl (Int.natCast_nonneg i) (by omega)
    simp only [d_ref11_Cuts.l0_succ, d_ref11_Cuts.b0, B1.cs, asS_slc B1.l.c.1, N1.n, N1.s, asS_slc N1.arcs.1, asI_int, Option.bind_some, takeM_nil, f1, f3, ckB_lt N1.lt, ckB_lt B1.lt, ckB_lt f2, node_eq, asB_bool, w64_succ2 hlt hc]
    refine Ev.pos (by simp; omega) ?_
    have e2 := e.new' (.row 0 [.int .i64 n, .slice a l.length c])
    have B2 := B.ext e2
    have bad : ¬ rising n F.cl i → Ev (fun _ => some (Value.bool false, h.new (.row 0 [.int .i64 n, .slice a l.length c]))) (RB h0 ((∀ j : Nat, i ≤ j → j < F.cl.length → rising n F.cl j) ∧ hasP F.cl x ∧ ¬ hasP F.cl y ∧ ∀ j : Nat, j < l.length → tight l F j)) := fun k => Ev.ret (RB.f e2 (fun t => k (t.1 i (Nat.le_refl _) hlt)))
    have go : rising n F.cl i → Ev (fun k => d_ref11_Cuts.l0 k x y b o b2 o2 ((i + 1 : Nat) : Int) [] (h.new (.row 0 [.int .i64 n, .slice a l.length c]))) (RB h0 ((∀ j : Nat, i ≤ j → j < F.cl.length → rising n F.cl j) ∧ hasP F.cl x ∧ ¬ hasP F.cl y ∧ ∀ j : Nat, j < l.length → tight l F j)) := fun k =>
      (cuts_loop0 N B hf hc S d (i + 1) _ (by omega) e2).mono fun q hq => hq.mono (Ext.refl _) (by rw [all_step hlt]; exact ⟨fun t => ⟨⟨k, t.1⟩, t.2⟩, fun t => ⟨t.1.2, t.2⟩⟩)
    refine Ev.split (fun c1 => ?_) (fun c1 => bad (by unfold rising; simp at c1; omega))
    refine Ev.split (fun c2 => ?_) (fun c2 => go (by unfold rising; simp at c1 c2; omega))
    obtain ⟨q2, p2, g1, g2, g3⟩ := B2.l.c.ix rfl (Int.natCast_nonneg i) (by omega)
    rw [f1] at g1
    obtain ⟨rfl, rfl⟩ := Prod.mk.inj (Option.some.inj g1)
    have hi0 : 0 < i := by simp at c2; omega
    obtain ⟨q4, p4, k1, k2, k3⟩ := B2.l.c.ix (x := (i : Int) - 1) rfl (by omega) (by omega)
    have k2' : q4 < h.next := by
      have f4 := B1.l.c.ix (x := (i : Int) - 1) rfl (by omega) (by omega)
      obtain ⟨q5, p5, m1, m2, m3⟩ := f4
      rw [k1] at m1
      obtain ⟨rfl, rfl⟩ := Prod.mk.inj (Option.some.inj m1)
      exact m2
    have ws : w64 ((i : Int) - 1) = (i : Int) - 1 := w64_id (by omega) (by omega)
    simp only [B2.cs, asS_slc B2.l.c.1, Option.bind_some, g3, asI_int, f1, ws, k1, k3, ckB_lt B1.lt, ckB_lt f2, ckB_lt k2']
    refine Ev.split (fun c3 => bad ?_) (fun c3 => go ?_)
    · unfold rising; simp at c3; omega
    · unfold rising; simp at c3 c1; omega
theorem cuts_ev {h : Hp} {n x y : Int} {a : Option Addr} {c : Nat} {l : List Arc} {F : Fr} (ha : Arcs h a l) (B : FrL h F) (hf : F.fl.length = l.length) (hc : F.cl.length ≤ 9223372036854775807) (S : Small n l) : Ev (fun k => d_ref11_Cuts.r k n a l.length c x y F.sent F.cost F.fa F.fl.length F.fc F.pa F.pl.length F.pc F.ca F.cl.length F.cc h) (RB h (cutsP n l x y F)) := by
  have N := NetB.new ha n c
  have e := Ext.new h (.row 0 [.int .i64 n, .slice a l.length c])
  have B1 := FrB.new (B.ext e)
  have e1 := Ext.new (h.new (.row 0 [.int .i64 n, .slice a l.length c])) (.row 0 F.row)
  have N1 := N.ext e1
  unfold Fr.row at B1 N1 e1
  simp only [d_ref11_Cuts.r, lt_eq]
  refine (cuts_loop0 N1 B1 hf hc S F.cl.length 0 _ (by omega) (Ext.refl _)).mono fun q hq => hq.mono (e.trans e1) ?_
  rw [all_zero]
  exact Iff.rfl
end Go.Proofs.Ytgikimegikelkaa.Dn

/- Chapter 11: priced, cuts, Accept; the law CostAcceptsAsSpecified. -/
import Derived.Test.YtgikimegikelkaaR11e
namespace Go.Proofs.Ytgikimegikelkaa.Dn
open Go Go.Proofs.Ytgikimegikelkaa.Ab
set_option linter.unusedVariables false
set_option linter.unusedSimpArgs false

/-! ### priced -/
theorem idx_loop {h0 : Hp} {a : Option Addr} {c : Nat} {l : List Int} (F : Ints h0 a l) (hl : l.length ≤ 1048576) : ∀ (d i : Nat), i + d = l.length →
    Ev (fun k => d_slices_IndexFunc_int_int.l0 k a l.length c (l.length : Int) (i : Int) [] h0) (fun q => ∃ z : Int, q = (.int .i64 z, h0) ∧ (0 ≤ z ↔ ∃ j : Nat, i ≤ j ∧ j < l.length ∧ ¬ (0 ≤ intAt l j ∧ intAt l j ≤ 1073741824)))
  | 0, i, hd => by
    apply Ev.shift
    simp only [d_slices_IndexFunc_int_int.l0_succ, d_slices_IndexFunc_int_int.b0, Option.bind_some, takeM_nil]
    exact Ev.neg (by simp; omega) (Ev.ret ⟨-1, rfl, ⟨fun h => by omega, fun ⟨j, h1, h2, _⟩ => by omega⟩⟩)
  | d + 1, i, hd => by
    apply Ev.shift
    have hlt : i < l.length := by omega
    obtain ⟨b2, p2, f1, f2, f3⟩ := F.ix rfl (Int.natCast_nonneg i) (by omega)
    have pe : ∀ k, d_cost_priced_1.r k (intAt l i) h0 = some (.bool (decide (¬ (0 ≤ intAt l i ∧ intAt l i ≤ 1073741824))), h0) := by
      intro k
      unfold d_cost_priced_1.r
      rw [bc_eq]
      split
      · rename_i h1
        simp at h1
        refine congrArg some (Prod.ext (congrArg Value.bool (decide_eq_decide.2 ?_)) rfl)
        omega
      · rename_i h1
        simp at h1
        refine congrArg some (Prod.ext (congrArg Value.bool ?_) rfl)
        simp; omega
    simp only [d_slices_IndexFunc_int_int.l0_succ, d_slices_IndexFunc_int_int.b0, Option.bind_some, takeM_nil, f1, f3, asI_int, pe, asB_bool, w64_succ hlt (by omega)]
    refine Ev.pos (by simp; omega) ?_
    refine Ev.split (fun h1 => Ev.ret ⟨i, rfl, ⟨fun _ => ⟨i, Nat.le_refl _, hlt, by simpa only [decide_eq_true_eq] using h1⟩, fun _ => Int.natCast_nonneg i⟩⟩) (fun h1 => (idx_loop F hl d (i + 1) (by omega)).mono ?_)
    rintro q ⟨z, rfl, hz⟩
    refine ⟨z, rfl, hz.trans ?_⟩
    rw [decide_eq_false_iff_not] at h1
    constructor
    · rintro ⟨j, h2, h3, h4⟩; exact ⟨j, by omega, h3, h4⟩
    · rintro ⟨j, h2, h3, h4⟩
      by_cases c : j = i
      · subst c; exact absurd h4 h1
      · exact ⟨j, by omega, h3, h4⟩
theorem contains_ev {h : Hp} {a : Option Addr} {c : Nat} {l : List Int} {n : Int} (F : Ints h a l) (hl : l.length ≤ 1048576) (hn : (l.length : Int) = n) : Ev (fun k => d_slices_ContainsFunc_int_int.r k a l.length c h) (RB h (¬ pricesP n l)) := by
  simp only [d_slices_ContainsFunc_int_int.r, d_slices_IndexFunc_int_int.r]
  refine Ev.bind (idx_loop F hl l.length 0 (by omega)) ?_
  rintro q ⟨z, rfl, hz⟩
  simp only [asI_int, Option.bind_some]
  refine Ev.ret (RB.d (Ext.refl _) ?_)
  rw [decide_eq_true_eq, ge_iff_le, hz]
  unfold pricesP
  constructor
  · rintro ⟨j, _, h2, h3⟩ k
    exact h3 (k j (by omega))
  · intro k
    have : ∃ j : Nat, ¬ ((j : Int) < n → 0 ≤ intAt l j ∧ intAt l j ≤ 1073741824) := Classical.not_forall.1 k
    obtain ⟨j, hj⟩ := this
    obtain ⟨h1, h2⟩ := Classical.not_imp.1 hj
    exact ⟨j, Nat.zero_le _, by omega, h2⟩
theorem cpriced_loop {h0 : Hp} {b2 o2 : Nat} {n : Int} {a : Option Addr} {c : Nat} {l : List Arc} {F : Fr} (ha : Arcs h0 a l) (B : FrB h0 b2 o2 F) (hf : F.fl.length = l.length) (hp : (F.pl.length : Int) = n) (S : Small n l) (hi : pricesP n F.pl) : ∀ (d i : Nat) (h : Hp), i + d = l.length → Ext h0 h →
    Ev (fun k => d_cost_priced.l0 k b2 o2 a l.length c (l.length : Int) (i : Int) [] h) (RB h0 (∀ j : Nat, i ≤ j → j < l.length → slackP l F j))
  | 0, i, h, hd, e => by
    apply Ev.shift
    obtain rfl : i = l.length := by omega
    simp only [d_cost_priced.l0_succ, d_cost_priced.b0, Option.bind_some, takeM_nil]
    exact Ev.neg (by simp) (Ev.ret (RB.t e (all_end _)))
  | d + 1, i, h, hd, e => by
    apply Ev.shift
    have hlt : i < l.length := by omega
    have hlen := S.len
    obtain ⟨⟨a1, a2⟩, ⟨a3, a4⟩, a5, a6, a7, a8, a9⟩ := (checkP_ok S.ok).2 i hlt
    obtain ⟨b', p, e1, e2, e3, e4, e5, e6⟩ := (ha.ext e).ix rfl (Int.natCast_nonneg i) (by omega)
    have e7 := e.new' (.row 0 [.int .i64 (arcAt l i).f, .int .i64 (arcAt l i).t, .int .i64 (arcAt l i).cap, .int .i64 (arcAt l i).cost])
    have B2 := B.ext e7
    obtain ⟨q1, p1, f1, f2, f3⟩ := B2.l.p.ix rfl a1 (by omega)
    obtain ⟨q2, p2, g1, g2, g3⟩ := B2.l.p.ix rfl a3 (by omega)
    obtain ⟨q3, p3, k1, k2, k3⟩ := B2.l.f.ix rfl (Int.natCast_nonneg i) (by omega)
    have hx := hi (arcAt l i).f.toNat (by omega)
    have hy := hi (arcAt l i).t.toNat (by omega)
    rw [Int.toNat_of_nonneg a1] at hx
    rw [Int.toNat_of_nonneg a3] at hy
    have w1 : w64 ((arcAt l i).cost + intAt F.pl (arcAt l i).f) = (arcAt l i).cost + intAt F.pl (arcAt l i).f := w64_id (by omega) (by omega)
    have w2 : w64 ((arcAt l i).cost + intAt F.pl (arcAt l i).f - intAt F.pl (arcAt l i).t) = redP l F.pl i := w64_id (by omega) (by omega)
    have hb : h.next < (h.new (.row 0 [.int .i64 (arcAt l i).f, .int .i64 (arcAt l i).t, .int .i64 (arcAt l i).cap, .int .i64 (arcAt l i).cost])).next := Nat.lt_succ_self _
    simp only [d_cost_priced.l0_succ, d_cost_priced.b0, Option.bind_some, takeM_nil, e1, e3, e4, e5, e6, asI_int, w64_succ hlt (by omega), lt_eq, new_wr, List.length_cons, List.length_nil, rd_new, List.getElem?_cons_zero, List.getElem?_cons_succ, Nat.zero_add,
      B2.ps, B2.fs, asS_slc B2.l.p.1, asS_slc B2.l.f.1, f1, f3, g1, g3, k1, k3, w1, w2, ckB_lt hb, ckB_lt B2.lt, ckB_lt f2, ckB_lt g2, ckB_lt k2]
    refine Ev.pos (by simp; omega) ?_
    have go : slackP l F i → Ev (fun k => d_cost_priced.l0 k b2 o2 a l.length c (l.length : Int) ((i + 1 : Nat) : Int) [] (h.new (.row 0 [.int .i64 (arcAt l i).f, .int .i64 (arcAt l i).t, .int .i64 (arcAt l i).cap, .int .i64 (arcAt l i).cost]))) (RB h0 (∀ j : Nat, i ≤ j → j < l.length → slackP l F j)) := fun k =>
      (cpriced_loop ha B hf hp S hi d (i + 1) _ (by omega) e7).mono fun q hq => hq.mono (Ext.refl _) (by rw [all_step hlt]; exact ⟨fun t => ⟨k, t⟩, fun t => t.2⟩)
    have bad : ¬ slackP l F i → ∀ h1, Ext h0 h1 → Ev (fun _ => some (Value.bool false, h1)) (RB h0 (∀ j : Nat, i ≤ j → j < l.length → slackP l F j)) := fun k h1 e1 => Ev.ret (RB.f e1 (by rw [all_step hlt]; exact fun t => k t.1))
    repeat' (refine Ev.split (fun _ => ?_) (fun _ => ?_))
    all_goals first
      | (refine go ?_
         unfold slackP
         simp only [Bool.not_not, Bool.not_eq_true', Bool.not_eq_false', decide_eq_true_eq, decide_eq_false_iff_not] at *
         omega)
      | (refine bad ?_ _ e7
         unfold slackP
         simp only [Bool.not_not, Bool.not_eq_true', Bool.not_eq_false', decide_eq_true_eq, decide_eq_false_iff_not] at *
         omega)
theorem cpriced_ev {h : Hp} {n x : Int} {a : Option Addr} {c : Nat} {l : List Arc} {F : Fr} (ha : Arcs h a l) (L : FrL h F) (hf : F.fl.length = l.length) (S : Small n l) (hx : 0 ≤ x ∧ x < n) : Ev (fun k => d_cost_priced.r k n a l.length c x F.sent F.cost F.fa F.fl.length F.fc F.pa F.pl.length F.pc F.ca F.cl.length F.cc h) (RB h (pricedP n l x F)) := by
  have N := NetB.new ha n c
  have e := Ext.new h (.row 0 [.int .i64 n, .slice a l.length c])
  have B1 := FrB.new (L.ext e)
  have e1 := Ext.new (h.new (.row 0 [.int .i64 n, .slice a l.length c])) (.row 0 F.row)
  have N1 := N.ext e1
  unfold Fr.row at B1 N1 e1
  have hn := (checkP_ok S.ok).1
  simp only [d_cost_priced.r, lt_eq, N1.n, B1.ps, Nat.zero_add, asS_slc L.p.1, Option.bind_some, asI_int]
  have e2 := e.trans e1
  refine Ev.split (fun h1 => ?_) (fun h1 => Ev.ret (RB.f e2 (fun k => by have := k.1; simp at h1; omega)))
  have hp : (F.pl.length : Int) = n := by simp at h1; omega
  obtain ⟨q1, p1, f1, f2, f3⟩ := B1.l.p.ix rfl hx.1 (by omega)
  simp only [f1, f3, asI_int, Option.bind_some]
  refine Ev.split (fun h2 => ?_) (fun h2 => Ev.ret (RB.f e2 (fun k => by have := k.2.1; simp at h2; omega)))
  refine Ev.bind (contains_ev B1.l.p (by omega) hp) ?_
  rintro ⟨_, h3⟩ ⟨v1, rfl, hv1, k1⟩
  have N2 := N1.ext k1
  simp only [asB_bool, Option.bind_some, N2.s, asS_slc ha.1]
  refine Ev.split (fun c1 => Ev.ret (RB.f (e2.trans k1) (fun k => hv1.1 c1 k.2.2.1))) (fun c1 => ?_)
  have hi : pricesP n F.pl := Classical.byContradiction (fun t => by rw [hv1.2 t] at c1; cases c1)
  refine (cpriced_loop N2.arcs (B1.ext k1) hf hp S hi l.length 0 _ (by omega) (Ext.refl _)).mono fun q hq => hq.mono (e2.trans k1) ?_
  rw [all_zero]
  simp at h2
  exact ⟨fun k => ⟨hp, h2, hi, k⟩, fun k => k.2.2.2⟩

/-! ### cuts -/
theorem ccuts_loop1 {hb : Hp} {b2 o2 : Nat} {n : Int} {a : Option Addr} {c : Nat} {l : List Arc} {F : Fr} {R : List Bool} {r : Nat} (ha : Arcs hb a l) (B : FrB hb b2 o2 F) (hf : F.fl.length = l.length) (S : Small n l) (hR : (R.length : Int) = n) (hv : ∀ j : Nat, j < R.length → (boolAt R j = true ↔ hasP F.cl j)) (hrn : r < hb.next) (hr : hb.g r = some (.row 1 (brow R))) : ∀ (d i : Nat) (h : Hp), i + d = l.length → Ext hb h →
    Ev (fun k => d_cost_cuts.l1 k b2 o2 (some ⟨r, 0, none⟩) R.length R.length a l.length c (l.length : Int) (i : Int) [] h) (RB hb (∀ j : Nat, i ≤ j → j < l.length → tight l F j))
  | 0, i, h, hd, e => by
    apply Ev.shift
    obtain rfl : i = l.length := by omega
    simp only [d_cost_cuts.l1_succ, d_cost_cuts.b1, Option.bind_some, takeM_nil]
    exact Ev.neg (by simp) (Ev.ret (RB.t e (all_end _)))
  | d + 1, i, h, hd, e => by
    apply Ev.shift
    have hlt : i < l.length := by omega
    have hlen := S.len
    obtain ⟨⟨a1, a2⟩, ⟨a3, a4⟩, a5, a6, a7, a8, a9⟩ := (checkP_ok S.ok).2 i hlt
    obtain ⟨b', p, e1, e2, e3, e4, e5, e6⟩ := (ha.ext e).ix rfl (Int.natCast_nonneg i) (by omega)
    have e7 := e.new' (.row 0 [.int .i64 (arcAt l i).f, .int .i64 (arcAt l i).t, .int .i64 (arcAt l i).cap, .int .i64 (arcAt l i).cost])
    have hb' : h.next < (h.new (.row 0 [.int .i64 (arcAt l i).f, .int .i64 (arcAt l i).t, .int .i64 (arcAt l i).cap, .int .i64 (arcAt l i).cost])).next := Nat.lt_succ_self _
    have B2 := B.ext e7
    have r7 := (e7.old r hrn).trans hr
    have hr7 := Nat.lt_of_lt_of_le hrn e7.next
    obtain ⟨q3, p3, k1, k2, k3⟩ := B2.l.f.ix rfl (Int.natCast_nonneg i) (by omega)
    obtain ⟨fN, hfN⟩ : ∃ f : Nat, (arcAt l i).f = f := ⟨(arcAt l i).f.toNat, by omega⟩
    obtain ⟨tN, htN⟩ : ∃ t : Nat, (arcAt l i).t = t := ⟨(arcAt l i).t.toNat, by omega⟩
    have hf1 : fN < R.length := by omega
    have ht1 : tN < R.length := by omega
    have x1 := ixA_row (r := r) (n := R.length) a1 (by omega)
    have x2 := ixA_row (r := r) (n := R.length) a3 (by omega)
    have tN' : (arcAt l i).t.toNat = tN := by omega
    have fN' : (arcAt l i).f.toNat = fN := by omega
    simp only [d_cost_cuts.l1_succ, d_cost_cuts.b1, Option.bind_some, takeM_nil, e1, e3, e4, e5, e6, asI_int, w64_succ hlt (by omega), lt_eq, new_wr, List.length_cons, List.length_nil, rd_new, List.getElem?_cons_zero, List.getElem?_cons_succ, Nat.zero_add,
      B2.fs, asS_slc B2.l.f.1, x1, x2, fN', tN', brow_rd r7 hf1, brow_rd r7 ht1, asB_bool, k1, k3, ckB_lt hb', ckB_lt B2.lt, ckB_lt k2, ckB_lt hr7]
    refine Ev.pos (by simp; omega) ?_
    have go : tight l F i → Ev (fun k => d_cost_cuts.l1 k b2 o2 (some ⟨r, 0, none⟩) R.length R.length a l.length c (l.length : Int) ((i + 1 : Nat) : Int) [] (h.new (.row 0 [.int .i64 (arcAt l i).f, .int .i64 (arcAt l i).t, .int .i64 (arcAt l i).cap, .int .i64 (arcAt l i).cost]))) (RB hb (∀ j : Nat, i ≤ j → j < l.length → tight l F j)) := fun k =>
      (ccuts_loop1 ha B hf S hR hv hrn hr d (i + 1) _ (by omega) e7).mono fun q hq => hq.mono (Ext.refl _) (by rw [all_step hlt]; exact ⟨fun t => ⟨k, t⟩, fun t => t.2⟩)
    have bad : ¬ tight l F i → ∀ h1, Ext hb h1 → Ev (fun _ => some (Value.bool false, h1)) (RB hb (∀ j : Nat, i ≤ j → j < l.length → tight l F j)) := fun k h1 e1 => Ev.ret (RB.f e1 (by rw [all_step hlt]; exact fun t => k t.1))
    unfold tight at go bad
    have hvf : boolAt R fN = true ↔ hasP F.cl (arcAt l i).f := by rw [hfN]; exact hv fN hf1
    have hvt : boolAt R tN = true ↔ hasP F.cl (arcAt l i).t := by rw [htN]; exact hv tN ht1
    rw [← hvf, ← hvt] at go bad
    clear hvf hvt hv
    generalize boolAt R fN = u1 at *
    generalize boolAt R tN = u2 at *
    generalize intAt F.fl i = u3 at *
    generalize (arcAt l i).cap = u4 at *
    have q1 : u3 = u4 ∨ u3 ≠ u4 := Classical.em _
    have q2 : u3 = 0 ∨ u3 ≠ 0 := Classical.em _
    cases u1 <;> cases u2 <;> rcases q1 with q1 | q1 <;> rcases q2 with q2 | q2
    all_goals
      first
        | rw [beq_iff_eq.2 q1]
        | rw [beq_eq_false_iff_ne.2 q1]
        | skip
      first
        | rw [beq_iff_eq.2 q2]
        | rw [beq_eq_false_iff_ne.2 q2]
        | skip
      simp only [bc, Bool.not_true, Bool.not_false]
      first
        | exact go (by simp [q1, q2]; try omega)
        | exact bad (by simp [q1, q2]; try omega) _ e7
theorem ccuts_loop0 {hb : Hp} {b o b2 o2 : Nat} {n x y : Int} {a : Option Addr} {c : Nat} {l : List Arc} {F : Fr} (N : NetB hb b o n a c l) (B : FrB hb b2 o2 F) (hf : F.fl.length = l.length) (hc : F.cl.length ≤ 9223372036854775807) (S : Small n l) (hx : 0 ≤ x ∧ x < n) (hy : 0 ≤ y ∧ y < n) : ∀ (d i : Nat) (h : Hp) (R : List Bool), i + d = F.cl.length → Ext hb h → (R.length : Int) = n → (∀ j : Nat, j < R.length → (boolAt R j = true ↔ ∃ t : Nat, t < i ∧ intAt F.cl t = j)) → h.g hb.next = some (.row 1 (brow R)) → hb.next < h.next →
    Ev (fun k => d_cost_cuts.l0 k x y b o b2 o2 (some ⟨hb.next, 0, none⟩) R.length R.length F.ca F.cl.length F.cc (F.cl.length : Int) (i : Int) [] h) (RB hb ((∀ j : Nat, i ≤ j → j < F.cl.length → rising n F.cl j) ∧ hasP F.cl x ∧ ¬ hasP F.cl y ∧ ∀ j : Nat, j < l.length → tight l F j))
  | 0, i, h, R, hd, e, hR, hv, hr, hnx => by
    apply Ev.shift
    obtain rfl : i = F.cl.length := by omega
    have hv' : ∀ j : Nat, j < R.length → (boolAt R j = true ↔ hasP F.cl j) := hv
    have x1 := ixA_row (r := hb.next) (n := R.length) hx.1 (by omega)
    have y1 := ixA_row (r := hb.next) (n := R.length) hy.1 (by omega)
    have hvx := hv' x.toNat (by omega)
    have hvy := hv' y.toNat (by omega)
    rw [Int.toNat_of_nonneg hx.1] at hvx
    rw [Int.toNat_of_nonneg hy.1] at hvy
    have rx := brow_rd hr (i := x.toNat) (by omega)
    have ry := brow_rd hr (i := y.toNat) (by omega)
    rw [Int.toNat_of_nonneg hx.1] at rx
    rw [Int.toNat_of_nonneg hy.1] at ry
    simp only [d_cost_cuts.l0_succ, d_cost_cuts.b0, Option.bind_some, takeM_nil, x1, y1, rx, ry, asB_bool, (N.ext e).s, asS_slc N.arcs.1]
    refine Ev.neg (by simp) ?_
    refine Ev.split (fun c1 => ?_) (fun c1 => Ev.ret (RB.f e (fun k => by rw [hvx.2 k.2.1] at c1; cases c1)))
    refine Ev.split (fun c2 => Ev.ret (RB.f e (fun k => k.2.2.1 (hvy.1 c2)))) (fun c2 => ?_)
    refine (ccuts_loop1 (N.arcs.ext e) (B.ext e) hf S hR hv' hnx hr l.length 0 _ (by omega) (Ext.refl _)).mono fun q hq => hq.mono e ?_
    rw [all_zero]
    constructor
    · exact fun k => ⟨all_end _, hvx.1 (by simpa using c1), fun t => (by rw [hvy.2 t] at c2; cases c2), k⟩
    · exact fun k => k.2.2.2
  | d + 1, i, h, R, hd, e, hR, hv, hr, hnx => by
    apply Ev.shift
    have N1 := N.ext e
    have B1 := B.ext e
    have hlt : i < F.cl.length := by omega
    obtain ⟨q1, p1, f1, f2, f3⟩ := B1.l.c.ix rfl (Int.natCast_nonneg i) (by omega)
    simp only [d_cost_cuts.l0_succ, d_cost_cuts.b0, B1.cs, asS_slc B1.l.c.1, N1.n, N1.s, asS_slc N1.arcs.1, asI_int, Option.bind_some, takeM_nil, f1, f3, w64_succ2 hlt hc]
    refine Ev.pos (by simp; omega) ?_
    have bad : ¬ rising n F.cl i → Ev (fun _ => some (Value.bool false, h)) (RB hb ((∀ j : Nat, i ≤ j → j < F.cl.length → rising n F.cl j) ∧ hasP F.cl x ∧ ¬ hasP F.cl y ∧ ∀ j : Nat, j < l.length → tight l F j)) := fun k => Ev.ret (RB.f e (fun t => k (t.1 i (Nat.le_refl _) hlt)))
    refine Ev.split (fun c1 => ?_) (fun c1 => bad (by unfold rising; simp at c1; omega))
    refine Ev.split (fun c2 => ?_) (fun c2 => bad (by unfold rising; simp at c2; omega))
    simp only [Bool.not_eq_true', decide_eq_false_iff_not] at c1 c2
    obtain ⟨cN, hcN⟩ : ∃ f : Nat, intAt F.cl i = f := ⟨(intAt F.cl i).toNat, by omega⟩
    have hc1 : cN < R.length := by omega
    have x1 := ixA_row (r := hb.next) (n := R.length) (x := intAt F.cl i) (by omega) (by omega)
    have cN' : (intAt F.cl i).toNat = cN := by omega
    have go : rising n F.cl i → Ev (fun k => (ixA (some ⟨hb.next, 0, none⟩) R.length 1 (intAt F.cl i)).bind fun p => (wr h p.1 p.2 [.bool true]).bind fun h1 => d_cost_cuts.l0 k x y b o b2 o2 (some ⟨hb.next, 0, none⟩) R.length R.length F.ca F.cl.length F.cc (F.cl.length : Int) ((i + 1 : Nat) : Int) [] h1) (RB hb ((∀ j : Nat, i ≤ j → j < F.cl.length → rising n F.cl j) ∧ hasP F.cl x ∧ ¬ hasP F.cl y ∧ ∀ j : Nat, j < l.length → tight l F j)) := fun k => by
      simp only [x1, Option.bind_some, cN', brow_wr hr hc1]
      have := (ccuts_loop0 N B hf hc S hx hy d (i + 1) (h.set hb.next (.row 1 (brow (R.set cN true)))) (R.set cN true) (by omega) (e.set _ (Nat.le_refl _)) (by simpa using hR) (fun j hj => by
        simp only [List.length_set] at hj
        rw [boolAt_set hc1]
        by_cases c : j = cN
        · subst c
          rw [if_pos rfl]
          exact ⟨fun _ => ⟨i, Nat.lt_succ_self _, hcN⟩, fun _ => rfl⟩
        · rw [if_neg c, hv j hj]
          constructor
          · rintro ⟨t, h1, h2⟩; exact ⟨t, by omega, h2⟩
          · rintro ⟨t, h1, h2⟩
            refine ⟨t, ?_, h2⟩
            by_cases c' : t = i
            · subst c'; omega
            · omega) (set_g _ _ _) hnx).mono fun q hq => hq.mono (P' := (∀ j : Nat, i ≤ j → j < F.cl.length → rising n F.cl j) ∧ hasP F.cl x ∧ ¬ hasP F.cl y ∧ ∀ j : Nat, j < l.length → tight l F j) (Ext.refl _) (by rw [all_step hlt]; exact ⟨fun t => ⟨⟨k, t.1⟩, t.2⟩, fun t => ⟨t.1.2, t.2⟩⟩)
      rw [List.length_set] at this
      exact this
    refine Ev.split (fun c3 => ?_) (fun c3 => go (by unfold rising; simp at c3; omega))
    have hi0 : 0 < i := by simp at c3; omega
    obtain ⟨q4, p4, k1, k2, k3⟩ := B1.l.c.ix (x := (i : Int) - 1) rfl (by omega) (by omega)
    have ws : w64 ((i : Int) - 1) = (i : Int) - 1 := w64_id (by omega) (by omega)
    simp only [Option.bind_some, ws, k1, k3, asI_int]
    refine Ev.split (fun c4 => bad ?_) (fun c4 => go ?_)
    · unfold rising; simp at c4; omega
    · unfold rising; simp at c4; omega
theorem ccuts_ev {h : Hp} {n x y : Int} {a : Option Addr} {c : Nat} {l : List Arc} {F : Fr} (ha : Arcs h a l) (L : FrL h F) (hf : F.fl.length = l.length) (hc : F.cl.length ≤ 9223372036854775807) (S : Small n l) (hx : 0 ≤ x ∧ x < n) (hy : 0 ≤ y ∧ y < n) : Ev (fun k => d_cost_cuts.r k n a l.length c x y F.sent F.cost F.fa F.fl.length F.fc F.pa F.pl.length F.pc F.ca F.cl.length F.cc h) (RB h (cutsP n l x y F)) := by
  have N := NetB.new ha n c
  have e := Ext.new h (.row 0 [.int .i64 n, .slice a l.length c])
  have B1 := FrB.new (L.ext e)
  have e1 := Ext.new (h.new (.row 0 [.int .i64 n, .slice a l.length c])) (.row 0 F.row)
  have N1 := N.ext e1
  have e3 := Ext.new (Hp.new (h.new (.row 0 [.int .i64 n, .slice a l.length c])) (.row 0 F.row)) (.row 1 (brow (List.replicate n.toNat false)))
  have B2 := B1.ext e3
  unfold Fr.row at B1 N1 e1 e3 B2
  have hn := (checkP_ok S.ok).1
  simp only [d_cost_cuts.r, lt_eq, N1.n, asI_int, Option.bind_some]
  refine Ev.ck (by simp; omega) ?_
  rw [repl_bool]
  simp only [Nat.zero_add, B2.cs, asS_slc L.c.1, Option.bind_some]
  have hlen : (List.replicate n.toNat false).length = n.toNat := List.length_replicate
  have := ccuts_loop0 N1 B1 hf hc S hx hy F.cl.length 0 _ (List.replicate n.toNat false) (by omega) e3 (by rw [hlen]; omega) (fun j hj => by rw [boolAt_repl]; simp) (new_g _ _) (Nat.lt_succ_self _)
  rw [hlen] at this
  refine this.mono fun q hq => hq.mono (e.trans e1) ?_
  rw [all_zero]
  exact Iff.rfl

/-! ### Accept -/
theorem caccept_ev {h : Hp} {n x y m : Int} {a : Option Addr} {c : Nat} {l : List Arc} {F : Fr} (ha : Arcs h a l) (L : FrL h F) (hc : F.cl.length ≤ 9223372036854775807) (S : Small n l) (hx : 0 ≤ x ∧ x < n) (hy : 0 ≤ y ∧ y < n) :
    Ev (fun k => d_cost_Accept.r k n a l.length c x y m F.sent F.cost F.fa F.fl.length F.fc F.pa F.pl.length F.pc F.ca F.cl.length F.cc h) (RE h (acceptP n l x y m F)) := by
  have N := NetB.new ha n c
  have e := Ext.new h (.row 0 [.int .i64 n, .slice a l.length c])
  have B1 := FrB.new (L.ext e)
  have e1 := Ext.new (h.new (.row 0 [.int .i64 n, .slice a l.length c])) (.row 0 F.row)
  have N1 := N.ext e1
  unfold Fr.row at B1 N1 e1
  simp only [d_cost_Accept.r, lt_eq, N1.n, N1.s, B1.s, B1.k, B1.fs, B1.ps, B1.cs, Nat.zero_add, asS_slc ha.1, asS_slc L.f.1, asS_slc L.p.1, asS_slc L.c.1, Option.bind_some, asI_int]
  have e2 := e.trans e1
  refine Ev.split (fun c1 => ?_) (fun c1 => Ev.ret (RE.f e2 (fun t => by have := t.2.1; simp at c1; omega)))
  refine Ev.split (fun c2 => ?_) (fun c2 => Ev.ret (RE.f e2 (fun t => by have := t.2.2.1; simp at c2; omega)))
  refine Ev.bind (cflows_ev N1.arcs B1.l S hx) ?_
  rintro ⟨_, h1⟩ ⟨v1, rfl, hv1, k1⟩
  have N2 := N1.ext k1
  have B2 := B1.ext k1
  have e3 := e2.trans k1
  simp only [asB_bool, asI_int, Option.bind_some, N2.n, N2.s, B2.s, B2.k, B2.fs, B2.ps, B2.cs, asS_slc ha.1, asS_slc L.f.1, asS_slc L.p.1, asS_slc L.c.1]
  refine Ev.split (fun c3 => ?_) (fun c3 => Ev.ret (RE.f e3 (fun t => by rw [hv1.2 ⟨t.1, t.2.2.2.1, t.2.2.2.2.1⟩] at c3; cases c3)))
  obtain ⟨hfl, hva, hto⟩ := hv1.1 (by simpa using c3)
  refine Ev.bind (cpriced_ev N2.arcs B2.l hfl.1 S hx) ?_
  rintro ⟨_, h2⟩ ⟨v2, rfl, hv2, k2⟩
  have N3 := N2.ext k2
  have B3 := B2.ext k2
  have e4 := e3.trans k2
  simp only [asB_bool, asI_int, Option.bind_some, N3.n, N3.s, B3.s, B3.k, B3.fs, B3.ps, B3.cs, asS_slc ha.1, asS_slc L.f.1, asS_slc L.p.1, asS_slc L.c.1]
  refine Ev.split (fun c4 => Ev.ret (RE.f e4 (fun t => by have := hv2.2 t.2.2.2.2.2.1; simp [this] at c4))) (fun c4 => ?_)
  have hpr : pricedP n l x F := hv2.1 (by simpa using c4)
  have acc : acceptP n l x y m F ↔ endP n l x y m F := by
    simp at c1 c2
    unfold acceptP
    exact ⟨fun t => t.2.2.2.2.2.2, fun t => ⟨hfl, by omega, by omega, hva, hto, hpr, t⟩⟩
  rw [acc]
  simp only [Bool.not_eq_true', decide_eq_false_iff_not, decide_eq_true_eq] at c1 c2
  refine Ev.split (fun c5 => ?_) (fun c5 => ?_)
  · have c5' : F.sent = m := by simpa using c5
    refine Ev.split (fun c6 => ?_) (fun c6 => Ev.ret (RE.t e4 (.inl ⟨c5', by simp at c6; simp [c6]⟩)))
    refine Ev.neg (by simp; omega) (Ev.ret (RE.f e4 ?_))
    rintro (t | t)
    · simp [t.2] at c6
    · exact t.1 c5'
  · have c5' : F.sent ≠ m := by simpa using c5
    refine Ev.pos (by simp; omega) ?_
    refine Ev.bind (ccuts_ev N3.arcs B3.l hfl.1 hc S hx hy) ?_
    rintro ⟨_, h5⟩ ⟨v5, rfl, hv5, k5⟩
    simp only [asB_bool, Option.bind_some]
    refine Ev.split (fun c8 => Ev.ret (RE.t (e4.trans k5) (.inr ⟨c5', hv5.1 c8⟩))) (fun c8 => Ev.ret (RE.f (e4.trans k5) ?_))
    rintro (t | t)
    · exact c5' t.1
    · rw [hv5.2 t.2] at c8; cases c8

theorem law_accepts {h : Hp} {n x y m : Int} {a : Option Addr} {c : Nat} {l : List Arc} {F : Fr} (ha : Arcs h a l) (L : FrL h F) :
    Ev (fun k => d_law11_CostAcceptsAsSpecified.r k n a l.length c x y m F.sent F.cost F.fa F.fl.length F.fc F.pa F.pl.length F.pc F.ca F.cl.length F.cc h) (fun q => q.1 = .bool true) := by
  have N := NetB.new ha n c
  have e := Ext.new h (.row 0 [.int .i64 n, .slice a l.length c])
  have B1 := FrB.new (L.ext e)
  have e1 := Ext.new (h.new (.row 0 [.int .i64 n, .slice a l.length c])) (.row 0 F.row)
  have N1 := N.ext e1
  unfold Fr.row at B1 N1 e1
  simp only [d_law11_CostAcceptsAsSpecified.r, lt_eq, N1.n, N1.s, Nat.zero_add, asS_slc ha.1, Option.bind_some, asI_int]
  refine Ev.bind (few_ev N1.arcs) ?_
  rintro ⟨_, h1⟩ ⟨v1, rfl, hv1, k1⟩
  have N2 := N1.ext k1
  have B2 := B1.ext k1
  simp only [asB_bool, asI_int, Option.bind_some, N2.n, N2.s, asS_slc ha.1]
  refine Ev.split (fun c1 => ?_) (fun c1 => Ev.ret rfl)
  have hfew := hv1.1 (by simpa using c1)
  have S : Small n l := ⟨hfew.2.1, hfew.2.2.1⟩
  refine Ev.bind (task_ev N2.arcs) ?_
  rintro ⟨_, h2⟩ ⟨rfl, k2⟩
  have N3 := N2.ext k2
  have B3 := B2.ext k2
  simp only [asB_bool, asI_int, Option.bind_some, N3.n, N3.s, B3.s, B3.k, B3.fs, B3.ps, B3.cs, asS_slc ha.1, asS_slc L.f.1, asS_slc L.p.1, asS_slc L.c.1, ckB_lt N3.lt, ckB_lt B3.lt]
  refine Ev.split (fun c2 => ?_) (fun c2 => Ev.ret rfl)
  have ht : taskP n l x y m = true := by simpa using c2
  unfold taskP at ht
  rw [decide_eq_true_eq] at ht
  obtain ⟨_, hx0, hx1, hy0, hy1, hxy, hm0, hm1⟩ := ht
  refine Ev.split (fun c3 => ?_) (fun c3 => Ev.ret rfl)
  refine Ev.split (fun c4 => ?_) (fun c4 => Ev.ret rfl)
  refine Ev.split (fun c5 => Ev.ret rfl) (fun c5 => ?_)
  have hc : F.cl.length ≤ 9223372036854775807 := by simp at c5; omega
  refine Ev.bind (caccept_ev N3.arcs B3.l hc S ⟨hx0, hx1⟩ ⟨hy0, hy1⟩) ?_
  rintro ⟨_, h3⟩ ⟨v3, rfl, hw3, hv3, k3⟩
  have N4 := N3.ext k3
  have B4 := B3.ext k3
  simp only [asB_bool, asI_int, Option.bind_some, N4.n, N4.s, B4.s, B4.k, B4.fs, B4.ps, B4.cs, asS_slc ha.1, asS_slc L.f.1, asS_slc L.p.1, asS_slc L.c.1, ckB_lt N3.lt, ckB_lt B3.lt, ckE_ext k3 N3.lt, ckE_ext k3 B3.lt]
  refine Ev.bind (raccept_ev N4.arcs B4.l hc S ⟨hx0, hx1⟩) ?_
  rintro ⟨_, h4⟩ ⟨v4, rfl, hw4, hv4, k4⟩
  simp only [asI_int, Option.bind_some]
  refine Ev.ret (congrArg Value.bool ?_)
  rw [beq_iff_eq]
  rcases hw3 with t | t <;> rcases hw4 with u | u
  · rw [t, u]
  · have := hv4.2 (hv3.1 t); omega
  · have := hv3.2 (hv4.1 u); omega
  · rw [t, u]
end Go.Proofs.Ytgikimegikelkaa.Dn

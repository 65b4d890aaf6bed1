/- Chapter 11: Accept of the reference; rows that are written; flows. -/
import Derived.Test.YtgikimegikelkaaR11d
namespace Go.Proofs.Ytgikimegikelkaa.Dn
open Go Go.Proofs.Ytgikimegikelkaa.Ab
set_option linter.unusedVariables false
set_option linter.unusedSimpArgs false

def RE (h : Hp) (P : Prop) (q : Value × Hp) : Prop := ∃ v : Int, q.1 = .int .i64 v ∧ (v = 0 ∨ v = 110) ∧ (v = 0 ↔ P) ∧ Ext h q.2
theorem RE.t {h h1 : Hp} {P : Prop} (e : Ext h h1) (hp : P) : RE h P (Value.int .i64 0, h1) := ⟨0, rfl, .inl rfl, by simp [hp], e⟩
theorem RE.f {h h1 : Hp} {P : Prop} (e : Ext h h1) (hp : ¬ P) : RE h P (Value.int .i64 110, h1) := ⟨110, rfl, .inr rfl, by simp [hp], e⟩
def endP (n : Int) (l : List Arc) (x y m : Int) (F : Fr) : Prop := (F.sent = m ∧ F.cl.length = 0) ∨ (F.sent ≠ m ∧ cutsP n l x y F)
def acceptP (n : Int) (l : List Arc) (x y m : Int) (F : Fr) : Prop :=
  flowsP n l F.fl x y ∧ 0 ≤ F.sent ∧ F.sent ≤ m ∧ valN l F.fl x l.length = F.sent ∧ totN l F.fl l.length = F.cost ∧ pricedP n l x F ∧ endP n l x y m F
theorem raccept_ev {h : Hp} {n x y m : Int} {a : Option Addr} {c : Nat} {l : List Arc} {F : Fr} (ha : Arcs h a l) (L : FrL h F) (hc : F.cl.length ≤ 9223372036854775807) (S : Small n l) (hx : 0 ≤ x ∧ x < n) :
    Ev (fun k => d_ref11_Accept.r k n a l.length c x y m F.sent F.cost F.fa F.fl.length F.fc F.pa F.pl.length F.pc F.ca F.cl.length F.cc h) (RE h (acceptP n l x y m F)) := by
  have N := NetB.new ha n c
  have e := Ext.new h (.row 0 [.int .i64 n, .slice a l.length c])
  have B1 := FrB.new (L.ext e)
  have e1 := Ext.new (h.new (.row 0 [.int .i64 n, .slice a l.length c])) (.row 0 F.row)
  have N1 := N.ext e1
  unfold Fr.row at B1 N1 e1
  simp only [d_ref11_Accept.r, lt_eq, N1.n, N1.s, B1.fs, Nat.zero_add, asS_slc ha.1, asS_slc L.f.1, Option.bind_some, asI_int]
  have e2 := e.trans e1
  clear e e1 N
  refine Ev.bind (flows_ev N1.arcs B1.l.f S) ?_
  rintro ⟨_, h1⟩ ⟨v1, rfl, hv1, k1⟩
  have N2 := N1.ext k1
  have B2 := B1.ext k1
  have e3 := e2.trans k1
  simp only [asB_bool, Option.bind_some, N2.n, N2.s, B2.s, B2.fs, asS_slc ha.1, asS_slc L.f.1, asI_int, ckB_lt N2.lt, ckB_lt B2.lt]
  have nP : (¬ (flowsP n l F.fl x y ∧ 0 ≤ F.sent ∧ F.sent ≤ m)) → Ev (fun _ => some (Value.int .i64 110, h1)) (RE h (acceptP n l x y m F)) := fun k => Ev.ret (RE.f e3 (fun t => k ⟨t.1, t.2.1, t.2.2.1⟩))
  refine Ev.split (fun c1 => ?_) (fun c1 => nP (fun t => by rw [hv1.2 t.1] at c1; cases c1))
  refine Ev.split (fun c2 => ?_) (fun c2 => nP (fun t => by simp at c2; omega))
  refine Ev.split (fun c3 => ?_) (fun c3 => nP (fun t => by simp at c3; omega))
  have hfl : flowsP n l F.fl x y := hv1.1 (by simpa using c1)
  clear nP
  refine Ev.bind (value_ev N2.arcs B2.l.f hfl.1 S hfl.2.1) ?_
  rintro ⟨_, h2⟩ ⟨rfl, k2⟩
  have N3 := N2.ext k2
  have B3 := B2.ext k2
  have e4 := e3.trans k2
  simp only [asI_int, Option.bind_some, N3.n, N3.s, B3.s, B3.fs, asS_slc ha.1, asS_slc L.f.1, ckB_lt N2.lt, ckB_lt B2.lt, ckE_ext k2 B2.lt]
  refine Ev.split (fun c4 => ?_) (fun c4 => Ev.ret (RE.f e4 (fun t => by have := t.2.2.2.1; simp at c4; omega)))
  refine Ev.bind (total_ev N3.arcs B3.l.f hfl.1 S hfl.2.1) ?_
  rintro ⟨_, h3⟩ ⟨rfl, k3⟩
  have N4 := N3.ext k3
  have B4 := B3.ext k3
  have e5 := e4.trans k3
  simp only [asI_int, Option.bind_some, N4.n, N4.s, B4.s, B4.k, B4.fs, B4.ps, B4.cs, asS_slc ha.1, asS_slc L.f.1, asS_slc L.p.1, asS_slc L.c.1, ckB_lt N2.lt, ckB_lt B2.lt, ckE_ext k3 B3.lt]
  refine Ev.split (fun c5 => ?_) (fun c5 => Ev.ret (RE.f e5 (fun t => by have := t.2.2.2.2.1; simp at c5; omega)))
  refine Ev.bind (priced_ev N4.arcs B4.l hfl.1 S hx) ?_
  rintro ⟨_, h4⟩ ⟨v4, rfl, hv4, k4⟩
  have N5 := N4.ext k4
  have B5 := B4.ext k4
  have e6 := e5.trans k4
  simp only [asB_bool, asI_int, Option.bind_some, N5.n, N5.s, B5.s, B5.k, B5.fs, B5.ps, B5.cs, asS_slc ha.1, asS_slc L.f.1, asS_slc L.p.1, asS_slc L.c.1]
  refine Ev.split (fun c6 => Ev.ret (RE.f e6 (fun t => by have := hv4.2 t.2.2.2.2.2.1; simp [this] at c6))) (fun c6 => ?_)
  have hpr : pricedP n l x F := hv4.1 (by simpa using c6)
  have acc : acceptP n l x y m F ↔ endP n l x y m F := by
    simp at c2 c3 c4 c5
    unfold acceptP
    exact ⟨fun t => t.2.2.2.2.2.2, fun t => ⟨hfl, by omega, by omega, by omega, by omega, hpr, t⟩⟩
  rw [acc]
  refine Ev.split (fun c7 => ?_) (fun c7 => ?_)
  · have c7' : F.sent = m := by simpa using c7
    refine Ev.split (fun c8 => Ev.ret (RE.f e6 ?_)) (fun c8 => Ev.ret (RE.t e6 (.inl ⟨c7', by simp at c8; simp [c8]⟩)))
    rintro (t | t)
    · simp [t.2] at c8
    · exact t.1 c7'
  · have c7' : F.sent ≠ m := by simpa using c7
    refine Ev.bind (cuts_ev N5.arcs B5.l hfl.1 hc S) ?_
    rintro ⟨_, h5⟩ ⟨v5, rfl, hv5, k5⟩
    simp only [asB_bool, Option.bind_some]
    refine Ev.split (fun c8 => Ev.ret (RE.f (e6.trans k5) ?_)) (fun c8 => Ev.ret (RE.t (e6.trans k5) (.inr ⟨c7', hv5.1 (by simpa using c8)⟩)))
    rintro (t | t)
    · exact c7' t.1
    · have := hv5.2 t.2; simp [this] at c8

/-! ### Rows that are written -/
theorem putN_one {α : Type} : ∀ (l : List α) (o : Nat) (v : α), o < l.length → putN l o [v] = some (l.set o v)
  | [], _, _, h => by simp at h
  | x :: l, 0, v, _ => by rw [putN_cons_zero]; cases l <;> rfl
  | x :: l, o + 1, v, h => by
    rw [putN_cons_succ, putN_one l o v (by simpa using h)]; rfl
def irow (l : List Int) : List Value := l.map (Value.int .i64)
def brow (l : List Bool) : List Value := l.map Value.bool
theorem irow_rd {h : Hp} {b sz : Nat} {l : List Int} (hb : h.g b = some (.row sz (irow l))) {i : Nat} (hi : i < l.length) : rd h b i = some (.int .i64 (intAt l i)) := by
  unfold rd; rw [hb]; show nth _ _ = _; rw [nth_eq, irow, List.getElem?_map, List.getElem?_eq_getElem hi, intAt_nat l i hi]; rfl
theorem brow_rd {h : Hp} {b sz : Nat} {l : List Bool} (hb : h.g b = some (.row sz (brow l))) {i : Nat} (hi : i < l.length) : rd h b i = some (.bool (boolAt l i)) := by
  unfold rd; rw [hb]; show nth _ _ = _; rw [nth_eq, brow, List.getElem?_map, List.getElem?_eq_getElem hi, boolAt_nat l i hi]; rfl
theorem irow_wr {h : Hp} {b sz : Nat} {l : List Int} (hb : h.g b = some (.row sz (irow l))) {i : Nat} (hi : i < l.length) (v : Int) : wr h b i [.int .i64 v] = some (h.set b (.row sz (irow (l.set i v)))) := by
  unfold wr; rw [hb]; simp only [irow]; rw [putN_one _ _ _ (by simpa using hi), List.map_set]
theorem brow_wr {h : Hp} {b sz : Nat} {l : List Bool} (hb : h.g b = some (.row sz (brow l))) {i : Nat} (hi : i < l.length) (v : Bool) : wr h b i [.bool v] = some (h.set b (.row sz (brow (l.set i v)))) := by
  unfold wr; rw [hb]; simp only [brow]; rw [putN_one _ _ _ (by simpa using hi), List.map_set]
theorem ixA_row {r n : Nat} {x : Int} (h0 : 0 ≤ x) (h : x < n) : ixA (some ⟨r, 0, none⟩) n 1 x = some (r, x.toNat) := by
  rw [ixA_in h0 h, Nat.zero_add, Nat.mul_one]
theorem _root_.Go.Proofs.Ytgikimegikelkaa.Ab.Ext.set {a h : Hp} (e : Ext a h) {b : Nat} (K : Blk) (hb : a.next ≤ b) : Ext a (h.set b K) := ⟨e.next, fun x hx => (set_g_ne K (by omega)).trans (e.old x hx)⟩
theorem intAt_set {l : List Int} {i : Nat} (hi : i < l.length) (v : Int) (j : Nat) : intAt (l.set i v) j = if j = i then v else intAt l j := by
  unfold intAt
  simp only [Int.toNat_natCast, List.getD_eq_getElem?_getD]
  by_cases c : j = i
  · subst c; rw [List.getElem?_set_self hi, if_pos rfl]; rfl
  · rw [List.getElem?_set_ne (Ne.symm c), if_neg c]
theorem boolAt_set {l : List Bool} {i : Nat} (hi : i < l.length) (v : Bool) (j : Nat) : boolAt (l.set i v) j = if j = i then v else boolAt l j := by
  unfold boolAt
  simp only [Int.toNat_natCast, List.getD_eq_getElem?_getD]
  by_cases c : j = i
  · subst c; rw [List.getElem?_set_self hi, if_pos rfl]; rfl
  · rw [List.getElem?_set_ne (Ne.symm c), if_neg c]
theorem repl_int (n : Nat) : repl [Value.int .i64 0] n = irow (List.replicate n 0) := by
  induction n with
  | zero => rfl
  | succ n ih => rw [List.replicate_succ]; show Value.int .i64 0 :: repl _ n = _; rw [ih]; rfl
theorem repl_bool (n : Nat) : repl [Value.bool false] n = brow (List.replicate n false) := by
  induction n with
  | zero => rfl
  | succ n ih => rw [List.replicate_succ]; show Value.bool false :: repl _ n = _; rw [ih]; rfl
theorem intAt_repl (n j : Nat) : intAt (List.replicate n 0) j = 0 := by
  unfold intAt; simp only [Int.toNat_natCast, List.getD_eq_getElem?_getD, List.getElem?_replicate]; split <;> rfl
theorem boolAt_repl (n j : Nat) : boolAt (List.replicate n false) j = false := by
  unfold boolAt; simp only [Int.toNat_natCast, List.getD_eq_getElem?_getD, List.getElem?_replicate]; split <;> rfl

/-! ### flows -/
def cflowsP (n : Int) (l : List Arc) (x y : Int) (F : Fr) : Prop := flowsP n l F.fl x y ∧ valN l F.fl x l.length = F.sent ∧ totN l F.fl l.length = F.cost
theorem cflows_loop1 {hb : Hp} {b o : Nat} {n x y t : Int} {l : List Arc} {F : Fr} (B : FrB hb b o F) (S : Small n l) {R : List Int} (hR : (R.length : Int) = n) (hv : ∀ j : Nat, j < R.length → intAt R j = valN l F.fl j l.length) {h : Hp} (e : Ext hb h) {r cr : Nat} (hr : h.g r = some (.row 1 (irow R))) : ∀ (d i : Nat), i + d = R.length →
    Ev (fun k => d_cost_flows.l1 k x y b o t (some ⟨r, 0, none⟩) R.length cr (R.length : Int) (i : Int) [] h) (RB hb ((∀ j : Nat, i ≤ j → j < R.length → ((j : Int) = x → valN l F.fl j l.length = F.sent) ∧ ((j : Int) ≠ x → (j : Int) ≠ y → valN l F.fl j l.length = 0)) ∧ t = F.cost))
  | 0, i, hd => by
    apply Ev.shift
    obtain rfl : i = R.length := by omega
    simp only [d_cost_flows.l1_succ, d_cost_flows.b1, (B.ext e).k, asI_int, Option.bind_some, takeM_nil]
    exact Ev.neg (by simp) (Ev.ret (RB.d e (by simp only [beq_iff_eq]; exact ⟨fun k => ⟨all_end _, k⟩, fun k => k.2⟩)))
  | d + 1, i, hd => by
    apply Ev.shift
    have hlt : i < R.length := by omega
    have := (checkP_ok S.ok).1
    simp only [d_cost_flows.l1_succ, d_cost_flows.b1, (B.ext e).s, asI_int, Option.bind_some, takeM_nil, ixA_row (r := r) (n := R.length) (Int.natCast_nonneg i) (by omega), Int.toNat_natCast, irow_rd hr hlt, w64_succ hlt (by omega), hv i hlt]
    refine Ev.pos (by simp; omega) ?_
    have go : (((i : Int) = x → valN l F.fl i l.length = F.sent) ∧ ((i : Int) ≠ x → (i : Int) ≠ y → valN l F.fl i l.length = 0)) →
        Ev (fun k => d_cost_flows.l1 k x y b o t (some ⟨r, 0, none⟩) R.length cr (R.length : Int) ((i + 1 : Nat) : Int) [] h) (RB hb ((∀ j : Nat, i ≤ j → j < R.length → ((j : Int) = x → valN l F.fl j l.length = F.sent) ∧ ((j : Int) ≠ x → (j : Int) ≠ y → valN l F.fl j l.length = 0)) ∧ t = F.cost)) := fun k =>
      (cflows_loop1 B S hR hv e hr d (i + 1) (by omega)).mono fun q hq => hq.mono (Ext.refl _) (by rw [all_step hlt]; exact ⟨fun u => ⟨⟨k, u.1⟩, u.2⟩, fun u => ⟨u.1.2, u.2⟩⟩)
    have bad : ¬ (((i : Int) = x → valN l F.fl i l.length = F.sent) ∧ ((i : Int) ≠ x → (i : Int) ≠ y → valN l F.fl i l.length = 0)) → Ev (fun _ => some (Value.bool false, h)) (RB hb ((∀ j : Nat, i ≤ j → j < R.length → ((j : Int) = x → valN l F.fl j l.length = F.sent) ∧ ((j : Int) ≠ x → (j : Int) ≠ y → valN l F.fl j l.length = 0)) ∧ t = F.cost)) := fun k => Ev.ret (RB.f e (fun u => k (u.1 i (Nat.le_refl _) hlt)))
    repeat' (refine Ev.split (fun _ => ?_) (fun _ => ?_))
    all_goals first
      | (refine go ?_
         simp only [Bool.not_not, Bool.not_eq_true', Bool.not_eq_false', beq_iff_eq, beq_eq_false_iff_ne, ne_eq] at *
         constructor <;> intros <;> omega)
      | (refine bad ?_
         simp only [Bool.not_not, Bool.not_eq_true', Bool.not_eq_false', beq_iff_eq, beq_eq_false_iff_ne, ne_eq] at *
         rintro ⟨u1, u2⟩
         first
           | (have := u1 (by omega); omega)
           | (have := u2 (by omega) (by omega); omega))
theorem cflows_loop0 {hb : Hp} {b o : Nat} {n x y : Int} {a : Option Addr} {c : Nat} {l : List Arc} {F : Fr} (ha : Arcs hb a l) (B : FrB hb b o F) (hf : F.fl.length = l.length) (S : Small n l) : ∀ (d i : Nat) (h : Hp) (R : List Int), i + d = l.length → Ext hb h → (R.length : Int) = n → (∀ j : Nat, j < R.length → intAt R j = valN l F.fl j i) → h.g hb.next = some (.row 1 (irow R)) → hb.next < h.next → (∀ j : Nat, j < i → 0 ≤ intAt F.fl j ∧ intAt F.fl j ≤ (arcAt l j).cap) →
    Ev (fun k => d_cost_flows.l0 k x y b o (some ⟨hb.next, 0, none⟩) R.length R.length (totN l F.fl i) a l.length c (l.length : Int) (i : Int) [] h) (RB hb (inP l F.fl ∧ (∀ j : Nat, j < n → ((j : Int) = x → valN l F.fl j l.length = F.sent) ∧ ((j : Int) ≠ x → (j : Int) ≠ y → valN l F.fl j l.length = 0)) ∧ totN l F.fl l.length = F.cost))
  | 0, i, h, R, hd, e, hR, hv, hr, hnx, hp => by
    apply Ev.shift
    obtain rfl : i = l.length := by omega
    simp only [d_cost_flows.l0_succ, d_cost_flows.b0, asI_int, Option.bind_some, takeM_nil]
    refine Ev.neg (by simp) ((cflows_loop1 B S hR hv e hr R.length 0 (by omega)).mono fun q hq => hq.mono (Ext.refl _) ?_)
    rw [all_zero]
    constructor
    · exact fun k => ⟨hp, fun j hj => k.1 j (by omega), k.2⟩
    · exact fun k => ⟨fun j hj => k.2.1 j (by omega), k.2.2⟩
  | d + 1, i, h, R, hd, e, hR, hv, hr, hnx, hp => by
    apply Ev.shift
    have hlt : i < l.length := by omega
    have hlen := S.len
    obtain ⟨⟨a1, a2⟩, ⟨a3, a4⟩, a5, a6, a7, a8, a9⟩ := (checkP_ok S.ok).2 i hlt
    obtain ⟨b', p, e1, e2, e3, e4, e5, e6⟩ := (ha.ext e).ix rfl (Int.natCast_nonneg i) (by omega)
    have e7 := e.new' (.row 0 [.int .i64 (arcAt l i).f, .int .i64 (arcAt l i).t, .int .i64 (arcAt l i).cap, .int .i64 (arcAt l i).cost])
    have B2 := B.ext e7
    obtain ⟨q3, p3, k1, k2, k3⟩ := B2.l.f.ix rfl (Int.natCast_nonneg i) (by omega)
    have hb1 : hb.next < (h.new (.row 0 [.int .i64 (arcAt l i).f, .int .i64 (arcAt l i).t, .int .i64 (arcAt l i).cap, .int .i64 (arcAt l i).cost])).next := Nat.lt_succ_of_lt hnx
    simp only [d_cost_flows.l0_succ, d_cost_flows.b0, asI_int, Option.bind_some, takeM_nil, e1, e3, e4, e5, e6, lt_eq, new_wr, List.length_cons, List.length_nil, rd_new, List.getElem?_cons_zero, List.getElem?_cons_succ, Nat.zero_add, B2.fs, asS_slc B2.l.f.1, k1, k3, w64_succ hlt (by omega)]
    refine Ev.pos (by simp; omega) ?_
    have bad : ¬ (0 ≤ intAt F.fl i ∧ intAt F.fl i ≤ (arcAt l i).cap) → ¬ (inP l F.fl ∧ (∀ j : Nat, j < n → ((j : Int) = x → valN l F.fl j l.length = F.sent) ∧ ((j : Int) ≠ x → (j : Int) ≠ y → valN l F.fl j l.length = 0)) ∧ totN l F.fl l.length = F.cost) := fun k1 k2 => k1 (k2.1 i hlt)
    refine Ev.split (fun h1 => ?_) (fun h1 => Ev.ret (RB.f e7 (bad (by simp at h1; omega))))
    refine Ev.split (fun h2 => Ev.ret (RB.f e7 (bad (by simp at h2; omega)))) (fun h2 => ?_)
    have hp' : ∀ j : Nat, j < i + 1 → 0 ≤ intAt F.fl j ∧ intAt F.fl j ≤ (arcAt l j).cap := fun j hj => by
      by_cases c : j = i
      · subst c; simp at h1 h2; omega
      · exact hp j (by omega)
    have hk : ∀ j : Nat, j < i + 1 → 0 ≤ intAt F.fl j ∧ intAt F.fl j ≤ 1073741824 ∧ 0 ≤ (arcAt l j).cost ∧ (arcAt l j).cost ≤ 1048576 := fun j hj => by
      have := hp' j hj
      have := (checkP_ok S.ok).2 j (by omega)
      omega
    have hx := hp' i (Nat.lt_succ_self _)
    have hz : ∀ z : Int, -(i * 1073741824 : Int) ≤ valN l F.fl z i ∧ valN l F.fl z i ≤ i * 1073741824 := fun z => valN_le (by omega) z i (fun j hj => ⟨(hk j (by omega)).1, (hk j (by omega)).2.1⟩)
    obtain ⟨fN, hfN⟩ : ∃ f : Nat, (arcAt l i).f = f := ⟨(arcAt l i).f.toNat, by omega⟩
    obtain ⟨tN, htN⟩ : ∃ t : Nat, (arcAt l i).t = t := ⟨(arcAt l i).t.toNat, by omega⟩
    have hne : fN ≠ tN := by omega
    have hf1 : fN < R.length := by omega
    have ht1 : tN < R.length := by omega
    have hr1 : (h.new (.row 0 [.int .i64 (arcAt l i).f, .int .i64 (arcAt l i).t, .int .i64 (arcAt l i).cap, .int .i64 (arcAt l i).cost])).g hb.next = some (.row 1 (irow R)) := (new_g_old _ hnx).trans hr
    have w1 : w64 (intAt R fN + intAt F.fl i) = intAt R fN + intAt F.fl i := by rw [hv fN hf1]; have := hz fN; exact w64_id (by omega) (by omega)
    have w2 : w64 (intAt R tN - intAt F.fl i) = intAt R tN - intAt F.fl i := by rw [hv tN ht1]; have := hz tN; exact w64_id (by omega) (by omega)
    have hr2 := set_g (h.new (.row 0 [.int .i64 (arcAt l i).f, .int .i64 (arcAt l i).t, .int .i64 (arcAt l i).cap, .int .i64 (arcAt l i).cost])) hb.next (.row 1 (irow (R.set fN (intAt R fN + intAt F.fl i))))
    have hl2 : tN < (R.set fN (intAt R fN + intAt F.fl i)).length := by rw [List.length_set]; exact ht1
    have i2 : intAt (R.set fN (intAt R fN + intAt F.fl i)) tN = intAt R tN := by rw [intAt_set hf1, if_neg (Ne.symm hne)]
    have hloc : ∀ (K : Blk) (o : Nat), rd (Hp.set (h.new (.row 0 [.int .i64 (arcAt l i).f, .int .i64 (arcAt l i).t, .int .i64 (arcAt l i).cap, .int .i64 (arcAt l i).cost])) hb.next K) h.next o = ([.int .i64 (arcAt l i).f, .int .i64 (arcAt l i).t, .int .i64 (arcAt l i).cap, .int .i64 (arcAt l i).cost] : List Value)[o]? := fun K o => by
      unfold rd; rw [set_g_ne _ (by omega), new_g]; exact nth_eq _ _
    have hloc2 : ∀ (K K' : Blk) (o : Nat), rd (Hp.set (Hp.set (h.new (.row 0 [.int .i64 (arcAt l i).f, .int .i64 (arcAt l i).t, .int .i64 (arcAt l i).cap, .int .i64 (arcAt l i).cost])) hb.next K) hb.next K') h.next o = ([.int .i64 (arcAt l i).f, .int .i64 (arcAt l i).t, .int .i64 (arcAt l i).cap, .int .i64 (arcAt l i).cost] : List Value)[o]? := fun K K' o => by
      unfold rd; rw [set_g_ne _ (by omega), set_g_ne _ (by omega), new_g]; exact nth_eq _ _
    have x1 := ixA_row (r := hb.next) (n := R.length) a1 (by omega)
    have x2 := ixA_row (r := hb.next) (n := R.length) a3 (by omega)
    have tN' : (arcAt l i).t.toNat = tN := by omega
    have fN' : (arcAt l i).f.toNat = fN := by omega
    simp only [x1, Option.bind_some, fN', irow_rd hr1 hf1, asI_int, w1, irow_wr hr1 hf1, hloc, List.getElem?_cons_zero, List.getElem?_cons_succ, x2, tN', irow_rd hr2 hl2, i2, w2, irow_wr hr2 hl2, hloc2]
    have T0 := totN_le (l := l) (fl := F.fl) i (fun j hj => hk j (by omega))
    have T1 := totN_le (l := l) (fl := F.fl) (i + 1) hk
    have kk := hk i (Nat.lt_succ_self _)
    have m1 : 0 ≤ intAt F.fl i * (arcAt l i).cost := Int.mul_nonneg kk.1 kk.2.2.1
    have m2 : intAt F.fl i * (arcAt l i).cost ≤ 1073741824 * 1048576 := Int.mul_le_mul kk.2.1 kk.2.2.2 kk.2.2.1 (by omega)
    have w3 : w64 (intAt F.fl i * (arcAt l i).cost) = intAt F.fl i * (arcAt l i).cost := w64_id (by omega) (by omega)
    have w4 : w64 (totN l F.fl i + intAt F.fl i * (arcAt l i).cost) = totN l F.fl (i + 1) := w64_id (by omega) (by omega)
    rw [w3, w4]
    have := cflows_loop0 (x := x) (y := y) (c := c) ha B hf S d (i + 1) _ ((R.set fN (intAt R fN + intAt F.fl i)).set tN (intAt R tN - intAt F.fl i)) (by omega) ((e7.set (.row 1 (irow (R.set fN (intAt R fN + intAt F.fl i)))) (Nat.le_refl _)).set (.row 1 (irow ((R.set fN (intAt R fN + intAt F.fl i)).set tN (intAt R tN - intAt F.fl i)))) (Nat.le_refl _)) (by simpa using hR) (fun j hj => by
      rw [intAt_set hl2, intAt_set hf1]
      simp only [valN]
      rw [hfN, htN]
      simp only [List.length_set] at hj
      by_cases c1 : j = tN
      · subst c1
        rw [if_pos rfl, if_neg (by omega), if_pos rfl, hv _ ht1]; omega
      · rw [if_neg c1, if_neg (c := ((tN : Int) = j)) (by omega)]
        by_cases c2 : j = fN
        · subst c2; rw [if_pos rfl, if_pos rfl, hv _ hf1]; omega
        · rw [if_neg c2, if_neg (by omega), hv j hj]; omega) (set_g _ _ _) (by simpa [set_next] using hb1) hp'
    rw [List.length_set, List.length_set] at this
    exact this
theorem cflows_ev {h : Hp} {n x y : Int} {a : Option Addr} {c : Nat} {l : List Arc} {F : Fr} (ha : Arcs h a l) (L : FrL h F) (S : Small n l) (hx : 0 ≤ x ∧ x < n) :
    Ev (fun k => d_cost_flows.r k n a l.length c x y F.sent F.cost F.fa F.fl.length F.fc F.pa F.pl.length F.pc F.ca F.cl.length F.cc h) (RB h (cflowsP n l x y F)) := by
  have N := NetB.new ha n c
  have e := Ext.new h (.row 0 [.int .i64 n, .slice a l.length c])
  have B1 := FrB.new (L.ext e)
  have e1 := Ext.new (h.new (.row 0 [.int .i64 n, .slice a l.length c])) (.row 0 F.row)
  have N1 := N.ext e1
  unfold Fr.row at B1 N1 e1
  have hn := (checkP_ok S.ok).1
  simp only [d_cost_flows.r, lt_eq, N1.n, N1.s, B1.fs, Nat.zero_add, asS_slc ha.1, asS_slc L.f.1, Option.bind_some, asI_int]
  have e2 := e.trans e1
  refine Ev.split (fun c1 => Ev.ret (RB.f e2 (fun k => by have := k.1.1; simp at c1; omega))) (fun c1 => ?_)
  have hf : F.fl.length = l.length := by simp at c1; omega
  refine Ev.ck (by simp; omega) ?_
  have e3 := Ext.new (Hp.new (h.new (.row 0 [.int .i64 n, .slice a l.length c])) (.row 0 F.row)) (.row 1 (irow (List.replicate n.toNat 0)))
  have N2 := N1.ext e3
  unfold Fr.row at N2
  rw [repl_int]
  simp only [N2.s, asS_slc ha.1, Option.bind_some]
  have hlen : (List.replicate n.toNat (0 : Int)).length = n.toNat := List.length_replicate
  have := cflows_loop0 (x := x) (y := y) (c := c) N1.arcs B1 hf S l.length 0 _ (List.replicate n.toNat 0) (by omega) e3 (by rw [hlen]; omega) (fun j hj => by rw [intAt_repl]; rfl) (new_g _ _) (Nat.lt_succ_self _) (fun j hj => by omega)
  rw [hlen] at this
  refine this.mono fun q hq => hq.mono e2 ?_
  unfold cflowsP flowsP restP
  constructor
  · rintro ⟨k1, k2, k3⟩
    refine ⟨⟨hf, k1, fun j hj k4 k5 => (k2 j hj).2 k4 k5⟩, ?_, k3⟩
    have := (k2 x.toNat (by omega)).1 (by omega)
    rwa [Int.toNat_of_nonneg hx.1] at this
  · rintro ⟨⟨_, k1, k2⟩, k3, k4⟩
    exact ⟨k1, fun j hj => ⟨fun k5 => by rw [k5]; exact k3, k2 j hj⟩, k4⟩
end Go.Proofs.Ytgikimegikelkaa.Dn

/- Chapter 11: Check, Task, Send without a task. -/
import Derived.Test.YtgikimegikelkaaR11a
namespace Go.Proofs.Ytgikimegikelkaa.Dn
open Go Go.Proofs.Ytgikimegikelkaa.Ab
set_option linter.unusedVariables false
set_option linter.unusedSimpArgs false

def checkP (n : Int) (l : List Arc) : Int := if n > 256 ∨ l.length > 2048 then 2 else if n < 1 then 1 else checkL n l
theorem check_ev {h : Hp} {n : Int} {a : Option Addr} {c : Nat} {l : List Arc} (ha : Arcs h a l) : Ev (fun k => d_ref11_Check.r k n a l.length c h) (fun q => q.1 = .int .i64 (checkP n l) ∧ Ext h q.2) := by
  have N := NetB.new ha n c
  have e := Ext.new h (.row 0 [.int .i64 n, .slice a l.length c])
  simp only [d_ref11_Check.r, lt_eq, N.n, N.s, Nat.zero_add, asI_int, asS_slc ha.1, Option.bind_some]
  unfold checkP
  refine Ev.split (fun h1 => ?_) (fun h1 => Ev.ret ⟨by rw [if_pos (by left; simpa using h1)], e⟩)
  refine Ev.split (fun h2 => Ev.ret ⟨by rw [if_pos (by right; simp at h2; omega)], e⟩) (fun h2 => ?_)
  simp only [Bool.not_eq_true', decide_eq_false_iff_not, decide_eq_true_eq] at h1 h2
  rw [if_neg (by omega)]
  refine Ev.split (fun h3 => Ev.ret ⟨by rw [if_pos (by simpa using h3)], e⟩) (fun h3 => ?_)
  rw [if_neg (by simpa using h3)]
  exact (check_loop N (by omega) l.length 0 _ (by omega) (Ext.refl _)).mono fun q hq => ⟨hq.1, e.trans hq.2⟩

def endsP (n x y m : Int) : Prop := 0 ≤ x ∧ x < n ∧ 0 ≤ y ∧ y < n ∧ ¬ x = y ∧ 0 ≤ m ∧ m ≤ 2199023255552
instance (n x y m : Int) : Decidable (endsP n x y m) := by unfold endsP; infer_instance
def taskP (n : Int) (l : List Arc) (x y m : Int) : Bool := decide (checkP n l = 0 ∧ endsP n x y m)
theorem task_ev {h : Hp} {n x y m : Int} {a : Option Addr} {c : Nat} {l : List Arc} (ha : Arcs h a l) : Ev (fun k => d_ref11_Task.r k n a l.length c x y m h) (fun q => q.1 = .bool (taskP n l x y m) ∧ Ext h q.2) := by
  have N := NetB.new ha n c
  have e := Ext.new h (.row 0 [.int .i64 n, .slice a l.length c])
  simp only [d_ref11_Task.r, lt_eq, N.n, N.s, Nat.zero_add, asI_int, asS_slc ha.1, Option.bind_some]
  refine Ev.bind (check_ev N.arcs) ?_
  rintro ⟨v, h1⟩ ⟨rfl, e1⟩
  have N1 := N.ext e1
  have N2 := fun K => N.ext (e1.new' K)
  simp only [asI_int, Option.bind_some, N1.n, N1.s, Nat.zero_add, asS_slc ha.1, node_eq, asB_bool, (N2 _).n, (N2 _).s]
  unfold taskP
  repeat' (refine Ev.split (fun _ => ?_) (fun _ => ?_))
  all_goals
    refine Ev.ret ⟨congrArg Value.bool ?_, by first | exact e.trans e1 | exact (e.trans e1).new' _ | exact ((e.trans e1).new' _).new' _⟩
    unfold endsP
    simp only [Bool.not_not, Bool.not_eq_true', Bool.not_eq_false', decide_eq_true_eq, decide_eq_false_iff_not, beq_iff_eq, beq_eq_false_iff_ne, Bool.and_eq_true, ge_iff_le] at *
    first
      | (symm; rw [decide_eq_false_iff_not]; omega)
      | (rw [decide_eq_decide]; omega)

theorem cnode_eq (k : Nat) (n : Int) (b o : Nat) (x : Int) (h : Hp) (hn : rd h b o = some (.int .i64 n)) : d_cost_Check_1.r k x b o h = some (.bool (decide (0 ≤ x ∧ x < n)), h) := by
  unfold d_cost_Check_1.r
  simp only [hn, asI_int, Option.bind_some, bc_dec]
  by_cases h0 : x ≥ 0
  · rw [if_pos h0]; simp [h0]
  · rw [if_neg h0]; simp [h0]
theorem ccheck_loop {h0 : Hp} {b o : Nat} {n : Int} {a : Option Addr} {c : Nat} {l : List Arc} (N : NetB h0 b o n a c l) (hl : l.length ≤ 1048576) : ∀ (d i : Nat) (h : Hp), i + d = l.length → Ext h0 h →
    Ev (fun k => d_cost_Check.l0 k b o a l.length c ((l.length : Nat) : Int) (i : Int) [] h) (fun q => q.1 = .int .i64 (checkL n (l.drop i)) ∧ Ext h0 q.2)
  | 0, i, h, hi, e => by
    apply Ev.shift
    simp only [d_cost_Check.l0_succ, d_cost_Check.b0, Option.bind_some, takeM_nil]
    refine Ev.neg (by simp; omega) (Ev.ret ⟨by rw [List.drop_eq_nil_of_le (by omega)]; rfl, e⟩)
  | d + 1, i, h, hi, e => by
    apply Ev.shift
    have N1 := N.ext e
    have hlt : i < l.length := by omega
    obtain ⟨b', p, e1, e2, e3, e4, e5, e6⟩ := N1.arcs.ix rfl (Int.natCast_nonneg i) (by omega)
    rw [arcAt_nat l i hlt] at e3 e4 e5 e6
    rw [← List.getElem_cons_drop hlt, checkL_cons]
    simp only [d_cost_Check.l0_succ, d_cost_Check.b0, Option.bind_some, takeM_nil]
    refine Ev.pos (by simp; omega) ?_
    simp only [e1, e3, e4, e5, e6, asI_int, Option.bind_some, lt_eq, new_wr, List.length_cons, List.length_nil]
    generalize l[i] = A at *
    have e7 := e.new' (.row 0 [.int .i64 A.f, .int .i64 A.t, .int .i64 A.cap, .int .i64 A.cost])
    have N2 := N.ext e7
    simp only [cnode_eq _ _ _ _ _ _ N2.n, rd_new, asI_int, asB_bool, List.getElem?_cons_zero, List.getElem?_cons_succ, Nat.zero_add, Option.bind_some, w64_succ hlt (by omega)]
    have fin := ccheck_loop N hl d (i + 1) _ (by omega) e7
    repeat' (refine Ev.split (fun _ => ?_) (fun _ => ?_))
    all_goals first
      | (refine Ev.ret ⟨?_, e7⟩
         rw [if_neg]
         unfold okArc
         simp only [Bool.not_not, Bool.not_eq_true', Bool.not_eq_false', decide_eq_true_eq, decide_eq_false_iff_not, beq_iff_eq, beq_eq_false_iff_ne, Bool.and_eq_true] at *
         omega)
      | (rw [if_pos]
         · exact fin
         · unfold okArc
           simp only [Bool.not_not, Bool.not_eq_true', Bool.not_eq_false', decide_eq_true_eq, decide_eq_false_iff_not, beq_iff_eq, beq_eq_false_iff_ne, Bool.and_eq_true] at *
           omega)
theorem ccheck_ev {h : Hp} {n : Int} {a : Option Addr} {c : Nat} {l : List Arc} (ha : Arcs h a l) : Ev (fun k => d_cost_Check.r k n a l.length c h) (fun q => q.1 = .int .i64 (checkP n l) ∧ Ext h q.2) := by
  have N := NetB.new ha n c
  have e := Ext.new h (.row 0 [.int .i64 n, .slice a l.length c])
  simp only [d_cost_Check.r, lt_eq, N.n, N.s, Nat.zero_add, asI_int, asS_slc ha.1, Option.bind_some]
  unfold checkP
  refine Ev.split (fun h1 => ?_) (fun h1 => Ev.ret ⟨by rw [if_pos (by left; simpa using h1)], e⟩)
  refine Ev.split (fun h2 => Ev.ret ⟨by rw [if_pos (by right; simp at h2; omega)], e⟩) (fun h2 => ?_)
  simp only [Bool.not_eq_true', decide_eq_false_iff_not, decide_eq_true_eq] at h1 h2
  rw [if_neg (by omega)]
  refine Ev.split (fun h3 => Ev.ret ⟨by rw [if_pos (by simpa using h3)], e⟩) (fun h3 => ?_)
  rw [if_neg (by simpa using h3)]
  exact (ccheck_loop N (by omega) l.length 0 _ (by omega) (Ext.refl _)).mono fun q hq => ⟨hq.1, e.trans hq.2⟩
theorem ctask_eq (k : Nat) (n : Int) (a : Option Addr) (len c : Nat) (x y m : Int) (h : Hp) :
    d_cost_task.r k n a len c x y m h = some (.bool (decide (endsP n x y m)), h.new (.row 0 [.int .i64 n, .slice a len c])) := by
  unfold d_cost_task.r
  simp only [lt_eq, rd_new, List.getElem?_cons_zero, asI_int, Option.bind_some, bc_eq]
  repeat' split
  all_goals
    refine congrArg some (Prod.ext (congrArg Value.bool ?_) rfl)
    simp only [Bool.not_not, Bool.not_eq_true', Bool.not_eq_false', decide_eq_true_eq, decide_eq_false_iff_not, beq_iff_eq, beq_eq_false_iff_ne, Bool.and_eq_true, ge_iff_le, Bool.not_eq_true] at *
    first
      | exact (decide_eq_false (by unfold endsP; omega)).symm
      | exact decide_eq_decide.2 (by unfold endsP; omega)

/-- Send, where there is no task: an error, and nothing is sent. -/
theorem send_err {h : Hp} {n x y m : Int} {a : Option Addr} {c : Nat} {l : List Arc} (ha : Arcs h a l) (ht : taskP n l x y m = false) :
    Ev (fun k => d_cost_Send.r k n a l.length c x y m h) (fun q => q.1 = .tuple #[.agg #[.int .i64 0, .int .i64 0, .slice none 0 0, .slice none 0 0, .slice none 0 0], .int .i64 (if checkP n l = 0 then 1 else checkP n l)] ∧ Ext h q.2) := by
  have N := NetB.new ha n c
  have e := Ext.new h (.row 0 [.int .i64 n, .slice a l.length c])
  simp only [d_cost_Send.r, lt_eq]
  generalize hh1 : h.new (.row 0 [.int .i64 n, .slice a l.length c]) = h1 at *
  have e2 := Ext.new h1 (.row 0 [.int .i64 0, .int .i64 0, .slice none 0 0, .slice none 0 0, .slice none 0 0])
  have N2 := N.ext e2
  simp only [N2.n, N2.s, Nat.zero_add, asI_int, asS_slc ha.1, Option.bind_some]
  refine Ev.bind (ccheck_ev N2.arcs) ?_
  rintro ⟨v, h3⟩ ⟨rfl, e3⟩
  simp only [asI_int, Option.bind_some]
  have N3 := N2.ext e3
  have hrow : ∀ h4 : Hp, Ext (h1.new (.row 0 [.int .i64 0, .int .i64 0, .slice none 0 0, .slice none 0 0, .slice none 0 0])) h4 →
      wr h4 h1.next 0 [.int .i64 0, .int .i64 0, .slice none 0 0, .slice none 0 0, .slice none 0 0] = some (h4.set h1.next (.row 0 [.int .i64 0, .int .i64 0, .slice none 0 0, .slice none 0 0, .slice none 0 0])) := by
    intro h4 e4
    unfold wr
    rw [e4.old h1.next (Nat.lt_succ_self _), new_g]
    rfl
  have hext : ∀ h4 : Hp, Ext (h1.new (.row 0 [.int .i64 0, .int .i64 0, .slice none 0 0, .slice none 0 0, .slice none 0 0])) h4 → Ext h (h4.set h1.next (.row 0 [.int .i64 0, .int .i64 0, .slice none 0 0, .slice none 0 0, .slice none 0 0])) := by
    intro h4 e4
    have e5 := (e.trans e2).trans e4
    refine ⟨e5.next, fun x hx => ?_⟩
    rw [set_g_ne _ (by have := e.next; omega)]
    exact e5.old x hx
  have hrd : ∀ (h4 : Hp) (o : Nat), rd (h4.set h1.next (.row 0 [.int .i64 0, .int .i64 0, .slice none 0 0, .slice none 0 0, .slice none 0 0])) h1.next o = ([.int .i64 0, .int .i64 0, .slice none 0 0, .slice none 0 0, .slice none 0 0] : List Value)[o]? := by
    intro h4 o
    unfold rd
    rw [set_g]; exact nth_eq _ _
  by_cases hc : checkP n l = 0
  · refine Ev.neg (by simp [hc]) ?_
    simp only [N3.n, N3.s, asI_int, asS_slc ha.1, Option.bind_some, ctask_eq, asB_bool, Nat.zero_add]
    have hte : ¬ endsP n x y m := by
      intro ht'
      unfold taskP at ht
      rw [decide_eq_false_iff_not] at ht
      exact ht ⟨hc, ht'⟩
    refine Ev.pos (by simp [hte]) ?_
    have e4 := e3.new' (.row 0 [.int .i64 n, .slice a l.length c])
    simp only [hrow _ e4, Option.bind_some, hrd, List.getElem?_cons_zero, List.getElem?_cons_succ, Nat.zero_add, asI_int, asS_slc (a := none) trivial]
    exact Ev.ret ⟨by rw [if_pos hc], hext _ e4⟩
  · refine Ev.pos (by simp [hc]) ?_
    simp only [hrow _ e3, Option.bind_some, hrd, List.getElem?_cons_zero, List.getElem?_cons_succ, Nat.zero_add, asI_int, asS_slc (a := none) trivial]
    exact Ev.ret ⟨by rw [if_neg hc], hext _ e3⟩

theorem law_checks {h : Hp} {n x y m : Int} {a : Option Addr} {c : Nat} {l : List Arc} (ha : Arcs h a l) :
    Ev (fun k => d_law11_CostChecksMatchSpec.r k n a l.length c x y m h) (fun q => q.1 = .bool true) := by
  have N := NetB.new ha n c
  simp only [d_law11_CostChecksMatchSpec.r, lt_eq, N.n, N.s, Nat.zero_add, asI_int, asS_slc ha.1, Option.bind_some]
  refine Ev.split (fun _ => ?_) (fun _ => Ev.ret rfl)
  refine Ev.split (fun _ => Ev.ret rfl) (fun _ => ?_)
  refine Ev.bind (check_ev N.arcs) ?_
  rintro ⟨v, h1⟩ ⟨rfl, e1⟩
  have N1 := N.ext e1
  simp only [asI_int, Option.bind_some, N1.n, N1.s, Nat.zero_add, asS_slc ha.1]
  refine Ev.bind (ccheck_ev N1.arcs) ?_
  rintro ⟨v, h2⟩ ⟨rfl, e2⟩
  have N2 := N1.ext e2
  simp only [asI_int, Option.bind_some, N2.n, N2.s, Nat.zero_add, asS_slc ha.1]
  refine Ev.neg (by simp) ?_
  have tail : ∀ h3 : Hp, Ext h2 h3 → taskP n l x y m = false → Ev (fun k => (d_cost_Send.r k n a l.length c x y m h3).bind fun q => (asTup 2 q.1).bind fun cs => (asA 5 (nth cs 0)).bind fun ds => (asI .i64 (nth ds 0)).bind fun x37 => (asI .i64 (nth ds 1)).bind fun x38 => (asS0 (nth ds 2)).bind fun s39 => (asS0 (nth ds 3)).bind fun s40 => (asS0 (nth ds 4)).bind fun s41 => (asI .i64 (nth cs 1)).bind fun x42 =>
      (wr (q.2.new (.row 0 [.int .i64 0, .int .i64 0, .slice none 0 0, .slice none 0 0, .slice none 0 0])) q.2.next 0 [.int .i64 x37, .int .i64 x38, .slice s39.a s39.n s39.c, .slice s40.a s40.n s40.c, .slice s41.a s41.n s41.c]).bind fun h44 =>
      bc (checkP n l == 0) (bc (x42 == 1) ((asS (rd h44 q.2.next 2)).bind fun s45 => bc (((s45.n : Nat) : Int) == 0) ((asI .i64 (rd h44 q.2.next 0)).bind fun x46 => some (Value.bool (x46 == 0), h44)) (some (Value.bool false, h44))) (some (Value.bool false, h44)))
        (bc (x42 == checkP n l) ((asS (rd h44 q.2.next 2)).bind fun s47 => bc (((s47.n : Nat) : Int) == 0) ((asI .i64 (rd h44 q.2.next 0)).bind fun x48 => some (Value.bool (x48 == 0), h44)) (some (Value.bool false, h44))) (some (Value.bool false, h44)))) (fun q => q.1 = Value.bool true) := by
    intro h3 e3 ht
    refine Ev.bind (send_err (N2.arcs.ext e3) ht) ?_
    rintro ⟨v, h4⟩ ⟨rfl, e4⟩
    have t1 : ∀ z : Int, asTup 2 (.tuple #[.agg #[.int .i64 0, .int .i64 0, .slice none 0 0, .slice none 0 0, .slice none 0 0], .int .i64 z]) = some [.agg #[.int .i64 0, .int .i64 0, .slice none 0 0, .slice none 0 0, .slice none 0 0], .int .i64 z] := fun _ => rfl
    have t2 : asA 5 (some (.agg #[.int .i64 0, .int .i64 0, .slice none 0 0, .slice none 0 0, .slice none 0 0])) = some [.int .i64 0, .int .i64 0, .slice none 0 0, .slice none 0 0, .slice none 0 0] := rfl
    simp only [t1, t2, nth_eq, Option.bind_some, List.getElem?_cons_zero, List.getElem?_cons_succ, asI_int, asS0_slc, new_wr, List.length_cons, List.length_nil, rd_new, asS_slc (a := none) trivial]
    by_cases hc : checkP n l = 0
    · refine Ev.pos (by simp [hc]) (Ev.pos (by simp [hc]) (Ev.pos (by simp) (Ev.ret rfl)))
    · refine Ev.neg (by simp [hc]) (Ev.pos (by simp [hc]) (Ev.pos (by simp) (Ev.ret rfl)))
  refine Ev.split (fun hc => ?_) (fun hc => ?_)
  · refine Ev.bind (task_ev N2.arcs) ?_
    rintro ⟨v, h3⟩ ⟨rfl, e3⟩
    have N3 := N2.ext e3
    simp only [asB_bool, Option.bind_some, N3.n, N3.s, asI_int, asS_slc ha.1, Nat.zero_add]
    refine Ev.split (fun _ => Ev.ret rfl) (fun ht => ?_)
    exact tail h3 e3 ht
  · exact tail h2 (Ext.refl _) (by
      unfold taskP
      rw [decide_eq_false_iff_not]
      rintro ⟨h1, _⟩
      simp [h1] at hc)
end Go.Proofs.Ytgikimegikelkaa.Dn

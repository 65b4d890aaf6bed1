/- Chapter 11, the references: what the printed functions come to. -/
import Derived.Test.YtgikimegikelkaaAbEv
import Derived.Test.YtgikimegikelkaaDn8
namespace Go.Proofs.Ytgikimegikelkaa.Dn
open Go Go.Proofs.Ytgikimegikelkaa.Ab
set_option linter.unusedVariables false
set_option linter.unusedSimpArgs false

theorem node_eq (k : Nat) (n : Int) (a : Option Addr) (len c : Nat) (x : Int) (h : Hp) :
    d_ref11_Node.r k n a len c x h = some (.bool (decide (0 ≤ x ∧ x < n)), h.new (.row 0 [.int .i64 n, .slice a len c])) := by
  unfold d_ref11_Node.r
  simp only [lt_eq, bc_dec, rd_new, List.getElem?_cons_zero, asI_int, Option.bind_some]
  by_cases h0 : x ≥ 0
  · rw [if_pos h0]; simp [h0]
  · rw [if_neg h0]; simp [h0]

def okArc (n : Int) (a : Arc) : Bool := decide (0 ≤ a.f ∧ a.f < n) && decide (0 ≤ a.t ∧ a.t < n) && !(a.f == a.t) && decide (0 ≤ a.cap) && decide (a.cap ≤ 1073741824) && decide (0 ≤ a.cost) && decide (a.cost ≤ 1048576)
def checkL (n : Int) (l : List Arc) : Int := if l.all (okArc n) then 0 else 1
theorem checkL_cons (n : Int) (a : Arc) (l : List Arc) : checkL n (a :: l) = if okArc n a = true then checkL n l else 1 := by
  unfold checkL; cases h : okArc n a <;> simp [h]

theorem check_loop {h0 : Hp} {b o : Nat} {n : Int} {a : Option Addr} {c : Nat} {l : List Arc} (N : NetB h0 b o n a c l) (hl : l.length ≤ 1048576) : ∀ (d i : Nat) (h : Hp), i + d = l.length → Ext h0 h →
    Ev (fun k => d_ref11_Check.l0 k b o (i : Int) [] h) (fun q => q.1 = .int .i64 (checkL n (l.drop i)) ∧ Ext h0 q.2)
  | 0, i, h, hi, e => by
    apply Ev.shift
    have N1 := N.ext e
    simp only [d_ref11_Check.l0_succ, d_ref11_Check.b0, N1.s, asS_slc N1.arcs.1, Option.bind_some, takeM_nil]
    refine Ev.neg (by simp; omega) (Ev.ret ⟨by rw [List.drop_eq_nil_of_le (by omega)]; rfl, e⟩)
  | d + 1, i, h, hi, e => by
    apply Ev.shift
    have N1 := N.ext e
    have hlt : i < l.length := by omega
    obtain ⟨b', p, e1, e2, e3, e4, e5, e6⟩ := N1.arcs.ix rfl (Int.natCast_nonneg i) (by omega)
    rw [arcAt_nat l i hlt] at e3 e4 e5 e6
    rw [← List.getElem_cons_drop hlt, checkL_cons]
    simp only [d_ref11_Check.l0_succ, d_ref11_Check.b0, N1.s, asS_slc N1.arcs.1, Option.bind_some, takeM_nil]
    refine Ev.pos (by simp; omega) ?_
    simp only [e1, e3, e4, e5, e6, asI_int, Option.bind_some, lt_eq, new_wr, List.length_cons, List.length_nil]
    generalize l[i] = A at *
    have e7 := e.new' (.row 0 [.int .i64 A.f, .int .i64 A.t, .int .i64 A.cap, .int .i64 A.cost])
    have N2 := N.ext e7
    have N3 := fun K => N.ext (e7.new' K)
    have N4 := fun K K' => N.ext ((e7.new' K).new' K')
    have hb2 : h.next < (h.new (.row 0 [.int .i64 A.f, .int .i64 A.t, .int .i64 A.cap, .int .i64 A.cost])).next := Nat.lt_succ_self _
    have hb3 : ∀ K, h.next < (Hp.new (h.new (.row 0 [.int .i64 A.f, .int .i64 A.t, .int .i64 A.cap, .int .i64 A.cost])) K).next := fun K => Nat.lt_succ_of_lt hb2
    simp only [N2.n, N2.s, (N3 _).n, (N3 _).s, asI_int, asS_slc N2.arcs.1, rd_new, rd_new_old _ hb2, rd_new_old _ (hb3 _), List.getElem?_cons_zero, List.getElem?_cons_succ, Nat.zero_add, Option.bind_some, node_eq, asB_bool, w64_succ hlt (by omega)]
    have fin : ∀ K K', Ev (fun k => d_ref11_Check.l0 k b o ((i + 1 : Nat) : Int) [] (Hp.new (Hp.new (h.new (.row 0 [.int .i64 A.f, .int .i64 A.t, .int .i64 A.cap, .int .i64 A.cost])) K) K')) (fun q => q.1 = .int .i64 (checkL n (l.drop (i + 1))) ∧ Ext h0 q.2) := fun K K' => check_loop N hl d (i + 1) _ (by omega) ((e7.new' K).new' K')
    repeat' (refine Ev.split (fun _ => ?_) (fun _ => ?_))
    all_goals first
      | (refine Ev.ret ⟨?_, by first | exact e7.new' _ | exact (e7.new' _).new' _⟩
         rw [if_neg]
         unfold okArc
         simp only [Bool.not_not, Bool.not_eq_true', Bool.not_eq_false', decide_eq_true_eq, decide_eq_false_iff_not, beq_iff_eq, beq_eq_false_iff_ne, Bool.and_eq_true] at *
         omega)
      | (rw [if_pos]
         · exact fin _ _
         · unfold okArc
           simp only [Bool.not_not, Bool.not_eq_true', Bool.not_eq_false', decide_eq_true_eq, decide_eq_false_iff_not, beq_iff_eq, beq_eq_false_iff_ne, Bool.and_eq_true] at *
           omega)
end Go.Proofs.Ytgikimegikelkaa.Dn

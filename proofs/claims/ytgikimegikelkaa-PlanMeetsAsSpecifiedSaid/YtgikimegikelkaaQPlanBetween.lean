/- plan.Between: its contract by a plain function. -/
import Derived.Test.YtgikimegikelkaaBetween
namespace Go.Proofs.Ytgikimegikelkaa.Q
open Go.RowKit Go.Proofs.YtgikimegikelkaaW.PrintWords Go.Proofs.YtgikimegikelkaaW.PrintLast Go.Proofs.YtgikimegikelkaaW.PrintMore
set_option linter.unusedVariables false
set_option linter.unusedSimpArgs false

def both (l1 : List S106) (x : S106) : Option S106 :=
  if idxP (isPair x.f0 x.f1) l1 ≥ 0 then some ⟨x.f0, x.f1, mn x.f2 (rd_T106 l1 (idxP (isPair x.f0 x.f1) l1)).f2⟩ else none
theorem between_loop (l0 l1 : List S106) (h0 : l0.length ≤ 1048576) (h1 : l1.length ≤ 1048576) : ∀ (n i : Nat) (acc : List S106), i + n = l0.length → acc.length ≤ i →
    plan_BetweenK.l0 (n + 1) l1 acc l0 (l0.length : Int) i = some (acc ++ (l0.drop i).filterMap (both l1))
  | 0, i, acc, hi, ha => by
    have : ¬ ((i : Int) < (l0.length : Int)) := by omega
    rw [plan_BetweenK.l0, if_neg this, List.drop_eq_nil_of_le (by omega)]
    simp
  | n + 1, i, acc, hi, ha => by
    have hlt : i < l0.length := by omega
    have hx : rd_T106 l0 i = l0[i] := by
      unfold rd_T106
      simp [List.getD_eq_getElem?_getD, hlt]
    have hw : wrap64 ((i : Int) + 1) = ((i + 1 : Nat) : Int) := by rw [Go.IntWalk.wrap64_in _ (by omega)]; omega
    have hge := idxP_ge (isPair l0[i].f0 l0[i].f1) l1
    rw [plan_BetweenK.l0, if_pos (by omega), if_pos (by omega), if_pos (by omega), hx, hw]
    have hf : api_Allot.f l1 l0[i].f0 l0[i].f1 l0[i].f2 = some (idxP (isPair l0[i].f0 l0[i].f1) l1) := by unfold api_Allot.f; rw [if_pos h1]
    rw [hf, Option.bind_some, ← List.getElem_cons_drop hlt, List.filterMap_cons]
    by_cases hp : idxP (isPair l0[i].f0 l0[i].f1) l1 ≥ 0
    · rw [if_pos hp, if_pos (by omega), if_pos (by omega), if_pos (by omega), between_loop l0 l1 h0 h1 n (i + 1) _ (by omega) (by simp; omega)]
      have hb : both l1 l0[i] = some ⟨l0[i].f0, l0[i].f1, mn l0[i].f2 (rd_T106 l1 (idxP (isPair l0[i].f0 l0[i].f1) l1)).f2⟩ := by unfold both; rw [if_pos hp]
      rw [hb]
      simp
    · rw [if_neg hp, between_loop l0 l1 h0 h1 n (i + 1) _ (by omega) (by omega)]
      have hb : both l1 l0[i] = none := by unfold both; rw [if_neg hp]
      rw [hb]

def plan_Between.f (l0 : List (S106)) (l1 : List (S106)) : Option (List (S106)) := if l0.length ≤ 1048576 ∧ l1.length ≤ 1048576 then some (l0.filterMap (both l1)) else none
theorem plan_Between.calls (A0 : Option Addr) (c0 : Nat) (l0 : List (S106)) (A1 : Option Addr) (c1 : Nat) (l1 : List (S106)) (r : List (S106)) (w : World) (hr0 : Kd.C k106 w A0 l0.length l0) (hc0 : l0.length ≤ c0) (hr1 : Kd.C k106 w A1 l1.length l1) (hc1 : l1.length ≤ c1) (h : plan_Between.f l0 l1 = some r) :
    Calls Try.prog 50 #[.slice A0 l0.length c0, .slice A1 l1.length c1] w fun e w' => ∃ v0_ : Value, e = .returned (v0_) ∧ Kd.R k106 106 w' w.heap.size (fun _ => True) v0_ r ∧ Below w.heap.size w w' := by
  unfold plan_Between.f at h
  split at h
  · rename_i hl
    obtain rfl := Option.some.inj h
    refine plan_BetweenK.calls (l0.length + 1) A0 c0 l0 A1 c1 l1 _ w hr0 hc0 hr1 hc1 ?_
    have := between_loop l0 l1 hl.1 hl.2 l0.length 0 [] (by omega) (by simp)
    simpa [plan_BetweenK.f] using this
  · cases h
end Go.Proofs.Ytgikimegikelkaa.Q

/- weirgatelaw40.PlanMeetsAsSpecified: what it computes is true (the plain law). -/
import Derived.Test.YtgikimegikelkaaQLaw40PlanMeetsAsSpecified
namespace Go.Proofs.Ytgikimegikelkaa.Q
open Go.RowKit Go.Proofs.YtgikimegikelkaaW.PrintWords Go.Proofs.YtgikimegikelkaaW.PrintLast Go.Proofs.YtgikimegikelkaaW.PrintMore
set_option linter.all false

theorem LeO_le {α : Type} {f : Nat → Option α} (h : ∀ k, LeO (f k) (f (k + 1))) {k k' : Nat} (hk : k ≤ k') {r : α} (hr : f k = some r) : f k' = some r := by
  induction k' with
  | zero => have : k = 0 := by omega
            subst this; exact hr
  | succ n ih =>
    by_cases c : k ≤ n
    · exact h n r (ih c)
    · have : k = n + 1 := by omega
      subst this; exact hr

abbrev S := S106
def same (x y : S) : Prop := x.f0 = y.f0 ∧ x.f1 = y.f1
theorem rd_get (l : List S) (i : Nat) (h : i < l.length) : rd_T106 l (i : Int) = l[i] := by
  unfold rd_T106
  simp [List.getD_eq_getElem?_getD, h]
theorem w_succ (i : Nat) (h : i ≤ 1048576) : wrap64 ((i : Int) + 1) = ((i + 1 : Nat) : Int) := by rw [Go.IntWalk.wrap64_in _ (by omega)]; omega

theorem once_inner (l : List S) (hl : l.length ≤ 1048576) (i : Nat) (hi : i < l.length) (C : Prop) (hc : ∃ k b, weirgateref40_Once.l0 k l ((i + 1 : Nat) : Int) = some b ∧ (b = true → C)) :
    ∀ n j, j + n = i → ∃ k b, weirgateref40_Once.l1 k l (i : Int) (j : Int) = some b ∧ (b = true → C ∧ ∀ j' (h : j ≤ j') (h' : j' < i), ¬ same l[i] (l[j']'(by omega)))
  | 0, j, hj => by
    obtain ⟨k, b, h1, h2⟩ := hc
    refine ⟨k + 1, b, ?_, fun hb => ⟨h2 hb, fun j' h h' => by omega⟩⟩
    rw [weirgateref40_Once.l1, if_neg (by omega), w_succ i (by omega)]
    exact h1
  | n + 1, j, hj => by
    by_cases hs : same l[i] (l[j]'(by omega))
    · refine ⟨1, false, ?_, fun hb => by cases hb⟩
      rw [weirgateref40_Once.l1, if_pos (by omega), if_pos (by omega), if_pos (by omega), if_pos (by omega), if_pos (by omega), rd_get l i hi, rd_get l j (by omega), if_pos hs.1, if_pos hs.2]
    · obtain ⟨k, b, h1, h2⟩ := once_inner l hl i hi C hc n (j + 1) (by omega)
      refine ⟨k + 1, b, ?_, fun hb => ⟨(h2 hb).1, fun j' h h' => ?_⟩⟩
      · rw [weirgateref40_Once.l1, if_pos (by omega), if_pos (by omega), if_pos (by omega), if_pos (by omega), if_pos (by omega), rd_get l i hi, rd_get l j (by omega), w_succ j (by omega), h1]
        by_cases c1 : l[i].f0 = (l[j]'(by omega)).f0
        · have c2 : ¬ l[i].f1 = (l[j]'(by omega)).f1 := fun c2 => hs ⟨c1, c2⟩
          rw [if_pos c1, if_neg c2]
        · rw [if_neg c1]
      · by_cases c : j' = j
        · subst c; exact hs
        · exact (h2 hb).2 j' (by omega) h'
theorem once_outer (l : List S) (hl : l.length ≤ 1048576) : ∀ n i, i + n = l.length → ∃ k b, weirgateref40_Once.l0 k l (i : Int) = some b ∧ (b = true → ∀ i' (h : i ≤ i') (hi : i' < l.length) j' (h' : j' < i'), ¬ same l[i'] (l[j']'(by omega)))
  | 0, i, hi => by
    refine ⟨1, true, ?_, fun _ i' h h' => by omega⟩
    rw [weirgateref40_Once.l0, if_neg (by omega)]
  | n + 1, i, hi => by
    obtain ⟨k, b, h1, h2⟩ := once_inner l hl i (by omega) _ (once_outer l hl n (i + 1) (by omega)) i 0 (by omega)
    refine ⟨k + 1, b, ?_, fun hb i' h hi' j' h' => ?_⟩
    · rw [weirgateref40_Once.l0, if_pos (by omega)]; exact h1
    · by_cases c : i' = i
      · subst c; exact (h2 hb).2 j' (by omega) h'
      · exact (h2 hb).1 i' (by omega) hi' j' h'
theorem once_ok (l : List S) (hl : l.length ≤ 1048576) : ∃ k b, weirgateref40_Once.f k l = some b ∧ (b = true → l.Pairwise (fun x y => ¬ same y x)) := by
  obtain ⟨k, b, h1, h2⟩ := once_outer l hl l.length 0 (by omega)
  refine ⟨k, b, h1, fun hb => ?_⟩
  rw [List.pairwise_iff_getElem]
  intro i j hi hj hij
  exact h2 hb j (by omega) hj i hij

instance decSame (x y : S) : Decidable (same x y) := by unfold same; infer_instance
def pairing (x : S) (y : S) : Option S := if same x y then some ⟨x.f0, x.f1, mn x.f2 y.f2⟩ else none

theorem ref_inner (x0 x1 : List S) (h0 : x0.length ≤ 20) (h1 : x1.length ≤ 20) (i : Nat) (hi : i < x0.length) (R : List S) (hc : ∀ acc : List S, acc.length ≤ (i + 1) * 20 → ∃ k, weirgateref40_Between.l0 k x0 x1 acc ((i + 1 : Nat) : Int) = some (acc ++ R)) :
    ∀ n j (acc : List S), j + n = x1.length → acc.length ≤ i * 20 + j → ∃ k, weirgateref40_Between.l1 k x0 x1 acc (i : Int) (j : Int) = some (acc ++ ((x1.drop j).filterMap (pairing x0[i]) ++ R))
  | 0, j, acc, hj, ha => by
    obtain ⟨k, hk⟩ := hc acc (by omega)
    refine ⟨k + 1, ?_⟩
    rw [weirgateref40_Between.l1, if_neg (by omega), w_succ i (by omega), hk, List.drop_eq_nil_of_le (by omega)]
    rfl
  | n + 1, j, acc, hj, ha => by
    have hjl : j < x1.length := by omega
    have hd : x1.drop j = x1[j] :: x1.drop (j + 1) := (List.getElem_cons_drop hjl).symm
    by_cases hs : same x0[i] x1[j]
    · obtain ⟨k, hk⟩ := ref_inner x0 x1 h0 h1 i hi R hc n (j + 1) (acc ++ [⟨x0[i].f0, x0[i].f1, mn x0[i].f2 x1[j].f2⟩]) (by omega) (by simp; omega)
      refine ⟨k + 1, ?_⟩
      have hp : pairing x0[i] x1[j] = some ⟨x0[i].f0, x0[i].f1, mn x0[i].f2 x1[j].f2⟩ := by unfold pairing; rw [if_pos hs]
      rw [weirgateref40_Between.l1, if_pos (by omega), if_pos (by omega), if_pos (by omega), if_pos (by omega), rd_get x0 i hi, rd_get x1 j hjl, if_pos hs.1, if_pos hs.2, if_pos (by omega), w_succ j (by omega), hk, hd, List.filterMap_cons, hp]
      simp
    · obtain ⟨k, hk⟩ := ref_inner x0 x1 h0 h1 i hi R hc n (j + 1) acc (by omega) (by omega)
      refine ⟨k + 1, ?_⟩
      have hp : pairing x0[i] x1[j] = none := by unfold pairing; rw [if_neg hs]
      rw [weirgateref40_Between.l1, if_pos (by omega), if_pos (by omega), if_pos (by omega), if_pos (by omega), rd_get x0 i hi, rd_get x1 j hjl, w_succ j (by omega), hk, hd, List.filterMap_cons, hp]
      by_cases c1 : x0[i].f0 = x1[j].f0
      · have c2 : ¬ x0[i].f1 = x1[j].f1 := fun c2 => hs ⟨c1, c2⟩
        rw [if_pos c1, if_neg c2]
      · rw [if_neg c1]
theorem ref_outer (x0 x1 : List S) (h0 : x0.length ≤ 20) (h1 : x1.length ≤ 20) : ∀ n i (acc : List S), i + n = x0.length → acc.length ≤ i * 20 → ∃ k, weirgateref40_Between.l0 k x0 x1 acc (i : Int) = some (acc ++ (x0.drop i).flatMap (fun x => x1.filterMap (pairing x)))
  | 0, i, acc, hi, ha => by
    refine ⟨1, ?_⟩
    rw [weirgateref40_Between.l0, if_neg (by omega), List.drop_eq_nil_of_le (by omega)]
    simp
  | n + 1, i, acc, hi, ha => by
    have hil : i < x0.length := by omega
    obtain ⟨k, hk⟩ := ref_inner x0 x1 h0 h1 i hil _ (fun acc' ha' => ref_outer x0 x1 h0 h1 n (i + 1) acc' (by omega) ha') x1.length 0 acc (by omega) (by omega)
    refine ⟨k + 1, ?_⟩
    rw [weirgateref40_Between.l0, if_pos (by omega)]
    have hd : x0.drop i = x0[i] :: x0.drop (i + 1) := (List.getElem_cons_drop hil).symm
    rw [hd, List.flatMap_cons]
    exact hk
theorem ref_ok (x0 x1 : List S) (h0 : x0.length ≤ 20) (h1 : x1.length ≤ 20) : ∃ k, weirgateref40_Between.f k x0 x1 = some (x0.flatMap (fun x => x1.filterMap (pairing x))) := by
  obtain ⟨k, hk⟩ := ref_outer x0 x1 h0 h1 x0.length 0 [] (by omega) (by simp)
  exact ⟨k, by simpa [weirgateref40_Between.f] using hk⟩

theorem same_loop (l : List S) (hl : l.length ≤ 1048576) : ∀ n i, i + n = l.length → ∃ k, weirgateref40_SameAllots.l0 k l l (i : Int) = some true
  | 0, i, hi => ⟨1, by rw [weirgateref40_SameAllots.l0, if_neg (by omega)]⟩
  | n + 1, i, hi => by
    obtain ⟨k, hk⟩ := same_loop l hl n (i + 1) (by omega)
    refine ⟨k + 1, ?_⟩
    rw [weirgateref40_SameAllots.l0, if_pos (by omega), if_pos (by omega), if_pos (by omega), if_neg (by simp), w_succ i (by omega)]
    exact hk
theorem same_ok (l : List S) (hl : l.length ≤ 1048576) : ∃ k, weirgateref40_SameAllots.f k l l = some true := by
  obtain ⟨k, hk⟩ := same_loop l hl l.length 0 (by omega)
  exact ⟨k, by rw [weirgateref40_SameAllots.f, if_pos rfl]; exact hk⟩

theorem isPair_iff (x y : S) : isPair x.f0 x.f1 y = true ↔ same x y := by unfold isPair same; simp
theorem both_eq (x : S) : ∀ (l1 : List S), l1.Pairwise (fun x y => ¬ same y x) → (both l1 x).toList = l1.filterMap (pairing x)
  | [], _ => rfl
  | y :: r, h => by
    rw [List.pairwise_cons] at h
    obtain ⟨h1, h2⟩ := h
    have ih := both_eq x r h2
    by_cases hs : same x y
    · have hp : isPair x.f0 x.f1 y = true := (isPair_iff x y).2 hs
      have hi : idxP (isPair x.f0 x.f1) (y :: r) = 0 := by unfold idxP; rw [hp]; rfl
      have hrest : r.filterMap (pairing x) = [] := by
        rw [List.filterMap_eq_nil_iff]
        intro z hz
        have : ¬ same x z := fun hx => h1 z hz ⟨hx.1.symm.trans hs.1, hx.2.symm.trans hs.2⟩
        unfold pairing; rw [if_neg this]
      have hq : pairing x y = some ⟨x.f0, x.f1, mn x.f2 y.f2⟩ := by unfold pairing; rw [if_pos hs]
      rw [List.filterMap_cons, hq, hrest]
      unfold both
      rw [hi, if_pos (by omega)]
      rfl
    · have hp : isPair x.f0 x.f1 y = false := by
        cases hc : isPair x.f0 x.f1 y with
        | true => exact absurd ((isPair_iff x y).1 hc) hs
        | false => rfl
      have hq : pairing x y = none := by unfold pairing; rw [if_neg hs]
      rw [List.filterMap_cons, hq]
      simp only
      rw [← ih]
      have hge := idxP_ge (isPair x.f0 x.f1) r
      have hi : idxP (isPair x.f0 x.f1) (y :: r) = if idxP (isPair x.f0 x.f1) r < 0 then -1 else idxP (isPair x.f0 x.f1) r + 1 := by
        rw [idxP, hp]; rfl
      unfold both
      rw [hi]
      by_cases c : idxP (isPair x.f0 x.f1) r < 0
      · rw [if_pos c, if_neg (by omega), if_neg (by omega)]
      · rw [if_neg c, if_pos (by omega), if_pos (by omega)]
        have : rd_T106 (y :: r) (idxP (isPair x.f0 x.f1) r + 1) = rd_T106 r (idxP (isPair x.f0 x.f1) r) := by
          unfold rd_T106
          rw [show (idxP (isPair x.f0 x.f1) r + 1).toNat = (idxP (isPair x.f0 x.f1) r).toNat + 1 by omega]
          rfl
        rw [this]
theorem filterMap_flat (f : S → Option S) (g : S → List S) : ∀ (l : List S), (∀ x ∈ l, (f x).toList = g x) → l.filterMap f = l.flatMap g
  | [], _ => rfl
  | x :: l, h => by
    have := h x (by simp)
    rw [List.filterMap_cons, List.flatMap_cons, ← this, filterMap_flat f g l (fun y hy => h y (by simp [hy]))]
    cases f x <;> rfl

theorem meets_j0_true (x0 x1 : List S) (k : Nat) : weirgatelaw40_PlanMeetsAsSpecified.j0 (k + 1) x0 x1 true = some true := by
  rw [weirgatelaw40_PlanMeetsAsSpecified.j0, if_pos rfl]; rfl
theorem meets_plain (l0 l1 : List S) : ∃ k, weirgatelaw40_PlanMeetsAsSpecified.f k l0 l1 = some true := by
  by_cases c0 : (l0.length : Int) > 20
  · exact ⟨1, by rw [weirgatelaw40_PlanMeetsAsSpecified.f, if_pos c0]; exact meets_j0_true _ _ _⟩
  by_cases c1 : (l1.length : Int) > 20
  · exact ⟨1, by rw [weirgatelaw40_PlanMeetsAsSpecified.f, if_neg c0, if_pos c1]; exact meets_j0_true _ _ _⟩
  obtain ⟨ka, ba, ha1, ha2⟩ := once_ok l0 (by omega)
  obtain ⟨kb, bb, hb1, hb2⟩ := once_ok l1 (by omega)
  cases ba with
  | false =>
    refine ⟨ka + 1, ?_⟩
    rw [weirgatelaw40_PlanMeetsAsSpecified.f, if_neg c0, if_neg c1, LeO_le (weirgateref40_Once.mono l0) (by omega : ka ≤ ka + 1) ha1, Option.bind_some, if_neg (by simp)]
    exact meets_j0_true _ _ _
  | true =>
    cases bb with
    | false =>
      refine ⟨ka + kb + 1, ?_⟩
      rw [weirgatelaw40_PlanMeetsAsSpecified.f, if_neg c0, if_neg c1, LeO_le (weirgateref40_Once.mono l0) (by omega : ka ≤ ka + kb + 1) ha1, Option.bind_some, if_pos rfl, LeO_le (weirgateref40_Once.mono l1) (by omega : kb ≤ ka + kb + 1) hb1, Option.bind_some]
      exact meets_j0_true _ _ _
    | true =>
      obtain ⟨kc, hc⟩ := ref_ok l0 l1 (by omega) (by omega)
      have he : l0.filterMap (both l1) = l0.flatMap (fun x => l1.filterMap (pairing x)) := filterMap_flat _ _ _ (fun x _ => both_eq x l1 (hb2 rfl))
      have hlen : (l0.filterMap (both l1)).length ≤ 1048576 := by have := List.length_filterMap_le (both l1) l0; omega
      obtain ⟨kd, hd⟩ := same_ok (l0.filterMap (both l1)) hlen
      refine ⟨ka + kb + kc + kd + 1, ?_⟩
      rw [weirgatelaw40_PlanMeetsAsSpecified.f, if_neg c0, if_neg c1, LeO_le (weirgateref40_Once.mono l0) (by omega : ka ≤ ka + kb + kc + kd + 1) ha1, Option.bind_some, if_pos rfl, LeO_le (weirgateref40_Once.mono l1) (by omega : kb ≤ ka + kb + kc + kd + 1) hb1, Option.bind_some]
      have hf : plan_Between.f l0 l1 = some (l0.filterMap (both l1)) := by rw [plan_Between.f, if_pos (by omega)]
      have hs : weirgatelaw40_sanity.f = some true := rfl
      rw [weirgatelaw40_PlanMeetsAsSpecified.j0, if_neg (by simp), hs, Option.bind_some, if_pos rfl, hf, Option.bind_some, LeO_le (weirgateref40_Between.mono l0 l1) (by omega : kc ≤ ka + kb + kc + kd) hc, Option.bind_some, ← he, LeO_le (weirgateref40_SameAllots.mono _ _) (by omega : kd ≤ ka + kb + kc + kd) hd]
      rfl
end Go.Proofs.Ytgikimegikelkaa.Q

/- Chapter 11, plain law: potentials of a flow; a priced flow is a cheapest one, a tight cut bounds all flows. -/
import Derived.Test.YtgikimegikelkaaR11e
namespace Go.Proofs.Ytgikimegikelkaa.Dn
open Go Go.Proofs.Ytgikimegikelkaa.Ab
set_option linter.unusedVariables false
set_option linter.unusedSimpArgs false

def sumN (f : Nat → Int) : Nat → Int
  | 0 => 0
  | n + 1 => sumN f n + f n
theorem sumN_congr {f g : Nat → Int} : ∀ n, (∀ v, v < n → f v = g v) → sumN f n = sumN g n
  | 0, _ => rfl
  | n + 1, h => by rw [sumN, sumN, sumN_congr n (fun v hv => h v (by omega)), h n (by omega)]
theorem sumN_zero {f : Nat → Int} : ∀ n, (∀ v, v < n → f v = 0) → sumN f n = 0
  | 0, _ => rfl
  | n + 1, h => by rw [sumN, sumN_zero n (fun v hv => h v (by omega)), h n (by omega)]; rfl
theorem sumN_add (f g : Nat → Int) : ∀ n, sumN (fun v => f v + g v) n = sumN f n + sumN g n
  | 0 => rfl
  | n + 1 => by simp only [sumN, sumN_add f g n]; omega
theorem sumN_sub (f g : Nat → Int) : ∀ n, sumN (fun v => f v - g v) n = sumN f n - sumN g n
  | 0 => rfl
  | n + 1 => by simp only [sumN, sumN_sub f g n]; omega
theorem sumN_le {f g : Nat → Int} : ∀ n, (∀ v, v < n → f v ≤ g v) → sumN f n ≤ sumN g n
  | 0, _ => Int.le_refl _
  | n + 1, h => by
    have := sumN_le n (fun v hv => h v (by omega))
    have := h n (by omega)
    simp only [sumN]; omega
/-- A sum of which one term counts. -/
theorem sumN_one {f : Nat → Int} {a : Nat} : ∀ n, a < n → (∀ v, v < n → v ≠ a → f v = 0) → sumN f n = f a
  | 0, h, _ => by omega
  | n + 1, h, hz => by
    simp only [sumN]
    by_cases c : a = n
    · subst c
      rw [sumN_zero a (fun v hv => hz v (by omega) (by omega))]; omega
    · rw [sumN_one n (by omega) (fun v hv => hz v (by omega)), hz n (by omega) (fun e => c e.symm)]; omega
/-- A sum of which two terms count. -/
theorem sumN_two {f : Nat → Int} {a b : Nat} (hab : a ≠ b) (n : Nat) (ha : a < n) (hb : b < n) (hz : ∀ v, v < n → v ≠ a → v ≠ b → f v = 0) : sumN f n = f a + f b := by
  have e : sumN f n = sumN (fun v => (if v = a then f a else 0) + (if v = b then f b else 0)) n := sumN_congr n fun v hv => by
    by_cases c1 : v = a
    · subst c1; rw [if_pos rfl, if_neg hab]; omega
    · by_cases c2 : v = b
      · subst c2; rw [if_neg c1, if_pos rfl]; omega
      · rw [if_neg c1, if_neg c2, hz v hv c1 c2]; rfl
  rw [e, sumN_add, sumN_one (a := a) n ha (fun v _ h => if_neg h), sumN_one (a := b) n hb (fun v _ h => if_neg h), if_pos rfl, if_pos rfl]

/-- What a flow does along the differences of a weight. -/
def potN (l : List Arc) (fl : List Int) (w : Int → Int) (i : Nat) : Int := sumN (fun j => intAt fl j * (w (arcAt l j).f - w (arcAt l j).t)) i
theorem pot_val {n : Int} {l : List Arc} {fl : List Int} (w : Int → Int) (hr : ∀ j : Nat, j < l.length → (0 ≤ (arcAt l j).f ∧ (arcAt l j).f < n) ∧ (0 ≤ (arcAt l j).t ∧ (arcAt l j).t < n)) : ∀ i : Nat, i ≤ l.length → sumN (fun v => w v * valN l fl v i) n.toNat = potN l fl w i
  | 0, _ => sumN_zero _ fun v _ => by simp [valN]
  | i + 1, hi => by
    have ih := pot_val (fl := fl) w hr i (by omega)
    obtain ⟨⟨h1, h2⟩, h3, h4⟩ := hr i (by omega)
    have e : sumN (fun v => w v * valN l fl v (i + 1)) n.toNat = sumN (fun v => w v * valN l fl v i + (w v * (if (arcAt l i).f = v then intAt fl i else 0) - w v * (if (arcAt l i).t = v then intAt fl i else 0))) n.toNat := sumN_congr _ fun v _ => by
      simp only [valN]
      rw [Int.mul_sub, Int.mul_add]; omega
    rw [e, sumN_add, sumN_sub, ih]
    rw [sumN_one (a := (arcAt l i).f.toNat) _ (by omega) (fun v _ hv => by rw [if_neg (by omega)]; simp), sumN_one (a := (arcAt l i).t.toNat) _ (by omega) (fun v _ hv => by rw [if_neg (by omega)]; simp)]
    rw [Int.toNat_of_nonneg h1, Int.toNat_of_nonneg h3, if_pos rfl, if_pos rfl]
    unfold potN
    simp only [sumN]
    rw [Int.mul_sub, Int.mul_comm (intAt fl i), Int.mul_comm (intAt fl i)]
theorem nodes_in {n : Int} {l : List Arc} (h : checkP n l = 0) : ∀ j : Nat, j < l.length → (0 ≤ (arcAt l j).f ∧ (arcAt l j).f < n) ∧ (0 ≤ (arcAt l j).t ∧ (arcAt l j).t < n) := fun j hj => ⟨((checkP_ok h).2 j hj).1, ((checkP_ok h).2 j hj).2.1⟩
/-- The potential of a flow is that of its ends. -/
theorem pot_ends {n x y : Int} {l : List Arc} {fl : List Int} (hk : checkP n l = 0) (hx : 0 ≤ x ∧ x < n) (hy : 0 ≤ y ∧ y < n) (hxy : x ≠ y) (hf : restP n l fl x y) (w : Int → Int) : potN l fl w l.length = w x * valN l fl x l.length + w y * valN l fl y l.length := by
  rw [← pot_val w (nodes_in hk) l.length (Nat.le_refl _), sumN_two (a := x.toNat) (b := y.toNat) (by omega) _ (by omega) (by omega) (fun v hv h1 h2 => by rw [hf v (by omega) (by omega) (by omega)]; simp)]
  rw [Int.toNat_of_nonneg hx.1, Int.toNat_of_nonneg hy.1]
theorem val_ends {n x y : Int} {l : List Arc} {fl : List Int} (hk : checkP n l = 0) (hx : 0 ≤ x ∧ x < n) (hy : 0 ≤ y ∧ y < n) (hxy : x ≠ y) (hf : restP n l fl x y) : valN l fl y l.length = - valN l fl x l.length := by
  have h := pot_ends hk hx hy hxy hf (fun _ => 1)
  have z : potN l fl (fun _ => 1) l.length = 0 := sumN_zero _ fun j _ => by simp
  rw [z] at h
  omega
theorem pot_flow {n x y : Int} {l : List Arc} {fl : List Int} (hk : checkP n l = 0) (hx : 0 ≤ x ∧ x < n) (hy : 0 ≤ y ∧ y < n) (hxy : x ≠ y) (hf : restP n l fl x y) (w : Int → Int) : potN l fl w l.length = (w x - w y) * valN l fl x l.length := by
  rw [pot_ends hk hx hy hxy hf w, val_ends hk hx hy hxy hf, Int.sub_mul, Int.mul_neg]; omega
theorem tot_sum (l : List Arc) (fl : List Int) : ∀ i, totN l fl i = sumN (fun j => intAt fl j * (arcAt l j).cost) i
  | 0 => rfl
  | i + 1 => by rw [totN, sumN, tot_sum l fl i]
/-- A priced flow: what any flow costs more. -/
theorem priced_le {n x y : Int} {l : List Arc} {F : Fr} {g : List Int} (hk : checkP n l = 0) (hx : 0 ≤ x ∧ x < n) (hy : 0 ≤ y ∧ y < n) (hxy : x ≠ y) (hf : flowsP n l F.fl x y) (hg : flowsP n l g x y) (hs : ∀ j : Nat, j < l.length → slackP l F j) :
    totN l F.fl l.length + (intAt F.pl x - intAt F.pl y) * valN l F.fl x l.length ≤ totN l g l.length + (intAt F.pl x - intAt F.pl y) * valN l g x l.length := by
  rw [← pot_flow hk hx hy hxy hf.2.2 (intAt F.pl), ← pot_flow hk hx hy hxy hg.2.2 (intAt F.pl), tot_sum, tot_sum]
  unfold potN
  rw [← sumN_add, ← sumN_add]
  refine sumN_le _ fun j hj => ?_
  have e : ∀ z : Int, z * (arcAt l j).cost + z * (intAt F.pl (arcAt l j).f - intAt F.pl (arcAt l j).t) = z * redP l F.pl j := fun z => by unfold redP; rw [← Int.mul_add]; congr 1; omega
  rw [e, e]
  have h1 := hf.2.1 j hj
  have h2 := hg.2.1 j hj
  obtain ⟨s1, s2⟩ := hs j hj
  generalize redP l F.pl j = r at *
  generalize intAt F.fl j = u at *
  generalize intAt g j = v at *
  rcases Int.lt_trichotomy r 0 with h | h | h
  · have : u = (arcAt l j).cap := by omega
    exact Int.mul_le_mul_of_nonpos_right (by omega) (by omega)
  · subst h; simp
  · have : u = 0 := by omega
    exact Int.mul_le_mul_of_nonneg_right (by omega) (by omega)
/-- A tight cut: no flow has a greater value. -/
theorem cut_le {n x y : Int} {l : List Arc} {F : Fr} {g : List Int} (hk : checkP n l = 0) (hx : 0 ≤ x ∧ x < n) (hy : 0 ≤ y ∧ y < n) (hxy : x ≠ y) (hf : flowsP n l F.fl x y) (hg : flowsP n l g x y) (hc : cutsP n l x y F) :
    valN l g x l.length ≤ valN l F.fl x l.length := by
  obtain ⟨_, c1, c2, c3⟩ := hc
  have : ∃ w : Int → Int, ∀ z, (hasP F.cl z → w z = 1) ∧ (¬ hasP F.cl z → w z = 0) := ⟨fun z => @ite _ (hasP F.cl z) (Classical.propDecidable _) 1 0, fun z => ⟨fun h => if_pos h, fun h => if_neg h⟩⟩
  obtain ⟨w, hw⟩ := this
  have h1 := pot_flow hk hx hy hxy hf.2.2 w
  have h2 := pot_flow hk hx hy hxy hg.2.2 w
  rw [(hw x).1 c1, (hw y).2 c2] at h1 h2
  have h3 : potN l g w l.length ≤ potN l F.fl w l.length := by
    refine sumN_le _ fun j hj => ?_
    have h1 := hf.2.1 j hj
    have h2 := hg.2.1 j hj
    obtain ⟨s1, s2⟩ := c3 j hj
    by_cases a1 : hasP F.cl (arcAt l j).f
    · by_cases a2 : hasP F.cl (arcAt l j).t
      · rw [(hw _).1 a1, (hw _).1 a2]; omega
      · rw [(hw _).1 a1, (hw _).2 a2]
        have : intAt F.fl j = (arcAt l j).cap := Classical.byContradiction fun t => s1 ⟨a1, a2, t⟩
        omega
    · by_cases a2 : hasP F.cl (arcAt l j).t
      · rw [(hw _).2 a1, (hw _).1 a2]
        have : intAt F.fl j = 0 := Classical.byContradiction fun t => s2 ⟨a2, a1, t⟩
        omega
      · rw [(hw _).2 a1, (hw _).2 a2]; omega
  omega
end Go.Proofs.Ytgikimegikelkaa.Dn

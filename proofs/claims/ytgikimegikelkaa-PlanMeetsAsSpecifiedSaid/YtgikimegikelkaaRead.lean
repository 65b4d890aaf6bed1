/- How arguments that are slices of structs of numbers read: from the row's reading to what the walks ask. -/
import Derived.Test.YtgikimegikelkaaQ0
import Derived.Deep.Slices
import Derived.ChangeArms
import Derived.Carry
namespace Go.Proofs.Ytgikimegikelkaa.Q
open Go.RowKit Go.ChangeShapes Go.WideShapes Go.Proofs.YtgikimegikelkaaW.PrintWords Go.Proofs.YtgikimegikelkaaW.PrintLast Go.Proofs.YtgikimegikelkaaW.PrintMore
set_option linter.all false

section
variable {H : Type} {enc : TypeId × Value → H} {P : Program} {w : World} {spare : Nat → Bool} {held : Bool}

/-- A slice of elements of a kind that reads. -/
theorem read_row {α : Type} {k : Kd α} {Wf : α → Prop} {t e : TypeId} (ht : P.underlying t = some (.slice e)) (hsz : P.cellsOf e = k.sz)
    (he : ∀ n cs x, DataW.trod enc P w 0 spare held n e cs = some x → ∃ y : α, k.K w y cs ∧ Wf y) {A : Option Addr} {len cap fuel : Nat} {x : DataW H × List MemPlace} (h : DataW.trod enc P w 0 spare held fuel t [.slice A len cap] = some x) :
    ∃ l : List α, l.length = len ∧ len ≤ cap ∧ k.C w A len l ∧ ∀ y ∈ l, Wf y := by
  rcases Go.Deep.open_slice ht h with ⟨hcs, _⟩ | ⟨a, len', cap', m, n, D, Pl, hcs, _, hl, hm, hmm, _, hx⟩
  · simp at hcs
    obtain ⟨rfl, rfl, rfl⟩ := hcs
    exact ⟨[], rfl, Nat.le_refl _, ⟨rfl, by omega, fun h => absurd h (Nat.lt_irrefl _)⟩, fun y hy => by cases hy⟩
  · simp at hcs
    obtain ⟨rfl, rfl, rfl⟩ := hcs
    have hlm : len ≤ m := by rw [hmm]; split <;> omega
    have hmax : maxLen ≤ 9223372036854775807 := by decide
    have hy : ∀ i : Nat, i < len → ∃ y : α, (∃ cs', w.cells? 0 (a.add (i * P.cellsOf e)) (P.cellsOf e) = some cs' ∧ k.K w y cs') ∧ Wf y := by
      intro i hi
      obtain ⟨cs', h1, h2⟩ := hx i (by omega)
      obtain ⟨y, h3, h4⟩ := he n cs' _ h2
      exact ⟨y, ⟨cs', h1, h3⟩, h4⟩
    have hf : ∃ l : List α, l.length = len ∧ ∀ i y, l[i]? = some y → (∃ cs', w.cells? 0 (a.add (i * P.cellsOf e)) (P.cellsOf e) = some cs' ∧ k.K w y cs') ∧ Wf y := by
      have key : ∀ d : Nat, d ≤ len → ∃ l : List α, l.length = d ∧ ∀ i y, l[i]? = some y → (∃ cs', w.cells? 0 (a.add (i * P.cellsOf e)) (P.cellsOf e) = some cs' ∧ k.K w y cs') ∧ Wf y := by
        intro d
        induction d with
        | zero => intro _; exact ⟨[], rfl, fun i y h => by simp at h⟩
        | succ d ih =>
          intro hd
          obtain ⟨l, h1, h2⟩ := ih (by omega)
          obtain ⟨y, hy⟩ := hy d (by omega)
          refine ⟨l ++ [y], by simp [h1], fun i z hz => ?_⟩
          by_cases c : i < l.length
          · rw [List.getElem?_append_left c] at hz; exact h2 i z hz
          · rw [List.getElem?_append_right (by omega)] at hz
            have hi : i - l.length = 0 := by
              have := (List.getElem?_eq_some_iff.1 hz).1
              simp at this; omega
            rw [hi] at hz
            simp at hz
            subst hz
            have : i = d := by omega
            subst this
            exact hy
      exact key len (Nat.le_refl _)
    obtain ⟨l, h1, h2⟩ := hf
    refine ⟨l, h1, hl, ⟨h1, by omega, fun _ => ⟨a, rfl, fun j p hj => ?_⟩⟩, fun y hy => ?_⟩
    · obtain ⟨⟨cs', h3, h4⟩, _⟩ := h2 j p hj
      obtain ⟨_, h5, h6⟩ := World.cells?_some h3
      refine ⟨cs', h5.trans hsz, h4, fun i u hu => ?_⟩
      have hil : i < cs'.length := (List.getElem?_eq_some_iff.1 hu).1
      have := h6 i (by omega)
      rw [Go.Deep.add_add, hsz] at this
      rw [this, hu]
    · obtain ⟨i, hi, rfl⟩ := List.getElem_of_mem hy
      exact (h2 i _ (List.getElem?_eq_getElem hi)).2
end

section
variable {H : Type} {enc : TypeId × Value → H} {w : World} {spare : Nat → Bool} {held : Bool}
theorem list3 {α : Type} {l : List α} (h : l.length = 3) : ∃ a b c, l = [a, b, c] := by
  match l, h with
  | [a, b, c], _ => exact ⟨a, b, c, rfl⟩
theorem read106 (n : Nat) (cs : List Value) (x : DataW H × List MemPlace) (h : DataW.trod enc Try.prog w 0 spare held n 106 cs = some x) : ∃ y : S106, k106.K w y cs ∧ True := by
  obtain ⟨xs, m, _, hx, hl, hlen, hf⟩ := DataW.trod_struct Try.underlying106 h
  have hc : Try.prog.cellsOf 106 = 3 := by kernel_rfl
  have h1 : Try.prog.cellsOf 3 = 1 := by kernel_rfl
  clear hx h
  obtain ⟨c0, c1, c2, rfl⟩ := list3 (hl.trans hc)
  obtain ⟨y0, y1, y2, rfl⟩ := list3 hlen
  clear hl hlen
  have g0 : DataW.trod enc Try.prog w 0 spare held m 3 [c0] = some y0 := by have := hf 0 _ rfl; simpa [h1] using this
  have g1 : DataW.trod enc Try.prog w 0 spare held m 3 [c1] = some y1 := by have := hf 1 _ rfl; simpa [h1] using this
  have g2 : DataW.trod enc Try.prog w 0 spare held m 3 [c2] = some y2 := by have := hf 2 _ rfl; simpa [h1] using this
  clear hf
  obtain ⟨n0, e0, _, w0⟩ := DataW.trod_int Try.underlying3 g0
  obtain ⟨n1, e1, _, w1⟩ := DataW.trod_int Try.underlying3 g1
  obtain ⟨n2, e2, _, w2⟩ := DataW.trod_int Try.underlying3 g2
  clear g0 g1 g2
  simp at e0 e1 e2
  subst e0 e1 e2
  exact ⟨⟨n0, n1, n2⟩, k106_mk w ⟨n0, n1, n2⟩, trivial⟩
end
end Go.Proofs.Ytgikimegikelkaa.Q

/- From the model's world to a heap that is read alone, and back: a law's call. -/
import Derived.Test.YtgikimegikelkaaAbDen8
import Derived.Deep.Slices
import Derived.WideShapes
namespace Go.Proofs.Ytgikimegikelkaa.Ab
open Go Go.RowKit
set_option linter.unusedVariables false
set_option linter.unusedSimpArgs false
set_option linter.unusedSectionVars false

/-- The numbers and truths of a block of the world. -/
noncomputable def roOf (w : World) (b : Nat) : Nat → Option Value := fun i =>
  match w.cell? ⟨b, i, none⟩ with
  | some (.int k n) => some (.int k n)
  | some (.bool x) => some (.bool x)
  | _ => none
noncomputable def memOf (w : World) : Nat → Mem
  | 0 => ⟨.nil, 0⟩
  | n + 1 => (memOf w n).new (.ro (roOf w n))
theorem memOf_next (w : World) : ∀ n, (memOf w n).next = n
  | 0 => rfl
  | n + 1 => by rw [memOf, Mem.next_new, memOf_next w n]
theorem memOf_get (w : World) : ∀ n b, (memOf w n).get b = if b < n then some (.ro (roOf w b)) else none
  | 0, b => by simp [memOf, Mem.get, Tr.get_nil]
  | n + 1, b => by
    rw [memOf, Mem.get_new', memOf_next, memOf_get w n]
    by_cases c : b = n
    · subst c; simp
    · rw [if_neg c]
      by_cases c2 : b < n
      · rw [if_pos c2, if_pos (by omega)]
      · rw [if_neg c2, if_neg (by omega)]
noncomputable def hp0 (w : World) : Hp := ⟨fun b => if b < w.heap.size then some (.ro (roOf w b)) else none, w.heap.size⟩
def ren0 (w : World) : Ren := fun b => if b < w.heap.size then some ⟨b, 0, 0⟩ else none
theorem fill0 (w : World) : Fill (fun _ => none) (hp0 w) (memOf w w.heap.size) := by
  refine ⟨memOf_next _ _, fun b => ?_, fun b K hb hK => ?_, fun _ _ => rfl⟩
  · rw [memOf_get]
    show _ = (if b < w.heap.size then some (Blk.ro (roOf w b)) else none).map _
    by_cases c : b < w.heap.size
    · rw [if_pos c]; rfl
    · rw [if_neg c]; rfl
  · change (if b < w.heap.size then some (Blk.ro (roOf w b)) else none) = some K at hb
    split at hb
    · cases hb; exact absurd trivial hK
    · cases hb
theorem mr0 (w : World) : MR (ren0 w) (memOf w w.heap.size) w := by
  refine ⟨fun b K hb hK => ?_, fun b b' K K' l l' hb hK hb' hK' h1 h2 h3 => ?_⟩
  · rw [memOf_get] at hb
    split at hb
    · rename_i c
      cases hb
      refine ⟨⟨b, 0, 0⟩, if_pos c, c, fun i v hv => ?_⟩
      unfold roOf at hv
      split at hv
      · rename_i k n hc
        cases hv
        exact ⟨rfl, _, by rw [Nat.zero_add]; exact hc, .int k n⟩
      · rename_i x hc
        cases hv
        exact ⟨rfl, _, by rw [Nat.zero_add]; exact hc, .bool x⟩
      · cases hv
    · cases hb
  · unfold ren0 at h1 h2
    split at h1
    · split at h2
      · cases h1; cases h2; exact h3
      · cases h2
    · cases h1
theorem fresh0 (w : World) : Fresh (memOf w w.heap.size) := by
  intro b K hb
  rw [memOf_get] at hb
  split at hb
  · rename_i c; exact ⟨by rw [memOf_next]; exact c, Nat.lt_two_pow_self⟩
  · cases hb

/-- A law's call returns true, and old memory is as it was. -/
theorem top_true {E : Env} {P : Program} {g : Nat} {fv : List Value → Hp → Option (Value × Hp)} (hf : SndF E (fun _ => True) g fv) (w : World) (hE : EnvOK E P) {args : List Value} {args' : Array Value} (hv : VRL (ren0 w) args args'.toList)
    {h1 : Hp} (hr : fv args (hp0 w) = some (.bool true, h1)) : Calls P g args' w (fun e w1 => e = .returned (.bool true) ∧ Below w.heap.size w w1) := by
  obtain ⟨n, m1, pl1, _, h2, _⟩ := hf args (hp0 w) _ _ hr (fun _ => none) (memOf w w.heap.size) trivial (fill0 w)
  obtain ⟨_, h3⟩ := (aRun_ok hE n).ok.fn g args _ _ _ h2
  have h4 := h3 (ren0 w) w args' (mr0 w) (fresh0 w) hv (fun b hb _ => by rw [memOf_next] at hb; exact if_neg (by omega))
  refine Calls.mono h4 ?_
  rintro e w1 ⟨v', ρ1, rfl, q1, q2⟩
  cases q1
  refine ⟨rfl, ?_⟩
  have hno : ∀ k, ¬ Im (ren0 w) (memOf w w.heap.size) k := by
    rintro k ⟨b, K, l, hb, hK, _⟩
    rw [memOf_get] at hb
    split at hb
    · cases hb; exact hK
    · cases hb
  exact ⟨q2.fr.os, q2.fr.tape, q2.fr.output, q2.fr.size, fun k hk => q2.fr.unch k hk (hno k)⟩

/-- An argument that is a slice. -/
def ArgS (w : World) (A : Option Addr) (n c : Nat) : Prop := (A = none ∧ n = 0 ∧ c = 0) ∨ ∃ b o, A = some ⟨b, o, none⟩ ∧ b < w.heap.size ∧ n ≤ c
theorem ArgS.vr {w : World} {A : Option Addr} {n c : Nat} (h : ArgS w A n c) : VR (ren0 w) (.slice A n c) (.slice A n c) := by
  rcases h with ⟨rfl, rfl, rfl⟩ | ⟨b, o, rfl, hb, hn⟩
  · exact .snil 0 0
  · have := VR.slc (ρ := ren0 w) b o n c ⟨b, 0, 0⟩ (if_pos hb)
    simpa using this
theorem ArgS.of {P : Program} {w : World} {base : Nat} {t e : TypeId} {A : Option Addr} {n c : Nat} (ht : P.underlying t = some (.slice e)) (h : Cell.okWide P w .any base t (.slice A n c)) : ArgS w A n c := by
  simp only [Cell.okWide, ht] at h
  unfold Cell.ok at h
  rw [ht] at h
  cases A with
  | none =>
    cases n with
    | zero => cases c with
      | zero => exact .inl ⟨rfl, rfl, rfl⟩
      | succ c => exact h.elim
    | succ n => exact h.elim
  | some a =>
    obtain ⟨h1, h2, h3⟩ := h
    obtain ⟨_, h4, row, cells, h5, _⟩ := h3
    obtain ⟨b, o, sp⟩ := a
    cases h4
    refine .inr ⟨b, o, rfl, ?_, h1⟩
    unfold World.shape? at h5
    split at h5
    · rename_i hc; exact (Array.getElem?_eq_some_iff.1 hc).1
    · cases h5
end Go.Proofs.Ytgikimegikelkaa.Ab

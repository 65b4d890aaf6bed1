/- The chapter's sanity holds: told by the kernel; so the tables may know it. -/
import Derived.Test.YtgikimegikelkaaAbT
import Derived.Test.YtgikimegikelkaaAb3
import Derived.Test.YtgikimegikelkaaAbE
/- The chapter's sanity holds: told by the kernel. -/
namespace Go.Proofs.Ytgikimegikelkaa.AbT
open Go Go.Proofs.Ytgikimegikelkaa.Ab Go.Proofs
theorem sane_run : isT (aRun E0 100000 (.fn 52) [] ⟨.nil, 0⟩) = true := by decide +kernel
end Go.Proofs.Ytgikimegikelkaa.AbT
/- The tables may know the chapter's sanity. -/
namespace Go.Proofs.Ytgikimegikelkaa.AbT
open Go Go.Proofs.Ytgikimegikelkaa.Ab Go.Proofs Go.RowKit
set_option maxRecDepth 100000 in
theorem sane_fn : E0.fn 52 = some Try.f52 := by kernel_rfl
theorem sane_of (w0 : World) (g : Nat) (h : E1.sane g = true) : (∀ (args : Array Value) (w : World), (callFunc g args).run Try.prog w = .ok (.enter g args) w) ∧ ∀ w : World, Calls Try.prog g #[] w (fun e w1 => e = .returned (.bool true) ∧ Below w.heap.size w w1) := by
  have e : g = 52 := Nat.eq_of_beq_eq_true h
  subst e
  exact ⟨((E0_ok w0).fn 52 Try.f52 sane_fn).2, closed_true (E0_ok w0) sane_run⟩
theorem withSane {E : Env} {P : Program} (s : Nat → Bool) (h : EnvOK E P) (hs : ∀ g, s g = true → (∀ (args : Array Value) (w : World), (callFunc g args).run P w = .ok (.enter g args) w) ∧ ∀ w : World, Calls P g #[] w (fun e w1 => e = .returned (.bool true) ∧ Below w.heap.size w w1)) : EnvOK { E with sane := s } P :=
  ⟨h.fn, h.info, h.zero, h.mixed, h.held, h.guard, hs⟩
theorem E1_ok (w : World) : EnvOK E1 Try.prog := withSane _ (E0_ok w) (sane_of w)
end Go.Proofs.Ytgikimegikelkaa.AbT

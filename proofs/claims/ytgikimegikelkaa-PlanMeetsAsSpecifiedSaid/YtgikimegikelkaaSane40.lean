/- weirgatelaw40's sanity() returns true, whatever is drawn, and leaves old memory as it was. -/
import Derived.Test.YtgikimegikelkaaAbT
namespace Go.Proofs.Ytgikimegikelkaa.AbT
open Go Go.Proofs.Ytgikimegikelkaa.Ab Go.Proofs Go.RowKit
theorem sane40_run : isT (aRun E1 100000 (.fn 48) [] ⟨.nil, 0⟩) = true := by decide +kernel
theorem sane40 (w : World) : Calls Try.prog 48 #[] w (fun e w1 => e = .returned (.bool true) ∧ Below w.heap.size w w1) := closed_true (E1_ok w) sane40_run w
end Go.Proofs.Ytgikimegikelkaa.AbT

/- weirgatelaw40.sanity: its contract: true. -/
import Derived.Test.YtgikimegikelkaaQ0
import Derived.Test.YtgikimegikelkaaSane40
namespace Go.Proofs.Ytgikimegikelkaa.Q
open Go.RowKit Go.Proofs.YtgikimegikelkaaW.PrintWords Go.Proofs.YtgikimegikelkaaW.PrintLast Go.Proofs.YtgikimegikelkaaW.PrintMore
def weirgatelaw40_sanity.f : Option Bool := some true
theorem weirgatelaw40_sanity.calls (r : Bool) (w : World) (h : weirgatelaw40_sanity.f = some r) :
    Calls Try.prog 48 #[] w fun e w' => e = .returned (.bool r) ∧ Below w.heap.size w w' := by
  obtain rfl := Option.some.inj h
  exact Go.Proofs.Ytgikimegikelkaa.AbT.sane40 w
end Go.Proofs.Ytgikimegikelkaa.Q

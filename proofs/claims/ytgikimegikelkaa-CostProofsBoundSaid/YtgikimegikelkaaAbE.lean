/- The tables of the program, with the chapter's sanity known. -/
import Derived.Test.YtgikimegikelkaaAbT
namespace Go.Proofs.Ytgikimegikelkaa.AbT
open Go Go.Proofs.Ytgikimegikelkaa.Ab Go.Proofs
noncomputable def E1 : Env := { E0 with sane := fun g => Nat.beq g 52 }
end Go.Proofs.Ytgikimegikelkaa.AbT

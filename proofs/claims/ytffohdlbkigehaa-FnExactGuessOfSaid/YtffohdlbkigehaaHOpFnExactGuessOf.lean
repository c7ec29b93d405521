/- How the arguments of FnExactGuessOf open. -/
import Derived.Test.YtffohdlbkigehaaOpen
import Derived.Test.YtffohdlbkigehaaHFnExactGuessOfx5
set_option linter.unusedVariables false
set_option linter.unusedSimpArgs false
namespace Go.Proofs.Ytffohdlbkigehaa.HFnExactGuessOf
open Go.RowKit Go.Proofs.YtffohdlbkigehaaW.PrintWords Go.Proofs.YtffohdlbkigehaaW.PrintLast Go.Proofs.YtffohdlbkigehaaW.PrintMore Go.Proofs.Ytffohdlbkigehaa.Base
def laws_FnExactGuessOf.OPure : Prop := ∀ (y0 : List (List (Int))) (y1 : List (Int)), (y0.length ≤ maxLen ∧ ∀ x_ ∈ y0, (x_.length ≤ maxLen ∧ ∀ x1_ ∈ x_, (Lit.int .i64 x1_).wf = true)) → (y1.length ≤ maxLen ∧ ∀ x_ ∈ y1, (Lit.int .i64 x_).wf = true) → ∃ k, laws_FnExactGuessOf.f k y0 y1 = some true
end Go.Proofs.Ytffohdlbkigehaa.HFnExactGuessOf

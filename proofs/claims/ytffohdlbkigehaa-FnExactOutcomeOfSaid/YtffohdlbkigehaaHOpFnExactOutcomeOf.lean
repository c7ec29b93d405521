/- How the arguments of FnExactOutcomeOf open. -/
import Derived.Test.YtffohdlbkigehaaOpen
import Derived.Test.YtffohdlbkigehaaHFnExactOutcomeOfx4
set_option linter.unusedVariables false
set_option linter.unusedSimpArgs false
set_option linter.unusedSimpArgs false
namespace Go.Proofs.Ytffohdlbkigehaa.HFnExactOutcomeOf
open Go.RowKit Go.Proofs.YtffohdlbkigehaaW.PrintWords Go.Proofs.YtffohdlbkigehaaW.PrintLast Go.Proofs.YtffohdlbkigehaaW.PrintMore Go.Proofs.Ytffohdlbkigehaa.Base
def laws_FnExactOutcomeOf.OPure : Prop := ∀ (y0 : List (List (Int))) (y1 : Int) (y2 : Int), (y0.length ≤ maxLen ∧ ∀ x_ ∈ y0, (x_.length ≤ maxLen ∧ ∀ x1_ ∈ x_, (Lit.int .i64 x1_).wf = true)) → (Lit.int .i64 y1).wf = true → (Lit.int .i64 y2).wf = true → ∃ k, laws_FnExactOutcomeOf.f k y0 y1 y2 = some true
end Go.Proofs.Ytffohdlbkigehaa.HFnExactOutcomeOf

/- How the arguments of FnExactWeighingsOf open. -/
import Derived.Test.YtffohdlbkigehaaOpen
import Derived.Test.YtffohdlbkigehaaHFnExactWeighingsOfx5
set_option linter.unusedVariables false
set_option linter.unusedSimpArgs false
set_option linter.unusedSimpArgs false
namespace Go.Proofs.Ytffohdlbkigehaa.HFnExactWeighingsOf
open Go.RowKit Go.Proofs.YtffohdlbkigehaaW.PrintWords Go.Proofs.YtffohdlbkigehaaW.PrintLast Go.Proofs.YtffohdlbkigehaaW.PrintMore Go.Proofs.Ytffohdlbkigehaa.Base
def laws_FnExactWeighingsOf.OPure : Prop := ∀ (y0 : List (List (Int))), (y0.length ≤ maxLen ∧ ∀ x_ ∈ y0, (x_.length ≤ maxLen ∧ ∀ x1_ ∈ x_, (Lit.int .i64 x1_).wf = true)) → ∃ k, laws_FnExactWeighingsOf.f k y0 = some true
end Go.Proofs.Ytffohdlbkigehaa.HFnExactWeighingsOf

/- How the arguments of FnExactCoinWords open. -/
import Derived.Test.YtffohdlbkigehaaOpen
import Derived.Test.YtffohdlbkigehaaHFnExactCoinWordsx5
set_option linter.unusedVariables false
set_option linter.unusedSimpArgs false
set_option linter.unusedSimpArgs false
namespace Go.Proofs.Ytffohdlbkigehaa.HFnExactCoinWords
open Go.RowKit Go.Proofs.YtffohdlbkigehaaW.PrintWords Go.Proofs.YtffohdlbkigehaaW.PrintLast Go.Proofs.YtffohdlbkigehaaW.PrintMore Go.Proofs.Ytffohdlbkigehaa.Base
def laws_FnExactCoinWords.OPure : Prop := ∀ (y0 : Int) (y1 : Int), (Lit.int .i64 y0).wf = true → (Lit.int .i64 y1).wf = true → ∃ k, laws_FnExactCoinWords.f k y0 y1 = some true
end Go.Proofs.Ytffohdlbkigehaa.HFnExactCoinWords

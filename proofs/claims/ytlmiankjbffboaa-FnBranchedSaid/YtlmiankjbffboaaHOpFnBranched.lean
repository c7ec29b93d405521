/- How the arguments of FnBranched open. -/
import Derived.Test.YtlmiankjbffboaaOpen
import Derived.Test.YtlmiankjbffboaaHFnBranchedx8
set_option linter.unusedVariables false
set_option linter.unusedSimpArgs false
set_option linter.unusedSimpArgs false
namespace Go.Proofs.Ytlmiankjbffboaa.HFnBranched
open Go.RowKit Go.Proofs.YtlmiankjbffboaaW.PrintWords Go.Proofs.YtlmiankjbffboaaW.PrintLast Go.Proofs.YtlmiankjbffboaaW.PrintMore Go.Proofs.Ytlmiankjbffboaa.Base
def laws_FnBranched.OPure : Prop := ∀ (y0 : List (Int)), (y0.length ≤ maxLen ∧ ∀ x_ ∈ y0, (Lit.int .u8 x_).wf = true) → ∃ k, laws_FnBranched.f k y0 = some true
end Go.Proofs.Ytlmiankjbffboaa.HFnBranched

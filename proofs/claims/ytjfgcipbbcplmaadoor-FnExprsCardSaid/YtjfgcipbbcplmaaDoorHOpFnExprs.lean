/- How the arguments of FnExprs open. -/
import Derived.Test.YtjfgcipbbcplmaaDoorOpen
import Derived.Test.YtjfgcipbbcplmaaDoorHFnExprsx17
set_option linter.unusedVariables false
set_option linter.unusedSimpArgs false
set_option linter.unusedSimpArgs false
namespace Go.Proofs.YtjfgcipbbcplmaaDoor.HFnExprs
open Go.RowKit Go.Proofs.YtjfgcipbbcplmaaDoorW.PrintWords Go.Proofs.YtjfgcipbbcplmaaDoorW.PrintLast Go.Proofs.YtjfgcipbbcplmaaDoorW.PrintMore Go.Proofs.YtjfgcipbbcplmaaDoor.Base
def laws_FnExprs.OPure : Prop := ∀ (y0 : List (Int)), (y0.length ≤ maxLen ∧ ∀ x_ ∈ y0, (Lit.int .u8 x_).wf = true) → ∃ k, laws_FnExprs.f k y0 = some true
end Go.Proofs.YtjfgcipbbcplmaaDoor.HFnExprs

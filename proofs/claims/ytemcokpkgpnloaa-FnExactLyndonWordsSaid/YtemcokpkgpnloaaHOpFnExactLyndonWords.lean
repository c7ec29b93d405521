/- How the arguments of FnExactLyndonWords open. -/
import Derived.Test.YtemcokpkgpnloaaOpen
import Derived.Test.YtemcokpkgpnloaaHFnExactLyndonWordsx4
set_option linter.unusedVariables false
set_option linter.unusedSimpArgs false
set_option linter.unusedSimpArgs false
namespace Go.Proofs.Ytemcokpkgpnloaa.HFnExactLyndonWords
open Go.RowKit Go.Proofs.YtemcokpkgpnloaaW.PrintWords Go.Proofs.YtemcokpkgpnloaaW.PrintLast Go.Proofs.YtemcokpkgpnloaaW.PrintMore Go.Proofs.Ytemcokpkgpnloaa.Base
def laws_FnExactLyndonWords.OPure : Prop := ∀ (y0 : Int), (Lit.int .i64 y0).wf = true → ∃ k, laws_FnExactLyndonWords.f k y0 = some true
end Go.Proofs.Ytemcokpkgpnloaa.HFnExactLyndonWords

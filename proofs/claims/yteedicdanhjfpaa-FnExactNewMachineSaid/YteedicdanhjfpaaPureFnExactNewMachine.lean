/- NewMachine of the program and of the reference give the same machine, in memory of its own. No condition. -/
import Derived.Test.YteedicdanhjfpaaLemFnExactNewMachine
namespace Go.Proofs.Yteedicdanhjfpaa.Pure
open Go.RowKit Go.Proofs.Yteedicdanhjfpaa.PFnExactNewMachine Go.Proofs.YteedicdanhjfpaaW.PrintWords Go.Proofs.YteedicdanhjfpaaW.PrintLast Go.Proofs.YteedicdanhjfpaaW.PrintMore Go.Proofs.Yteedicdanhjfpaa.Base Go.Proofs.Yteedicdanhjfpaa.LemFnExactNewMachine

theorem FnExactNewMachine : laws_FnExactNewMachine.Pure := by
  refine ⟨40, ?_⟩
  decide +kernel

end Go.Proofs.Yteedicdanhjfpaa.Pure

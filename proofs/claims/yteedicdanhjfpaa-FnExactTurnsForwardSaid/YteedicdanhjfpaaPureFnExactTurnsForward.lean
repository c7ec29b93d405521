/- TurnsForward of the program and of the reference give the same answer, for all lists. No condition. -/
import Derived.Test.YteedicdanhjfpaaLemFnExactTurnsForward
set_option linter.unusedVariables false
set_option linter.unusedSimpArgs false
namespace Go.Proofs.Yteedicdanhjfpaa.Pure
open Go.RowKit Go.Proofs.Yteedicdanhjfpaa.PFnExactTurnsForward Go.Proofs.YteedicdanhjfpaaW.PrintWords Go.Proofs.YteedicdanhjfpaaW.PrintLast Go.Proofs.YteedicdanhjfpaaW.PrintMore Go.Proofs.Yteedicdanhjfpaa.Base Go.Proofs.Yteedicdanhjfpaa.LemFnExactTurnsForward

theorem FnExactTurnsForward : laws_FnExactTurnsForward.Pure := by
  intro w _ _ _
  apply Ev.rounds
  simp only [laws_FnExactTurnsForward.f]
  refine Ev.ite (fun h => Ev.now _) (fun h => ?_)
  have hn : w.length ≤ 35184372088832 := by omega
  refine Ev.bind (laws_toIntS_ev w hn) ?_
  refine Ev.bind (spec_TurnsForward_ev w hn) ?_
  refine Ev.bind (laws_toIntS_ev w hn) ?_
  refine Ev.bind (impl_TurnsForward_ev w) ?_
  refine Ev.neg (by simp) ?_
  refine Ev.bind (laws_toIntS_ev w hn) ?_
  refine Ev.bind (laws_eqIntS_ev w w hn) ?_
  exact Ev.pos (by simp) (Ev.now _)

end Go.Proofs.Yteedicdanhjfpaa.Pure

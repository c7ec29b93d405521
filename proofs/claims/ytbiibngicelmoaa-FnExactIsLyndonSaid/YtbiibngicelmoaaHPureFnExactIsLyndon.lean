/- IsLyndon of the program and of the reference give the same answer, for all lists. No condition. -/
import Derived.Test.YtbiibngicelmoaaHLemFnExactIsLyndon
set_option linter.unusedVariables false
set_option linter.unusedSimpArgs false
namespace Go.Proofs.Ytbiibngicelmoaa.HPure
open Go.RowKit Go.Proofs.Ytbiibngicelmoaa.HFnExactIsLyndon Go.Proofs.YtbiibngicelmoaaW.PrintWords Go.Proofs.YtbiibngicelmoaaW.PrintLast Go.Proofs.YtbiibngicelmoaaW.PrintMore Go.Proofs.Ytbiibngicelmoaa.Base Go.Proofs.Ytbiibngicelmoaa.LemFnExactIsLyndon

theorem FnExactIsLyndon : laws_FnExactIsLyndon.Pure := by
  intro w _ _ _
  apply Ev.rounds
  simp only [laws_FnExactIsLyndon.f]
  refine Ev.ite (fun h => Ev.now _) (fun h => ?_)
  have hn : w.length ≤ 35184372088832 := by omega
  refine Ev.bind (laws_toIntS_ev w hn) ?_
  refine Ev.bind (spec_IsLyndon_ev w hn) ?_
  refine Ev.bind (laws_toIntS_ev w hn) ?_
  refine Ev.bind (impl_IsLyndon_ev w) ?_
  refine Ev.neg (by simp) ?_
  refine Ev.bind (laws_toIntS_ev w hn) ?_
  refine Ev.bind (laws_eqIntS_ev w w hn) ?_
  exact Ev.pos (by simp) (Ev.now _)

end Go.Proofs.Ytbiibngicelmoaa.HPure

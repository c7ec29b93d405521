/- HasSquare of the program and of the reference give the same answer, for all lists. No condition. -/
import Derived.Test.YteedicdanhjfpaaHLemFnExactHasSquare
set_option linter.unusedVariables false
set_option linter.unusedSimpArgs false
namespace Go.Proofs.Yteedicdanhjfpaa.HPure
open Go.RowKit Go.Proofs.Yteedicdanhjfpaa.HFnExactHasSquare Go.Proofs.YteedicdanhjfpaaW.PrintWords Go.Proofs.YteedicdanhjfpaaW.PrintLast Go.Proofs.YteedicdanhjfpaaW.PrintMore Go.Proofs.Yteedicdanhjfpaa.Base Go.Proofs.Yteedicdanhjfpaa.LemFnExactHasSquare

theorem FnExactHasSquare : laws_FnExactHasSquare.Pure := by
  intro w _ _ _
  apply Ev.rounds
  simp only [laws_FnExactHasSquare.f]
  refine Ev.ite (fun h => Ev.now _) (fun h => ?_)
  have hn : w.length ≤ 35184372088832 := by omega
  obtain ⟨b, hb, hq⟩ := impl_HasSquare_ev w (by omega)
  obtain ⟨c, hc, hr⟩ := spec_HasSquare_ev w (by omega)
  have e : b = c := by rw [Bool.eq_iff_iff, hq, hr]
  subst e
  refine Ev.bind (laws_toIntS_ev w hn) ?_
  refine Ev.bind hc ?_
  refine Ev.bind (laws_toIntS_ev w hn) ?_
  refine Ev.bind hb ?_
  refine Ev.neg (by simp) ?_
  refine Ev.bind (laws_toIntS_ev w hn) ?_
  refine Ev.bind (laws_eqIntS_ev w w hn) ?_
  exact Ev.pos (by simp) (Ev.now _)

end Go.Proofs.Yteedicdanhjfpaa.HPure

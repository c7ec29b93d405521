/- IsCode of the program and of the reference give the same answer. -/
import Derived.Test.YtnjoacfmmlpddaaHLemFnExactIsCode
set_option linter.unusedVariables false
set_option linter.unusedSimpArgs false
namespace Go.Proofs.Ytnjoacfmmlpddaa.HPure
open Go.RowKit Go.Proofs.Ytnjoacfmmlpddaa.HFnExactIsCode Go.Proofs.YtnjoacfmmlpddaaW.PrintWords Go.Proofs.YtnjoacfmmlpddaaW.PrintLast Go.Proofs.YtnjoacfmmlpddaaW.PrintMore Go.Proofs.Ytnjoacfmmlpddaa.Base Go.Proofs.Ytnjoacfmmlpddaa.LemFnExactIsCode

theorem FnExactIsCode : laws_FnExactIsCode.OPure := by
  intro l hl
  apply Ev.rounds
  simp only [laws_FnExactIsCode.f]
  refine Ev.bindc (laws_szOpS_eq l 1048576 hl.1 (by omega) (by omega)) (Ev.ite (fun h => Ev.now _) (fun h => ?_))
  have hn : (l.length : Int) ≤ 1048576 := by split at h <;> omega
  have e1 := laws_toOpS_ev l (by omega)
  refine Ev.bind e1 (Ev.bind (spec_IsCode_ev _ (by simp; omega)) (Ev.bind e1 (Ev.bind (impl_IsCode_ev _) ?_)))
  refine Ev.neg (by simp) (Ev.bind e1 (Ev.bind (laws_eqOpS_ev _ (by simp; omega)) (Ev.pos rfl (Ev.now _))))

end Go.Proofs.Ytnjoacfmmlpddaa.HPure

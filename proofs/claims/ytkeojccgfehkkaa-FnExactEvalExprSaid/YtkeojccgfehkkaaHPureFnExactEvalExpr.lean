/- EvalExpr of the program and of the reference give the same answer. -/
import Derived.Test.YtkeojccgfehkkaaHLemFnExactEvalExpr
set_option linter.unusedVariables false
set_option linter.unusedSimpArgs false
namespace Go.Proofs.Ytkeojccgfehkkaa.HPure
open Go.RowKit Go.Proofs.Ytkeojccgfehkkaa.HFnExactEvalExpr Go.Proofs.YtkeojccgfehkkaaW.PrintWords Go.Proofs.YtkeojccgfehkkaaW.PrintLast Go.Proofs.YtkeojccgfehkkaaW.PrintMore Go.Proofs.Ytkeojccgfehkkaa.Base Go.Proofs.Ytkeojccgfehkkaa.LemFnExactEvalExpr

theorem FnExactEvalExpr : laws_FnExactEvalExpr.OPure := by
  intro x hx
  apply Ev.rounds
  simp only [laws_FnExactEvalExpr.f]
  refine Ev.bind (laws_szExpr_ev x hx 1048576 (by omega) (by omega)) ?_
  refine Ev.ite (fun h => Ev.now _) (fun h => ?_)
  have hs : sub24 x ≤ 1048576 := by
    unfold rest at h
    split at h <;> omega
  have hs' : sub29 (cv x) ≤ 1048576 := by rw [sub_cv]; exact hs
  have hto := laws_toExpr_ev x hs
  have e1 := spec_EvalExpr_ev (cv x) hs'
  have e2 := impl_EvalExpr_ev (cv x) hs'
  have e3 := laws_eqExpr_ev (cv x) hs'
  rw [cv_f0, cv_f1, cv_f2] at e1 e2 e3
  refine Ev.bind hto (Ev.bind e1 (Ev.bind hto (Ev.bind e2 ?_)))
  refine Ev.pos rfl ?_
  apply Ev.succ
  simp only [laws_FnExactEvalExpr.j0.eq_2]
  refine Ev.neg (by simp) (Ev.bind hto (Ev.bind e3 (Ev.pos rfl (Ev.now _))))

end Go.Proofs.Ytkeojccgfehkkaa.HPure

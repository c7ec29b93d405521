/- EqualExprs of the program and of the reference give the same answer. -/
import Derived.Test.YtkeojccgfehkkaaHLemFnExactEqualExprs
set_option linter.unusedVariables false
set_option linter.unusedSimpArgs false
namespace Go.Proofs.Ytkeojccgfehkkaa.HPure
open Go.RowKit Go.Proofs.Ytkeojccgfehkkaa.HFnExactEqualExprs Go.Proofs.YtkeojccgfehkkaaW.PrintWords Go.Proofs.YtkeojccgfehkkaaW.PrintLast Go.Proofs.YtkeojccgfehkkaaW.PrintMore Go.Proofs.Ytkeojccgfehkkaa.Base Go.Proofs.Ytkeojccgfehkkaa.LemFnExactEqualExprs

theorem FnExactEqualExprs : laws_FnExactEqualExprs.OPure := by
  intro x y hx hy
  apply Ev.rounds
  simp only [laws_FnExactEqualExprs.f]
  refine Ev.bind (laws_szExpr_ev x hx 1048576 (by omega) (by omega)) (Ev.ite (fun h => Ev.now _) (fun h => ?_))
  have hs : sub24 x ≤ 1048576 ∧ 0 ≤ rest 1048576 (sub24 x) ∧ rest 1048576 (sub24 x) ≤ 1048576 := by
    unfold rest at h ⊢
    split at h <;> omega
  refine Ev.bind (laws_szExpr_ev y hy _ hs.2.1 hs.2.2) (Ev.ite (fun h => Ev.now _) (fun h => ?_))
  have ht : sub24 y ≤ 1048576 := by
    generalize rest 1048576 (sub24 x) = b at *
    unfold rest at h
    split at h <;> omega
  have hs' : sub29 (cv x) ≤ 1048576 := by rw [sub_cv]; exact hs.1
  have ht' : sub29 (cv y) ≤ 1048576 := by rw [sub_cv]; exact ht
  have tx := laws_toExpr_ev x hs.1
  have ty := laws_toExpr_ev y ht
  have e1 := spec_EqualExprs_ev (cv x) hs' (cv y)
  have e3 := laws_eqExpr_ev (cv x) hs'
  have e4 := laws_eqExpr_ev (cv y) ht'
  have e2 : impl_EqualExprs.f x.f0 x.f1 (cvL x.f2) y.f0 y.f1 (cvL y.f2) = some (impl_EqualExprs.t (cv x) (cv y)) := by cases x; cases y; rfl
  rw [cv_f0, cv_f1, cv_f2, cv_f0, cv_f1, cv_f2] at e1
  rw [cv_f0, cv_f1, cv_f2] at e3 e4
  refine Ev.bind tx (Ev.bind ty (Ev.bind e1 (Ev.bind tx (Ev.bind ty (Ev.bindc e2 ?_)))))
  refine Ev.neg (by simp) (Ev.bind tx (Ev.bind e3 (Ev.pos rfl (Ev.bind ty (Ev.bind e4 (Ev.pos rfl (Ev.now _)))))))

end Go.Proofs.Ytkeojccgfehkkaa.HPure

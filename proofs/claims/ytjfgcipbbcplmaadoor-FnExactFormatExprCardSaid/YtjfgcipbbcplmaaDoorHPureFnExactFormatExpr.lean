/- FormatExpr of the program and of the reference give the same text. -/
import Derived.Test.YtjfgcipbbcplmaaDoorHLemFnExactFormatExpr
set_option linter.unusedVariables false
set_option linter.unusedSimpArgs false
namespace Go.Proofs.YtjfgcipbbcplmaaDoor.HPure
open Go.RowKit Go.Proofs.YtjfgcipbbcplmaaDoor.HFnExactFormatExpr Go.Proofs.YtjfgcipbbcplmaaDoorW.PrintWords Go.Proofs.YtjfgcipbbcplmaaDoorW.PrintLast Go.Proofs.YtjfgcipbbcplmaaDoorW.PrintMore Go.Proofs.YtjfgcipbbcplmaaDoor.Base Go.Proofs.YtjfgcipbbcplmaaDoor.LemFnExactFormatExpr

theorem FnExactFormatExpr : laws_FnExactFormatExpr.OPure := by
  intro x hx
  apply Ev.rounds
  simp only [laws_FnExactFormatExpr.f]
  refine Ev.bind (laws_szExpr_ev x hx 1048576 (by omega) (by omega)) ?_
  refine Ev.ite (fun h => Ev.now _) (fun h => ?_)
  have hs : sub38 x ≤ 1048576 := by
    unfold rest at h
    split at h <;> omega
  have hs' : sub25 (cv x) ≤ 1048576 := by rw [sub_cv]; exact hs
  have hto := laws_toExpr_ev x hs
  have e1 := spec_FormatExpr_ev (cv x) hs'
  have e2 := impl_FormatExpr_ev (cv x) hs'
  have e3 := laws_eqExpr_ev (cv x) hs'
  rw [cv_f0, cv_f1, cv_f2] at e1 e2 e3
  refine Ev.bind hto (Ev.bind e1 (Ev.bind hto (Ev.bind e2 (Ev.pos rfl ?_))))
  exact Ev.bind hto (Ev.bind e3 (Ev.pos rfl (Ev.now _)))

end Go.Proofs.YtjfgcipbbcplmaaDoor.HPure

/- CompileExpr of the program and of the reference give the same answer, change nothing that they are given, and the answer's program is apart from it. -/
import Derived.Test.YthlagaopjmeaaaaHLemFnExactCompileExpr
set_option linter.unusedVariables false
set_option linter.unusedSimpArgs false
namespace Go.Proofs.Ythlagaopjmeaaaa.HPure
open Go.RowKit Go.Proofs.Ythlagaopjmeaaaa.HFnExactCompileExpr Go.Proofs.YthlagaopjmeaaaaW.PrintWords Go.Proofs.YthlagaopjmeaaaaW.PrintLast Go.Proofs.YthlagaopjmeaaaaW.PrintMore Go.Proofs.Ythlagaopjmeaaaa.Base Go.Proofs.Ythlagaopjmeaaaa.LemFnExactCompileExpr

theorem FnExactCompileExpr : laws_FnExactCompileExpr.OPure := by
  intro x hx
  apply Ev.rounds
  simp only [laws_FnExactCompileExpr.f]
  refine Ev.bind (laws_szExpr_ev x hx 1048576 (by omega) (by omega)) (Ev.ite (fun h => Ev.now _) (fun h => ?_))
  have hs : sub24 x ≤ 1048576 := by
    unfold rest at h
    split at h <;> omega
  have hs' : sub28 (cv x) ≤ 1048576 := by rw [sub_cv]; exact hs
  have tx := laws_toExpr_ev x hs
  have e1 := spec_CompileExpr_ev (cv x) hs'
  have e2 := impl_CompileExpr_ev (cv x) hs'
  have h60 := comT_len (cv x)
  have e3 := laws_eqOpS_ev (comT (cv x)).1 (by omega)
  have e4 := laws_eqExpr_ev (cv x) hs'
  have e5 := laws_markExprS_ev (cvL x.f2) 1 (by omega) (by rw [← cv_f2, ← sub28_eq]; omega)
  have e6 := laws_markOpS_ev2 (comT (cv x)).1 (by omega) 1 (by omega) (by omega)
  have e7 := laws_heldOpS_ev (comT (cv x)).1.length (by omega) 1 (by omega) (by omega)
  rw [cv_f0, cv_f1, cv_f2] at e1 e2 e4
  generalize comT (cv x) = y at *
  have hp : (0 : Int) ≤ 1 + 2 * ((subL28 (cvL x.f2) : Nat) : Int) := by omega
  refine Ev.bind tx (Ev.bind e1 (Ev.bind e2 (Ev.bind e3 (Ev.bind e4 (Ev.bind e5 (Ev.pos ⟨rfl, rfl, rfl, hp⟩ ?_))))))
  simp only [laws_FnExactCompileExpr.tail]
  exact Ev.bind e6 (Ev.bind e7 (Ev.pos ⟨by omega, rfl⟩ (Ev.now _)))

end Go.Proofs.Ythlagaopjmeaaaa.HPure

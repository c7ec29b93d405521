/- BalanceOf of the program and of the reference give the same answer. -/
import Derived.Test.YtffohdlbkigehaaHLemFnExactBalanceOf
set_option linter.unusedVariables false
set_option linter.unusedSimpArgs false
namespace Go.Proofs.Ytffohdlbkigehaa.HPure
open Go.RowKit Go.Proofs.Ytffohdlbkigehaa.HFnExactBalanceOf Go.Proofs.YtffohdlbkigehaaW.PrintWords Go.Proofs.YtffohdlbkigehaaW.PrintLast Go.Proofs.YtffohdlbkigehaaW.PrintMore Go.Proofs.Ytffohdlbkigehaa.Base Go.Proofs.Ytffohdlbkigehaa.LemFnExactBalanceOf

theorem FnExactBalanceOf : laws_FnExactBalanceOf.OPure := by
  intro m n hm _
  obtain ⟨ha, hb⟩ : m.f0.length ≤ maxLen ∧ m.f1.length ≤ maxLen := by cases hm; exact ⟨by assumption, by assumption⟩
  apply Ev.rounds
  simp only [laws_FnExactBalanceOf.f]
  refine Ev.bindc (laws_szWeighing_eq _ _ 1048576 ha hb (by omega) (by omega)) (Ev.ite (fun h => Ev.now _) (fun h => ?_))
  have hs : (m.f0.length : Int) + m.f1.length ≤ 1048576 := by split at h <;> omega
  have s1 : m.f0.length ≤ 1048576 := by omega
  have s2 : m.f1.length ≤ 1048576 := by omega
  have e2 := laws_toWeighing_ev m.f0 m.f1 s1 s2
  refine Ev.bind e2 (Ev.bind (spec_BalanceOf_ev m.f0 m.f1 n) (Ev.bind e2 (Ev.bind (impl_BalanceOf_ev m.f0 m.f1 s1 s2 n) (Ev.pos rfl ?_))))
  apply Ev.succ
  simp only [laws_FnExactBalanceOf.j0.eq_2]
  exact Ev.neg (by simp) (Ev.bind e2 (Ev.bind (laws_eqWeighing_ev m.f0 m.f1 m.f0 m.f1 (by omega) (by omega)) (Ev.pos (by simp) (Ev.now _))))

end Go.Proofs.Ytffohdlbkigehaa.HPure

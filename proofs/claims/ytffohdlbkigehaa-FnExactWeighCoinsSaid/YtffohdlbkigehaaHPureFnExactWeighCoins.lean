/- WeighCoins of the program and of the reference give the same answer. -/
import Derived.Test.YtffohdlbkigehaaHLemFnExactWeighCoins
set_option linter.unusedVariables false
set_option linter.unusedSimpArgs false
namespace Go.Proofs.Ytffohdlbkigehaa.HPure
open Go.RowKit Go.Proofs.Ytffohdlbkigehaa.HFnExactWeighCoins Go.Proofs.YtffohdlbkigehaaW.PrintWords Go.Proofs.YtffohdlbkigehaaW.PrintLast Go.Proofs.YtffohdlbkigehaaW.PrintMore Go.Proofs.Ytffohdlbkigehaa.Base Go.Proofs.Ytffohdlbkigehaa.LemFnExactWeighCoins

theorem FnExactWeighCoins : laws_FnExactWeighCoins.OPure := by
  intro w m hw hm
  obtain ⟨ha, hb⟩ : m.f0.length ≤ maxLen ∧ m.f1.length ≤ maxLen := by cases hm; exact ⟨by assumption, by assumption⟩
  apply Ev.rounds
  simp only [laws_FnExactWeighCoins.f]
  refine Ev.ite (fun _ => Ev.now _) (fun h0 => ?_)
  have hn : w.length ≤ 1048576 := by omega
  refine Ev.bindc (laws_szWeighing_eq _ _ 1048576 ha hb (by omega) (by omega)) (Ev.ite (fun h => Ev.now _) (fun h => ?_))
  have hs : (m.f0.length : Int) + m.f1.length ≤ 1048576 := by split at h <;> omega
  have s1 : m.f0.length ≤ 1048576 := by omega
  have s2 : m.f1.length ≤ 1048576 := by omega
  have e1 := laws_toIntS_ev w (by omega)
  have e2 := laws_toWeighing_ev m.f0 m.f1 s1 s2
  refine Ev.bind e1 (Ev.bind e2 (Ev.bind (spec_WeighCoins_ev w m.f0 m.f1 hn s1 s2) (Ev.bind e1 (Ev.bind e2 (Ev.bind (impl_WeighCoins_ev w m.f0 m.f1 s1 s2) (Ev.pos rfl ?_))))))
  apply Ev.succ
  simp only [laws_FnExactWeighCoins.j0.eq_2]
  refine Ev.neg (by simp) (Ev.bind e1 (Ev.bind (laws_eqIntS_ev w w (by omega)) (Ev.pos (by simp) (Ev.bind e2 (Ev.bind (laws_eqWeighing_ev m.f0 m.f1 m.f0 m.f1 (by omega) (by omega)) (Ev.pos (by simp) (Ev.now _)))))))

end Go.Proofs.Ytffohdlbkigehaa.HPure

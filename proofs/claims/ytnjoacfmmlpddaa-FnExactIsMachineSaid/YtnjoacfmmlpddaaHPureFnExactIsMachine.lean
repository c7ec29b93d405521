/- IsMachine of the program and of the reference give the same answer. -/
import Derived.Test.YtnjoacfmmlpddaaHLemFnExactIsMachine
set_option linter.unusedVariables false
set_option linter.unusedSimpArgs false
namespace Go.Proofs.Ytnjoacfmmlpddaa.HPure
open Go.RowKit Go.Proofs.Ytnjoacfmmlpddaa.HFnExactIsMachine Go.Proofs.YtnjoacfmmlpddaaW.PrintWords Go.Proofs.YtnjoacfmmlpddaaW.PrintLast Go.Proofs.YtnjoacfmmlpddaaW.PrintMore Go.Proofs.Ytnjoacfmmlpddaa.Base Go.Proofs.Ytnjoacfmmlpddaa.LemFnExactIsMachine

theorem FnExactIsMachine : laws_FnExactIsMachine.OPure := by
  intro l m hl hm
  obtain ⟨h1a, h2a⟩ : m.f1.length ≤ maxLen ∧ m.f2.length ≤ maxLen := by cases hm; exact ⟨by assumption, by assumption⟩
  apply Ev.rounds
  simp only [laws_FnExactIsMachine.f]
  refine Ev.bindc (laws_szOpS_eq l 1048576 hl.1 (by omega) (by omega)) (Ev.ite (fun h => Ev.now _) (fun h => ?_))
  have hn : (l.length : Int) ≤ 1048576 := by split at h <;> omega
  rw [if_pos hn]
  refine Ev.bindc (laws_szMachine_eq _ _ _ _ h1a h2a (by omega) (by omega)) (Ev.ite (fun h => Ev.now _) (fun h => ?_))
  have hn' : (m.f1.length : Int) + m.f2.length ≤ 1048576 - l.length := by split at h <;> omega
  have e1 := laws_toOpS_ev l (by omega)
  have e2 := laws_toMachine_ev m.f0 m.f1 m.f2 (by omega) (by omega)
  have s1 : m.f1.length ≤ 1048576 := by omega
  have s2 : m.f2.length ≤ 1048576 := by omega
  refine Ev.bind e1 (Ev.bind e2 (Ev.bind (spec_IsMachine_ev _ _ _ _ (by simp; omega) s1 s2) (Ev.bind e1 (Ev.bind e2 (Ev.bind (impl_IsMachine_ev _ _ _ _) ?_)))))
  refine Ev.neg (by simp) (Ev.bind e1 (Ev.bind (laws_eqOpS_ev _ (by simp; omega)) (Ev.pos rfl (Ev.bind e2 (Ev.bind (laws_eqMachine_ev _ _ _ s1 s2) (Ev.pos rfl (Ev.now _)))))))

end Go.Proofs.Ytnjoacfmmlpddaa.HPure

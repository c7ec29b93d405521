/- WeighThing of the program and of the reference give the same weighing, in memory of its own, for all numbers. No condition. -/
import Derived.Test.YtffohdlbkigehaaLemFnExactWeighThing
set_option linter.unusedVariables false
set_option linter.unusedSimpArgs false
namespace Go.Proofs.Ytffohdlbkigehaa.Pure
open Go.RowKit Go.Proofs.Ytffohdlbkigehaa.PFnExactWeighThing Go.Proofs.YtffohdlbkigehaaW.PrintWords Go.Proofs.YtffohdlbkigehaaW.PrintLast Go.Proofs.YtffohdlbkigehaaW.PrintMore Go.Proofs.Ytffohdlbkigehaa.Base Go.Proofs.Ytffohdlbkigehaa.LemFnExactWeighThing

theorem FnExactWeighThing : laws_FnExactWeighThing.Pure := by
  intro n _
  have hs : Ev (fun k => spec_WeighThing.f k n) (weighT n) := spec_WeighThing_ev n
  have hm := impl_WeighThing_ev n
  have hl : (weighT n).1.length ≤ 30 ∧ (weighT n).2.1.length ≤ 30 := by
    unfold weighT
    split
    · have h1 := idx_length (-1) (word 30 n) 0
      have h2 := idx_length 1 (word 30 n) 0
      rw [word_length] at h1 h2
      exact ⟨h1, h2⟩
    · simp
  obtain ⟨a, b, c⟩ : List Int × List Int × Bool := weighT n
  generalize weighT n = g at *
  apply Ev.rounds
  simp only [laws_FnExactWeighThing.f]
  refine Ev.bind hs (Ev.bind hm ?_)
  refine Ev.bind (laws_eqWeighing_ev g.1 g.2.1 g.1 g.2.1 (by omega) (by omega)) ?_
  refine Ev.pos (by simp) ?_
  apply Ev.succ
  simp only [laws_FnExactWeighThing.j0.eq_2]
  refine Ev.neg (by simp) ?_
  refine Ev.bind (laws_markWeighing_ev g.1 g.2.1 (by omega) (by omega) 1 (by omega)) ?_
  refine Ev.bind (laws_heldWeighing_ev g.1.length g.2.1.length (by omega) (by omega) 1 (by omega)) ?_
  refine Ev.neg (by omega) (Ev.pos rfl ?_)
  refine Ev.bind hm ?_
  refine Ev.bind (laws_eqWeighing_ev g.1 g.2.1 g.1 g.2.1 (by omega) (by omega)) ?_
  refine Ev.pos (by simp) ?_
  apply Ev.succ
  simp only [laws_FnExactWeighThing.j1.eq_2]
  refine Ev.neg (by simp) ?_
  refine Ev.bind (laws_heldWeighing_ev g.1.length g.2.1.length (by omega) (by omega) 1 (by omega)) ?_
  exact Ev.neg (by omega) (Ev.pos rfl (Ev.now _))

end Go.Proofs.Ytffohdlbkigehaa.Pure

/- CircleOf of the program and of the reference give the same answer, in memory of its own. -/
import Derived.Test.YtemcokpkgpnloaaHLemFnExactCircleOf
set_option linter.unusedVariables false
set_option linter.unusedSimpArgs false
namespace Go.Proofs.Ytemcokpkgpnloaa.HPure
open Go.RowKit Go.Proofs.Ytemcokpkgpnloaa.HFnExactCircleOf Go.Proofs.YtemcokpkgpnloaaW.PrintWords Go.Proofs.YtemcokpkgpnloaaW.PrintLast Go.Proofs.YtemcokpkgpnloaaW.PrintMore Go.Proofs.Ytemcokpkgpnloaa.Base Go.Proofs.Ytemcokpkgpnloaa.LemFnExactCircleOf

theorem FnExactCircleOf : laws_FnExactCircleOf.Pure := by
  intro n _
  apply Ev.rounds
  simp only [laws_FnExactCircleOf.f]
  have hb := circ_small n
  have ei := impl_CircleOf_ev n
  have es := spec_CircleOf_ev n
  generalize circW n = g at *
  obtain ⟨g, b⟩ := g
  simp only at hb
  refine Ev.bind es (Ev.bind ei ?_)
  refine Ev.bind (laws_eqIntS_ev g g (by omega)) (Ev.pos (by simp) ?_)
  apply Ev.succ
  simp only [laws_FnExactCircleOf.j0.eq_2]
  refine Ev.neg (by simp) ?_
  refine Ev.bind (laws_markIntS_ev g 1 (by omega) (by omega) (by omega)) ?_
  refine Ev.bind (laws_heldIntS_ev g.length 1 (by omega) (by omega) (by omega)) (Ev.neg (by omega) (Ev.pos rfl ?_))
  refine Ev.bind ei (Ev.bind (laws_eqIntS_ev g g (by omega)) (Ev.pos (by simp) ?_))
  apply Ev.succ
  simp only [laws_FnExactCircleOf.j1.eq_2]
  refine Ev.neg (by simp) (Ev.bind (laws_heldIntS_ev g.length 1 (by omega) (by omega) (by omega)) ?_)
  exact Ev.neg (by omega) (Ev.pos rfl (Ev.now _))

end Go.Proofs.Ytemcokpkgpnloaa.HPure

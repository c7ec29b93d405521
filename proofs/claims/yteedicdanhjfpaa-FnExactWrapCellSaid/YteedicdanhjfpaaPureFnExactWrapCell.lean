/- WrapCell of the program and of the reference give the same number, for all numbers. No condition. -/
import Derived.Test.YteedicdanhjfpaaLemFnExactWrapCell
namespace Go.Proofs.Yteedicdanhjfpaa.Pure
open Go.RowKit Go.Proofs.Yteedicdanhjfpaa.PFnExactWrapCell Go.Proofs.YteedicdanhjfpaaW.PrintWords Go.Proofs.YteedicdanhjfpaaW.PrintLast Go.Proofs.YteedicdanhjfpaaW.PrintMore Go.Proofs.Yteedicdanhjfpaa.Base Go.Proofs.Yteedicdanhjfpaa.LemFnExactWrapCell

theorem FnExactWrapCell : laws_FnExactWrapCell.Pure := by
  intro a0 _
  apply Ev.rounds
  simp only [laws_FnExactWrapCell.f]
  refine Ev.bindc (spec_WrapCell_eq a0) ?_
  refine Ev.bind (impl_WrapCell_ev a0) ?_
  exact Ev.pos rfl (Ev.now _)

end Go.Proofs.Yteedicdanhjfpaa.Pure

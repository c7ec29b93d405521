/- Lemmas: what each function that this statement reaches computes. -/
import Derived.Test.YteedicdanhjfpaaPFnExactOpNamex1
import Derived.Test.YteedicdanhjfpaaBase
namespace Go.Proofs.Yteedicdanhjfpaa.LemFnExactOpName
open Go.RowKit Go.Proofs.YteedicdanhjfpaaW.PrintWords Go.Proofs.YteedicdanhjfpaaW.PrintLast Go.Proofs.YteedicdanhjfpaaW.PrintMore Go.Proofs.Yteedicdanhjfpaa.PFnExactOpName Go.Proofs.Yteedicdanhjfpaa.Base

theorem spec_l1In_eq (a b c : Int) : spec_l1In.f a b c = some (decide (b ≤ a ∧ a ≤ c)) := by
  unfold spec_l1In.f
  by_cases h : b ≤ a
  · rw [if_pos (by omega)]; simp [h]
  · rw [if_neg (by omega)]; simp [h]

end Go.Proofs.Yteedicdanhjfpaa.LemFnExactOpName

/- OpName of the program and of the reference give the same name, for all codes. No condition. -/
import Derived.Test.YteedicdanhjfpaaLemFnExactOpName
namespace Go.Proofs.Yteedicdanhjfpaa.Pure
open Go.RowKit Go.Proofs.Yteedicdanhjfpaa.PFnExactOpName Go.Proofs.YteedicdanhjfpaaW.PrintWords Go.Proofs.YteedicdanhjfpaaW.PrintLast Go.Proofs.YteedicdanhjfpaaW.PrintMore Go.Proofs.Yteedicdanhjfpaa.Base Go.Proofs.Yteedicdanhjfpaa.LemFnExactOpName

theorem FnExactOpName : laws_FnExactOpName.Pure := by
  intro a0 _
  unfold laws_FnExactOpName.f spec_OpName.f impl_OpName.f
  rw [spec_l1In_eq]
  simp only [Option.bind_some, decide_eq_true_eq]
  by_cases h : 1 ≤ a0 ∧ a0 ≤ 15
  · rw [if_pos h, if_neg (by omega), if_neg (by omega)]
    unfold spec_l7Names.f impl_opNames.f
    simp only [Option.bind_some]
    rw [if_pos (by omega), if_pos (by simp; omega)]
    simp
  · rw [if_neg h]
    by_cases h1 : a0 < 1
    · rw [if_pos h1]; simp
    · rw [if_neg h1, if_pos (by omega)]; simp

end Go.Proofs.Yteedicdanhjfpaa.Pure

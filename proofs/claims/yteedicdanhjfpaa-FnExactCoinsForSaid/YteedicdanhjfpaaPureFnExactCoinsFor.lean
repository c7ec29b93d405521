/- CoinsFor of the program and of the reference give the same number, for all k. No condition. -/
import Derived.Test.YteedicdanhjfpaaLemFnExactCoinsFor
namespace Go.Proofs.Yteedicdanhjfpaa.Pure
open Go.RowKit Go.Proofs.Yteedicdanhjfpaa.PFnExactCoinsFor Go.Proofs.YteedicdanhjfpaaW.PrintWords Go.Proofs.YteedicdanhjfpaaW.PrintLast Go.Proofs.YteedicdanhjfpaaW.PrintMore Go.Proofs.Yteedicdanhjfpaa.Base Go.Proofs.Yteedicdanhjfpaa.LemFnExactCoinsFor

theorem FnExactCoinsFor : laws_FnExactCoinsFor.Pure := by
  intro a0 _
  apply Ev.rounds
  simp only [laws_FnExactCoinsFor.f, spec_CoinsFor.f, impl_CoinsFor.f, spec_l1In_eq, Option.bind_some, decide_eq_true_eq]
  by_cases h : 2 ≤ a0 ∧ a0 ≤ 5
  · simp only [if_pos h, if_neg (show ¬ a0 < 2 by omega), if_neg (show ¬ a0 > 5 by omega), Option.bind_assoc, Option.bind_some]
    refine Ev.bind (spec_LimitOf_ev a0) ?_
    refine Ev.bind (impl_power_ev a0 (by omega) (by omega)) ?_
    have h1 := pow3_30 (i := a0.toNat) (by omega)
    have h2 := pow3_pos a0.toNat
    have h3 := pow3_lim a0.toNat
    have h4 : (3 : Int) ^ 2 ≤ 3 ^ a0.toNat := pow3_mono (by omega)
    have h5 : lim a0 = (3 ^ a0.toNat - 1) / 2 := by unfold lim; rw [if_pos (by omega)]
    refine Ev.pos ?_ (Ev.now _)
    rw [w64 (n := _ - 3) (by omega) (by omega), Int.tdiv_eq_ediv_of_nonneg (by omega), w64 (by omega) (by omega), w64 (n := lim a0 - 1) (by omega) (by omega)]
    omega
  · simp only [if_neg h]
    by_cases h1 : a0 < 2
    · simp only [if_pos h1, Option.bind_some]; exact Ev.ret rfl
    · simp only [if_neg h1, if_pos (show a0 > 5 by omega), Option.bind_some]; exact Ev.ret rfl

end Go.Proofs.Yteedicdanhjfpaa.Pure

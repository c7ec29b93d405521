/- ThueTrits of the program and of the reference give the same trits, in memory of their own, for all n. No condition. -/
import Derived.Test.YteedicdanhjfpaaLemFnExactThueTrits
set_option linter.unusedVariables false
set_option linter.unusedSimpArgs false
namespace Go.Proofs.Yteedicdanhjfpaa.Pure
open Go.RowKit Go.Proofs.Yteedicdanhjfpaa.PFnExactThueTrits Go.Proofs.YteedicdanhjfpaaW.PrintWords Go.Proofs.YteedicdanhjfpaaW.PrintLast Go.Proofs.YteedicdanhjfpaaW.PrintMore Go.Proofs.Yteedicdanhjfpaa.Base Go.Proofs.Yteedicdanhjfpaa.LemFnExactThueTrits

theorem thueV_length (n : Int) : (thueV n).1.length ≤ 768 := by
  unfold thueV
  split
  · rw [List.length_take, thueT_length9]; omega
  · simp
theorem FnExactThueTrits : laws_FnExactThueTrits.Pure := by
  intro n _
  have hs : Ev (fun k => spec_ThueTrits.f k n) (thueV n) := spec_ThueTrits_ev n
  have hm := impl_ThueTrits_ev n
  have hl := thueV_length n
  generalize thueV n = g at *
  apply Ev.rounds
  simp only [laws_FnExactThueTrits.f]
  refine Ev.bind hs (Ev.bind hm ?_)
  refine Ev.bind (laws_eqIntS_ev g.1 g.1 (by omega)) ?_
  refine Ev.pos (by simp) ?_
  apply Ev.succ
  simp only [laws_FnExactThueTrits.j0.eq_2]
  refine Ev.neg (by simp) ?_
  refine Ev.bind (laws_markIntS_ev g.1 1 (by omega) (by omega) (by omega)) ?_
  refine Ev.bind (laws_heldIntS_ev g.1.length 1 (by omega) (by omega) (by omega)) ?_
  refine Ev.neg (by omega) (Ev.pos rfl ?_)
  refine Ev.bind hm ?_
  refine Ev.bind (laws_eqIntS_ev g.1 g.1 (by omega)) ?_
  refine Ev.pos (by simp) ?_
  apply Ev.succ
  simp only [laws_FnExactThueTrits.j1.eq_2]
  refine Ev.neg (by simp) ?_
  refine Ev.bind (laws_heldIntS_ev g.1.length 1 (by omega) (by omega) (by omega)) ?_
  exact Ev.neg (by omega) (Ev.pos rfl (Ev.now _))

end Go.Proofs.Yteedicdanhjfpaa.Pure

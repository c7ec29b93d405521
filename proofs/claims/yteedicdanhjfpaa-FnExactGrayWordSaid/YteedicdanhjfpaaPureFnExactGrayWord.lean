/- GrayWord of the program and of the reference give the same word, in memory of its own, for all arguments. No condition. -/
import Derived.Test.YteedicdanhjfpaaLemFnExactGrayWord
set_option linter.unusedVariables false
set_option linter.unusedSimpArgs false
namespace Go.Proofs.Yteedicdanhjfpaa.Pure
open Go.RowKit Go.Proofs.Yteedicdanhjfpaa.PFnExactGrayWord Go.Proofs.YteedicdanhjfpaaW.PrintWords Go.Proofs.YteedicdanhjfpaaW.PrintLast Go.Proofs.YteedicdanhjfpaaW.PrintMore Go.Proofs.Yteedicdanhjfpaa.Base Go.Proofs.Yteedicdanhjfpaa.LemFnExactGrayWord

theorem grayW_length (i k : Int) : (grayW i k).1.length ≤ 30 := by
  unfold grayW
  split
  · rw [grayG_length]; omega
  · simp
theorem FnExactGrayWord : laws_FnExactGrayWord.Pure := by
  intro i k hi hk
  have wi := wf64 hi
  have hs : Ev (fun n => spec_GrayWord.f n i k) (grayW i k) := spec_GrayWord_ev i k wi
  have hm := impl_GrayWord_ev i k wi
  have hl := grayW_length i k
  generalize grayW i k = g at *
  apply Ev.rounds
  simp only [laws_FnExactGrayWord.f]
  refine Ev.bind hs (Ev.bind hm ?_)
  refine Ev.bind (laws_eqIntS_ev g.1 g.1 (by omega)) ?_
  refine Ev.pos (by simp) ?_
  apply Ev.succ
  simp only [laws_FnExactGrayWord.j0.eq_2]
  refine Ev.neg (by simp) ?_
  refine Ev.bind (laws_markIntS_ev g.1 1 (by omega) (by omega) (by omega)) ?_
  refine Ev.bind (laws_heldIntS_ev g.1.length 1 (by omega) (by omega) (by omega)) ?_
  refine Ev.neg (by omega) (Ev.pos rfl ?_)
  refine Ev.bind hm ?_
  refine Ev.bind (laws_eqIntS_ev g.1 g.1 (by omega)) ?_
  refine Ev.pos (by simp) ?_
  apply Ev.succ
  simp only [laws_FnExactGrayWord.j1.eq_2]
  refine Ev.neg (by simp) ?_
  refine Ev.bind (laws_heldIntS_ev g.1.length 1 (by omega) (by omega) (by omega)) ?_
  exact Ev.neg (by omega) (Ev.pos rfl (Ev.now _))

end Go.Proofs.Yteedicdanhjfpaa.Pure

/- RotateWord of the program and of the reference give the same word, in memory of its own, for all arguments. No condition. -/
import Derived.Test.YteedicdanhjfpaaHLemFnExactRotateWord
set_option linter.unusedVariables false
set_option linter.unusedSimpArgs false
namespace Go.Proofs.Yteedicdanhjfpaa.HPure
open Go.RowKit Go.Proofs.Yteedicdanhjfpaa.HFnExactRotateWord Go.Proofs.YteedicdanhjfpaaW.PrintWords Go.Proofs.YteedicdanhjfpaaW.PrintLast Go.Proofs.YteedicdanhjfpaaW.PrintMore Go.Proofs.Yteedicdanhjfpaa.Base Go.Proofs.Yteedicdanhjfpaa.LemFnExactRotateWord

theorem FnExactRotateWord : laws_FnExactRotateWord.Pure := by
  intro w b _ _ _ _
  apply Ev.rounds
  simp only [laws_FnExactRotateWord.f]
  refine Ev.ite (fun h => Ev.now _) (fun h => ?_)
  have hn : w.length ≤ 35184372088832 := by omega
  have hs : Ev (fun k => spec_RotateWord.f k w b) (rotV w b) := spec_RotateWord_ev w hn b
  have hm := impl_RotateWord_ev w b
  have hl : (rotV w b).length ≤ 30 := by
    unfold rotV
    split
    · have hw := (isWord_iff w).1 (by assumption)
      have h5 := Int.emod_lt_of_pos b (show (0 : Int) < w.length by omega)
      rw [rot_length w _ (by omega)]; exact hw.1.2
    · simp
  generalize rotV w b = g at *
  refine Ev.bind (laws_toIntS_ev w hn) (Ev.bind hs (Ev.bind (laws_toIntS_ev w hn) (Ev.bind hm ?_)))
  refine Ev.bind (laws_eqIntS_ev g g (by omega)) (Ev.pos (by simp) ?_)
  refine Ev.bind (laws_toIntS_ev w hn) (Ev.bind (laws_eqIntS_ev w w hn) (Ev.pos (by simp) ?_))
  refine Ev.bind (laws_markIntS_ev w 1 (by omega) (by omega) (by omega)) (Ev.neg (by omega) ?_)
  refine Ev.bind (laws_eqIntS_ev g g (by omega)) ?_
  apply Ev.succ
  simp only [laws_FnExactRotateWord.j0.eq_2]
  refine Ev.neg (by simp) ?_
  refine Ev.bind (laws_markIntS_ev g 1 (by omega) (by omega) (by omega)) ?_
  refine Ev.bind (laws_heldIntS_ev g.length 1 (by omega) (by omega) (by omega)) (Ev.neg (by omega) (Ev.pos rfl ?_))
  refine Ev.bind (laws_toIntS_ev w hn) (Ev.bind hm ?_)
  refine Ev.bind (laws_eqIntS_ev g g (by omega)) (Ev.pos (by simp) ?_)
  refine Ev.bind (laws_heldIntS_ev g.length 1 (by omega) (by omega) (by omega)) ?_
  exact Ev.neg (by omega) (Ev.pos rfl (Ev.now _))

end Go.Proofs.Yteedicdanhjfpaa.HPure

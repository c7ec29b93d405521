/- NecklaceOf of the program and of the reference give the same word, in memory of its own, for all lists. No condition. -/
import Derived.Test.YtbiibngicelmoaaHLemFnExactNecklaceOf
set_option linter.unusedVariables false
set_option linter.unusedSimpArgs false
namespace Go.Proofs.Ytbiibngicelmoaa.HPure
open Go.RowKit Go.Proofs.Ytbiibngicelmoaa.HFnExactNecklaceOf Go.Proofs.YtbiibngicelmoaaW.PrintWords Go.Proofs.YtbiibngicelmoaaW.PrintLast Go.Proofs.YtbiibngicelmoaaW.PrintMore Go.Proofs.Ytbiibngicelmoaa.Base Go.Proofs.Ytbiibngicelmoaa.LemFnExactNecklaceOf

theorem FnExactNecklaceOf : laws_FnExactNecklaceOf.Pure := by
  intro w _ _ _
  apply Ev.rounds
  simp only [laws_FnExactNecklaceOf.f]
  refine Ev.ite (fun h => Ev.now _) (fun h => ?_)
  have hn : w.length ≤ 35184372088832 := by omega
  have hs := spec_NecklaceOf_ev w hn
  have hm := impl_NecklaceOf_ev w
  have hl : (if isWord w = true then neck w else []).length ≤ 30 := by
    split
    · have hw := (isWord_iff w).1 (by assumption)
      rw [neck_length w hw.1.1]; exact hw.1.2
    · simp
  generalize (if isWord w = true then neck w else []) = g at *
  refine Ev.bind (laws_toIntS_ev w hn) (Ev.bind hs (Ev.bind (laws_toIntS_ev w hn) (Ev.bind hm ?_)))
  refine Ev.bind (laws_eqIntS_ev g g (by omega)) (Ev.pos (by simp) ?_)
  refine Ev.bind (laws_toIntS_ev w hn) (Ev.bind (laws_eqIntS_ev w w hn) (Ev.pos (by simp) ?_))
  refine Ev.bind (laws_markIntS_ev w 1 (by omega) (by omega) (by omega)) (Ev.neg (by omega) ?_)
  refine Ev.bind (laws_eqIntS_ev g g (by omega)) ?_
  apply Ev.succ
  simp only [laws_FnExactNecklaceOf.j0.eq_2]
  refine Ev.neg (by simp) ?_
  refine Ev.bind (laws_markIntS_ev g 1 (by omega) (by omega) (by omega)) ?_
  refine Ev.bind (laws_heldIntS_ev g.length 1 (by omega) (by omega) (by omega)) (Ev.neg (by omega) (Ev.pos rfl ?_))
  refine Ev.bind (laws_toIntS_ev w hn) (Ev.bind hm ?_)
  refine Ev.bind (laws_eqIntS_ev g g (by omega)) (Ev.pos (by simp) ?_)
  refine Ev.bind (laws_heldIntS_ev g.length 1 (by omega) (by omega) (by omega)) ?_
  exact Ev.neg (by omega) (Ev.pos rfl (Ev.now _))

end Go.Proofs.Ytbiibngicelmoaa.HPure

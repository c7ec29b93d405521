/- GuessOf of the program and of the reference give the same answer. -/
import Derived.Test.YtffohdlbkigehaaHLemFnExactGuessOf
set_option linter.unusedVariables false
set_option linter.unusedSimpArgs false
namespace Go.Proofs.Ytffohdlbkigehaa.HPure
open Go.RowKit Go.Proofs.Ytffohdlbkigehaa.HFnExactGuessOf Go.Proofs.YtffohdlbkigehaaW.PrintWords Go.Proofs.YtffohdlbkigehaaW.PrintLast Go.Proofs.YtffohdlbkigehaaW.PrintMore Go.Proofs.Ytffohdlbkigehaa.Base Go.Proofs.Ytffohdlbkigehaa.LemFnExactGuessOf

theorem FnExactGuessOf : laws_FnExactGuessOf.OPure := by
  intro l o hl ho
  apply Ev.rounds
  simp only [laws_FnExactGuessOf.f]
  refine Ev.ite (fun _ => Ev.now _) (fun h0 => ?_)
  have hn : o.length ≤ 1048576 := by omega
  refine Ev.bind (laws_szIntSS_ev l hl.1 (fun y hy => (hl.2 y hy).1) 1048576 (by omega) (by omega)) (Ev.ite (fun h => Ev.now _) (fun h => ?_))
  have hs : l.length + tot l ≤ 1048576 := by
    unfold rest at h
    split at h <;> omega
  have hw : ∀ y ∈ l, y.length ≤ 1048576 := fun y hy => by have := tot_mem hy; omega
  have hll : l.length ≤ 1048576 := by omega
  have e1 := laws_toIntSS_ev l hll hw
  have e2 := laws_toIntS_ev o (by omega)
  refine Ev.bind e1 (Ev.bind e2 (Ev.bind (spec_GuessOf_ev l hll hw o) (Ev.bind e1 (Ev.bind e2 (Ev.bind (impl_GuessOf_ev l hll hw o) ?_)))))
  refine Ev.pos rfl (Ev.pos rfl ?_)
  apply Ev.succ
  simp only [laws_FnExactGuessOf.j0.eq_2]
  refine Ev.neg (by simp) (Ev.bind e1 (Ev.bind (laws_eqIntSS_ev l hll hw) (Ev.pos rfl (Ev.bind e2 (Ev.bind (laws_eqIntS_ev o o (by omega)) (Ev.pos (by simp) (Ev.now _)))))))

end Go.Proofs.Ytffohdlbkigehaa.HPure

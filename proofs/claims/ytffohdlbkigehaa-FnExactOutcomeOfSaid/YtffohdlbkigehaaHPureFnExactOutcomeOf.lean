/- OutcomeOf of the program and of the reference give the same answer, in memory of its own. -/
import Derived.Test.YtffohdlbkigehaaHLemFnExactOutcomeOf
set_option linter.unusedVariables false
set_option linter.unusedSimpArgs false
namespace Go.Proofs.Ytffohdlbkigehaa.HPure
open Go.RowKit Go.Proofs.Ytffohdlbkigehaa.HFnExactOutcomeOf Go.Proofs.YtffohdlbkigehaaW.PrintWords Go.Proofs.YtffohdlbkigehaaW.PrintLast Go.Proofs.YtffohdlbkigehaaW.PrintMore Go.Proofs.Ytffohdlbkigehaa.Base Go.Proofs.Ytffohdlbkigehaa.LemFnExactOutcomeOf

theorem FnExactOutcomeOf : laws_FnExactOutcomeOf.OPure := by
  intro l c e hl _ _
  apply Ev.rounds
  simp only [laws_FnExactOutcomeOf.f]
  refine Ev.bind (laws_szIntSS_ev l hl.1 (fun y hy => (hl.2 y hy).1) 1048576 (by omega) (by omega)) (Ev.ite (fun h => Ev.now _) (fun h => ?_))
  have hs : l.length + tot l ≤ 1048576 := by
    unfold rest at h
    split at h <;> omega
  have hw : ∀ y ∈ l, y.length ≤ 1048576 := fun y hy => by have := tot_mem hy; omega
  have hll : l.length ≤ 1048576 := by omega
  have e1 := laws_toIntSS_ev l hll hw
  have ei := impl_OutcomeOf_ev l hll hw c e
  have es := spec_OutcomeOf_ev l hll hw c e
  have hg : ∀ i : Nat, (l.getD i []).length ≤ 1048576 := by
    intro i
    rw [List.getD_eq_getElem?_getD]
    rcases h : l[i]? with _ | y
    · simp
    · exact hw y (List.mem_of_getElem? h)
  have hb : (outB l c e).1.length ≤ 1048576 := by
    unfold outB
    split
    · split
      · simpa using hg 0
      · simpa using hg c.toNat
    · simp
  generalize outB l c e = g at *
  obtain ⟨g, b⟩ := g
  simp only at hb
  refine Ev.bind e1 (Ev.bind es (Ev.bind e1 (Ev.bind ei ?_)))
  refine Ev.bind (laws_eqIntS_ev g g (by omega)) (Ev.pos (by simp) ?_)
  apply Ev.succ
  simp only [laws_FnExactOutcomeOf.j0.eq_2]
  refine Ev.neg (by simp) (Ev.bind e1 (Ev.bind (laws_eqIntSS_ev l hll hw) (Ev.pos rfl ?_)))
  refine Ev.bind (laws_markIntSS_ev l 1 (by omega) (by omega) hw) (Ev.neg (by omega) ?_)
  refine Ev.bind (laws_eqIntS_ev g g (by omega)) (Ev.pos (by simp) ?_)
  apply Ev.succ
  simp only [laws_FnExactOutcomeOf.j1.eq_2]
  refine Ev.neg (by simp) ?_
  refine Ev.bind (laws_markIntS_ev g 1 (by omega) (by omega) (by omega)) ?_
  refine Ev.bind (laws_heldIntS_ev g.length 1 (by omega) (by omega) (by omega)) (Ev.neg (by omega) (Ev.pos rfl ?_))
  refine Ev.bind e1 (Ev.bind ei (Ev.bind (laws_eqIntS_ev g g (by omega)) (Ev.pos (by simp) ?_)))
  apply Ev.succ
  simp only [laws_FnExactOutcomeOf.j2.eq_2]
  refine Ev.neg (by simp) (Ev.bind (laws_heldIntS_ev g.length 1 (by omega) (by omega) (by omega)) ?_)
  exact Ev.neg (by omega) (Ev.pos rfl (Ev.now _))

end Go.Proofs.Ytffohdlbkigehaa.HPure

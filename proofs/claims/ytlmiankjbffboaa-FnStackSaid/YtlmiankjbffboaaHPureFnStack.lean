/- No operation is executed without its numbers on the stack, nor beyond the room of the stack, and one that is not executed changes nothing. -/
import Derived.Test.YtlmiankjbffboaaHLemFnStack
set_option linter.unusedVariables false
set_option linter.unusedSimpArgs false
namespace Go.Proofs.Ytlmiankjbffboaa.HPure
open Go.RowKit Go.Proofs.Ytlmiankjbffboaa.HFnStack Go.Proofs.YtlmiankjbffboaaW.PrintWords Go.Proofs.YtlmiankjbffboaaW.PrintLast Go.Proofs.YtlmiankjbffboaaW.PrintMore Go.Proofs.Ytlmiankjbffboaa.Base Go.Proofs.Ytlmiankjbffboaa.LemFnStack

theorem goP_fst (x : S48) (pc : Int) (st cl : List Int) (y a : Int) : (goP x pc st cl y a).1 = 0 := by
  unfold goP; simp only [apply_ite Prod.fst, ite_self]
theorem stepP_stop {l : List S48} {pc : Int} {st cl : List Int} (h : (stepP l pc st cl).1 ≠ 0) : (stepP l pc st cl).2 = (pc, st, cl) ∧ (1 ≤ (stepP l pc st cl).1 ∧ (stepP l pc st cl).1 ≤ 4) ∧ ((stepP l pc st cl).1 = 2 ↔ pc = l.length) := by
  unfold stepP at h ⊢
  by_cases e0 : pc = (l.length : Int)
  · rw [if_pos e0] at h ⊢; exact ⟨rfl, by simp, fun _ => e0, fun _ => rfl⟩
  rw [if_neg e0] at h ⊢
  by_cases e1 : (rd_T48 l pc).f0 = 15
  · rw [if_pos e1] at h ⊢; exact ⟨rfl, by simp, fun hh => absurd hh (by simp), fun hh => absurd hh e0⟩
  rw [if_neg e1] at h ⊢
  by_cases e2 : st.length < ndP (rd_T48 l pc).f0
  · rw [if_pos e2] at h ⊢; exact ⟨rfl, by simp, fun hh => absurd hh (by simp), fun hh => absurd hh e0⟩
  rw [if_neg e2] at h ⊢
  by_cases e3 : st.length = 20 ∧ ((rd_T48 l pc).f0 = 1 ∨ (rd_T48 l pc).f0 = 7)
  · rw [if_pos e3] at h ⊢; exact ⟨rfl, by simp, fun hh => absurd hh (by simp), fun hh => absurd hh e0⟩
  rw [if_neg e3] at h ⊢
  by_cases e4 : ((rd_T48 l pc).f0 = 11 ∨ (rd_T48 l pc).f0 = 12) ∧ ¬ (-13 ≤ rd st ((st.length : Int) - 1) ∧ rd st ((st.length : Int) - 1) ≤ 13)
  · rw [if_pos e4] at h ⊢; exact ⟨rfl, by simp, fun hh => absurd hh (by simp), fun hh => absurd hh e0⟩
  rw [if_neg e4] at h
  exfalso
  exact h (goP_fst _ _ _ _ _ _)
theorem stepP_go {l : List S48} {pc : Int} {st cl : List Int} (hc : codeB l = true) (h0 : 0 ≤ pc) (hp : pc ≤ l.length) (h : (stepP l pc st cl).1 = 0) : pc < l.length ∧ (((rd_T48 l pc).f0 = 1 ∨ (rd_T48 l pc).f0 = 7) ↔ ((stepP l pc st cl).2.2.1.length : Int) - st.length = 1) ∧ ((rd_T48 l pc).f0 = 12 ↔ ((stepP l pc st cl).2.2.1.length : Int) - st.length = -2) ∧ ((rd_T48 l pc).f0 ≠ 13 → (rd_T48 l pc).f0 ≠ 14 → (stepP l pc st cl).2.1 = pc + 1) := by
  unfold stepP at h ⊢
  by_cases e0 : pc = (l.length : Int)
  · rw [if_pos e0] at h; exact absurd h (by simp)
  rw [if_neg e0] at h ⊢
  have ho := codeB_op hc h0 (by omega)
  generalize rd_T48 l pc = x at *
  by_cases e1 : x.f0 = 15
  · rw [if_pos e1] at h; exact absurd h (by simp)
  rw [if_neg e1] at h ⊢
  by_cases e2 : st.length < ndP x.f0
  · rw [if_pos e2] at h; exact absurd h (by simp)
  rw [if_neg e2] at h ⊢
  by_cases e3 : st.length = 20 ∧ (x.f0 = 1 ∨ x.f0 = 7)
  · rw [if_pos e3] at h; exact absurd h (by simp)
  rw [if_neg e3] at h ⊢
  by_cases e4 : (x.f0 = 11 ∨ x.f0 = 12) ∧ ¬ (-13 ≤ rd st ((st.length : Int) - 1) ∧ rd st ((st.length : Int) - 1) ≤ 13)
  · rw [if_pos e4] at h; exact absurd h (by simp)
  rw [if_neg e4]
  refine ⟨by omega, ?_⟩
  clear h e4 e3
  unfold goP
  have e2' : ndP x.f0 ≤ st.length := by omega
  clear e2
  unfold ndP at e2'
  by_cases c1 : x.f0 = 1
  · simp [c1]; omega
  by_cases c2 : x.f0 = 2
  · simp [c2] at e2' ⊢; omega
  by_cases c3 : x.f0 = 3
  · simp [c3] at e2' ⊢; omega
  by_cases c4 : x.f0 = 4
  · simp [c4] at e2' ⊢; omega
  by_cases c5 : x.f0 = 5
  · simp [c5] at e2' ⊢
  by_cases c6 : x.f0 = 6
  · simp [c6] at e2' ⊢
  by_cases c7 : x.f0 = 7
  · simp [c7] at e2' ⊢; omega
  by_cases c8 : x.f0 = 8
  · simp [c8] at e2' ⊢
  by_cases c9 : x.f0 = 9
  · simp [c9] at e2' ⊢; omega
  by_cases c10 : x.f0 = 10
  · simp [c10] at e2' ⊢
  by_cases c11 : x.f0 = 11
  · simp [c11] at e2' ⊢
  by_cases c12 : x.f0 = 12
  · simp [c12] at e2' ⊢; omega
  by_cases c13 : x.f0 = 13
  · simp [c13] at e2' ⊢
  by_cases c14 : x.f0 = 14
  · simp [c14] at e2' ⊢; omega
  exfalso
  have ho2 : (if x.f0 = 1 then (-9841 ≤ x.f1 ∧ x.f1 ≤ 9841) ∧ x.f2 = 0 ∧ x.f3 = 0
    else if x.f0 = 10 then (-9 ≤ x.f1 ∧ x.f1 ≤ 9) ∧ x.f2 = 0 ∧ x.f3 = 0
    else if x.f0 = 13 then (0 ≤ x.f1 ∧ x.f1 ≤ (l.length : Int)) ∧ x.f2 = 0 ∧ x.f3 = 0
    else if x.f0 = 14 then (0 ≤ x.f1 ∧ x.f1 ≤ (l.length : Int)) ∧ (0 ≤ x.f2 ∧ x.f2 ≤ (l.length : Int)) ∧ (0 ≤ x.f3 ∧ x.f3 ≤ (l.length : Int))
    else (1 ≤ x.f0 ∧ x.f0 ≤ 15) ∧ x.f1 = 0 ∧ x.f2 = 0 ∧ x.f3 = 0) := by simpa [opB] using ho
  rw [if_neg c1, if_neg c10, if_neg c13, if_neg c14] at ho2
  omega
theorem FnStack : laws_FnStack.Pure := by
  intro l hl0 _ hb
  apply Ev.rounds
  simp only [laws_FnStack.f]
  refine Ev.ite (fun h => Ev.now _) (fun h => ?_)
  have hl : l.length ≤ 1048576 := by omega
  obtain ⟨c, hcd, hc⟩ := spec_MakeCode_ev l (by omega)
  obtain ⟨fr, hfr, hfl⟩ := laws_fresh_ev l 3
  obtain ⟨p, s, cl, hmm, hv⟩ := spec_MakeMachine_ev fr (by omega) c hc
  refine Ev.bind hcd (Ev.bind hfr (Ev.bind hmm (Ev.bind (impl_StepMachine_ev c p s cl hc hv) ?_)))
  have hv2 := stepP_vm hc hv
  have hlen := codeB_len hc
  have h1 := spec_IsMachine_ev c (stepP c p s cl).2.1 (stepP c p s cl).2.2.1 (stepP c p s cl).2.2.2 (by omega) (by have := hv2.sl; omega) (by have := hv2.cn; omega)
  rw [(machB_iff _ _ _ _).2 ⟨hc, hv2⟩] at h1
  refine Ev.bind h1 (Ev.pos rfl ?_)
  have hsl := hv.sl
  have hsl2 := hv2.sl
  by_cases e : (stepP c p s cl).1 = 0
  · obtain ⟨g1, g2, g3, g4⟩ := stepP_go hc hv.p0 hv.p1 e
    generalize stepP c p s cl = q at *
    obtain ⟨how, p', s', cl'⟩ := q
    dsimp only at *
    subst e
    refine Ev.neg (by decide) ?_
    apply Ev.succ
    simp only [laws_FnStack.j0.eq_2]
    refine Ev.neg (by simp) (Ev.pos (by simp) (Ev.pos hv.p0 (Ev.pos g1 ?_)))
    rw [w64 (n := (s'.length : Int) - s.length) (by omega) (by omega), w64 (n := p + 1) (by have := hv.p0; omega) (by omega)]
    generalize rd_T48 c p = x at *
    generalize (s'.length : Int) - s.length = gr at *
    have e12 : ((x.f0 == 12) != (gr == -2)) = false := by
      by_cases q : x.f0 = 12
      · rw [beq_iff_eq.mpr q, beq_iff_eq.mpr (g3.1 q)]; rfl
      · rw [beq_eq_false_iff_ne.mpr q, beq_eq_false_iff_ne.mpr (fun hh => q (g3.2 hh))]; rfl
    rw [e12]
    have fin : Ev (fun _ => if x.f0 = 13 then some true else if x.f0 = 14 then some true else some (p' == p + 1)) true := by
      refine Ev.ite (fun _ => Ev.now _) (fun q13 => Ev.ite (fun _ => Ev.now _) (fun q14 => Ev.ret ?_))
      rw [g4 q13 q14]; simp
    refine Ev.ite (fun q => ?_) (fun q => ?_)
    · rw [beq_iff_eq.mpr (g2.1 (.inl q))]
      exact Ev.neg (by decide) (Ev.neg (by decide) fin)
    · have e7 : ((x.f0 == 7) != (gr == 1)) = false := by
        by_cases q7 : x.f0 = 7
        · rw [beq_iff_eq.mpr q7, beq_iff_eq.mpr (g2.1 (.inr q7))]; rfl
        · rw [beq_eq_false_iff_ne.mpr q7, beq_eq_false_iff_ne.mpr (fun hh => (g2.2 hh).elim q q7)]; rfl
      rw [e7]
      exact Ev.neg (by decide) (Ev.neg (by decide) fin)
  · obtain ⟨g1, g2, g3⟩ := stepP_stop e
    generalize stepP c p s cl = q at *
    obtain ⟨how, p', s', cl'⟩ := q
    dsimp only at *
    obtain ⟨rfl, rfl, rfl⟩ : p' = p ∧ s' = s ∧ cl' = cl := by simpa using g1
    refine Ev.neg (by omega) ?_
    rw [decide_eq_false (by omega : ¬ how > 4)]
    apply Ev.succ
    simp only [laws_FnStack.j0.eq_2]
    refine Ev.neg (by simp) (Ev.neg e (Ev.pos (by simp) ?_))
    have i1 := laws_ints_ev s' s' (by omega)
    have i2 := laws_ints_ev cl' cl' (by have := hv.cn; omega)
    rw [decide_eq_true rfl] at i1 i2
    refine Ev.bind i1 (Ev.pos (by simp) (Ev.bind i2 (Ev.pos (by simp) (Ev.ret ?_))))
    by_cases q : how = 2
    · rw [beq_iff_eq.mpr q, beq_iff_eq.mpr (g3.1 q)]; rfl
    · rw [beq_eq_false_iff_ne.mpr q, beq_eq_false_iff_ne.mpr (fun hh => q (g3.2 hh))]; rfl

end Go.Proofs.Ytlmiankjbffboaa.HPure

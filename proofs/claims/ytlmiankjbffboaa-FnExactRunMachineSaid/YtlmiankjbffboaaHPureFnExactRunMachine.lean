/- RunMachine of the program and of the reference give the same answer, for every program, machine and number of steps. -/
import Derived.Test.YtlmiankjbffboaaHLemFnExactRunMachine
set_option linter.unusedVariables false
set_option linter.unusedSimpArgs false
namespace Go.Proofs.Ytlmiankjbffboaa.HPure
open Go.RowKit Go.Proofs.Ytlmiankjbffboaa.HFnExactRunMachine Go.Proofs.YtlmiankjbffboaaW.PrintWords Go.Proofs.YtlmiankjbffboaaW.PrintLast Go.Proofs.YtlmiankjbffboaaW.PrintMore Go.Proofs.Ytlmiankjbffboaa.Base Go.Proofs.Ytlmiankjbffboaa.LemFnExactRunMachine

theorem tail_ev (c : List S48) (m : Int × List Int × List Int) (W : Int × List Int × List Int × Int) (hc : c.length ≤ 1048576) (m1 : m.2.1.length ≤ 1048576) (m2 : m.2.2.length ≤ 1048576) (w1 : W.2.1.length ≤ 1048576) (w2 : W.2.2.1.length ≤ 1048576) : Ev (fun k => laws_FnExactRunMachine.tail k c m W W) true := by
  simp only [laws_FnExactRunMachine.tail]
  obtain ⟨cm, hcm⟩ := laws_markOpS_ev c hc 1 (by omega) (by omega)
  refine Ev.pos trivial (Ev.bind (laws_eqMachine_ev _ _ _ w1 w2) (Ev.bind (laws_eqOpS_ev c hc) (Ev.bind (laws_eqMachine_ev _ _ _ m1 m2) (Ev.bind hcm (Ev.bind (laws_markMachine_ev _ _ _ _ (by omega) (by omega) m1 m2) (Ev.bind (laws_markMachine_ev _ _ _ 1 (by omega) (by omega) w1 w2) (Ev.bind (laws_heldMachine_ev _ _ _ 1 (by omega) (by omega) w1 w2) (Ev.pos ?_ (Ev.now _)))))))))
  exact ⟨rfl, rfl, rfl, by dsimp only; omega, by omega, rfl⟩
theorem runP_vm {l : List S48} (hc : codeB l = true) : ∀ (n : Nat) (pc : Int) (st cl : List Int), Vm l pc st cl → Vm l (runP l n pc st cl).1 (runP l n pc st cl).2.1 (runP l n pc st cl).2.2.1
  | 0, _, _, _, h => h
  | n + 1, pc, st, cl, h => by
    unfold runP
    split
    · exact runP_vm hc n _ _ _ (stepP_vm hc h)
    · exact stepP_vm hc h
theorem law_core (l : List S65) (p : Int) (s c : List Int) (f : Int) (hl : l.length ≤ maxLen) (h1a : s.length ≤ maxLen) (h2a : c.length ≤ maxLen) : Ev (fun k => laws_FnExactRunMachine.f k l p s c f) true := by
  simp only [laws_FnExactRunMachine.f]
  refine Ev.bindc (laws_szOpS_eq l 1048576 hl (by omega) (by omega)) (Ev.ite (fun h => Ev.now _) (fun h => ?_))
  have hn : (l.length : Int) ≤ 1048576 := by split at h <;> omega
  rw [if_pos hn]
  refine Ev.bindc (laws_szMachine_eq _ _ _ _ h1a h2a (by omega) (by omega)) (Ev.ite (fun h => Ev.now _) (fun h => ?_))
  have hn' : (s.length : Int) + c.length ≤ 1048576 - l.length := by split at h <;> omega
  have e1 := laws_toOpS_ev l (by omega)
  have e2 := laws_toMachine_ev p s c (by omega) (by omega)
  have s1 : s.length ≤ 1048576 := by omega
  have s2 : c.length ≤ 1048576 := by omega
  refine Ev.bind e1 (Ev.bind e2 ?_)
  dsimp only
  have s0 : (l.map cvOp).length ≤ 1048576 := by simp; omega
  by_cases hm : machB (l.map cvOp) p s c = true ∧ 0 ≤ f ∧ f ≤ 2000
  · obtain ⟨hm, hf0, hf1⟩ := hm
    obtain ⟨hc, hv⟩ := (machB_iff _ _ _ _).1 hm
    obtain ⟨n, rfl⟩ := Int.eq_ofNat_of_zero_le hf0
    have hr := runP_vm hc n _ _ _ hv
    refine Ev.bind (spec_RunMachine_ev _ p s c n (by omega) hc hv) (Ev.bind (impl_RunMachine_ev _ p s c n (by omega) hc hv) (tail_ev _ _ _ s0 s1 s2 ?_ ?_))
    · have := hr.sl; omega
    · have := hr.cn; omega
  · exact Ev.bind (spec_RunMachine_no _ p s c f s0 s1 s2 hm) (Ev.bind (impl_RunMachine_no _ p s c f hm) (tail_ev _ _ _ s0 s1 s2 (by simp) (by simp)))
theorem FnExactRunMachine : laws_FnExactRunMachine.OPure := by
  intro l m f hl hm hf
  obtain ⟨h1a, h2a⟩ : m.f1.length ≤ maxLen ∧ m.f2.length ≤ maxLen := by cases hm; exact ⟨by assumption, by assumption⟩
  apply Ev.rounds
  exact law_core l m.f0 m.f1 m.f2 f hl.1 h1a h2a

end Go.Proofs.Ytlmiankjbffboaa.HPure

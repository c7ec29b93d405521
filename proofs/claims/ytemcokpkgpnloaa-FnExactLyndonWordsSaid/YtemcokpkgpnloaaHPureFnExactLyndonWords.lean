/- LyndonWords of the program and of the reference give the same answer, in memory of its own. -/
import Derived.Test.YtemcokpkgpnloaaHLemFnExactLyndonWords
set_option linter.unusedVariables false
set_option linter.unusedSimpArgs false
namespace Go.Proofs.Ytemcokpkgpnloaa.HPure
open Go.RowKit Go.Proofs.Ytemcokpkgpnloaa.HFnExactLyndonWords Go.Proofs.YtemcokpkgpnloaaW.PrintWords Go.Proofs.YtemcokpkgpnloaaW.PrintLast Go.Proofs.YtemcokpkgpnloaaW.PrintMore Go.Proofs.Ytemcokpkgpnloaa.Base Go.Proofs.Ytemcokpkgpnloaa.LemFnExactLyndonWords

theorem tot_small : ∀ (l : List (List Int)), (∀ x ∈ l, x.length ≤ 8) → tot l ≤ 8 * l.length
  | [], _ => by simp [tot]
  | x :: l, h => by
    have := tot_small l (fun y hy => h y (by simp [hy]))
    have := h x (by simp)
    simp only [tot, List.length_cons]; omega
theorem FnExactLyndonWords : laws_FnExactLyndonWords.OPure := by
  intro n _
  apply Ev.rounds
  simp only [laws_FnExactLyndonWords.f]
  have hb : (∀ x ∈ (lynW n).1, x.length ≤ 8) ∧ (lynW n).1.length ≤ 15309 := by
    unfold lynW
    split
    · simp
    · exact specL_words n.toNat (by omega)
  have ei := impl_LyndonWords_ev n
  have es := spec_LyndonWords_ev n
  generalize lynW n = g at *
  obtain ⟨g, b⟩ := g
  dsimp only at hb
  have ht := tot_small g hb.1
  have hw : ∀ y ∈ g, y.length ≤ 1048576 := fun y hy => by have := hb.1 y hy; omega
  refine Ev.bind es (Ev.bind ei (Ev.pos rfl ?_))
  refine Ev.bind (laws_eqIntSS_ev g (by omega) hw) (Ev.pos rfl ?_)
  refine Ev.bind (laws_markIntSS_s g 1 (by omega) (by omega) hw) ?_
  refine Ev.bind (laws_heldIntSS_ev g 1 (by omega) (by omega) hw (by omega)) ?_
  exact Ev.pos ⟨by omega, rfl⟩ (Ev.now _)

end Go.Proofs.Ytemcokpkgpnloaa.HPure

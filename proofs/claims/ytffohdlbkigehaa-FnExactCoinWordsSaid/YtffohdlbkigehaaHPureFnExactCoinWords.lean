/- CoinWords of the program and of the reference give the same answer, in memory of its own. -/
import Derived.Test.YtffohdlbkigehaaHLemFnExactCoinWords
set_option linter.unusedVariables false
set_option linter.unusedSimpArgs false
namespace Go.Proofs.Ytffohdlbkigehaa.HPure
open Go.RowKit Go.Proofs.Ytffohdlbkigehaa.HFnExactCoinWords Go.Proofs.YtffohdlbkigehaaW.PrintWords Go.Proofs.YtffohdlbkigehaaW.PrintLast Go.Proofs.YtffohdlbkigehaaW.PrintMore Go.Proofs.Ytffohdlbkigehaa.Base Go.Proofs.Ytffohdlbkigehaa.LemFnExactCoinWords

theorem tot_small : ∀ (l : List (List Int)), (∀ x ∈ l, x.length ≤ 8) → tot l ≤ 8 * l.length
  | [], _ => by simp [tot]
  | x :: l, h => by
    have := tot_small l (fun y hy => h y (by simp [hy]))
    have := h x (by simp)
    simp only [tot, List.length_cons]; omega
theorem FnExactCoinWords : laws_FnExactCoinWords.OPure := by
  intro a b _ _
  apply Ev.rounds
  simp only [laws_FnExactCoinWords.f]
  have hb : (∀ x ∈ (coinW a b).1, x.length ≤ 8) ∧ (coinW a b).1.length ≤ 15309 := by
    unfold coinW
    split
    · next h =>
      have ho := algI_ok a.toNat b.toNat (3 ^ b.toNat) (-(L3 b.toNat)) [] (fun x hx => absurd hx (by simp))
      have hp : 3 ^ b.toNat ≤ 243 := Nat.le_trans (Nat.pow_le_pow_right (by omega) (show b.toNat ≤ 5 by omega)) (by decide)
      refine ⟨fun x hx => ?_, ?_⟩
      · have := (ho.1 x hx).1; omega
      · have := ho.2; simp at this; dsimp only; omega
    · simp
  have ei := impl_CoinWords_ev a b
  have es := spec_CoinWords_ev a b
  generalize coinW a b = g at *
  obtain ⟨g, c⟩ := g
  dsimp only at hb
  have ht := tot_small g hb.1
  have hw : ∀ y ∈ g, y.length ≤ 1048576 := fun y hy => by have := hb.1 y hy; omega
  refine Ev.bind es (Ev.bind ei (Ev.pos rfl ?_))
  refine Ev.bind (laws_eqIntSS_ev g (by omega) hw) (Ev.pos rfl ?_)
  refine Ev.bind (laws_markIntSS_s g 1 (by omega) (by omega) hw) ?_
  refine Ev.bind (laws_heldIntSS_ev g 1 (by omega) (by omega) hw (by omega)) ?_
  exact Ev.pos ⟨by omega, rfl⟩ (Ev.now _)

end Go.Proofs.Ytffohdlbkigehaa.HPure

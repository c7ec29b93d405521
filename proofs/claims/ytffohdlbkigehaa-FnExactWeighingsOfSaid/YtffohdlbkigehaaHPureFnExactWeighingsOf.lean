/- WeighingsOf of the program and of the reference give the same answer, in memory of its own. -/
import Derived.Test.YtffohdlbkigehaaHLemFnExactWeighingsOf
set_option linter.unusedVariables false
set_option linter.unusedSimpArgs false
namespace Go.Proofs.Ytffohdlbkigehaa.HPure
open Go.RowKit Go.Proofs.Ytffohdlbkigehaa.HFnExactWeighingsOf Go.Proofs.YtffohdlbkigehaaW.PrintWords Go.Proofs.YtffohdlbkigehaaW.PrintLast Go.Proofs.YtffohdlbkigehaaW.PrintMore Go.Proofs.Ytffohdlbkigehaa.Base Go.Proofs.Ytffohdlbkigehaa.LemFnExactWeighingsOf

theorem tot_le (N : Nat) : ∀ (l : List (List Int)), (∀ y ∈ l, y.length ≤ N) → tot l ≤ l.length * N
  | [], _ => by simp [tot]
  | x :: xs, h => by
    have ih := tot_le N xs (fun y hy => h y (by simp [hy]))
    have := h x (by simp)
    rw [tot, List.length_cons, Nat.succ_mul]
    omega
theorem words_half : ∀ (l : List (List Int)), (∀ x ∈ l, 1 ≤ x.length) → l.length ≤ tot l
  | [], _ => by simp [tot]
  | x :: xs, h => by
    have ih := words_half xs (fun y hy => h y (by simp [hy]))
    have := h x (by simp)
    rw [tot, List.length_cons]
    omega
theorem weighs_form (l : List (List Int)) (hl : wordsB l = true → l.length ≤ 1048576) : ∃ (rs : List (List Int)) (m : Nat) (b : Bool), weighsB l = (impl_WeighingsOf.pairs rs m, b) ∧ rs.length = 2 * m ∧ m ≤ 30 ∧ ∀ y ∈ rs, y.length ≤ 1048576 := by
  unfold weighsB
  by_cases h : wordsB l = true
  · rw [if_pos h]
    have hwd := (wordsB_iff l).1 h
    have e0 : l.getD 0 [] = l[0]'hwd.1 := by simp [List.getD_eq_getElem?_getD, List.getElem?_eq_getElem hwd.1]
    have h0 := (isWord_iff _).1 (hwd.2 _ (List.getElem_mem hwd.1)).1
    have hm : (l.getD 0 []).length ≤ 30 := by rw [e0]; exact h0.1.2
    refine ⟨_, _, true, rfl, by rw [all_len]; simp, hm, ?_⟩
    intro y hy
    obtain ⟨t, ht, rfl⟩ := List.mem_iff_getElem.1 hy
    have hlen : (impl_WeighingsOf.all l 0 (List.replicate (2 * (l.getD 0 []).length) [])).length = 2 * (l.getD 0 []).length := by rw [all_len]; simp
    have hts : t / 2 < (l.getD 0 []).length := by omega
    obtain ⟨h1, h2⟩ := all_at (l.getD 0 []).length (t / 2) hts l 0 (List.replicate (2 * (l.getD 0 []).length) []) (fun w hw => (hwd.2 w hw).2) (by simp)
    have e : ∀ t, (List.replicate (2 * (l.getD 0 []).length) ([] : List Int)).getD t [] = [] := by
      intro t
      rw [List.getD_eq_getElem?_getD, List.getElem?_replicate]
      split <;> rfl
    rw [e, List.nil_append] at h1 h2
    have c1 := colI_len 1 (t / 2) l 0
    have c2 := colI_len (-1) (t / 2) l 0
    have hl := hl h
    generalize hRS : impl_WeighingsOf.all l 0 (List.replicate (2 * (l.getD 0 []).length) []) = RS at *
    have eg : RS[t] = RS.getD t [] := by rw [List.getD_eq_getElem?_getD, List.getElem?_eq_getElem ht, Option.getD_some]
    rw [eg]
    have d1 : (RS.getD (2 * (t / 2)) []).length ≤ 1048576 := by rw [h1]; omega
    have d2 : (RS.getD (2 * (t / 2) + 1) []).length ≤ 1048576 := by rw [h2]; omega
    have : t = 2 * (t / 2) ∨ t = 2 * (t / 2) + 1 := by omega
    rcases this with h | h
    · rw [h]; exact d1
    · rw [h]; exact d2
  · rw [if_neg h]
    exact ⟨[], 0, false, rfl, rfl, by omega, by simp⟩
theorem FnExactWeighingsOf : laws_FnExactWeighingsOf.OPure := by
  intro l hl
  apply Ev.rounds
  simp only [laws_FnExactWeighingsOf.f]
  refine Ev.bind (laws_szIntSS_ev l hl.1 (fun y hy => (hl.2 y hy).1) 1048576 (by omega) (by omega)) (Ev.ite (fun h => Ev.now _) (fun h => ?_))
  have hs : l.length + tot l ≤ 1048576 := by
    unfold rest at h
    split at h <;> omega
  have hw : ∀ y ∈ l, y.length ≤ 1048576 := fun y hy => by have := tot_mem hy; omega
  have hll : l.length ≤ 1048576 := by omega
  have hlw : wordsB l = true → l.length ≤ 1000000 := by
    intro hwb
    have := words_half l (fun x hx => ((isWord_iff _).1 (((wordsB_iff l).1 hwb).2 x hx).1).1.1)
    omega
  have e1 := laws_toIntSS_ev l hll hw
  have ei := impl_WeighingsOf_ev' l hlw
  have es := spec_WeighingsOf_ev l hll hw
  obtain ⟨rs, m, b, hg, hrl, hm, hrs⟩ := weighs_form l (fun _ => hll)
  rw [hg] at ei es
  have ht := tot_le 1048576 rs hrs
  have hpl : (impl_WeighingsOf.pairs rs m).length = m := by simp [impl_WeighingsOf.pairs]
  have eq := laws_eqWeighingS_ev (impl_WeighingsOf.pairs rs m) (by omega) (by
    intro y hy
    unfold impl_WeighingsOf.pairs at hy
    obtain ⟨i, hi, rfl⟩ := List.mem_map.1 hy
    have hi := List.mem_range.1 hi
    have h0 : 2 * i < rs.length := by omega
    have h1 : 2 * i + 1 < rs.length := by omega
    simp only [List.getD_eq_getElem?_getD, List.getElem?_eq_getElem h0, List.getElem?_eq_getElem h1, Option.getD_some]
    exact ⟨hrs _ (List.getElem_mem _), hrs _ (List.getElem_mem _)⟩)
  refine Ev.bind e1 (Ev.bind es (Ev.bind ei ?_))
  refine Ev.pos rfl (Ev.bind eq (Ev.pos rfl (Ev.bind (laws_eqIntSS_ev l hll hw) (Ev.pos rfl ?_))))
  refine Ev.bind (laws_markIntSS_ev l 1 (by omega) (by omega) hw) (Ev.pos (by omega) ?_)
  dsimp only
  rw [laws_FnExactWeighingsOf.flatPairs rs m hrl, hpl]
  refine Ev.bind (laws_markWeighingS_s rs 1 (by omega) (by omega) hrs) ?_
  refine Ev.bind (laws_heldWeighingS_ev rs m hrl 1 (by omega) (by omega) hrs (by omega)) ?_
  exact Ev.pos ⟨by omega, rfl⟩ (Ev.now _)

end Go.Proofs.Ytffohdlbkigehaa.HPure

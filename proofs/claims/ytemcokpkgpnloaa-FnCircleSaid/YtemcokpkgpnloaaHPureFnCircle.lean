/- The circle has each word of its trits once, if it is read around. -/
import Derived.Test.YtemcokpkgpnloaaHLemFnCircle
set_option linter.unusedVariables false
set_option linter.unusedSimpArgs false
namespace Go.Proofs.Ytemcokpkgpnloaa.HPure
open Go.RowKit Go.Proofs.Ytemcokpkgpnloaa.HFnCircle Go.Proofs.YtemcokpkgpnloaaW.PrintWords Go.Proofs.YtemcokpkgpnloaaW.PrintLast Go.Proofs.YtemcokpkgpnloaaW.PrintMore Go.Proofs.Ytemcokpkgpnloaa.Base Go.Proofs.Ytemcokpkgpnloaa.LemFnCircle

theorem cvals_get (c : List Int) (k M i : Nat) (h : i < M) : (cvals c k M)[i]'(by simpa [cvals] using h) = val (win c k M i) + L3 k := by simp [cvals]
theorem cvals_range (k : Nat) (h : 1 ≤ k ∧ k ≤ 5) : ∀ v ∈ cvals (circ k) k (3 ^ k), 0 ≤ v ∧ v < ((3 ^ k : Nat) : Int) := by
  intro v hv
  obtain ⟨i, _, rfl⟩ := List.mem_map.1 hv
  have hw := win_ok k h i
  have hr := val_range _ ((isWord_iff _).1 hw.1).2
  rw [hw.2] at hr
  have e3 := L3_pow k
  have e3n : ((3 ^ k : Nat) : Int) = (3 : Int) ^ k := by simp
  omega
theorem circle_l1 (K M : Nat) (hK : 1 ≤ K ∧ K ≤ 5) (hM : M = 3 ^ K) (hM2 : M ≤ 243) (i : Nat) (hi : i < M)
    (hnext : Ev (fun k => laws_FnCircle.l0 k K (circ K) M (seenM ((cvals (circ K) K M).take (i + 1)) M) M ((i + 1 : Nat) : Int)) true) :
    ∀ (d p : Nat), p + d = K → Ev (fun k => laws_FnCircle.l1 k K (circ K) M (seenM ((cvals (circ K) K M).take i) M) i ((win (circ K) K M i).take p) p M i) true := by
  have hw := win_ok K hK i
  rw [← hM] at hw
  have hlen : (circ K).length = M := by
    have hc := checkC_all K hK
    simp only [checkC, Bool.and_eq_true, decide_eq_true_eq] at hc
    rw [hc.1.1, hM]
  intro d
  induction d with
  | zero =>
    intro p hp
    apply Ev.succ
    simp only [laws_FnCircle.l1.eq_2]
    refine Ev.neg (by omega) ?_
    rw [List.take_of_length_le (by omega)]
    refine Ev.bind (spec_IsWord_ev _ (by omega)) (Ev.pos hw.1 (Ev.bind (spec_ValueOf_ev _ hw.1) (Ev.bind (spec_LimitOf_ev (K : Int)) ?_)))
    rw [lim_eq K ⟨hK.1, by omega⟩]
    have hcl : (cvals (circ K) K M).length = M := by simp [cvals]
    have hg := cvals_get (circ K) K M i hi
    have hmem : val (win (circ K) K M i) + L3 K ∈ cvals (circ K) K M := by rw [← hg]; exact List.getElem_mem _
    have hr := cvals_range K hK (val (win (circ K) K M i) + L3 K) (by rw [← hM]; exact hmem)
    rw [← hM] at hr
    have hd : diff (cvals (circ K) K M) = true := by
      have hc := checkC_all K hK
      simp only [checkC, Bool.and_eq_true] at hc
      rw [hM]; exact hc.2
    have hni := diff_get _ hd i (by omega)
    rw [hg] at hni
    have hst := seenM_get ((cvals (circ K) K M).take i) M (val (win (circ K) K M i) + L3 K) (fun x hx => (cvals_range K hK x (by rw [← hM]; exact List.mem_of_mem_take hx)).1) hr hni
    have e1 : (cvals (circ K) K M).take (i + 1) = (cvals (circ K) K M).take i ++ [val (win (circ K) K M i) + L3 K] := by
      rw [List.take_succ_eq_append_getElem (by omega), hg]
    rw [w64 (by omega) (by omega), w64 (n := (i : Int) + 1) (by omega) (by omega)]
    refine Ev.pos hr.1 (Ev.pos (by rw [hst.1]; exact hr.2) (Ev.neg ?_ ?_))
    · rw [show rdOf false (seenM ((cvals (circ K) K M).take i) M) (val (win (circ K) K M i) + L3 K) = _ from hst.2]
      simp
    · rw [← seenM_snoc, ← e1, show (i : Int) + 1 = ((i + 1 : Nat) : Int) by omega]
      exact hnext
  | succ d ih =>
    intro p hp
    have hpl : p < (win (circ K) K M i).length := by omega
    have hm : (i + p) % M < M := Nat.mod_lt _ (by omega)
    have em : Int.tmod (wrap64 ((i : Int) + p)) (M : Int) = (((i + p) % M : Nat) : Int) := by
      rw [w64 (by omega) (by omega)]
      exact (Int.ofNat_tmod (i + p) M).symm
    apply Ev.succ
    simp only [laws_FnCircle.l1.eq_2]
    rw [em, rd_get (circ K) ((i + p) % M) (by omega), w64 (n := (p : Int) + 1) (by omega) (by omega)]
    have eg : (win (circ K) K M i)[p] = (circ K)[(i + p) % M]'(by omega) := by
      simp [win, List.getD_eq_getElem?_getD, List.getElem?_eq_getElem (show (i + p) % M < (circ K).length by omega)]
    have e2 : (win (circ K) K M i).take p ++ [(circ K)[(i + p) % M]'(by omega)] = (win (circ K) K M i).take (p + 1) := by
      rw [List.take_succ_eq_append_getElem hpl, eg]
    rw [e2, show (p : Int) + 1 = ((p + 1 : Nat) : Int) by omega]
    refine Ev.pos (by omega) (Ev.neg (by omega) (Ev.pos (by omega) (Ev.pos (by omega) (Ev.pos (by simp; omega) ?_))))
    exact ih (p + 1) (by omega)
theorem circle_l0 (K M : Nat) (hK : 1 ≤ K ∧ K ≤ 5) (hM : M = 3 ^ K) (hM2 : M ≤ 243) : ∀ (d i : Nat), i + d = M → Ev (fun k => laws_FnCircle.l0 k K (circ K) M (seenM ((cvals (circ K) K M).take i) M) M i) true := by
  intro d
  induction d with
  | zero =>
    intro i hi
    apply Ev.succ
    simp only [laws_FnCircle.l0.eq_2]
    exact Ev.neg (by omega) (Ev.now _)
  | succ d ih =>
    intro i hi
    apply Ev.succ
    simp only [laws_FnCircle.l0.eq_2]
    refine Ev.pos (by omega) ?_
    have := circle_l1 K M hK hM hM2 i (by omega) (ih (i + 1) (by omega)) K 0 (by omega)
    simpa using this
theorem FnCircle : laws_FnCircle.Pure := by
  intro l _ _ hw8
  apply Ev.rounds
  simp only [laws_FnCircle.f]
  refine Ev.ite (fun _ => Ev.now _) (fun h => ?_)
  have hat := laws_at_eq l 1 (by omega) (by omega) hw8
  have har := atv_range l 1 hw8
  refine Ev.bindc hat ?_
  obtain ⟨K, hK, hKe⟩ : ∃ K : Nat, (1 ≤ K ∧ K ≤ 5) ∧ wrap64 (1 + Int.tmod (atv l 1) 5) = (K : Int) := by
    rw [Int.tmod_eq_emod_of_nonneg har.1, w64 (by omega) (by omega)]
    exact ⟨(1 + atv l 1 % 5).toNat, by omega, by omega⟩
  rw [hKe]
  have ec : Ev (fun k => impl_CircleOf.f k (K : Int)) (circ K, true) := evTo (impl_CircleOf_ev K) (by
    unfold circW
    rw [if_neg (by omega), Int.toNat_natCast, circ_is K hK])
  have em : Ev (fun k => spec_MakePower.f k (K : Int)) ((3 ^ K : Nat) : Int) := evTo (spec_MakePower_ev K) (by
    rw [show (max 0 (min (K : Int) 30)).toNat = K by omega]; simp)
  have hlen : (circ K).length = 3 ^ K := by
    have hc := checkC_all K hK
    simp only [checkC, Bool.and_eq_true, decide_eq_true_eq] at hc
    exact hc.1.1
  have hM2 : 3 ^ K ≤ 243 := Nat.le_trans (Nat.pow_le_pow_right (by omega) (show K ≤ 5 by omega)) (by decide)
  obtain ⟨M, hM⟩ : ∃ M, M = 3 ^ K := ⟨_, rfl⟩
  rw [← hM] at em hlen hM2
  refine Ev.bind ec (Ev.bind em (Ev.pos rfl ?_))
  apply Ev.succ
  simp only [laws_FnCircle.j0.eq_2]
  rw [hlen]
  refine Ev.neg (by simp) (Ev.pos (by omega) (Ev.pos (by omega) ?_))
  have := circle_l0 K M hK hM hM2 M 0 (by omega)
  simpa [seenM] using this

end Go.Proofs.Ytemcokpkgpnloaa.HPure

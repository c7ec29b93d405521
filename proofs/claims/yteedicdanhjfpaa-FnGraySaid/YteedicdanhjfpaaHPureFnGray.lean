/- Of the sequence of words: each word stands at its index and nowhere else, and neighbours differ at one place, by 1. No condition. -/
import Derived.Test.YteedicdanhjfpaaHLemFnGray
set_option linter.unusedVariables false
set_option linter.unusedSimpArgs false
namespace Go.Proofs.Yteedicdanhjfpaa.HPure
open Go.RowKit Go.Proofs.Yteedicdanhjfpaa.HFnGray Go.Proofs.YteedicdanhjfpaaW.PrintWords Go.Proofs.YteedicdanhjfpaaW.PrintLast Go.Proofs.YteedicdanhjfpaaW.PrintMore Go.Proofs.Yteedicdanhjfpaa.Base Go.Proofs.Yteedicdanhjfpaa.LemFnGray

theorem laws_FnGray_l0 (n : Nat) (hn : n ≤ 30) (w v : List Int) (hw : w.length = n) (hv : v.length = n) (tw : ∀ a ∈ w, -1 ≤ a ∧ a ≤ 1) (tv : ∀ a ∈ v, -1 ≤ a ∧ a ≤ 1) : ∀ (d i : Nat) (s : Int), i + d = n → 0 ≤ s → s ≤ 4 * i → Ev (fun k => laws_FnGray.l0 k n w v true s w.length i) (s + dist (w.drop i) (v.drop i) == 1) := by
  intro d
  induction d with
  | zero =>
    intro i s hi h0 h1
    apply Ev.succ
    simp only [laws_FnGray.l0.eq_2]
    refine Ev.neg (by omega) ?_
    rw [List.drop_eq_nil_of_le (by omega), dist_nil, Int.add_zero]
    exact Ev.pos (by simp) (Ev.now _)
  | succ d ih =>
    intro i s hi h0 h1
    have a1 := tw w[i] (List.getElem_mem _)
    have a2 := tv v[i] (List.getElem_mem _)
    apply Ev.succ
    simp only [laws_FnGray.l0.eq_2]
    rw [rd_get w i (by omega), rd_get v i (by omega), drop_cons w i (by omega), drop_cons v i (by omega), dist_cons]
    generalize w[i] = a at *
    generalize v[i] = b at *
    refine Ev.pos (by omega) (Ev.pos (by simp) (Ev.pos (by omega) (Ev.pos (by omega) (Ev.pos (by omega) (Ev.pos (by omega) ?_)))))
    rw [w64 (n := b - a) (by omega) (by omega)]
    refine Ev.bindc (laws_abs_eq (b - a) (by omega)) ?_
    generalize hz : (if b - a < 0 then -(b - a) else b - a) = z
    have hz1 : 0 ≤ z ∧ z ≤ 4 := by split at hz <;> omega
    rw [w64 (by omega) (by omega), w64 (by omega) (by omega)]
    refine evTo (ih (i + 1) (s + z) (by omega) (by omega) (by omega)) ?_
    rw [Int.add_assoc]
theorem laws_FnGray_l0f (n : Nat) (hn : n ≤ 30) (w v : List Int) (hw : w.length = n) : ∀ (d i : Nat), i + d = n → Ev (fun k => laws_FnGray.l0 k n w v false 0 w.length i) true := by
  intro d
  induction d with
  | zero =>
    intro i hi
    apply Ev.succ
    simp only [laws_FnGray.l0.eq_2]
    exact Ev.neg (by omega) (Ev.neg (by simp) (Ev.now _))
  | succ d ih =>
    intro i hi
    apply Ev.succ
    simp only [laws_FnGray.l0.eq_2]
    refine Ev.pos (by omega) (Ev.neg (by simp) ?_)
    rw [w64 (by omega) (by omega)]
    exact ih (i + 1) (by omega)
theorem FnGray : laws_FnGray.Pure := by
  intro l _ _ hl8
  apply Ev.rounds
  simp only [laws_FnGray.f]
  refine Ev.ite (fun h => Ev.now _) (fun h => ?_)
  have hlen : l.length ≤ 1048576 := by omega
  have at_ := fun i hi => laws_at_eq l i hlen hi hl8
  have ar := fun i => atv_range l i hl8
  refine Ev.bindc (at_ 1 (by omega)) ?_
  rw [Int.tmod_eq_emod_of_nonneg (ar 1).1]
  obtain ⟨n, hn, hn2⟩ : ∃ n : Nat, wrap64 (1 + atv l 1 % 30) = n ∧ 1 ≤ n ∧ n ≤ 30 := by
    have := (ar 1).1
    refine ⟨(1 + atv l 1 % 30).toNat, ?_, by omega, by omega⟩
    rw [w64 (by omega) (by omega)]; omega
  rw [hn]
  have hmp := spec_MakePower_ev n
  rw [show (max 0 (min (n : Int) 30)).toNat = n by omega] at hmp
  refine Ev.bind hmp ?_
  refine Ev.bindc (at_ 2 (by omega)) (Ev.bindc (at_ 3 (by omega)) (Ev.bindc (at_ 4 (by omega)) (Ev.bindc (at_ 5 (by omega)) ?_)))
  have hp := pow3_pos n
  have hp30 := pow3_30 (i := n) (by omega)
  refine Ev.neg (by omega) ?_
  have a2 := ar 2
  have a3 := ar 3
  have a4 := ar 4
  have a5 := ar 5
  obtain ⟨i, hi, hi0, hi1⟩ : ∃ i : Int, Int.tmod (wrap64 ((wrap64 ((wrap64 ((wrap64 (atv l 2 * 16777216)) + (wrap64 (atv l 3 * 65536)))) + (wrap64 (atv l 4 * 256)))) + atv l 5)) (3 ^ n) = i ∧ 0 ≤ i ∧ i < 3 ^ n := by
    rw [w64 (n := atv l 2 * 16777216) (by omega) (by omega), w64 (n := atv l 3 * 65536) (by omega) (by omega), w64 (n := atv l 4 * 256) (by omega) (by omega), w64 (n := atv l 2 * 16777216 + atv l 3 * 65536) (by omega) (by omega), w64 (n := atv l 2 * 16777216 + atv l 3 * 65536 + atv l 4 * 256) (by omega) (by omega), w64 (n := atv l 2 * 16777216 + atv l 3 * 65536 + atv l 4 * 256 + atv l 5) (by omega) (by omega), Int.tmod_eq_emod_of_nonneg (by omega)]
    exact ⟨_, rfl, Int.emod_nonneg _ (by omega), Int.emod_lt_of_pos _ (by omega)⟩
  rw [hi]
  have hgw : ∀ j : Int, 0 ≤ j → j < 3 ^ n → grayW j n = (grayG n j, true) := by
    intro j h0 h1
    unfold grayW; rw [if_pos ⟨by omega, by omega, h0, by simpa using h1⟩]; simp
  have e1 := impl_GrayWord_ev i n (by omega)
  rw [hgw i hi0 hi1] at e1
  refine Ev.bind e1 ?_
  refine Ev.pos (by simp) (Ev.pos (by rw [grayG_length]) ?_)
  have t1 := grayG_trits n i hi0 hi1
  have er := impl_GrayRank_ev (grayG n i)
  rw [if_pos ((isWord_iff _).2 ⟨by rw [grayG_length]; omega, t1⟩), grayR_grayG n i hi0 hi1] at er
  refine Ev.bind er ?_
  apply Ev.succ
  simp only [laws_FnGray.j0.eq_2]
  refine Ev.neg (by simp) ?_
  obtain ⟨fr, hf, hfl⟩ := laws_fresh_ev l 3
  refine Ev.bind hf ?_
  obtain ⟨w, hw, hww, hwl⟩ := spec_MakeWord_ev fr (by omega) 30 (by omega) (by omega)
  refine Ev.bind hw ?_
  have ww := (isWord_iff w).1 hww
  have er2 := impl_GrayRank_ev w
  rw [if_pos hww] at er2
  refine Ev.bind er2 ?_
  have rr := grayR_range w ww.2
  have hw30 := pow3_30 (i := w.length) (by omega)
  have e2 := impl_GrayWord_ev (grayR w) w.length (by omega)
  have e3 : grayW (grayR w) w.length = (w, true) := by
    unfold grayW; rw [if_pos ⟨by omega, by omega, rr.1, by simpa using rr.2⟩]
    simp only [Int.toNat_natCast, grayG_grayR w ww.2]
  rw [e3] at e2
  refine Ev.bind e2 ?_
  refine Ev.pos (by simp) ?_
  refine Ev.bind (laws_ints_ev w w (by omega)) ?_
  apply Ev.succ
  simp only [laws_FnGray.j1.eq_2]
  refine Ev.neg (by simp) ?_
  rw [w64 (n := i + 1) (by omega) (by omega)]
  have e4 := impl_GrayWord_ev (i + 1) n (by omega)
  refine Ev.bind e4 ?_
  by_cases c : i + 1 < 3 ^ n
  · rw [hgw (i + 1) (by omega) c]
    refine Ev.neg (by simp [c]) ?_
    have := laws_FnGray_l0 n (by omega) (grayG n i) (grayG n (i + 1)) (grayG_length _ _) (grayG_length _ _) t1 (grayG_trits n (i + 1) (by omega) c) n 0 0 (by omega) (by omega) (by omega)
    refine evTo this ?_
    simp only [List.drop_zero, gray_next n i hi0 c]; rfl
  · have e5 : grayW (i + 1) n = ([], false) := by
      unfold grayW; rw [if_neg]; rintro ⟨_, _, _, h4⟩; simp at h4; omega
    rw [e5]
    refine Ev.neg (by simp; omega) ?_
    exact laws_FnGray_l0f n (by omega) (grayG n i) [] (grayG_length _ _) n 0 (by omega)

end Go.Proofs.Yteedicdanhjfpaa.HPure

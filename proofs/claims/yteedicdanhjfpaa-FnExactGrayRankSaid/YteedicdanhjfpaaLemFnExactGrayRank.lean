/- Lemmas: what each function that this statement reaches computes. -/
import Derived.Test.YteedicdanhjfpaaPFnExactGrayRankx2
import Derived.Test.YteedicdanhjfpaaBase
import Derived.Test.YteedicdanhjfpaaGrayM
set_option linter.unusedVariables false
set_option linter.unusedSimpArgs false
namespace Go.Proofs.Yteedicdanhjfpaa.LemFnExactGrayRank
open Go.RowKit Go.Proofs.YteedicdanhjfpaaW.PrintWords Go.Proofs.YteedicdanhjfpaaW.PrintLast Go.Proofs.YteedicdanhjfpaaW.PrintMore Go.Proofs.Yteedicdanhjfpaa.PFnExactGrayRank Go.Proofs.Yteedicdanhjfpaa.Base

theorem laws_toIntS_l (x0 : List Int) (hn : x0.length ≤ 35184372088832) : ∀ (d i : Nat) (x3 : List Int), i + d = x0.length → x3.length = x0.length → x3.take i = x0.take i → Ev (fun k => laws_toIntS.l0 k x0 x3 i) x0 := by
  intro d
  induction d with
  | zero =>
    intro i x3 hi hx ht
    apply Ev.succ
    simp only [laws_toIntS.l0.eq_2]
    refine Ev.neg (by omega) (Ev.ret ?_)
    rwa [List.take_of_length_le (by omega), List.take_of_length_le (by omega)] at ht
  | succ d ih =>
    intro i x3 hi hx ht
    apply Ev.succ
    simp only [laws_toIntS.l0.eq_2]
    refine Ev.pos (by omega) (Ev.pos (by omega) (Ev.pos (by omega) ?_))
    rw [w64 (by omega) (by omega), rd_get x0 i (by omega)]
    refine ih (i + 1) _ (by omega) (by simp [hx]) ?_
    rw [take_snoc _ i (by simp; omega), take_snoc x0 i (by omega)]
    simp [List.take_set_of_le, ht]
theorem laws_toIntS_ev (x0 : List Int) (hn : x0.length ≤ 35184372088832) : Ev (fun k => laws_toIntS.f k x0) x0 := by
  simp only [laws_toIntS.f]
  refine Ev.pos (by omega) (Ev.pos (by omega) ?_)
  exact laws_toIntS_l x0 hn x0.length 0 _ (by omega) (by simp) (by simp)

theorem laws_eqIntS_l (x0 x1 : List Int) (hl : x0.length = x1.length) (hn : x0.length ≤ 35184372088832) : ∀ (d i : Nat), i + d = x0.length → Ev (fun k => laws_eqIntS.l0 k x0 x1 i) (decide (x0.drop i = x1.drop i)) := by
  intro d
  induction d with
  | zero =>
    intro i hi
    apply Ev.succ
    simp only [laws_eqIntS.l0.eq_2]
    refine Ev.neg (by omega) (Ev.ret ?_)
    rw [List.drop_eq_nil_of_le (by omega), List.drop_eq_nil_of_le (by omega)]; simp
  | succ d ih =>
    intro i hi
    apply Ev.succ
    simp only [laws_eqIntS.l0.eq_2]
    refine Ev.pos (by omega) (Ev.pos (by omega) (Ev.pos (by omega) ?_))
    rw [rd_get x0 i (by omega), rd_get x1 i (by omega), drop_cons x0 i (by omega), drop_cons x1 i (by omega)]
    refine Ev.ite (fun h => ?_) (fun h => ?_)
    · rw [w64 (by omega) (by omega)]
      exact evTo (ih (i + 1) (by omega)) (by simp only [List.cons.injEq, h, true_and])
    · exact Ev.ret (by simp only [List.cons.injEq, h, false_and, decide_false])
theorem laws_eqIntS_ev (x0 x1 : List Int) (hn : x0.length ≤ 35184372088832) : Ev (fun k => laws_eqIntS.f k x0 x1) (decide (x0 = x1)) := by
  simp only [laws_eqIntS.f]
  refine Ev.ite (fun h => ?_) (fun h => Ev.ret ?_)
  · exact evTo (laws_eqIntS_l x0 x1 (by omega) hn x0.length 0 (by omega)) (by simp)
  · symm; rw [decide_eq_false_iff_not]; intro e; rw [e] at h; exact h rfl

theorem spec_l1In_eq (a b c : Int) : spec_l1In.f a b c = some (decide (b ≤ a ∧ a ≤ c)) := by
  unfold spec_l1In.f
  by_cases h : b ≤ a
  · rw [if_pos (by omega)]; simp [h]
  · rw [if_neg (by omega)]; simp [h]

theorem spec_IsTrit_eq (a : Int) : spec_IsTrit.f a = some (isTrit a) := by
  unfold spec_IsTrit.f isTrit
  rw [spec_l1In_eq]; rfl

theorem spec_IsWord_l (x : List Int) (hn : x.length ≤ 35184372088832) : ∀ (d i : Nat), i + d = x.length → Ev (fun k => spec_IsWord.l0 k x x x.length i) (decide (1 ≤ x.length ∧ x.length ≤ 30) && (x.drop i).all isTrit) := by
  intro d
  induction d with
  | zero =>
    intro i hi
    apply Ev.succ
    simp only [spec_IsWord.l0.eq_2, spec_l1In_eq, Option.bind_some]
    refine Ev.neg (by omega) (Ev.ret ?_)
    rw [List.drop_eq_nil_of_le (by omega), List.all_nil, Bool.and_true]
    exact decide_eq_decide.2 (by omega)
  | succ d ih =>
    intro i hi
    apply Ev.succ
    simp only [spec_IsWord.l0.eq_2, spec_IsTrit_eq, Option.bind_some]
    refine Ev.pos (by omega) (Ev.pos (by omega) (Ev.pos (by omega) ?_))
    rw [rd_get x i (by omega), drop_cons x i (by omega), List.all_cons, w64 (by omega) (by omega)]
    refine Ev.ite (fun h => ?_) (fun h => Ev.ret ?_)
    · exact evTo (ih (i + 1) (by omega)) (by rw [h, Bool.true_and])
    · rw [Bool.not_eq_true] at h; rw [h, Bool.false_and, Bool.and_false]
theorem spec_IsWord_ev (x : List Int) (hn : x.length ≤ 35184372088832) : Ev (fun k => spec_IsWord.f k x) (isWord x) := by
  simp only [spec_IsWord.f]
  exact spec_IsWord_l x hn x.length 0 (by omega)

theorem spec_GrayRank_l (w : List Int) (hw : w.length ≤ 30) (ht : ∀ a ∈ w, -1 ≤ a ∧ a ≤ 1) : ∀ (i : Nat) (n : Int) (b : Bool), i ≤ w.length → 0 ≤ n → (n + 1) * 3 ^ i ≤ 205891132094649 → Ev (fun k => spec_GrayRank.l0 k w n b ((i : Int) - 1)) (n * 3 ^ i + if b = true then 3 ^ i - 1 - grayR (w.take i) else grayR (w.take i)) := by
  intro i
  induction i with
  | zero =>
    intro n b _ _ _
    apply Ev.succ
    simp only [spec_GrayRank.l0.eq_2]
    refine Ev.neg (by omega) (Ev.ret ?_)
    cases b <;> simp [grayR_nil]
  | succ i ih =>
    intro n b hi h0 h1
    apply Ev.succ
    simp only [spec_GrayRank.l0.eq_2]
    have hp := pow3_pos i
    have hn : n ≤ 205891132094649 := by
      have h2 := pow3_pos (i + 1)
      have h3 : (n + 1) * 1 ≤ (n + 1) * 3 ^ (i + 1) := Int.mul_le_mul_of_nonneg_left h2 (by omega)
      omega
    have ha := ht w[i] (List.getElem_mem _)
    have e0 : (((i + 1 : Nat) : Int) - 1) = (i : Int) := by omega
    rw [e0]
    refine Ev.pos (by omega) (Ev.pos (by omega) (Ev.pos (by omega) ?_))
    rw [rd_get w i (by omega)]
    generalize hx : w[i] = a at *
    have et : w.take (i + 1) = w.take i ++ [a] := by rw [take_snoc w i (by omega), hx]
    have el : (w.take i).length = i := by simp; omega
    rw [et, grayR_snoc, el, pow3_succ]
    rw [w64 (n := a + 1) (by omega) (by omega), w64 (n := 2 - (a + 1)) (by omega) (by omega), w64 (n := 3 * n) (by omega) (by omega), w64 (n := (i : Int) - 1) (by omega) (by omega), w64 (n := 3 * n + (a + 1)) (by omega) (by omega), w64 (n := 3 * n + (2 - (a + 1))) (by omega) (by omega)]
    have key : ∀ x : Int, 0 ≤ x → x ≤ 2 → (3 * n + x + 1) * 3 ^ i ≤ 205891132094649 := by
      intro x _ hx2
      have h2 : (3 * n + x + 1) * 3 ^ i ≤ (3 * (n + 1)) * 3 ^ i := Int.mul_le_mul_of_nonneg_right (by omega) (by omega)
      have h3 : (n + 1) * 3 ^ (i + 1) = (3 * (n + 1)) * 3 ^ i := by rw [pow3_succ, ← Int.mul_assoc, Int.mul_comm (n + 1) 3]
      omega
    have e3 : n * (3 * (3 : Int) ^ i) = 3 * (n * 3 ^ i) := by rw [← Int.mul_assoc, Int.mul_comm n 3, Int.mul_assoc]
    have e4 : ∀ x : Int, (3 * n + x) * 3 ^ i = 3 * (n * 3 ^ i) + x * 3 ^ i := by intro x; rw [Int.add_mul, Int.mul_assoc]
    rw [e3]
    refine Ev.ite (fun hb => ?_) (fun hb => ?_)
    · refine evTo (ih (3 * n + (2 - (a + 1))) _ (by omega) (by omega) (key _ (by omega) (by omega))) ?_
      rw [e4, hb]
      rcases (show a = -1 ∨ a = 0 ∨ a = 1 by omega) with rfl | rfl | rfl
      · simp only [Int.reduceNeg, Int.reduceAdd, Int.reduceSub, Int.reduceBEq, Bool.bne_false, if_true, Int.reduceEq, if_false, Int.zero_mul]; omega
      · simp only [Int.reduceNeg, Int.reduceAdd, Int.reduceSub, Int.reduceBEq, if_true, Int.reduceEq, if_false, Int.zero_mul, bne_self_eq_false, Bool.false_eq_true]; omega
      · simp only [Int.reduceNeg, Int.reduceAdd, Int.reduceSub, Int.reduceBEq, Bool.bne_false, if_true, Int.reduceEq, if_false, Int.zero_mul]; omega
    · rw [Bool.not_eq_true] at hb
      refine evTo (ih (3 * n + (a + 1)) _ (by omega) (by omega) (key _ (by omega) (by omega))) ?_
      rw [e4, hb]
      rcases (show a = -1 ∨ a = 0 ∨ a = 1 by omega) with rfl | rfl | rfl
      · simp only [Int.reduceNeg, Int.reduceAdd, Int.reduceSub, Int.reduceBEq, Bool.bne_false, if_true, Int.reduceEq, if_false, Int.zero_mul, Bool.false_eq_true]; omega
      · simp only [Int.reduceNeg, Int.reduceAdd, Int.reduceSub, Int.reduceBEq, Bool.bne_true, if_true, Int.reduceEq, if_false, Int.zero_mul, Bool.not_false, Bool.false_eq_true]; omega
      · simp only [Int.reduceNeg, Int.reduceAdd, Int.reduceSub, Int.reduceBEq, Bool.bne_false, if_true, Int.reduceEq, if_false, Int.zero_mul, Bool.false_eq_true]; omega
theorem spec_GrayRank_ev (w : List Int) (hn : w.length ≤ 35184372088832) : Ev (fun k => spec_GrayRank.f k w) (if isWord w = true then grayR w else 0) := by
  simp only [spec_GrayRank.f]
  refine Ev.bind (spec_IsWord_ev w hn) ?_
  refine Ev.ite (fun h => ?_) (fun h => Ev.ret (by rw [if_neg h]))
  rw [if_pos h]
  have hw := (isWord_iff w).1 h
  rw [w64 (by omega) (by omega)]
  refine evTo (spec_GrayRank_l w hw.1.2 hw.2 w.length 0 false (by omega) (by omega) ?_) ?_
  · have := pow3_30 (i := w.length) (by omega); omega
  · simp

theorem impl_power_l (n : Nat) (hn : n ≤ 30) : ∀ (d i : Nat), i + d = n → Ev (fun k => impl_power.l0 k ((3 : Int) ^ i) n i) ((3 : Int) ^ n) := by
  intro d
  induction d with
  | zero =>
    intro i hi
    apply Ev.succ
    simp only [impl_power.l0.eq_2]
    refine Ev.neg (by omega) (Ev.ret ?_)
    rw [← hi]; rfl
  | succ d ih =>
    intro i hi
    apply Ev.succ
    simp only [impl_power.l0.eq_2]
    have h1 := pow3_30 (i := i + 1) (by omega)
    have h2 := pow3_pos i
    rw [pow3_succ] at h1
    refine Ev.pos (by omega) ?_
    rw [w64 (by omega) (by omega), w64 (by omega) (by omega), Int.mul_comm, ← pow3_succ]
    exact ih (i + 1) (by omega)
theorem impl_power_ev (n : Int) (h0 : 0 ≤ n) (hn : n ≤ 30) : Ev (fun k => impl_power.f k n) ((3 : Int) ^ n.toNat) := by
  obtain ⟨m, rfl⟩ : ∃ m : Nat, n = m := ⟨n.toNat, by omega⟩
  exact impl_power_l m (by omega) m 0 (by omega)

theorem impl_IsTrit_eq (a : Int) : impl_IsTrit.f a = some (isTrit a) := by
  unfold impl_IsTrit.f isTrit
  by_cases h : -1 ≤ a
  · rw [if_pos (by omega)]; simp [h]
  · rw [if_neg (by omega)]; simp [h]

theorem impl_trits_l (x : List Int) (hn : x.length ≤ 35184372088832) : ∀ (d i : Nat), i + d = x.length → Ev (fun k => impl_trits.l0 k x x.length i) ((x.drop i).all isTrit) := by
  intro d
  induction d with
  | zero =>
    intro i hi
    apply Ev.succ
    simp only [impl_trits.l0.eq_2]
    refine Ev.neg (by omega) (Ev.ret ?_)
    rw [List.drop_eq_nil_of_le (by omega)]; rfl
  | succ d ih =>
    intro i hi
    apply Ev.succ
    simp only [impl_trits.l0.eq_2, impl_IsTrit_eq, Option.bind_some]
    refine Ev.pos (by omega) (Ev.pos (by omega) (Ev.pos (by omega) ?_))
    rw [rd_get x i (by omega), drop_cons x i (by omega), List.all_cons, w64 (by omega) (by omega)]
    refine Ev.ite (fun h => ?_) (fun h => Ev.ret ?_)
    · exact evTo (ih (i + 1) (by omega)) (by rw [h, Bool.true_and])
    · rw [Bool.not_eq_true] at h; rw [h, Bool.false_and]
theorem impl_trits_ev (x : List Int) (hn : x.length ≤ 35184372088832) : Ev (fun k => impl_trits.f k x) (x.all isTrit) := by
  simp only [impl_trits.f]
  exact impl_trits_l x hn x.length 0 (by omega)

theorem impl_IsWord_ev (x : List Int) : Ev (fun k => impl_IsWord.f k x) (isWord x) := by
  simp only [impl_IsWord.f, isWord]
  refine Ev.ite (fun h => Ev.ite (fun h1 => ?_) (fun h1 => Ev.ret ?_)) (fun h => Ev.ret ?_)
  · refine Ev.bind (impl_trits_ev x (by omega)) (Ev.ret ?_)
    rw [decide_eq_true (by omega), Bool.true_and]
  · rw [decide_eq_false (by omega), Bool.false_and]
  · rw [decide_eq_false (by omega), Bool.false_and]

theorem impl_GrayRank_l (w : List Int) (hw : w.length ≤ 30) (ht : ∀ a ∈ w, -1 ≤ a ∧ a ≤ 1) : ∀ (d i : Nat), i + d = w.length → Ev (fun k => impl_GrayRank.l0 k (grayR (w.take i)) w w.length i) (grayR w) := by
  intro d
  induction d with
  | zero =>
    intro i hi
    apply Ev.succ
    simp only [impl_GrayRank.l0.eq_2]
    refine Ev.neg (by omega) (Ev.ret ?_)
    rw [List.take_of_length_le (by omega)]
  | succ d ih =>
    intro i hi
    apply Ev.succ
    simp only [impl_GrayRank.l0.eq_2]
    refine Ev.pos (by omega) (Ev.pos (by omega) (Ev.pos (by omega) ?_))
    refine Ev.bind (impl_power_ev i (by omega) (by omega)) ?_
    have e0 : (i : Int).toNat = i := by omega
    rw [rd_get w i (by omega), e0]
    have h := ih (i + 1) (by omega)
    have ha := ht w[i] (List.getElem_mem _)
    have hr := grayR_range (w.take i) (fun a ha => ht a (List.mem_of_mem_take ha))
    have el : (w.take i).length = i := by simp; omega
    rw [el] at hr
    rw [take_snoc w i (by omega), grayR_snoc, el] at h
    have h1 := pow3_30 (i := i) (by omega)
    have h2 := pow3_pos i
    generalize w[i] = a at *
    have h3 : 0 ≤ (a + 1) * 3 ^ i ∧ (a + 1) * 3 ^ i ≤ 2 * 3 ^ i := ⟨Int.mul_nonneg (by omega) (by omega), Int.mul_le_mul_of_nonneg_right (by omega) (by omega)⟩
    rw [w64 (n := a + 1) (by omega) (by omega), w64 (n := (a + 1) * 3 ^ i) (by omega) (by omega), w64 (n := (3 : Int) ^ i - 1) (by omega) (by omega), w64 (n := (3 : Int) ^ i - 1 - grayR (w.take i)) (by omega) (by omega), w64 (n := (i : Int) + 1) (by omega) (by omega), w64 (n := grayR (w.take i) + (a + 1) * 3 ^ i) (by omega) (by omega), w64 (n := (3 : Int) ^ i - 1 - grayR (w.take i) + (a + 1) * 3 ^ i) (by omega) (by omega)]
    refine Ev.ite (fun hz => ?_) (fun hz => ?_)
    · rw [if_pos hz] at h; exact h
    · rw [if_neg hz] at h; exact h
theorem impl_GrayRank_ev (w : List Int) : Ev (fun k => impl_GrayRank.f k w) (if isWord w = true then grayR w else 0) := by
  simp only [impl_GrayRank.f]
  refine Ev.bind (impl_IsWord_ev w) ?_
  refine Ev.ite (fun h => ?_) (fun h => Ev.ret (by rw [if_neg h]))
  rw [if_pos h]
  have hw := (isWord_iff w).1 h
  exact impl_GrayRank_l w hw.1.2 hw.2 w.length 0 (by omega)

end Go.Proofs.Yteedicdanhjfpaa.LemFnExactGrayRank

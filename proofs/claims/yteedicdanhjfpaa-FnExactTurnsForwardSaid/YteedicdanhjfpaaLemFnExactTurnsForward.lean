/- Lemmas: what each function that this statement reaches computes. -/
import Derived.Test.YteedicdanhjfpaaPFnExactTurnsForwardx2
import Derived.Test.YteedicdanhjfpaaBase
import Derived.Test.YteedicdanhjfpaaTurnM
set_option linter.unusedVariables false
set_option linter.unusedSimpArgs false
namespace Go.Proofs.Yteedicdanhjfpaa.LemFnExactTurnsForward
open Go.RowKit Go.Proofs.YteedicdanhjfpaaW.PrintWords Go.Proofs.YteedicdanhjfpaaW.PrintLast Go.Proofs.YteedicdanhjfpaaW.PrintMore Go.Proofs.Yteedicdanhjfpaa.PFnExactTurnsForward Go.Proofs.Yteedicdanhjfpaa.Base

theorem laws_toIntS_l (x0 : List Int) (hn : x0.length ≤ 35184372088832) : ∀ (d i : Nat) (x3 : List Int), i + d = x0.length → x3.length = x0.length → x3.take i = x0.take i → Ev (fun k => laws_toIntS.l0 k x0 x3 i) x0 := by
  intro d
  induction d with
  | zero =>
    intro i x3 hi hx ht
    apply Ev.succ
    simp only [laws_toIntS.l0.eq_2]
    refine Ev.neg (by omega) (Ev.ret ?_)
    rwa [List.take_of_length_le (by omega), List.take_of_length_le (by omega)] at ht
  | succ d ih =>
    intro i x3 hi hx ht
    apply Ev.succ
    simp only [laws_toIntS.l0.eq_2]
    refine Ev.pos (by omega) (Ev.pos (by omega) (Ev.pos (by omega) ?_))
    rw [w64 (by omega) (by omega), rd_get x0 i (by omega)]
    refine ih (i + 1) _ (by omega) (by simp [hx]) ?_
    rw [take_snoc _ i (by simp; omega), take_snoc x0 i (by omega)]
    simp [List.take_set_of_le, ht]
theorem laws_toIntS_ev (x0 : List Int) (hn : x0.length ≤ 35184372088832) : Ev (fun k => laws_toIntS.f k x0) x0 := by
  simp only [laws_toIntS.f]
  refine Ev.pos (by omega) (Ev.pos (by omega) ?_)
  exact laws_toIntS_l x0 hn x0.length 0 _ (by omega) (by simp) (by simp)

theorem laws_eqIntS_l (x0 x1 : List Int) (hl : x0.length = x1.length) (hn : x0.length ≤ 35184372088832) : ∀ (d i : Nat), i + d = x0.length → Ev (fun k => laws_eqIntS.l0 k x0 x1 i) (decide (x0.drop i = x1.drop i)) := by
  intro d
  induction d with
  | zero =>
    intro i hi
    apply Ev.succ
    simp only [laws_eqIntS.l0.eq_2]
    refine Ev.neg (by omega) (Ev.ret ?_)
    rw [List.drop_eq_nil_of_le (by omega), List.drop_eq_nil_of_le (by omega)]; simp
  | succ d ih =>
    intro i hi
    apply Ev.succ
    simp only [laws_eqIntS.l0.eq_2]
    refine Ev.pos (by omega) (Ev.pos (by omega) (Ev.pos (by omega) ?_))
    rw [rd_get x0 i (by omega), rd_get x1 i (by omega), drop_cons x0 i (by omega), drop_cons x1 i (by omega)]
    refine Ev.ite (fun h => ?_) (fun h => ?_)
    · rw [w64 (by omega) (by omega)]
      exact evTo (ih (i + 1) (by omega)) (by simp only [List.cons.injEq, h, true_and])
    · exact Ev.ret (by simp only [List.cons.injEq, h, false_and, decide_false])
theorem laws_eqIntS_ev (x0 x1 : List Int) (hn : x0.length ≤ 35184372088832) : Ev (fun k => laws_eqIntS.f k x0 x1) (decide (x0 = x1)) := by
  simp only [laws_eqIntS.f]
  refine Ev.ite (fun h => ?_) (fun h => Ev.ret ?_)
  · exact evTo (laws_eqIntS_l x0 x1 (by omega) hn x0.length 0 (by omega)) (by simp)
  · symm; rw [decide_eq_false_iff_not]; intro e; rw [e] at h; exact h rfl

theorem spec_l1In_eq (a b c : Int) : spec_l1In.f a b c = some (decide (b ≤ a ∧ a ≤ c)) := by
  unfold spec_l1In.f
  by_cases h : b ≤ a
  · rw [if_pos (by omega)]; simp [h]
  · rw [if_neg (by omega)]; simp [h]

theorem spec_IsTrit_eq (a : Int) : spec_IsTrit.f a = some (isTrit a) := by
  unfold spec_IsTrit.f isTrit
  rw [spec_l1In_eq]; rfl

theorem spec_IsWord_l (x : List Int) (hn : x.length ≤ 35184372088832) : ∀ (d i : Nat), i + d = x.length → Ev (fun k => spec_IsWord.l0 k x x x.length i) (decide (1 ≤ x.length ∧ x.length ≤ 30) && (x.drop i).all isTrit) := by
  intro d
  induction d with
  | zero =>
    intro i hi
    apply Ev.succ
    simp only [spec_IsWord.l0.eq_2, spec_l1In_eq, Option.bind_some]
    refine Ev.neg (by omega) (Ev.ret ?_)
    rw [List.drop_eq_nil_of_le (by omega), List.all_nil, Bool.and_true]
    exact decide_eq_decide.2 (by omega)
  | succ d ih =>
    intro i hi
    apply Ev.succ
    simp only [spec_IsWord.l0.eq_2, spec_IsTrit_eq, Option.bind_some]
    refine Ev.pos (by omega) (Ev.pos (by omega) (Ev.pos (by omega) ?_))
    rw [rd_get x i (by omega), drop_cons x i (by omega), List.all_cons, w64 (by omega) (by omega)]
    refine Ev.ite (fun h => ?_) (fun h => Ev.ret ?_)
    · exact evTo (ih (i + 1) (by omega)) (by rw [h, Bool.true_and])
    · rw [Bool.not_eq_true] at h; rw [h, Bool.false_and, Bool.and_false]
theorem spec_IsWord_ev (x : List Int) (hn : x.length ≤ 35184372088832) : Ev (fun k => spec_IsWord.f k x) (isWord x) := by
  simp only [spec_IsWord.f]
  exact spec_IsWord_l x hn x.length 0 (by omega)

theorem spec_TurnTrit_eq (a : Int) : spec_TurnTrit.f a = some (turn a) := by
  unfold spec_TurnTrit.f turn
  rw [spec_IsTrit_eq]
  simp only [Option.bind_some]
  by_cases h : isTrit a = true
  · rw [if_pos h, if_pos h]
    have ha := (isTrit_iff a).1 h
    by_cases h1 : a = 1
    · rw [if_pos h1, if_pos h1]
    · rw [if_neg h1, if_neg h1, w64 (by omega) (by omega)]
  · rw [if_neg h, if_neg h]

theorem spec_l8Forward_l (w : List Int) (hn : w.length ≤ 35184372088832) : ∀ (d i : Nat), i + 1 + d = w.length → Ev (fun k => spec_l8Forward.l0 k w ((i + 1 : Nat) : Int)) (fwd (w.drop i)) := by
  intro d
  induction d with
  | zero =>
    intro i hi
    apply Ev.succ
    simp only [spec_l8Forward.l0.eq_2]
    refine Ev.neg (by omega) (Ev.ret ?_)
    rw [drop_cons w i (by omega), List.drop_eq_nil_of_le (by omega), fwd_one]
  | succ d ih =>
    intro i hi
    apply Ev.succ
    simp only [spec_l8Forward.l0.eq_2]
    have e : ((i + 1 : Nat) : Int) - 1 = (i : Int) := by omega
    have h := ih (i + 1) (by omega)
    rw [drop_cons w (i + 1) (by omega)] at h
    rw [drop_cons w i (by omega), drop_cons w (i + 1) (by omega), fwd_two, w64 (n := ((i + 1 : Nat) : Int) - 1) (by omega) (by omega), e, rd_get w (i + 1) (by omega), rd_get w i (by omega), w64 (n := ((i + 1 : Nat) : Int) + 1) (by omega) (by omega)]
    refine Ev.pos (by omega) (Ev.pos (by omega) (Ev.pos (by omega) (Ev.pos (by omega) ?_)))
    refine Ev.ite (fun c => ?_) (fun c => ?_)
    · rw [if_pos c]; exact h
    · rw [if_neg c]; exact Ev.bindc (spec_TurnTrit_eq _) (Ev.now _)
theorem spec_l8Forward_ev (w : List Int) (h1 : 1 ≤ w.length) (hn : w.length ≤ 35184372088832) : Ev (fun k => spec_l8Forward.f k w) (fwd w) := by
  simp only [spec_l8Forward.f]
  exact spec_l8Forward_l w hn (w.length - 1) 0 (by omega)

theorem spec_TurnsForward_ev (w : List Int) (hn : w.length ≤ 35184372088832) : Ev (fun k => spec_TurnsForward.f k w) (isWord w && fwd w) := by
  simp only [spec_TurnsForward.f]
  refine Ev.bind (spec_IsWord_ev w hn) ?_
  refine Ev.ite (fun h => ?_) (fun h => Ev.ret (by rw [Bool.not_eq_true] at h; rw [h, Bool.false_and]))
  have hw := (isWord_iff w).1 h
  refine Ev.bind (spec_l8Forward_ev w hw.1.1 hn) (Ev.ret ?_)
  rw [h, Bool.true_and]

theorem impl_IsTrit_eq (a : Int) : impl_IsTrit.f a = some (isTrit a) := by
  unfold impl_IsTrit.f isTrit
  by_cases h : -1 ≤ a
  · rw [if_pos (by omega)]; simp [h]
  · rw [if_neg (by omega)]; simp [h]

theorem impl_trits_l (x : List Int) (hn : x.length ≤ 35184372088832) : ∀ (d i : Nat), i + d = x.length → Ev (fun k => impl_trits.l0 k x x.length i) ((x.drop i).all isTrit) := by
  intro d
  induction d with
  | zero =>
    intro i hi
    apply Ev.succ
    simp only [impl_trits.l0.eq_2]
    refine Ev.neg (by omega) (Ev.ret ?_)
    rw [List.drop_eq_nil_of_le (by omega)]; rfl
  | succ d ih =>
    intro i hi
    apply Ev.succ
    simp only [impl_trits.l0.eq_2, impl_IsTrit_eq, Option.bind_some]
    refine Ev.pos (by omega) (Ev.pos (by omega) (Ev.pos (by omega) ?_))
    rw [rd_get x i (by omega), drop_cons x i (by omega), List.all_cons, w64 (by omega) (by omega)]
    refine Ev.ite (fun h => ?_) (fun h => Ev.ret ?_)
    · exact evTo (ih (i + 1) (by omega)) (by rw [h, Bool.true_and])
    · rw [Bool.not_eq_true] at h; rw [h, Bool.false_and]
theorem impl_trits_ev (x : List Int) (hn : x.length ≤ 35184372088832) : Ev (fun k => impl_trits.f k x) (x.all isTrit) := by
  simp only [impl_trits.f]
  exact impl_trits_l x hn x.length 0 (by omega)

theorem impl_IsWord_ev (x : List Int) : Ev (fun k => impl_IsWord.f k x) (isWord x) := by
  simp only [impl_IsWord.f, isWord]
  refine Ev.ite (fun h => Ev.ite (fun h1 => ?_) (fun h1 => Ev.ret ?_)) (fun h => Ev.ret ?_)
  · refine Ev.bind (impl_trits_ev x (by omega)) (Ev.ret ?_)
    rw [decide_eq_true (by omega), Bool.true_and]
  · rw [decide_eq_false (by omega), Bool.false_and]
  · rw [decide_eq_false (by omega), Bool.false_and]

theorem impl_carried_eq (n : Int) (h : -4 ≤ n ∧ n ≤ 4) : impl_carried.f n = some (if n > 1 then n - 3 else if n < -1 then n + 3 else n, if n > 1 then 1 else if n < -1 then -1 else 0) := by
  unfold impl_carried.f
  by_cases h1 : n > 1
  · rw [if_pos h1, if_pos h1, if_pos h1, w64 (by omega) (by omega)]
  · rw [if_neg h1, if_neg h1, if_neg h1]
    by_cases h2 : n < -1
    · rw [if_pos h2, if_pos h2, if_pos h2, w64 (by omega) (by omega)]
    · rw [if_neg h2, if_neg h2, if_neg h2]

theorem impl_TurnTrit_eq (a : Int) : impl_TurnTrit.f a = some (turn a) := by
  unfold impl_TurnTrit.f turn
  rw [impl_IsTrit_eq]
  simp only [Option.bind_some]
  by_cases h : isTrit a = true
  · rw [if_pos h, if_pos h]
    have ha := (isTrit_iff a).1 h
    rw [w64 (by omega) (by omega), impl_carried_eq _ (by omega)]
    simp only [Option.bind_some]
    refine congrArg some ?_
    rcases (show a = -1 ∨ a = 0 ∨ a = 1 by omega) with rfl | rfl | rfl <;> rfl
  · rw [if_neg h, if_neg h]

theorem impl_TurnsForward_l (w : List Int) (hn : w.length ≤ 35184372088832) : ∀ (d i : Nat), i + 1 + d = w.length → Ev (fun k => impl_TurnsForward.l0 k w ((i + 1 : Nat) : Int)) (fwd (w.drop i)) := by
  intro d
  induction d with
  | zero =>
    intro i hi
    apply Ev.succ
    simp only [impl_TurnsForward.l0.eq_2]
    refine Ev.neg (by omega) (Ev.ret ?_)
    rw [drop_cons w i (by omega), List.drop_eq_nil_of_le (by omega), fwd_one]
  | succ d ih =>
    intro i hi
    apply Ev.succ
    simp only [impl_TurnsForward.l0.eq_2]
    have e : ((i + 1 : Nat) : Int) - 1 = (i : Int) := by omega
    have h := ih (i + 1) (by omega)
    rw [drop_cons w (i + 1) (by omega)] at h
    rw [drop_cons w i (by omega), drop_cons w (i + 1) (by omega), fwd_two, w64 (n := ((i + 1 : Nat) : Int) - 1) (by omega) (by omega), e, rd_get w (i + 1) (by omega), rd_get w i (by omega), w64 (n := ((i + 1 : Nat) : Int) + 1) (by omega) (by omega)]
    refine Ev.pos (by omega) (Ev.pos (by omega) (Ev.pos (by omega) (Ev.pos (by omega) ?_)))
    refine Ev.ite (fun c => ?_) (fun c => ?_)
    · rw [if_pos c]; exact h
    · rw [if_neg c]; exact Ev.bindc (impl_TurnTrit_eq _) (Ev.now _)
theorem impl_TurnsForward_ev (w : List Int) : Ev (fun k => impl_TurnsForward.f k w) (isWord w && fwd w) := by
  simp only [impl_TurnsForward.f]
  refine Ev.bind (impl_IsWord_ev w) ?_
  refine Ev.ite (fun h => ?_) (fun h => Ev.ret (by rw [Bool.not_eq_true] at h; rw [h, Bool.false_and]))
  have hw := (isWord_iff w).1 h
  refine evTo (impl_TurnsForward_l w (by omega) (w.length - 1) 0 (by omega)) ?_
  rw [h, Bool.true_and, List.drop_zero]

end Go.Proofs.Yteedicdanhjfpaa.LemFnExactTurnsForward

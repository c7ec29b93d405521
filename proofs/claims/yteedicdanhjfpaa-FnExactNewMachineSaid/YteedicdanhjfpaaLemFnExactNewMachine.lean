/- Lemmas: what each function that this statement reaches computes. -/
import Derived.Test.YteedicdanhjfpaaPFnExactNewMachinex2
import Derived.Test.YteedicdanhjfpaaBase
namespace Go.Proofs.Yteedicdanhjfpaa.LemFnExactNewMachine
open Go.RowKit Go.Proofs.YteedicdanhjfpaaW.PrintWords Go.Proofs.YteedicdanhjfpaaW.PrintLast Go.Proofs.YteedicdanhjfpaaW.PrintMore Go.Proofs.Yteedicdanhjfpaa.PFnExactNewMachine Go.Proofs.Yteedicdanhjfpaa.Base

theorem laws_eqIntS_l (x0 x1 : List Int) (hl : x0.length = x1.length) (hn : x0.length ≤ 35184372088832) : ∀ (d i : Nat), i + d = x0.length → Ev (fun k => laws_eqIntS.l0 k x0 x1 i) (decide (x0.drop i = x1.drop i)) := by
  intro d
  induction d with
  | zero =>
    intro i hi
    apply Ev.succ
    simp only [laws_eqIntS.l0.eq_2]
    refine Ev.neg (by omega) (Ev.ret ?_)
    rw [List.drop_eq_nil_of_le (by omega), List.drop_eq_nil_of_le (by omega)]; simp
  | succ d ih =>
    intro i hi
    apply Ev.succ
    simp only [laws_eqIntS.l0.eq_2]
    refine Ev.pos (by omega) (Ev.pos (by omega) (Ev.pos (by omega) ?_))
    rw [rd_get x0 i (by omega), rd_get x1 i (by omega), drop_cons x0 i (by omega), drop_cons x1 i (by omega)]
    refine Ev.ite (fun h => ?_) (fun h => ?_)
    · rw [w64 (by omega) (by omega)]
      exact evTo (ih (i + 1) (by omega)) (by simp only [List.cons.injEq, h, true_and])
    · exact Ev.ret (by simp only [List.cons.injEq, h, false_and, decide_false])
theorem laws_eqIntS_ev (x0 x1 : List Int) (hn : x0.length ≤ 35184372088832) : Ev (fun k => laws_eqIntS.f k x0 x1) (decide (x0 = x1)) := by
  simp only [laws_eqIntS.f]
  refine Ev.ite (fun h => ?_) (fun h => Ev.ret ?_)
  · exact evTo (laws_eqIntS_l x0 x1 (by omega) hn x0.length 0 (by omega)) (by simp)
  · symm; rw [decide_eq_false_iff_not]; intro e; rw [e] at h; exact h rfl

theorem laws_markIntS_l (n : Nat) (a : Int) (ha0 : 0 ≤ a) (ha : a ≤ 1000000000000000) (hn : n ≤ 35184372088832) : ∀ (d i : Nat) (x0 : List Int), i + d = n → x0.length = n → Ev (fun k => laws_markIntS.l0 k x0 (a + i) i) (a + n, x0.take i ++ (marked n a).drop i) := by
  intro d
  induction d with
  | zero =>
    intro i x0 hi hx
    apply Ev.succ
    simp only [laws_markIntS.l0.eq_2]
    refine Ev.neg (by omega) (Ev.ret ?_)
    rw [List.drop_eq_nil_of_le (by rw [marked_length]; omega), List.take_of_length_le (by omega)]
    simp; omega
  | succ d ih =>
    intro i x0 hi hx
    apply Ev.succ
    simp only [laws_markIntS.l0.eq_2]
    refine Ev.pos (by omega) (Ev.pos (by omega) ?_)
    rw [w64 (by omega) (by omega), w64 (by omega) (by omega)]
    have e1 : a + (i : Int) + 1 = a + ((i + 1 : Nat) : Int) := by omega
    rw [e1]
    refine evTo (ih (i + 1) _ (by omega) (by simp [hx])) ?_
    refine congrArg (Prod.mk _) ?_
    rw [take_snoc _ i (by simp; omega), drop_cons (marked n a) i (by rw [marked_length]; omega)]
    simp [marked, List.take_set_of_le]
theorem laws_markIntS_ev (x0 : List Int) (a : Int) (ha0 : 0 ≤ a) (ha : a ≤ 1000000000000000) (hn : x0.length ≤ 35184372088832) : Ev (fun k => laws_markIntS.f k x0 a) (a + x0.length, marked x0.length a) := by
  have h := laws_markIntS_l x0.length a ha0 ha hn x0.length 0 x0 (by omega) rfl
  simp only [laws_markIntS.f]
  simpa using h

theorem laws_heldIntS_l (n : Nat) (a : Int) (ha0 : 0 ≤ a) (ha : a ≤ 1000000000000000) (hn : n ≤ 35184372088832) : ∀ (d i : Nat), i + d = n → Ev (fun k => laws_heldIntS.l0 k (marked n a) (a + i) i) (a + n) := by
  intro d
  induction d with
  | zero =>
    intro i hi
    apply Ev.succ
    simp only [laws_heldIntS.l0.eq_2, marked_length]
    refine Ev.neg (by omega) (Ev.ret (by omega))
  | succ d ih =>
    intro i hi
    apply Ev.succ
    simp only [laws_heldIntS.l0.eq_2, marked_length]
    refine Ev.pos (by omega) (Ev.pos (by omega) (Ev.pos ?_ ?_))
    · rw [rd_get _ i (by rw [marked_length]; omega)]; simp [marked]
    · rw [w64 (by omega) (by omega), w64 (by omega) (by omega)]
      have e1 : a + (i : Int) + 1 = a + ((i + 1 : Nat) : Int) := by omega
      rw [e1]
      exact ih (i + 1) (by omega)
theorem laws_heldIntS_ev (n : Nat) (a : Int) (ha0 : 0 ≤ a) (ha : a ≤ 1000000000000000) (hn : n ≤ 35184372088832) : Ev (fun k => laws_heldIntS.f k (marked n a) a) (a + n) := by
  have h := laws_heldIntS_l n a ha0 ha hn n 0 (by omega)
  simp only [laws_heldIntS.f]
  simpa using h

end Go.Proofs.Yteedicdanhjfpaa.LemFnExactNewMachine

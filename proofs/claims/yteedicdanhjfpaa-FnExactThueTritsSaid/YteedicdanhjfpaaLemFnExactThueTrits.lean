/- Lemmas: what each function that this statement reaches computes. -/
import Derived.Test.YteedicdanhjfpaaPFnExactThueTritsx2
import Derived.Test.YteedicdanhjfpaaBase
import Derived.Test.YteedicdanhjfpaaThueM
set_option linter.unusedVariables false
set_option linter.unusedSimpArgs false
namespace Go.Proofs.Yteedicdanhjfpaa.LemFnExactThueTrits
open Go.RowKit Go.Proofs.YteedicdanhjfpaaW.PrintWords Go.Proofs.YteedicdanhjfpaaW.PrintLast Go.Proofs.YteedicdanhjfpaaW.PrintMore Go.Proofs.Yteedicdanhjfpaa.PFnExactThueTrits Go.Proofs.Yteedicdanhjfpaa.Base

theorem impl_ThueTrits_l1 (n : Int) (x : List Int) (hx : x.length ≤ 3000) (r : List Int × Bool) (h : Ev (fun k => impl_ThueTrits.l0 k n (nextT x)) r) : ∀ (d i : Nat), i + d = x.length → Ev (fun k => impl_ThueTrits.l1 k n (nextT (x.take i)) x x.length i) r := by
  intro d
  induction d with
  | zero =>
    intro i hi
    apply Ev.succ
    simp only [impl_ThueTrits.l1.eq_2]
    refine Ev.neg (by omega) ?_
    rwa [List.take_of_length_le (by omega)]
  | succ d ih =>
    intro i hi
    apply Ev.succ
    simp only [impl_ThueTrits.l1.eq_2]
    refine Ev.pos (by omega) (Ev.pos (by omega) (Ev.pos (by omega) ?_))
    have h2 := ih (i + 1) (by omega)
    rw [take_snoc x i (by omega), nextT_append] at h2
    have e : nextT [x[i]] = sub3 x[i] := by simp [nextT]
    rw [e, sub3] at h2
    have hl := (nextT_length (x.take i)).2
    have hl2 : (x.take i).length ≤ 3000 := by simp; omega
    rw [rd_get x i (by omega), w64 (by omega) (by omega)]
    refine Ev.ite (fun c => ?_) (fun c => Ev.ite (fun c1 => ?_) (fun c1 => ?_))
    · simp only [Option.bind_some]
      rw [if_pos c] at h2
      exact Ev.pos (by simp; omega) h2
    · simp only [Option.bind_some]
      rw [if_neg c, if_pos c1] at h2
      exact Ev.pos (by simp; omega) h2
    · rw [if_neg c, if_neg c1] at h2
      exact Ev.pos (by omega) h2
theorem impl_ThueTrits_l0 (n : Nat) (hn : n ≤ 768) : ∀ (d j : Nat), j + d = 9 → Ev (fun k => impl_ThueTrits.l0 k n (thueT j)) ((thueT 9).take n, true) := by
  intro d
  induction d with
  | zero =>
    intro j hj
    obtain rfl : j = 9 := by omega
    apply Ev.succ
    simp only [impl_ThueTrits.l0.eq_2, thueT_length9]
    refine Ev.neg (by omega) (Ev.pos (by omega) (Ev.pos (by omega) (Ev.ret ?_)))
    simp
  | succ d ih =>
    intro j hj
    apply Ev.succ
    simp only [impl_ThueTrits.l0.eq_2]
    have hp := thueT_prefix j (9 - j)
    rw [show j + (9 - j) = 9 by omega] at hp
    have hl := hp.length_le
    rw [thueT_length9] at hl
    refine Ev.ite (fun c => ?_) (fun c => ?_)
    · have h := ih (j + 1) (by omega)
      exact impl_ThueTrits_l1 n (thueT j) (by omega) _ h (thueT j).length 0 (by omega)
    · refine Ev.pos (by omega) (Ev.pos (by omega) (Ev.ret ?_))
      rw [take_of_prefix hp (by omega)]; simp
/-- What ThueTrits gives. -/
def thueV (n : Int) : List Int × Bool := if 0 ≤ n ∧ n ≤ 500 then ((thueT 9).take n.toNat, true) else ([], false)
theorem impl_ThueTrits_ev (n : Int) : Ev (fun k => impl_ThueTrits.f k n) (thueV n) := by
  simp only [impl_ThueTrits.f]
  have no : ¬ (0 ≤ n ∧ n ≤ 500) → Ev (fun k => impl_ThueTrits.j0 k n true) (thueV n) := by
    intro h
    apply Ev.succ
    simp only [impl_ThueTrits.j0.eq_2]
    refine Ev.pos (by simp) (Ev.ret ?_)
    unfold thueV; rw [if_neg h]
  refine Ev.ite (fun h => no (by omega)) (fun h => ?_)
  by_cases h1 : n > 500
  · rw [decide_eq_true h1]; exact no (by omega)
  · rw [decide_eq_false h1]
    apply Ev.succ
    simp only [impl_ThueTrits.j0.eq_2]
    refine Ev.neg (by simp) ?_
    have hl := impl_ThueTrits_l0 n.toNat (by omega) 9 0 (by omega)
    rw [show ((n.toNat : Nat) : Int) = n by omega] at hl
    unfold thueV; rw [if_pos ⟨by omega, by omega⟩]
    exact hl

theorem laws_eqIntS_l (x0 x1 : List Int) (hl : x0.length = x1.length) (hn : x0.length ≤ 35184372088832) : ∀ (d i : Nat), i + d = x0.length → Ev (fun k => laws_eqIntS.l0 k x0 x1 i) (decide (x0.drop i = x1.drop i)) := by
  intro d
  induction d with
  | zero =>
    intro i hi
    apply Ev.succ
    simp only [laws_eqIntS.l0.eq_2]
    refine Ev.neg (by omega) (Ev.ret ?_)
    rw [List.drop_eq_nil_of_le (by omega), List.drop_eq_nil_of_le (by omega)]; simp
  | succ d ih =>
    intro i hi
    apply Ev.succ
    simp only [laws_eqIntS.l0.eq_2]
    refine Ev.pos (by omega) (Ev.pos (by omega) (Ev.pos (by omega) ?_))
    rw [rd_get x0 i (by omega), rd_get x1 i (by omega), drop_cons x0 i (by omega), drop_cons x1 i (by omega)]
    refine Ev.ite (fun h => ?_) (fun h => ?_)
    · rw [w64 (by omega) (by omega)]
      exact evTo (ih (i + 1) (by omega)) (by simp only [List.cons.injEq, h, true_and])
    · exact Ev.ret (by simp only [List.cons.injEq, h, false_and, decide_false])
theorem laws_eqIntS_ev (x0 x1 : List Int) (hn : x0.length ≤ 35184372088832) : Ev (fun k => laws_eqIntS.f k x0 x1) (decide (x0 = x1)) := by
  simp only [laws_eqIntS.f]
  refine Ev.ite (fun h => ?_) (fun h => Ev.ret ?_)
  · exact evTo (laws_eqIntS_l x0 x1 (by omega) hn x0.length 0 (by omega)) (by simp)
  · symm; rw [decide_eq_false_iff_not]; intro e; rw [e] at h; exact h rfl

theorem spec_l1In_eq (a b c : Int) : spec_l1In.f a b c = some (decide (b ≤ a ∧ a ≤ c)) := by
  unfold spec_l1In.f
  by_cases h : b ≤ a
  · rw [if_pos (by omega)]; simp [h]
  · rw [if_neg (by omega)]; simp [h]

theorem spec_l2Copy_eq (l : List Int) (h : l.length < 17592186044416) : spec_l2Copy.f l = some l := by
  unfold spec_l2Copy.f
  simp only [Option.bind_some]
  rw [if_pos (by simpa using h)]; simp

theorem spec_ThueTrits_l1 (n : Int) (x : List Int) (hx : x.length ≤ 3000) (ht : ∀ a ∈ x, -1 ≤ a ∧ a ≤ 1) (r : List Int × Bool) (h : Ev (fun k => spec_ThueTrits.l0 k n (nextT x)) r) : ∀ (d i : Nat), i + d = x.length → Ev (fun k => spec_ThueTrits.l1 k n (nextT (x.take i)) x x.length i) r := by
  intro d
  induction d with
  | zero =>
    intro i hi
    apply Ev.succ
    simp only [spec_ThueTrits.l1.eq_2]
    refine Ev.neg (by omega) ?_
    rwa [List.take_of_length_le (by omega)]
  | succ d ih =>
    intro i hi
    apply Ev.succ
    simp only [spec_ThueTrits.l1.eq_2, Option.bind_some]
    refine Ev.pos (by omega) (Ev.pos (by omega) (Ev.pos (by omega) ?_))
    have h2 := ih (i + 1) (by omega)
    rw [take_snoc x i (by omega), nextT_append] at h2
    have e : nextT [x[i]] = sub3 x[i] := by simp [nextT]
    rw [e, sub3] at h2
    have hl := (nextT_length (x.take i)).2
    have hl2 : (x.take i).length ≤ 3000 := by simp; omega
    have hxi := ht x[i] (List.getElem_mem _)
    rw [rd_get x i (by omega), w64 (n := (i : Int) + 1) (by omega) (by omega), w64 (n := x[i] + 1) (by omega) (by omega)]
    generalize x[i] = a at *
    rcases (show a = -1 ∨ a = 0 ∨ a = 1 by omega) with rfl | rfl | rfl
    · simp only [Int.reduceNeg, Int.reduceEq, if_false] at h2
      refine Ev.pos (by omega) (Ev.pos (by simp) (Ev.pos ?_ ?_))
      · show _ + 1 < _; omega
      · exact h2
    · simp only [Int.reduceNeg, Int.reduceEq, if_false, if_true] at h2
      refine Ev.pos (by omega) (Ev.pos (by simp) (Ev.pos ?_ ?_))
      · show _ + 2 < _; omega
      · exact h2
    · simp only [if_true] at h2
      refine Ev.pos (by omega) (Ev.pos (by simp) (Ev.pos ?_ ?_))
      · show _ + 3 < _; omega
      · exact h2
theorem spec_ThueTrits_l0 (n : Nat) (hn : n ≤ 768) : ∀ (d j : Nat), j + d = 9 → Ev (fun k => spec_ThueTrits.l0 k n (thueT j)) ((thueT 9).take n, true) := by
  intro d
  induction d with
  | zero =>
    intro j hj
    obtain rfl : j = 9 := by omega
    apply Ev.succ
    simp only [spec_ThueTrits.l0.eq_2, thueT_length9]
    refine Ev.neg (by omega) (Ev.pos (by omega) (Ev.pos (by omega) (Ev.bindc (spec_l2Copy_eq _ ?_) (Ev.ret ?_))))
    · rw [List.length_take, thueT_length9]; omega
    · simp
  | succ d ih =>
    intro j hj
    apply Ev.succ
    simp only [spec_ThueTrits.l0.eq_2]
    have hp := thueT_prefix j (9 - j)
    rw [show j + (9 - j) = 9 by omega] at hp
    have hl := hp.length_le
    rw [thueT_length9] at hl
    refine Ev.ite (fun c => ?_) (fun c => ?_)
    · have h := ih (j + 1) (by omega)
      exact spec_ThueTrits_l1 n (thueT j) (by omega) (thueT_trits j) _ h (thueT j).length 0 (by omega)
    · refine Ev.pos (by omega) (Ev.pos (by omega) (Ev.bindc (spec_l2Copy_eq _ ?_) (Ev.ret ?_)))
      · rw [List.length_take]; omega
      · rw [take_of_prefix hp (by omega)]; simp
theorem spec_ThueTrits_ev (n : Int) : Ev (fun k => spec_ThueTrits.f k n) (if 0 ≤ n ∧ n ≤ 500 then ((thueT 9).take n.toNat, true) else ([], false)) := by
  simp only [spec_ThueTrits.f, spec_l1In_eq, Option.bind_some, decide_eq_true_eq]
  refine Ev.ite (fun h => ?_) (fun h => Ev.ret (by rw [if_neg h]))
  have hl := spec_ThueTrits_l0 n.toNat (by omega) 9 0 (by omega)
  rw [show ((n.toNat : Nat) : Int) = n by omega] at hl
  rw [if_pos h]
  exact hl

theorem laws_markIntS_l (n : Nat) (a : Int) (ha0 : 0 ≤ a) (ha : a ≤ 1000000000000000) (hn : n ≤ 35184372088832) : ∀ (d i : Nat) (x0 : List Int), i + d = n → x0.length = n → Ev (fun k => laws_markIntS.l0 k x0 (a + i) i) (a + n, x0.take i ++ (marked n a).drop i) := by
  intro d
  induction d with
  | zero =>
    intro i x0 hi hx
    apply Ev.succ
    simp only [laws_markIntS.l0.eq_2]
    refine Ev.neg (by omega) (Ev.ret ?_)
    rw [List.drop_eq_nil_of_le (by rw [marked_length]; omega), List.take_of_length_le (by omega)]
    simp; omega
  | succ d ih =>
    intro i x0 hi hx
    apply Ev.succ
    simp only [laws_markIntS.l0.eq_2]
    refine Ev.pos (by omega) (Ev.pos (by omega) ?_)
    rw [w64 (by omega) (by omega), w64 (by omega) (by omega)]
    have e1 : a + (i : Int) + 1 = a + ((i + 1 : Nat) : Int) := by omega
    rw [e1]
    refine evTo (ih (i + 1) _ (by omega) (by simp [hx])) ?_
    refine congrArg (Prod.mk _) ?_
    rw [take_snoc _ i (by simp; omega), drop_cons (marked n a) i (by rw [marked_length]; omega)]
    simp [marked, List.take_set_of_le]
theorem laws_markIntS_ev (x0 : List Int) (a : Int) (ha0 : 0 ≤ a) (ha : a ≤ 1000000000000000) (hn : x0.length ≤ 35184372088832) : Ev (fun k => laws_markIntS.f k x0 a) (a + x0.length, marked x0.length a) := by
  have h := laws_markIntS_l x0.length a ha0 ha hn x0.length 0 x0 (by omega) rfl
  simp only [laws_markIntS.f]
  simpa using h

theorem laws_heldIntS_l (n : Nat) (a : Int) (ha0 : 0 ≤ a) (ha : a ≤ 1000000000000000) (hn : n ≤ 35184372088832) : ∀ (d i : Nat), i + d = n → Ev (fun k => laws_heldIntS.l0 k (marked n a) (a + i) i) (a + n) := by
  intro d
  induction d with
  | zero =>
    intro i hi
    apply Ev.succ
    simp only [laws_heldIntS.l0.eq_2, marked_length]
    refine Ev.neg (by omega) (Ev.ret (by omega))
  | succ d ih =>
    intro i hi
    apply Ev.succ
    simp only [laws_heldIntS.l0.eq_2, marked_length]
    refine Ev.pos (by omega) (Ev.pos (by omega) (Ev.pos ?_ ?_))
    · rw [rd_get _ i (by rw [marked_length]; omega)]; simp [marked]
    · rw [w64 (by omega) (by omega), w64 (by omega) (by omega)]
      have e1 : a + (i : Int) + 1 = a + ((i + 1 : Nat) : Int) := by omega
      rw [e1]
      exact ih (i + 1) (by omega)
theorem laws_heldIntS_ev (n : Nat) (a : Int) (ha0 : 0 ≤ a) (ha : a ≤ 1000000000000000) (hn : n ≤ 35184372088832) : Ev (fun k => laws_heldIntS.f k (marked n a) a) (a + n) := by
  have h := laws_heldIntS_l n a ha0 ha hn n 0 (by omega)
  simp only [laws_heldIntS.f]
  simpa using h

end Go.Proofs.Yteedicdanhjfpaa.LemFnExactThueTrits

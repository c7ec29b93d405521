/- Lemmas: what each function that this statement reaches computes. -/
import Derived.Test.YtbiibngicelmoaaHFnExactIsLyndonx3
import Derived.Test.YtbiibngicelmoaaBase
import Derived.Test.YtbiibngicelmoaaRotM
set_option linter.unusedVariables false
set_option linter.unusedSimpArgs false
namespace Go.Proofs.Ytbiibngicelmoaa.LemFnExactIsLyndon
open Go.RowKit Go.Proofs.YtbiibngicelmoaaW.PrintWords Go.Proofs.YtbiibngicelmoaaW.PrintLast Go.Proofs.YtbiibngicelmoaaW.PrintMore Go.Proofs.Ytbiibngicelmoaa.HFnExactIsLyndon Go.Proofs.Ytbiibngicelmoaa.Base

theorem spec_l1In_eq (a b c : Int) : spec_l1In.f a b c = some (decide (b ≤ a ∧ a ≤ c)) := by
  unfold spec_l1In.f
  by_cases h : b ≤ a
  · rw [if_pos (by omega)]; simp [h]
  · rw [if_neg (by omega)]; simp [h]

theorem spec_IsTrit_eq (a : Int) : spec_IsTrit.f a = some (isTrit a) := by
  unfold spec_IsTrit.f isTrit
  rw [spec_l1In_eq]; rfl

theorem spec_IsWord_l (x : List Int) (hn : x.length ≤ 35184372088832) : ∀ (d i : Nat), i + d = x.length → Ev (fun k => spec_IsWord.l0 k x x x.length i) (decide (1 ≤ x.length ∧ x.length ≤ 30) && (x.drop i).all isTrit) := by
  intro d
  induction d with
  | zero =>
    intro i hi
    apply Ev.succ
    simp only [spec_IsWord.l0.eq_2, spec_l1In_eq, Option.bind_some]
    refine Ev.neg (by omega) (Ev.ret ?_)
    rw [List.drop_eq_nil_of_le (by omega), List.all_nil, Bool.and_true]
    exact decide_eq_decide.2 (by omega)
  | succ d ih =>
    intro i hi
    apply Ev.succ
    simp only [spec_IsWord.l0.eq_2, spec_IsTrit_eq, Option.bind_some]
    refine Ev.pos (by omega) (Ev.pos (by omega) (Ev.pos (by omega) ?_))
    rw [rd_get x i (by omega), drop_cons x i (by omega), List.all_cons, w64 (by omega) (by omega)]
    refine Ev.ite (fun h => ?_) (fun h => Ev.ret ?_)
    · exact evTo (ih (i + 1) (by omega)) (by rw [h, Bool.true_and])
    · rw [Bool.not_eq_true] at h; rw [h, Bool.false_and, Bool.and_false]
theorem spec_IsWord_ev (x : List Int) (hn : x.length ≤ 35184372088832) : Ev (fun k => spec_IsWord.f k x) (isWord x) := by
  simp only [spec_IsWord.f]
  exact spec_IsWord_l x hn x.length 0 (by omega)

theorem spec_l9Less_l (v w : List Int) (hv : v.length ≤ 1000000000) (hw : w.length ≤ 1000000000) : ∀ (d i : Nat), i + d = v.length → i ≤ w.length → Ev (fun k => spec_l9Less.l0 k v w v.length i) (decide (cmpL (v.drop i) (w.drop i) < 0)) := by
  intro d
  induction d with
  | zero =>
    intro i hi hiw
    apply Ev.succ
    simp only [spec_l9Less.l0.eq_2]
    refine Ev.neg (by omega) (Ev.ret ?_)
    rw [show v.drop i = [] from List.drop_eq_nil_of_le (by omega)]
    by_cases h : v.length < w.length
    · rw [drop_cons w i (by omega), decide_eq_true (by omega)]; rfl
    · rw [List.drop_eq_nil_of_le (by omega), decide_eq_false (by omega)]; rfl
  | succ d ih =>
    intro i hi hiw
    apply Ev.succ
    simp only [spec_l9Less.l0.eq_2]
    rw [drop_cons v i (by omega), rd_get v i (by omega), w64 (by omega) (by omega)]
    refine Ev.pos (by omega) ?_
    refine Ev.ite (fun h => Ev.ret ?_) (fun h => ?_)
    · rw [show w.drop i = [] from List.drop_eq_nil_of_le (by omega)]; rfl
    · rw [drop_cons w i (by omega), rd_get w i (by omega), cmpL]
      refine Ev.pos (by omega) (Ev.pos (by omega) (Ev.pos (by omega) ?_))
      refine Ev.ite (fun c => ?_) (fun c => Ev.ret ?_)
      · rw [if_neg (by omega), if_neg (by omega)]
        exact ih (i + 1) (by omega) (by omega)
      · by_cases h1 : v[i] < w[i]
        · rw [if_pos h1]; simp [h1]
        · rw [if_neg h1, if_pos (by omega)]; simp [h1]
theorem spec_l9Less_ev (v w : List Int) (hv : v.length ≤ 1000000000) (hw : w.length ≤ 1000000000) : Ev (fun k => spec_l9Less.f k v w) (decide (cmpL v w < 0)) := by
  simp only [spec_l9Less.f]
  exact spec_l9Less_l v w hv hw v.length 0 (by omega) (by omega)

theorem spec_l2Copy_eq (l : List Int) (h : l.length < 17592186044416) : spec_l2Copy.f l = some l := by
  unfold spec_l2Copy.f
  simp only [Option.bind_some]
  rw [if_pos (by simpa using h)]; simp

theorem spec_l9Rotate_eq (w : List Int) (i : Nat) (hi : i ≤ w.length) (hn : w.length ≤ 1000000) : spec_l9Rotate.f w i = some (rot w i) := by
  unfold spec_l9Rotate.f
  rw [if_pos (by omega), if_pos (by omega), show ((i : Int)).toNat = i by omega, spec_l2Copy_eq _ (by rw [List.length_drop]; omega)]
  simp only [Option.bind_some]
  rw [if_pos (by rw [List.length_drop, List.length_take]; omega)]; rfl

theorem spec_IsLyndon_l (w : List Int) (hw : w.length ≤ 1000000) : ∀ (d i : Nat), i + d = w.length → Ev (fun k => spec_IsLyndon.l0 k w i) (lynFrom w i d) := by
  intro d
  induction d with
  | zero =>
    intro i hi
    apply Ev.succ
    simp only [spec_IsLyndon.l0.eq_2]
    exact Ev.neg (by omega) (Ev.now _)
  | succ d ih =>
    intro i hi
    apply Ev.succ
    simp only [spec_IsLyndon.l0.eq_2]
    refine Ev.pos (by omega) (Ev.bindc (spec_l9Rotate_eq w i (by omega) hw) ?_)
    refine Ev.bind (spec_l9Less_ev w (rot w i) (by omega) (by rw [rot_length w i (by omega)]; omega)) ?_
    rw [lynFrom, w64 (by omega) (by omega)]
    have ha := cmpL_anti (rot w i) w
    refine Ev.ite (fun h => ?_) (fun h => Ev.ret ?_)
    · have h1 := of_decide_eq_true h
      rw [if_neg (by omega)]
      exact ih (i + 1) (by omega)
    · have h1 : ¬ cmpL w (rot w i) < 0 := fun e => h (decide_eq_true e)
      rw [if_pos (by omega)]
theorem spec_IsLyndon_ev (w : List Int) (hn : w.length ≤ 35184372088832) : Ev (fun k => spec_IsLyndon.f k w) (isWord w && lyn w) := by
  simp only [spec_IsLyndon.f]
  refine Ev.bind (spec_IsWord_ev w hn) ?_
  refine Ev.ite (fun h => ?_) (fun h => Ev.ret (by rw [Bool.not_eq_true] at h; rw [h, Bool.false_and]))
  have hw := (isWord_iff w).1 h
  refine evTo (spec_IsLyndon_l w (by omega) (w.length - 1) 1 (by omega)) ?_
  rw [h, Bool.true_and]; rfl

theorem laws_toIntS_l (x0 : List Int) (hn : x0.length ≤ 35184372088832) : ∀ (d i : Nat) (x3 : List Int), i + d = x0.length → x3.length = x0.length → x3.take i = x0.take i → Ev (fun k => laws_toIntS.l0 k x0 x3 i) x0 := by
  intro d
  induction d with
  | zero =>
    intro i x3 hi hx ht
    apply Ev.succ
    simp only [laws_toIntS.l0.eq_2]
    refine Ev.neg (by omega) (Ev.ret ?_)
    rwa [List.take_of_length_le (by omega), List.take_of_length_le (by omega)] at ht
  | succ d ih =>
    intro i x3 hi hx ht
    apply Ev.succ
    simp only [laws_toIntS.l0.eq_2]
    refine Ev.pos (by omega) (Ev.pos (by omega) (Ev.pos (by omega) ?_))
    rw [w64 (by omega) (by omega), rd_get x0 i (by omega)]
    refine ih (i + 1) _ (by omega) (by simp [hx]) ?_
    rw [take_snoc _ i (by simp; omega), take_snoc x0 i (by omega)]
    simp [List.take_set_of_le, ht]
theorem laws_toIntS_ev (x0 : List Int) (hn : x0.length ≤ 35184372088832) : Ev (fun k => laws_toIntS.f k x0) x0 := by
  simp only [laws_toIntS.f]
  refine Ev.pos (by omega) (Ev.pos (by omega) ?_)
  exact laws_toIntS_l x0 hn x0.length 0 _ (by omega) (by simp) (by simp)

theorem impl_IsTrit_eq (a : Int) : impl_IsTrit.f a = some (isTrit a) := by
  unfold impl_IsTrit.f isTrit
  by_cases h : -1 ≤ a
  · rw [if_pos (by omega)]; simp [h]
  · rw [if_neg (by omega)]; simp [h]

theorem impl_trits_l (x : List Int) (hn : x.length ≤ 35184372088832) : ∀ (d i : Nat), i + d = x.length → Ev (fun k => impl_trits.l0 k x x.length i) ((x.drop i).all isTrit) := by
  intro d
  induction d with
  | zero =>
    intro i hi
    apply Ev.succ
    simp only [impl_trits.l0.eq_2]
    refine Ev.neg (by omega) (Ev.ret ?_)
    rw [List.drop_eq_nil_of_le (by omega)]; rfl
  | succ d ih =>
    intro i hi
    apply Ev.succ
    simp only [impl_trits.l0.eq_2, impl_IsTrit_eq, Option.bind_some]
    refine Ev.pos (by omega) (Ev.pos (by omega) (Ev.pos (by omega) ?_))
    rw [rd_get x i (by omega), drop_cons x i (by omega), List.all_cons, w64 (by omega) (by omega)]
    refine Ev.ite (fun h => ?_) (fun h => Ev.ret ?_)
    · exact evTo (ih (i + 1) (by omega)) (by rw [h, Bool.true_and])
    · rw [Bool.not_eq_true] at h; rw [h, Bool.false_and]
theorem impl_trits_ev (x : List Int) (hn : x.length ≤ 35184372088832) : Ev (fun k => impl_trits.f k x) (x.all isTrit) := by
  simp only [impl_trits.f]
  exact impl_trits_l x hn x.length 0 (by omega)

theorem impl_IsWord_ev (x : List Int) : Ev (fun k => impl_IsWord.f k x) (isWord x) := by
  simp only [impl_IsWord.f, isWord]
  refine Ev.ite (fun h => Ev.ite (fun h1 => ?_) (fun h1 => Ev.ret ?_)) (fun h => Ev.ret ?_)
  · refine Ev.bind (impl_trits_ev x (by omega)) (Ev.ret ?_)
    rw [decide_eq_true (by omega), Bool.true_and]
  · rw [decide_eq_false (by omega), Bool.false_and]
  · rw [decide_eq_false (by omega), Bool.false_and]

theorem cmp_Compare_eq (a b : Int) : cmp_Compare_int.f a b = some (if a < b then -1 else if a > b then 1 else 0) := by
  unfold cmp_Compare_int.f cmp_isNaN_int.f
  simp only [Option.bind_some, bne_self_eq_false]
  rw [if_neg (by decide), if_neg (by decide)]
  by_cases h : a < b
  · rw [if_pos h, if_pos h]
  · rw [if_neg h, if_neg h]
    by_cases h1 : a > b
    · rw [if_pos h1, if_pos h1]
    · rw [if_neg h1, if_neg h1]
theorem slices_Compare_l (v w : List Int) (hv : v.length ≤ 1000000000) (hw : w.length ≤ 1000000000) : ∀ (d i : Nat), i + d = v.length → i ≤ w.length → Ev (fun k => slices_Compare_int_int.l0 k v w v v.length i) (if cmpL (v.drop i) (w.drop i) = 0 then cmpL (v.drop i) (w.drop i) else cmpL (v.drop i) (w.drop i)) := by
  intro d
  induction d with
  | zero =>
    intro i hi hiw
    apply Ev.succ
    simp only [slices_Compare_int_int.l0.eq_2, ite_self]
    refine Ev.neg (by omega) ?_
    rw [show v.drop i = [] from List.drop_eq_nil_of_le (by omega)]
    refine Ev.ite (fun h => Ev.ret ?_) (fun h => Ev.ret ?_)
    · rw [drop_cons w i (by omega)]; rfl
    · rw [List.drop_eq_nil_of_le (by omega)]; rfl
  | succ d ih =>
    intro i hi hiw
    apply Ev.succ
    simp only [slices_Compare_int_int.l0.eq_2, ite_self]
    simp only [ite_self] at ih
    rw [drop_cons v i (by omega), rd_get v i (by omega), w64 (by omega) (by omega)]
    refine Ev.pos (by omega) (Ev.pos (by omega) (Ev.pos (by omega) ?_))
    refine Ev.ite (fun h => Ev.ret ?_) (fun h => ?_)
    · rw [show w.drop i = [] from List.drop_eq_nil_of_le (by omega)]; rfl
    · rw [drop_cons w i (by omega), rd_get w i (by omega), cmpL]
      refine Ev.pos (by omega) (Ev.bindc (cmp_Compare_eq _ _) ?_)
      by_cases h1 : v[i] < w[i]
      · rw [if_pos h1, if_pos h1]; exact Ev.neg (by decide) (Ev.now _)
      · rw [if_neg h1, if_neg h1]
        by_cases h2 : v[i] > w[i]
        · rw [if_pos h2, if_pos h2]; exact Ev.neg (by decide) (Ev.now _)
        · rw [if_neg h2, if_neg h2]
          exact Ev.pos rfl (ih (i + 1) (by omega) (by omega))
theorem slices_Compare_ev (v w : List Int) (hv : v.length ≤ 1000000000) (hw : w.length ≤ 1000000000) : Ev (fun k => slices_Compare_int_int.f k v w) (cmpL v w) := by
  simp only [slices_Compare_int_int.f]
  have h := slices_Compare_l v w hv hw v.length 0 (by omega) (by omega)
  simpa using h

theorem slices_Grow_eq (n : Int) (h0 : 0 ≤ n) (h : n ≤ 17592186044415) : slices_Grow_int_int.f [] n = some [] := by
  unfold slices_Grow_int_int.f; rw [if_pos ⟨rfl, h0, h⟩]
def total : List (List Int) → Nat
  | [] => 0
  | a :: l => a.length + total l
theorem total_join (l : List (List Int)) : l.flatten.length = total l := by
  induction l with
  | nil => rfl
  | cons a l ih => rw [List.flatten_cons, List.length_append, ih]; rfl
theorem total_append (a b : List (List Int)) : total (a ++ b) = total a + total b := by
  induction a with
  | nil => simp [total]
  | cons x a ih => rw [List.cons_append, total, total, ih]; omega
theorem rdll_get (xs : List (List Int)) (i : Nat) (h : i < xs.length) : rd_L1 xs (i : Int) = xs[i] := by
  simp [rd_L1, List.getD_eq_getElem?_getD, List.getElem?_eq_getElem h]
theorem total_take_le (l : List (List Int)) (i : Nat) : total (l.take i) ≤ total l := by
  have : total l = total (l.take i) + total (l.drop i) := by rw [← total_append, List.take_append_drop]
  omega
theorem slices_Concat_l1 (l : List (List Int)) (hn : l.length ≤ 1000000000) (ht : total l ≤ 1000000000000) : ∀ (d i : Nat), i + d = l.length → Ev (fun k => slices_Concat_int_int.l1 k (l.take i).flatten l l.length i) l.flatten := by
  intro d
  induction d with
  | zero =>
    intro i hi
    apply Ev.succ
    simp only [slices_Concat_int_int.l1.eq_2]
    exact Ev.neg (by omega) (Ev.ret (by rw [List.take_of_length_le (by omega)]))
  | succ d ih =>
    intro i hi
    apply Ev.succ
    simp only [slices_Concat_int_int.l1.eq_2]
    have h1 := ih (i + 1) (by omega)
    have h2 := total_take_le l (i + 1)
    rw [take_snoc l i (by omega)] at h1 h2
    rw [List.flatten_append, List.flatten_cons, List.flatten_nil, List.append_nil] at h1
    rw [total_append] at h2
    simp only [total] at h2
    rw [rdll_get l i (by omega), w64 (by omega) (by omega)]
    refine Ev.pos (by omega) (Ev.pos (by omega) (Ev.pos (by omega) (Ev.pos ?_ h1)))
    rw [total_join]; omega
theorem slices_Concat_l0 (l : List (List Int)) (hn : l.length ≤ 1000000000) (ht : total l ≤ 1000000000000) : ∀ (d i : Nat), i + d = l.length → Ev (fun k => slices_Concat_int_int.l0 k l (total (l.take i) : Nat) l l.length i) l.flatten := by
  intro d
  induction d with
  | zero =>
    intro i hi
    apply Ev.succ
    simp only [slices_Concat_int_int.l0.eq_2]
    have h2 := total_take_le l i
    refine Ev.neg (by omega) (Ev.bindc (slices_Grow_eq _ (by omega) (by omega)) ?_)
    exact slices_Concat_l1 l hn ht l.length 0 (by omega)
  | succ d ih =>
    intro i hi
    apply Ev.succ
    simp only [slices_Concat_int_int.l0.eq_2]
    have h1 := ih (i + 1) (by omega)
    have h2 := total_take_le l (i + 1)
    rw [take_snoc l i (by omega), total_append] at h1 h2
    simp only [total] at h1 h2
    rw [rdll_get l i (by omega), w64 (n := (i : Int) + 1) (by omega) (by omega), w64 (by omega) (by omega)]
    refine Ev.pos (by omega) (Ev.pos (by omega) (Ev.pos (by omega) (Ev.neg (by omega) ?_)))
    have e : ((total (l.take i) + (l[i].length + 0) : Nat) : Int) = (total (l.take i) : Int) + (l[i].length : Int) := by omega
    rw [e] at h1
    exact h1
theorem slices_Concat_ev (l : List (List Int)) (hn : l.length ≤ 1000000000) (ht : total l ≤ 1000000000000) : Ev (fun k => slices_Concat_int_int.f k l) l.flatten := by
  simp only [slices_Concat_int_int.f]
  exact slices_Concat_l0 l hn ht l.length 0 (by omega)

theorem impl_rotated_ev (w : List Int) (i : Nat) (hi : i ≤ w.length) (hn : w.length ≤ 1000000) : Ev (fun k => impl_rotated.f k w i) (rot w i) := by
  simp only [impl_rotated.f]
  refine Ev.pos (by omega) (Ev.pos (by omega) ?_)
  rw [show ((i : Int)).toNat = i by omega]
  refine Ev.bind (slices_Concat_ev [w.drop i, w.take i] (by simp) ?_) (Ev.ret ?_)
  · simp only [total, List.length_drop, List.length_take]; omega
  · simp [rot]

theorem impl_IsLyndon_l (w : List Int) (hw : w.length ≤ 1000000) : ∀ (d i : Nat), i + d = w.length → Ev (fun k => impl_IsLyndon.l0 k w i) (lynFrom w i d) := by
  intro d
  induction d with
  | zero =>
    intro i hi
    apply Ev.succ
    simp only [impl_IsLyndon.l0.eq_2]
    exact Ev.neg (by omega) (Ev.now _)
  | succ d ih =>
    intro i hi
    apply Ev.succ
    simp only [impl_IsLyndon.l0.eq_2]
    refine Ev.pos (by omega) (Ev.bind (impl_rotated_ev w i (by omega) hw) ?_)
    refine Ev.bind (slices_Compare_ev (rot w i) w (by rw [rot_length w i (by omega)]; omega) (by omega)) ?_
    rw [lynFrom, w64 (by omega) (by omega)]
    refine Ev.ite (fun h => Ev.ret (by rw [if_pos h])) (fun h => ?_)
    rw [if_neg h]
    exact ih (i + 1) (by omega)
theorem impl_IsLyndon_ev (w : List Int) : Ev (fun k => impl_IsLyndon.f k w) (isWord w && lyn w) := by
  simp only [impl_IsLyndon.f]
  refine Ev.bind (impl_IsWord_ev w) ?_
  refine Ev.ite (fun h => ?_) (fun h => Ev.ret (by rw [Bool.not_eq_true] at h; rw [h, Bool.false_and]))
  have hw := (isWord_iff w).1 h
  refine evTo (impl_IsLyndon_l w (by omega) (w.length - 1) 1 (by omega)) ?_
  rw [h, Bool.true_and]; rfl

theorem laws_eqIntS_l (x0 x1 : List Int) (hl : x0.length = x1.length) (hn : x0.length ≤ 35184372088832) : ∀ (d i : Nat), i + d = x0.length → Ev (fun k => laws_eqIntS.l0 k x0 x1 i) (decide (x0.drop i = x1.drop i)) := by
  intro d
  induction d with
  | zero =>
    intro i hi
    apply Ev.succ
    simp only [laws_eqIntS.l0.eq_2]
    refine Ev.neg (by omega) (Ev.ret ?_)
    rw [List.drop_eq_nil_of_le (by omega), List.drop_eq_nil_of_le (by omega)]; simp
  | succ d ih =>
    intro i hi
    apply Ev.succ
    simp only [laws_eqIntS.l0.eq_2]
    refine Ev.pos (by omega) (Ev.pos (by omega) (Ev.pos (by omega) ?_))
    rw [rd_get x0 i (by omega), rd_get x1 i (by omega), drop_cons x0 i (by omega), drop_cons x1 i (by omega)]
    refine Ev.ite (fun h => ?_) (fun h => ?_)
    · rw [w64 (by omega) (by omega)]
      exact evTo (ih (i + 1) (by omega)) (by simp only [List.cons.injEq, h, true_and])
    · exact Ev.ret (by simp only [List.cons.injEq, h, false_and, decide_false])
theorem laws_eqIntS_ev (x0 x1 : List Int) (hn : x0.length ≤ 35184372088832) : Ev (fun k => laws_eqIntS.f k x0 x1) (decide (x0 = x1)) := by
  simp only [laws_eqIntS.f]
  refine Ev.ite (fun h => ?_) (fun h => Ev.ret ?_)
  · exact evTo (laws_eqIntS_l x0 x1 (by omega) hn x0.length 0 (by omega)) (by simp)
  · symm; rw [decide_eq_false_iff_not]; intro e; rw [e] at h; exact h rfl

end Go.Proofs.Ytbiibngicelmoaa.LemFnExactIsLyndon

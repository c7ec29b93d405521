/- Lemmas: what each function that this statement reaches computes. -/
import Derived.Test.YtffohdlbkigehaaHOpFnExactWeighCoins
import Derived.Test.YtffohdlbkigehaaBase
import Derived.Test.YtffohdlbkigehaaWordM
set_option linter.unusedVariables false
set_option linter.unusedSimpArgs false
namespace Go.Proofs.Ytffohdlbkigehaa.LemFnExactWeighCoins
open Go.RowKit Go.Proofs.YtffohdlbkigehaaW.PrintWords Go.Proofs.YtffohdlbkigehaaW.PrintLast Go.Proofs.YtffohdlbkigehaaW.PrintMore Go.Proofs.Ytffohdlbkigehaa.HFnExactWeighCoins Go.Proofs.Ytffohdlbkigehaa.Base

theorem laws_szIntS_eq (l : List Int) (a : Int) (hl : l.length ≤ maxLen) (h0 : 0 ≤ a) (h1 : a ≤ 1048576) : laws_szIntS.f l a = some (if (l.length : Int) ≤ a then a - l.length else -1) := by
  unfold maxLen at hl
  unfold laws_szIntS.f
  rw [w64 (by omega) (by omega)]
  by_cases h : (l.length : Int) ≤ a
  · rw [if_neg (by omega), if_pos h]
  · rw [if_pos (by omega), if_neg h]

theorem laws_szWeighing_eq (s c : List Int) (a : Int) (hs : s.length ≤ maxLen) (hc : c.length ≤ maxLen) (h0 : 0 ≤ a) (h1 : a ≤ 1048576) : laws_szWeighing.f s c a = some (if (s.length : Int) + c.length ≤ a then a - s.length - c.length else -1) := by
  unfold laws_szWeighing.f
  rw [laws_szIntS_eq s a hs h0 h1]
  simp only [Option.bind_some]
  by_cases h : (s.length : Int) ≤ a
  · rw [if_pos h, if_neg (by omega), laws_szIntS_eq c _ hc (by omega) (by omega)]
    simp only [Option.bind_some]
    by_cases h' : (c.length : Int) ≤ a - s.length
    · rw [if_pos h', if_neg (by omega), if_pos (by omega)]
    · rw [if_neg h', if_pos (by omega), if_neg (by omega)]
  · rw [if_neg h, if_pos (by omega), if_neg (by omega)]

theorem spec_l1In_eq (a b c : Int) : spec_l1In.f a b c = some (decide (b ≤ a ∧ a ≤ c)) := by
  unfold spec_l1In.f
  by_cases h : b ≤ a
  · rw [if_pos (by omega)]; simp [h]
  · rw [if_neg (by omega)]; simp [h]

theorem spec_SignOf_eq (n : Int) : spec_SignOf.f n = some (sgn n) := by
  unfold spec_SignOf.f sgn
  by_cases h : n < 0
  · rw [if_pos h, if_pos h]
  · rw [if_neg h, if_neg h]
    by_cases h1 : n > 0
    · rw [if_pos h1, if_pos h1]
    · rw [if_neg h1, if_neg h1]

theorem rdL_get (xs : List (List Int)) (i : Nat) (h : i < xs.length) : rd_L1 xs (i : Int) = xs[i] := by
  simp [rd_L1, List.getD_eq_getElem?_getD, List.getElem?_eq_getElem h]
/-- All numbers of all rows. -/
def tot : List (List Int) → Nat
  | [] => 0
  | x :: xs => x.length + tot xs
theorem tot_drop (xs : List (List Int)) (i : Nat) (h : i < xs.length) : tot (xs.drop i) = xs[i].length + tot (xs.drop (i + 1)) := by
  rw [drop_cons xs i h, tot]
theorem tot_mem {l : List (List Int)} {x : List Int} (h : x ∈ l) : x.length ≤ tot l := by
  induction l with
  | nil => simp at h
  | cons y ys ih =>
    rw [tot]
    rcases List.mem_cons.1 h with rfl | h
    · omega
    · have := ih h; omega

theorem wrap_add (x y : Int) : wrap64 (x + wrap64 y) = wrap64 (x + y) := by unfold wrap64; omega
def badI (n : Nat) (c : Int) : Bool := decide (c < 0) || decide ((n : Int) ≤ c)
def badW (a : Int) : Bool := decide (a < 0) || decide (1000000 < a)
def stepW (w : List Int) (e : Int) (s c : Int) : Int := wrap64 (s + wrap64 (rd w c * wrap64 (1 - wrap64 (2 * e))))
/-- What WeighCoins gives. -/
def weigh (w l r : List Int) : Int × Bool := if (l ++ r).any (badI w.length) = true ∨ w.any badW = true then (0, false) else (sgn (impl_WeighCoins.s2 w r (impl_WeighCoins.s1 w l 0)), true)
theorem step0 (w l : List Int) (s : Int) : l.foldl (stepW w 0) s = impl_WeighCoins.s1 w l s := by
  unfold impl_WeighCoins.s1
  congr 1
  funext s c
  unfold stepW
  rw [show wrap64 (1 - wrap64 (2 * 0)) = 1 by unfold wrap64; omega, Int.mul_one, wrap_add]
theorem step1 (w l : List Int) (s : Int) : l.foldl (stepW w 1) s = impl_WeighCoins.s2 w l s := by
  unfold impl_WeighCoins.s2
  congr 1
  funext s c
  unfold stepW
  rw [show wrap64 (1 - wrap64 (2 * 1)) = -1 by unfold wrap64; omega, wrap_add, show s + rd w c * -1 = s - rd w c by omega]
theorem spec_WeighCoins_l1 (w l : List Int) (y : List (List Int)) (e m j : Int) (hl : l.length ≤ 1048576) (z : Int × Bool) : ∀ (d i : Nat) (s : Int), i + d = l.length → ((l.drop i).any (badI w.length) = false → Ev (fun k => spec_WeighCoins.l0 k w ((l.drop i).foldl (stepW w e) s) y m (wrap64 (j + 1))) z) → ((l.drop i).any (badI w.length) = true → z = (0, false)) →
    Ev (fun k => spec_WeighCoins.l1 k w s e y m j l (l.length : Int) i) z := by
  intro d
  induction d with
  | zero =>
    intro i s hi h1 h2
    apply Ev.succ
    simp only [spec_WeighCoins.l1.eq_2]
    rw [List.drop_of_length_le (by omega)] at h1
    exact Ev.neg (by omega) (h1 rfl)
  | succ d ih =>
    intro i s hi h1 h2
    have hlt : i < l.length := by omega
    apply Ev.succ
    simp only [spec_WeighCoins.l1.eq_2]
    rw [drop_cons l i hlt, List.any_cons] at h1 h2
    rw [rd_get l i hlt]
    refine Ev.pos (by omega) (Ev.pos (by omega) (Ev.pos (by omega) (Ev.ite (fun c1 => Ev.ret ?_) (fun c1 => Ev.ite (fun c2 => Ev.ret ?_) (fun c2 => Ev.pos (by omega) (Ev.pos (by omega) ?_))))))
    · rw [h2 (by simp [badI, c1])]
    · rw [h2 (by simp [badI]; omega)]
    · have hb : badI w.length l[i] = false := by simp [badI]; omega
      rw [hb, Bool.false_or] at h1 h2
      rw [w64 (n := (i : Int) + 1) (by omega) (by omega)]
      exact ih (i + 1) _ (by omega) h1 h2
theorem spec_WeighCoins_l2 (s : Int) (w : List Int) (hw : w.length ≤ 1048576) : ∀ (d i : Nat), i + d = w.length → Ev (fun k => spec_WeighCoins.l2 k s w (w.length : Int) i) (if (w.drop i).any badW = true then (0, false) else (sgn s, true)) := by
  intro d
  induction d with
  | zero =>
    intro i hi
    apply Ev.succ
    simp only [spec_WeighCoins.l2.eq_2]
    rw [List.drop_of_length_le (by omega)]
    exact Ev.neg (by omega) (Ev.bindc (spec_SignOf_eq s) (Ev.now _))
  | succ d ih =>
    intro i hi
    have hlt : i < w.length := by omega
    apply Ev.succ
    simp only [spec_WeighCoins.l2.eq_2]
    rw [drop_cons w i hlt, List.any_cons, rd_get w i hlt]
    refine Ev.pos (by omega) (Ev.pos (by omega) (Ev.pos (by omega) (Ev.bindc (spec_l1In_eq _ _ _) (Ev.ite (fun c => ?_) (fun c => Ev.ret ?_)))))
    · have hb : badW w[i] = false := by simp [badW] at c ⊢; omega
      rw [hb, Bool.false_or, w64 (by omega) (by omega)]
      exact ih (i + 1) (by omega)
    · have hb : badW w[i] = true := by simp [badW] at c ⊢; omega
      rw [hb]; rfl
theorem spec_WeighCoins_ev (w l r : List Int) (hw : w.length ≤ 1048576) (hl : l.length ≤ 1048576) (hr : r.length ≤ 1048576) : Ev (fun k => spec_WeighCoins.f k w l r) (weigh w l r) := by
  simp only [spec_WeighCoins.f]
  refine Ev.bindc rfl ?_
  have r0 : rd_L1 [l, r] 0 = l := rfl
  have r1 : rd_L1 [l, r] 1 = r := rfl
  unfold weigh
  rw [List.any_append]
  apply Ev.succ
  simp only [spec_WeighCoins.l0.eq_2, r0]
  refine Ev.pos (by simp) (Ev.pos (by omega) (Ev.pos (by simp) ?_))
  refine spec_WeighCoins_l1 w l [l, r] 0 _ 0 hl _ l.length 0 0 (by omega) (fun hL => ?_) (fun hL => ?_)
  · rw [List.drop_zero] at hL ⊢
    rw [step0, w64 (by omega) (by omega)]
    apply Ev.succ
    simp only [spec_WeighCoins.l0.eq_2, r1]
    refine Ev.pos (by simp) (Ev.pos (by omega) (Ev.pos (by simp) ?_))
    refine spec_WeighCoins_l1 w r [l, r] 1 _ 1 hr _ r.length 0 _ (by omega) (fun hR => ?_) (fun hR => ?_)
    · rw [List.drop_zero] at hR ⊢
      rw [step1, w64 (by omega) (by omega)]
      apply Ev.succ
      simp only [spec_WeighCoins.l0.eq_2]
      refine Ev.neg (by simp) ?_
      have := spec_WeighCoins_l2 (impl_WeighCoins.s2 w r (impl_WeighCoins.s1 w l 0)) w hw w.length 0 (by omega)
      rw [List.drop_zero] at this
      refine evTo this ?_
      rw [hL, hR]; simp
    · rw [List.drop_zero] at hR
      rw [hR]; simp
  · rw [List.drop_zero] at hL
    rw [hL]; simp

theorem laws_toIntS_l (x0 : List Int) (hn : x0.length ≤ 35184372088832) : ∀ (d i : Nat) (x3 : List Int), i + d = x0.length → x3.length = x0.length → x3.take i = x0.take i → Ev (fun k => laws_toIntS.l0 k x0 x3 i) x0 := by
  intro d
  induction d with
  | zero =>
    intro i x3 hi hx ht
    apply Ev.succ
    simp only [laws_toIntS.l0.eq_2]
    refine Ev.neg (by omega) (Ev.ret ?_)
    rwa [List.take_of_length_le (by omega), List.take_of_length_le (by omega)] at ht
  | succ d ih =>
    intro i x3 hi hx ht
    apply Ev.succ
    simp only [laws_toIntS.l0.eq_2]
    refine Ev.pos (by omega) (Ev.pos (by omega) (Ev.pos (by omega) ?_))
    rw [w64 (by omega) (by omega), rd_get x0 i (by omega)]
    refine ih (i + 1) _ (by omega) (by simp [hx]) ?_
    rw [take_snoc _ i (by simp; omega), take_snoc x0 i (by omega)]
    simp [List.take_set_of_le, ht]
theorem laws_toIntS_ev (x0 : List Int) (hn : x0.length ≤ 35184372088832) : Ev (fun k => laws_toIntS.f k x0) x0 := by
  simp only [laws_toIntS.f]
  refine Ev.pos (by omega) (Ev.pos (by omega) ?_)
  exact laws_toIntS_l x0 hn x0.length 0 _ (by omega) (by simp) (by simp)

theorem laws_toWeighing_ev (s c : List Int) (hs : s.length ≤ 1048576) (hc : c.length ≤ 1048576) : Ev (fun k => laws_toWeighing.f k s c) (s, c) := by
  simp only [laws_toWeighing.f]
  exact Ev.bind (laws_toIntS_ev s (by omega)) (Ev.bind (laws_toIntS_ev c (by omega)) (Ev.now _))

theorem slices_Grow_eq (n : Int) (h0 : 0 ≤ n) (h : n ≤ 17592186044415) : slices_Grow_int_int.f [] n = some [] := by
  unfold slices_Grow_int_int.f; rw [if_pos ⟨rfl, h0, h⟩]
def total : List (List Int) → Nat
  | [] => 0
  | a :: l => a.length + total l
theorem total_join (l : List (List Int)) : l.flatten.length = total l := by
  induction l with
  | nil => rfl
  | cons a l ih => rw [List.flatten_cons, List.length_append, ih]; rfl
theorem total_append (a b : List (List Int)) : total (a ++ b) = total a + total b := by
  induction a with
  | nil => simp [total]
  | cons x a ih => rw [List.cons_append, total, total, ih]; omega
theorem rdll_get (xs : List (List Int)) (i : Nat) (h : i < xs.length) : rd_L1 xs (i : Int) = xs[i] := by
  simp [rd_L1, List.getD_eq_getElem?_getD, List.getElem?_eq_getElem h]
theorem total_take_le (l : List (List Int)) (i : Nat) : total (l.take i) ≤ total l := by
  have : total l = total (l.take i) + total (l.drop i) := by rw [← total_append, List.take_append_drop]
  omega
theorem slices_Concat_l1 (l : List (List Int)) (hn : l.length ≤ 1000000000) (ht : total l ≤ 1000000000000) : ∀ (d i : Nat), i + d = l.length → Ev (fun k => slices_Concat_int_int.l1 k (l.take i).flatten l l.length i) l.flatten := by
  intro d
  induction d with
  | zero =>
    intro i hi
    apply Ev.succ
    simp only [slices_Concat_int_int.l1.eq_2]
    exact Ev.neg (by omega) (Ev.ret (by rw [List.take_of_length_le (by omega)]))
  | succ d ih =>
    intro i hi
    apply Ev.succ
    simp only [slices_Concat_int_int.l1.eq_2]
    have h1 := ih (i + 1) (by omega)
    have h2 := total_take_le l (i + 1)
    rw [take_snoc l i (by omega)] at h1 h2
    rw [List.flatten_append, List.flatten_cons, List.flatten_nil, List.append_nil] at h1
    rw [total_append] at h2
    simp only [total] at h2
    rw [rdll_get l i (by omega), w64 (by omega) (by omega)]
    refine Ev.pos (by omega) (Ev.pos (by omega) (Ev.pos (by omega) (Ev.pos ?_ h1)))
    rw [total_join]; omega
theorem slices_Concat_l0 (l : List (List Int)) (hn : l.length ≤ 1000000000) (ht : total l ≤ 1000000000000) : ∀ (d i : Nat), i + d = l.length → Ev (fun k => slices_Concat_int_int.l0 k l (total (l.take i) : Nat) l l.length i) l.flatten := by
  intro d
  induction d with
  | zero =>
    intro i hi
    apply Ev.succ
    simp only [slices_Concat_int_int.l0.eq_2]
    have h2 := total_take_le l i
    refine Ev.neg (by omega) (Ev.bindc (slices_Grow_eq _ (by omega) (by omega)) ?_)
    exact slices_Concat_l1 l hn ht l.length 0 (by omega)
  | succ d ih =>
    intro i hi
    apply Ev.succ
    simp only [slices_Concat_int_int.l0.eq_2]
    have h1 := ih (i + 1) (by omega)
    have h2 := total_take_le l (i + 1)
    rw [take_snoc l i (by omega), total_append] at h1 h2
    simp only [total] at h1 h2
    rw [rdll_get l i (by omega), w64 (n := (i : Int) + 1) (by omega) (by omega), w64 (by omega) (by omega)]
    refine Ev.pos (by omega) (Ev.pos (by omega) (Ev.pos (by omega) (Ev.neg (by omega) ?_)))
    have e : ((total (l.take i) + (l[i].length + 0) : Nat) : Int) = (total (l.take i) : Int) + (l[i].length : Int) := by omega
    rw [e] at h1
    exact h1
theorem slices_Concat_ev (l : List (List Int)) (hn : l.length ≤ 1000000000) (ht : total l ≤ 1000000000000) : Ev (fun k => slices_Concat_int_int.f k l) l.flatten := by
  simp only [slices_Concat_int_int.f]
  exact slices_Concat_l0 l hn ht l.length 0 (by omega)

theorem impl_SignOf_eq (n : Int) : impl_SignOf.f n = some (sgn n) := by
  unfold impl_SignOf.f sgn
  by_cases h : n < 0
  · rw [if_pos h, if_pos h]
  · rw [if_neg h, if_neg h]
    by_cases h1 : n > 0
    · rw [if_pos h1, if_pos h1]
    · rw [if_neg h1, if_neg h1]

theorem anyO_const {α : Type} (p : α → Bool) : ∀ l : List α, Go.Proofs.Ytffohdlbkigehaa.Any.anyO (fun x => some (p x)) l = some (l.any p)
  | [] => rfl
  | x :: xs => by rw [Go.Proofs.Ytffohdlbkigehaa.Any.anyO, anyO_const p xs]; rfl
theorem impl_WeighCoins_ev (w l r : List Int) (hl : l.length ≤ 1048576) (hr : r.length ≤ 1048576) : Ev (fun k => impl_WeighCoins.f k w l r) (weigh w l r) := by
  simp only [impl_WeighCoins.f]
  unfold weigh
  have e1 : impl_WeighCoins.b1 w = some (w.any badW) := anyO_const badW w
  have e2 : impl_WeighCoins.b2 w.length (l ++ r) = some ((l ++ r).any (badI w.length)) := anyO_const (badI w.length) (l ++ r)
  have ec : Ev (fun k => slices_Concat_int_int.f k [l, r]) (l ++ r) := evTo (slices_Concat_ev [l, r] (by simp) (by simp [total]; omega)) (by simp)
  refine Ev.bindc e1 (Ev.ite (fun h => Ev.ret (by rw [if_pos (.inr h)])) (fun h => ?_))
  refine Ev.bind ec (Ev.pos rfl (Ev.bindc e2 (Ev.ite (fun h' => Ev.ret (by rw [if_pos (.inl h')])) (fun h' => ?_))))
  rw [if_neg (fun c => c.elim h' h)]
  exact Ev.bindc (impl_SignOf_eq _) (Ev.now _)

theorem laws_eqIntS_l (x0 x1 : List Int) (hl : x0.length = x1.length) (hn : x0.length ≤ 35184372088832) : ∀ (d i : Nat), i + d = x0.length → Ev (fun k => laws_eqIntS.l0 k x0 x1 i) (decide (x0.drop i = x1.drop i)) := by
  intro d
  induction d with
  | zero =>
    intro i hi
    apply Ev.succ
    simp only [laws_eqIntS.l0.eq_2]
    refine Ev.neg (by omega) (Ev.ret ?_)
    rw [List.drop_eq_nil_of_le (by omega), List.drop_eq_nil_of_le (by omega)]; simp
  | succ d ih =>
    intro i hi
    apply Ev.succ
    simp only [laws_eqIntS.l0.eq_2]
    refine Ev.pos (by omega) (Ev.pos (by omega) (Ev.pos (by omega) ?_))
    rw [rd_get x0 i (by omega), rd_get x1 i (by omega), drop_cons x0 i (by omega), drop_cons x1 i (by omega)]
    refine Ev.ite (fun h => ?_) (fun h => ?_)
    · rw [w64 (by omega) (by omega)]
      exact evTo (ih (i + 1) (by omega)) (by simp only [List.cons.injEq, h, true_and])
    · exact Ev.ret (by simp only [List.cons.injEq, h, false_and, decide_false])
theorem laws_eqIntS_ev (x0 x1 : List Int) (hn : x0.length ≤ 35184372088832) : Ev (fun k => laws_eqIntS.f k x0 x1) (decide (x0 = x1)) := by
  simp only [laws_eqIntS.f]
  refine Ev.ite (fun h => ?_) (fun h => Ev.ret ?_)
  · exact evTo (laws_eqIntS_l x0 x1 (by omega) hn x0.length 0 (by omega)) (by simp)
  · symm; rw [decide_eq_false_iff_not]; intro e; rw [e] at h; exact h rfl

theorem laws_eqWeighing_ev (a b c d : List Int) (h1 : a.length ≤ 35184372088832) (h2 : b.length ≤ 35184372088832) : Ev (fun k => laws_eqWeighing.f k a b c d) (decide (a = c ∧ b = d)) := by
  simp only [laws_eqWeighing.f]
  refine Ev.bind (laws_eqIntS_ev a c h1) ?_
  refine Ev.ite (fun h => ?_) (fun h => Ev.ret ?_)
  · have h := of_decide_eq_true h
    refine Ev.bind (laws_eqIntS_ev b d h2) ?_
    refine Ev.ite (fun h' => ?_) (fun h' => Ev.ret ?_)
    · have h' := of_decide_eq_true h'
      exact Ev.ret (by simp [h, h'])
    · have h' : ¬ b = d := fun e => h' (decide_eq_true e)
      simp [h']
  · have h : ¬ a = c := fun e => h (decide_eq_true e)
    simp [h]

end Go.Proofs.Ytffohdlbkigehaa.LemFnExactWeighCoins

/- Lemmas: what each function that this statement reaches computes. -/
import Derived.Test.YtffohdlbkigehaaHOpFnExactBalanceOf
import Derived.Test.YtffohdlbkigehaaBase
import Derived.Test.YtffohdlbkigehaaWordM
set_option linter.unusedVariables false
set_option linter.unusedSimpArgs false
namespace Go.Proofs.Ytffohdlbkigehaa.LemFnExactBalanceOf
open Go.RowKit Go.Proofs.YtffohdlbkigehaaW.PrintWords Go.Proofs.YtffohdlbkigehaaW.PrintLast Go.Proofs.YtffohdlbkigehaaW.PrintMore Go.Proofs.Ytffohdlbkigehaa.HFnExactBalanceOf Go.Proofs.Ytffohdlbkigehaa.Base

theorem laws_szIntS_eq (l : List Int) (a : Int) (hl : l.length ≤ maxLen) (h0 : 0 ≤ a) (h1 : a ≤ 1048576) : laws_szIntS.f l a = some (if (l.length : Int) ≤ a then a - l.length else -1) := by
  unfold maxLen at hl
  unfold laws_szIntS.f
  rw [w64 (by omega) (by omega)]
  by_cases h : (l.length : Int) ≤ a
  · rw [if_neg (by omega), if_pos h]
  · rw [if_pos (by omega), if_neg h]

theorem laws_szWeighing_eq (s c : List Int) (a : Int) (hs : s.length ≤ maxLen) (hc : c.length ≤ maxLen) (h0 : 0 ≤ a) (h1 : a ≤ 1048576) : laws_szWeighing.f s c a = some (if (s.length : Int) + c.length ≤ a then a - s.length - c.length else -1) := by
  unfold laws_szWeighing.f
  rw [laws_szIntS_eq s a hs h0 h1]
  simp only [Option.bind_some]
  by_cases h : (s.length : Int) ≤ a
  · rw [if_pos h, if_neg (by omega), laws_szIntS_eq c _ hc (by omega) (by omega)]
    simp only [Option.bind_some]
    by_cases h' : (c.length : Int) ≤ a - s.length
    · rw [if_pos h', if_neg (by omega), if_pos (by omega)]
    · rw [if_neg h', if_pos (by omega), if_neg (by omega)]
  · rw [if_neg h, if_pos (by omega), if_neg (by omega)]

theorem laws_toIntS_l (x0 : List Int) (hn : x0.length ≤ 35184372088832) : ∀ (d i : Nat) (x3 : List Int), i + d = x0.length → x3.length = x0.length → x3.take i = x0.take i → Ev (fun k => laws_toIntS.l0 k x0 x3 i) x0 := by
  intro d
  induction d with
  | zero =>
    intro i x3 hi hx ht
    apply Ev.succ
    simp only [laws_toIntS.l0.eq_2]
    refine Ev.neg (by omega) (Ev.ret ?_)
    rwa [List.take_of_length_le (by omega), List.take_of_length_le (by omega)] at ht
  | succ d ih =>
    intro i x3 hi hx ht
    apply Ev.succ
    simp only [laws_toIntS.l0.eq_2]
    refine Ev.pos (by omega) (Ev.pos (by omega) (Ev.pos (by omega) ?_))
    rw [w64 (by omega) (by omega), rd_get x0 i (by omega)]
    refine ih (i + 1) _ (by omega) (by simp [hx]) ?_
    rw [take_snoc _ i (by simp; omega), take_snoc x0 i (by omega)]
    simp [List.take_set_of_le, ht]
theorem laws_toIntS_ev (x0 : List Int) (hn : x0.length ≤ 35184372088832) : Ev (fun k => laws_toIntS.f k x0) x0 := by
  simp only [laws_toIntS.f]
  refine Ev.pos (by omega) (Ev.pos (by omega) ?_)
  exact laws_toIntS_l x0 hn x0.length 0 _ (by omega) (by simp) (by simp)

theorem laws_toWeighing_ev (s c : List Int) (hs : s.length ≤ 1048576) (hc : c.length ≤ 1048576) : Ev (fun k => laws_toWeighing.f k s c) (s, c) := by
  simp only [laws_toWeighing.f]
  exact Ev.bind (laws_toIntS_ev s (by omega)) (Ev.bind (laws_toIntS_ev c (by omega)) (Ev.now _))

theorem laws_eqIntS_l (x0 x1 : List Int) (hl : x0.length = x1.length) (hn : x0.length ≤ 35184372088832) : ∀ (d i : Nat), i + d = x0.length → Ev (fun k => laws_eqIntS.l0 k x0 x1 i) (decide (x0.drop i = x1.drop i)) := by
  intro d
  induction d with
  | zero =>
    intro i hi
    apply Ev.succ
    simp only [laws_eqIntS.l0.eq_2]
    refine Ev.neg (by omega) (Ev.ret ?_)
    rw [List.drop_eq_nil_of_le (by omega), List.drop_eq_nil_of_le (by omega)]; simp
  | succ d ih =>
    intro i hi
    apply Ev.succ
    simp only [laws_eqIntS.l0.eq_2]
    refine Ev.pos (by omega) (Ev.pos (by omega) (Ev.pos (by omega) ?_))
    rw [rd_get x0 i (by omega), rd_get x1 i (by omega), drop_cons x0 i (by omega), drop_cons x1 i (by omega)]
    refine Ev.ite (fun h => ?_) (fun h => ?_)
    · rw [w64 (by omega) (by omega)]
      exact evTo (ih (i + 1) (by omega)) (by simp only [List.cons.injEq, h, true_and])
    · exact Ev.ret (by simp only [List.cons.injEq, h, false_and, decide_false])
theorem laws_eqIntS_ev (x0 x1 : List Int) (hn : x0.length ≤ 35184372088832) : Ev (fun k => laws_eqIntS.f k x0 x1) (decide (x0 = x1)) := by
  simp only [laws_eqIntS.f]
  refine Ev.ite (fun h => ?_) (fun h => Ev.ret ?_)
  · exact evTo (laws_eqIntS_l x0 x1 (by omega) hn x0.length 0 (by omega)) (by simp)
  · symm; rw [decide_eq_false_iff_not]; intro e; rw [e] at h; exact h rfl

theorem laws_eqWeighing_ev (a b c d : List Int) (h1 : a.length ≤ 35184372088832) (h2 : b.length ≤ 35184372088832) : Ev (fun k => laws_eqWeighing.f k a b c d) (decide (a = c ∧ b = d)) := by
  simp only [laws_eqWeighing.f]
  refine Ev.bind (laws_eqIntS_ev a c h1) ?_
  refine Ev.ite (fun h => ?_) (fun h => Ev.ret ?_)
  · have h := of_decide_eq_true h
    refine Ev.bind (laws_eqIntS_ev b d h2) ?_
    refine Ev.ite (fun h' => ?_) (fun h' => Ev.ret ?_)
    · have h' := of_decide_eq_true h'
      exact Ev.ret (by simp [h, h'])
    · have h' : ¬ b = d := fun e => h' (decide_eq_true e)
      simp [h']
  · have h : ¬ a = c := fun e => h (decide_eq_true e)
    simp [h]

theorem spec_l1In_eq (a b c : Int) : spec_l1In.f a b c = some (decide (b ≤ a ∧ a ≤ c)) := by
  unfold spec_l1In.f
  by_cases h : b ≤ a
  · rw [if_pos (by omega)]; simp [h]
  · rw [if_neg (by omega)]; simp [h]

theorem spec_LimitOf_l (n : Nat) (hn : n ≤ 30) : ∀ (d i : Nat), i + d = n → Ev (fun k => spec_LimitOf.l0 k n (((3 : Int) ^ i - 1) / 2) i) (((3 : Int) ^ n - 1) / 2) := by
  intro d
  induction d with
  | zero =>
    intro i hi
    apply Ev.succ
    simp only [spec_LimitOf.l0.eq_2]
    refine Ev.neg (by omega) (Ev.ret ?_)
    rw [← hi]; rfl
  | succ d ih =>
    intro i hi
    apply Ev.succ
    simp only [spec_LimitOf.l0.eq_2]
    have h1 := pow3_30 (i := i + 1) (by omega)
    have h2 := pow3_pos i
    have h3 := pow3_lim i
    have h4 := pow3_lim (i + 1)
    rw [pow3_succ] at h1 h4
    refine Ev.pos (by omega) ?_
    rw [w64 (n := _ * _) (by omega) (by omega), w64 (by omega) (by omega), w64 (by omega) (by omega)]
    refine (ih (i + 1) (by omega)).congr (fun k => ?_)
    refine congrArg (fun z => spec_LimitOf.l0 k n z _) ?_
    rw [pow3_succ]; omega
theorem spec_LimitOf_ev (n : Int) : Ev (fun k => spec_LimitOf.f k n) (lim n) := by
  simp only [spec_LimitOf.f, spec_l1In_eq, Option.bind_some, decide_eq_true_eq]
  unfold lim
  refine Ev.ite (fun h => ?_) (fun h => Ev.ret (by rw [if_neg h]))
  obtain ⟨m, rfl⟩ : ∃ m : Nat, n = m := ⟨n.toNat, by omega⟩
  rw [if_pos h]
  exact spec_LimitOf_l m (by omega) m 0 (by omega)

theorem spec_LengthOf_l (n : Int) : ∀ (d i : Nat), i + d = 31 → Ev (fun k => spec_LengthOf.l0 k n i) (lenFrom n i d) := by
  intro d
  induction d with
  | zero =>
    intro i hi
    apply Ev.succ
    simp only [spec_LengthOf.l0.eq_2]
    exact Ev.neg (by omega) (Ev.now _)
  | succ d ih =>
    intro i hi
    apply Ev.succ
    simp only [spec_LengthOf.l0.eq_2]
    rw [lenFrom]
    have h1 := lim_nonneg i
    have h2 := lim_le i
    refine Ev.pos (by omega) (Ev.bind (spec_LimitOf_ev i) (Ev.bind (spec_LimitOf_ev i) ?_))
    rw [w64 (n := -lim i) (by omega) (by omega)]
    refine Ev.bindc (spec_l1In_eq _ _ _) ?_
    refine Ev.ite (fun c => ?_) (fun c => ?_)
    · rw [if_pos (show fitsB n i = true from c)]; exact Ev.now _
    · rw [if_neg (show ¬ fitsB n i = true from c), w64 (by omega) (by omega)]
      exact ih (i + 1) (by omega)
theorem spec_LengthOf_ev (n : Int) : Ev (fun k => spec_LengthOf.f k n) (lenOf n) := by
  simp only [spec_LengthOf.f]
  exact spec_LengthOf_l n 30 1 (by omega)

theorem spec_SignOf_eq (n : Int) : spec_SignOf.f n = some (sgn n) := by
  unfold spec_SignOf.f sgn
  by_cases h : n < 0
  · rw [if_pos h, if_pos h]
  · rw [if_neg h, if_neg h]
    by_cases h1 : n > 0
    · rw [if_pos h1, if_pos h1]
    · rw [if_neg h1, if_neg h1]

theorem spec_l2Value_l (x : List Int) (hn : x.length ≤ 30) (ht : ∀ a ∈ x, -1 ≤ a ∧ a ≤ 1) : ∀ i : Nat, i ≤ x.length → Ev (fun k => spec_l2Value.l0 k x (val (x.drop i)) ((i : Int) - 1)) (val x) := by
  intro i
  induction i with
  | zero =>
    intro _
    apply Ev.succ
    simp only [spec_l2Value.l0.eq_2]
    exact Ev.neg (by omega) (Ev.ret (by simp))
  | succ i ih =>
    intro hi
    apply Ev.succ
    simp only [spec_l2Value.l0.eq_2]
    refine Ev.pos (by omega) (Ev.pos (by omega) (Ev.pos (by omega) ?_))
    have hr := val_range (x.drop (i + 1)) (fun a ha => ht a (List.mem_of_mem_drop ha))
    have hl := L3_30 (i := (x.drop (i + 1)).length) (by simp; omega)
    have hx := ht x[i] (List.getElem_mem _)
    have e1 : ((i + 1 : Nat) : Int) - 1 = (i : Int) := by omega
    rw [e1, rd_get x i (by omega), w64 (n := 3 * val (x.drop (i + 1))) (by omega) (by omega), w64 (by omega) (by omega), w64 (n := (i : Int) - 1) (by omega) (by omega)]
    have e2 : 3 * val (x.drop (i + 1)) + x[i] = val (x.drop i) := by
      rw [drop_cons x i (by omega), val]; omega
    rw [e2]
    exact ih (by omega)
theorem spec_l2Value_ev (x : List Int) (hn : x.length ≤ 30) (ht : ∀ a ∈ x, -1 ≤ a ∧ a ≤ 1) : Ev (fun k => spec_l2Value.f k x) (val x) := by
  simp only [spec_l2Value.f]
  rw [w64 (by omega) (by omega)]
  have h := spec_l2Value_l x hn ht x.length (Nat.le_refl _)
  rw [List.drop_length] at h
  exact h

def p3 : List Int → Int
  | [] => 0
  | i :: is => 3 ^ i.toNat + p3 is
theorem p3_nonneg : ∀ l, 0 ≤ p3 l
  | [] => by simp [p3]
  | i :: is => by have := p3_nonneg is; have := pow3_pos i.toNat; simp only [p3]; omega
theorem bad_append : ∀ (l r s : List Int), impl_BalanceOf.bad s (l ++ r) = (impl_BalanceOf.bad s l || impl_BalanceOf.bad (s ++ l) r)
  | [], r, s => by simp [impl_BalanceOf.bad]
  | i :: l, r, s => by
    simp only [List.cons_append, impl_BalanceOf.bad, bad_append l r (s ++ [i])]
    simp [Bool.or_assoc]
theorem bad_range : ∀ (l s : List Int), impl_BalanceOf.bad s l = false → ∀ x ∈ l, 0 ≤ x ∧ x < 30
  | [], _, _ => by simp
  | i :: l, s, h => by
    simp only [impl_BalanceOf.bad, Bool.or_eq_false_iff, decide_eq_false_iff_not] at h
    intro x hx
    rcases List.mem_cons.1 hx with rfl | hx
    · omega
    · exact bad_range l _ h.2 x hx
theorem val_set : ∀ (w : List Int) (i : Nat) (v : Int) (h : i < w.length), val (w.set i v) = val w + (v - w[i]) * 3 ^ i
  | [], i, v, h => by simp at h
  | a :: w, 0, v, h => by simp [val]; omega
  | a :: w, i + 1, v, h => by
    have ih := val_set w i v (by simpa using h)
    simp only [List.set_cons_succ, val, ih, List.getElem_cons_succ, Int.pow_succ]
    generalize (3 : Int) ^ i = p
    have : (v - w[i]'(by simpa using h)) * (p * 3) = 3 * ((v - w[i]'(by simpa using h)) * p) := by
      rw [Int.mul_comm p 3, ← Int.mul_assoc, ← Int.mul_assoc, Int.mul_comm _ 3]
    omega
/-- What stands where: exactly the places that were seen are taken. -/
def marks (tr seen : List Int) : Prop := tr.length = 30 ∧ (∀ j : Int, 0 ≤ j → j < 30 → (rd tr j = 0 ↔ seen.contains j = false)) ∧ ∀ a ∈ tr, -1 ≤ a ∧ a ≤ 1
theorem marks_zero : marks (List.replicate 30 0) [] := by
  refine ⟨by simp, fun j h0 h1 => ?_, fun a ha => ?_⟩
  · have h2 : j.toNat < 30 := by omega
    have e := rd_get (List.replicate 30 0) j.toNat (by simpa using h2)
    rw [show ((j.toNat : Nat) : Int) = j by omega, List.getElem_replicate] at e
    simp only [e, true_iff]
    rfl
  · have := List.eq_of_mem_replicate ha
    omega
theorem put_spec (v : Int) (hv : v = 1 ∨ v = -1) : ∀ (l seen tr : List Int), marks tr seen →
    (impl_BalanceOf.bad seen l = true → spec_BalanceOf.put v l tr = none) ∧ (impl_BalanceOf.bad seen l = false → ∃ tr', spec_BalanceOf.put v l tr = some tr' ∧ marks tr' (seen ++ l) ∧ val tr' = val tr + v * p3 l)
  | [], seen, tr, hm => ⟨by simp [impl_BalanceOf.bad], fun _ => ⟨tr, rfl, by simpa using hm, by simp [p3]⟩⟩
  | i :: l, seen, tr, hm => by
    obtain ⟨hl, hs, ht⟩ := hm
    simp only [impl_BalanceOf.bad, spec_BalanceOf.put]
    by_cases h0 : i < 0
    · exact ⟨fun _ => if_neg (by omega), by simp [h0]⟩
    · by_cases h1 : 30 ≤ i
      · exact ⟨fun _ => if_neg (by omega), by simp [h1]⟩
      · have hsi := hs i (by omega) (by omega)
        cases hc : seen.contains i with
        | true => exact ⟨fun _ => if_neg (fun h => by rw [hsi.1 h.2.2] at hc; exact absurd hc (by simp)), by simp⟩
        | false =>
          have hz := hsi.2 hc
          have hil : i.toNat < tr.length := by omega
          have hget : tr[i.toNat] = 0 := by
            have e := rd_get tr i.toNat hil
            rw [show ((i.toNat : Nat) : Int) = i by omega, hz] at e
            exact e.symm
          have hm1 : marks (tr.set i.toNat v) (seen ++ [i]) := by
            refine ⟨by simpa using hl, fun j j0 j1 => ?_, fun a ha => ?_⟩
            · have hjl : j.toNat < tr.length := by omega
              have e := rd_get (tr.set i.toNat v) j.toNat (by simpa using hjl)
              rw [show ((j.toNat : Nat) : Int) = j by omega, List.getElem_set] at e
              by_cases hij : i = j
              · subst hij
                rw [if_pos rfl] at e
                rw [e]
                have hv0 : v ≠ 0 := by omega
                simp [hv0]
              · rw [if_neg (by omega)] at e
                have e2 := rd_get tr j.toNat hjl
                rw [show ((j.toNat : Nat) : Int) = j by omega] at e2
                rw [e, ← e2, hs j j0 j1]
                have hji : ¬ j = i := fun h => hij h.symm
                simp [hji]
            · rcases List.mem_or_eq_of_mem_set ha with h | h
              · exact ht a h
              · omega
          obtain ⟨ih1, ih2⟩ := put_spec v hv l (seen ++ [i]) (tr.set i.toNat v) hm1
          rw [if_pos ⟨by omega, by omega, hz⟩]
          refine ⟨fun hb => ih1 (by simpa [h0, h1] using hb), fun hb => ?_⟩
          obtain ⟨tr', e1, e2, e3⟩ := ih2 (by simpa [h0, h1] using hb)
          refine ⟨tr', e1, by simpa using e2, ?_⟩
          rw [e3, val_set tr i.toNat v hil, hget, p3, Int.mul_add, Int.sub_zero]
          omega
def balB (l r : List Int) (n : Int) : Int × Bool := if lenOf n = 0 ∨ impl_BalanceOf.bad [] (l ++ r) = true then (0, false) else (sgn (n + p3 l - p3 r), true)
/-- Where all is good: the trits, their value, and how great the sums may be. -/
theorem good_balance (l r : List Int) (h : impl_BalanceOf.bad [] (l ++ r) = false) : ∃ tr, (spec_BalanceOf.put 1 l (List.replicate 30 0)).bind (spec_BalanceOf.put (-1) r) = some tr ∧ tr.length = 30 ∧ (∀ a ∈ tr, -1 ≤ a ∧ a ≤ 1) ∧ val tr = p3 l - p3 r ∧ p3 l ≤ 102945566047324 ∧ p3 r ≤ 205891132094648 := by
  rw [bad_append, Bool.or_eq_false_iff] at h
  obtain ⟨t1, a1, a2, a3⟩ := (put_spec 1 (.inl rfl) l [] _ marks_zero).2 h.1
  obtain ⟨t2, b1, b2, b3⟩ := (put_spec (-1) (.inr rfl) r _ t1 a2).2 h.2
  have c1 := val_range t1 a2.2.2
  have c2 := val_range t2 b2.2.2
  rw [a2.1] at c1
  rw [b2.1] at c2
  have c3 := L3_30 (i := 30) (by omega)
  rw [val_replicate] at a3
  exact ⟨t2, by rw [a1]; exact b1, b2.1, b2.2.2, by omega, by omega, by omega⟩
theorem bad_balance (l r : List Int) (h : impl_BalanceOf.bad [] (l ++ r) = true) : (spec_BalanceOf.put 1 l (List.replicate 30 0)).bind (spec_BalanceOf.put (-1) r) = none := by
  rw [bad_append, Bool.or_eq_true] at h
  cases h1 : impl_BalanceOf.bad [] l with
  | true => rw [(put_spec 1 (.inl rfl) l [] _ marks_zero).1 h1]; rfl
  | false =>
    obtain ⟨t1, a1, a2, a3⟩ := (put_spec 1 (.inl rfl) l [] _ marks_zero).2 h1
    rw [h1] at h
    rw [a1]
    exact (put_spec (-1) (.inr rfl) r _ t1 a2).1 (by simpa using h)
theorem lenOf_bound (n : Int) (h : ¬ lenOf n = 0) : -102945566047324 ≤ n ∧ n ≤ 102945566047324 := by
  rcases lenOf_spec n with h1 | ⟨m, _, _, h2, h3, _⟩
  · exact absurd h1.1 h
  · have := L3_30 h2
    omega

theorem spec_BalanceOf_ev (l r : List Int) (n : Int) : Ev (fun k => spec_BalanceOf.f k l r n) (balB l r n) := by
  simp only [spec_BalanceOf.f]
  unfold balB
  refine Ev.bind (spec_LengthOf_ev n) (Ev.ite (fun h => Ev.ret (by rw [if_pos (.inl h)])) (fun h => ?_))
  cases hb : impl_BalanceOf.bad [] (l ++ r) with
  | true =>
    rw [bad_balance l r hb, if_pos (.inr rfl)]
    exact Ev.now _
  | false =>
    obtain ⟨tr, h1, h2, h3, h4, h5, h6⟩ := good_balance l r hb
    rw [h1, if_neg (by simp [h])]
    have hn := lenOf_bound n h
    have p1 := p3_nonneg l
    have p2 := p3_nonneg r
    refine Ev.bind (spec_l2Value_ev tr (by omega) h3) ?_
    rw [h4, w64 (by omega) (by omega), show n + (p3 l - p3 r) = n + p3 l - p3 r by omega]
    exact Ev.bindc (spec_SignOf_eq _) (Ev.now _)

theorem slices_Grow_eq (n : Int) (h0 : 0 ≤ n) (h : n ≤ 17592186044415) : slices_Grow_int_int.f [] n = some [] := by
  unfold slices_Grow_int_int.f; rw [if_pos ⟨rfl, h0, h⟩]
def total : List (List Int) → Nat
  | [] => 0
  | a :: l => a.length + total l
theorem total_join (l : List (List Int)) : l.flatten.length = total l := by
  induction l with
  | nil => rfl
  | cons a l ih => rw [List.flatten_cons, List.length_append, ih]; rfl
theorem total_append (a b : List (List Int)) : total (a ++ b) = total a + total b := by
  induction a with
  | nil => simp [total]
  | cons x a ih => rw [List.cons_append, total, total, ih]; omega
theorem rdll_get (xs : List (List Int)) (i : Nat) (h : i < xs.length) : rd_L1 xs (i : Int) = xs[i] := by
  simp [rd_L1, List.getD_eq_getElem?_getD, List.getElem?_eq_getElem h]
theorem total_take_le (l : List (List Int)) (i : Nat) : total (l.take i) ≤ total l := by
  have : total l = total (l.take i) + total (l.drop i) := by rw [← total_append, List.take_append_drop]
  omega
theorem slices_Concat_l1 (l : List (List Int)) (hn : l.length ≤ 1000000000) (ht : total l ≤ 1000000000000) : ∀ (d i : Nat), i + d = l.length → Ev (fun k => slices_Concat_int_int.l1 k (l.take i).flatten l l.length i) l.flatten := by
  intro d
  induction d with
  | zero =>
    intro i hi
    apply Ev.succ
    simp only [slices_Concat_int_int.l1.eq_2]
    exact Ev.neg (by omega) (Ev.ret (by rw [List.take_of_length_le (by omega)]))
  | succ d ih =>
    intro i hi
    apply Ev.succ
    simp only [slices_Concat_int_int.l1.eq_2]
    have h1 := ih (i + 1) (by omega)
    have h2 := total_take_le l (i + 1)
    rw [take_snoc l i (by omega)] at h1 h2
    rw [List.flatten_append, List.flatten_cons, List.flatten_nil, List.append_nil] at h1
    rw [total_append] at h2
    simp only [total] at h2
    rw [rdll_get l i (by omega), w64 (by omega) (by omega)]
    refine Ev.pos (by omega) (Ev.pos (by omega) (Ev.pos (by omega) (Ev.pos ?_ h1)))
    rw [total_join]; omega
theorem slices_Concat_l0 (l : List (List Int)) (hn : l.length ≤ 1000000000) (ht : total l ≤ 1000000000000) : ∀ (d i : Nat), i + d = l.length → Ev (fun k => slices_Concat_int_int.l0 k l (total (l.take i) : Nat) l l.length i) l.flatten := by
  intro d
  induction d with
  | zero =>
    intro i hi
    apply Ev.succ
    simp only [slices_Concat_int_int.l0.eq_2]
    have h2 := total_take_le l i
    refine Ev.neg (by omega) (Ev.bindc (slices_Grow_eq _ (by omega) (by omega)) ?_)
    exact slices_Concat_l1 l hn ht l.length 0 (by omega)
  | succ d ih =>
    intro i hi
    apply Ev.succ
    simp only [slices_Concat_int_int.l0.eq_2]
    have h1 := ih (i + 1) (by omega)
    have h2 := total_take_le l (i + 1)
    rw [take_snoc l i (by omega), total_append] at h1 h2
    simp only [total] at h1 h2
    rw [rdll_get l i (by omega), w64 (n := (i : Int) + 1) (by omega) (by omega), w64 (by omega) (by omega)]
    refine Ev.pos (by omega) (Ev.pos (by omega) (Ev.pos (by omega) (Ev.neg (by omega) ?_)))
    have e : ((total (l.take i) + (l[i].length + 0) : Nat) : Int) = (total (l.take i) : Int) + (l[i].length : Int) := by omega
    rw [e] at h1
    exact h1
theorem slices_Concat_ev (l : List (List Int)) (hn : l.length ≤ 1000000000) (ht : total l ≤ 1000000000000) : Ev (fun k => slices_Concat_int_int.f k l) l.flatten := by
  simp only [slices_Concat_int_int.f]
  exact slices_Concat_l0 l hn ht l.length 0 (by omega)

theorem impl_SignOf_eq (n : Int) : impl_SignOf.f n = some (sgn n) := by
  unfold impl_SignOf.f sgn
  by_cases h : n < 0
  · rw [if_pos h, if_pos h]
  · rw [if_neg h, if_neg h]
    by_cases h1 : n > 0
    · rw [if_pos h1, if_pos h1]
    · rw [if_neg h1, if_neg h1]

theorem impl_power_l (n : Nat) (hn : n ≤ 30) : ∀ (d i : Nat), i + d = n → Ev (fun k => impl_power.l0 k ((3 : Int) ^ i) n i) ((3 : Int) ^ n) := by
  intro d
  induction d with
  | zero =>
    intro i hi
    apply Ev.succ
    simp only [impl_power.l0.eq_2]
    refine Ev.neg (by omega) (Ev.ret ?_)
    rw [← hi]; rfl
  | succ d ih =>
    intro i hi
    apply Ev.succ
    simp only [impl_power.l0.eq_2]
    have h1 := pow3_30 (i := i + 1) (by omega)
    have h2 := pow3_pos i
    rw [pow3_succ] at h1
    refine Ev.pos (by omega) ?_
    rw [w64 (by omega) (by omega), w64 (by omega) (by omega), Int.mul_comm, ← pow3_succ]
    exact ih (i + 1) (by omega)
theorem impl_power_ev (n : Int) (h0 : 0 ≤ n) (hn : n ≤ 30) : Ev (fun k => impl_power.f k n) ((3 : Int) ^ n.toNat) := by
  obtain ⟨m, rfl⟩ : ∃ m : Nat, n = m := ⟨n.toNat, by omega⟩
  exact impl_power_l m (by omega) m 0 (by omega)

theorem impl_LimitOf_ev (k : Int) : Ev (fun n => impl_LimitOf.f n k) (lim k) := by
  simp only [impl_LimitOf.f]
  unfold lim
  refine Ev.ite (fun h => Ev.ret (by rw [if_neg (by omega)])) (fun h => Ev.ite (fun h1 => Ev.ret (by rw [if_neg (by omega)])) (fun h1 => ?_))
  rw [if_pos (by omega)]
  refine Ev.bind (impl_power_ev k (by omega) (by omega)) (Ev.ret ?_)
  have h2 := pow3_30 (i := k.toNat) (by omega)
  have h3 := pow3_pos k.toNat
  rw [w64 (n := _ - 1) (by omega) (by omega), Int.tdiv_eq_ediv_of_nonneg (by omega), w64 (by omega) (by omega)]

theorem impl_fits_ev (n k : Int) : Ev (fun m => impl_fits.f m n k) (fitsB n k) := by
  simp only [impl_fits.f]
  have h1 := lim_nonneg k
  have h2 := lim_le k
  refine Ev.bind (impl_LimitOf_ev k) ?_
  rw [w64 (by omega) (by omega)]
  refine Ev.ite (fun h => Ev.bind (impl_LimitOf_ev k) (Ev.ret ?_)) (fun h => Ev.ret ?_)
  · unfold fitsB; exact decide_eq_decide.2 (by omega)
  · unfold fitsB; rw [decide_eq_false]; omega

theorem impl_LengthOf_l (n : Int) : ∀ (d i : Nat), i + d = 31 → Ev (fun k => impl_LengthOf.l0 k n i) (lenFrom n i d) := by
  intro d
  induction d with
  | zero =>
    intro i hi
    apply Ev.succ
    simp only [impl_LengthOf.l0.eq_2]
    exact Ev.neg (by omega) (Ev.now _)
  | succ d ih =>
    intro i hi
    apply Ev.succ
    simp only [impl_LengthOf.l0.eq_2]
    rw [lenFrom]
    refine Ev.pos (by omega) (Ev.bind (impl_fits_ev n i) ?_)
    refine Ev.ite (fun c => ?_) (fun c => ?_)
    · rw [if_pos c]; exact Ev.now _
    · rw [if_neg c, w64 (by omega) (by omega)]
      exact ih (i + 1) (by omega)
theorem impl_LengthOf_ev (n : Int) : Ev (fun k => impl_LengthOf.f k n) (lenOf n) := by
  simp only [impl_LengthOf.f]
  exact impl_LengthOf_l n 30 1 (by omega)

theorem impl_BalanceOf_s1 : ∀ (l : List Int) (s : Int), (∀ x ∈ l, 0 ≤ x ∧ x < 30) → -1000000000000000 ≤ s → s + p3 l ≤ 1000000000000000 → Ev (fun k => impl_BalanceOf.s1 k l s) (s + p3 l)
  | [], s, _, _, _ => Ev.ret (by simp [p3])
  | i :: l, s, h, h0, h1 => by
    have hi := h i (by simp)
    have hp := p3_nonneg l
    have hq := pow3_pos i.toNat
    simp only [p3] at h1
    simp only [impl_BalanceOf.s1]
    refine Ev.bind (impl_power_ev i hi.1 (by omega)) ?_
    rw [w64 (by omega) (by omega)]
    exact evTo (impl_BalanceOf_s1 l (s + 3 ^ i.toNat) (fun x hx => h x (by simp [hx])) (by omega) (by omega)) (by simp only [p3]; omega)
theorem impl_BalanceOf_s2 : ∀ (l : List Int) (s : Int), (∀ x ∈ l, 0 ≤ x ∧ x < 30) → s ≤ 1000000000000000 → -1000000000000000 ≤ s - p3 l → Ev (fun k => impl_BalanceOf.s2 k l s) (s - p3 l)
  | [], s, _, _, _ => Ev.ret (by simp [p3])
  | i :: l, s, h, h0, h1 => by
    have hi := h i (by simp)
    have hp := p3_nonneg l
    have hq := pow3_pos i.toNat
    simp only [p3] at h1
    simp only [impl_BalanceOf.s2]
    refine Ev.bind (impl_power_ev i hi.1 (by omega)) ?_
    rw [w64 (by omega) (by omega)]
    exact evTo (impl_BalanceOf_s2 l (s - 3 ^ i.toNat) (fun x hx => h x (by simp [hx])) (by omega) (by omega)) (by simp only [p3]; omega)
theorem impl_BalanceOf_ev (l r : List Int) (hl : l.length ≤ 1048576) (hr : r.length ≤ 1048576) (n : Int) : Ev (fun k => impl_BalanceOf.f k l r n) (balB l r n) := by
  simp only [impl_BalanceOf.f]
  unfold balB
  have ec : Ev (fun k => slices_Concat_int_int.f k [l, r]) (l ++ r) := evTo (slices_Concat_ev [l, r] (by simp) (by simp [total]; omega)) (by simp)
  refine Ev.bind (impl_LengthOf_ev n) (Ev.ite (fun h => Ev.ret (by rw [if_pos (.inl h)])) (fun h => Ev.bind ec (Ev.pos rfl ?_)))
  refine Ev.ite (fun hb => Ev.ret (by rw [if_pos (.inr hb)])) (fun hb => ?_)
  rw [if_neg (by simp [h, hb])]
  replace hb : impl_BalanceOf.bad [] (l ++ r) = false := by simpa using hb
  obtain ⟨tr, h1, h2, h3, h4, h5, h6⟩ := good_balance l r hb
  have hin := bad_range _ _ hb
  have hn := lenOf_bound n h
  have p1 := p3_nonneg l
  have p2 := p3_nonneg r
  refine Ev.bind (impl_BalanceOf_s1 l n (fun x hx => hin x (by simp [hx])) (by omega) (by omega)) (Ev.bind (impl_BalanceOf_s2 r _ (fun x hx => hin x (by simp [hx])) (by omega) (by omega)) ?_)
  exact Ev.bindc (impl_SignOf_eq _) (Ev.now _)

end Go.Proofs.Ytffohdlbkigehaa.LemFnExactBalanceOf

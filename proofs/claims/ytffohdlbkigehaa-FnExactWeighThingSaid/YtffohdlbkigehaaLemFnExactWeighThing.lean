/- Lemmas: what each function that this statement reaches computes. -/
import Derived.Test.YtffohdlbkigehaaPFnExactWeighThingx4
import Derived.Test.YtffohdlbkigehaaBase
import Derived.Test.YtffohdlbkigehaaWordM
set_option linter.unusedVariables false
set_option linter.unusedSimpArgs false
namespace Go.Proofs.Ytffohdlbkigehaa.LemFnExactWeighThing
open Go.RowKit Go.Proofs.YtffohdlbkigehaaW.PrintWords Go.Proofs.YtffohdlbkigehaaW.PrintLast Go.Proofs.YtffohdlbkigehaaW.PrintMore Go.Proofs.Ytffohdlbkigehaa.PFnExactWeighThing Go.Proofs.Ytffohdlbkigehaa.Base

theorem laws_eqIntS_l (x0 x1 : List Int) (hl : x0.length = x1.length) (hn : x0.length ≤ 35184372088832) : ∀ (d i : Nat), i + d = x0.length → Ev (fun k => laws_eqIntS.l0 k x0 x1 i) (decide (x0.drop i = x1.drop i)) := by
  intro d
  induction d with
  | zero =>
    intro i hi
    apply Ev.succ
    simp only [laws_eqIntS.l0.eq_2]
    refine Ev.neg (by omega) (Ev.ret ?_)
    rw [List.drop_eq_nil_of_le (by omega), List.drop_eq_nil_of_le (by omega)]; simp
  | succ d ih =>
    intro i hi
    apply Ev.succ
    simp only [laws_eqIntS.l0.eq_2]
    refine Ev.pos (by omega) (Ev.pos (by omega) (Ev.pos (by omega) ?_))
    rw [rd_get x0 i (by omega), rd_get x1 i (by omega), drop_cons x0 i (by omega), drop_cons x1 i (by omega)]
    refine Ev.ite (fun h => ?_) (fun h => ?_)
    · rw [w64 (by omega) (by omega)]
      exact evTo (ih (i + 1) (by omega)) (by simp only [List.cons.injEq, h, true_and])
    · exact Ev.ret (by simp only [List.cons.injEq, h, false_and, decide_false])
theorem laws_eqIntS_ev (x0 x1 : List Int) (hn : x0.length ≤ 35184372088832) : Ev (fun k => laws_eqIntS.f k x0 x1) (decide (x0 = x1)) := by
  simp only [laws_eqIntS.f]
  refine Ev.ite (fun h => ?_) (fun h => Ev.ret ?_)
  · exact evTo (laws_eqIntS_l x0 x1 (by omega) hn x0.length 0 (by omega)) (by simp)
  · symm; rw [decide_eq_false_iff_not]; intro e; rw [e] at h; exact h rfl

theorem laws_eqWeighing_ev (a b c d : List Int) (h1 : a.length ≤ 35184372088832) (h2 : b.length ≤ 35184372088832) : Ev (fun k => laws_eqWeighing.f k a b c d) (decide (a = c ∧ b = d)) := by
  simp only [laws_eqWeighing.f]
  refine Ev.bind (laws_eqIntS_ev a c h1) ?_
  refine Ev.ite (fun h => ?_) (fun h => Ev.ret ?_)
  · have h := of_decide_eq_true h
    refine Ev.bind (laws_eqIntS_ev b d h2) ?_
    refine Ev.ite (fun h' => ?_) (fun h' => Ev.ret ?_)
    · have h' := of_decide_eq_true h'
      exact Ev.ret (by simp [h, h'])
    · have h' : ¬ b = d := fun e => h' (decide_eq_true e)
      simp [h']
  · have h : ¬ a = c := fun e => h (decide_eq_true e)
    simp [h]

theorem spec_l1In_eq (a b c : Int) : spec_l1In.f a b c = some (decide (b ≤ a ∧ a ≤ c)) := by
  unfold spec_l1In.f
  by_cases h : b ≤ a
  · rw [if_pos (by omega)]; simp [h]
  · rw [if_neg (by omega)]; simp [h]

theorem spec_LimitOf_l (n : Nat) (hn : n ≤ 30) : ∀ (d i : Nat), i + d = n → Ev (fun k => spec_LimitOf.l0 k n (((3 : Int) ^ i - 1) / 2) i) (((3 : Int) ^ n - 1) / 2) := by
  intro d
  induction d with
  | zero =>
    intro i hi
    apply Ev.succ
    simp only [spec_LimitOf.l0.eq_2]
    refine Ev.neg (by omega) (Ev.ret ?_)
    rw [← hi]; rfl
  | succ d ih =>
    intro i hi
    apply Ev.succ
    simp only [spec_LimitOf.l0.eq_2]
    have h1 := pow3_30 (i := i + 1) (by omega)
    have h2 := pow3_pos i
    have h3 := pow3_lim i
    have h4 := pow3_lim (i + 1)
    rw [pow3_succ] at h1 h4
    refine Ev.pos (by omega) ?_
    rw [w64 (n := _ * _) (by omega) (by omega), w64 (by omega) (by omega), w64 (by omega) (by omega)]
    refine (ih (i + 1) (by omega)).congr (fun k => ?_)
    refine congrArg (fun z => spec_LimitOf.l0 k n z _) ?_
    rw [pow3_succ]; omega
theorem spec_LimitOf_ev (n : Int) : Ev (fun k => spec_LimitOf.f k n) (lim n) := by
  simp only [spec_LimitOf.f, spec_l1In_eq, Option.bind_some, decide_eq_true_eq]
  unfold lim
  refine Ev.ite (fun h => ?_) (fun h => Ev.ret (by rw [if_neg h]))
  obtain ⟨m, rfl⟩ : ∃ m : Nat, n = m := ⟨n.toNat, by omega⟩
  rw [if_pos h]
  exact spec_LimitOf_l m (by omega) m 0 (by omega)

theorem spec_LengthOf_l (n : Int) : ∀ (d i : Nat), i + d = 31 → Ev (fun k => spec_LengthOf.l0 k n i) (lenFrom n i d) := by
  intro d
  induction d with
  | zero =>
    intro i hi
    apply Ev.succ
    simp only [spec_LengthOf.l0.eq_2]
    exact Ev.neg (by omega) (Ev.now _)
  | succ d ih =>
    intro i hi
    apply Ev.succ
    simp only [spec_LengthOf.l0.eq_2]
    rw [lenFrom]
    have h1 := lim_nonneg i
    have h2 := lim_le i
    refine Ev.pos (by omega) (Ev.bind (spec_LimitOf_ev i) (Ev.bind (spec_LimitOf_ev i) ?_))
    rw [w64 (n := -lim i) (by omega) (by omega)]
    refine Ev.bindc (spec_l1In_eq _ _ _) ?_
    refine Ev.ite (fun c => ?_) (fun c => ?_)
    · rw [if_pos (show fitsB n i = true from c)]; exact Ev.now _
    · rw [if_neg (show ¬ fitsB n i = true from c), w64 (by omega) (by omega)]
      exact ih (i + 1) (by omega)
theorem spec_LengthOf_ev (n : Int) : Ev (fun k => spec_LengthOf.f k n) (lenOf n) := by
  simp only [spec_LengthOf.f]
  exact spec_LengthOf_l n 30 1 (by omega)

theorem spec_l2Word_l (k : Nat) (hk : k ≤ 30) : ∀ (d i : Nat) (n : Int) (o : List Int), i + d = k → o.length = i → -100000000000000000 ≤ n → n ≤ 100000000000000000 → Ev (fun m => spec_l2Word.l0 m n k o i) (o ++ word d n) := by
  intro d
  induction d with
  | zero =>
    intro i n o hi ho h0 h1
    apply Ev.succ
    simp only [spec_l2Word.l0.eq_2]
    exact Ev.neg (by omega) (Ev.ret (by simp [word]))
  | succ d ih =>
    intro i n o hi ho h0 h1
    apply Ev.succ
    simp only [spec_l2Word.l0.eq_2]
    have ht : Int.tmod n 3 = if 0 ≤ n then n % 3 else -((-n) % 3) := by
      split
      · exact Int.tmod_eq_emod_of_nonneg (by omega)
      · have h : Int.tmod (-n) 3 = (-n) % 3 := Int.tmod_eq_emod_of_nonneg (by omega)
        rw [Int.neg_tmod] at h; omega
    generalize hr : Int.tmod n 3 = r at *
    have h2 : -2 ≤ r ∧ r ≤ 2 ∧ (r - n) % 3 = 0 := by split at ht <;> omega
    have next : ∀ s : Int, s = (n + 1) % 3 - 1 → Ev (fun m => spec_l2Word.l0 m (wrap64 (Int.tdiv (wrap64 (n - s)) 3)) k (o ++ [s]) (wrap64 ((i : Int) + 1))) (o ++ word (d + 1) n) := by
      intro s hs
      have e : Int.tdiv (n - s) 3 = (n + 1) / 3 := by
        rw [Int.tdiv_eq_ediv_of_dvd (Int.dvd_of_emod_eq_zero (by omega))]; omega
      rw [w64 (n := n - s) (by omega) (by omega), e, w64 (by omega) (by omega), w64 (by omega) (by omega)]
      refine evTo (ih (i + 1) ((n + 1) / 3) (o ++ [s]) (by omega) (by simp [ho]) (by omega) (by omega)) ?_
      rw [word, hs]; simp
    rw [w64 (n := r - 3) (by omega) (by omega), w64 (n := r + 3) (by omega) (by omega)]
    refine Ev.pos (by omega) (Ev.ite (fun c => Ev.neg (by omega) (Ev.pos (by omega) (next _ (by omega)))) (fun c => Ev.ite (fun c1 => Ev.pos (by omega) (next _ (by omega))) (fun c1 => Ev.pos (by omega) (next _ (by omega)))))
theorem spec_l2Word_ev (n : Int) (k : Nat) (hk : k ≤ 30) (h0 : -100000000000000000 ≤ n) (h1 : n ≤ 100000000000000000) : Ev (fun m => spec_l2Word.f m n k) (word k n) := by
  simp only [spec_l2Word.f]
  exact spec_l2Word_l k hk k 0 n [] (by omega) rfl h0 h1

theorem spec_WeighThing_l (w : List Int) (hw : w.length ≤ 30) : ∀ (d i : Nat) (L R : List Int), i + d = w.length → L.length ≤ i → R.length ≤ i → Ev (fun k => spec_WeighThing.l0 k w w.length i L R) (L ++ idx (-1) (w.drop i) i, R ++ idx 1 (w.drop i) i, true) := by
  intro d
  induction d with
  | zero =>
    intro i L R hi hL hR
    apply Ev.succ
    simp only [spec_WeighThing.l0.eq_2]
    refine Ev.neg (by omega) (Ev.ret ?_)
    rw [List.drop_eq_nil_of_le (by omega)]; simp [idx]
  | succ d ih =>
    intro i L R hi hL hR
    apply Ev.succ
    simp only [spec_WeighThing.l0.eq_2, Option.bind_some]
    rw [rd_get w i (by omega), drop_cons w i (by omega), w64 (by omega) (by omega), idx, idx]
    have e : (i : Int) + 1 = ((i + 1 : Nat) : Int) := by omega
    rw [e]
    refine Ev.pos (by omega) (Ev.pos (by omega) (Ev.pos (by omega) ?_))
    refine Ev.ite (fun c => ?_) (fun c => Ev.ite (fun c1 => ?_) (fun c1 => ?_))
    · refine Ev.pos (by omega) (Ev.neg (by omega) (evTo (ih (i + 1) (L ++ [(i : Int)]) R (by omega) (by simp; omega) (by omega)) ?_))
      rw [if_pos c, if_neg (by omega)]; simp
    · refine Ev.pos (by omega) (evTo (ih (i + 1) L (R ++ [(i : Int)]) (by omega) (by omega) (by simp; omega)) ?_)
      rw [if_neg c, if_pos c1]; simp
    · refine evTo (ih (i + 1) L R (by omega) (by omega) (by omega)) ?_
      rw [if_neg c, if_neg c1]
theorem spec_WeighThing_ev (n : Int) : Ev (fun k => spec_WeighThing.f k n) (if 0 ≤ n ∧ n ≤ L3 30 then (idx (-1) (word 30 n) 0, idx 1 (word 30 n) 0, true) else ([], [], false)) := by
  simp only [spec_WeighThing.f]
  refine Ev.bind (spec_LengthOf_ev n) ?_
  have no : ∀ m, ¬ (0 ≤ n ∧ n ≤ L3 30) → Ev (fun k => spec_WeighThing.j0 k n m true) (if 0 ≤ n ∧ n ≤ L3 30 then (idx (-1) (word 30 n) 0, idx 1 (word 30 n) 0, true) else ([], [], false)) := by
    intro m h
    apply Ev.succ
    simp only [spec_WeighThing.j0.eq_2]
    exact Ev.pos (by simp) (Ev.ret (by rw [if_neg h]))
  have h30 := L3_nonneg 30
  refine Ev.ite (fun h => no _ (by omega)) (fun h => ?_)
  rcases lenOf_spec n with ⟨e, h1⟩ | ⟨m, e, h1, h2, h3, _⟩
  · rw [e]
    exact no _ (by omega)
  · rw [e]
    have e0 : (((m : Nat) : Int) == 0) = false := by rw [beq_eq_false_iff_ne]; omega
    rw [e0]
    apply Ev.succ
    simp only [spec_WeighThing.j0.eq_2]
    have hm := L3_mono h2
    have hm2 := L3_30 (i := 30) (by omega)
    refine Ev.neg (by simp) (Ev.bind (spec_l2Word_ev n m h2 (by omega) (by omega)) ?_)
    rw [if_pos ⟨by omega, by omega⟩]
    have hl := spec_WeighThing_l (word m n) (by rw [word_length]; omega) m 0 [] [] (by rw [word_length]; omega) (by simp) (by simp)
    have ex := word_ext m (30 - m) n h3.1 h3.2
    rw [show m + (30 - m) = 30 by omega] at ex
    rw [ex, idx_append, idx_append, idx_zeros _ (by omega), idx_zeros _ (by omega)]
    simpa using hl

theorem impl_carried_eq (n : Int) (h : -4 ≤ n ∧ n ≤ 4) : impl_carried.f n = some (if n > 1 then n - 3 else if n < -1 then n + 3 else n, if n > 1 then 1 else if n < -1 then -1 else 0) := by
  unfold impl_carried.f
  by_cases h1 : n > 1
  · rw [if_pos h1, if_pos h1, if_pos h1, w64 (by omega) (by omega)]
  · rw [if_neg h1, if_neg h1, if_neg h1]
    by_cases h2 : n < -1
    · rw [if_pos h2, if_pos h2, if_pos h2, w64 (by omega) (by omega)]
    · rw [if_neg h2, if_neg h2, if_neg h2]

theorem impl_power_l (n : Nat) (hn : n ≤ 30) : ∀ (d i : Nat), i + d = n → Ev (fun k => impl_power.l0 k ((3 : Int) ^ i) n i) ((3 : Int) ^ n) := by
  intro d
  induction d with
  | zero =>
    intro i hi
    apply Ev.succ
    simp only [impl_power.l0.eq_2]
    refine Ev.neg (by omega) (Ev.ret ?_)
    rw [← hi]; rfl
  | succ d ih =>
    intro i hi
    apply Ev.succ
    simp only [impl_power.l0.eq_2]
    have h1 := pow3_30 (i := i + 1) (by omega)
    have h2 := pow3_pos i
    rw [pow3_succ] at h1
    refine Ev.pos (by omega) ?_
    rw [w64 (by omega) (by omega), w64 (by omega) (by omega), Int.mul_comm, ← pow3_succ]
    exact ih (i + 1) (by omega)
theorem impl_power_ev (n : Int) (h0 : 0 ≤ n) (hn : n ≤ 30) : Ev (fun k => impl_power.f k n) ((3 : Int) ^ n.toNat) := by
  obtain ⟨m, rfl⟩ : ∃ m : Nat, n = m := ⟨n.toNat, by omega⟩
  exact impl_power_l m (by omega) m 0 (by omega)

theorem impl_LimitOf_ev (k : Int) : Ev (fun n => impl_LimitOf.f n k) (lim k) := by
  simp only [impl_LimitOf.f]
  unfold lim
  refine Ev.ite (fun h => Ev.ret (by rw [if_neg (by omega)])) (fun h => Ev.ite (fun h1 => Ev.ret (by rw [if_neg (by omega)])) (fun h1 => ?_))
  rw [if_pos (by omega)]
  refine Ev.bind (impl_power_ev k (by omega) (by omega)) (Ev.ret ?_)
  have h2 := pow3_30 (i := k.toNat) (by omega)
  have h3 := pow3_pos k.toNat
  rw [w64 (n := _ - 1) (by omega) (by omega), Int.tdiv_eq_ediv_of_nonneg (by omega), w64 (by omega) (by omega)]

theorem impl_fits_ev (n k : Int) : Ev (fun m => impl_fits.f m n k) (fitsB n k) := by
  simp only [impl_fits.f]
  have h1 := lim_nonneg k
  have h2 := lim_le k
  refine Ev.bind (impl_LimitOf_ev k) ?_
  rw [w64 (by omega) (by omega)]
  refine Ev.ite (fun h => Ev.bind (impl_LimitOf_ev k) (Ev.ret ?_)) (fun h => Ev.ret ?_)
  · unfold fitsB; exact decide_eq_decide.2 (by omega)
  · unfold fitsB; rw [decide_eq_false]; omega

theorem tmod3 (n : Int) : Int.tmod n 3 = if 0 ≤ n then n % 3 else -((-n) % 3) := by
  split
  · exact Int.tmod_eq_emod_of_nonneg (by omega)
  · have h : Int.tmod (-n) 3 = (-n) % 3 := Int.tmod_eq_emod_of_nonneg (by omega)
    rw [Int.neg_tmod] at h; omega
theorem tdiv3 (n : Int) (h : n % 3 = 0) : Int.tdiv n 3 = n / 3 := by
  rw [Int.tdiv_eq_ediv_of_dvd (Int.dvd_of_emod_eq_zero h)]
theorem impl_WordOf_l (k : Nat) (hk : k ≤ 30) : ∀ (d i : Nat) (n : Int) (o : List Int), i + d = k → o.length = i → -100000000000000000 ≤ n → n ≤ 100000000000000000 → Ev (fun m => impl_WordOf.l0 m n o k i) (o ++ word d n, true) := by
  intro d
  induction d with
  | zero =>
    intro i n o hi ho h0 h1
    apply Ev.succ
    simp only [impl_WordOf.l0.eq_2]
    exact Ev.neg (by omega) (Ev.ret (by simp [word]))
  | succ d ih =>
    intro i n o hi ho h0 h1
    apply Ev.succ
    simp only [impl_WordOf.l0.eq_2]
    have ht := tmod3 n
    generalize hr : Int.tmod n 3 = r at *
    have h2 : -2 ≤ r ∧ r ≤ 2 ∧ (r - n) % 3 = 0 := by split at ht <;> omega
    refine Ev.pos (by omega) (Ev.bindc (impl_carried_eq r (by omega)) ?_)
    refine Ev.pos (by omega) ?_
    generalize hs : (if r > 1 then r - 3 else if r < -1 then r + 3 else r) = s
    have hs2 : s = (n + 1) % 3 - 1 := by split at hs <;> first | omega | (split at hs <;> omega)
    have e : Int.tdiv (n - s) 3 = (n + 1) / 3 := by rw [tdiv3 _ (by omega)]; omega
    rw [w64 (n := n - s) (by omega) (by omega), e, w64 (by omega) (by omega), w64 (by omega) (by omega)]
    refine evTo (ih (i + 1) ((n + 1) / 3) (o ++ [s]) (by omega) (by simp [ho]) (by omega) (by omega)) ?_
    rw [word, hs2]; simp
theorem impl_WordOf_ev (n k : Int) : Ev (fun m => impl_WordOf.f m n k) (wordOf n k) := by
  simp only [impl_WordOf.f]
  have no : ¬ (1 ≤ k ∧ k ≤ 30 ∧ fitsB n k = true) → Ev (fun m => impl_WordOf.j0 m n k true) (wordOf n k) := by
    intro h
    apply Ev.succ
    simp only [impl_WordOf.j0.eq_2]
    exact Ev.pos (by simp) (Ev.ret (by unfold wordOf; rw [if_neg h]))
  refine Ev.ite (fun h => no (by omega)) (fun h => Ev.ite (fun h1 => no (by omega)) (fun h1 => ?_))
  refine Ev.bind (impl_fits_ev n k) ?_
  by_cases c : fitsB n k = true
  · rw [c]
    apply Ev.succ
    simp only [impl_WordOf.j0.eq_2]
    refine Ev.neg (by simp) ?_
    have hf := c
    unfold fitsB at hf
    have h2 := lim_nonneg k
    have h3 := lim_le k
    have h4 := of_decide_eq_true hf
    have hl := impl_WordOf_l k.toNat (by omega) k.toNat 0 n [] (by omega) rfl (by omega) (by omega)
    rw [show ((k.toNat : Nat) : Int) = k by omega] at hl
    unfold wordOf; rw [if_pos ⟨by omega, by omega, c⟩]
    simpa using hl
  · rw [Bool.not_eq_true] at c
    rw [c]
    exact no (by rw [c]; simp)

theorem impl_WeighThing_l (w : List Int) (hw : w.length ≤ 30) : ∀ (d i : Nat) (L R : List Int), i + d = w.length → L.length ≤ i → R.length ≤ i → Ev (fun k => impl_WeighThing.l0 k w w.length i L R) (L ++ idx (-1) (w.drop i) i, R ++ idx 1 (w.drop i) i, true) := by
  intro d
  induction d with
  | zero =>
    intro i L R hi hL hR
    apply Ev.succ
    simp only [impl_WeighThing.l0.eq_2]
    refine Ev.neg (by omega) (Ev.ret ?_)
    rw [List.drop_eq_nil_of_le (by omega)]; simp [idx]
  | succ d ih =>
    intro i L R hi hL hR
    apply Ev.succ
    simp only [impl_WeighThing.l0.eq_2]
    rw [rd_get w i (by omega), drop_cons w i (by omega), w64 (by omega) (by omega), idx, idx]
    have e : (i : Int) + 1 = ((i + 1 : Nat) : Int) := by omega
    rw [e]
    refine Ev.pos (by omega) (Ev.pos (by omega) (Ev.pos (by omega) ?_))
    refine Ev.ite (fun c => ?_) (fun c => Ev.ite (fun c1 => ?_) (fun c1 => ?_))
    · refine Ev.pos (by omega) (evTo (ih (i + 1) L (R ++ [(i : Int)]) (by omega) (by omega) (by simp; omega)) ?_)
      rw [if_neg (by omega), if_pos c]; simp
    · refine Ev.pos (by omega) (evTo (ih (i + 1) (L ++ [(i : Int)]) R (by omega) (by simp; omega) (by omega)) ?_)
      rw [if_pos c1, if_neg c]; simp
    · refine evTo (ih (i + 1) L R (by omega) (by omega) (by omega)) ?_
      rw [if_neg c1, if_neg c]
/-- What WeighThing gives. -/
def weighT (n : Int) : List Int × List Int × Bool := if 0 ≤ n ∧ n ≤ L3 30 then (idx (-1) (word 30 n) 0, idx 1 (word 30 n) 0, true) else ([], [], false)
theorem impl_WeighThing_ev (n : Int) : Ev (fun k => impl_WeighThing.f k n) (weighT n) := by
  simp only [impl_WeighThing.f]
  refine Ev.bind (impl_WordOf_ev n 30) ?_
  have hf := fitsB_iff n 30 (by omega)
  have no : ∀ w, ¬ (0 ≤ n ∧ n ≤ L3 30) → Ev (fun k => impl_WeighThing.j0 k w true) (weighT n) := by
    intro w h
    apply Ev.succ
    simp only [impl_WeighThing.j0.eq_2]
    exact Ev.pos (by simp) (Ev.ret (by unfold weighT; rw [if_neg h]))
  have h30 := L3_nonneg 30
  unfold wordOf
  by_cases c : fitsB n 30 = true
  · rw [if_pos ⟨by omega, by omega, c⟩]
    have h2 := hf.1 c
    refine Ev.pos rfl ?_
    by_cases c2 : n < 0
    · rw [decide_eq_true c2]; exact no _ (by omega)
    · rw [decide_eq_false c2]
      apply Ev.succ
      simp only [impl_WeighThing.j0.eq_2]
      refine Ev.neg (by simp) ?_
      have hl := impl_WeighThing_l (word 30 n) (by rw [word_length]; omega) 30 0 [] [] (by rw [word_length]) (by simp) (by simp)
      unfold weighT; rw [if_pos ⟨by omega, h2.2⟩]
      simpa using hl
  · rw [if_neg (fun h => c h.2.2)]
    refine Ev.neg (by simp) (no _ (fun h => c (hf.2 ⟨by omega, h.2⟩)))

theorem laws_markIntS_l (n : Nat) (a : Int) (ha0 : 0 ≤ a) (ha : a ≤ 1000000000000000) (hn : n ≤ 35184372088832) : ∀ (d i : Nat) (x0 : List Int), i + d = n → x0.length = n → Ev (fun k => laws_markIntS.l0 k x0 (a + i) i) (a + n, x0.take i ++ (marked n a).drop i) := by
  intro d
  induction d with
  | zero =>
    intro i x0 hi hx
    apply Ev.succ
    simp only [laws_markIntS.l0.eq_2]
    refine Ev.neg (by omega) (Ev.ret ?_)
    rw [List.drop_eq_nil_of_le (by rw [marked_length]; omega), List.take_of_length_le (by omega)]
    simp; omega
  | succ d ih =>
    intro i x0 hi hx
    apply Ev.succ
    simp only [laws_markIntS.l0.eq_2]
    refine Ev.pos (by omega) (Ev.pos (by omega) ?_)
    rw [w64 (by omega) (by omega), w64 (by omega) (by omega)]
    have e1 : a + (i : Int) + 1 = a + ((i + 1 : Nat) : Int) := by omega
    rw [e1]
    refine evTo (ih (i + 1) _ (by omega) (by simp [hx])) ?_
    refine congrArg (Prod.mk _) ?_
    rw [take_snoc _ i (by simp; omega), drop_cons (marked n a) i (by rw [marked_length]; omega)]
    simp [marked, List.take_set_of_le]
theorem laws_markIntS_ev (x0 : List Int) (a : Int) (ha0 : 0 ≤ a) (ha : a ≤ 1000000000000000) (hn : x0.length ≤ 35184372088832) : Ev (fun k => laws_markIntS.f k x0 a) (a + x0.length, marked x0.length a) := by
  have h := laws_markIntS_l x0.length a ha0 ha hn x0.length 0 x0 (by omega) rfl
  simp only [laws_markIntS.f]
  simpa using h

theorem laws_markWeighing_ev (a b : List Int) (h1 : a.length ≤ 1000000000) (h2 : b.length ≤ 1000000000) (m : Int) (hm : 0 ≤ m ∧ m ≤ 1000000000) : Ev (fun k => laws_markWeighing.f k a b m) (m + a.length + b.length, marked a.length m, marked b.length (m + a.length)) := by
  simp only [laws_markWeighing.f]
  refine Ev.bind (laws_markIntS_ev a m (by omega) (by omega) (by omega)) ?_
  exact Ev.bind (laws_markIntS_ev b (m + a.length) (by omega) (by omega) (by omega)) (Ev.now _)

theorem laws_heldIntS_l (n : Nat) (a : Int) (ha0 : 0 ≤ a) (ha : a ≤ 1000000000000000) (hn : n ≤ 35184372088832) : ∀ (d i : Nat), i + d = n → Ev (fun k => laws_heldIntS.l0 k (marked n a) (a + i) i) (a + n) := by
  intro d
  induction d with
  | zero =>
    intro i hi
    apply Ev.succ
    simp only [laws_heldIntS.l0.eq_2, marked_length]
    refine Ev.neg (by omega) (Ev.ret (by omega))
  | succ d ih =>
    intro i hi
    apply Ev.succ
    simp only [laws_heldIntS.l0.eq_2, marked_length]
    refine Ev.pos (by omega) (Ev.pos (by omega) (Ev.pos ?_ ?_))
    · rw [rd_get _ i (by rw [marked_length]; omega)]; simp [marked]
    · rw [w64 (by omega) (by omega), w64 (by omega) (by omega)]
      have e1 : a + (i : Int) + 1 = a + ((i + 1 : Nat) : Int) := by omega
      rw [e1]
      exact ih (i + 1) (by omega)
theorem laws_heldIntS_ev (n : Nat) (a : Int) (ha0 : 0 ≤ a) (ha : a ≤ 1000000000000000) (hn : n ≤ 35184372088832) : Ev (fun k => laws_heldIntS.f k (marked n a) a) (a + n) := by
  have h := laws_heldIntS_l n a ha0 ha hn n 0 (by omega)
  simp only [laws_heldIntS.f]
  simpa using h

theorem laws_heldWeighing_ev (a b : Nat) (h1 : a ≤ 1000000000) (h2 : b ≤ 1000000000) (m : Int) (hm : 0 ≤ m ∧ m ≤ 1000000000) : Ev (fun k => laws_heldWeighing.f k (marked a m) (marked b (m + a)) m) (m + a + b) := by
  simp only [laws_heldWeighing.f]
  refine Ev.bind (laws_heldIntS_ev a m (by omega) (by omega) (by omega)) ?_
  refine Ev.neg (by omega) (Ev.bind (laws_heldIntS_ev b (m + a) (by omega) (by omega) (by omega)) ?_)
  exact Ev.neg (by omega) (Ev.now _)

end Go.Proofs.Ytffohdlbkigehaa.LemFnExactWeighThing

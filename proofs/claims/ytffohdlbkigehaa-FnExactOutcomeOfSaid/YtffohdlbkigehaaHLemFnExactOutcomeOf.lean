/- Lemmas: what each function that this statement reaches computes. -/
import Derived.Test.YtffohdlbkigehaaHOpFnExactOutcomeOf
import Derived.Test.YtffohdlbkigehaaBase
set_option linter.unusedVariables false
set_option linter.unusedSimpArgs false
namespace Go.Proofs.Ytffohdlbkigehaa.LemFnExactOutcomeOf
open Go.RowKit Go.Proofs.YtffohdlbkigehaaW.PrintWords Go.Proofs.YtffohdlbkigehaaW.PrintLast Go.Proofs.YtffohdlbkigehaaW.PrintMore Go.Proofs.Ytffohdlbkigehaa.HFnExactOutcomeOf Go.Proofs.Ytffohdlbkigehaa.Base

theorem laws_eqIntS_l (x0 x1 : List Int) (hl : x0.length = x1.length) (hn : x0.length ≤ 35184372088832) : ∀ (d i : Nat), i + d = x0.length → Ev (fun k => laws_eqIntS.l0 k x0 x1 i) (decide (x0.drop i = x1.drop i)) := by
  intro d
  induction d with
  | zero =>
    intro i hi
    apply Ev.succ
    simp only [laws_eqIntS.l0.eq_2]
    refine Ev.neg (by omega) (Ev.ret ?_)
    rw [List.drop_eq_nil_of_le (by omega), List.drop_eq_nil_of_le (by omega)]; simp
  | succ d ih =>
    intro i hi
    apply Ev.succ
    simp only [laws_eqIntS.l0.eq_2]
    refine Ev.pos (by omega) (Ev.pos (by omega) (Ev.pos (by omega) ?_))
    rw [rd_get x0 i (by omega), rd_get x1 i (by omega), drop_cons x0 i (by omega), drop_cons x1 i (by omega)]
    refine Ev.ite (fun h => ?_) (fun h => ?_)
    · rw [w64 (by omega) (by omega)]
      exact evTo (ih (i + 1) (by omega)) (by simp only [List.cons.injEq, h, true_and])
    · exact Ev.ret (by simp only [List.cons.injEq, h, false_and, decide_false])
theorem laws_eqIntS_ev (x0 x1 : List Int) (hn : x0.length ≤ 35184372088832) : Ev (fun k => laws_eqIntS.f k x0 x1) (decide (x0 = x1)) := by
  simp only [laws_eqIntS.f]
  refine Ev.ite (fun h => ?_) (fun h => Ev.ret ?_)
  · exact evTo (laws_eqIntS_l x0 x1 (by omega) hn x0.length 0 (by omega)) (by simp)
  · symm; rw [decide_eq_false_iff_not]; intro e; rw [e] at h; exact h rfl

theorem laws_szIntS_eq (l : List Int) (a : Int) (hl : l.length ≤ maxLen) (h0 : 0 ≤ a) (h1 : a ≤ 1048576) : laws_szIntS.f l a = some (if (l.length : Int) ≤ a then a - l.length else -1) := by
  unfold maxLen at hl
  unfold laws_szIntS.f
  rw [w64 (by omega) (by omega)]
  by_cases h : (l.length : Int) ≤ a
  · rw [if_neg (by omega), if_pos h]
  · rw [if_pos (by omega), if_neg h]

/-- What 'size' tells of a rest b for n parts. -/
def rest (b : Int) (n : Nat) : Int := if (n : Int) ≤ b then b - n else -1

theorem rdL_get (xs : List (List Int)) (i : Nat) (h : i < xs.length) : rd_L1 xs (i : Int) = xs[i] := by
  simp [rd_L1, List.getD_eq_getElem?_getD, List.getElem?_eq_getElem h]
/-- All numbers of all rows. -/
def tot : List (List Int) → Nat
  | [] => 0
  | x :: xs => x.length + tot xs
theorem tot_drop (xs : List (List Int)) (i : Nat) (h : i < xs.length) : tot (xs.drop i) = xs[i].length + tot (xs.drop (i + 1)) := by
  rw [drop_cons xs i h, tot]
theorem tot_mem {l : List (List Int)} {x : List Int} (h : x ∈ l) : x.length ≤ tot l := by
  induction l with
  | nil => simp at h
  | cons y ys ih =>
    rw [tot]
    rcases List.mem_cons.1 h with rfl | h
    · omega
    · have := ih h; omega

theorem laws_szIntSS_l (l : List (List Int)) (hl : l.length ≤ maxLen) (hw : ∀ y ∈ l, y.length ≤ maxLen) :
    ∀ (d i : Nat) (b : Int), i + d = l.length → 0 ≤ b → b ≤ 1048576 → Ev (fun k => laws_szIntSS.l0 k l b i) (rest b (tot (l.drop i))) := by
  intro d
  unfold maxLen at hl
  induction d with
  | zero =>
    intro i b hi h0 h1
    apply Ev.succ
    simp only [laws_szIntSS.l0.eq_2]
    refine Ev.neg (by omega) (Ev.ret ?_)
    rw [List.drop_of_length_le (by omega)]
    simp [rest, tot, h0]
  | succ d ihd =>
    intro i b hi h0 h1
    have hlt : i < l.length := by omega
    apply Ev.succ
    simp only [laws_szIntSS.l0.eq_2]
    refine Ev.pos (by omega) (Ev.pos (by omega) ?_)
    rw [rdL_get l i hlt, w64 (by omega) (by omega)]
    refine Ev.bindc (laws_szIntS_eq l[i] b (hw _ (List.getElem_mem hlt)) h0 h1) ?_
    rw [tot_drop l i hlt]
    by_cases hb : (l[i].length : Int) ≤ b
    · rw [if_pos hb]
      refine Ev.neg (by omega) (evTo (ihd (i + 1) _ (by omega) (by omega) (by omega)) ?_)
      unfold rest
      by_cases hc : (tot (l.drop (i + 1)) : Int) ≤ b - l[i].length
      · rw [if_pos hc, if_pos (by omega)]; omega
      · rw [if_neg hc, if_neg (by omega)]
    · rw [if_neg hb]
      refine Ev.pos (by omega) (Ev.ret ?_)
      unfold rest
      rw [if_neg (by omega)]
theorem laws_szIntSS_ev (l : List (List Int)) (hl : l.length ≤ maxLen) (hw : ∀ y ∈ l, y.length ≤ maxLen) (b : Int) (h0 : 0 ≤ b) (h1 : b ≤ 1048576) :
    Ev (fun k => laws_szIntSS.f k l b) (rest b (l.length + tot l)) := by
  simp only [laws_szIntSS.f]
  have hm := hl
  unfold maxLen at hm
  rw [w64 (by omega) (by omega)]
  refine Ev.ite (fun h => Ev.ret ?_) (fun h => ?_)
  · unfold rest; rw [if_neg (by omega)]
  · refine evTo (laws_szIntSS_l l hl hw l.length 0 _ (by omega) (by omega) (by omega)) ?_
    simp only [List.drop_zero]
    unfold rest
    by_cases hc : (tot l : Int) ≤ b - l.length
    · rw [if_pos hc, if_pos (by omega)]; omega
    · rw [if_neg hc, if_neg (by omega)]

theorem spec_l1In_eq (a b c : Int) : spec_l1In.f a b c = some (decide (b ≤ a ∧ a ≤ c)) := by
  unfold spec_l1In.f
  by_cases h : b ≤ a
  · rw [if_pos (by omega)]; simp [h]
  · rw [if_neg (by omega)]; simp [h]

theorem spec_IsTrit_eq (a : Int) : spec_IsTrit.f a = some (isTrit a) := by
  unfold spec_IsTrit.f isTrit
  rw [spec_l1In_eq]; rfl

theorem spec_IsWord_l (x : List Int) (hn : x.length ≤ 35184372088832) : ∀ (d i : Nat), i + d = x.length → Ev (fun k => spec_IsWord.l0 k x x x.length i) (decide (1 ≤ x.length ∧ x.length ≤ 30) && (x.drop i).all isTrit) := by
  intro d
  induction d with
  | zero =>
    intro i hi
    apply Ev.succ
    simp only [spec_IsWord.l0.eq_2, spec_l1In_eq, Option.bind_some]
    refine Ev.neg (by omega) (Ev.ret ?_)
    rw [List.drop_eq_nil_of_le (by omega), List.all_nil, Bool.and_true]
    exact decide_eq_decide.2 (by omega)
  | succ d ih =>
    intro i hi
    apply Ev.succ
    simp only [spec_IsWord.l0.eq_2, spec_IsTrit_eq, Option.bind_some]
    refine Ev.pos (by omega) (Ev.pos (by omega) (Ev.pos (by omega) ?_))
    rw [rd_get x i (by omega), drop_cons x i (by omega), List.all_cons, w64 (by omega) (by omega)]
    refine Ev.ite (fun h => ?_) (fun h => Ev.ret ?_)
    · exact evTo (ih (i + 1) (by omega)) (by rw [h, Bool.true_and])
    · rw [Bool.not_eq_true] at h; rw [h, Bool.false_and, Bool.and_false]
theorem spec_IsWord_ev (x : List Int) (hn : x.length ≤ 35184372088832) : Ev (fun k => spec_IsWord.f k x) (isWord x) := by
  simp only [spec_IsWord.f]
  exact spec_IsWord_l x hn x.length 0 (by omega)

theorem spec_l3Fit_ev (a b : List Int) (ha : a.length ≤ 1048576) (hb : b.length ≤ 1048576) : Ev (fun k => spec_l3Fit.f k a b) (isWord a && isWord b && decide (a.length = b.length)) := by
  simp only [spec_l3Fit.f]
  refine Ev.bind (spec_IsWord_ev a (by omega)) (Ev.ite (fun h => ?_) (fun h => Ev.ret ?_))
  · rw [h, Bool.true_and]
    refine Ev.bind (spec_IsWord_ev b (by omega)) (Ev.ite (fun h => Ev.ret ?_) (fun h => Ev.ret ?_))
    · rw [h, Bool.true_and, Bool.eq_iff_iff]; simp; omega
    · rw [Bool.not_eq_true] at h; rw [h, Bool.false_and]
  · rw [Bool.not_eq_true] at h; rw [h]; simp

/-- Words of the same number of trits, one at least. -/
def wordsB (l : List (List Int)) : Bool := decide (0 < l.length) && l.all fun x => isWord x && decide (x.length = (l.getD 0 []).length)

theorem spec_l8Words_l (l : List (List Int)) (hl : l.length ≤ 1048576) (hw : ∀ y ∈ l, y.length ≤ 1048576) : ∀ (d i : Nat), i + d = l.length → Ev (fun k => spec_l8Words.l0 k l l (l.length : Int) i) (((l.drop i).all fun x => isWord (l.getD 0 []) && isWord x && decide ((l.getD 0 []).length = x.length)) && decide (0 < l.length)) := by
  intro d
  induction d with
  | zero =>
    intro i hi
    apply Ev.succ
    simp only [spec_l8Words.l0.eq_2]
    refine Ev.neg (by omega) (Ev.ret ?_)
    rw [List.drop_of_length_le (by omega), List.all_nil, Bool.true_and, Bool.eq_iff_iff]; simp
  | succ d ihd =>
    intro i hi
    have hlt : i < l.length := by omega
    have h0 : 0 < l.length := by omega
    apply Ev.succ
    simp only [spec_l8Words.l0.eq_2]
    refine Ev.pos (by omega) (Ev.pos (by omega) (Ev.pos (by omega) (Ev.pos (by omega) ?_)))
    have e0 : l.getD 0 [] = l[0] := by simp [List.getD_eq_getElem?_getD, List.getElem?_eq_getElem h0]
    have e1 : rd_L1 l 0 = l.getD 0 [] := by rw [e0]; exact rdL_get l 0 h0
    rw [w64 (by omega) (by omega), rdL_get l i hlt, e1, drop_cons l i hlt, List.all_cons]
    refine Ev.bind (spec_l3Fit_ev _ _ (by rw [e0]; exact hw _ (List.getElem_mem h0)) (hw _ (List.getElem_mem hlt))) (Ev.ite (fun h => ?_) (fun h => Ev.ret ?_))
    · rw [h, Bool.true_and]; exact ihd (i + 1) (by omega)
    · rw [Bool.not_eq_true] at h; rw [h]; simp
theorem spec_l8Words_ev (l : List (List Int)) (hl : l.length ≤ 1048576) (hw : ∀ y ∈ l, y.length ≤ 1048576) : Ev (fun k => spec_l8Words.f k l) (wordsB l) := by
  simp only [spec_l8Words.f]
  refine evTo (spec_l8Words_l l hl hw l.length 0 (by omega)) ?_
  rw [List.drop_zero, wordsB, Bool.and_comm, Bool.eq_iff_iff]
  simp only [Bool.and_eq_true, decide_eq_true_eq, List.all_eq_true]
  constructor
  · rintro ⟨h0, h⟩
    exact ⟨h0, fun x hx => ⟨(h x hx).1.2, (h x hx).2.symm⟩⟩
  · rintro ⟨h0, h⟩
    have e0 : l.getD 0 [] = l[0] := by simp [List.getD_eq_getElem?_getD, List.getElem?_eq_getElem h0]
    refine ⟨h0, fun x hx => ⟨⟨?_, (h x hx).1⟩, (h x hx).2.symm⟩⟩
    rw [e0]; exact (h _ (List.getElem_mem h0)).1

/-- What OutcomeOf gives. -/
def outB (l : List (List Int)) (c e : Int) : List Int × Bool :=
  if wordsB l = true ∧ isTrit e = true ∧ (e = 0 ∨ 0 ≤ c ∧ c < l.length) then (if e = 0 then (List.replicate (l.getD 0 []).length 0, true) else ((l.getD c.toNat []).map fun a => a * e, true)) else ([], false)
theorem wordsB_iff (l : List (List Int)) : wordsB l = true ↔ 0 < l.length ∧ ∀ x ∈ l, isWord x = true ∧ x.length = (l.getD 0 []).length := by
  simp [wordsB]

theorem spec_OutcomeOf_l (e : Int) (he : -1 ≤ e ∧ e ≤ 1) (w : List Int) (hw : w.length ≤ 30) (ht : ∀ a ∈ w, -1 ≤ a ∧ a ≤ 1) : ∀ (d i : Nat) (acc : List Int), i + d = w.length → acc.length = i → Ev (fun k => spec_OutcomeOf.l0 k e acc w (w.length : Int) i) (acc ++ (w.drop i).map (fun a => a * e), true) := by
  intro d
  induction d with
  | zero =>
    intro i acc hi ha
    apply Ev.succ
    simp only [spec_OutcomeOf.l0.eq_2]
    refine Ev.neg (by omega) (Ev.ret ?_)
    rw [List.drop_of_length_le (by omega)]; simp
  | succ d ihd =>
    intro i acc hi ha
    have hlt : i < w.length := by omega
    apply Ev.succ
    simp only [spec_OutcomeOf.l0.eq_2]
    refine Ev.pos (by omega) (Ev.pos (by omega) (Ev.pos (by omega) (Ev.pos (by omega) ?_)))
    have h1 := ht _ (List.getElem_mem hlt)
    have h2 : -1 ≤ w[i] * e ∧ w[i] * e ≤ 1 := by
      have c1 : w[i] = -1 ∨ w[i] = 0 ∨ w[i] = 1 := by omega
      rcases c1 with h | h | h <;> rw [h] <;> omega
    rw [w64 (n := (i : Int) + 1) (by omega) (by omega), rd_get w i hlt, w64 (by omega) (by omega)]
    refine evTo (ihd (i + 1) _ (by omega) (by simp [ha])) ?_
    rw [drop_cons w i hlt, List.map_cons, List.append_assoc]; rfl
theorem spec_OutcomeOf_ev (l : List (List Int)) (hl : l.length ≤ 1048576) (hw : ∀ y ∈ l, y.length ≤ 1048576) (c e : Int) : Ev (fun k => spec_OutcomeOf.f k l c e) (outB l c e) := by
  simp only [spec_OutcomeOf.f]
  have bad : (¬ (wordsB l = true ∧ isTrit e = true)) → Ev (fun k => spec_OutcomeOf.j0 k l c e true) (outB l c e) := by
    intro h
    apply Ev.succ
    simp only [spec_OutcomeOf.j0.eq_2]
    refine Ev.pos trivial (Ev.ret ?_)
    unfold outB
    rw [if_neg (fun hh => h ⟨hh.1, hh.2.1⟩)]
  refine Ev.bind (spec_l8Words_ev l hl hw) (Ev.ite (fun h => Ev.bindc (spec_IsTrit_eq e) ?_) (fun h => bad (fun hh => h hh.1)))
  cases ht : isTrit e with
  | false => exact bad (by rw [ht]; simp)
  | true =>
    have hwd := (wordsB_iff l).1 h
    have e0 : l.getD 0 [] = l[0]'hwd.1 := by simp [List.getD_eq_getElem?_getD, List.getElem?_eq_getElem hwd.1]
    have e1 : rd_L1 l 0 = l.getD 0 [] := by rw [e0]; exact rdL_get l 0 hwd.1
    have hL : (l.getD 0 []).length ≤ 1048576 := by rw [e0]; exact hw _ (List.getElem_mem _)
    have he := (isTrit_iff e).1 ht
    apply Ev.succ
    simp only [spec_OutcomeOf.j0.eq_2, e1]
    have j1t : (¬ (0 ≤ c ∧ c < l.length)) → e ≠ 0 → Ev (fun k => spec_OutcomeOf.j1 k l c e true) (outB l c e) := by
      intro hc h0
      apply Ev.succ
      simp only [spec_OutcomeOf.j1.eq_2]
      refine Ev.pos trivial (Ev.ret ?_)
      unfold outB
      rw [if_neg]
      rintro ⟨_, _, h1 | h1⟩
      · exact h0 h1
      · exact hc h1
    refine Ev.neg (by simp) (Ev.ite (fun h0 => ?_) (fun h0 => Ev.ite (fun h1 => j1t (by omega) h0) (fun h1 => ?_)))
    · refine Ev.pos (by omega) (Ev.pos (by omega) (Ev.pos (by omega) (Ev.ret ?_)))
      unfold outB
      rw [if_pos ⟨h, ht, .inl h0⟩, if_pos h0]; simp
    · by_cases h2 : c < l.length
      · rw [decide_eq_false (by omega)]
        apply Ev.succ
        simp only [spec_OutcomeOf.j1.eq_2]
        refine Ev.neg (by simp) (Ev.pos (by omega) (Ev.pos (by omega) ?_))
        obtain ⟨i, rfl⟩ : ∃ i : Nat, c = i := ⟨c.toNat, by omega⟩
        have hi : i < l.length := by omega
        have ei : l.getD i [] = l[i] := by simp [List.getD_eq_getElem?_getD, List.getElem?_eq_getElem hi]
        rw [rdL_get l i hi]
        have hx := (isWord_iff _).1 (hwd.2 _ (List.getElem_mem hi)).1
        refine evTo (spec_OutcomeOf_l e he l[i] hx.1.2 hx.2 l[i].length 0 [] (by omega) rfl) ?_
        unfold outB
        rw [if_pos ⟨h, ht, .inr ⟨by omega, h2⟩⟩, if_neg h0, Int.toNat_natCast, ei]; simp
      · rw [decide_eq_true (by omega)]
        exact j1t (by omega) h0

theorem laws_toIntS_l (x0 : List Int) (hn : x0.length ≤ 35184372088832) : ∀ (d i : Nat) (x3 : List Int), i + d = x0.length → x3.length = x0.length → x3.take i = x0.take i → Ev (fun k => laws_toIntS.l0 k x0 x3 i) x0 := by
  intro d
  induction d with
  | zero =>
    intro i x3 hi hx ht
    apply Ev.succ
    simp only [laws_toIntS.l0.eq_2]
    refine Ev.neg (by omega) (Ev.ret ?_)
    rwa [List.take_of_length_le (by omega), List.take_of_length_le (by omega)] at ht
  | succ d ih =>
    intro i x3 hi hx ht
    apply Ev.succ
    simp only [laws_toIntS.l0.eq_2]
    refine Ev.pos (by omega) (Ev.pos (by omega) (Ev.pos (by omega) ?_))
    rw [w64 (by omega) (by omega), rd_get x0 i (by omega)]
    refine ih (i + 1) _ (by omega) (by simp [hx]) ?_
    rw [take_snoc _ i (by simp; omega), take_snoc x0 i (by omega)]
    simp [List.take_set_of_le, ht]
theorem laws_toIntS_ev (x0 : List Int) (hn : x0.length ≤ 35184372088832) : Ev (fun k => laws_toIntS.f k x0) x0 := by
  simp only [laws_toIntS.f]
  refine Ev.pos (by omega) (Ev.pos (by omega) ?_)
  exact laws_toIntS_l x0 hn x0.length 0 _ (by omega) (by simp) (by simp)

theorem laws_toIntSS_l (x0 : List (List Int)) (hn : x0.length ≤ 1048576) (hw : ∀ y ∈ x0, y.length ≤ 1048576) : ∀ (d i : Nat) (x3 : List (List Int)), i + d = x0.length → x3.length = x0.length → x3.take i = x0.take i → Ev (fun k => laws_toIntSS.l0 k x0 x3 i) x0 := by
  intro d
  induction d with
  | zero =>
    intro i x3 hi hx ht
    apply Ev.succ
    simp only [laws_toIntSS.l0.eq_2]
    refine Ev.neg (by omega) (Ev.ret ?_)
    rwa [List.take_of_length_le (by omega), List.take_of_length_le (by omega)] at ht
  | succ d ih =>
    intro i x3 hi hx ht
    have hlt : i < x0.length := by omega
    apply Ev.succ
    simp only [laws_toIntSS.l0.eq_2]
    refine Ev.pos (by omega) (Ev.pos (by omega) ?_)
    rw [w64 (by omega) (by omega), rdL_get x0 i (by omega)]
    refine Ev.bind (laws_toIntS_ev _ (by have := hw _ (List.getElem_mem hlt); omega)) (Ev.pos (by omega) ?_)
    refine ih (i + 1) _ (by omega) (by simp [hx]) ?_
    rw [take_snoc _ i (by simp; omega), take_snoc x0 i (by omega)]
    simp [List.take_set_of_le, ht]
theorem laws_toIntSS_ev (x0 : List (List Int)) (hn : x0.length ≤ 1048576) (hw : ∀ y ∈ x0, y.length ≤ 1048576) : Ev (fun k => laws_toIntSS.f k x0) x0 := by
  simp only [laws_toIntSS.f]
  refine Ev.pos (by omega) (Ev.pos (by omega) ?_)
  exact laws_toIntSS_l x0 hn hw x0.length 0 _ (by omega) (by simp) (by simp)

theorem impl_IsTrit_eq (a : Int) : impl_IsTrit.f a = some (isTrit a) := by
  unfold impl_IsTrit.f isTrit
  by_cases h : -1 ≤ a
  · rw [if_pos (by omega)]; simp [h]
  · rw [if_neg (by omega)]; simp [h]

theorem impl_trits_l (x : List Int) (hn : x.length ≤ 35184372088832) : ∀ (d i : Nat), i + d = x.length → Ev (fun k => impl_trits.l0 k x x.length i) ((x.drop i).all isTrit) := by
  intro d
  induction d with
  | zero =>
    intro i hi
    apply Ev.succ
    simp only [impl_trits.l0.eq_2]
    refine Ev.neg (by omega) (Ev.ret ?_)
    rw [List.drop_eq_nil_of_le (by omega)]; rfl
  | succ d ih =>
    intro i hi
    apply Ev.succ
    simp only [impl_trits.l0.eq_2, impl_IsTrit_eq, Option.bind_some]
    refine Ev.pos (by omega) (Ev.pos (by omega) (Ev.pos (by omega) ?_))
    rw [rd_get x i (by omega), drop_cons x i (by omega), List.all_cons, w64 (by omega) (by omega)]
    refine Ev.ite (fun h => ?_) (fun h => Ev.ret ?_)
    · exact evTo (ih (i + 1) (by omega)) (by rw [h, Bool.true_and])
    · rw [Bool.not_eq_true] at h; rw [h, Bool.false_and]
theorem impl_trits_ev (x : List Int) (hn : x.length ≤ 35184372088832) : Ev (fun k => impl_trits.f k x) (x.all isTrit) := by
  simp only [impl_trits.f]
  exact impl_trits_l x hn x.length 0 (by omega)

theorem impl_IsWord_ev (x : List Int) : Ev (fun k => impl_IsWord.f k x) (isWord x) := by
  simp only [impl_IsWord.f, isWord]
  refine Ev.ite (fun h => Ev.ite (fun h1 => ?_) (fun h1 => Ev.ret ?_)) (fun h => Ev.ret ?_)
  · refine Ev.bind (impl_trits_ev x (by omega)) (Ev.ret ?_)
    rw [decide_eq_true (by omega), Bool.true_and]
  · rw [decide_eq_false (by omega), Bool.false_and]
  · rw [decide_eq_false (by omega), Bool.false_and]

theorem anyO_ev {α : Type} {g : Nat → α → Option Bool} {p : α → Bool} : ∀ (l : List α), (∀ x ∈ l, Ev (fun k => g k x) (p x)) → Ev (fun k => Go.Proofs.Ytffohdlbkigehaa.Any.anyO (g k) l) (l.any p)
  | [], _ => Ev.now _
  | x :: xs, h => by
    simp only [Go.Proofs.Ytffohdlbkigehaa.Any.anyO]
    exact Ev.bind (h x List.mem_cons_self) (Ev.bind (anyO_ev xs (fun y hy => h y (List.mem_cons_of_mem _ hy))) (Ev.ret (by rw [List.any_cons])))
theorem not_any_not {α : Type} (p : α → Bool) (l : List α) : (!l.any fun x => !p x) = l.all p := by
  induction l with
  | nil => rfl
  | cons x xs ih => rw [List.any_cons, List.all_cons, ← ih]; simp

theorem impl_sameLength_ev (l : List (List Int)) : Ev (fun k => impl_sameLength.f k l) (wordsB l) := by
  simp only [impl_sameLength.f]
  unfold wordsB
  refine Ev.ite (fun h => ?_) (fun h => Ev.ret ?_)
  · rw [decide_eq_true (by omega : 0 < l.length), Bool.true_and]
    refine Ev.bind (anyO_ev (p := fun x => !(isWord x && decide (x.length = (l.getD 0 []).length))) l (fun x _ => Ev.bind (impl_IsWord_ev x) (Ev.ret ?_))) (Ev.ret (not_any_not _ _))
    cases isWord x <;> simp
  · rw [decide_eq_false (by omega), Bool.false_and]

theorem impl_OutcomeOf_l (l : List (List Int)) (c e : Int) (he : -1 ≤ e ∧ e ≤ 1) (he0 : e ≠ 0) (j : Nat) (hj : j < l.length) (hc : c = j) (hw : l[j].length ≤ 30) (ht : ∀ a ∈ l[j], -1 ≤ a ∧ a ≤ 1) : ∀ (d i : Nat) (acc : List Int), i + d = l[j].length → acc.length = l[j].length → acc.take i = (l[j].map fun a => a * e).take i → Ev (fun k => impl_OutcomeOf.l0 k l c e acc (l[j].length : Int) i) (l[j].map fun a => a * e, true) := by
  intro d
  subst hc
  induction d with
  | zero =>
    intro i acc hi ha hk
    apply Ev.succ
    simp only [impl_OutcomeOf.l0.eq_2]
    refine Ev.neg (by omega) (Ev.ret ?_)
    rw [List.take_of_length_le (by omega), List.take_of_length_le (by simp; omega)] at hk
    rw [hk]
  | succ d ihd =>
    intro i acc hi ha hk
    have hlt : i < l[j].length := by omega
    apply Ev.succ
    simp only [impl_OutcomeOf.l0.eq_2, rdL_get l j hj]
    refine Ev.pos (by omega) (Ev.neg he0 (Ev.pos (by omega) (Ev.pos (by omega) (Ev.pos (by omega) (Ev.pos (by omega) (Ev.pos (by omega) ?_))))))
    have h1 := ht _ (List.getElem_mem hlt)
    have h2 : -1 ≤ l[j][i] * e ∧ l[j][i] * e ≤ 1 := by
      have c1 : l[j][i] = -1 ∨ l[j][i] = 0 ∨ l[j][i] = 1 := by omega
      rcases c1 with h | h | h <;> rw [h] <;> omega
    rw [w64 (n := (i : Int) + 1) (by omega) (by omega), rd_get l[j] i hlt, Int.mul_comm e, w64 (by omega) (by omega)]
    refine ihd (i + 1) _ (by omega) (by simp [ha]) ?_
    rw [take_snoc _ i (by simp; omega), take_snoc _ i (by simp; omega)]
    simp [List.take_set_of_le, hk]
theorem impl_OutcomeOf_z (l : List (List Int)) (c : Int) (acc : List Int) (n : Nat) (hn : n ≤ 1048576) : ∀ (d i : Nat), i + d = n → Ev (fun k => impl_OutcomeOf.l0 k l c 0 acc (n : Int) i) (acc, true) := by
  intro d
  induction d with
  | zero =>
    intro i hi
    apply Ev.succ
    simp only [impl_OutcomeOf.l0.eq_2]
    exact Ev.neg (by omega) (Ev.now _)
  | succ d ihd =>
    intro i hi
    apply Ev.succ
    simp only [impl_OutcomeOf.l0.eq_2]
    refine Ev.pos (by omega) (Ev.pos trivial ?_)
    rw [w64 (by omega) (by omega)]
    exact ihd (i + 1) (by omega)
theorem impl_OutcomeOf_ev (l : List (List Int)) (hl : l.length ≤ 1048576) (hw : ∀ y ∈ l, y.length ≤ 1048576) (c e : Int) : Ev (fun k => impl_OutcomeOf.f k l c e) (outB l c e) := by
  simp only [impl_OutcomeOf.f]
  have bad : (¬ (wordsB l = true ∧ isTrit e = true ∧ (e = 0 ∨ 0 ≤ c ∧ c < l.length))) → Ev (fun k => impl_OutcomeOf.j0 k l c e true) (outB l c e) := by
    intro h
    apply Ev.succ
    simp only [impl_OutcomeOf.j0.eq_2]
    refine Ev.pos trivial (Ev.ret ?_)
    unfold outB
    rw [if_neg h]
  refine Ev.bind (impl_sameLength_ev l) (Ev.ite (fun h => Ev.bindc (impl_IsTrit_eq e) (Ev.ite (fun ht => ?_) (fun ht => bad (fun hh => ht hh.2.1)))) (fun h => bad (fun hh => h hh.1)))
  have hwd := (wordsB_iff l).1 h
  have e0 : l.getD 0 [] = l[0]'hwd.1 := by simp [List.getD_eq_getElem?_getD, List.getElem?_eq_getElem hwd.1]
  have e1 : rd_L1 l 0 = l.getD 0 [] := by rw [e0]; exact rdL_get l 0 hwd.1
  have hL : (l.getD 0 []).length ≤ 1048576 := by rw [e0]; exact hw _ (List.getElem_mem _)
  have he := (isTrit_iff e).1 ht
  have good : (e = 0 ∨ 0 ≤ c ∧ c < l.length) → Ev (fun k => impl_OutcomeOf.j0 k l c e false) (outB l c e) := by
    intro hg
    apply Ev.succ
    simp only [impl_OutcomeOf.j0.eq_2, e1]
    refine Ev.neg (by simp) (Ev.pos (by omega) (Ev.pos (by omega) (Ev.pos (by omega) (Ev.bindc rfl ?_))))
    have en : ((List.replicate (((l.getD 0 []).length : Int)).toNat (0 : Int)).length : Int) = ((l.getD 0 []).length : Nat) := by simp
    rw [en]
    unfold outB
    rw [if_pos ⟨h, ht, hg⟩]
    by_cases h0 : e = 0
    · rw [if_pos h0]
      subst h0
      refine evTo (impl_OutcomeOf_z l c _ _ hL _ 0 (Nat.zero_add _)) ?_
      simp
    · rw [if_neg h0]
      obtain ⟨i, rfl⟩ : ∃ i : Nat, c = i := ⟨c.toNat, by omega⟩
      have hi : i < l.length := by omega
      have ei : l.getD i [] = l[i] := by simp [List.getD_eq_getElem?_getD, List.getElem?_eq_getElem hi]
      have hx := (isWord_iff _).1 (hwd.2 _ (List.getElem_mem hi)).1
      have hlen := (hwd.2 _ (List.getElem_mem hi)).2
      rw [show ((i : Int)).toNat = i by omega, ei, ← hlen]
      exact impl_OutcomeOf_l l i e he h0 i hi rfl hx.1.2 hx.2 l[i].length 0 _ (by omega) (by simp) (by simp)
  refine Ev.ite (fun h0 => good (.inl h0)) (fun h0 => Ev.ite (fun h1 => bad (by omega)) (fun h1 => ?_))
  by_cases h2 : c < l.length
  · rw [decide_eq_false (by omega)]; exact good (.inr ⟨by omega, h2⟩)
  · rw [decide_eq_true (by omega)]; exact bad (by omega)

theorem laws_eqIntSS_l (l : List (List Int)) (hl : l.length ≤ 1048576) (hw : ∀ y ∈ l, y.length ≤ 1048576) : ∀ (d i : Nat), i + d = l.length → Ev (fun k => laws_eqIntSS.l0 k l l i) true := by
  intro d
  induction d with
  | zero =>
    intro i hi
    apply Ev.succ
    simp only [laws_eqIntSS.l0.eq_2]
    exact Ev.neg (by omega) (Ev.now _)
  | succ d ihd =>
    intro i hi
    have hlt : i < l.length := by omega
    apply Ev.succ
    simp only [laws_eqIntSS.l0.eq_2]
    refine Ev.pos (by omega) (Ev.pos (by omega) (Ev.pos (by omega) ?_))
    rw [w64 (by omega) (by omega), rdL_get l i hlt]
    refine Ev.bind (laws_eqIntS_ev _ _ (by have := hw _ (List.getElem_mem hlt); omega)) (Ev.pos (by simp) ?_)
    exact ihd (i + 1) (by omega)
theorem laws_eqIntSS_ev (l : List (List Int)) (hl : l.length ≤ 1048576) (hw : ∀ y ∈ l, y.length ≤ 1048576) : Ev (fun k => laws_eqIntSS.f k l l) true := by
  simp only [laws_eqIntSS.f]
  exact Ev.pos trivial (laws_eqIntSS_l l hl hw l.length 0 (by omega))

theorem laws_markIntS_l (n : Nat) (a : Int) (ha0 : 0 ≤ a) (ha : a ≤ 1000000000000000) (hn : n ≤ 35184372088832) : ∀ (d i : Nat) (x0 : List Int), i + d = n → x0.length = n → Ev (fun k => laws_markIntS.l0 k x0 (a + i) i) (a + n, x0.take i ++ (marked n a).drop i) := by
  intro d
  induction d with
  | zero =>
    intro i x0 hi hx
    apply Ev.succ
    simp only [laws_markIntS.l0.eq_2]
    refine Ev.neg (by omega) (Ev.ret ?_)
    rw [List.drop_eq_nil_of_le (by rw [marked_length]; omega), List.take_of_length_le (by omega)]
    simp; omega
  | succ d ih =>
    intro i x0 hi hx
    apply Ev.succ
    simp only [laws_markIntS.l0.eq_2]
    refine Ev.pos (by omega) (Ev.pos (by omega) ?_)
    rw [w64 (by omega) (by omega), w64 (by omega) (by omega)]
    have e1 : a + (i : Int) + 1 = a + ((i + 1 : Nat) : Int) := by omega
    rw [e1]
    refine evTo (ih (i + 1) _ (by omega) (by simp [hx])) ?_
    refine congrArg (Prod.mk _) ?_
    rw [take_snoc _ i (by simp; omega), drop_cons (marked n a) i (by rw [marked_length]; omega)]
    simp [marked, List.take_set_of_le]
theorem laws_markIntS_ev (x0 : List Int) (a : Int) (ha0 : 0 ≤ a) (ha : a ≤ 1000000000000000) (hn : x0.length ≤ 35184372088832) : Ev (fun k => laws_markIntS.f k x0 a) (a + x0.length, marked x0.length a) := by
  have h := laws_markIntS_l x0.length a ha0 ha hn x0.length 0 x0 (by omega) rfl
  simp only [laws_markIntS.f]
  simpa using h

def markedR : List (List Int) → Int → List (List Int)
  | [], _ => []
  | x :: xs, a => marked x.length a :: markedR xs (a + x.length)
theorem laws_markIntSS_s : ∀ (l : List (List Int)) (a : Int) (_ : 0 ≤ a) (_ : a + tot l ≤ 1000000000000) (_ : ∀ y ∈ l, y.length ≤ 1048576), Ev (fun k => laws_markIntSS.s k l a) (a + tot l, markedR l a)
  | [], a, _, _, _ => Ev.ret (by simp [tot, markedR])
  | x :: xs, a, h0, h1, hw => by
    have hx := hw x (by simp)
    simp only [tot] at h1
    simp only [laws_markIntSS.s]
    refine Ev.bind (laws_markIntS_ev x a h0 (by omega) (by omega)) (Ev.bind (laws_markIntSS_s xs (a + x.length) (by omega) (by omega) (fun y hy => hw y (by simp [hy]))) (Ev.ret ?_))
    simp only [tot, markedR]
    congr 1
    omega
theorem laws_markIntSS_ev (l : List (List Int)) (a : Int) (h0 : 0 ≤ a) (h1 : a + tot l ≤ 1000000000000) (hw : ∀ y ∈ l, y.length ≤ 1048576) : Ev (fun k => laws_markIntSS.f k l a) (a + tot l) := by
  simp only [laws_markIntSS.f]
  exact Ev.bind (laws_markIntSS_s l a h0 h1 hw) (Ev.now _)

theorem laws_heldIntS_l (n : Nat) (a : Int) (ha0 : 0 ≤ a) (ha : a ≤ 1000000000000000) (hn : n ≤ 35184372088832) : ∀ (d i : Nat), i + d = n → Ev (fun k => laws_heldIntS.l0 k (marked n a) (a + i) i) (a + n) := by
  intro d
  induction d with
  | zero =>
    intro i hi
    apply Ev.succ
    simp only [laws_heldIntS.l0.eq_2, marked_length]
    refine Ev.neg (by omega) (Ev.ret (by omega))
  | succ d ih =>
    intro i hi
    apply Ev.succ
    simp only [laws_heldIntS.l0.eq_2, marked_length]
    refine Ev.pos (by omega) (Ev.pos (by omega) (Ev.pos ?_ ?_))
    · rw [rd_get _ i (by rw [marked_length]; omega)]; simp [marked]
    · rw [w64 (by omega) (by omega), w64 (by omega) (by omega)]
      have e1 : a + (i : Int) + 1 = a + ((i + 1 : Nat) : Int) := by omega
      rw [e1]
      exact ih (i + 1) (by omega)
theorem laws_heldIntS_ev (n : Nat) (a : Int) (ha0 : 0 ≤ a) (ha : a ≤ 1000000000000000) (hn : n ≤ 35184372088832) : Ev (fun k => laws_heldIntS.f k (marked n a) a) (a + n) := by
  have h := laws_heldIntS_l n a ha0 ha hn n 0 (by omega)
  simp only [laws_heldIntS.f]
  simpa using h

end Go.Proofs.Ytffohdlbkigehaa.LemFnExactOutcomeOf

/- Lemmas: what each function that this statement reaches computes. -/
import Derived.Test.YteedicdanhjfpaaHFnExactHasSquarex2
import Derived.Test.YteedicdanhjfpaaBase
import Derived.Test.YteedicdanhjfpaaThueM
set_option linter.unusedVariables false
set_option linter.unusedSimpArgs false
namespace Go.Proofs.Yteedicdanhjfpaa.LemFnExactHasSquare
open Go.RowKit Go.Proofs.YteedicdanhjfpaaW.PrintWords Go.Proofs.YteedicdanhjfpaaW.PrintLast Go.Proofs.YteedicdanhjfpaaW.PrintMore Go.Proofs.Yteedicdanhjfpaa.HFnExactHasSquare Go.Proofs.Yteedicdanhjfpaa.Base

/-- A part of this size that ends right before e is preceded by an equal part. -/
def Win (l : List Int) (s e : Nat) : Prop := 2 * s ≤ e ∧ e ≤ l.length ∧ ∀ p, e - s ≤ p → p < e → l[p]? = l[p - s]?
theorem Win.sq {l : List Int} {s e : Nat} (hs : 1 ≤ s) (h : Win l s e) : Sq l := by
  refine ⟨e - 2 * s, s, hs, by have := h.1; have := h.2.1; omega, fun j hj => ?_⟩
  have h1 := h.1
  have h2 := h.2.2 (e - s + j) (by omega) (by omega)
  have e1 : e - s + j - s = e - 2 * s + j := by omega
  have e2 : e - 2 * s + s + j = e - s + j := by omega
  rw [e1] at h2
  rw [e2]; exact h2.symm
theorem sq_win {l : List Int} (h : Sq l) : ∃ s e, 1 ≤ s ∧ Win l s e := by
  obtain ⟨i, s, h1, h2, h3⟩ := h
  refine ⟨s, i + 2 * s, h1, by omega, h2, fun p hp hp2 => ?_⟩
  have := h3 (p - s - i) (by omega)
  have e1 : i + (p - s - i) = p - s := by omega
  have e2 : i + s + (p - s - i) = p := by omega
  rw [e1, e2] at this
  exact this.symm
theorem impl_HasSquare_l1 (l : List Int) (hn : l.length ≤ 4000000000) (s : Nat) (hs : 1 ≤ s) (hs2 : 2 * s ≤ l.length)
    (next : (∀ e, ¬ Win l s e) → ∃ b, Ev (fun k => impl_HasSquare.l0 k l ((s + 1 : Nat) : Int)) b ∧ (b = true ↔ Sq l)) :
    ∀ (d i r : Nat), i + d = l.length → s ≤ i → r < s → r ≤ i - s → (∀ p, i - r ≤ p → p < i → l[p]? = l[p - s]?) → (r = i - s ∨ ¬ l[i - r - 1]? = l[i - r - 1 - s]?) → (∀ e, e ≤ i → ¬ Win l s e) →
      ∃ b, Ev (fun k => impl_HasSquare.l1 k l s r i) b ∧ (b = true ↔ Sq l) := by
  intro d
  induction d with
  | zero =>
    intro i r hi h1 h2 h3 h4 h5 h6
    obtain ⟨b, hb, hq⟩ := next (fun e he => h6 e (by have := he.2.1; omega) he)
    refine ⟨b, ?_, hq⟩
    apply Ev.succ
    simp only [impl_HasSquare.l1.eq_2]
    refine Ev.neg (by omega) ?_
    rw [w64 (by omega) (by omega)]
    exact hb
  | succ d ih =>
    intro i r hi h1 h2 h3 h4 h5 h6
    have e1 : (i : Int) - (s : Int) = ((i - s : Nat) : Int) := by omega
    have g1 : l[i]? = some l[i] := List.getElem?_eq_getElem (by omega)
    have g2 : l[i - s]? = some l[i - s] := List.getElem?_eq_getElem (by omega)
    by_cases c : l[i] = l[i - s]
    · have c' : l[i]? = l[i - s]? := by rw [g1, g2, c]
      have h4' : ∀ p, i + 1 - (r + 1) ≤ p → p < i + 1 → l[p]? = l[p - s]? := by
        intro p hp hp2
        by_cases e : p = i
        · rw [e]; exact c'
        · exact h4 p (by omega) (by omega)
      by_cases f : r + 1 = s
      · refine ⟨true, ?_, ⟨fun _ => ?_, fun _ => rfl⟩⟩
        · apply Ev.succ
          simp only [impl_HasSquare.l1.eq_2]
          rw [w64 (n := (i : Int) - s) (by omega) (by omega), e1, rd_get l i (by omega), rd_get l (i - s) (by omega), w64 (n := (r : Int) + 1) (by omega) (by omega)]
          refine Ev.pos (by omega) (Ev.pos (by omega) (Ev.pos (by omega) (Ev.pos (by omega) (Ev.pos c (Ev.pos (by omega) (Ev.now _))))))
        · have hw : Win l s (i + 1) := ⟨by omega, by omega, fun p hp hp2 => h4' p (by omega) hp2⟩
          exact hw.sq hs
      · obtain ⟨b, hb, hq⟩ := ih (i + 1) (r + 1) (by omega) (by omega) (by omega) (by omega) h4' (by
            rcases h5 with h5 | h5
            · left; omega
            · right; rw [show i + 1 - (r + 1) - 1 = i - r - 1 by omega]; exact h5) (by
            intro e he hw
            by_cases e2 : e ≤ i
            · exact h6 e e2 hw
            · have e3 : e = i + 1 := by omega
              subst e3
              rcases h5 with h5 | h5
              · have := hw.1; omega
              · by_cases h7 : r = i - s
                · have := hw.1; omega
                · exact h5 (hw.2.2 (i - r - 1) (by omega) (by omega)))
        refine ⟨b, ?_, hq⟩
        apply Ev.succ
        simp only [impl_HasSquare.l1.eq_2]
        rw [w64 (n := (i : Int) - s) (by omega) (by omega), e1, rd_get l i (by omega), rd_get l (i - s) (by omega), w64 (n := (r : Int) + 1) (by omega) (by omega), w64 (n := (i : Int) + 1) (by omega) (by omega)]
        refine Ev.pos (by omega) (Ev.pos (by omega) (Ev.pos (by omega) (Ev.pos (by omega) (Ev.pos c (Ev.neg (by omega) ?_)))))
        exact hb
    · have c' : ¬ l[i]? = l[i - s]? := by rw [g1, g2]; intro e; exact c (Option.some.inj e)
      obtain ⟨b, hb, hq⟩ := ih (i + 1) 0 (by omega) (by omega) (by omega) (by omega) (fun p hp hp2 => by omega) (by
          right; rw [show i + 1 - 0 - 1 = i by omega]; exact c') (by
          intro e he hw
          by_cases e2 : e ≤ i
          · exact h6 e e2 hw
          · have e3 : e = i + 1 := by omega
            subst e3
            exact c' (hw.2.2 i (by omega) (by omega)))
      refine ⟨b, ?_, hq⟩
      apply Ev.succ
      simp only [impl_HasSquare.l1.eq_2]
      rw [w64 (n := (i : Int) - s) (by omega) (by omega), e1, rd_get l i (by omega), rd_get l (i - s) (by omega), w64 (n := (i : Int) + 1) (by omega) (by omega)]
      refine Ev.pos (by omega) (Ev.pos (by omega) (Ev.pos (by omega) (Ev.pos (by omega) (Ev.neg c (Ev.neg (by omega) ?_)))))
      exact hb
theorem impl_HasSquare_l0 (l : List Int) (hn : l.length ≤ 4000000000) : ∀ (d s : Nat), s + d = l.length + 1 → 1 ≤ s → (∀ s', s' < s → 1 ≤ s' → ∀ e, ¬ Win l s' e) → ∃ b, Ev (fun k => impl_HasSquare.l0 k l s) b ∧ (b = true ↔ Sq l) := by
  intro d
  induction d with
  | zero =>
    intro s hs h1 h
    refine ⟨false, ?_, ⟨(fun h => by cases h), fun hq => ?_⟩⟩
    · apply Ev.succ
      simp only [impl_HasSquare.l0.eq_2]
      rw [w64 (by omega) (by omega)]
      exact Ev.neg (by omega) (Ev.now _)
    · obtain ⟨s', e, h2, h3⟩ := sq_win hq
      exact absurd h3 (h s' (by have := h3.1; have := h3.2.1; omega) h2 e)
  | succ d ih =>
    intro s hs h1 h
    by_cases c : 2 * s ≤ l.length
    · have hl := impl_HasSquare_l1 l hn s h1 c (fun hno => ih (s + 1) (by omega) (by omega) (fun s' hs' h2 => by
          by_cases e : s' = s
          · rw [e]; exact hno
          · exact h s' (by omega) h2)) (l.length - s) s 0 (by omega) (by omega) (by omega) (by omega) (fun p hp hp2 => by omega) (by left; omega) (fun e he hw => by have := hw.1; omega)
      obtain ⟨b, hb, hq⟩ := hl
      refine ⟨b, ?_, hq⟩
      apply Ev.succ
      simp only [impl_HasSquare.l0.eq_2]
      rw [w64 (by omega) (by omega)]
      exact Ev.pos (by omega) hb
    · refine ⟨false, ?_, ⟨(fun h => by cases h), fun hq => ?_⟩⟩
      · apply Ev.succ
        simp only [impl_HasSquare.l0.eq_2]
        rw [w64 (by omega) (by omega)]
        exact Ev.neg (by omega) (Ev.now _)
      · obtain ⟨s', e, h2, h3⟩ := sq_win hq
        exact absurd h3 (h s' (by have := h3.1; have := h3.2.1; omega) h2 e)
theorem impl_HasSquare_ev (l : List Int) (hn : l.length ≤ 4000000000) : ∃ b, Ev (fun k => impl_HasSquare.f k l) b ∧ (b = true ↔ Sq l) := by
  simp only [impl_HasSquare.f]
  exact impl_HasSquare_l0 l hn l.length 1 (by omega) (by omega) (fun s' h1 h2 => by omega)

theorem spec_l8Equal_l (x0 x1 : List Int) (hl : x0.length = x1.length) (hn : x0.length ≤ 35184372088832) : ∀ (d i : Nat), i + d = x0.length → Ev (fun k => spec_l8Equal.l0 k x0 x1 x0.length i) (decide (x0.drop i = x1.drop i)) := by
  intro d
  induction d with
  | zero =>
    intro i hi
    apply Ev.succ
    simp only [spec_l8Equal.l0.eq_2]
    refine Ev.neg (by omega) (Ev.ret ?_)
    rw [List.drop_eq_nil_of_le (by omega), List.drop_eq_nil_of_le (by omega)]; simp
  | succ d ih =>
    intro i hi
    apply Ev.succ
    simp only [spec_l8Equal.l0.eq_2]
    refine Ev.pos (by omega) (Ev.pos (by omega) (Ev.pos (by omega) (Ev.pos (by omega) ?_)))
    rw [rd_get x0 i (by omega), rd_get x1 i (by omega), drop_cons x0 i (by omega), drop_cons x1 i (by omega)]
    refine Ev.ite (fun h => ?_) (fun h => ?_)
    · rw [w64 (by omega) (by omega)]
      exact evTo (ih (i + 1) (by omega)) (by simp only [List.cons.injEq, h, true_and])
    · exact Ev.ret (by simp only [List.cons.injEq, h, false_and, decide_false])
theorem spec_l8Equal_ev (x0 x1 : List Int) (hn : x0.length ≤ 35184372088832) : Ev (fun k => spec_l8Equal.f k x0 x1) (decide (x0 = x1)) := by
  simp only [spec_l8Equal.f]
  refine Ev.ite (fun h => ?_) (fun h => Ev.ret ?_)
  · exact evTo (spec_l8Equal_l x0 x1 (by omega) hn x0.length 0 (by omega)) (by simp)
  · symm; rw [decide_eq_false_iff_not]; intro e; rw [e] at h; exact h rfl

theorem cut_get (l : List Int) (a b j : Nat) (hb : a + j < b) : ((l.take b).drop a)[j]? = l[a + j]? := by
  rw [List.getElem?_drop, List.getElem?_take_of_lt hb]
theorem spec_HasSquare_l1 (l : List Int) (hn : l.length ≤ 4000000000) (i : Nat) (hi : i ≤ l.length)
    (next : (∀ s, 1 ≤ s → i + 2 * s ≤ l.length → ¬ ∀ j, j < s → l[i + j]? = l[i + s + j]?) → ∃ b, Ev (fun k => spec_HasSquare.l0 k l l.length ((i + 1 : Nat) : Int)) b ∧ (b = true ↔ Sq l)) :
    ∀ (d s : Nat), s + d = l.length + 1 → 1 ≤ s → (∀ s', s' < s → 1 ≤ s' → i + 2 * s' ≤ l.length → ¬ ∀ j, j < s' → l[i + j]? = l[i + s' + j]?) →
      ∃ b, Ev (fun k => spec_HasSquare.l1 k l i s l.length i) b ∧ (b = true ↔ Sq l) := by
  intro d
  induction d with
  | zero =>
    intro s hs h1 h
    obtain ⟨b, hb, hq⟩ := next (fun s' h2 h3 => h s' (by omega) h2 h3)
    refine ⟨b, ?_, hq⟩
    apply Ev.succ
    simp only [spec_HasSquare.l1.eq_2]
    rw [w64 (n := 2 * (s : Int)) (by omega) (by omega), w64 (n := (i : Int) + 2 * (s : Int)) (by omega) (by omega), w64 (n := (i : Int) + 1) (by omega) (by omega)]
    exact Ev.neg (by omega) hb
  | succ d ih =>
    intro s hs h1 h
    by_cases c : i + 2 * s ≤ l.length
    · have e1 : ((i : Int) + (s : Int)).toNat = i + s := by omega
      have e2 : ((i : Int) + 2 * (s : Int)).toNat = i + 2 * s := by omega
      have e3 : ((i : Int)).toNat = i := by omega
      have hl1 : ((l.take (i + s)).drop i).length = s := by rw [List.length_drop, List.length_take]; omega
      have hl2 : ((l.take (i + 2 * s)).drop (i + s)).length = s := by rw [List.length_drop, List.length_take]; omega
      have hev := spec_l8Equal_ev ((l.take (i + s)).drop i) ((l.take (i + 2 * s)).drop (i + s)) (by omega)
      have hiff : (((l.take (i + s)).drop i) = ((l.take (i + 2 * s)).drop (i + s))) ↔ ∀ j, j < s → l[i + j]? = l[i + s + j]? := by
        constructor
        · intro e j hj
          have := congrArg (fun z => z[j]?) e
          rw [cut_get l i (i + s) j (by omega), cut_get l (i + s) (i + 2 * s) j (by omega)] at this
          exact this
        · intro e
          apply List.ext_getElem?
          intro j
          by_cases hj : j < s
          · rw [cut_get l i (i + s) j (by omega), cut_get l (i + s) (i + 2 * s) j (by omega)]
            exact e j hj
          · rw [List.getElem?_eq_none (by omega), List.getElem?_eq_none (by omega)]
      by_cases q : ((l.take (i + s)).drop i) = ((l.take (i + 2 * s)).drop (i + s))
      · refine ⟨true, ?_, ⟨fun _ => ⟨i, s, h1, c, hiff.1 q⟩, fun _ => rfl⟩⟩
        apply Ev.succ
        simp only [spec_HasSquare.l1.eq_2]
        rw [w64 (n := 2 * (s : Int)) (by omega) (by omega), w64 (n := (i : Int) + 2 * (s : Int)) (by omega) (by omega), w64 (n := (i : Int) + (s : Int)) (by omega) (by omega), e1, e2, e3]
        refine Ev.pos (by omega) (Ev.pos (by omega) (Ev.pos (by omega) (Ev.pos (by omega) (Ev.pos (by omega) (Ev.pos (by omega) ?_)))))
        refine Ev.bind hev ?_
        exact Ev.pos (by simpa using q) (Ev.now _)
      · obtain ⟨b, hb, hq⟩ := ih (s + 1) (by omega) (by omega) (fun s' hs' h2 h3 => by
            by_cases e : s' = s
            · rw [e]; exact fun z => q (hiff.2 z)
            · exact h s' (by omega) h2 h3)
        refine ⟨b, ?_, hq⟩
        apply Ev.succ
        simp only [spec_HasSquare.l1.eq_2]
        rw [w64 (n := 2 * (s : Int)) (by omega) (by omega), w64 (n := (i : Int) + 2 * (s : Int)) (by omega) (by omega), w64 (n := (i : Int) + (s : Int)) (by omega) (by omega), e1, e2, e3]
        refine Ev.pos (by omega) (Ev.pos (by omega) (Ev.pos (by omega) (Ev.pos (by omega) (Ev.pos (by omega) (Ev.pos (by omega) ?_)))))
        refine Ev.bind hev ?_
        refine Ev.neg (by simpa using q) ?_
        rw [w64 (n := (s : Int) + 1) (by omega) (by omega)]
        exact hb
    · obtain ⟨b, hb, hq⟩ := next (fun s' h2 h3 => h s' (by omega) h2 h3)
      refine ⟨b, ?_, hq⟩
      apply Ev.succ
      simp only [spec_HasSquare.l1.eq_2]
      rw [w64 (n := 2 * (s : Int)) (by omega) (by omega), w64 (n := (i : Int) + 2 * (s : Int)) (by omega) (by omega), w64 (n := (i : Int) + 1) (by omega) (by omega)]
      exact Ev.neg (by omega) hb
theorem spec_HasSquare_l0 (l : List Int) (hn : l.length ≤ 4000000000) : ∀ (d i : Nat), i + d = l.length → (∀ i', i' < i → ∀ s, 1 ≤ s → i' + 2 * s ≤ l.length → ¬ ∀ j, j < s → l[i' + j]? = l[i' + s + j]?) → ∃ b, Ev (fun k => spec_HasSquare.l0 k l l.length i) b ∧ (b = true ↔ Sq l) := by
  intro d
  induction d with
  | zero =>
    intro i hi h
    refine ⟨false, ?_, ⟨(fun h => by cases h), fun hq => ?_⟩⟩
    · apply Ev.succ
      simp only [spec_HasSquare.l0.eq_2]
      exact Ev.neg (by omega) (Ev.now _)
    · obtain ⟨i', s, h1, h2, h3⟩ := hq
      exact absurd h3 (h i' (by omega) s h1 h2)
  | succ d ih =>
    intro i hi h
    obtain ⟨b, hb, hq⟩ := spec_HasSquare_l1 l hn i (by omega) (fun hno => ih (i + 1) (by omega) (fun i' h1 => by
        by_cases e : i' = i
        · rw [e]; exact hno
        · exact h i' (by omega))) l.length 1 (by omega) (by omega) (fun s' h1 h2 => by omega)
    refine ⟨b, ?_, hq⟩
    apply Ev.succ
    simp only [spec_HasSquare.l0.eq_2]
    exact Ev.pos (by omega) hb
theorem spec_HasSquare_ev (l : List Int) (hn : l.length ≤ 4000000000) : ∃ b, Ev (fun k => spec_HasSquare.f k l) b ∧ (b = true ↔ Sq l) := by
  simp only [spec_HasSquare.f]
  exact spec_HasSquare_l0 l hn l.length 0 (by omega) (fun i' h => by omega)

theorem laws_toIntS_l (x0 : List Int) (hn : x0.length ≤ 35184372088832) : ∀ (d i : Nat) (x3 : List Int), i + d = x0.length → x3.length = x0.length → x3.take i = x0.take i → Ev (fun k => laws_toIntS.l0 k x0 x3 i) x0 := by
  intro d
  induction d with
  | zero =>
    intro i x3 hi hx ht
    apply Ev.succ
    simp only [laws_toIntS.l0.eq_2]
    refine Ev.neg (by omega) (Ev.ret ?_)
    rwa [List.take_of_length_le (by omega), List.take_of_length_le (by omega)] at ht
  | succ d ih =>
    intro i x3 hi hx ht
    apply Ev.succ
    simp only [laws_toIntS.l0.eq_2]
    refine Ev.pos (by omega) (Ev.pos (by omega) (Ev.pos (by omega) ?_))
    rw [w64 (by omega) (by omega), rd_get x0 i (by omega)]
    refine ih (i + 1) _ (by omega) (by simp [hx]) ?_
    rw [take_snoc _ i (by simp; omega), take_snoc x0 i (by omega)]
    simp [List.take_set_of_le, ht]
theorem laws_toIntS_ev (x0 : List Int) (hn : x0.length ≤ 35184372088832) : Ev (fun k => laws_toIntS.f k x0) x0 := by
  simp only [laws_toIntS.f]
  refine Ev.pos (by omega) (Ev.pos (by omega) ?_)
  exact laws_toIntS_l x0 hn x0.length 0 _ (by omega) (by simp) (by simp)

theorem laws_eqIntS_l (x0 x1 : List Int) (hl : x0.length = x1.length) (hn : x0.length ≤ 35184372088832) : ∀ (d i : Nat), i + d = x0.length → Ev (fun k => laws_eqIntS.l0 k x0 x1 i) (decide (x0.drop i = x1.drop i)) := by
  intro d
  induction d with
  | zero =>
    intro i hi
    apply Ev.succ
    simp only [laws_eqIntS.l0.eq_2]
    refine Ev.neg (by omega) (Ev.ret ?_)
    rw [List.drop_eq_nil_of_le (by omega), List.drop_eq_nil_of_le (by omega)]; simp
  | succ d ih =>
    intro i hi
    apply Ev.succ
    simp only [laws_eqIntS.l0.eq_2]
    refine Ev.pos (by omega) (Ev.pos (by omega) (Ev.pos (by omega) ?_))
    rw [rd_get x0 i (by omega), rd_get x1 i (by omega), drop_cons x0 i (by omega), drop_cons x1 i (by omega)]
    refine Ev.ite (fun h => ?_) (fun h => ?_)
    · rw [w64 (by omega) (by omega)]
      exact evTo (ih (i + 1) (by omega)) (by simp only [List.cons.injEq, h, true_and])
    · exact Ev.ret (by simp only [List.cons.injEq, h, false_and, decide_false])
theorem laws_eqIntS_ev (x0 x1 : List Int) (hn : x0.length ≤ 35184372088832) : Ev (fun k => laws_eqIntS.f k x0 x1) (decide (x0 = x1)) := by
  simp only [laws_eqIntS.f]
  refine Ev.ite (fun h => ?_) (fun h => Ev.ret ?_)
  · exact evTo (laws_eqIntS_l x0 x1 (by omega) hn x0.length 0 (by omega)) (by simp)
  · symm; rw [decide_eq_false_iff_not]; intro e; rw [e] at h; exact h rfl

end Go.Proofs.Yteedicdanhjfpaa.LemFnExactHasSquare

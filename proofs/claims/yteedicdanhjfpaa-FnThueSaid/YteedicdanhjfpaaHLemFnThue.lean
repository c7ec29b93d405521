/- Lemmas: what each function that this statement reaches computes. -/
import Derived.Test.YteedicdanhjfpaaHFnThuex2
import Derived.Test.YteedicdanhjfpaaBase
import Derived.Test.YteedicdanhjfpaaThueM
set_option linter.unusedVariables false
set_option linter.unusedSimpArgs false
namespace Go.Proofs.Yteedicdanhjfpaa.LemFnThue
open Go.RowKit Go.Proofs.YteedicdanhjfpaaW.PrintWords Go.Proofs.YteedicdanhjfpaaW.PrintLast Go.Proofs.YteedicdanhjfpaaW.PrintMore Go.Proofs.Yteedicdanhjfpaa.HFnThue Go.Proofs.Yteedicdanhjfpaa.Base

def atv (l : List Int) (i : Nat) : Int := if i < l.length then rd l i else ((i : Int) * 37 + l.length * 11) % 256
theorem atv_range (l : List Int) (i : Nat) (h : ∀ x ∈ l, (Lit.int .u8 x).wf = true) : 0 ≤ atv l i ∧ atv l i < 256 := by
  unfold atv
  by_cases hi : i < l.length
  · rw [if_pos hi]
    exact wf8 (h _ (rd_mem (by omega) (by omega)))
  · rw [if_neg hi]; omega
theorem laws_at_eq (l : List Int) (i : Nat) (hn : l.length ≤ 1048576) (hi : i ≤ 100) (h : ∀ x ∈ l, (Lit.int .u8 x).wf = true) : laws_at.f l (i : Int) = some (atv l i) := by
  unfold laws_at.f atv
  by_cases hi : i < l.length
  · rw [if_pos (by omega), if_pos (by omega), if_pos hi]
    have := wf8 (h _ (rd_mem (xs := l) (i := i) (by omega) (by omega)))
    rw [w64 (by omega) (by omega)]
  · rw [if_neg (by omega), if_neg hi]
    rw [w64 (n := (i : Int) * 37) (by omega) (by omega), w64 (n := (l.length : Int) * 11) (by omega) (by omega), w64 (by omega) (by omega), Int.tmod_eq_emod_of_nonneg (by omega)]

theorem impl_ThueTrits_l1 (n : Int) (x : List Int) (hx : x.length ≤ 3000) (r : List Int × Bool) (h : Ev (fun k => impl_ThueTrits.l0 k n (nextT x)) r) : ∀ (d i : Nat), i + d = x.length → Ev (fun k => impl_ThueTrits.l1 k n (nextT (x.take i)) x x.length i) r := by
  intro d
  induction d with
  | zero =>
    intro i hi
    apply Ev.succ
    simp only [impl_ThueTrits.l1.eq_2]
    refine Ev.neg (by omega) ?_
    rwa [List.take_of_length_le (by omega)]
  | succ d ih =>
    intro i hi
    apply Ev.succ
    simp only [impl_ThueTrits.l1.eq_2]
    refine Ev.pos (by omega) (Ev.pos (by omega) (Ev.pos (by omega) ?_))
    have h2 := ih (i + 1) (by omega)
    rw [take_snoc x i (by omega), nextT_append] at h2
    have e : nextT [x[i]] = sub3 x[i] := by simp [nextT]
    rw [e, sub3] at h2
    have hl := (nextT_length (x.take i)).2
    have hl2 : (x.take i).length ≤ 3000 := by simp; omega
    rw [rd_get x i (by omega), w64 (by omega) (by omega)]
    refine Ev.ite (fun c => ?_) (fun c => Ev.ite (fun c1 => ?_) (fun c1 => ?_))
    · simp only [Option.bind_some]
      rw [if_pos c] at h2
      exact Ev.pos (by simp; omega) h2
    · simp only [Option.bind_some]
      rw [if_neg c, if_pos c1] at h2
      exact Ev.pos (by simp; omega) h2
    · rw [if_neg c, if_neg c1] at h2
      exact Ev.pos (by omega) h2
theorem impl_ThueTrits_l0 (n : Nat) (hn : n ≤ 768) : ∀ (d j : Nat), j + d = 9 → Ev (fun k => impl_ThueTrits.l0 k n (thueT j)) ((thueT 9).take n, true) := by
  intro d
  induction d with
  | zero =>
    intro j hj
    obtain rfl : j = 9 := by omega
    apply Ev.succ
    simp only [impl_ThueTrits.l0.eq_2, thueT_length9]
    refine Ev.neg (by omega) (Ev.pos (by omega) (Ev.pos (by omega) (Ev.ret ?_)))
    simp
  | succ d ih =>
    intro j hj
    apply Ev.succ
    simp only [impl_ThueTrits.l0.eq_2]
    have hp := thueT_prefix j (9 - j)
    rw [show j + (9 - j) = 9 by omega] at hp
    have hl := hp.length_le
    rw [thueT_length9] at hl
    refine Ev.ite (fun c => ?_) (fun c => ?_)
    · have h := ih (j + 1) (by omega)
      exact impl_ThueTrits_l1 n (thueT j) (by omega) _ h (thueT j).length 0 (by omega)
    · refine Ev.pos (by omega) (Ev.pos (by omega) (Ev.ret ?_))
      rw [take_of_prefix hp (by omega)]; simp
/-- What ThueTrits gives. -/
def thueV (n : Int) : List Int × Bool := if 0 ≤ n ∧ n ≤ 500 then ((thueT 9).take n.toNat, true) else ([], false)
theorem impl_ThueTrits_ev (n : Int) : Ev (fun k => impl_ThueTrits.f k n) (thueV n) := by
  simp only [impl_ThueTrits.f]
  have no : ¬ (0 ≤ n ∧ n ≤ 500) → Ev (fun k => impl_ThueTrits.j0 k n true) (thueV n) := by
    intro h
    apply Ev.succ
    simp only [impl_ThueTrits.j0.eq_2]
    refine Ev.pos (by simp) (Ev.ret ?_)
    unfold thueV; rw [if_neg h]
  refine Ev.ite (fun h => no (by omega)) (fun h => ?_)
  by_cases h1 : n > 500
  · rw [decide_eq_true h1]; exact no (by omega)
  · rw [decide_eq_false h1]
    apply Ev.succ
    simp only [impl_ThueTrits.j0.eq_2]
    refine Ev.neg (by simp) ?_
    have hl := impl_ThueTrits_l0 n.toNat (by omega) 9 0 (by omega)
    rw [show ((n.toNat : Nat) : Int) = n by omega] at hl
    unfold thueV; rw [if_pos ⟨by omega, by omega⟩]
    exact hl

theorem laws_ints_l (x0 x1 : List Int) (hl : x0.length = x1.length) (hn : x0.length ≤ 35184372088832) : ∀ (d i : Nat), i + d = x0.length → Ev (fun k => laws_ints.l0 k x0 x1 x0.length i) (decide (x0.drop i = x1.drop i)) := by
  intro d
  induction d with
  | zero =>
    intro i hi
    apply Ev.succ
    simp only [laws_ints.l0.eq_2]
    refine Ev.neg (by omega) (Ev.ret ?_)
    rw [List.drop_eq_nil_of_le (by omega), List.drop_eq_nil_of_le (by omega)]; simp
  | succ d ih =>
    intro i hi
    apply Ev.succ
    simp only [laws_ints.l0.eq_2]
    refine Ev.pos (by omega) (Ev.pos (by omega) (Ev.pos (by omega) (Ev.pos (by omega) ?_)))
    rw [rd_get x0 i (by omega), rd_get x1 i (by omega), drop_cons x0 i (by omega), drop_cons x1 i (by omega)]
    refine Ev.ite (fun h => ?_) (fun h => ?_)
    · rw [w64 (by omega) (by omega)]
      exact evTo (ih (i + 1) (by omega)) (by simp only [List.cons.injEq, h, true_and])
    · exact Ev.ret (by simp only [List.cons.injEq, h, false_and, decide_false])
theorem laws_ints_ev (x0 x1 : List Int) (hn : x0.length ≤ 35184372088832) : Ev (fun k => laws_ints.f k x0 x1) (decide (x0 = x1)) := by
  simp only [laws_ints.f]
  refine Ev.ite (fun h => ?_) (fun h => Ev.ret ?_)
  · exact evTo (laws_ints_l x0 x1 (by omega) hn x0.length 0 (by omega)) (by simp)
  · symm; rw [decide_eq_false_iff_not]; intro e; rw [e] at h; exact h rfl

/-- A part of this size that ends right before e is preceded by an equal part. -/
def Win (l : List Int) (s e : Nat) : Prop := 2 * s ≤ e ∧ e ≤ l.length ∧ ∀ p, e - s ≤ p → p < e → l[p]? = l[p - s]?
theorem Win.sq {l : List Int} {s e : Nat} (hs : 1 ≤ s) (h : Win l s e) : Sq l := by
  refine ⟨e - 2 * s, s, hs, by have := h.1; have := h.2.1; omega, fun j hj => ?_⟩
  have h1 := h.1
  have h2 := h.2.2 (e - s + j) (by omega) (by omega)
  have e1 : e - s + j - s = e - 2 * s + j := by omega
  have e2 : e - 2 * s + s + j = e - s + j := by omega
  rw [e1] at h2
  rw [e2]; exact h2.symm
theorem sq_win {l : List Int} (h : Sq l) : ∃ s e, 1 ≤ s ∧ Win l s e := by
  obtain ⟨i, s, h1, h2, h3⟩ := h
  refine ⟨s, i + 2 * s, h1, by omega, h2, fun p hp hp2 => ?_⟩
  have := h3 (p - s - i) (by omega)
  have e1 : i + (p - s - i) = p - s := by omega
  have e2 : i + s + (p - s - i) = p := by omega
  rw [e1, e2] at this
  exact this.symm
theorem impl_HasSquare_l1 (l : List Int) (hn : l.length ≤ 4000000000) (s : Nat) (hs : 1 ≤ s) (hs2 : 2 * s ≤ l.length)
    (next : (∀ e, ¬ Win l s e) → ∃ b, Ev (fun k => impl_HasSquare.l0 k l ((s + 1 : Nat) : Int)) b ∧ (b = true ↔ Sq l)) :
    ∀ (d i r : Nat), i + d = l.length → s ≤ i → r < s → r ≤ i - s → (∀ p, i - r ≤ p → p < i → l[p]? = l[p - s]?) → (r = i - s ∨ ¬ l[i - r - 1]? = l[i - r - 1 - s]?) → (∀ e, e ≤ i → ¬ Win l s e) →
      ∃ b, Ev (fun k => impl_HasSquare.l1 k l s r i) b ∧ (b = true ↔ Sq l) := by
  intro d
  induction d with
  | zero =>
    intro i r hi h1 h2 h3 h4 h5 h6
    obtain ⟨b, hb, hq⟩ := next (fun e he => h6 e (by have := he.2.1; omega) he)
    refine ⟨b, ?_, hq⟩
    apply Ev.succ
    simp only [impl_HasSquare.l1.eq_2]
    refine Ev.neg (by omega) ?_
    rw [w64 (by omega) (by omega)]
    exact hb
  | succ d ih =>
    intro i r hi h1 h2 h3 h4 h5 h6
    have e1 : (i : Int) - (s : Int) = ((i - s : Nat) : Int) := by omega
    have g1 : l[i]? = some l[i] := List.getElem?_eq_getElem (by omega)
    have g2 : l[i - s]? = some l[i - s] := List.getElem?_eq_getElem (by omega)
    by_cases c : l[i] = l[i - s]
    · have c' : l[i]? = l[i - s]? := by rw [g1, g2, c]
      have h4' : ∀ p, i + 1 - (r + 1) ≤ p → p < i + 1 → l[p]? = l[p - s]? := by
        intro p hp hp2
        by_cases e : p = i
        · rw [e]; exact c'
        · exact h4 p (by omega) (by omega)
      by_cases f : r + 1 = s
      · refine ⟨true, ?_, ⟨fun _ => ?_, fun _ => rfl⟩⟩
        · apply Ev.succ
          simp only [impl_HasSquare.l1.eq_2]
          rw [w64 (n := (i : Int) - s) (by omega) (by omega), e1, rd_get l i (by omega), rd_get l (i - s) (by omega), w64 (n := (r : Int) + 1) (by omega) (by omega)]
          refine Ev.pos (by omega) (Ev.pos (by omega) (Ev.pos (by omega) (Ev.pos (by omega) (Ev.pos c (Ev.pos (by omega) (Ev.now _))))))
        · have hw : Win l s (i + 1) := ⟨by omega, by omega, fun p hp hp2 => h4' p (by omega) hp2⟩
          exact hw.sq hs
      · obtain ⟨b, hb, hq⟩ := ih (i + 1) (r + 1) (by omega) (by omega) (by omega) (by omega) h4' (by
            rcases h5 with h5 | h5
            · left; omega
            · right; rw [show i + 1 - (r + 1) - 1 = i - r - 1 by omega]; exact h5) (by
            intro e he hw
            by_cases e2 : e ≤ i
            · exact h6 e e2 hw
            · have e3 : e = i + 1 := by omega
              subst e3
              rcases h5 with h5 | h5
              · have := hw.1; omega
              · by_cases h7 : r = i - s
                · have := hw.1; omega
                · exact h5 (hw.2.2 (i - r - 1) (by omega) (by omega)))
        refine ⟨b, ?_, hq⟩
        apply Ev.succ
        simp only [impl_HasSquare.l1.eq_2]
        rw [w64 (n := (i : Int) - s) (by omega) (by omega), e1, rd_get l i (by omega), rd_get l (i - s) (by omega), w64 (n := (r : Int) + 1) (by omega) (by omega), w64 (n := (i : Int) + 1) (by omega) (by omega)]
        refine Ev.pos (by omega) (Ev.pos (by omega) (Ev.pos (by omega) (Ev.pos (by omega) (Ev.pos c (Ev.neg (by omega) ?_)))))
        exact hb
    · have c' : ¬ l[i]? = l[i - s]? := by rw [g1, g2]; intro e; exact c (Option.some.inj e)
      obtain ⟨b, hb, hq⟩ := ih (i + 1) 0 (by omega) (by omega) (by omega) (by omega) (fun p hp hp2 => by omega) (by
          right; rw [show i + 1 - 0 - 1 = i by omega]; exact c') (by
          intro e he hw
          by_cases e2 : e ≤ i
          · exact h6 e e2 hw
          · have e3 : e = i + 1 := by omega
            subst e3
            exact c' (hw.2.2 i (by omega) (by omega)))
      refine ⟨b, ?_, hq⟩
      apply Ev.succ
      simp only [impl_HasSquare.l1.eq_2]
      rw [w64 (n := (i : Int) - s) (by omega) (by omega), e1, rd_get l i (by omega), rd_get l (i - s) (by omega), w64 (n := (i : Int) + 1) (by omega) (by omega)]
      refine Ev.pos (by omega) (Ev.pos (by omega) (Ev.pos (by omega) (Ev.pos (by omega) (Ev.neg c (Ev.neg (by omega) ?_)))))
      exact hb
theorem impl_HasSquare_l0 (l : List Int) (hn : l.length ≤ 4000000000) : ∀ (d s : Nat), s + d = l.length + 1 → 1 ≤ s → (∀ s', s' < s → 1 ≤ s' → ∀ e, ¬ Win l s' e) → ∃ b, Ev (fun k => impl_HasSquare.l0 k l s) b ∧ (b = true ↔ Sq l) := by
  intro d
  induction d with
  | zero =>
    intro s hs h1 h
    refine ⟨false, ?_, ⟨(fun h => by cases h), fun hq => ?_⟩⟩
    · apply Ev.succ
      simp only [impl_HasSquare.l0.eq_2]
      rw [w64 (by omega) (by omega)]
      exact Ev.neg (by omega) (Ev.now _)
    · obtain ⟨s', e, h2, h3⟩ := sq_win hq
      exact absurd h3 (h s' (by have := h3.1; have := h3.2.1; omega) h2 e)
  | succ d ih =>
    intro s hs h1 h
    by_cases c : 2 * s ≤ l.length
    · have hl := impl_HasSquare_l1 l hn s h1 c (fun hno => ih (s + 1) (by omega) (by omega) (fun s' hs' h2 => by
          by_cases e : s' = s
          · rw [e]; exact hno
          · exact h s' (by omega) h2)) (l.length - s) s 0 (by omega) (by omega) (by omega) (by omega) (fun p hp hp2 => by omega) (by left; omega) (fun e he hw => by have := hw.1; omega)
      obtain ⟨b, hb, hq⟩ := hl
      refine ⟨b, ?_, hq⟩
      apply Ev.succ
      simp only [impl_HasSquare.l0.eq_2]
      rw [w64 (by omega) (by omega)]
      exact Ev.pos (by omega) hb
    · refine ⟨false, ?_, ⟨(fun h => by cases h), fun hq => ?_⟩⟩
      · apply Ev.succ
        simp only [impl_HasSquare.l0.eq_2]
        rw [w64 (by omega) (by omega)]
        exact Ev.neg (by omega) (Ev.now _)
      · obtain ⟨s', e, h2, h3⟩ := sq_win hq
        exact absurd h3 (h s' (by have := h3.1; have := h3.2.1; omega) h2 e)
theorem impl_HasSquare_ev (l : List Int) (hn : l.length ≤ 4000000000) : ∃ b, Ev (fun k => impl_HasSquare.f k l) b ∧ (b = true ↔ Sq l) := by
  simp only [impl_HasSquare.f]
  exact impl_HasSquare_l0 l hn l.length 1 (by omega) (by omega) (fun s' h1 h2 => by omega)

end Go.Proofs.Yteedicdanhjfpaa.LemFnThue

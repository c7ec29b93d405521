/- Plain mathematics of the sequence of trits that is not changed by its replacement, and of lists without squares. -/
import Derived.Test.YteedicdanhjfpaaBase
set_option linter.unusedVariables false
set_option linter.unusedSimpArgs false
namespace Go.Proofs.Yteedicdanhjfpaa.Base

/-- What a trit is replaced by. -/
def sub3 (a : Int) : List Int := if a = 1 then [1, 0, -1] else if a = 0 then [1, -1] else [0]
def nextT (l : List Int) : List Int := l.flatMap sub3
theorem nextT_append (a b : List Int) : nextT (a ++ b) = nextT a ++ nextT b := by simp [nextT]
theorem nextT_nil : nextT [] = [] := rfl
def thueT : Nat → List Int
  | 0 => [1]
  | j + 1 => nextT (thueT j)
theorem sub3_length (a : Int) : 1 ≤ (sub3 a).length ∧ (sub3 a).length ≤ 3 := by
  unfold sub3; split
  · simp
  · split <;> simp
theorem nextT_length (l : List Int) : l.length ≤ (nextT l).length ∧ (nextT l).length ≤ 3 * l.length := by
  induction l with
  | nil => simp [nextT]
  | cons a l ih =>
    have h := sub3_length a
    have e : (nextT (a :: l)).length = (sub3 a).length + (nextT l).length := by simp [nextT]
    rw [e, List.length_cons]; omega
theorem thueT_prefix1 (j : Nat) : thueT j <+: thueT (j + 1) := by
  induction j with
  | zero => exact ⟨[0, -1], rfl⟩
  | succ j ih =>
    obtain ⟨t, ht⟩ := ih
    refine ⟨nextT t, ?_⟩
    rw [thueT, ← nextT_append, ht]; rfl
theorem thueT_prefix (i d : Nat) : thueT i <+: thueT (i + d) := by
  induction d with
  | zero => exact List.prefix_refl _
  | succ d ih => exact ih.trans (thueT_prefix1 (i + d))
theorem sub3_trits (a : Int) : ∀ x ∈ sub3 a, -1 ≤ x ∧ x ≤ 1 := by
  intro x hx
  unfold sub3 at hx
  split at hx
  · simp at hx; omega
  · split at hx
    · simp at hx; omega
    · simp at hx; omega
theorem thueT_trits (j : Nat) : ∀ x ∈ thueT j, -1 ≤ x ∧ x ≤ 1 := by
  cases j with
  | zero => intro x hx; simp [thueT] at hx; omega
  | succ j =>
    intro x hx
    simp only [thueT, nextT, List.mem_flatMap] at hx
    obtain ⟨a, _, hx⟩ := hx
    exact sub3_trits a x hx
theorem thueT_length9 : (thueT 9).length = 768 := by decide +kernel
theorem take_of_prefix {a b : List Int} (h : a <+: b) {n : Nat} (hn : n ≤ a.length) : a.take n = b.take n := by
  obtain ⟨t, rfl⟩ := h
  rw [List.take_append_of_le_length hn]

/-- There is a part that is followed by an equal part. -/
def Sq (l : List Int) : Prop := ∃ i s : Nat, 1 ≤ s ∧ i + 2 * s ≤ l.length ∧ ∀ j, j < s → l[i + j]? = l[i + s + j]?
theorem Sq.of_prefix {a b : List Int} (h : a <+: b) (hs : Sq a) : Sq b := by
  obtain ⟨t, rfl⟩ := h
  obtain ⟨i, s, h1, h2, h3⟩ := hs
  refine ⟨i, s, h1, by rw [List.length_append]; omega, fun j hj => ?_⟩
  rw [List.getElem?_append_left (by omega), List.getElem?_append_left (by omega)]
  exact h3 j hj
theorem Sq.double (l : List Int) (h : 1 ≤ l.length) : Sq (l ++ l) := by
  refine ⟨0, l.length, h, by rw [List.length_append]; omega, fun j hj => ?_⟩
  rw [List.getElem?_append_left (by omega), List.getElem?_append_right (by omega)]
  congr 1; omega
/-- A square at the list's begin, by a test. -/
def sqHere (l : List Int) : Bool := (List.range l.length).any fun s => decide (1 ≤ s) && decide (2 * s ≤ l.length) && (l.take s == (l.drop s).take s)
def sqAny : List Int → Bool
  | [] => false
  | a :: l => sqHere (a :: l) || sqAny l
theorem sqAny_of (l : List Int) (h : Sq l) : sqAny l = true := by
  induction l with
  | nil => obtain ⟨i, s, h1, h2, _⟩ := h; simp at h2; omega
  | cons a l ih =>
    obtain ⟨i, s, h1, h2, h3⟩ := h
    rw [sqAny, Bool.or_eq_true]
    cases i with
    | zero =>
      left
      rw [sqHere, List.any_eq_true]
      refine ⟨s, List.mem_range.2 (by omega), ?_⟩
      rw [decide_eq_true h1, decide_eq_true (by omega), Bool.true_and, Bool.true_and, beq_iff_eq]
      apply List.ext_getElem?
      intro j
      by_cases hj : j < s
      · rw [List.getElem?_take_of_lt hj, List.getElem?_take_of_lt hj, List.getElem?_drop]
        have := h3 j hj
        simpa using this
      · rw [List.getElem?_eq_none (by simp; omega), List.getElem?_eq_none (by simp; omega)]
    | succ i =>
      right
      refine ih ⟨i, s, h1, by simp at h2; omega, fun j hj => ?_⟩
      have := h3 j hj
      have e1 : i + 1 + j = (i + j) + 1 := by omega
      have e2 : i + 1 + s + j = (i + s + j) + 1 := by omega
      rw [e1, e2] at this
      simpa using this
theorem thue_no_square : ¬ Sq ((thueT 9).take 120) := by
  intro h
  have := sqAny_of _ h
  have h2 : sqAny ((thueT 9).take 120) = false := by decide +kernel
  rw [h2] at this
  exact absurd this (by decide)
end Go.Proofs.Yteedicdanhjfpaa.Base

/- Plain mathematics of words that turn forward. -/
import Derived.Test.YtffohdlbkigehaaBase
set_option linter.unusedVariables false
set_option linter.unusedSimpArgs false
namespace Go.Proofs.Ytffohdlbkigehaa.Base
/-- The trit after a trit in the circle; 0 for others. -/
def turn (a : Int) : Int := if isTrit a = true then (if a = 1 then -1 else a + 1) else 0
/-- Do the trits turn forward? -/
def fwd : List Int → Bool
  | a :: b :: l => if b = a then fwd (b :: l) else b == turn a
  | _ => false
theorem fwd_two (a b : Int) (l : List Int) : fwd (a :: b :: l) = if b = a then fwd (b :: l) else b == turn a := rfl
theorem fwd_one (a : Int) : fwd [a] = false := rfl
end Go.Proofs.Ytffohdlbkigehaa.Base
namespace Go.Proofs.Ytffohdlbkigehaa.Base
theorem turn_trit (a : Int) (h : -1 ≤ a ∧ a ≤ 1) : -1 ≤ turn a ∧ turn a ≤ 1 := by
  rcases (show a = -1 ∨ a = 0 ∨ a = 1 by omega) with rfl | rfl | rfl <;> decide
theorem turn_inj (a b : Int) (ha : -1 ≤ a ∧ a ≤ 1) (hb : -1 ≤ b ∧ b ≤ 1) (h : turn a = turn b) : a = b := by
  rcases (show a = -1 ∨ a = 0 ∨ a = 1 by omega) with rfl | rfl | rfl <;> rcases (show b = -1 ∨ b = 0 ∨ b = 1 by omega) with rfl | rfl | rfl <;> first | rfl | exact absurd h (by decide)
theorem fwd_turned : ∀ (w : List Int), (∀ a ∈ w, -1 ≤ a ∧ a ≤ 1) → fwd (w.map turn) = fwd w
  | [], _ => rfl
  | [a], _ => rfl
  | a :: b :: w, h => by
    have ha := h a (by simp)
    have hb := h b (by simp)
    have ih := fwd_turned (b :: w) (fun c hc => h c (List.mem_cons_of_mem _ hc))
    rw [List.map_cons] at ih
    rw [List.map_cons, List.map_cons, fwd_two, fwd_two, ih]
    rcases (show a = -1 ∨ a = 0 ∨ a = 1 by omega) with rfl | rfl | rfl <;> rcases (show b = -1 ∨ b = 0 ∨ b = 1 by omega) with rfl | rfl | rfl <;> rfl
theorem fwd_neg : ∀ (w : List Int), (∀ a ∈ w, -1 ≤ a ∧ a ≤ 1) → ∀ c, w.head? = some c → if w.all (· == c) = true then (fwd w = false ∧ fwd (w.map (- ·)) = false) else fwd (w.map (- ·)) = !(fwd w)
  | [], _, c, hc => by simp at hc
  | [a], _, c, hc => by
    simp at hc; subst hc
    simp [fwd]
  | a :: b :: w, h, c, hc => by
    have ha := h a (by simp)
    have hb := h b (by simp)
    simp at hc; subst hc
    have ih := fwd_neg (b :: w) (fun c hc => h c (List.mem_cons_of_mem _ hc)) b rfl
    rw [List.map_cons] at ih
    rw [List.map_cons, List.map_cons, fwd_two, fwd_two, List.all_cons, beq_self_eq_true, Bool.true_and]
    by_cases e : b = a
    · subst e
      rw [if_pos rfl, if_pos rfl]
      exact ih
    · have e2 : ¬ -b = -a := by omega
      have e3 : ¬ ((b :: w).all (· == a) = true) := by
        rw [List.all_cons, Bool.and_eq_true]; rintro ⟨h1, _⟩; exact e (by simpa using h1)
      rw [if_neg e3, if_neg e2, if_neg e]
      rcases (show a = -1 ∨ a = 0 ∨ a = 1 by omega) with rfl | rfl | rfl <;> rcases (show b = -1 ∨ b = 0 ∨ b = 1 by omega) with rfl | rfl | rfl <;> first | (exact absurd rfl e) | decide
end Go.Proofs.Ytffohdlbkigehaa.Base

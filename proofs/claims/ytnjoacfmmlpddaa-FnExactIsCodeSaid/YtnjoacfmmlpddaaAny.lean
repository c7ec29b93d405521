/- Where a plain test holds first, and whether it holds somewhere. -/
import Derived.Test.YtnjoacfmmlpddaaWWords
set_option linter.unusedVariables false
set_option linter.unusedSimpArgs false
namespace Go.Proofs.Ytnjoacfmmlpddaa.Any
open Go.RowKit Go.Proofs.YtnjoacfmmlpddaaW.PrintWords
/-- The first place at which p holds, from i on, or -1. -/
def fstP (p : Nat → Bool) : Nat → Nat → Int
  | _, 0 => -1
  | i, d + 1 => if p i = true then i else fstP p (i + 1) d
theorem fstP_hit {p : Nat → Bool} {i : Nat} (h : p i = true) : ∀ (d j : Nat), j + d > i → j ≤ i → (∀ m, j ≤ m → m < i → p m = false) → fstP p j d = i := by
  intro d
  induction d with
  | zero => intro j h1 h2; omega
  | succ d ih =>
    intro j h1 h2 h3
    rw [fstP]
    by_cases e : j = i
    · subst e; rw [if_pos h]
    · rw [h3 j (Nat.le_refl _) (by omega), if_neg (by simp)]
      exact ih (j + 1) (by omega) (by omega) (fun m a b => h3 m (by omega) b)
theorem fstP_miss {p : Nat → Bool} : ∀ (d j : Nat), (∀ m, j ≤ m → m < j + d → p m = false) → fstP p j d = -1 := by
  intro d
  induction d with
  | zero => intro j h; rfl
  | succ d ih =>
    intro j h
    rw [fstP, h j (Nat.le_refl _) (by omega), if_neg (by simp)]
    exact ih (j + 1) (fun m a b => h m (by omega) (by omega))
/-- Is there one of which g holds? (Of all, g must say something.) -/
def anyO {α : Type} (g : α → Option Bool) : List α → Option Bool
  | [] => some false
  | x :: xs => (g x).bind fun t => (anyO g xs).bind fun b => some (t || b)
theorem anyO_le {α : Type} {g g' : α → Option Bool} (h : ∀ x, LeO (g x) (g' x)) : ∀ l, LeO (anyO g l) (anyO g' l)
  | [] => LeO.refl _
  | x :: xs => LeO.bind (h x) (fun t => LeO.bind (anyO_le h xs) (fun _ => LeO.refl _))
theorem anyO_some {α : Type} {g : α → Option Bool} : ∀ {l : List α} {r : Bool}, anyO g l = some r → ∃ p : Nat → Bool, (∀ j (h : j < l.length), g l[j] = some (p j)) ∧ ∀ i, decide (0 ≤ fstP (fun m => p (m - i)) i l.length) = r
  | [], r, h => by
    obtain rfl := Option.some.inj h
    exact ⟨fun _ => false, fun j hj => by simp at hj, fun i => by simp [fstP]⟩
  | x :: xs, r, h => by
    obtain ⟨t, ht, h⟩ := Option.bind_eq_some_iff.1 h
    obtain ⟨b, hb, h⟩ := Option.bind_eq_some_iff.1 h
    obtain rfl := Option.some.inj h
    obtain ⟨p, hp, hr⟩ := anyO_some hb
    refine ⟨fun j => match j with | 0 => t | j + 1 => p j, fun j hj => ?_, fun i => ?_⟩
    · cases j with
      | zero => exact ht
      | succ j => exact hp j (by simpa using hj)
    · rw [List.length_cons, fstP]
      simp only [Nat.sub_self]
      cases t with
      | true => simp
      | false =>
        rw [if_neg (by simp), Bool.false_or, ← hr (i + 1)]
        refine congrArg (fun z => decide (0 ≤ z)) ?_
        clear hr hp hb ht
        generalize xs.length = n
        have : ∀ (n j : Nat), i + 1 ≤ j → fstP (fun m => match m - i with | 0 => false | j + 1 => p j) j n = fstP (fun m => p (m - (i + 1))) j n := by
          intro n
          induction n with
          | zero => intro j _; rfl
          | succ n ih =>
            intro j hj
            rw [fstP, fstP, ih (j + 1) (by omega)]
            have e : j - i = (j - (i + 1)) + 1 := by omega
            simp only [e]
        exact this n (i + 1) (Nat.le_refl _)
theorem anyO_some' {α : Type} {g : α → Option Bool} {l : List α} {r : Bool} (h : anyO g l = some r) : ∃ p : Nat → Bool, (∀ j (h : j < l.length), g l[j] = some (p j)) ∧ decide (0 ≤ fstP p 0 l.length) = r := by
  obtain ⟨p, h1, h2⟩ := anyO_some h
  exact ⟨p, h1, by simpa using h2 0⟩
end Go.Proofs.Ytnjoacfmmlpddaa.Any

/- Plain mathematics of rotations and of the order of lists. -/
import Derived.Test.YtemcokpkgpnloaaBase
set_option linter.unusedVariables false
set_option linter.unusedSimpArgs false
namespace Go.Proofs.Ytemcokpkgpnloaa.Base
def rot (w : List Int) (i : Nat) : List Int := w.drop i ++ w.take i
theorem rot_length (w : List Int) (i : Nat) (h : i ≤ w.length) : (rot w i).length = w.length := by unfold rot; rw [List.length_append, List.length_drop, List.length_take]; omega
theorem rot_mem (w : List Int) (i : Nat) : ∀ a, a ∈ rot w i ↔ a ∈ w := by
  intro a; unfold rot; rw [List.mem_append, Or.comm, ← List.mem_append, List.take_append_drop]
/-- Lists compared place by place: -1, 0, 1. -/
def cmpL : List Int → List Int → Int
  | [], [] => 0
  | [], _ :: _ => -1
  | _ :: _, [] => 1
  | a :: v, b :: w => if a < b then -1 else if a > b then 1 else cmpL v w
theorem cmpL_self : ∀ (v : List Int), cmpL v v = 0
  | [] => rfl
  | a :: v => by rw [cmpL, if_neg (by omega), if_neg (by omega), cmpL_self v]
theorem cmpL_eq : ∀ (v w : List Int), cmpL v w = 0 → v = w
  | [], [], _ => rfl
  | [], _ :: _, h => by simp [cmpL] at h
  | _ :: _, [], h => by simp [cmpL] at h
  | a :: v, b :: w, h => by
    rw [cmpL] at h
    by_cases h1 : a < b
    · rw [if_pos h1] at h; omega
    · rw [if_neg h1] at h
      by_cases h2 : a > b
      · rw [if_pos h2] at h; omega
      · rw [if_neg h2] at h
        rw [cmpL_eq v w h, show a = b by omega]
theorem cmpL_anti : ∀ (v w : List Int), cmpL w v = -cmpL v w
  | [], [] => rfl
  | [], _ :: _ => rfl
  | _ :: _, [] => rfl
  | a :: v, b :: w => by
    rw [cmpL, cmpL, cmpL_anti v w]
    rcases Int.lt_trichotomy a b with h | h | h
    · simp [h, show ¬ b < a by omega]
    · simp [show ¬ a < b by omega, show ¬ b < a by omega]
    · simp [h, show ¬ a < b by omega]
theorem cmpL_vals : ∀ (v w : List Int), cmpL v w = -1 ∨ cmpL v w = 0 ∨ cmpL v w = 1
  | [], [] => by simp [cmpL]
  | [], _ :: _ => by simp [cmpL]
  | _ :: _, [] => by simp [cmpL]
  | a :: v, b :: w => by
    rw [cmpL]
    by_cases h1 : a < b
    · rw [if_pos h1]; simp
    · rw [if_neg h1]
      by_cases h2 : a > b
      · rw [if_pos h2]; simp
      · rw [if_neg h2]; exact cmpL_vals v w
theorem cmpL_trans : ∀ (u v w : List Int), cmpL u v ≤ 0 → cmpL v w ≤ 0 → cmpL u w ≤ 0
  | [], _, [], _, _ => by simp [cmpL]
  | [], _, _ :: _, _, _ => by simp [cmpL]
  | _ :: _, [], _, h, _ => by simp [cmpL] at h
  | _ :: _, _ :: _, [], _, h => by simp [cmpL] at h
  | a :: u, b :: v, c :: w, h1, h2 => by
    rw [cmpL] at h1 h2 ⊢
    by_cases e1 : a < b
    · by_cases e2 : b < c
      · rw [if_pos (by omega)]; omega
      · rw [if_neg e2] at h2
        by_cases e3 : b > c
        · rw [if_pos e3] at h2; omega
        · rw [if_pos (by omega)]; omega
    · rw [if_neg e1] at h1
      by_cases e3 : a > b
      · rw [if_pos e3] at h1; omega
      · rw [if_neg e3] at h1
        have e : a = b := by omega
        subst e
        by_cases e2 : a < c
        · rw [if_pos e2]; omega
        · rw [if_neg e2] at h2 ⊢
          by_cases e4 : a > c
          · rw [if_pos e4] at h2; omega
          · rw [if_neg e4] at h2 ⊢
            exact cmpL_trans u v w h1 h2
/-- Is no rotation, from the i-th on, before the list or equal to it? (d rotations are asked.) -/
def lynFrom (w : List Int) : Nat → Nat → Bool
  | _, 0 => true
  | i, d + 1 => if cmpL (rot w i) w ≤ 0 then false else lynFrom w (i + 1) d
def lyn (w : List Int) : Bool := lynFrom w 1 (w.length - 1)
/-- The least of a list and its rotations from the i-th on. -/
def neckFrom (w : List Int) : Nat → Nat → List Int → List Int
  | _, 0, b => b
  | i, d + 1, b => neckFrom w (i + 1) d (if cmpL (rot w i) b < 0 then rot w i else b)
def neck (w : List Int) : List Int := neckFrom w 1 (w.length - 1) w
theorem rot_zero (w : List Int) : rot w 0 = w := by simp [rot]
theorem neckFrom_length (w : List Int) : ∀ (d i : Nat) (b : List Int), i + d ≤ w.length + 1 → b.length = w.length → (neckFrom w i d b).length = w.length
  | 0, _, b, _, h => h
  | d + 1, i, b, hi, h => by
    rw [neckFrom]
    apply neckFrom_length w d (i + 1) _ (by omega)
    split
    · exact rot_length w i (by omega)
    · exact h
theorem neck_length (w : List Int) (h : 1 ≤ w.length) : (neck w).length = w.length := neckFrom_length w _ _ _ (by omega) rfl
end Go.Proofs.Ytemcokpkgpnloaa.Base

/- Plain mathematics of words: the word of a number, and the number of a word. -/
import Derived.Test.YtjfgcipbbcplmaaDoorBase
set_option linter.unusedVariables false
set_option linter.unusedSimpArgs false
namespace Go.Proofs.YtjfgcipbbcplmaaDoor.Base
/-- The word of k trits of a number, the lowest trit first. -/
def word : Nat → Int → List Int
  | 0, _ => []
  | k + 1, n => ((n + 1) % 3 - 1) :: word k ((n + 1) / 3)
theorem word_length (k : Nat) : ∀ n, (word k n).length = k := by
  induction k with
  | zero => intro n; rfl
  | succ k ih => intro n; simp [word, ih]
def L3 (k : Nat) : Int := (3 ^ k - 1) / 2
theorem L3_zero : L3 0 = 0 := rfl
theorem L3_succ (k : Nat) : L3 (k + 1) = 3 * L3 k + 1 := by
  unfold L3
  have h1 := pow3_lim k
  have h2 := pow3_lim (k + 1)
  rw [pow3_succ] at h2 ⊢
  omega
theorem val_word (k : Nat) : ∀ n, -(L3 k) ≤ n → n ≤ L3 k → val (word k n) = n := by
  induction k with
  | zero => intro n h0 h1; rw [L3_zero] at h0 h1; simp [word, val]; omega
  | succ k ih =>
    intro n h0 h1
    rw [L3_succ] at h0 h1
    rw [word, val, ih _ (by omega) (by omega)]
    omega
theorem word_val : ∀ (w : List Int), (∀ a ∈ w, -1 ≤ a ∧ a ≤ 1) → word w.length (val w) = w
  | [], _ => rfl
  | a :: w, h => by
    have ha := h a List.mem_cons_self
    have e1 : (val (a :: w) + 1) % 3 - 1 = a := by rw [val]; omega
    have e2 : (val (a :: w) + 1) / 3 = val w := by rw [val]; omega
    rw [List.length_cons, word, e1, e2, word_val w (fun b hb => h b (List.mem_cons_of_mem _ hb))]
theorem word_zero (k : Nat) : word k 0 = List.replicate k 0 := by
  induction k with
  | zero => rfl
  | succ k ih => rw [word, List.replicate_succ]; simp [ih]
theorem lim_eq (k : Nat) (h : 1 ≤ k ∧ k ≤ 30) : lim k = L3 k := by
  unfold lim L3; rw [if_pos (by omega)]; simp
/-- Is the number one of a word of k trits? (0 for k out of range: then the number 0 alone.) -/
def fitsB (n k : Int) : Bool := decide (-(lim k) ≤ n ∧ n ≤ lim k)
theorem fitsB_iff (n : Int) (k : Nat) (h : 1 ≤ k ∧ k ≤ 30) : fitsB n k = true ↔ -(L3 k) ≤ n ∧ n ≤ L3 k := by
  unfold fitsB; rw [lim_eq k h]; simp
theorem lim_nonneg (k : Int) : 0 ≤ lim k := by
  unfold lim; split
  · have := pow3_pos k.toNat; omega
  · omega
theorem lim_le (k : Int) : lim k ≤ 102945566047324 := by
  unfold lim; split
  · have := pow3_30 (i := k.toNat) (by omega); omega
  · omega
/-- What WordOf gives. -/
def wordOf (n k : Int) : List Int × Bool := if 1 ≤ k ∧ k ≤ 30 ∧ fitsB n k = true then (word k.toNat n, true) else ([], false)
/-- The least number of trits, from i on, d tries. -/
def lenFrom (n : Int) : Nat → Nat → Int
  | _, 0 => 0
  | i, d + 1 => if fitsB n i = true then i else lenFrom n (i + 1) d
def lenOf (n : Int) : Int := lenFrom n 1 30
def sgn (n : Int) : Int := if n < 0 then -1 else if n > 0 then 1 else 0
/-- The places at which a list has a value. -/
def idx (v : Int) : List Int → Int → List Int
  | [], _ => []
  | a :: w, i => if a = v then i :: idx v w (i + 1) else idx v w (i + 1)
end Go.Proofs.YtjfgcipbbcplmaaDoor.Base

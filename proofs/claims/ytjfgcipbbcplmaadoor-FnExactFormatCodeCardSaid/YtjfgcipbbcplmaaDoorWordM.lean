/- Plain mathematics of words: the word of a number, and the number of a word. -/
import Derived.Test.YtjfgcipbbcplmaaDoorBase
set_option linter.unusedVariables false
set_option linter.unusedSimpArgs false
namespace Go.Proofs.YtjfgcipbbcplmaaDoor.Base
/-- The word of k trits of a number, the lowest trit first. -/
def word : Nat → Int → List Int
  | 0, _ => []
  | k + 1, n => ((n + 1) % 3 - 1) :: word k ((n + 1) / 3)
theorem word_length (k : Nat) : ∀ n, (word k n).length = k := by
  induction k with
  | zero => intro n; rfl
  | succ k ih => intro n; simp [word, ih]
theorem word_trits (k : Nat) : ∀ n, ∀ a ∈ word k n, -1 ≤ a ∧ a ≤ 1 := by
  induction k with
  | zero => intro n a ha; simp [word] at ha
  | succ k ih =>
    intro n a ha
    rw [word, List.mem_cons] at ha
    rcases ha with rfl | ha
    · omega
    · exact ih _ a ha
theorem word_isWord (k : Nat) (n : Int) (h : 1 ≤ k ∧ k ≤ 30) : isWord (word k n) = true := (isWord_iff _).2 ⟨by rw [word_length]; exact h, word_trits k n⟩
def L3 (k : Nat) : Int := (3 ^ k - 1) / 2
theorem L3_zero : L3 0 = 0 := rfl
theorem L3_succ (k : Nat) : L3 (k + 1) = 3 * L3 k + 1 := by
  unfold L3
  have h1 := pow3_lim k
  have h2 := pow3_lim (k + 1)
  rw [pow3_succ] at h2 ⊢
  omega
theorem L3_nonneg (k : Nat) : 0 ≤ L3 k := by unfold L3; have := pow3_pos k; omega
theorem L3_mono {i n : Nat} (h : i ≤ n) : L3 i ≤ L3 n := by unfold L3; have := pow3_mono h; omega
theorem L3_30 {i : Nat} (h : i ≤ 30) : L3 i ≤ 102945566047324 := by unfold L3; have := pow3_30 h; omega
theorem L3_pow (k : Nat) : (3 : Int) ^ k = 2 * L3 k + 1 := by unfold L3; exact (pow3_lim k).symm
theorem val_word (k : Nat) : ∀ n, -(L3 k) ≤ n → n ≤ L3 k → val (word k n) = n := by
  induction k with
  | zero => intro n h0 h1; rw [L3_zero] at h0 h1; simp [word, val]; omega
  | succ k ih =>
    intro n h0 h1
    rw [L3_succ] at h0 h1
    rw [word, val, ih _ (by omega) (by omega)]
    omega
theorem word_val : ∀ (w : List Int), (∀ a ∈ w, -1 ≤ a ∧ a ≤ 1) → word w.length (val w) = w
  | [], _ => rfl
  | a :: w, h => by
    have ha := h a List.mem_cons_self
    have e1 : (val (a :: w) + 1) % 3 - 1 = a := by rw [val]; omega
    have e2 : (val (a :: w) + 1) / 3 = val w := by rw [val]; omega
    rw [List.length_cons, word, e1, e2, word_val w (fun b hb => h b (List.mem_cons_of_mem _ hb))]
theorem val_range (w : List Int) (h : ∀ a ∈ w, -1 ≤ a ∧ a ≤ 1) : -(L3 w.length) ≤ val w ∧ val w ≤ L3 w.length := val_le w h
theorem word_inj {k : Nat} {m n : Int} (hm : -(L3 k) ≤ m ∧ m ≤ L3 k) (hn : -(L3 k) ≤ n ∧ n ≤ L3 k) (h : word k m = word k n) : m = n := by
  rw [← val_word k m hm.1 hm.2, ← val_word k n hn.1 hn.2, h]
theorem word_zero (k : Nat) : word k 0 = List.replicate k 0 := by
  induction k with
  | zero => rfl
  | succ k ih => rw [word, List.replicate_succ]; simp [ih]
theorem word_ext (k d : Nat) : ∀ n, -(L3 k) ≤ n → n ≤ L3 k → word (k + d) n = word k n ++ List.replicate d 0 := by
  induction k with
  | zero => intro n h0 h1; rw [L3_zero] at h0 h1; obtain rfl : n = 0 := by omega
            rw [Nat.zero_add, word_zero]; rfl
  | succ k ih =>
    intro n h0 h1
    rw [L3_succ] at h0 h1
    rw [show k + 1 + d = (k + d) + 1 by omega, word, word, ih _ (by omega) (by omega)]; rfl
theorem val_append (v w : List Int) : val (v ++ w) = val v + 3 ^ v.length * val w := by
  induction v with
  | nil => simp [val]
  | cons a v ih => rw [List.cons_append, val, val, ih, List.length_cons, pow3_succ, Int.mul_add, Int.mul_assoc, Int.add_assoc]
theorem val_replicate (d : Nat) : val (List.replicate d 0) = 0 := by
  induction d with
  | zero => rfl
  | succ d ih => rw [List.replicate_succ, val, ih]; rfl
theorem lim_eq (k : Nat) (h : 1 ≤ k ∧ k ≤ 30) : lim k = L3 k := by
  unfold lim L3; rw [if_pos (by omega)]; simp
/-- Is the number one of a word of k trits? (0 for k out of range: then the number 0 alone.) -/
def fitsB (n k : Int) : Bool := decide (-(lim k) ≤ n ∧ n ≤ lim k)
theorem fitsB_iff (n : Int) (k : Nat) (h : 1 ≤ k ∧ k ≤ 30) : fitsB n k = true ↔ -(L3 k) ≤ n ∧ n ≤ L3 k := by
  unfold fitsB; rw [lim_eq k h]; simp
theorem lim_nonneg (k : Int) : 0 ≤ lim k := by
  unfold lim; split
  · have := pow3_pos k.toNat; omega
  · omega
theorem lim_le (k : Int) : lim k ≤ 102945566047324 := by
  unfold lim; split
  · have := pow3_30 (i := k.toNat) (by omega); omega
  · omega
/-- What WordOf gives. -/
def wordOf (n k : Int) : List Int × Bool := if 1 ≤ k ∧ k ≤ 30 ∧ fitsB n k = true then (word k.toNat n, true) else ([], false)
/-- The least number of trits, from i on, d tries. -/
def lenFrom (n : Int) : Nat → Nat → Int
  | _, 0 => 0
  | i, d + 1 => if fitsB n i = true then i else lenFrom n (i + 1) d
def lenOf (n : Int) : Int := lenFrom n 1 30
theorem lenFrom_spec (n : Int) : ∀ (d i : Nat), (lenFrom n i d = 0 ∧ ∀ j, i ≤ j → j < i + d → fitsB n (j : Nat) = false) ∨ (∃ m : Nat, lenFrom n i d = m ∧ i ≤ m ∧ m < i + d ∧ fitsB n m = true ∧ ∀ j, i ≤ j → j < m → fitsB n (j : Nat) = false) := by
  intro d
  induction d with
  | zero => intro i; left; exact ⟨rfl, fun j h1 h2 => by omega⟩
  | succ d ih =>
    intro i
    rw [lenFrom]
    by_cases c : fitsB n i = true
    · rw [if_pos c]; right
      exact ⟨i, rfl, by omega, by omega, c, fun j h1 h2 => by omega⟩
    · rw [if_neg c]
      rw [Bool.not_eq_true] at c
      rcases ih (i + 1) with ⟨h1, h2⟩ | ⟨m, h1, h2, h3, h4, h5⟩
      · left
        refine ⟨h1, fun j hj hj2 => ?_⟩
        by_cases e : j = i
        · rw [e]; exact c
        · exact h2 j (by omega) (by omega)
      · right
        refine ⟨m, h1, by omega, by omega, h4, fun j hj hj2 => ?_⟩
        by_cases e : j = i
        · rw [e]; exact c
        · exact h5 j (by omega) hj2
theorem lenOf_spec (n : Int) : (lenOf n = 0 ∧ ¬ (-(L3 30) ≤ n ∧ n ≤ L3 30)) ∨ (∃ m : Nat, lenOf n = m ∧ 1 ≤ m ∧ m ≤ 30 ∧ (-(L3 m) ≤ n ∧ n ≤ L3 m) ∧ ∀ j, 1 ≤ j → j < m → ¬ (-(L3 j) ≤ n ∧ n ≤ L3 j)) := by
  rcases lenFrom_spec n 30 1 with ⟨h1, h2⟩ | ⟨m, h1, h2, h3, h4, h5⟩
  · left
    refine ⟨h1, fun h => ?_⟩
    have := h2 30 (by omega) (by omega)
    rw [(fitsB_iff n 30 (by omega)).2 h] at this
    exact absurd this (by decide)
  · right
    refine ⟨m, h1, h2, by omega, (fitsB_iff n m (by omega)).1 h4, fun j hj hj2 h => ?_⟩
    have := h5 j hj hj2
    rw [(fitsB_iff n j (by omega)).2 h] at this
    exact absurd this (by decide)
def sgn (n : Int) : Int := if n < 0 then -1 else if n > 0 then 1 else 0
/-- The places at which a list has a value. -/
def idx (v : Int) : List Int → Int → List Int
  | [], _ => []
  | a :: w, i => if a = v then i :: idx v w (i + 1) else idx v w (i + 1)
theorem idx_append (v : Int) (a b : List Int) (i : Int) : idx v (a ++ b) i = idx v a i ++ idx v b (i + a.length) := by
  induction a generalizing i with
  | nil => simp [idx]
  | cons x a ih =>
    rw [List.cons_append, idx, idx, ih, List.length_cons]
    have e : i + 1 + (a.length : Int) = i + ((a.length + 1 : Nat) : Int) := by omega
    rw [e]
    split <;> simp
theorem idx_zeros (v : Int) (hv : v ≠ 0) (d : Nat) (i : Int) : idx v (List.replicate d 0) i = [] := by
  induction d generalizing i with
  | zero => rfl
  | succ d ih => rw [List.replicate_succ, idx, if_neg (fun e => hv e.symm), ih]
theorem idx_length (v : Int) (w : List Int) (i : Int) : (idx v w i).length ≤ w.length := by
  induction w generalizing i with
  | nil => simp [idx]
  | cons a w ih =>
    rw [idx, List.length_cons]
    have := ih (i + 1)
    split
    · rw [List.length_cons]; omega
    · omega
end Go.Proofs.YtjfgcipbbcplmaaDoor.Base

/- Plain mathematics of the sequence of words in which neighbours differ at one place. -/
import Derived.Test.YteedicdanhjfpaaBase
set_option linter.unusedVariables false
set_option linter.unusedSimpArgs false
namespace Go.Proofs.Yteedicdanhjfpaa.Base

/-- The index of a word, the last trit being the highest one. -/
def grayR (w : List Int) : Int := (w.foldl (fun (s : Int × Int) a => ((if a = 0 then s.2 - 1 - s.1 else s.1) + (a + 1) * s.2, 3 * s.2)) ((0 : Int), (1 : Int))).1
theorem grayR_pow (w : List Int) (n p : Int) : (w.foldl (fun (s : Int × Int) a => ((if a = 0 then s.2 - 1 - s.1 else s.1) + (a + 1) * s.2, 3 * s.2)) (n, p)).2 = 3 ^ w.length * p := by
  induction w generalizing n p with
  | nil => simp
  | cons a w ih => rw [List.foldl_cons, ih, List.length_cons, pow3_succ]; simp only; rw [Int.mul_comm 3 (3 ^ w.length), Int.mul_assoc]
theorem grayR_snoc (w : List Int) (a : Int) : grayR (w ++ [a]) = (if a = 0 then 3 ^ w.length - 1 - grayR w else grayR w) + (a + 1) * 3 ^ w.length := by
  unfold grayR
  rw [List.foldl_append, List.foldl_cons, List.foldl_nil]
  simp only [grayR_pow, Int.mul_one]
theorem grayR_nil : grayR [] = 0 := rfl
theorem grayR_range (w : List Int) : (∀ a ∈ w, -1 ≤ a ∧ a ≤ 1) → 0 ≤ grayR w ∧ grayR w < 3 ^ w.length := by
  suffices h : ∀ n (w : List Int), w.length = n → (∀ a ∈ w, -1 ≤ a ∧ a ≤ 1) → 0 ≤ grayR w ∧ grayR w < 3 ^ n from fun hw => h _ w rfl hw
  intro n
  induction n with
  | zero => intro w hw _; obtain rfl := List.length_eq_zero_iff.1 hw; simp [grayR_nil]
  | succ n ih =>
    intro w hw ht
    have hne : w ≠ [] := by intro e; simp [e] at hw
    obtain ⟨v, a, rfl⟩ : ∃ v a, w = v ++ [a] := ⟨w.dropLast, w.getLast hne, (List.dropLast_concat_getLast hne).symm⟩
    have hv : v.length = n := by simpa using hw
    have h1 := ih v hv (fun b hb => ht b (by simp [hb]))
    have h2 := ht a (by simp)
    rw [grayR_snoc, hv, pow3_succ]
    rcases (show a = -1 ∨ a = 0 ∨ a = 1 by omega) with rfl | rfl | rfl
    · simp; omega
    · simp; omega
    · simp; omega

/-- The word with an index, the last trit being the highest one. -/
def grayG : Nat → Int → List Int
  | 0, _ => []
  | k + 1, i => grayG k (if i / 3 ^ k = 1 then 3 ^ k - 1 - i % 3 ^ k else i % 3 ^ k) ++ [i / 3 ^ k - 1]
theorem grayG_length (k : Nat) : ∀ i, (grayG k i).length = k := by
  induction k with
  | zero => intro i; rfl
  | succ k ih => intro i; simp [grayG, ih]
theorem ediv_cases {i p : Int} (hp : 1 ≤ p) (h0 : 0 ≤ i) (h : i < 3 * p) : (i / p = 0 ∧ i % p = i ∧ i < p) ∨ (i / p = 1 ∧ i % p = i - p ∧ p ≤ i ∧ i < 2 * p) ∨ (i / p = 2 ∧ i % p = i - 2 * p ∧ 2 * p ≤ i) := by
  have h1 := Int.emod_nonneg i (show p ≠ 0 by omega)
  have h2 := Int.emod_lt_of_pos i (show 0 < p by omega)
  have h3 := Int.mul_ediv_add_emod i p
  have h4 : 0 ≤ i / p := Int.ediv_nonneg h0 (by omega)
  have h5 : i / p < 3 := Int.ediv_lt_of_lt_mul (by omega) (by omega)
  rcases (show i / p = 0 ∨ i / p = 1 ∨ i / p = 2 by omega) with e | e | e <;> rw [e] at h3 <;> omega
theorem grayG_trits (k : Nat) : ∀ i, 0 ≤ i → i < 3 ^ k → ∀ a ∈ grayG k i, -1 ≤ a ∧ a ≤ 1 := by
  induction k with
  | zero => intro i _ _ a ha; simp [grayG] at ha
  | succ k ih =>
    intro i h0 h1 a ha
    have hp := pow3_pos k
    rw [pow3_succ] at h1
    rw [grayG, List.mem_append] at ha
    rcases ediv_cases hp h0 h1 with ⟨e1, e2, e3⟩ | ⟨e1, e2, e3⟩ | ⟨e1, e2, e3⟩ <;> rw [e1, e2] at ha <;> simp only [if_true, Int.reduceEq, if_false] at ha
    · rcases ha with ha | ha
      · exact ih _ (by omega) (by omega) a ha
      · simp at ha; omega
    · rcases ha with ha | ha
      · exact ih _ (by omega) (by omega) a ha
      · simp at ha; omega
    · rcases ha with ha | ha
      · exact ih _ (by omega) (by omega) a ha
      · simp at ha; omega
theorem grayR_grayG (k : Nat) : ∀ i, 0 ≤ i → i < 3 ^ k → grayR (grayG k i) = i := by
  induction k with
  | zero => intro i h0 h1; simp at h1; simp [grayG, grayR_nil]; omega
  | succ k ih =>
    intro i h0 h1
    have hp := pow3_pos k
    rw [pow3_succ] at h1
    rw [grayG, grayR_snoc, grayG_length]
    rcases ediv_cases hp h0 h1 with ⟨e1, e2, e3⟩ | ⟨e1, e2, e3⟩ | ⟨e1, e2, e3⟩ <;> rw [e1, e2] <;> simp only [if_true, Int.reduceEq, if_false, Int.reduceSub, Int.reduceAdd, Int.reduceNeg, if_pos]
    · rw [ih _ (by omega) (by omega)]; omega
    · rw [ih _ (by omega) (by omega)]; omega
    · rw [ih _ (by omega) (by omega)]; omega
theorem grayG_grayR : ∀ (w : List Int), (∀ a ∈ w, -1 ≤ a ∧ a ≤ 1) → grayG w.length (grayR w) = w := by
  suffices h : ∀ n (w : List Int), w.length = n → (∀ a ∈ w, -1 ≤ a ∧ a ≤ 1) → grayG n (grayR w) = w from fun w hw => h _ w rfl hw
  intro n
  induction n with
  | zero => intro w hw _; obtain rfl := List.length_eq_zero_iff.1 hw; rfl
  | succ n ih =>
    intro w hw ht
    have hne : w ≠ [] := by intro e; simp [e] at hw
    obtain ⟨v, a, rfl⟩ : ∃ v a, w = v ++ [a] := ⟨w.dropLast, w.getLast hne, (List.dropLast_concat_getLast hne).symm⟩
    have hv : v.length = n := by simpa using hw
    have hvt : ∀ b ∈ v, -1 ≤ b ∧ b ≤ 1 := fun b hb => ht b (by simp [hb])
    have h1 := grayR_range v hvt
    have h3 := ih v hv hvt
    have h2 := ht a (by simp)
    have hp := pow3_pos n
    rw [grayR_snoc, hv, grayG]
    rw [hv] at h1
    rcases (show a = -1 ∨ a = 0 ∨ a = 1 by omega) with rfl | rfl | rfl
    · simp only [Int.reduceEq, if_false, Int.reduceNeg]
      rcases ediv_cases (i := grayR v + (-1 + 1) * 3 ^ n) hp (by omega) (by omega) with ⟨e1, e2, e3⟩ | ⟨e1, e2, e3⟩ | ⟨e1, e2, e3⟩ <;> first | (exfalso; omega) | skip
      rw [e1, e2]
      simp only [if_false, Int.reduceEq, Int.reduceSub, Int.reduceAdd, Int.zero_mul, Int.add_zero]
      rw [h3]
    · simp only [if_true]
      rcases ediv_cases (i := 3 ^ n - 1 - grayR v + (0 + 1) * 3 ^ n) hp (by omega) (by omega) with ⟨e1, e2, e3⟩ | ⟨e1, e2, e3⟩ | ⟨e1, e2, e3⟩ <;> first | (exfalso; omega) | skip
      rw [e1, e2]
      simp only [if_true, Int.reduceSub]
      have e4 : (3 : Int) ^ n - 1 - (3 ^ n - 1 - grayR v + (0 + 1) * 3 ^ n - 3 ^ n) = grayR v := by omega
      rw [e4, h3]
    · simp only [Int.reduceEq, if_false]
      rcases ediv_cases (i := grayR v + (1 + 1) * 3 ^ n) hp (by omega) (by omega) with ⟨e1, e2, e3⟩ | ⟨e1, e2, e3⟩ | ⟨e1, e2, e3⟩ <;> first | (exfalso; omega) | skip
      rw [e1, e2]
      simp only [if_false, Int.reduceEq, Int.reduceSub]
      have e4 : grayR v + (1 + 1) * (3 : Int) ^ n - 2 * 3 ^ n = grayR v := by omega
      rw [e4, h3]
end Go.Proofs.Yteedicdanhjfpaa.Base
namespace Go.Proofs.Yteedicdanhjfpaa.Base
/-- How far apart two words are. -/
def dist : List Int → List Int → Int
  | a :: v, b :: w => (if b - a < 0 then -(b - a) else b - a) + dist v w
  | _, _ => 0
theorem dist_nil (v : List Int) : dist [] v = 0 := by unfold dist; rfl
theorem dist_cons (a b : Int) (v w : List Int) : dist (a :: v) (b :: w) = (if b - a < 0 then -(b - a) else b - a) + dist v w := rfl
theorem dist_snoc : ∀ (v w : List Int), v.length = w.length → ∀ (a b : Int), dist (v ++ [a]) (w ++ [b]) = dist v w + (if b - a < 0 then -(b - a) else b - a)
  | [], [], _, a, b => by simp [dist]
  | x :: v, y :: w, h, a, b => by
    have := dist_snoc v w (by simpa using h) a b
    rw [List.cons_append, List.cons_append, dist_cons, dist_cons, this]; omega
theorem dist_self : ∀ (v : List Int), dist v v = 0
  | [] => rfl
  | x :: v => by rw [dist_cons, dist_self v]; simp
theorem dist_comm : ∀ (v w : List Int), v.length = w.length → dist v w = dist w v
  | [], [], _ => rfl
  | x :: v, y :: w, h => by rw [dist_cons, dist_cons, dist_comm v w (by simpa using h)]; split <;> split <;> omega
theorem gray_next (k : Nat) : ∀ i, 0 ≤ i → i + 1 < 3 ^ k → dist (grayG k i) (grayG k (i + 1)) = 1 := by
  induction k with
  | zero => intro i h0 h1; simp at h1; omega
  | succ k ih =>
    intro i h0 h1
    have hp := pow3_pos k
    rw [pow3_succ] at h1
    rw [grayG, grayG, dist_snoc _ _ (by rw [grayG_length, grayG_length])]
    rcases ediv_cases (i := i) hp h0 (by omega) with ⟨a1, a2, a3⟩ | ⟨a1, a2, a3⟩ | ⟨a1, a2, a3⟩ <;> rcases ediv_cases (i := i + 1) hp (by omega) (by omega) with ⟨b1, b2, b3⟩ | ⟨b1, b2, b3⟩ | ⟨b1, b2, b3⟩ <;> first | (exfalso; omega) | skip
    · rw [a1, a2, b1, b2]
      have := ih i h0 (by omega)
      simp [this]
    · rw [a1, a2, b1, b2]
      have e1 : i = 3 ^ k - 1 := by omega
      have e2 : (3 : Int) ^ k - 1 - (i + 1 - 3 ^ k) = 3 ^ k - 1 := by omega
      simp only [Int.reduceEq, if_true, if_false, e2]
      rw [e1, dist_self]; simp
    · rw [a1, a2, b1, b2]
      have := ih (3 ^ k - 1 - (i + 1 - 3 ^ k)) (by omega) (by omega)
      have e2 : (3 : Int) ^ k - 1 - (i + 1 - 3 ^ k) + 1 = 3 ^ k - 1 - (i - 3 ^ k) := by omega
      rw [e2] at this
      rw [dist_comm _ _ (by rw [grayG_length, grayG_length])] at this
      simp only [if_true, this]; simp
    · rw [a1, a2, b1, b2]
      have e1 : (3 : Int) ^ k - 1 - (i - 3 ^ k) = 0 := by omega
      have e2 : i + 1 - 2 * (3 : Int) ^ k = 0 := by omega
      simp only [if_true, if_false, Int.reduceEq, e1, e2]
      rw [dist_self]; simp
    · rw [a1, a2, b1, b2]
      have := ih (i - 2 * 3 ^ k) (by omega) (by omega)
      have e2 : i - 2 * (3 : Int) ^ k + 1 = i + 1 - 2 * 3 ^ k := by omega
      rw [e2] at this
      simp only [if_false, Int.reduceEq, this]; simp
end Go.Proofs.Yteedicdanhjfpaa.Base

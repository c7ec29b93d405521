/- The words of coins, as the program finds them. -/
import Derived.Test.YtffohdlbkigehaaWordM
import Derived.Test.YtffohdlbkigehaaTurnM
set_option linter.unusedVariables false
set_option linter.unusedSimpArgs false
namespace Go.Proofs.Ytffohdlbkigehaa.Base
def three (w : List Int) : List (List Int) := [w, w.map turn, (w.map turn).map turn]
def algI (coins kk : Nat) : Nat → Int → List (List Int) → List (List Int)
  | 0, _, out => out
  | c + 1, n, out => if out.length < coins then (if fwd (word kk n) = true then (if out.any (fun x => decide (x = word kk n)) = true then algI coins kk c (n + 1) out else algI coins kk c (n + 1) (out ++ three (word kk n))) else algI coins kk c (n + 1) out) else out
def algS (coins kk : Nat) : Nat → Int → List (List Int) → Option (List (List Int))
  | 0, _, _ => none
  | f + 1, n, out => if out.length < coins then (if fwd (word kk n) = true then (if out.any (fun x => decide (val x = val (word kk n))) = true then algS coins kk f (n + 1) out else algS coins kk f (n + 1) (out ++ three (word kk n))) else algS coins kk f (n + 1) out) else some out
def trits3 (kk : Nat) (out : List (List Int)) : Prop := ∀ x ∈ out, x.length = kk ∧ ∀ a ∈ x, -1 ≤ a ∧ a ≤ 1
theorem three_ok (kk : Nat) (n : Int) : trits3 kk (three (word kk n)) := by
  have h0 : (word kk n).length = kk ∧ ∀ a ∈ word kk n, -1 ≤ a ∧ a ≤ 1 := ⟨word_length kk n, word_trits kk n⟩
  have hm : ∀ w : List Int, (w.length = kk ∧ ∀ a ∈ w, -1 ≤ a ∧ a ≤ 1) → ((w.map turn).length = kk ∧ ∀ a ∈ w.map turn, -1 ≤ a ∧ a ≤ 1) := fun w hw => ⟨by simpa using hw.1, fun a ha => by
    obtain ⟨b, hb, rfl⟩ := List.mem_map.1 ha
    exact turn_trit b (hw.2 b hb)⟩
  intro x hx
  simp only [three, List.mem_cons, List.not_mem_nil, or_false] at hx
  rcases hx with rfl | rfl | rfl
  · exact h0
  · exact hm _ h0
  · exact hm _ (hm _ h0)
theorem trits3_append {kk : Nat} {a b : List (List Int)} (ha : trits3 kk a) (hb : trits3 kk b) : trits3 kk (a ++ b) := fun x hx => (List.mem_append.1 hx).elim (ha x) (hb x)
theorem any_val (kk : Nat) (n : Int) (out : List (List Int)) (h : trits3 kk out) : out.any (fun x => decide (val x = val (word kk n))) = out.any (fun x => decide (x = word kk n)) := by
  have : ∀ x ∈ out, decide (val x = val (word kk n)) = decide (x = word kk n) := by
    intro x hx
    obtain ⟨hl, ht⟩ := h x hx
    apply decide_eq_decide.2
    constructor
    · intro he
      have e1 := word_val x ht
      have e2 := word_val (word kk n) (word_trits kk n)
      rw [word_length] at e2
      rw [← e1, ← e2, hl, he]
    · intro he; rw [he]
  induction out with
  | nil => rfl
  | cons x xs ih =>
    rw [List.any_cons, List.any_cons, this x (by simp), ih (fun y hy => h y (by simp [hy])) (fun y hy => this y (by simp [hy]))]
theorem algS_eq (coins kk : Nat) : ∀ (c : Nat) (n : Int) (out : List (List Int)), trits3 kk out → coins ≤ (algI coins kk c n out).length → algS coins kk (c + 1) n out = some (algI coins kk c n out)
  | 0, n, out, _, h => by
    simp only [algI] at h
    rw [algS, if_neg (by omega), algI]
  | c + 1, n, out, ht, h => by
    rw [algI] at h
    rw [algS, algI]
    by_cases hl : out.length < coins
    · rw [if_pos hl] at h
      rw [if_pos hl, if_pos hl]
      by_cases hf : fwd (word kk n) = true
      · rw [if_pos hf] at h
        rw [if_pos hf, if_pos hf, any_val kk n out ht]
        by_cases ha : out.any (fun x => decide (x = word kk n)) = true
        · rw [if_pos ha] at h
          rw [if_pos ha, if_pos ha]
          exact algS_eq coins kk c (n + 1) out ht h
        · rw [if_neg ha] at h
          rw [if_neg ha, if_neg ha]
          exact algS_eq coins kk c (n + 1) _ (trits3_append ht (three_ok kk n)) h
      · rw [if_neg hf] at h
        rw [if_neg hf, if_neg hf]
        exact algS_eq coins kk c (n + 1) out ht h
    · rw [if_neg hl, if_neg hl]
theorem algI_reach (coins M kk : Nat) (hM : coins ≤ M) : ∀ (c : Nat) (n : Int) (out : List (List Int)), M ≤ (algI M kk c n out).length → coins ≤ (algI coins kk c n out).length
  | 0, n, out, h => by simp only [algI] at h ⊢; omega
  | c + 1, n, out, h => by
    rw [algI] at h ⊢
    by_cases hl : out.length < coins
    · rw [if_pos (by omega)] at h
      rw [if_pos hl]
      by_cases hf : fwd (word kk n) = true
      · rw [if_pos hf] at h ⊢
        by_cases ha : out.any (fun x => decide (x = word kk n)) = true
        · rw [if_pos ha] at h ⊢
          exact algI_reach coins M kk hM c (n + 1) out h
        · rw [if_neg ha] at h ⊢
          exact algI_reach coins M kk hM c (n + 1) _ h
      · rw [if_neg hf] at h ⊢
        exact algI_reach coins M kk hM c (n + 1) out h
    · rw [if_neg hl]
      omega
theorem algI_ok (coins kk : Nat) : ∀ (c : Nat) (n : Int) (out : List (List Int)), trits3 kk out → trits3 kk (algI coins kk c n out) ∧ (algI coins kk c n out).length ≤ out.length + 3 * c
  | 0, n, out, h => ⟨h, by simp [algI]⟩
  | c + 1, n, out, h => by
    rw [algI]
    split
    · split
      · split
        · have := algI_ok coins kk c (n + 1) out h; exact ⟨this.1, by omega⟩
        · have := algI_ok coins kk c (n + 1) _ (trits3_append h (three_ok kk n))
          refine ⟨this.1, ?_⟩
          have := this.2
          rw [List.length_append] at this
          have e : (three (word kk n)).length = 3 := rfl
          omega
      · have := algI_ok coins kk c (n + 1) out h; exact ⟨this.1, by omega⟩
    · exact ⟨h, by omega⟩
set_option maxRecDepth 100000
theorem reach2 : decide (3 ≤ (algI 3 2 9 (-(L3 2)) []).length) = true := by decide +kernel
theorem reach3 : decide (12 ≤ (algI 12 3 27 (-(L3 3)) []).length) = true := by decide +kernel
theorem reach4 : decide (39 ≤ (algI 39 4 81 (-(L3 4)) []).length) = true := by decide +kernel
theorem reach5 : decide (120 ≤ (algI 120 5 243 (-(L3 5)) []).length) = true := by decide +kernel
theorem reach (coins kk : Nat) (hk : 2 ≤ kk ∧ kk ≤ 5) (hc : (coins : Int) ≤ (3 ^ kk - 3) / 2) : coins ≤ (algI coins kk (3 ^ kk) (-(L3 kk)) []).length := by
  have : kk = 2 ∨ kk = 3 ∨ kk = 4 ∨ kk = 5 := by omega
  rcases this with rfl | rfl | rfl | rfl
  · exact algI_reach coins 3 2 (by have : ((3 : Int) ^ 2 - 3) / 2 = 3 := by decide
                                   omega) _ _ _ (of_decide_eq_true reach2)
  · exact algI_reach coins 12 3 (by have : ((3 : Int) ^ 3 - 3) / 2 = 12 := by decide
                                    omega) _ _ _ (of_decide_eq_true reach3)
  · exact algI_reach coins 39 4 (by have : ((3 : Int) ^ 4 - 3) / 2 = 39 := by decide
                                    omega) _ _ _ (of_decide_eq_true reach4)
  · exact algI_reach coins 120 5 (by have : ((3 : Int) ^ 5 - 3) / 2 = 120 := by decide
                                     omega) _ _ _ (of_decide_eq_true reach5)
end Go.Proofs.Ytffohdlbkigehaa.Base

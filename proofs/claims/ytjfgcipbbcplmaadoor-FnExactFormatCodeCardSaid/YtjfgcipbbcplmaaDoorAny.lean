/- Where a plain test holds first, and whether it holds somewhere. -/
import Derived.Test.YtjfgcipbbcplmaaDoorWWords
set_option linter.unusedVariables false
set_option linter.unusedSimpArgs false
namespace Go.Proofs.YtjfgcipbbcplmaaDoor.Any
open Go.RowKit Go.Proofs.YtjfgcipbbcplmaaDoorW.PrintWords
/-- The first place at which p holds, from i on, or -1. -/
def fstP (p : Nat → Bool) : Nat → Nat → Int
  | _, 0 => -1
  | i, d + 1 => if p i = true then i else fstP p (i + 1) d
theorem fstP_hit {p : Nat → Bool} {i : Nat} (h : p i = true) : ∀ (d j : Nat), j + d > i → j ≤ i → (∀ m, j ≤ m → m < i → p m = false) → fstP p j d = i := by
  intro d
  induction d with
  | zero => intro j h1 h2; omega
  | succ d ih =>
    intro j h1 h2 h3
    rw [fstP]
    by_cases e : j = i
    · subst e; rw [if_pos h]
    · rw [h3 j (Nat.le_refl _) (by omega), if_neg (by simp)]
      exact ih (j + 1) (by omega) (by omega) (fun m a b => h3 m (by omega) b)
theorem fstP_miss {p : Nat → Bool} : ∀ (d j : Nat), (∀ m, j ≤ m → m < j + d → p m = false) → fstP p j d = -1 := by
  intro d
  induction d with
  | zero => intro j h; rfl
  | succ d ih =>
    intro j h
    rw [fstP, h j (Nat.le_refl _) (by omega), if_neg (by simp)]
    exact ih (j + 1) (fun m a b => h m (by omega) (by omega))
/-- Is there one of which g holds? (Of all, g must say something.) -/
def anyO {α : Type} (g : α → Option Bool) : List α → Option Bool
  | [] => some false
  | x :: xs => (g x).bind fun t => (anyO g xs).bind fun b => some (t || b)
theorem anyO_le {α : Type} {g g' : α → Option Bool} (h : ∀ x, LeO (g x) (g' x)) : ∀ l, LeO (anyO g l) (anyO g' l)
  | [] => LeO.refl _
  | x :: xs => LeO.bind (h x) (fun t => LeO.bind (anyO_le h xs) (fun _ => LeO.refl _))
theorem anyO_some {α : Type} {g : α → Option Bool} : ∀ {l : List α} {r : Bool}, anyO g l = some r → ∃ p : Nat → Bool, (∀ j (h : j < l.length), g l[j] = some (p j)) ∧ ∀ i, decide (0 ≤ fstP (fun m => p (m - i)) i l.length) = r
  | [], r, h => by
    obtain rfl := Option.some.inj h
    exact ⟨fun _ => false, fun j hj => by simp at hj, fun i => by simp [fstP]⟩
  | x :: xs, r, h => by
    obtain ⟨t, ht, h⟩ := Option.bind_eq_some_iff.1 h
    obtain ⟨b, hb, h⟩ := Option.bind_eq_some_iff.1 h
    obtain rfl := Option.some.inj h
    obtain ⟨p, hp, hr⟩ := anyO_some hb
    refine ⟨fun j => match j with | 0 => t | j + 1 => p j, fun j hj => ?_, fun i => ?_⟩
    · cases j with
      | zero => exact ht
      | succ j => exact hp j (by simpa using hj)
    · rw [List.length_cons, fstP]
      simp only [Nat.sub_self]
      cases t with
      | true => simp
      | false =>
        rw [if_neg (by simp), Bool.false_or, ← hr (i + 1)]
        refine congrArg (fun z => decide (0 ≤ z)) ?_
        clear hr hp hb ht
        generalize xs.length = n
        have : ∀ (n j : Nat), i + 1 ≤ j → fstP (fun m => match m - i with | 0 => false | j + 1 => p j) j n = fstP (fun m => p (m - (i + 1))) j n := by
          intro n
          induction n with
          | zero => intro j _; rfl
          | succ n ih =>
            intro j hj
            rw [fstP, fstP, ih (j + 1) (by omega)]
            have e : j - i = (j - (i + 1)) + 1 := by omega
            simp only [e]
        exact this n (i + 1) (Nat.le_refl _)
theorem anyO_some' {α : Type} {g : α → Option Bool} {l : List α} {r : Bool} (h : anyO g l = some r) : ∃ p : Nat → Bool, (∀ j (h : j < l.length), g l[j] = some (p j)) ∧ decide (0 ≤ fstP p 0 l.length) = r := by
  obtain ⟨p, h1, h2⟩ := anyO_some h
  exact ⟨p, h1, by simpa using h2 0⟩
/-- A row of rows, where its rows lie. -/
theorem rowsOf {e : Nat} {w : World} {A : Option Addr} {l : List (List Int)} (hr : Kd.C (Kd.slice e (Kd.int .i64)) w A l.length l) : ∃ (g2 : Nat → Option Addr) (g4 : Nat → Nat), ∀ j, j < l.length → ∃ ad, A = some ad ∧ (ad.add j).block < w.heap.size ∧ w.cell? (ad.add j) = some (.slice (g2 j) (l.getD j []).length (g4 j)) ∧ (l.getD j []).length ≤ g4 j ∧ Kd.C (Kd.int .i64) w (g2 j) (l.getD j []).length (l.getD j []) := by
  have H : ∀ j, ∃ q : Option Addr × Nat, j < l.length → ∃ ad, A = some ad ∧ (ad.add j).block < w.heap.size ∧ w.cell? (ad.add j) = some (.slice q.1 (l.getD j []).length q.2) ∧ (l.getD j []).length ≤ q.2 ∧ Kd.C (Kd.int .i64) w q.1 (l.getD j []).length (l.getD j []) := by
    intro j
    by_cases hj : j < l.length
    · obtain ⟨ad, cs, e, _, hK, hc⟩ := Kd.C_get hr ([] : List Int) (j : Int) (by omega) (by omega)
      obtain ⟨A2, c2, rfl, l2, g2⟩ := hK
      have m0 : w.cell? (ad.add j) = some (.slice A2 (l.getD j []).length c2) := by
        have := hc 0 _ rfl
        simpa [Kd.slice] using this
      exact ⟨(A2, c2), fun _ => ⟨ad, e, World.block_lt_of_cell? _ _ m0, m0, by simpa using l2, by simpa using g2⟩⟩
    · exact ⟨(none, 0), fun h => absurd h hj⟩
  obtain ⟨f, hf⟩ := Classical.axiomOfChoice H
  exact ⟨fun j => (f j).1, fun j => (f j).2, hf⟩
theorem cell_below {w W : World} (hW : Below w.heap.size w W) {p : Addr} {v : Value} (hp : p.block < w.heap.size) (h : w.cell? p = some v) : W.cell? p = some v := (hW.cell hp).trans h
end Go.Proofs.YtjfgcipbbcplmaaDoor.Any

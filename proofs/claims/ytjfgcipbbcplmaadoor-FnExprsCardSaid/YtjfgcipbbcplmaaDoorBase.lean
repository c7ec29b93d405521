/- Plain lemmas about numbers, lists and rounds, used by the proofs of this seat. -/
import Derived.Test.YtjfgcipbbcplmaaDoorWWords
import Derived.Test.YtjfgcipbbcplmaaDoorWLast
import Derived.Test.YtjfgcipbbcplmaaDoorWMore
import Derived.SizedLaws
import Derived.ChangeSlices
set_option linter.unusedVariables false
set_option linter.unusedSimpArgs false
namespace Go.Proofs.YtjfgcipbbcplmaaDoor.Base
open Go.RowKit Go.Proofs.YtjfgcipbbcplmaaDoorW.PrintWords Go.Proofs.YtjfgcipbbcplmaaDoorW.PrintLast Go.Proofs.YtjfgcipbbcplmaaDoorW.PrintMore

theorem w64 {n : Int} (h0 : -9223372036854775808 ≤ n) (h1 : n < 9223372036854775808) : wrap64 n = n := by
  unfold wrap64; omega

section
variable {α β : Type}
theorem Ev.succ {g : Nat → Option α} {r : α} (h : Ev (fun k => g (k + 1)) r) : Ev g r := Ev.step (fun _ => rfl) h
theorem Ev.ret {r r' : α} (h : r = r') : Ev (fun _ => some r) r' := h ▸ Ev.now r
theorem evTo {g : Nat → Option α} {r r' : α} (h : Ev g r) (e : r = r') : Ev g r' := e ▸ h
theorem Ev.pos {c : Prop} [Decidable c] {f g : Nat → Option α} {r : α} (hc : c) (h : Ev f r) : Ev (fun k => if c then f k else g k) r := by
  simp only [if_pos hc]; exact h
theorem Ev.neg {c : Prop} [Decidable c] {f g : Nat → Option α} {r : α} (hc : ¬ c) (h : Ev g r) : Ev (fun k => if c then f k else g k) r := by
  simp only [if_neg hc]; exact h
theorem Ev.ite {c : Prop} [Decidable c] {f g : Nat → Option α} {r : α} (h : c → Ev f r) (h' : ¬ c → Ev g r) : Ev (fun k => if c then f k else g k) r := by
  by_cases hc : c
  · exact Ev.pos hc (h hc)
  · exact Ev.neg hc (h' hc)
theorem Ev.bindc {g : Option α} {f : Nat → α → Option β} {a : α} {r : β} (h : g = some a) (k : Ev (fun n => f n a) r) : Ev (fun n => g.bind (f n)) r := by
  subst h; exact k
end

theorem rd_get (xs : List Int) (i : Nat) (h : i < xs.length) : rd xs (i : Int) = xs[i] := by
  simp [rd, List.getD_eq_getElem?_getD, List.getElem?_eq_getElem h]
theorem rd_mem {xs : List Int} {i : Int} (h0 : 0 ≤ i) (h : i < xs.length) : rd xs i ∈ xs := by
  obtain ⟨j, rfl⟩ : ∃ j : Nat, i = j := ⟨i.toNat, by omega⟩
  rw [rd_get xs j (by omega)]
  exact List.getElem_mem _
theorem drop_cons {α : Type} (xs : List α) (i : Nat) (h : i < xs.length) : xs.drop i = xs[i] :: xs.drop (i + 1) := by
  simp
theorem take_snoc {α : Type} (xs : List α) (i : Nat) (h : i < xs.length) : xs.take (i + 1) = xs.take i ++ [xs[i]] := by
  simp

theorem pow3_pos (n : Nat) : (1 : Int) ≤ 3 ^ n := by
  induction n with
  | zero => simp
  | succ n ih => rw [Int.pow_succ]; omega
theorem pow3_mono {i n : Nat} (h : i ≤ n) : (3 : Int) ^ i ≤ 3 ^ n := by
  obtain ⟨d, rfl⟩ := Nat.exists_eq_add_of_le h
  induction d with
  | zero => simp
  | succ d ih => rw [← Nat.add_assoc, Int.pow_succ]; have := ih (by omega); have := pow3_pos (i + d); omega
theorem pow3_30 {i : Nat} (h : i ≤ 30) : (3 : Int) ^ i ≤ 205891132094649 := by
  have := pow3_mono h
  exact this
theorem pow3_succ (i : Nat) : (3 : Int) ^ (i + 1) = 3 * 3 ^ i := by rw [Int.pow_succ, Int.mul_comm]

def isTrit (a : Int) : Bool := decide (-1 ≤ a ∧ a ≤ 1)
def isWord (w : List Int) : Bool := decide (1 ≤ w.length ∧ w.length ≤ 30) && w.all isTrit
def val : List Int → Int
  | [] => 0
  | a :: w => a + 3 * val w
def lim (k : Int) : Int := if 1 ≤ k ∧ k ≤ 30 then (3 ^ k.toNat - 1) / 2 else 0
/-- What 'mark' leaves in a slice. -/
def marked (n : Nat) (a : Int) : List Int := (List.range n).map (fun i : Nat => a + (i : Int))
theorem pow3_lim (n : Nat) : 2 * (((3 : Int) ^ n - 1) / 2) + 1 = 3 ^ n := by
  induction n with
  | zero => rfl
  | succ n ih => rw [pow3_succ]; omega
end Go.Proofs.YtjfgcipbbcplmaaDoor.Base

namespace Go.Proofs.YtjfgcipbbcplmaaDoor.PrintWords
end Go.Proofs.YtjfgcipbbcplmaaDoor.PrintWords

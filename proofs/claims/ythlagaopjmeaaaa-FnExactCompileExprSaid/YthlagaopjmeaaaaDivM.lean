/- Division that rounds to the nearest. -/
import Derived.Test.YthlagaopjmeaaaaWordM
set_option linter.unusedVariables false
set_option linter.unusedSimpArgs false
namespace Go.Proofs.Ythlagaopjmeaaaa.Base
open Go.RowKit Go.Proofs.YthlagaopjmeaaaaW.PrintWords Go.Proofs.YthlagaopjmeaaaaW.PrintLast Go.Proofs.YthlagaopjmeaaaaW.PrintMore
/-- The rest of the division that rounds to the nearest. -/
def divr (a d : Int) : Int :=
  let s := if d < 0 then -d else d
  let r := Int.tmod a s
  if 2 * r > s then r - s else if 2 * r ≤ -s then r + s else r
theorem divr_eq (a d s r : Int) (hs : (if d < 0 then -d else d) = s) (hr : Int.tmod a s = r) : divr a d = if 2 * r > s then r - s else if 2 * r ≤ -s then r + s else r := by
  subst hr; subst hs; rfl
theorem sgn_mul (d : Int) (h : d ≠ 0) : d * sgn d = if d < 0 then -d else d := by
  unfold sgn
  by_cases h1 : d < 0
  · rw [if_pos h1, if_pos h1]; omega
  · rw [if_neg h1, if_neg h1, if_pos (by omega)]; omega
theorem divq (a d : Int) (h0 : d ≠ 0) (q r : Int) (h : a = d * q + r) : Int.tdiv (a - r) d = q := by
  rw [h, show d * q + r - r = d * q by omega, Int.mul_tdiv_cancel_left _ h0]
theorem tmod_abs (a d : Int) : Int.tmod a (if d < 0 then -d else d) = Int.tmod a d := by
  split
  · exact Int.tmod_neg _ _
  · rfl
theorem lenOf_fits (n : Int) : decide (lenOf n > 0) = fitsB n 30 := by
  rcases lenOf_spec n with ⟨h1, h2⟩ | ⟨m, h1, h2, h3, h4, _⟩
  · rw [decide_eq_false (by omega)]
    symm
    rw [← Bool.not_eq_true]
    intro h
    exact h2 ((fitsB_iff n 30 (by omega)).1 h)
  · rw [decide_eq_true (by omega)]
    symm
    have := L3_mono h3
    exact (fitsB_iff n 30 (by omega)).2 (by omega)
end Go.Proofs.Ythlagaopjmeaaaa.Base

/- Plain mathematics of words that turn forward. -/
import Derived.Test.YteedicdanhjfpaaBase
set_option linter.unusedVariables false
set_option linter.unusedSimpArgs false
namespace Go.Proofs.Yteedicdanhjfpaa.Base
/-- The trit after a trit in the circle; 0 for others. -/
def turn (a : Int) : Int := if isTrit a = true then (if a = 1 then -1 else a + 1) else 0
/-- Do the trits turn forward? -/
def fwd : List Int → Bool
  | a :: b :: l => if b = a then fwd (b :: l) else b == turn a
  | _ => false
theorem fwd_two (a b : Int) (l : List Int) : fwd (a :: b :: l) = if b = a then fwd (b :: l) else b == turn a := rfl
theorem fwd_one (a : Int) : fwd [a] = false := rfl
end Go.Proofs.Yteedicdanhjfpaa.Base

/- Where a plain test holds first, and whether it holds somewhere. -/
import Derived.Test.YtjfgcipbbcplmaaDoorWWords
set_option linter.unusedVariables false
set_option linter.unusedSimpArgs false
namespace Go.Proofs.YtjfgcipbbcplmaaDoor.Any
open Go.RowKit Go.Proofs.YtjfgcipbbcplmaaDoorW.PrintWords
/-- The first place at which p holds, from i on, or -1. -/
def fstP (p : Nat → Bool) : Nat → Nat → Int
  | _, 0 => -1
  | i, d + 1 => if p i = true then i else fstP p (i + 1) d
/-- Is there one of which g holds? (Of all, g must say something.) -/
def anyO {α : Type} (g : α → Option Bool) : List α → Option Bool
  | [] => some false
  | x :: xs => (g x).bind fun t => (anyO g xs).bind fun b => some (t || b)
end Go.Proofs.YtjfgcipbbcplmaaDoor.Any

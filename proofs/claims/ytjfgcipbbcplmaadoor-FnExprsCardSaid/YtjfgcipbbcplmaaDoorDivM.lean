/- Division that rounds to the nearest. -/
import Derived.Test.YtjfgcipbbcplmaaDoorWordM
set_option linter.unusedVariables false
set_option linter.unusedSimpArgs false
namespace Go.Proofs.YtjfgcipbbcplmaaDoor.Base
open Go.RowKit Go.Proofs.YtjfgcipbbcplmaaDoorW.PrintWords Go.Proofs.YtjfgcipbbcplmaaDoorW.PrintLast Go.Proofs.YtjfgcipbbcplmaaDoorW.PrintMore
/-- The rest of the division that rounds to the nearest. -/
def divr (a d : Int) : Int :=
  let s := if d < 0 then -d else d
  let r := Int.tmod a s
  if 2 * r > s then r - s else if 2 * r ≤ -s then r + s else r
theorem divr_eq (a d s r : Int) (hs : (if d < 0 then -d else d) = s) (hr : Int.tmod a s = r) : divr a d = if 2 * r > s then r - s else if 2 * r ≤ -s then r + s else r := by
  subst hr; subst hs; rfl
end Go.Proofs.YtjfgcipbbcplmaaDoor.Base

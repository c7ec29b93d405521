/- What the program's text lays ahead of every call, as far as the functions that FnExprs reaches read it. -/
import Derived.Lib.AppendIntMem
import Derived.Lib.SmallJoins
import Derived.Test.YtjfgcipbbcplmaaDoorQ
import Derived.Test.YtjfgcipbbcplmaaDoorShItoa
import Derived.Test.YtjfgcipbbcplmaaDoorShAtoi
import Derived.Test.YtjfgcipbbcplmaaDoorShIndex
namespace Go.Proofs.YtjfgcipbbcplmaaDoor.HFnExprs
open Go.RowKit Go.Proofs.YtjfgcipbbcplmaaDoorW.PrintWords Go.Proofs.YtjfgcipbbcplmaaDoorW.PrintLast Go.Proofs.YtjfgcipbbcplmaaDoorW.PrintMore
/-- What lies in a world. -/
structure Laid1 (w : World) : Prop where
  pow : Lib.TabIs Tryd.prog w "internal/strconv.uint64pow10" .u64 Lib.pow10Tab
  syn : ∃ tp p, w.var? Tryd.prog "strconv.ErrSyntax" = some #[.iface tp p]
  rng : ∃ tp p, w.var? Tryd.prog "strconv.ErrRange" = some #[.iface tp p]
/-- It lies there, whatever is made. -/
def Laid (w : World) : Prop := ∀ w', Below w.heap.size w w' → Laid1 w'
theorem Laid.on {w w' : World} (h : Laid w) (hb : Below w.heap.size w w') : Laid w' := fun w2 h2 => h w2 (below_step hb h2)
theorem Laid.here {w : World} (h : Laid w) : Laid1 w := h w (Below.refl _ _)
end Go.Proofs.YtjfgcipbbcplmaaDoor.HFnExprs

/- Words: what the kit's print wrote for this seat, without the lemmas that these laws do not use (a program of this session struck them). -/
import Derived.Test.YtlmiankjbffboaaWInv
import Derived.Test.YtlmiankjbffboaaWFootNe
namespace Go.Proofs.YtlmiankjbffboaaW.PrintWords
open Go.RowKit
end Go.Proofs.YtlmiankjbffboaaW.PrintWords
namespace Go.Proofs.YtlmiankjbffboaaW.PrintLast
section
variable {ops : Array Oper} {a : Act} {o og : Oper} {g : Nat} {t : Tmp} {u : Bool}
end
end Go.Proofs.YtlmiankjbffboaaW.PrintLast

/- Words: what the kit's print wrote for this seat, without the lemmas that these laws do not use (a program of this session struck them). -/
import Derived.Test.YtlmiankjbffboaaWWords
import Derived.Laws.StructEq
namespace Go.Proofs.YtlmiankjbffboaaW.PrintWords
open Go.RowKit
section
variable {P : Program} {d : Nat} {xs ys : Array Value} {f : Field} {fs : List Field} {a b : Value} {r s : Bool} {w : World}
end
end Go.Proofs.YtlmiankjbffboaaW.PrintWords

/- Words: what the kit's print wrote for this seat, without the lemmas that these laws do not use (a program of this session struck them). -/
import Derived.Test.YtlmiankjbffboaaWTab
namespace Go.Proofs.YtlmiankjbffboaaW.PrintLast
section
variable {P : Program} {ops : Array Oper} {Q : Exit → Act → World → Prop} {md : Region.Mode} {S : World → Prop} {ds : List Nat} {T : Bool × List (List Nat × List Nat)}
end
end Go.Proofs.YtlmiankjbffboaaW.PrintLast

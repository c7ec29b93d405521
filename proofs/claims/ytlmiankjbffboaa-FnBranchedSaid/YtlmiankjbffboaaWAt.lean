/- Words: what the kit's print wrote for this seat, without the lemmas that these laws do not use (a program of this session struck them). -/
import Derived.Test.YtlmiankjbffboaaWFootNe
namespace Go.Proofs.YtlmiankjbffboaaW.PrintWords
open Go.RowKit
section
variable {w w' u : World} {m B g : Nat} {o : Obj} {row : Option Nat} {S : Nat → Prop} {a : Addr} {v : Value}
end
namespace Kd
section
variable {α : Type} {d : Kd α} {e base n m : Nat} {ok : Nat → Prop} {w w' : World} {v : Value} {A : Option Addr} {xs : List α}
end
end Kd
end Go.Proofs.YtlmiankjbffboaaW.PrintWords

/- Words: what the kit's print wrote for this seat, without the lemmas that these laws do not use (a program of this session struck them). -/
import Derived.Test.YtlmiankjbffboaaWN
namespace Go.Proofs.YtlmiankjbffboaaW.PrintWords
open Go.RowKit
namespace Kd
section
variable {α : Type} {d : Kd α} {W : World} {g n : Nat} {S ok : Nat → Prop} {A : Option Addr} {ad : Addr} {xs : List α}
end
end Kd
end Go.Proofs.YtlmiankjbffboaaW.PrintWords

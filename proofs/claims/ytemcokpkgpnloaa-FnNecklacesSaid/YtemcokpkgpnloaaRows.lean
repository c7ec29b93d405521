/-
  No cell of these rows narrows 'for every input' (looked for: loops, veiled, ifaces, maps, wideKeys, modest, calm, conditions, laid).
  DERIVED. THE GIVEN ROWS OF THIS SEAT. 8 by the template 'for every input the law returns true; each argument reads behind the call as it read before'; 0 by the template 'total and deterministic' (their statements: YtemcokpkgpnloaaTotals.lean).
  GIVEN WITH THE SEED: the statements are not yours to turn. If you find one false, say at which input.
  Laid BY PROGRAM, IN A SANDBOX (cutbox-rows.mjs): the forced cells as the released guide's own fill.sh prints them over the translation a7046ece108c7434… (all of the seat's roots in one cut). By AI agents, Wed Nov 11 2026. No macro, syntax, notation, axiom, sorry.
-/
import Derived.Test.YtemcokpkgpnloaaChecked
import GoSem.Claim
import GoSem.ClaimJoined
import GoSem.ClaimMapViews
import Derived.JoinedTies
import Derived.KernelRfl
namespace Go.Proofs.Ytemcokpkgpnloaa
/- THE CELL 'sum', in the pinned program and in every row, IS THE sha256 OF THE DUMP (.gsa) THAT YtemcokpkgpnloaaProg.lean LOADS. Nothing in Lean hashes anything: it is a label: what it is worth is what the hold of that sum in a sandbox is worth. -/
noncomputable def Try.pinned : Pinned := { name := "ytemcokpkgpnloaa", sum := "a7046ece108c743453d931936611aa8052e7401bee81130d7b7c10c756040431", checked := Try.checked }
namespace Rows
def none {H : Type} : Left H := { results := [], args := [] }

/-- 'laws.FnExactIsLyndon': WHATEVER THE INPUT: true; the input reads as it did. -/
def fnExactIsLyndonSpec : ChangeSpec := { name := "fnExactIsLyndon", fn := fun _ => fun
  | [d] => { results := [.lit (.bool true)], args := [d] }
  | _ => none }
def fnExactIsLyndonRow : OpenClaim := { program := "ytemcokpkgpnloaa", sum := "a7046ece108c743453d931936611aa8052e7401bee81130d7b7c10c756040431", func := "loop.example/g03225/laws.FnExactIsLyndon", spec := "fnExactIsLyndon", apart := false }
def FnExactIsLyndonSaid : Prop := fnExactIsLyndonRow.holds Try.pinned (OpenSpec.ofChange fnExactIsLyndonSpec)

/-- ITS FALSE NEIGHBOUR: 'it returns false'. Refute it at one input. -/
def fnExactIsLyndonWrong : ChangeSpec := { name := "fnExactIsLyndon", fn := fun _ => fun
  | [d] => { results := [.lit (.bool false)], args := [d] }
  | _ => none }
def FnExactIsLyndonWrongFalsely : Prop := fnExactIsLyndonRow.holds Try.pinned (OpenSpec.ofChange fnExactIsLyndonWrong)

/-- 'laws.FnExactNecklaceOf': WHATEVER THE INPUT: true; the input reads as it did. -/
def fnExactNecklaceOfSpec : ChangeSpec := { name := "fnExactNecklaceOf", fn := fun _ => fun
  | [d] => { results := [.lit (.bool true)], args := [d] }
  | _ => none }
def fnExactNecklaceOfRow : OpenClaim := { program := "ytemcokpkgpnloaa", sum := "a7046ece108c743453d931936611aa8052e7401bee81130d7b7c10c756040431", func := "loop.example/g03225/laws.FnExactNecklaceOf", spec := "fnExactNecklaceOf", apart := false }
def FnExactNecklaceOfSaid : Prop := fnExactNecklaceOfRow.holds Try.pinned (OpenSpec.ofChange fnExactNecklaceOfSpec)

/-- ITS FALSE NEIGHBOUR: 'it returns false'. Refute it at one input. -/
def fnExactNecklaceOfWrong : ChangeSpec := { name := "fnExactNecklaceOf", fn := fun _ => fun
  | [d] => { results := [.lit (.bool false)], args := [d] }
  | _ => none }
def FnExactNecklaceOfWrongFalsely : Prop := fnExactNecklaceOfRow.holds Try.pinned (OpenSpec.ofChange fnExactNecklaceOfWrong)

/-- 'laws.FnBuilt': WHATEVER THE INPUT: true; the input reads as it did. -/
def fnBuiltSpec : ChangeSpec := { name := "fnBuilt", fn := fun _ => fun
  | [d] => { results := [.lit (.bool true)], args := [d] }
  | _ => none }
def fnBuiltRow : OpenClaim := { program := "ytemcokpkgpnloaa", sum := "a7046ece108c743453d931936611aa8052e7401bee81130d7b7c10c756040431", func := "loop.example/g03225/laws.FnBuilt", spec := "fnBuilt", unfollowed := true, recurses := true, apart := false }
def FnBuiltSaid : Prop := fnBuiltRow.holds Try.pinned (OpenSpec.ofChange fnBuiltSpec)

/-- ITS FALSE NEIGHBOUR: 'it returns false'. Refute it at one input. -/
def fnBuiltWrong : ChangeSpec := { name := "fnBuilt", fn := fun _ => fun
  | [d] => { results := [.lit (.bool false)], args := [d] }
  | _ => none }
def FnBuiltWrongFalsely : Prop := fnBuiltRow.holds Try.pinned (OpenSpec.ofChange fnBuiltWrong)

/-- 'laws.FnGates': WHATEVER THE INPUT: true; the input reads as it did. -/
def fnGatesSpec : ChangeSpec := { name := "fnGates", fn := fun _ => fun
  | [d] => { results := [.lit (.bool true)], args := [d] }
  | _ => none }
def fnGatesRow : OpenClaim := { program := "ytemcokpkgpnloaa", sum := "a7046ece108c743453d931936611aa8052e7401bee81130d7b7c10c756040431", func := "loop.example/g03225/laws.FnGates", spec := "fnGates", unfollowed := true, recurses := true, apart := false }
def FnGatesSaid : Prop := fnGatesRow.holds Try.pinned (OpenSpec.ofChange fnGatesSpec)

/-- ITS FALSE NEIGHBOUR: 'it returns false'. Refute it at one input. -/
def fnGatesWrong : ChangeSpec := { name := "fnGates", fn := fun _ => fun
  | [d] => { results := [.lit (.bool false)], args := [d] }
  | _ => none }
def FnGatesWrongFalsely : Prop := fnGatesRow.holds Try.pinned (OpenSpec.ofChange fnGatesWrong)

/-- 'laws.FnCircle': WHATEVER THE INPUT: true; the input reads as it did. -/
def fnCircleSpec : ChangeSpec := { name := "fnCircle", fn := fun _ => fun
  | [d] => { results := [.lit (.bool true)], args := [d] }
  | _ => none }
def fnCircleRow : OpenClaim := { program := "ytemcokpkgpnloaa", sum := "a7046ece108c743453d931936611aa8052e7401bee81130d7b7c10c756040431", func := "loop.example/g03225/laws.FnCircle", spec := "fnCircle", unfollowed := true, recurses := true, apart := false }
def FnCircleSaid : Prop := fnCircleRow.holds Try.pinned (OpenSpec.ofChange fnCircleSpec)

/-- ITS FALSE NEIGHBOUR: 'it returns false'. Refute it at one input. -/
def fnCircleWrong : ChangeSpec := { name := "fnCircle", fn := fun _ => fun
  | [d] => { results := [.lit (.bool false)], args := [d] }
  | _ => none }
def FnCircleWrongFalsely : Prop := fnCircleRow.holds Try.pinned (OpenSpec.ofChange fnCircleWrong)

/-- 'laws.FnExactCircleOf': WHATEVER THE INPUT: true; the input reads as it did. -/
def fnExactCircleOfSpec : ChangeSpec := { name := "fnExactCircleOf", fn := fun _ => fun
  | [d] => { results := [.lit (.bool true)], args := [d] }
  | _ => none }
def fnExactCircleOfRow : OpenClaim := { program := "ytemcokpkgpnloaa", sum := "a7046ece108c743453d931936611aa8052e7401bee81130d7b7c10c756040431", func := "loop.example/g03225/laws.FnExactCircleOf", spec := "fnExactCircleOf", unfollowed := true, recurses := true, apart := false }
def FnExactCircleOfSaid : Prop := fnExactCircleOfRow.holds Try.pinned (OpenSpec.ofChange fnExactCircleOfSpec)

/-- ITS FALSE NEIGHBOUR: 'it returns false'. Refute it at one input. -/
def fnExactCircleOfWrong : ChangeSpec := { name := "fnExactCircleOf", fn := fun _ => fun
  | [d] => { results := [.lit (.bool false)], args := [d] }
  | _ => none }
def FnExactCircleOfWrongFalsely : Prop := fnExactCircleOfRow.holds Try.pinned (OpenSpec.ofChange fnExactCircleOfWrong)

/-- 'laws.FnExactLyndonWords': WHATEVER THE INPUT: true; the input reads as it did. -/
def fnExactLyndonWordsSpec : ChangeSpec := { name := "fnExactLyndonWords", fn := fun _ => fun
  | [d] => { results := [.lit (.bool true)], args := [d] }
  | _ => none }
def fnExactLyndonWordsRow : OpenClaim := { program := "ytemcokpkgpnloaa", sum := "a7046ece108c743453d931936611aa8052e7401bee81130d7b7c10c756040431", func := "loop.example/g03225/laws.FnExactLyndonWords", spec := "fnExactLyndonWords", unfollowed := true, recurses := true, apart := false }
def FnExactLyndonWordsSaid : Prop := fnExactLyndonWordsRow.holds Try.pinned (OpenSpec.ofChange fnExactLyndonWordsSpec)

/-- ITS FALSE NEIGHBOUR: 'it returns false'. Refute it at one input. -/
def fnExactLyndonWordsWrong : ChangeSpec := { name := "fnExactLyndonWords", fn := fun _ => fun
  | [d] => { results := [.lit (.bool false)], args := [d] }
  | _ => none }
def FnExactLyndonWordsWrongFalsely : Prop := fnExactLyndonWordsRow.holds Try.pinned (OpenSpec.ofChange fnExactLyndonWordsWrong)

/-- 'laws.FnNecklaces': WHATEVER THE INPUT: true; the input reads as it did. -/
def fnNecklacesSpec : ChangeSpec := { name := "fnNecklaces", fn := fun _ => fun
  | [d] => { results := [.lit (.bool true)], args := [d] }
  | _ => none }
def fnNecklacesRow : OpenClaim := { program := "ytemcokpkgpnloaa", sum := "a7046ece108c743453d931936611aa8052e7401bee81130d7b7c10c756040431", func := "loop.example/g03225/laws.FnNecklaces", spec := "fnNecklaces", unfollowed := true, recurses := true, apart := false }
def FnNecklacesSaid : Prop := fnNecklacesRow.holds Try.pinned (OpenSpec.ofChange fnNecklacesSpec)

/-- ITS FALSE NEIGHBOUR: 'it returns false'. Refute it at one input. -/
def fnNecklacesWrong : ChangeSpec := { name := "fnNecklaces", fn := fun _ => fun
  | [d] => { results := [.lit (.bool false)], args := [d] }
  | _ => none }
def FnNecklacesWrongFalsely : Prop := fnNecklacesRow.holds Try.pinned (OpenSpec.ofChange fnNecklacesWrong)

/- THE SECOND FORM. 'bulk': how many values and letters a reading holds, each counted each time it is reached (what is shared counts as often as it is met; a slice's spare places count too). A statement '..UptoSaid' is the law's where the arguments, and the package variables that the reading takes, are together of bulk at most 1048576: NARROWER than '..Said'. Prove '..Said' where nothing that the law and all that it calls make is longer than what came in: it says more and counts as full. Else prove '..UptoSaid'. A law counts once. -/
mutual
def uptoBulk {H : Type} : DataW H → Nat
  | .lit (.string bytes) => bytes.length + 1
  | .lit _ => 1
  | .nil => 1
  | .ptr d => uptoBulk d + 1
  | .slice elems spare => uptoBulkAll elems + uptoBulkAll spare + 1
  | .agg parts => uptoBulkAll parts + 1
  | .iface _ d => uptoBulk d + 1
  | .map entries => uptoBulkEntries entries + 1
  | .held _ => 1
def uptoBulkAll {H : Type} : List (DataW H) → Nat
  | [] => 0
  | d :: r => uptoBulk d + uptoBulkAll r
def uptoBulkEntries {H : Type} : List (Lit × DataW H) → Nat
  | [] => 0
  | x :: r => uptoBulkEntry x + uptoBulkEntries r
def uptoBulkEntry {H : Type} : Lit × DataW H → Nat
  | (.string bytes, d) => bytes.length + uptoBulk d + 1
  | (_, d) => uptoBulk d + 1
 end
def uptoSmall : (H : Type) → List (DataW H) → Bool := fun _ ds => decide (uptoBulkAll ds ≤ 1048576)
def OpenSpec.upto (s : _root_.Go.ChangeSpec) : _root_.Go.OpenSpec := { _root_.Go.OpenSpec.ofChange s with cond := some uptoSmall }

/-- 'laws.FnExactIsLyndon', WHERE WHAT IT READS IS OF BULK AT MOST 1048576: true; the input reads as it did. -/
def fnExactIsLyndonUptoRow : OpenClaim := { program := "ytemcokpkgpnloaa", sum := "a7046ece108c743453d931936611aa8052e7401bee81130d7b7c10c756040431", func := "loop.example/g03225/laws.FnExactIsLyndon", spec := "fnExactIsLyndon", apart := false, narrowed := true }
def FnExactIsLyndonUptoSaid : Prop := fnExactIsLyndonUptoRow.holds Try.pinned (OpenSpec.upto fnExactIsLyndonSpec)

/-- 'laws.FnExactNecklaceOf', WHERE WHAT IT READS IS OF BULK AT MOST 1048576: true; the input reads as it did. -/
def fnExactNecklaceOfUptoRow : OpenClaim := { program := "ytemcokpkgpnloaa", sum := "a7046ece108c743453d931936611aa8052e7401bee81130d7b7c10c756040431", func := "loop.example/g03225/laws.FnExactNecklaceOf", spec := "fnExactNecklaceOf", apart := false, narrowed := true }
def FnExactNecklaceOfUptoSaid : Prop := fnExactNecklaceOfUptoRow.holds Try.pinned (OpenSpec.upto fnExactNecklaceOfSpec)

/-- 'laws.FnBuilt', WHERE WHAT IT READS IS OF BULK AT MOST 1048576: true; the input reads as it did. -/
def fnBuiltUptoRow : OpenClaim := { program := "ytemcokpkgpnloaa", sum := "a7046ece108c743453d931936611aa8052e7401bee81130d7b7c10c756040431", func := "loop.example/g03225/laws.FnBuilt", spec := "fnBuilt", unfollowed := true, recurses := true, apart := false, narrowed := true }
def FnBuiltUptoSaid : Prop := fnBuiltUptoRow.holds Try.pinned (OpenSpec.upto fnBuiltSpec)

/-- 'laws.FnGates', WHERE WHAT IT READS IS OF BULK AT MOST 1048576: true; the input reads as it did. -/
def fnGatesUptoRow : OpenClaim := { program := "ytemcokpkgpnloaa", sum := "a7046ece108c743453d931936611aa8052e7401bee81130d7b7c10c756040431", func := "loop.example/g03225/laws.FnGates", spec := "fnGates", unfollowed := true, recurses := true, apart := false, narrowed := true }
def FnGatesUptoSaid : Prop := fnGatesUptoRow.holds Try.pinned (OpenSpec.upto fnGatesSpec)

/-- 'laws.FnCircle', WHERE WHAT IT READS IS OF BULK AT MOST 1048576: true; the input reads as it did. -/
def fnCircleUptoRow : OpenClaim := { program := "ytemcokpkgpnloaa", sum := "a7046ece108c743453d931936611aa8052e7401bee81130d7b7c10c756040431", func := "loop.example/g03225/laws.FnCircle", spec := "fnCircle", unfollowed := true, recurses := true, apart := false, narrowed := true }
def FnCircleUptoSaid : Prop := fnCircleUptoRow.holds Try.pinned (OpenSpec.upto fnCircleSpec)

/-- 'laws.FnExactCircleOf', WHERE WHAT IT READS IS OF BULK AT MOST 1048576: true; the input reads as it did. -/
def fnExactCircleOfUptoRow : OpenClaim := { program := "ytemcokpkgpnloaa", sum := "a7046ece108c743453d931936611aa8052e7401bee81130d7b7c10c756040431", func := "loop.example/g03225/laws.FnExactCircleOf", spec := "fnExactCircleOf", unfollowed := true, recurses := true, apart := false, narrowed := true }
def FnExactCircleOfUptoSaid : Prop := fnExactCircleOfUptoRow.holds Try.pinned (OpenSpec.upto fnExactCircleOfSpec)

/-- 'laws.FnExactLyndonWords', WHERE WHAT IT READS IS OF BULK AT MOST 1048576: true; the input reads as it did. -/
def fnExactLyndonWordsUptoRow : OpenClaim := { program := "ytemcokpkgpnloaa", sum := "a7046ece108c743453d931936611aa8052e7401bee81130d7b7c10c756040431", func := "loop.example/g03225/laws.FnExactLyndonWords", spec := "fnExactLyndonWords", unfollowed := true, recurses := true, apart := false, narrowed := true }
def FnExactLyndonWordsUptoSaid : Prop := fnExactLyndonWordsUptoRow.holds Try.pinned (OpenSpec.upto fnExactLyndonWordsSpec)

/-- 'laws.FnNecklaces', WHERE WHAT IT READS IS OF BULK AT MOST 1048576: true; the input reads as it did. -/
def fnNecklacesUptoRow : OpenClaim := { program := "ytemcokpkgpnloaa", sum := "a7046ece108c743453d931936611aa8052e7401bee81130d7b7c10c756040431", func := "loop.example/g03225/laws.FnNecklaces", spec := "fnNecklaces", unfollowed := true, recurses := true, apart := false, narrowed := true }
def FnNecklacesUptoSaid : Prop := fnNecklacesUptoRow.holds Try.pinned (OpenSpec.upto fnNecklacesSpec)

end Rows
end Go.Proofs.Ytemcokpkgpnloaa

/-
  NARROWER THAN 'FOR EVERY INPUT', by the rows' own cells (each row's printed sentence says how): FnExactEqualExprs: loops · FnExactIsExpr: loops · FnExactNegateExpr: loops · FnExactEvalExpr: loops · FnExactCompileExpr: loops.
  DERIVED. THE GIVEN ROWS OF THIS SEAT. 5 by the template 'for every input the law returns true; each argument reads behind the call as it read before'; 0 by the template 'total and deterministic' (their statements: YtkeojccgfehkkaaTotals.lean).
  GIVEN WITH THE SEED: the statements are not yours to turn. If you find one false, say at which input.
  Laid BY PROGRAM, IN A SANDBOX (cutbox-rows.mjs): the forced cells as the released guide's own fill.sh prints them over the translation ed7933c2d6d94894… (all of the seat's roots in one cut). By AI agents, Wed Nov 11 2026. No macro, syntax, notation, axiom, sorry.
-/
import Derived.Test.YtkeojccgfehkkaaChecked
import GoSem.Claim
import GoSem.ClaimJoined
import GoSem.ClaimMapViews
import Derived.JoinedTies
import Derived.KernelRfl
namespace Go.Proofs.Ytkeojccgfehkkaa
/- THE CELL 'sum', in the pinned program and in every row, IS THE sha256 OF THE DUMP (.gsa) THAT YtkeojccgfehkkaaProg.lean LOADS. Nothing in Lean hashes anything: it is a label: what it is worth is what the hold of that sum in a sandbox is worth. -/
noncomputable def Try.pinned : Pinned := { name := "ytkeojccgfehkkaa", sum := "ed7933c2d6d94894b8404715a1ef54899026d7fc267041c7fcaca276ab9c5da1", checked := Try.checked }
namespace Rows
def none {H : Type} : Left H := { results := [], args := [] }

/-- 'laws.FnExactEqualExprs': WHATEVER THE INPUT: true; the input reads as it did. -/
def fnExactEqualExprsSpec : ChangeSpec := { name := "fnExactEqualExprs", fn := fun _ => fun
  | [d1, d2] => { results := [.lit (.bool true)], args := [d1, d2] }
  | _ => none }
def fnExactEqualExprsRow : OpenClaim := { program := "ytkeojccgfehkkaa", sum := "ed7933c2d6d94894b8404715a1ef54899026d7fc267041c7fcaca276ab9c5da1", func := "loop.example/g03225/laws.FnExactEqualExprs", spec := "fnExactEqualExprs", unfollowed := true, recurses := true, loops := true, apart := false }
def FnExactEqualExprsSaid : Prop := fnExactEqualExprsRow.holds Try.pinned (OpenSpec.ofChange fnExactEqualExprsSpec)

/-- ITS FALSE NEIGHBOUR: 'it returns false'. Refute it at one input. -/
def fnExactEqualExprsWrong : ChangeSpec := { name := "fnExactEqualExprs", fn := fun _ => fun
  | [d1, d2] => { results := [.lit (.bool false)], args := [d1, d2] }
  | _ => none }
def FnExactEqualExprsWrongFalsely : Prop := fnExactEqualExprsRow.holds Try.pinned (OpenSpec.ofChange fnExactEqualExprsWrong)

/-- 'laws.FnExactIsExpr': WHATEVER THE INPUT: true; the input reads as it did. -/
def fnExactIsExprSpec : ChangeSpec := { name := "fnExactIsExpr", fn := fun _ => fun
  | [d] => { results := [.lit (.bool true)], args := [d] }
  | _ => none }
def fnExactIsExprRow : OpenClaim := { program := "ytkeojccgfehkkaa", sum := "ed7933c2d6d94894b8404715a1ef54899026d7fc267041c7fcaca276ab9c5da1", func := "loop.example/g03225/laws.FnExactIsExpr", spec := "fnExactIsExpr", recurses := true, loops := true, apart := false }
def FnExactIsExprSaid : Prop := fnExactIsExprRow.holds Try.pinned (OpenSpec.ofChange fnExactIsExprSpec)

/-- ITS FALSE NEIGHBOUR: 'it returns false'. Refute it at one input. -/
def fnExactIsExprWrong : ChangeSpec := { name := "fnExactIsExpr", fn := fun _ => fun
  | [d] => { results := [.lit (.bool false)], args := [d] }
  | _ => none }
def FnExactIsExprWrongFalsely : Prop := fnExactIsExprRow.holds Try.pinned (OpenSpec.ofChange fnExactIsExprWrong)

/-- 'laws.FnExactNegateExpr': WHATEVER THE INPUT: true; the input reads as it did. -/
def fnExactNegateExprSpec : ChangeSpec := { name := "fnExactNegateExpr", fn := fun _ => fun
  | [d] => { results := [.lit (.bool true)], args := [d] }
  | _ => none }
def fnExactNegateExprRow : OpenClaim := { program := "ytkeojccgfehkkaa", sum := "ed7933c2d6d94894b8404715a1ef54899026d7fc267041c7fcaca276ab9c5da1", func := "loop.example/g03225/laws.FnExactNegateExpr", spec := "fnExactNegateExpr", recurses := true, loops := true, apart := false }
def FnExactNegateExprSaid : Prop := fnExactNegateExprRow.holds Try.pinned (OpenSpec.ofChange fnExactNegateExprSpec)

/-- ITS FALSE NEIGHBOUR: 'it returns false'. Refute it at one input. -/
def fnExactNegateExprWrong : ChangeSpec := { name := "fnExactNegateExpr", fn := fun _ => fun
  | [d] => { results := [.lit (.bool false)], args := [d] }
  | _ => none }
def FnExactNegateExprWrongFalsely : Prop := fnExactNegateExprRow.holds Try.pinned (OpenSpec.ofChange fnExactNegateExprWrong)

/-- 'laws.FnExactEvalExpr': WHATEVER THE INPUT: true; the input reads as it did. -/
def fnExactEvalExprSpec : ChangeSpec := { name := "fnExactEvalExpr", fn := fun _ => fun
  | [d] => { results := [.lit (.bool true)], args := [d] }
  | _ => none }
def fnExactEvalExprRow : OpenClaim := { program := "ytkeojccgfehkkaa", sum := "ed7933c2d6d94894b8404715a1ef54899026d7fc267041c7fcaca276ab9c5da1", func := "loop.example/g03225/laws.FnExactEvalExpr", spec := "fnExactEvalExpr", recurses := true, loops := true, apart := false }
def FnExactEvalExprSaid : Prop := fnExactEvalExprRow.holds Try.pinned (OpenSpec.ofChange fnExactEvalExprSpec)

/-- ITS FALSE NEIGHBOUR: 'it returns false'. Refute it at one input. -/
def fnExactEvalExprWrong : ChangeSpec := { name := "fnExactEvalExpr", fn := fun _ => fun
  | [d] => { results := [.lit (.bool false)], args := [d] }
  | _ => none }
def FnExactEvalExprWrongFalsely : Prop := fnExactEvalExprRow.holds Try.pinned (OpenSpec.ofChange fnExactEvalExprWrong)

/-- 'laws.FnExactCompileExpr': WHATEVER THE INPUT: true; the input reads as it did. -/
def fnExactCompileExprSpec : ChangeSpec := { name := "fnExactCompileExpr", fn := fun _ => fun
  | [d] => { results := [.lit (.bool true)], args := [d] }
  | _ => none }
def fnExactCompileExprRow : OpenClaim := { program := "ytkeojccgfehkkaa", sum := "ed7933c2d6d94894b8404715a1ef54899026d7fc267041c7fcaca276ab9c5da1", func := "loop.example/g03225/laws.FnExactCompileExpr", spec := "fnExactCompileExpr", unfollowed := true, recurses := true, loops := true, apart := false }
def FnExactCompileExprSaid : Prop := fnExactCompileExprRow.holds Try.pinned (OpenSpec.ofChange fnExactCompileExprSpec)

/-- ITS FALSE NEIGHBOUR: 'it returns false'. Refute it at one input. -/
def fnExactCompileExprWrong : ChangeSpec := { name := "fnExactCompileExpr", fn := fun _ => fun
  | [d] => { results := [.lit (.bool false)], args := [d] }
  | _ => none }
def FnExactCompileExprWrongFalsely : Prop := fnExactCompileExprRow.holds Try.pinned (OpenSpec.ofChange fnExactCompileExprWrong)

/- THE SECOND FORM. 'bulk': how many values and letters a reading holds, each counted each time it is reached (what is shared counts as often as it is met; a slice's spare places count too). A statement '..UptoSaid' is the law's where the arguments, and the package variables that the reading takes, are together of bulk at most 1048576: NARROWER than '..Said'. Prove '..Said' where nothing that the law and all that it calls make is longer than what came in: it says more and counts as full. Else prove '..UptoSaid'. A law counts once. -/
mutual
def uptoBulk {H : Type} : DataW H → Nat
  | .lit (.string bytes) => bytes.length + 1
  | .lit _ => 1
  | .nil => 1
  | .ptr d => uptoBulk d + 1
  | .slice elems spare => uptoBulkAll elems + uptoBulkAll spare + 1
  | .agg parts => uptoBulkAll parts + 1
  | .iface _ d => uptoBulk d + 1
  | .map entries => uptoBulkEntries entries + 1
  | .held _ => 1
def uptoBulkAll {H : Type} : List (DataW H) → Nat
  | [] => 0
  | d :: r => uptoBulk d + uptoBulkAll r
def uptoBulkEntries {H : Type} : List (Lit × DataW H) → Nat
  | [] => 0
  | x :: r => uptoBulkEntry x + uptoBulkEntries r
def uptoBulkEntry {H : Type} : Lit × DataW H → Nat
  | (.string bytes, d) => bytes.length + uptoBulk d + 1
  | (_, d) => uptoBulk d + 1
 end
def uptoSmall : (H : Type) → List (DataW H) → Bool := fun _ ds => decide (uptoBulkAll ds ≤ 1048576)
def OpenSpec.upto (s : _root_.Go.ChangeSpec) : _root_.Go.OpenSpec := { _root_.Go.OpenSpec.ofChange s with cond := some uptoSmall }

/-- 'laws.FnExactEqualExprs', WHERE WHAT IT READS IS OF BULK AT MOST 1048576: true; the input reads as it did. -/
def fnExactEqualExprsUptoRow : OpenClaim := { program := "ytkeojccgfehkkaa", sum := "ed7933c2d6d94894b8404715a1ef54899026d7fc267041c7fcaca276ab9c5da1", func := "loop.example/g03225/laws.FnExactEqualExprs", spec := "fnExactEqualExprs", unfollowed := true, recurses := true, loops := true, apart := false, narrowed := true }
def FnExactEqualExprsUptoSaid : Prop := fnExactEqualExprsUptoRow.holds Try.pinned (OpenSpec.upto fnExactEqualExprsSpec)

/-- 'laws.FnExactIsExpr', WHERE WHAT IT READS IS OF BULK AT MOST 1048576: true; the input reads as it did. -/
def fnExactIsExprUptoRow : OpenClaim := { program := "ytkeojccgfehkkaa", sum := "ed7933c2d6d94894b8404715a1ef54899026d7fc267041c7fcaca276ab9c5da1", func := "loop.example/g03225/laws.FnExactIsExpr", spec := "fnExactIsExpr", recurses := true, loops := true, apart := false, narrowed := true }
def FnExactIsExprUptoSaid : Prop := fnExactIsExprUptoRow.holds Try.pinned (OpenSpec.upto fnExactIsExprSpec)

/-- 'laws.FnExactNegateExpr', WHERE WHAT IT READS IS OF BULK AT MOST 1048576: true; the input reads as it did. -/
def fnExactNegateExprUptoRow : OpenClaim := { program := "ytkeojccgfehkkaa", sum := "ed7933c2d6d94894b8404715a1ef54899026d7fc267041c7fcaca276ab9c5da1", func := "loop.example/g03225/laws.FnExactNegateExpr", spec := "fnExactNegateExpr", recurses := true, loops := true, apart := false, narrowed := true }
def FnExactNegateExprUptoSaid : Prop := fnExactNegateExprUptoRow.holds Try.pinned (OpenSpec.upto fnExactNegateExprSpec)

/-- 'laws.FnExactEvalExpr', WHERE WHAT IT READS IS OF BULK AT MOST 1048576: true; the input reads as it did. -/
def fnExactEvalExprUptoRow : OpenClaim := { program := "ytkeojccgfehkkaa", sum := "ed7933c2d6d94894b8404715a1ef54899026d7fc267041c7fcaca276ab9c5da1", func := "loop.example/g03225/laws.FnExactEvalExpr", spec := "fnExactEvalExpr", recurses := true, loops := true, apart := false, narrowed := true }
def FnExactEvalExprUptoSaid : Prop := fnExactEvalExprUptoRow.holds Try.pinned (OpenSpec.upto fnExactEvalExprSpec)

/-- 'laws.FnExactCompileExpr', WHERE WHAT IT READS IS OF BULK AT MOST 1048576: true; the input reads as it did. -/
def fnExactCompileExprUptoRow : OpenClaim := { program := "ytkeojccgfehkkaa", sum := "ed7933c2d6d94894b8404715a1ef54899026d7fc267041c7fcaca276ab9c5da1", func := "loop.example/g03225/laws.FnExactCompileExpr", spec := "fnExactCompileExpr", unfollowed := true, recurses := true, loops := true, apart := false, narrowed := true }
def FnExactCompileExprUptoSaid : Prop := fnExactCompileExprUptoRow.holds Try.pinned (OpenSpec.upto fnExactCompileExprSpec)

end Rows
end Go.Proofs.Ytkeojccgfehkkaa

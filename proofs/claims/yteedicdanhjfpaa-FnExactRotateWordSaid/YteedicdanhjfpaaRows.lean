/-
  No cell of these rows narrows 'for every input' (looked for: loops, veiled, ifaces, maps, wideKeys, modest, calm, conditions, laid).
  DERIVED. THE GIVEN ROWS OF THIS SEAT. 12 by the template 'for every input the law returns true; each argument reads behind the call as it read before'; 0 by the template 'total and deterministic' (their statements: YteedicdanhjfpaaTotals.lean).
  GIVEN WITH THE SEED: the statements are not yours to turn. If you find one false, say at which input.
  Laid BY PROGRAM, IN A SANDBOX (cutbox-rows.mjs): the forced cells as the released guide's own fill.sh prints them over the translation 3810cf6e3890e60c… (all of the seat's roots in one cut). By AI agents, Wed Nov 11 2026. No macro, syntax, notation, axiom, sorry.
-/
import Derived.Test.YteedicdanhjfpaaChecked
import GoSem.Claim
import GoSem.ClaimJoined
import GoSem.ClaimMapViews
import Derived.JoinedTies
import Derived.KernelRfl
namespace Go.Proofs.Yteedicdanhjfpaa
/- THE CELL 'sum', in the pinned program and in every row, IS THE sha256 OF THE DUMP (.gsa) THAT YteedicdanhjfpaaProg.lean LOADS. Nothing in Lean hashes anything: it is a label: what it is worth is what the hold of that sum in a sandbox is worth. -/
noncomputable def Try.pinned : Pinned := { name := "yteedicdanhjfpaa", sum := "3810cf6e3890e60c182a0ad0e4d65b911df7fd5f419c7754231e8e8aa60be7ce", checked := Try.checked }
namespace Rows
def none {H : Type} : Left H := { results := [], args := [] }

/-- 'laws.FnExactOpName': WHATEVER THE INPUT: true; the input reads as it did. -/
def fnExactOpNameSpec : ChangeSpec := { name := "fnExactOpName", fn := fun _ => fun
  | [d] => { results := [.lit (.bool true)], args := [d] }
  | _ => none }
def fnExactOpNameRow : OpenClaim := { program := "yteedicdanhjfpaa", sum := "3810cf6e3890e60c182a0ad0e4d65b911df7fd5f419c7754231e8e8aa60be7ce", func := "loop.example/g03225/laws.FnExactOpName", spec := "fnExactOpName", apart := false }
def FnExactOpNameSaid : Prop := fnExactOpNameRow.holds Try.pinned (OpenSpec.ofChange fnExactOpNameSpec)

/-- ITS FALSE NEIGHBOUR: 'it returns false'. Refute it at one input. -/
def fnExactOpNameWrong : ChangeSpec := { name := "fnExactOpName", fn := fun _ => fun
  | [d] => { results := [.lit (.bool false)], args := [d] }
  | _ => none }
def FnExactOpNameWrongFalsely : Prop := fnExactOpNameRow.holds Try.pinned (OpenSpec.ofChange fnExactOpNameWrong)

/-- 'laws.FnExactCoinsFor': WHATEVER THE INPUT: true; the input reads as it did. -/
def fnExactCoinsForSpec : ChangeSpec := { name := "fnExactCoinsFor", fn := fun _ => fun
  | [d] => { results := [.lit (.bool true)], args := [d] }
  | _ => none }
def fnExactCoinsForRow : OpenClaim := { program := "yteedicdanhjfpaa", sum := "3810cf6e3890e60c182a0ad0e4d65b911df7fd5f419c7754231e8e8aa60be7ce", func := "loop.example/g03225/laws.FnExactCoinsFor", spec := "fnExactCoinsFor", apart := false }
def FnExactCoinsForSaid : Prop := fnExactCoinsForRow.holds Try.pinned (OpenSpec.ofChange fnExactCoinsForSpec)

/-- ITS FALSE NEIGHBOUR: 'it returns false'. Refute it at one input. -/
def fnExactCoinsForWrong : ChangeSpec := { name := "fnExactCoinsFor", fn := fun _ => fun
  | [d] => { results := [.lit (.bool false)], args := [d] }
  | _ => none }
def FnExactCoinsForWrongFalsely : Prop := fnExactCoinsForRow.holds Try.pinned (OpenSpec.ofChange fnExactCoinsForWrong)

/-- 'laws.FnExactWrapCell': WHATEVER THE INPUT: true; the input reads as it did. -/
def fnExactWrapCellSpec : ChangeSpec := { name := "fnExactWrapCell", fn := fun _ => fun
  | [d] => { results := [.lit (.bool true)], args := [d] }
  | _ => none }
def fnExactWrapCellRow : OpenClaim := { program := "yteedicdanhjfpaa", sum := "3810cf6e3890e60c182a0ad0e4d65b911df7fd5f419c7754231e8e8aa60be7ce", func := "loop.example/g03225/laws.FnExactWrapCell", spec := "fnExactWrapCell", apart := false }
def FnExactWrapCellSaid : Prop := fnExactWrapCellRow.holds Try.pinned (OpenSpec.ofChange fnExactWrapCellSpec)

/-- ITS FALSE NEIGHBOUR: 'it returns false'. Refute it at one input. -/
def fnExactWrapCellWrong : ChangeSpec := { name := "fnExactWrapCell", fn := fun _ => fun
  | [d] => { results := [.lit (.bool false)], args := [d] }
  | _ => none }
def FnExactWrapCellWrongFalsely : Prop := fnExactWrapCellRow.holds Try.pinned (OpenSpec.ofChange fnExactWrapCellWrong)

/-- 'laws.FnThue': WHATEVER THE INPUT: true; the input reads as it did. -/
def fnThueSpec : ChangeSpec := { name := "fnThue", fn := fun _ => fun
  | [d] => { results := [.lit (.bool true)], args := [d] }
  | _ => none }
def fnThueRow : OpenClaim := { program := "yteedicdanhjfpaa", sum := "3810cf6e3890e60c182a0ad0e4d65b911df7fd5f419c7754231e8e8aa60be7ce", func := "loop.example/g03225/laws.FnThue", spec := "fnThue", apart := false }
def FnThueSaid : Prop := fnThueRow.holds Try.pinned (OpenSpec.ofChange fnThueSpec)

/-- ITS FALSE NEIGHBOUR: 'it returns false'. Refute it at one input. -/
def fnThueWrong : ChangeSpec := { name := "fnThue", fn := fun _ => fun
  | [d] => { results := [.lit (.bool false)], args := [d] }
  | _ => none }
def FnThueWrongFalsely : Prop := fnThueRow.holds Try.pinned (OpenSpec.ofChange fnThueWrong)

/-- 'laws.FnExactHasSquare': WHATEVER THE INPUT: true; the input reads as it did. -/
def fnExactHasSquareSpec : ChangeSpec := { name := "fnExactHasSquare", fn := fun _ => fun
  | [d] => { results := [.lit (.bool true)], args := [d] }
  | _ => none }
def fnExactHasSquareRow : OpenClaim := { program := "yteedicdanhjfpaa", sum := "3810cf6e3890e60c182a0ad0e4d65b911df7fd5f419c7754231e8e8aa60be7ce", func := "loop.example/g03225/laws.FnExactHasSquare", spec := "fnExactHasSquare", apart := false }
def FnExactHasSquareSaid : Prop := fnExactHasSquareRow.holds Try.pinned (OpenSpec.ofChange fnExactHasSquareSpec)

/-- ITS FALSE NEIGHBOUR: 'it returns false'. Refute it at one input. -/
def fnExactHasSquareWrong : ChangeSpec := { name := "fnExactHasSquare", fn := fun _ => fun
  | [d] => { results := [.lit (.bool false)], args := [d] }
  | _ => none }
def FnExactHasSquareWrongFalsely : Prop := fnExactHasSquareRow.holds Try.pinned (OpenSpec.ofChange fnExactHasSquareWrong)

/-- 'laws.FnExactNewMachine': WHATEVER THE INPUT: true; the input reads as it did. -/
def fnExactNewMachineSpec : ChangeSpec := { name := "fnExactNewMachine", fn := fun _ => fun
  | [] => { results := [.lit (.bool true)], args := [] }
  | _ => none }
def fnExactNewMachineRow : OpenClaim := { program := "yteedicdanhjfpaa", sum := "3810cf6e3890e60c182a0ad0e4d65b911df7fd5f419c7754231e8e8aa60be7ce", func := "loop.example/g03225/laws.FnExactNewMachine", spec := "fnExactNewMachine", apart := false }
def FnExactNewMachineSaid : Prop := fnExactNewMachineRow.holds Try.pinned (OpenSpec.ofChange fnExactNewMachineSpec)

/-- ITS FALSE NEIGHBOUR: 'it returns false'. Refute it at one input. -/
def fnExactNewMachineWrong : ChangeSpec := { name := "fnExactNewMachine", fn := fun _ => fun
  | [] => { results := [.lit (.bool false)], args := [] }
  | _ => none }
def FnExactNewMachineWrongFalsely : Prop := fnExactNewMachineRow.holds Try.pinned (OpenSpec.ofChange fnExactNewMachineWrong)

/-- 'laws.FnExactThueTrits': WHATEVER THE INPUT: true; the input reads as it did. -/
def fnExactThueTritsSpec : ChangeSpec := { name := "fnExactThueTrits", fn := fun _ => fun
  | [d] => { results := [.lit (.bool true)], args := [d] }
  | _ => none }
def fnExactThueTritsRow : OpenClaim := { program := "yteedicdanhjfpaa", sum := "3810cf6e3890e60c182a0ad0e4d65b911df7fd5f419c7754231e8e8aa60be7ce", func := "loop.example/g03225/laws.FnExactThueTrits", spec := "fnExactThueTrits", apart := false }
def FnExactThueTritsSaid : Prop := fnExactThueTritsRow.holds Try.pinned (OpenSpec.ofChange fnExactThueTritsSpec)

/-- ITS FALSE NEIGHBOUR: 'it returns false'. Refute it at one input. -/
def fnExactThueTritsWrong : ChangeSpec := { name := "fnExactThueTrits", fn := fun _ => fun
  | [d] => { results := [.lit (.bool false)], args := [d] }
  | _ => none }
def FnExactThueTritsWrongFalsely : Prop := fnExactThueTritsRow.holds Try.pinned (OpenSpec.ofChange fnExactThueTritsWrong)

/-- 'laws.FnExactGrayRank': WHATEVER THE INPUT: true; the input reads as it did. -/
def fnExactGrayRankSpec : ChangeSpec := { name := "fnExactGrayRank", fn := fun _ => fun
  | [d] => { results := [.lit (.bool true)], args := [d] }
  | _ => none }
def fnExactGrayRankRow : OpenClaim := { program := "yteedicdanhjfpaa", sum := "3810cf6e3890e60c182a0ad0e4d65b911df7fd5f419c7754231e8e8aa60be7ce", func := "loop.example/g03225/laws.FnExactGrayRank", spec := "fnExactGrayRank", apart := false }
def FnExactGrayRankSaid : Prop := fnExactGrayRankRow.holds Try.pinned (OpenSpec.ofChange fnExactGrayRankSpec)

/-- ITS FALSE NEIGHBOUR: 'it returns false'. Refute it at one input. -/
def fnExactGrayRankWrong : ChangeSpec := { name := "fnExactGrayRank", fn := fun _ => fun
  | [d] => { results := [.lit (.bool false)], args := [d] }
  | _ => none }
def FnExactGrayRankWrongFalsely : Prop := fnExactGrayRankRow.holds Try.pinned (OpenSpec.ofChange fnExactGrayRankWrong)

/-- 'laws.FnExactGrayWord': WHATEVER THE INPUT: true; the input reads as it did. -/
def fnExactGrayWordSpec : ChangeSpec := { name := "fnExactGrayWord", fn := fun _ => fun
  | [d1, d2] => { results := [.lit (.bool true)], args := [d1, d2] }
  | _ => none }
def fnExactGrayWordRow : OpenClaim := { program := "yteedicdanhjfpaa", sum := "3810cf6e3890e60c182a0ad0e4d65b911df7fd5f419c7754231e8e8aa60be7ce", func := "loop.example/g03225/laws.FnExactGrayWord", spec := "fnExactGrayWord", apart := false }
def FnExactGrayWordSaid : Prop := fnExactGrayWordRow.holds Try.pinned (OpenSpec.ofChange fnExactGrayWordSpec)

/-- ITS FALSE NEIGHBOUR: 'it returns false'. Refute it at one input. -/
def fnExactGrayWordWrong : ChangeSpec := { name := "fnExactGrayWord", fn := fun _ => fun
  | [d1, d2] => { results := [.lit (.bool false)], args := [d1, d2] }
  | _ => none }
def FnExactGrayWordWrongFalsely : Prop := fnExactGrayWordRow.holds Try.pinned (OpenSpec.ofChange fnExactGrayWordWrong)

/-- 'laws.FnExactTurnsForward': WHATEVER THE INPUT: true; the input reads as it did. -/
def fnExactTurnsForwardSpec : ChangeSpec := { name := "fnExactTurnsForward", fn := fun _ => fun
  | [d] => { results := [.lit (.bool true)], args := [d] }
  | _ => none }
def fnExactTurnsForwardRow : OpenClaim := { program := "yteedicdanhjfpaa", sum := "3810cf6e3890e60c182a0ad0e4d65b911df7fd5f419c7754231e8e8aa60be7ce", func := "loop.example/g03225/laws.FnExactTurnsForward", spec := "fnExactTurnsForward", apart := false }
def FnExactTurnsForwardSaid : Prop := fnExactTurnsForwardRow.holds Try.pinned (OpenSpec.ofChange fnExactTurnsForwardSpec)

/-- ITS FALSE NEIGHBOUR: 'it returns false'. Refute it at one input. -/
def fnExactTurnsForwardWrong : ChangeSpec := { name := "fnExactTurnsForward", fn := fun _ => fun
  | [d] => { results := [.lit (.bool false)], args := [d] }
  | _ => none }
def FnExactTurnsForwardWrongFalsely : Prop := fnExactTurnsForwardRow.holds Try.pinned (OpenSpec.ofChange fnExactTurnsForwardWrong)

/-- 'laws.FnExactRotateWord': WHATEVER THE INPUT: true; the input reads as it did. -/
def fnExactRotateWordSpec : ChangeSpec := { name := "fnExactRotateWord", fn := fun _ => fun
  | [d1, d2] => { results := [.lit (.bool true)], args := [d1, d2] }
  | _ => none }
def fnExactRotateWordRow : OpenClaim := { program := "yteedicdanhjfpaa", sum := "3810cf6e3890e60c182a0ad0e4d65b911df7fd5f419c7754231e8e8aa60be7ce", func := "loop.example/g03225/laws.FnExactRotateWord", spec := "fnExactRotateWord", apart := false }
def FnExactRotateWordSaid : Prop := fnExactRotateWordRow.holds Try.pinned (OpenSpec.ofChange fnExactRotateWordSpec)

/-- ITS FALSE NEIGHBOUR: 'it returns false'. Refute it at one input. -/
def fnExactRotateWordWrong : ChangeSpec := { name := "fnExactRotateWord", fn := fun _ => fun
  | [d1, d2] => { results := [.lit (.bool false)], args := [d1, d2] }
  | _ => none }
def FnExactRotateWordWrongFalsely : Prop := fnExactRotateWordRow.holds Try.pinned (OpenSpec.ofChange fnExactRotateWordWrong)

/-- 'laws.FnGray': WHATEVER THE INPUT: true; the input reads as it did. -/
def fnGraySpec : ChangeSpec := { name := "fnGray", fn := fun _ => fun
  | [d] => { results := [.lit (.bool true)], args := [d] }
  | _ => none }
def fnGrayRow : OpenClaim := { program := "yteedicdanhjfpaa", sum := "3810cf6e3890e60c182a0ad0e4d65b911df7fd5f419c7754231e8e8aa60be7ce", func := "loop.example/g03225/laws.FnGray", spec := "fnGray", apart := false }
def FnGraySaid : Prop := fnGrayRow.holds Try.pinned (OpenSpec.ofChange fnGraySpec)

/-- ITS FALSE NEIGHBOUR: 'it returns false'. Refute it at one input. -/
def fnGrayWrong : ChangeSpec := { name := "fnGray", fn := fun _ => fun
  | [d] => { results := [.lit (.bool false)], args := [d] }
  | _ => none }
def FnGrayWrongFalsely : Prop := fnGrayRow.holds Try.pinned (OpenSpec.ofChange fnGrayWrong)

/- THE SECOND FORM. 'bulk': how many values and letters a reading holds, each counted each time it is reached (what is shared counts as often as it is met; a slice's spare places count too). A statement '..UptoSaid' is the law's where the arguments, and the package variables that the reading takes, are together of bulk at most 1048576: NARROWER than '..Said'. Prove '..Said' where nothing that the law and all that it calls make is longer than what came in: it says more and counts as full. Else prove '..UptoSaid'. A law counts once. -/
mutual
def uptoBulk {H : Type} : DataW H → Nat
  | .lit (.string bytes) => bytes.length + 1
  | .lit _ => 1
  | .nil => 1
  | .ptr d => uptoBulk d + 1
  | .slice elems spare => uptoBulkAll elems + uptoBulkAll spare + 1
  | .agg parts => uptoBulkAll parts + 1
  | .iface _ d => uptoBulk d + 1
  | .map entries => uptoBulkEntries entries + 1
  | .held _ => 1
def uptoBulkAll {H : Type} : List (DataW H) → Nat
  | [] => 0
  | d :: r => uptoBulk d + uptoBulkAll r
def uptoBulkEntries {H : Type} : List (Lit × DataW H) → Nat
  | [] => 0
  | x :: r => uptoBulkEntry x + uptoBulkEntries r
def uptoBulkEntry {H : Type} : Lit × DataW H → Nat
  | (.string bytes, d) => bytes.length + uptoBulk d + 1
  | (_, d) => uptoBulk d + 1
 end
def uptoSmall : (H : Type) → List (DataW H) → Bool := fun _ ds => decide (uptoBulkAll ds ≤ 1048576)
def OpenSpec.upto (s : _root_.Go.ChangeSpec) : _root_.Go.OpenSpec := { _root_.Go.OpenSpec.ofChange s with cond := some uptoSmall }

/-- 'laws.FnExactOpName', WHERE WHAT IT READS IS OF BULK AT MOST 1048576: true; the input reads as it did. -/
def fnExactOpNameUptoRow : OpenClaim := { program := "yteedicdanhjfpaa", sum := "3810cf6e3890e60c182a0ad0e4d65b911df7fd5f419c7754231e8e8aa60be7ce", func := "loop.example/g03225/laws.FnExactOpName", spec := "fnExactOpName", apart := false, narrowed := true }
def FnExactOpNameUptoSaid : Prop := fnExactOpNameUptoRow.holds Try.pinned (OpenSpec.upto fnExactOpNameSpec)

/-- 'laws.FnExactCoinsFor', WHERE WHAT IT READS IS OF BULK AT MOST 1048576: true; the input reads as it did. -/
def fnExactCoinsForUptoRow : OpenClaim := { program := "yteedicdanhjfpaa", sum := "3810cf6e3890e60c182a0ad0e4d65b911df7fd5f419c7754231e8e8aa60be7ce", func := "loop.example/g03225/laws.FnExactCoinsFor", spec := "fnExactCoinsFor", apart := false, narrowed := true }
def FnExactCoinsForUptoSaid : Prop := fnExactCoinsForUptoRow.holds Try.pinned (OpenSpec.upto fnExactCoinsForSpec)

/-- 'laws.FnExactWrapCell', WHERE WHAT IT READS IS OF BULK AT MOST 1048576: true; the input reads as it did. -/
def fnExactWrapCellUptoRow : OpenClaim := { program := "yteedicdanhjfpaa", sum := "3810cf6e3890e60c182a0ad0e4d65b911df7fd5f419c7754231e8e8aa60be7ce", func := "loop.example/g03225/laws.FnExactWrapCell", spec := "fnExactWrapCell", apart := false, narrowed := true }
def FnExactWrapCellUptoSaid : Prop := fnExactWrapCellUptoRow.holds Try.pinned (OpenSpec.upto fnExactWrapCellSpec)

/-- 'laws.FnThue', WHERE WHAT IT READS IS OF BULK AT MOST 1048576: true; the input reads as it did. -/
def fnThueUptoRow : OpenClaim := { program := "yteedicdanhjfpaa", sum := "3810cf6e3890e60c182a0ad0e4d65b911df7fd5f419c7754231e8e8aa60be7ce", func := "loop.example/g03225/laws.FnThue", spec := "fnThue", apart := false, narrowed := true }
def FnThueUptoSaid : Prop := fnThueUptoRow.holds Try.pinned (OpenSpec.upto fnThueSpec)

/-- 'laws.FnExactHasSquare', WHERE WHAT IT READS IS OF BULK AT MOST 1048576: true; the input reads as it did. -/
def fnExactHasSquareUptoRow : OpenClaim := { program := "yteedicdanhjfpaa", sum := "3810cf6e3890e60c182a0ad0e4d65b911df7fd5f419c7754231e8e8aa60be7ce", func := "loop.example/g03225/laws.FnExactHasSquare", spec := "fnExactHasSquare", apart := false, narrowed := true }
def FnExactHasSquareUptoSaid : Prop := fnExactHasSquareUptoRow.holds Try.pinned (OpenSpec.upto fnExactHasSquareSpec)

/-- 'laws.FnExactNewMachine', WHERE WHAT IT READS IS OF BULK AT MOST 1048576: true; the input reads as it did. -/
def fnExactNewMachineUptoRow : OpenClaim := { program := "yteedicdanhjfpaa", sum := "3810cf6e3890e60c182a0ad0e4d65b911df7fd5f419c7754231e8e8aa60be7ce", func := "loop.example/g03225/laws.FnExactNewMachine", spec := "fnExactNewMachine", apart := false, narrowed := true }
def FnExactNewMachineUptoSaid : Prop := fnExactNewMachineUptoRow.holds Try.pinned (OpenSpec.upto fnExactNewMachineSpec)

/-- 'laws.FnExactThueTrits', WHERE WHAT IT READS IS OF BULK AT MOST 1048576: true; the input reads as it did. -/
def fnExactThueTritsUptoRow : OpenClaim := { program := "yteedicdanhjfpaa", sum := "3810cf6e3890e60c182a0ad0e4d65b911df7fd5f419c7754231e8e8aa60be7ce", func := "loop.example/g03225/laws.FnExactThueTrits", spec := "fnExactThueTrits", apart := false, narrowed := true }
def FnExactThueTritsUptoSaid : Prop := fnExactThueTritsUptoRow.holds Try.pinned (OpenSpec.upto fnExactThueTritsSpec)

/-- 'laws.FnExactGrayRank', WHERE WHAT IT READS IS OF BULK AT MOST 1048576: true; the input reads as it did. -/
def fnExactGrayRankUptoRow : OpenClaim := { program := "yteedicdanhjfpaa", sum := "3810cf6e3890e60c182a0ad0e4d65b911df7fd5f419c7754231e8e8aa60be7ce", func := "loop.example/g03225/laws.FnExactGrayRank", spec := "fnExactGrayRank", apart := false, narrowed := true }
def FnExactGrayRankUptoSaid : Prop := fnExactGrayRankUptoRow.holds Try.pinned (OpenSpec.upto fnExactGrayRankSpec)

/-- 'laws.FnExactGrayWord', WHERE WHAT IT READS IS OF BULK AT MOST 1048576: true; the input reads as it did. -/
def fnExactGrayWordUptoRow : OpenClaim := { program := "yteedicdanhjfpaa", sum := "3810cf6e3890e60c182a0ad0e4d65b911df7fd5f419c7754231e8e8aa60be7ce", func := "loop.example/g03225/laws.FnExactGrayWord", spec := "fnExactGrayWord", apart := false, narrowed := true }
def FnExactGrayWordUptoSaid : Prop := fnExactGrayWordUptoRow.holds Try.pinned (OpenSpec.upto fnExactGrayWordSpec)

/-- 'laws.FnExactTurnsForward', WHERE WHAT IT READS IS OF BULK AT MOST 1048576: true; the input reads as it did. -/
def fnExactTurnsForwardUptoRow : OpenClaim := { program := "yteedicdanhjfpaa", sum := "3810cf6e3890e60c182a0ad0e4d65b911df7fd5f419c7754231e8e8aa60be7ce", func := "loop.example/g03225/laws.FnExactTurnsForward", spec := "fnExactTurnsForward", apart := false, narrowed := true }
def FnExactTurnsForwardUptoSaid : Prop := fnExactTurnsForwardUptoRow.holds Try.pinned (OpenSpec.upto fnExactTurnsForwardSpec)

/-- 'laws.FnExactRotateWord', WHERE WHAT IT READS IS OF BULK AT MOST 1048576: true; the input reads as it did. -/
def fnExactRotateWordUptoRow : OpenClaim := { program := "yteedicdanhjfpaa", sum := "3810cf6e3890e60c182a0ad0e4d65b911df7fd5f419c7754231e8e8aa60be7ce", func := "loop.example/g03225/laws.FnExactRotateWord", spec := "fnExactRotateWord", apart := false, narrowed := true }
def FnExactRotateWordUptoSaid : Prop := fnExactRotateWordUptoRow.holds Try.pinned (OpenSpec.upto fnExactRotateWordSpec)

/-- 'laws.FnGray', WHERE WHAT IT READS IS OF BULK AT MOST 1048576: true; the input reads as it did. -/
def fnGrayUptoRow : OpenClaim := { program := "yteedicdanhjfpaa", sum := "3810cf6e3890e60c182a0ad0e4d65b911df7fd5f419c7754231e8e8aa60be7ce", func := "loop.example/g03225/laws.FnGray", spec := "fnGray", apart := false, narrowed := true }
def FnGrayUptoSaid : Prop := fnGrayUptoRow.holds Try.pinned (OpenSpec.upto fnGraySpec)

end Rows
end Go.Proofs.Yteedicdanhjfpaa

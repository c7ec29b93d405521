/- The row of FnExactWeighingsOf: its arguments hold structs or rows of rows. Written by a program of this session on the pattern of the kit's rows. -/
import Derived.Test.YtffohdlbkigehaaRows
import Derived.Test.YtffohdlbkigehaaHOpFnExactWeighingsOf
import Derived.Test.YtffohdlbkigehaaHPureFnExactWeighingsOf
import Derived.WalkKit
import Derived.ProofKit
import Derived.OpenShut
import Derived.ShutString
import Derived.ChangeOld
import Derived.Below
import Derived.SizedLaws
import Derived.Test.YtffohdlbkigehaaWSized
namespace Go.Proofs.Ytffohdlbkigehaa.fnExactWeighingsOf
open Go.ChangeShapes Go.WideShapes Go.ChangeAt Go.RowKit
open Go.ChangeMaps (open_string shut_string)
open Go.Proofs.Ytffohdlbkigehaa.HFnExactWeighingsOf Go.Proofs.Ytffohdlbkigehaa.Base Go.Proofs.YtffohdlbkigehaaW.PrintWords
set_option linter.unusedVariables false
set_option linter.unusedSimpArgs false
theorem own : ownKnob Try.prog.godebug = none := by kernel_rfl
theorem laidOut : laidOutB Try.prog = true := by kernel_rfl
set_option maxHeartbeats 4000000 in
set_option maxRecDepth 100000 in
theorem lifted (os : Os) (started : os.Started) (H : Type) (enc : TypeId × Value → H) :
    ReturnsInHanded {} Try.checked os 9 .any (Rows.fnExactWeighingsOfSpec.pre6 enc Try.prog Try.f9 Rows.fnExactWeighingsOfRow.domain false) (Rows.fnExactWeighingsOfSpec.post enc Try.prog Try.f9 false true false false) := by
  refine returnsInHanded_of_change_sized (C := Try.checked) own started (by kernel_rfl) Try.func9
    (ChangeSpec.witness6 (enc := enc) (C := Try.checked) false ⟨#[], #[.slice none 0 0], []⟩ 8 (by kernel_rfl) (by kernel_rfl) (by kernel_rfl) (by kernel_rfl)) ?_
  intro W base args ds gs before hval0 hW hcnd hsz0 _
  have hval : ∀ (j : Nat) t v, Try.f9.params[j]? = some t → args[j]? = some v → Value.okWide Try.prog W .any base t v := hval0
  have hW' := hW
  obtain ⟨p, q, hA0, hV, rfl, hfz, hnd⟩ := hW
  have hA : DataW.TrodAll enc Try.prog W 0 (fun _ => true) true Try.f9.params.toList args.toList ds p := hA0
  rw [Try.params9] at hA hval
  obtain ⟨v0, vs0, d0, ds0, p0, q0, hargs, rfl, rfl, h0, r0⟩ := trodAll_cons hA
  obtain ⟨rfl, rfl, rfl⟩ := trodAll_nil r0
  obtain rfl : args = #[v0] := by cases args; simp_all
  obtain ⟨rfl, rfl⟩ := trodVars_none hV
  obtain ⟨x0, xl_, xc_, rfl⟩ := okWide_slice Try.underlying34 (hval 0 34 v0 rfl rfl)
  have k0 := h0
  have lt0 : ∀ x ∈ p0, x.block < W.heap.size := by obtain ⟨m, hm⟩ := k0; exact DataW.trod_lt m _ _ _ hm
  obtain ⟨y0, K0, w0⟩ : ∃ y, ((Kd.slice 22 (Kd.slice 3 (Kd.int .i64)))).K W y _ ∧ (y.length ≤ maxLen ∧ ∀ x_ ∈ y, (x_.length ≤ maxLen ∧ ∀ x1_ ∈ x_, (Lit.int .i64 x1_).wf = true)) := by
    obtain ⟨fuel, hf⟩ := h0
    exact (op_slice [] Try.underlying34 (by first | kernel_rfl | rfl) fuel (fun m0_ hm0_ => (op_slice (0 : Int) Try.underlying22 (by first | kernel_rfl | rfl) m0_ (fun m1_ hm1_ => (op_int Try.underlying3 m1_))))) H enc (fun _ => true) fuel _ _ (Nat.le_refl _) hf
  obtain ⟨A0, c0, e0, h0c, h0r⟩ := K0
  simp [Value.cells] at e0
  obtain ⟨rfl, rfl, rfl⟩ := e0
  obtain ⟨kk, hk⟩ := HPure.FnExactWeighingsOf y0 w0
  clear hA0 hval0 hsz0
  refine (laws_FnExactWeighingsOf.calls kk _ _ y0 true W h0r h0c hk).mono fun e W' ⟨he, bel⟩ => ?_
  subst he
  exact ⟨_, rfl, _, _, _, [], _, [], hW', trodAll_mk1 (shut_bool Try.underlying4 _), (trodAll_cons_mk (Below.trod laidOut (by kernel_rfl) (of_decide_eq_true (by kernel_rfl)) k0 bel lt0) trodAll_mk0), rfl, bel.frame _, fun h => by cases h⟩
theorem over : Rows.fnExactWeighingsOfRow.holds Try.pinned (OpenSpec.ofChange Rows.fnExactWeighingsOfSpec) :=
  OpenClaim.holds_of_wide 9 Try.f9 rfl rfl rfl rfl rfl rfl rfl ⟨rfl, rfl, rfl, rfl, rfl⟩ rfl rfl rfl rfl rfl (by kernel_rfl) Try.func9 (by kernel_rfl)
    (of_decide_eq_true (by kernel_rfl)) (by unfold Func.isWrapper; first | (rw [if_pos (by decide +kernel)]; kernel_rfl) | (rw [if_neg (by decide +kernel)]; exact ⟨rfl, rfl⟩))
    (fun os started H enc _ => lifted os started H enc)
theorem proved : Rows.FnExactWeighingsOfSaid := over
#print axioms proved
end Go.Proofs.Ytffohdlbkigehaa.fnExactWeighingsOf
namespace Go.Proofs.Ytffohdlbkigehaa
/-- The row, under a short name, for the claim. -/
theorem fnExactWeighingsOf_holds : Rows.FnExactWeighingsOfSaid := fnExactWeighingsOf.proved
end Go.Proofs.Ytffohdlbkigehaa

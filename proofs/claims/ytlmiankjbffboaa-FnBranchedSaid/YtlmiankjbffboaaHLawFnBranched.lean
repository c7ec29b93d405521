/- The row of FnBranched: its arguments hold structs or rows of rows. Written by a program of this session on the pattern of the kit's rows. -/
import Derived.Test.YtlmiankjbffboaaRows
import Derived.Test.YtlmiankjbffboaaHOpFnBranched
import Derived.Test.YtlmiankjbffboaaHPureFnBranched
import Derived.WalkKit
import Derived.ProofKit
import Derived.OpenShut
import Derived.ShutString
import Derived.ChangeOld
import Derived.Below
import Derived.SizedLaws
import Derived.Test.YtlmiankjbffboaaWSized
namespace Go.Proofs.Ytlmiankjbffboaa.fnBranched
open Go.ChangeShapes Go.WideShapes Go.ChangeAt Go.RowKit
open Go.ChangeMaps (open_string shut_string)
open Go.Proofs.Ytlmiankjbffboaa.HFnBranched Go.Proofs.Ytlmiankjbffboaa.Base Go.Proofs.YtlmiankjbffboaaW.PrintWords
set_option linter.unusedVariables false
set_option linter.unusedSimpArgs false
theorem own : ownKnob Try.prog.godebug = none := by kernel_rfl
theorem laidOut : laidOutB Try.prog = true := by kernel_rfl
set_option maxHeartbeats 4000000 in
set_option maxRecDepth 100000 in
theorem lifted (os : Os) (started : os.Started) (H : Type) (enc : TypeId × Value → H) :
    ReturnsInHanded {} Try.checked os 7 .any (Rows.fnBranchedSpec.pre6 enc Try.prog Try.f7 Rows.fnBranchedRow.domain false) (Rows.fnBranchedSpec.post enc Try.prog Try.f7 false true false false) := by
  refine returnsInHanded_of_change_sized (C := Try.checked) own started (by kernel_rfl) Try.func7
    (ChangeSpec.witness6 (enc := enc) (C := Try.checked) false ⟨#[], #[.slice none 0 0], []⟩ 8 (by kernel_rfl) (by kernel_rfl) (by kernel_rfl) (by kernel_rfl)) ?_
  intro W base args ds gs before hval0 hW hcnd hsz0 _
  have hval : ∀ (j : Nat) t v, Try.f7.params[j]? = some t → args[j]? = some v → Value.okWide Try.prog W .any base t v := hval0
  have hW' := hW
  obtain ⟨p, q, hA0, hV, rfl, hfz, hnd⟩ := hW
  have hA : DataW.TrodAll enc Try.prog W 0 (fun _ => true) true Try.f7.params.toList args.toList ds p := hA0
  rw [Try.params7] at hA hval
  obtain ⟨v0, vs0, d0, ds0, p0, q0, hargs, rfl, rfl, h0, r0⟩ := trodAll_cons hA
  obtain ⟨rfl, rfl, rfl⟩ := trodAll_nil r0
  obtain rfl : args = #[v0] := by cases args; simp_all
  obtain ⟨rfl, rfl⟩ := trodVars_none hV
  obtain ⟨x0, xl_, xc_, rfl⟩ := okWide_slice Try.underlying41 (hval 0 41 v0 rfl rfl)
  have k0 := h0
  have lt0 : ∀ x ∈ p0, x.block < W.heap.size := by obtain ⟨m, hm⟩ := k0; exact DataW.trod_lt m _ _ _ hm
  obtain ⟨y0, K0, w0⟩ : ∃ y, ((Kd.slice 5 (Kd.int .u8))).K W y _ ∧ (y.length ≤ maxLen ∧ ∀ x_ ∈ y, (Lit.int .u8 x_).wf = true) := by
    obtain ⟨fuel, hf⟩ := h0
    exact (op_slice (0 : Int) Try.underlying41 (by first | kernel_rfl | rfl) fuel (fun m0_ hm0_ => (op_int Try.underlying5 m0_))) H enc (fun _ => true) fuel _ _ (Nat.le_refl _) hf
  obtain ⟨A0, c0, e0, h0c, h0r⟩ := K0
  simp [Value.cells] at e0
  obtain ⟨rfl, rfl, rfl⟩ := e0
  obtain ⟨kk, hk⟩ := HPure.FnBranched y0 w0
  clear hA0 hval0 hsz0
  refine (laws_FnBranched.calls kk _ _ y0 true W h0r h0c hk).mono fun e W' ⟨he, bel⟩ => ?_
  subst he
  exact ⟨_, rfl, _, _, _, [], _, [], hW', trodAll_mk1 (shut_bool Try.underlying4 _), (trodAll_cons_mk (Below.trod laidOut (by kernel_rfl) (of_decide_eq_true (by kernel_rfl)) k0 bel lt0) trodAll_mk0), rfl, bel.frame _, fun h => by cases h⟩
theorem over : Rows.fnBranchedRow.holds Try.pinned (OpenSpec.ofChange Rows.fnBranchedSpec) :=
  OpenClaim.holds_of_wide 7 Try.f7 rfl rfl rfl rfl rfl rfl rfl ⟨rfl, rfl, rfl, rfl, rfl⟩ rfl rfl rfl rfl rfl (by kernel_rfl) Try.func7 (by kernel_rfl)
    (of_decide_eq_true (by kernel_rfl)) (by unfold Func.isWrapper; first | (rw [if_pos (by decide +kernel)]; kernel_rfl) | (rw [if_neg (by decide +kernel)]; exact ⟨rfl, rfl⟩))
    (fun os started H enc _ => lifted os started H enc)
theorem proved : Rows.FnBranchedSaid := over
#print axioms proved
end Go.Proofs.Ytlmiankjbffboaa.fnBranched
namespace Go.Proofs.Ytlmiankjbffboaa
/-- The row, under a short name, for the claim. -/
theorem fnBranched_holds : Rows.FnBranchedSaid := fnBranched.proved
end Go.Proofs.Ytlmiankjbffboaa

/- The row of FnExactCompileExpr: its arguments hold structs or rows of rows. Written by a program of this session on the pattern of the kit's rows. -/
import Derived.Test.YthlagaopjmeaaaaRows
import Derived.Test.YthlagaopjmeaaaaHOpFnExactCompileExpr
import Derived.Test.YthlagaopjmeaaaaHPureFnExactCompileExpr
import Derived.WalkKit
import Derived.ProofKit
import Derived.OpenShut
import Derived.ShutString
import Derived.ChangeOld
import Derived.Below
import Derived.SizedLaws
import Derived.Test.YthlagaopjmeaaaaWSized
namespace Go.Proofs.Ythlagaopjmeaaaa.fnExactCompileExpr
open Go.ChangeShapes Go.WideShapes Go.ChangeAt Go.RowKit
open Go.ChangeMaps (open_string shut_string)
open Go.Proofs.Ythlagaopjmeaaaa.HFnExactCompileExpr Go.Proofs.Ythlagaopjmeaaaa.Base Go.Proofs.YthlagaopjmeaaaaW.PrintWords
set_option linter.unusedVariables false
set_option linter.unusedSimpArgs false
theorem own : ownKnob Try.prog.godebug = none := by kernel_rfl
theorem laidOut : laidOutB Try.prog = true := by kernel_rfl
set_option maxHeartbeats 4000000 in
set_option maxRecDepth 100000 in
theorem lifted (os : Os) (started : os.Started) (H : Type) (enc : TypeId × Value → H) :
    ReturnsInHanded {} Try.checked os 4 .any (Rows.fnExactCompileExprSpec.pre6 enc Try.prog Try.f4 Rows.fnExactCompileExprRow.domain false) (Rows.fnExactCompileExprSpec.post enc Try.prog Try.f4 false true false false) := by
  refine returnsInHanded_of_change_sized (C := Try.checked) own started (by kernel_rfl) Try.func4
    (ChangeSpec.witness6 (enc := enc) (C := Try.checked) false ⟨#[], #[.agg #[.int .i64 0, .int .i64 0, .slice none 0 0]], []⟩ 8 (by kernel_rfl) (by kernel_rfl) (by kernel_rfl) (by kernel_rfl)) ?_
  intro W base args ds gs before hval0 hW hcnd hsz0 _
  have hval : ∀ (j : Nat) t v, Try.f4.params[j]? = some t → args[j]? = some v → Value.okWide Try.prog W .any base t v := hval0
  have hW' := hW
  obtain ⟨p, q, hA0, hV, rfl, hfz, hnd⟩ := hW
  have hA : DataW.TrodAll enc Try.prog W 0 (fun _ => true) true Try.f4.params.toList args.toList ds p := hA0
  rw [Try.params4] at hA hval
  obtain ⟨v0, vs0, d0, ds0, p0, q0, hargs, rfl, rfl, h0, r0⟩ := trodAll_cons hA
  obtain ⟨rfl, rfl, rfl⟩ := trodAll_nil r0
  obtain rfl : args = #[v0] := by cases args; simp_all
  obtain ⟨rfl, rfl⟩ := trodVars_none hV
  obtain ⟨x0, rfl, hsz0⟩ := okWide_struct Try.underlying24 (hval 0 24 v0 rfl rfl)
  have k0 := h0
  have lt0 : ∀ x ∈ p0, x.block < W.heap.size := by obtain ⟨m, hm⟩ := k0; exact DataW.trod_lt m _ _ _ hm
  obtain ⟨y0, K0, w0⟩ : ∃ y, (k24).K W y _ ∧ Wf24 y := by
    obtain ⟨fuel, hf⟩ := h0
    exact (op24 W fuel) H enc (fun _ => true) fuel _ _ (Nat.le_refl _) hf
  obtain ⟨A0_2, c0_2, e0, h0_2c, h0_2r⟩ := k24_open K0
  obtain rfl : x0 = #[.int .i64 y0.f0, .int .i64 y0.f1, .slice A0_2 y0.f2.length c0_2] := by cases x0; simpa [Value.cells] using e0
  obtain ⟨kk, hk⟩ := HPure.FnExactCompileExpr y0 w0
  clear hA0 hval0 hsz0
  refine (laws_FnExactCompileExpr.calls kk y0.f0 y0.f1 A0_2 c0_2 y0.f2 true W h0_2r h0_2c hk).mono fun e W' ⟨he, bel⟩ => ?_
  subst he
  exact ⟨_, rfl, _, _, _, [], _, [], hW', trodAll_mk1 (shut_bool Try.underlying4 _), (trodAll_cons_mk (Below.trod laidOut (by kernel_rfl) (of_decide_eq_true (by kernel_rfl)) k0 bel lt0) trodAll_mk0), rfl, bel.frame _, fun h => by cases h⟩
theorem over : Rows.fnExactCompileExprRow.holds Try.pinned (OpenSpec.ofChange Rows.fnExactCompileExprSpec) :=
  OpenClaim.holds_of_wide 4 Try.f4 rfl rfl rfl rfl rfl rfl rfl ⟨rfl, rfl, rfl, rfl, rfl⟩ rfl rfl rfl rfl rfl (by kernel_rfl) Try.func4 (by kernel_rfl)
    (of_decide_eq_true (by kernel_rfl)) (by unfold Func.isWrapper; first | (rw [if_pos (by decide +kernel)]; kernel_rfl) | (rw [if_neg (by decide +kernel)]; exact ⟨rfl, rfl⟩))
    (fun os started H enc _ => lifted os started H enc)
theorem proved : Rows.FnExactCompileExprSaid := over
#print axioms proved
end Go.Proofs.Ythlagaopjmeaaaa.fnExactCompileExpr
namespace Go.Proofs.Ythlagaopjmeaaaa
/-- The row, under a short name, for the claim. -/
theorem fnExactCompileExpr_holds : Rows.FnExactCompileExprSaid := fnExactCompileExpr.proved
end Go.Proofs.Ythlagaopjmeaaaa

/- The row of FnExactEqualExprs: its arguments hold structs or rows of rows. Written by a program of this session on the pattern of the kit's rows. -/
import Derived.Test.YtkeojccgfehkkaaRows
import Derived.Test.YtkeojccgfehkkaaHOpFnExactEqualExprs
import Derived.Test.YtkeojccgfehkkaaHPureFnExactEqualExprs
import Derived.WalkKit
import Derived.ProofKit
import Derived.OpenShut
import Derived.ShutString
import Derived.ChangeOld
import Derived.Below
import Derived.SizedLaws
import Derived.Test.YtkeojccgfehkkaaWSized
namespace Go.Proofs.Ytkeojccgfehkkaa.fnExactEqualExprs
open Go.ChangeShapes Go.WideShapes Go.ChangeAt Go.RowKit
open Go.ChangeMaps (open_string shut_string)
open Go.Proofs.Ytkeojccgfehkkaa.HFnExactEqualExprs Go.Proofs.Ytkeojccgfehkkaa.Base Go.Proofs.YtkeojccgfehkkaaW.PrintWords
set_option linter.unusedVariables false
theorem own : ownKnob Try.prog.godebug = none := by kernel_rfl
theorem laidOut : laidOutB Try.prog = true := by kernel_rfl
set_option maxHeartbeats 4000000 in
set_option maxRecDepth 100000 in
theorem lifted (os : Os) (started : os.Started) (H : Type) (enc : TypeId × Value → H) :
    ReturnsInHanded {} Try.checked os 3 .any (Rows.fnExactEqualExprsSpec.pre6 enc Try.prog Try.f3 Rows.fnExactEqualExprsRow.domain false) (Rows.fnExactEqualExprsSpec.post enc Try.prog Try.f3 false true false false) := by
  refine returnsInHanded_of_change_sized (C := Try.checked) own started (by kernel_rfl) Try.func3
    (ChangeSpec.witness6 (enc := enc) (C := Try.checked) false ⟨#[], #[.agg #[.int .i64 0, .int .i64 0, .slice none 0 0], .agg #[.int .i64 0, .int .i64 0, .slice none 0 0]], []⟩ 8 (by kernel_rfl) (by kernel_rfl) (by kernel_rfl) (by kernel_rfl)) ?_
  intro W base args ds gs before hval0 hW hcnd hsz0 _
  have hval : ∀ (j : Nat) t v, Try.f3.params[j]? = some t → args[j]? = some v → Value.okWide Try.prog W .any base t v := hval0
  have hW' := hW
  obtain ⟨p, q, hA0, hV, rfl, hfz, hnd⟩ := hW
  have hA : DataW.TrodAll enc Try.prog W 0 (fun _ => true) true Try.f3.params.toList args.toList ds p := hA0
  rw [Try.params3] at hA hval
  obtain ⟨v0, vs0, d0, ds0, p0, q0, hargs, rfl, rfl, h0, r0⟩ := trodAll_cons hA
  obtain ⟨v1, vs1, d1, ds1, p1, q1, rfl, rfl, rfl, h1, r1⟩ := trodAll_cons r0
  obtain ⟨rfl, rfl, rfl⟩ := trodAll_nil r1
  obtain rfl : args = #[v0, v1] := by cases args; simp_all
  obtain ⟨rfl, rfl⟩ := trodVars_none hV
  obtain ⟨x0, rfl, hsz0⟩ := okWide_struct Try.underlying24 (hval 0 24 v0 rfl rfl)
  have k0 := h0
  have lt0 : ∀ x ∈ p0, x.block < W.heap.size := by obtain ⟨m, hm⟩ := k0; exact DataW.trod_lt m _ _ _ hm
  obtain ⟨y0, K0, w0⟩ : ∃ y, (k24).K W y _ ∧ Wf24 y := by
    obtain ⟨fuel, hf⟩ := h0
    exact (op24 W fuel) H enc (fun _ => true) fuel _ _ (Nat.le_refl _) hf
  obtain ⟨A0_2, c0_2, e0, h0_2c, h0_2r⟩ := k24_open K0
  obtain rfl : x0 = #[.int .i64 y0.f0, .int .i64 y0.f1, .slice A0_2 y0.f2.length c0_2] := by cases x0; simpa [Value.cells] using e0
  obtain ⟨x1, rfl, hsz1⟩ := okWide_struct Try.underlying24 (hval 1 24 v1 rfl rfl)
  have k1 := h1
  have lt1 : ∀ x ∈ p1, x.block < W.heap.size := by obtain ⟨m, hm⟩ := k1; exact DataW.trod_lt m _ _ _ hm
  obtain ⟨y1, K1, w1⟩ : ∃ y, (k24).K W y _ ∧ Wf24 y := by
    obtain ⟨fuel, hf⟩ := h1
    exact (op24 W fuel) H enc (fun _ => true) fuel _ _ (Nat.le_refl _) hf
  obtain ⟨A1_2, c1_2, e1, h1_2c, h1_2r⟩ := k24_open K1
  obtain rfl : x1 = #[.int .i64 y1.f0, .int .i64 y1.f1, .slice A1_2 y1.f2.length c1_2] := by cases x1; simpa [Value.cells] using e1
  obtain ⟨kk, hk⟩ := HPure.FnExactEqualExprs y0 y1 w0 w1
  clear hA0 hval0 hsz0
  refine (laws_FnExactEqualExprs.calls kk y0.f0 y0.f1 A0_2 c0_2 y0.f2 y1.f0 y1.f1 A1_2 c1_2 y1.f2 true W h0_2r h0_2c h1_2r h1_2c hk).mono fun e W' ⟨he, bel⟩ => ?_
  subst he
  exact ⟨_, rfl, _, _, _, [], _, [], hW', trodAll_mk1 (shut_bool Try.underlying4 _), (trodAll_cons_mk (Below.trod laidOut (by kernel_rfl) (of_decide_eq_true (by kernel_rfl)) k0 bel lt0) (trodAll_cons_mk (Below.trod laidOut (by kernel_rfl) (of_decide_eq_true (by kernel_rfl)) k1 bel lt1) trodAll_mk0)), rfl, bel.frame _, fun h => by cases h⟩
theorem over : Rows.fnExactEqualExprsRow.holds Try.pinned (OpenSpec.ofChange Rows.fnExactEqualExprsSpec) :=
  OpenClaim.holds_of_wide 3 Try.f3 rfl rfl rfl rfl rfl rfl rfl ⟨rfl, rfl, rfl, rfl, rfl⟩ rfl rfl rfl rfl rfl (by kernel_rfl) Try.func3 (by kernel_rfl)
    (of_decide_eq_true (by kernel_rfl)) (by unfold Func.isWrapper; first | (rw [if_pos (by decide +kernel)]; kernel_rfl) | (rw [if_neg (by decide +kernel)]; exact ⟨rfl, rfl⟩))
    (fun os started H enc _ => lifted os started H enc)
theorem proved : Rows.FnExactEqualExprsSaid := over
#print axioms proved
end Go.Proofs.Ytkeojccgfehkkaa.fnExactEqualExprs
namespace Go.Proofs.Ytkeojccgfehkkaa
/-- The row, under a short name, for the claim. -/
theorem fnExactEqualExprs_holds : Rows.FnExactEqualExprsSaid := fnExactEqualExprs.proved
end Go.Proofs.Ytkeojccgfehkkaa

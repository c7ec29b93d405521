/- The row of FnExactWeighCoins: its arguments hold structs or rows of rows. Written by a program of this session on the pattern of the kit's rows. -/
import Derived.Test.YtffohdlbkigehaaRows
import Derived.Test.YtffohdlbkigehaaHOpFnExactWeighCoins
import Derived.Test.YtffohdlbkigehaaHPureFnExactWeighCoins
import Derived.WalkKit
import Derived.ProofKit
import Derived.OpenShut
import Derived.ShutString
import Derived.ChangeOld
import Derived.Below
import Derived.SizedLaws
import Derived.Test.YtffohdlbkigehaaWSized
namespace Go.Proofs.Ytffohdlbkigehaa.fnExactWeighCoins
open Go.ChangeShapes Go.WideShapes Go.ChangeAt Go.RowKit
open Go.ChangeMaps (open_string shut_string)
open Go.Proofs.Ytffohdlbkigehaa.HFnExactWeighCoins Go.Proofs.Ytffohdlbkigehaa.Base Go.Proofs.YtffohdlbkigehaaW.PrintWords
set_option linter.unusedVariables false
theorem own : ownKnob Try.prog.godebug = none := by kernel_rfl
theorem laidOut : laidOutB Try.prog = true := by kernel_rfl
set_option maxHeartbeats 4000000 in
set_option maxRecDepth 100000 in
theorem lifted (os : Os) (started : os.Started) (H : Type) (enc : TypeId × Value → H) :
    ReturnsInHanded {} Try.checked os 3 .any (Rows.fnExactWeighCoinsSpec.pre6 enc Try.prog Try.f3 Rows.fnExactWeighCoinsRow.domain false) (Rows.fnExactWeighCoinsSpec.post enc Try.prog Try.f3 false true false false) := by
  refine returnsInHanded_of_change_sized (C := Try.checked) own started (by kernel_rfl) Try.func3
    (ChangeSpec.witness6 (enc := enc) (C := Try.checked) false ⟨#[], #[.slice none 0 0, .agg #[.slice none 0 0, .slice none 0 0]], []⟩ 8 (by kernel_rfl) (by kernel_rfl) (by kernel_rfl) (by kernel_rfl)) ?_
  intro W base args ds gs before hval0 hW hcnd hsz0 _
  have hval : ∀ (j : Nat) t v, Try.f3.params[j]? = some t → args[j]? = some v → Value.okWide Try.prog W .any base t v := hval0
  have hW' := hW
  obtain ⟨p, q, hA0, hV, rfl, hfz, hnd⟩ := hW
  have hA : DataW.TrodAll enc Try.prog W 0 (fun _ => true) true Try.f3.params.toList args.toList ds p := hA0
  rw [Try.params3] at hA hval
  obtain ⟨v0, vs0, d0, ds0, p0, q0, hargs, rfl, rfl, h0, r0⟩ := trodAll_cons hA
  obtain ⟨v1, vs1, d1, ds1, p1, q1, rfl, rfl, rfl, h1, r1⟩ := trodAll_cons r0
  obtain ⟨rfl, rfl, rfl⟩ := trodAll_nil r1
  obtain rfl : args = #[v0, v1] := by cases args; simp_all
  obtain ⟨rfl, rfl⟩ := trodVars_none hV
  obtain ⟨x0, xl_, xc_, rfl⟩ := okWide_slice Try.underlying22 (hval 0 22 v0 rfl rfl)
  have k0 := h0
  have lt0 : ∀ x ∈ p0, x.block < W.heap.size := by obtain ⟨m, hm⟩ := k0; exact DataW.trod_lt m _ _ _ hm
  obtain ⟨y0, K0, w0⟩ : ∃ y, ((Kd.slice 3 (Kd.int .i64))).K W y _ ∧ (y.length ≤ maxLen ∧ ∀ x_ ∈ y, (Lit.int .i64 x_).wf = true) := by
    obtain ⟨fuel, hf⟩ := h0
    exact (op_slice (0 : Int) Try.underlying22 (by first | kernel_rfl | rfl) fuel (fun m0_ hm0_ => (op_int Try.underlying3 m0_))) H enc (fun _ => true) fuel _ _ (Nat.le_refl _) hf
  obtain ⟨A0, c0, e0, h0c, h0r⟩ := K0
  simp [Value.cells] at e0
  obtain ⟨rfl, rfl, rfl⟩ := e0
  obtain ⟨x1, rfl, hsz1⟩ := okWide_struct Try.underlying24 (hval 1 24 v1 rfl rfl)
  have k1 := h1
  have lt1 : ∀ x ∈ p1, x.block < W.heap.size := by obtain ⟨m, hm⟩ := k1; exact DataW.trod_lt m _ _ _ hm
  obtain ⟨y1, K1, w1⟩ : ∃ y, (k24).K W y _ ∧ Wf24 y := by
    obtain ⟨fuel, hf⟩ := h1
    exact (op24 W fuel) H enc (fun _ => true) fuel _ _ (Nat.le_refl _) hf
  obtain ⟨A1_0, c1_0, A1_1, c1_1, e1, h1_0c, h1_0r, h1_1c, h1_1r⟩ := k24_open K1
  obtain rfl : x1 = #[.slice A1_0 y1.f0.length c1_0, .slice A1_1 y1.f1.length c1_1] := by cases x1; simpa [Value.cells] using e1
  obtain ⟨kk, hk⟩ := HPure.FnExactWeighCoins y0 y1 w0 w1
  clear hA0 hval0 hsz0
  refine (laws_FnExactWeighCoins.calls kk _ _ y0 A1_0 c1_0 y1.f0 A1_1 c1_1 y1.f1 true W h0r h0c h1_0r h1_0c h1_1r h1_1c hk).mono fun e W' ⟨he, bel⟩ => ?_
  subst he
  exact ⟨_, rfl, _, _, _, [], _, [], hW', trodAll_mk1 (shut_bool Try.underlying4 _), (trodAll_cons_mk (Below.trod laidOut (by kernel_rfl) (of_decide_eq_true (by kernel_rfl)) k0 bel lt0) (trodAll_cons_mk (Below.trod laidOut (by kernel_rfl) (of_decide_eq_true (by kernel_rfl)) k1 bel lt1) trodAll_mk0)), rfl, bel.frame _, fun h => by cases h⟩
theorem over : Rows.fnExactWeighCoinsRow.holds Try.pinned (OpenSpec.ofChange Rows.fnExactWeighCoinsSpec) :=
  OpenClaim.holds_of_wide 3 Try.f3 rfl rfl rfl rfl rfl rfl rfl ⟨rfl, rfl, rfl, rfl, rfl⟩ rfl rfl rfl rfl rfl (by kernel_rfl) Try.func3 (by kernel_rfl)
    (of_decide_eq_true (by kernel_rfl)) (by unfold Func.isWrapper; first | (rw [if_pos (by decide +kernel)]; kernel_rfl) | (rw [if_neg (by decide +kernel)]; exact ⟨rfl, rfl⟩))
    (fun os started H enc _ => lifted os started H enc)
theorem proved : Rows.FnExactWeighCoinsSaid := over
#print axioms proved
end Go.Proofs.Ytffohdlbkigehaa.fnExactWeighCoins
namespace Go.Proofs.Ytffohdlbkigehaa
/-- The row, under a short name, for the claim. -/
theorem fnExactWeighCoins_holds : Rows.FnExactWeighCoinsSaid := fnExactWeighCoins.proved
end Go.Proofs.Ytffohdlbkigehaa

/- The row of FnExactRunMachine: its arguments hold structs or rows of rows. Written by a program of this session on the pattern of the kit's rows. -/
import Derived.Test.YtlmiankjbffboaaRows
import Derived.Test.YtlmiankjbffboaaHOpFnExactRunMachine
import Derived.Test.YtlmiankjbffboaaHPureFnExactRunMachine
import Derived.WalkKit
import Derived.ProofKit
import Derived.OpenShut
import Derived.ShutString
import Derived.ChangeOld
import Derived.Below
import Derived.SizedLaws
import Derived.Test.YtlmiankjbffboaaWSized
namespace Go.Proofs.Ytlmiankjbffboaa.fnExactRunMachine
open Go.ChangeShapes Go.WideShapes Go.ChangeAt Go.RowKit
open Go.ChangeMaps (open_string shut_string)
open Go.Proofs.Ytlmiankjbffboaa.HFnExactRunMachine Go.Proofs.Ytlmiankjbffboaa.Base Go.Proofs.YtlmiankjbffboaaW.PrintWords
set_option linter.unusedVariables false
set_option linter.unusedSimpArgs false
theorem own : ownKnob Try.prog.godebug = none := by kernel_rfl
theorem laidOut : laidOutB Try.prog = true := by kernel_rfl
set_option maxHeartbeats 4000000 in
set_option maxRecDepth 100000 in
theorem lifted (os : Os) (started : os.Started) (H : Type) (enc : TypeId × Value → H) :
    ReturnsInHanded {} Try.checked os 4 .any (Rows.fnExactRunMachineSpec.pre6 enc Try.prog Try.f4 Rows.fnExactRunMachineRow.domain false) (Rows.fnExactRunMachineSpec.post enc Try.prog Try.f4 false true false false) := by
  refine returnsInHanded_of_change_sized (C := Try.checked) own started (by kernel_rfl) Try.func4
    (ChangeSpec.witness6 (enc := enc) (C := Try.checked) false ⟨#[], #[.slice none 0 0, .agg #[.int .i64 0, .slice none 0 0, .slice none 0 0], .int .i64 0], []⟩ 8 (by kernel_rfl) (by kernel_rfl) (by kernel_rfl) (by kernel_rfl)) ?_
  intro W base args ds gs before hval0 hW hcnd hsz0 _
  have hval : ∀ (j : Nat) t v, Try.f4.params[j]? = some t → args[j]? = some v → Value.okWide Try.prog W .any base t v := hval0
  have hW' := hW
  obtain ⟨p, q, hA0, hV, rfl, hfz, hnd⟩ := hW
  have hA : DataW.TrodAll enc Try.prog W 0 (fun _ => true) true Try.f4.params.toList args.toList ds p := hA0
  rw [Try.params4] at hA hval
  obtain ⟨v0, vs0, d0, ds0, p0, q0, hargs, rfl, rfl, h0, r0⟩ := trodAll_cons hA
  obtain ⟨v1, vs1, d1, ds1, p1, q1, rfl, rfl, rfl, h1, r1⟩ := trodAll_cons r0
  obtain ⟨v2, vs2, d2, ds2, p2, q2, rfl, rfl, rfl, h2, r2⟩ := trodAll_cons r1
  obtain ⟨rfl, rfl, rfl⟩ := trodAll_nil r2
  obtain rfl : args = #[v0, v1, v2] := by cases args; simp_all
  obtain ⟨rfl, rfl⟩ := trodVars_none hV
  obtain ⟨x0, xl_, xc_, rfl⟩ := okWide_slice Try.underlying22 (hval 0 22 v0 rfl rfl)
  have k0 := h0
  have lt0 : ∀ x ∈ p0, x.block < W.heap.size := by obtain ⟨m, hm⟩ := k0; exact DataW.trod_lt m _ _ _ hm
  obtain ⟨y0, K0, w0⟩ : ∃ y, ((Kd.slice 65 k65)).K W y _ ∧ (y.length ≤ maxLen ∧ ∀ x_ ∈ y, Wf65 x_) := by
    obtain ⟨fuel, hf⟩ := h0
    exact (op_slice z65 Try.underlying22 (by first | kernel_rfl | rfl) fuel (fun m0_ hm0_ => (op65 W m0_))) H enc (fun _ => true) fuel _ _ (Nat.le_refl _) hf
  obtain ⟨A0, c0, e0, h0c, h0r⟩ := K0
  simp [Value.cells] at e0
  obtain ⟨rfl, rfl, rfl⟩ := e0
  obtain ⟨x1, rfl, hsz1⟩ := okWide_struct Try.underlying25 (hval 1 25 v1 rfl rfl)
  have k1 := h1
  have lt1 : ∀ x ∈ p1, x.block < W.heap.size := by obtain ⟨m, hm⟩ := k1; exact DataW.trod_lt m _ _ _ hm
  obtain ⟨y1, K1, w1⟩ : ∃ y, (k25).K W y _ ∧ Wf25 y := by
    obtain ⟨fuel, hf⟩ := h1
    exact (op25 W fuel) H enc (fun _ => true) fuel _ _ (Nat.le_refl _) hf
  obtain ⟨A1_1, c1_1, A1_2, c1_2, e1, h1_1c, h1_1r, h1_2c, h1_2r⟩ := k25_open K1
  obtain rfl : x1 = #[.int .i64 y1.f0, .slice A1_1 y1.f1.length c1_1, .slice A1_2 y1.f2.length c1_2] := by cases x1; simpa [Value.cells] using e1
  obtain ⟨x2, rfl⟩ := okWide_int Try.underlying3 (hval 2 3 v2 rfl rfl)
  have k2 := h2
  have lt2 : ∀ x ∈ p2, x.block < W.heap.size := by obtain ⟨m, hm⟩ := k2; exact DataW.trod_lt m _ _ _ hm
  obtain ⟨y2, K2, w2⟩ : ∃ y, ((Kd.int .i64)).K W y _ ∧ (Lit.int .i64 y).wf = true := by
    obtain ⟨fuel, hf⟩ := h2
    exact (op_int Try.underlying3 fuel) H enc (fun _ => true) fuel _ _ (Nat.le_refl _) hf
  have e2 := K2
  simp [Value.cells, Kd.K, Kd.int, Kd.bool, Kd.string, Kd.scalar] at e2
  (first | subst x2 | subst e2)
  obtain ⟨kk, hk⟩ := HPure.FnExactRunMachine y0 y1 y2 w0 w1 w2
  clear hA0 hval0 hsz0
  refine (laws_FnExactRunMachine.calls kk _ _ y0 y1.f0 A1_1 c1_1 y1.f1 A1_2 c1_2 y1.f2 y2 true W h0r h0c h1_1r h1_1c h1_2r h1_2c hk).mono fun e W' ⟨he, bel⟩ => ?_
  subst he
  exact ⟨_, rfl, _, _, _, [], _, [], hW', trodAll_mk1 (shut_bool Try.underlying4 _), (trodAll_cons_mk (Below.trod laidOut (by kernel_rfl) (of_decide_eq_true (by kernel_rfl)) k0 bel lt0) (trodAll_cons_mk (Below.trod laidOut (by kernel_rfl) (of_decide_eq_true (by kernel_rfl)) k1 bel lt1) (trodAll_cons_mk (Below.trod laidOut (by kernel_rfl) (of_decide_eq_true (by kernel_rfl)) k2 bel lt2) trodAll_mk0))), rfl, bel.frame _, fun h => by cases h⟩
theorem over : Rows.fnExactRunMachineRow.holds Try.pinned (OpenSpec.ofChange Rows.fnExactRunMachineSpec) :=
  OpenClaim.holds_of_wide 4 Try.f4 rfl rfl rfl rfl rfl rfl rfl ⟨rfl, rfl, rfl, rfl, rfl⟩ rfl rfl rfl rfl rfl (by kernel_rfl) Try.func4 (by kernel_rfl)
    (of_decide_eq_true (by kernel_rfl)) (by unfold Func.isWrapper; first | (rw [if_pos (by decide +kernel)]; kernel_rfl) | (rw [if_neg (by decide +kernel)]; exact ⟨rfl, rfl⟩))
    (fun os started H enc _ => lifted os started H enc)
theorem proved : Rows.FnExactRunMachineSaid := over
#print axioms proved
end Go.Proofs.Ytlmiankjbffboaa.fnExactRunMachine
namespace Go.Proofs.Ytlmiankjbffboaa
/-- The row, under a short name, for the claim. -/
theorem fnExactRunMachine_holds : Rows.FnExactRunMachineSaid := fnExactRunMachine.proved
end Go.Proofs.Ytlmiankjbffboaa

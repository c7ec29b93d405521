/- The row of FnExactOutcomeOf: its arguments hold structs or rows of rows. Written by a program of this session on the pattern of the kit's rows. -/
import Derived.Test.YtffohdlbkigehaaRows
import Derived.Test.YtffohdlbkigehaaHOpFnExactOutcomeOf
import Derived.Test.YtffohdlbkigehaaHPureFnExactOutcomeOf
import Derived.WalkKit
import Derived.ProofKit
import Derived.OpenShut
import Derived.ShutString
import Derived.ChangeOld
import Derived.Below
import Derived.SizedLaws
import Derived.Test.YtffohdlbkigehaaWSized
namespace Go.Proofs.Ytffohdlbkigehaa.fnExactOutcomeOf
open Go.ChangeShapes Go.WideShapes Go.ChangeAt Go.RowKit
open Go.ChangeMaps (open_string shut_string)
open Go.Proofs.Ytffohdlbkigehaa.HFnExactOutcomeOf Go.Proofs.Ytffohdlbkigehaa.Base Go.Proofs.YtffohdlbkigehaaW.PrintWords
set_option linter.unusedVariables false
set_option linter.unusedSimpArgs false
theorem own : ownKnob Try.prog.godebug = none := by kernel_rfl
theorem laidOut : laidOutB Try.prog = true := by kernel_rfl
set_option maxHeartbeats 4000000 in
set_option maxRecDepth 100000 in
theorem lifted (os : Os) (started : os.Started) (H : Type) (enc : TypeId × Value → H) :
    ReturnsInHanded {} Try.checked os 4 .any (Rows.fnExactOutcomeOfSpec.pre6 enc Try.prog Try.f4 Rows.fnExactOutcomeOfRow.domain false) (Rows.fnExactOutcomeOfSpec.post enc Try.prog Try.f4 false true false false) := by
  refine returnsInHanded_of_change_sized (C := Try.checked) own started (by kernel_rfl) Try.func4
    (ChangeSpec.witness6 (enc := enc) (C := Try.checked) false ⟨#[], #[.slice none 0 0, .int .i64 0, .int .i64 0], []⟩ 8 (by kernel_rfl) (by kernel_rfl) (by kernel_rfl) (by kernel_rfl)) ?_
  intro W base args ds gs before hval0 hW hcnd hsz0 _
  have hval : ∀ (j : Nat) t v, Try.f4.params[j]? = some t → args[j]? = some v → Value.okWide Try.prog W .any base t v := hval0
  have hW' := hW
  obtain ⟨p, q, hA0, hV, rfl, hfz, hnd⟩ := hW
  have hA : DataW.TrodAll enc Try.prog W 0 (fun _ => true) true Try.f4.params.toList args.toList ds p := hA0
  rw [Try.params4] at hA hval
  obtain ⟨v0, vs0, d0, ds0, p0, q0, hargs, rfl, rfl, h0, r0⟩ := trodAll_cons hA
  obtain ⟨v1, vs1, d1, ds1, p1, q1, rfl, rfl, rfl, h1, r1⟩ := trodAll_cons r0
  obtain ⟨v2, vs2, d2, ds2, p2, q2, rfl, rfl, rfl, h2, r2⟩ := trodAll_cons r1
  obtain ⟨rfl, rfl, rfl⟩ := trodAll_nil r2
  obtain rfl : args = #[v0, v1, v2] := by cases args; simp_all
  obtain ⟨rfl, rfl⟩ := trodVars_none hV
  obtain ⟨x0, xl_, xc_, rfl⟩ := okWide_slice Try.underlying34 (hval 0 34 v0 rfl rfl)
  have k0 := h0
  have lt0 : ∀ x ∈ p0, x.block < W.heap.size := by obtain ⟨m, hm⟩ := k0; exact DataW.trod_lt m _ _ _ hm
  obtain ⟨y0, K0, w0⟩ : ∃ y, ((Kd.slice 22 (Kd.slice 3 (Kd.int .i64)))).K W y _ ∧ (y.length ≤ maxLen ∧ ∀ x_ ∈ y, (x_.length ≤ maxLen ∧ ∀ x1_ ∈ x_, (Lit.int .i64 x1_).wf = true)) := by
    obtain ⟨fuel, hf⟩ := h0
    exact (op_slice [] Try.underlying34 (by first | kernel_rfl | rfl) fuel (fun m0_ hm0_ => (op_slice (0 : Int) Try.underlying22 (by first | kernel_rfl | rfl) m0_ (fun m1_ hm1_ => (op_int Try.underlying3 m1_))))) H enc (fun _ => true) fuel _ _ (Nat.le_refl _) hf
  obtain ⟨A0, c0, e0, h0c, h0r⟩ := K0
  simp [Value.cells] at e0
  obtain ⟨rfl, rfl, rfl⟩ := e0
  obtain ⟨x1, rfl⟩ := okWide_int Try.underlying3 (hval 1 3 v1 rfl rfl)
  have k1 := h1
  have lt1 : ∀ x ∈ p1, x.block < W.heap.size := by obtain ⟨m, hm⟩ := k1; exact DataW.trod_lt m _ _ _ hm
  obtain ⟨y1, K1, w1⟩ : ∃ y, ((Kd.int .i64)).K W y _ ∧ (Lit.int .i64 y).wf = true := by
    obtain ⟨fuel, hf⟩ := h1
    exact (op_int Try.underlying3 fuel) H enc (fun _ => true) fuel _ _ (Nat.le_refl _) hf
  have e1 := K1
  simp [Value.cells, Kd.K, Kd.int, Kd.bool, Kd.string, Kd.scalar] at e1
  (first | subst x1 | subst e1)
  obtain ⟨x2, rfl⟩ := okWide_int Try.underlying3 (hval 2 3 v2 rfl rfl)
  have k2 := h2
  have lt2 : ∀ x ∈ p2, x.block < W.heap.size := by obtain ⟨m, hm⟩ := k2; exact DataW.trod_lt m _ _ _ hm
  obtain ⟨y2, K2, w2⟩ : ∃ y, ((Kd.int .i64)).K W y _ ∧ (Lit.int .i64 y).wf = true := by
    obtain ⟨fuel, hf⟩ := h2
    exact (op_int Try.underlying3 fuel) H enc (fun _ => true) fuel _ _ (Nat.le_refl _) hf
  have e2 := K2
  simp [Value.cells, Kd.K, Kd.int, Kd.bool, Kd.string, Kd.scalar] at e2
  (first | subst x2 | subst e2)
  obtain ⟨kk, hk⟩ := HPure.FnExactOutcomeOf y0 y1 y2 w0 w1 w2
  clear hA0 hval0 hsz0
  refine (laws_FnExactOutcomeOf.calls kk _ _ y0 y1 y2 true W h0r h0c hk).mono fun e W' ⟨he, bel⟩ => ?_
  subst he
  exact ⟨_, rfl, _, _, _, [], _, [], hW', trodAll_mk1 (shut_bool Try.underlying4 _), (trodAll_cons_mk (Below.trod laidOut (by kernel_rfl) (of_decide_eq_true (by kernel_rfl)) k0 bel lt0) (trodAll_cons_mk (Below.trod laidOut (by kernel_rfl) (of_decide_eq_true (by kernel_rfl)) k1 bel lt1) (trodAll_cons_mk (Below.trod laidOut (by kernel_rfl) (of_decide_eq_true (by kernel_rfl)) k2 bel lt2) trodAll_mk0))), rfl, bel.frame _, fun h => by cases h⟩
theorem over : Rows.fnExactOutcomeOfRow.holds Try.pinned (OpenSpec.ofChange Rows.fnExactOutcomeOfSpec) :=
  OpenClaim.holds_of_wide 4 Try.f4 rfl rfl rfl rfl rfl rfl rfl ⟨rfl, rfl, rfl, rfl, rfl⟩ rfl rfl rfl rfl rfl (by kernel_rfl) Try.func4 (by kernel_rfl)
    (of_decide_eq_true (by kernel_rfl)) (by unfold Func.isWrapper; first | (rw [if_pos (by decide +kernel)]; kernel_rfl) | (rw [if_neg (by decide +kernel)]; exact ⟨rfl, rfl⟩))
    (fun os started H enc _ => lifted os started H enc)
theorem proved : Rows.FnExactOutcomeOfSaid := over
#print axioms proved
end Go.Proofs.Ytffohdlbkigehaa.fnExactOutcomeOf
namespace Go.Proofs.Ytffohdlbkigehaa
/-- The row, under a short name, for the claim. -/
theorem fnExactOutcomeOf_holds : Rows.FnExactOutcomeOfSaid := fnExactOutcomeOf.proved
end Go.Proofs.Ytffohdlbkigehaa

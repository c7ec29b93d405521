/- The row of FnExactCoinWords: its arguments hold structs or rows of rows. Written by a program of this session on the pattern of the kit's rows. -/
import Derived.Test.YtffohdlbkigehaaRows
import Derived.Test.YtffohdlbkigehaaHOpFnExactCoinWords
import Derived.Test.YtffohdlbkigehaaHPureFnExactCoinWords
import Derived.WalkKit
import Derived.ProofKit
import Derived.OpenShut
import Derived.ShutString
import Derived.ChangeOld
import Derived.Below
import Derived.SizedLaws
import Derived.Test.YtffohdlbkigehaaWSized
namespace Go.Proofs.Ytffohdlbkigehaa.fnExactCoinWords
open Go.ChangeShapes Go.WideShapes Go.ChangeAt Go.RowKit
open Go.ChangeMaps (open_string shut_string)
open Go.Proofs.Ytffohdlbkigehaa.HFnExactCoinWords Go.Proofs.Ytffohdlbkigehaa.Base Go.Proofs.YtffohdlbkigehaaW.PrintWords
set_option linter.unusedVariables false
set_option linter.unusedSimpArgs false
theorem own : ownKnob Try.prog.godebug = none := by kernel_rfl
theorem laidOut : laidOutB Try.prog = true := by kernel_rfl
set_option maxHeartbeats 4000000 in
set_option maxRecDepth 100000 in
theorem lifted (os : Os) (started : os.Started) (H : Type) (enc : TypeId × Value → H) :
    ReturnsInHanded {} Try.checked os 11 .any (Rows.fnExactCoinWordsSpec.pre6 enc Try.prog Try.f11 Rows.fnExactCoinWordsRow.domain false) (Rows.fnExactCoinWordsSpec.post enc Try.prog Try.f11 false true false false) := by
  refine returnsInHanded_of_change_sized (C := Try.checked) own started (by kernel_rfl) Try.func11
    (ChangeSpec.witness6 (enc := enc) (C := Try.checked) false ⟨#[], #[.int .i64 0, .int .i64 0], []⟩ 8 (by kernel_rfl) (by kernel_rfl) (by kernel_rfl) (by kernel_rfl)) ?_
  intro W base args ds gs before hval0 hW hcnd hsz0 _
  have hval : ∀ (j : Nat) t v, Try.f11.params[j]? = some t → args[j]? = some v → Value.okWide Try.prog W .any base t v := hval0
  have hW' := hW
  obtain ⟨p, q, hA0, hV, rfl, hfz, hnd⟩ := hW
  have hA : DataW.TrodAll enc Try.prog W 0 (fun _ => true) true Try.f11.params.toList args.toList ds p := hA0
  rw [Try.params11] at hA hval
  obtain ⟨v0, vs0, d0, ds0, p0, q0, hargs, rfl, rfl, h0, r0⟩ := trodAll_cons hA
  obtain ⟨v1, vs1, d1, ds1, p1, q1, rfl, rfl, rfl, h1, r1⟩ := trodAll_cons r0
  obtain ⟨rfl, rfl, rfl⟩ := trodAll_nil r1
  obtain rfl : args = #[v0, v1] := by cases args; simp_all
  obtain ⟨rfl, rfl⟩ := trodVars_none hV
  obtain ⟨x0, rfl⟩ := okWide_int Try.underlying3 (hval 0 3 v0 rfl rfl)
  have k0 := h0
  have lt0 : ∀ x ∈ p0, x.block < W.heap.size := by obtain ⟨m, hm⟩ := k0; exact DataW.trod_lt m _ _ _ hm
  obtain ⟨y0, K0, w0⟩ : ∃ y, ((Kd.int .i64)).K W y _ ∧ (Lit.int .i64 y).wf = true := by
    obtain ⟨fuel, hf⟩ := h0
    exact (op_int Try.underlying3 fuel) H enc (fun _ => true) fuel _ _ (Nat.le_refl _) hf
  have e0 := K0
  simp [Value.cells, Kd.K, Kd.int, Kd.bool, Kd.string, Kd.scalar] at e0
  (first | subst x0 | subst e0)
  obtain ⟨x1, rfl⟩ := okWide_int Try.underlying3 (hval 1 3 v1 rfl rfl)
  have k1 := h1
  have lt1 : ∀ x ∈ p1, x.block < W.heap.size := by obtain ⟨m, hm⟩ := k1; exact DataW.trod_lt m _ _ _ hm
  obtain ⟨y1, K1, w1⟩ : ∃ y, ((Kd.int .i64)).K W y _ ∧ (Lit.int .i64 y).wf = true := by
    obtain ⟨fuel, hf⟩ := h1
    exact (op_int Try.underlying3 fuel) H enc (fun _ => true) fuel _ _ (Nat.le_refl _) hf
  have e1 := K1
  simp [Value.cells, Kd.K, Kd.int, Kd.bool, Kd.string, Kd.scalar] at e1
  (first | subst x1 | subst e1)
  obtain ⟨kk, hk⟩ := HPure.FnExactCoinWords y0 y1 w0 w1
  clear hA0 hval0 hsz0
  refine (laws_FnExactCoinWords.calls kk y0 y1 true W  hk).mono fun e W' ⟨he, bel⟩ => ?_
  subst he
  exact ⟨_, rfl, _, _, _, [], _, [], hW', trodAll_mk1 (shut_bool Try.underlying4 _), (trodAll_cons_mk (Below.trod laidOut (by kernel_rfl) (of_decide_eq_true (by kernel_rfl)) k0 bel lt0) (trodAll_cons_mk (Below.trod laidOut (by kernel_rfl) (of_decide_eq_true (by kernel_rfl)) k1 bel lt1) trodAll_mk0)), rfl, bel.frame _, fun h => by cases h⟩
theorem over : Rows.fnExactCoinWordsRow.holds Try.pinned (OpenSpec.ofChange Rows.fnExactCoinWordsSpec) :=
  OpenClaim.holds_of_wide 11 Try.f11 rfl rfl rfl rfl rfl rfl rfl ⟨rfl, rfl, rfl, rfl, rfl⟩ rfl rfl rfl rfl rfl (by kernel_rfl) Try.func11 (by kernel_rfl)
    (of_decide_eq_true (by kernel_rfl)) (by unfold Func.isWrapper; first | (rw [if_pos (by decide +kernel)]; kernel_rfl) | (rw [if_neg (by decide +kernel)]; exact ⟨rfl, rfl⟩))
    (fun os started H enc _ => lifted os started H enc)
theorem proved : Rows.FnExactCoinWordsSaid := over
#print axioms proved
end Go.Proofs.Ytffohdlbkigehaa.fnExactCoinWords
namespace Go.Proofs.Ytffohdlbkigehaa
/-- The row, under a short name, for the claim. -/
theorem fnExactCoinWords_holds : Rows.FnExactCoinWordsSaid := fnExactCoinWords.proved
end Go.Proofs.Ytffohdlbkigehaa

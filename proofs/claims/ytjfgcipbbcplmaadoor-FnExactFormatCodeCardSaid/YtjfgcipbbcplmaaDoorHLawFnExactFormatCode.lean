/- The row of FnExactFormatCode: its arguments hold structs or rows of rows. Written by a program of this session on the pattern of the kit's rows. -/
import Derived.Test.YtjfgcipbbcplmaaDoorRows
import Derived.Test.YtjfgcipbbcplmaaDoorHOpFnExactFormatCode
import Derived.Test.YtjfgcipbbcplmaaDoorHPureFnExactFormatCode
import Derived.WalkKit
import Derived.ProofKit
import Derived.OpenShut
import Derived.ShutString
import Derived.ChangeOld
import Derived.Below
import Derived.SizedLaws
import Derived.Test.YtjfgcipbbcplmaaDoorWSized
import Derived.Test.YtjfgcipbbcplmaaDoorCards
import Derived.Test.YtjfgcipbbcplmaaDoorTie
import Derived.Test.YtjfgcipbbcplmaaDoorDoor
import Derived.Handy
import Derived.Lay
import Derived.SevenTiedAt
import Derived.MakeChecks
import Derived.Lib.SmallJoins
import Derived.Lib.AppendIntMem
namespace Go.Proofs.YtjfgcipbbcplmaaDoor.fnExactFormatCode
open Go.ChangeShapes Go.WideShapes Go.ChangeAt Go.RowKit
open Go.ChangeMaps (open_string shut_string)
open Go.Proofs.YtjfgcipbbcplmaaDoor.HFnExactFormatCode Go.Proofs.YtjfgcipbbcplmaaDoor.Base Go.Proofs.YtjfgcipbbcplmaaDoorW.PrintWords
set_option linter.unusedVariables false
set_option linter.unusedSimpArgs false
theorem own : ownKnob Tryd.prog.godebug = none := by kernel_rfl
theorem laidOut : laidOutB Tryd.prog = true := by kernel_rfl
theorem door_pow {W : World} {r : List (String × DataW Unit)} (h : laidMet Tryd.prog (("internal/strconv.uint64pow10", Lib.tabData .u64 Lib.pow10Tab) :: r) W) : Lib.TabIs Tryd.prog W "internal/strconv.uint64pow10" .u64 Lib.pow10Tab :=
  Lib.tabIs_of_head (g := 0) (t := 161) (e := 149) (n := 20) (by kernel_rfl) (by kernel_rfl) Tryd.underlying161 Tryd.underlying149 (by kernel_rfl) (by kernel_rfl) h
set_option maxHeartbeats 4000000 in
set_option maxRecDepth 100000 in
theorem lifted (os : Os) (started : os.Started) (H : Type) (enc : TypeId × Value → H) :
    ReturnsInHanded {} Tryd.checked os 5 .any (fun w args => (Rows.fnExactFormatCodeSpec.pre enc Tryd.prog Tryd.f5 Rows.fnExactFormatCodeRow.domain false w args ∧ laidMetH Tryd.prog Rows.fnExactFormatCodeRow.laid w) ∧ sizedMet enc Tryd.prog Tryd.f5 (OpenSpec.ofChange Rows.fnExactFormatCodeSpec) false w args) (Rows.fnExactFormatCodeSpec.post enc Tryd.prog Tryd.f5 false true false false) := by
  refine Door.handed (C := Tryd.checked) (X := fun w _ => laidMetH Tryd.prog Rows.fnExactFormatCodeRow.laid w) (fun _ _ _ hh h => h.of_heap hh) own started (by kernel_rfl) Tryd.func5
    (ChangeSpec.witness_shaped (enc := enc) (C := Tryd.checked) (os := os) (X := fun w _ => laidMetH Tryd.prog Rows.fnExactFormatCodeRow.laid w) false (World.laidAll Tryd.prog os Rows.fnExactFormatCodeRow.laid) #[.slice none 0 0] 8 (World.laidAll_os _ _ _)
      (World.shaped_of_ZipB (by kernel_rfl) (by kernel_rfl)) (by kernel_rfl) (by kernel_rfl) (by kernel_rfl)
      (by rw [MakeChecks.laidMetH_plain _ _ _ (by kernel_rfl)]; exact laidMet_laidAll _ (by kernel_rfl) (by kernel_rfl))) ?_
  intro W base args ds gs before hval0 hW hcnd hsz0 hLH hSh _
  have hM : laidMet Tryd.prog Rows.fnExactFormatCodeRow.laid W := by rw [MakeChecks.laidMetH_plain _ _ _ (by kernel_rfl)] at hLH; exact hLH
  have hpow := door_pow (hM.tail.tail)
  have hLa : Laid W := fun W2 hb => ⟨Lib.tabBelow_of_tabIs hpow W2 hb⟩
  clear hM hLH
  have hval : ∀ (j : Nat) t v, Tryd.f5.params[j]? = some t → args[j]? = some v → Value.okWide Tryd.prog W .any base t v := hval0
  have hW' := hW
  obtain ⟨p, q, hA0, hV, rfl, hfz, hnd⟩ := hW
  have hA : DataW.TrodAll enc Tryd.prog W 0 (fun _ => true) true Tryd.f5.params.toList args.toList ds p := hA0
  rw [Tryd.params5] at hA hval
  obtain ⟨v0, vs0, d0, ds0, p0, q0, hargs, rfl, rfl, h0, r0⟩ := trodAll_cons hA
  obtain ⟨rfl, rfl, rfl⟩ := trodAll_nil r0
  obtain rfl : args = #[v0] := by cases args; simp_all
  obtain ⟨rfl, rfl⟩ := trodVars_none hV
  obtain ⟨x0, xl_, xc_, rfl⟩ := okWide_slice Tryd.underlying42 (hval 0 42 v0 rfl rfl)
  have k0 := h0
  have lt0 : ∀ x ∈ p0, x.block < W.heap.size := by obtain ⟨m, hm⟩ := k0; exact DataW.trod_lt m _ _ _ hm
  obtain ⟨y0, K0, w0⟩ : ∃ y, ((Kd.slice 81 k81)).K W y _ ∧ (y.length ≤ maxLen ∧ ∀ x_ ∈ y, Wf81 x_) := by
    obtain ⟨fuel, hf⟩ := h0
    exact (op_slice z81 Tryd.underlying42 (by first | kernel_rfl | rfl) fuel (fun m0_ hm0_ => (op81 W m0_))) H enc (fun _ => true) fuel _ _ (Nat.le_refl _) hf
  obtain ⟨A0, c0, e0, h0c, h0r⟩ := K0
  simp [Value.cells] at e0
  obtain ⟨rfl, rfl, rfl⟩ := e0
  obtain ⟨kk, hk⟩ := HPure.FnExactFormatCode y0 w0
  clear hA0 hval0 hsz0
  refine (laws_FnExactFormatCode.calls kk _ _ y0 true W h0r h0c ⟨hLa⟩ hk).mono fun e W' ⟨he, bel⟩ => ?_
  subst he
  exact ⟨_, rfl, _, _, _, [], _, [], hW', trodAll_mk1 (shut_bool Tryd.underlying4 _), (trodAll_cons_mk (Below.trod laidOut (by kernel_rfl) (of_decide_eq_true (by kernel_rfl)) k0 bel lt0) trodAll_mk0), rfl, bel.frame _, fun h => by cases h⟩
theorem over : Rows.fnExactFormatCodeRow.holds Tryd.pinned (OpenSpec.ofChange Rows.fnExactFormatCodeSpec) :=
  OpenClaim.holds_of_wide 5 Tryd.f5 rfl rfl rfl rfl rfl rfl rfl ⟨rfl, rfl, rfl, rfl, rfl⟩ rfl rfl rfl rfl rfl (by kernel_rfl) Tryd.func5 (by kernel_rfl)
    (of_decide_eq_true (by kernel_rfl)) (by unfold Func.isWrapper; first | (rw [if_pos (by decide +kernel)]; kernel_rfl) | (rw [if_neg (by decide +kernel)]; exact ⟨rfl, rfl⟩))
    (fun os started H enc _ => lifted os started H enc)
theorem plain (f : FuncId) (fn : Func) (hf : Tryd.pinned.checked.prog.funcNamed "loop.example/g03225/laws.FnExactFormatCode" = some f) (hfn : Tryd.pinned.checked.prog.funcs[f]? = some fn) :
    true = Tryd.pinned.checked.prog.looks [] ∧ ∀ (j : Nat) t, fn.params[j]? = some t → Tryd.pinned.checked.prog.wantsStandIn t = false := by
  obtain rfl : f = 5 := Option.some.inj ((show Tryd.prog.funcNamed "loop.example/g03225/laws.FnExactFormatCode" = some 5 by kernel_rfl).symm.trans hf) |>.symm
  obtain rfl : fn = Tryd.f5 := (Option.some.inj (Tryd.func5.symm.trans hfn)).symm
  refine ⟨by kernel_rfl, fun j t ht => ?_⟩
  rw [Tryd.params5] at ht
  have hm : t ∈ [42] := by simpa using Array.mem_of_getElem? ht
  have hall : ([42].all fun u => !Tryd.prog.wantsStandIn u) = true := by kernel_rfl
  exact (show Tryd.prog.wantsStandIn t = false by simpa using List.all_eq_true.1 hall t hm)
theorem proved : Rows.FnExactFormatCodeCardSaid :=
  Claim7.holds_tied_plain_at .later [] _ _ _ _ over (fun _ h => by cases h) (by kernel_rfl) (fun _ h => by cases h) fnExactFormatCode_row_tie rfl ⟨rfl, rfl⟩ (by kernel_rfl) rfl plain (by kernel_rfl)
#print axioms proved
end Go.Proofs.YtjfgcipbbcplmaaDoor.fnExactFormatCode
namespace Go.Proofs.YtjfgcipbbcplmaaDoor
/-- The row, under a short name, for the claim. -/
theorem fnExactFormatCode_holds : Rows.FnExactFormatCodeCardSaid := fnExactFormatCode.proved
end Go.Proofs.YtjfgcipbbcplmaaDoor

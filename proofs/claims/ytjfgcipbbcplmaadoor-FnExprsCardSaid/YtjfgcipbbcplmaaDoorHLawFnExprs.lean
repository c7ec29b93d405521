/- The row of FnExprs: its arguments hold structs or rows of rows. Written by a program of this session on the pattern of the kit's rows. -/
import Derived.Test.YtjfgcipbbcplmaaDoorRows
import Derived.Test.YtjfgcipbbcplmaaDoorHOpFnExprs
import Derived.Test.YtjfgcipbbcplmaaDoorHPureFnExprs
import Derived.WalkKit
import Derived.ProofKit
import Derived.OpenShut
import Derived.ShutString
import Derived.ChangeOld
import Derived.Below
import Derived.SizedLaws
import Derived.ChangeSlices
import Derived.Test.YtjfgcipbbcplmaaDoorCards
import Derived.Test.YtjfgcipbbcplmaaDoorTie
import Derived.Test.YtjfgcipbbcplmaaDoorDoor
import Derived.Handy
import Derived.Lay
import Derived.SevenTiedAt
import Derived.MakeChecks
import Derived.Lib.SmallJoins
import Derived.Lib.AppendIntMem
namespace Go.Proofs.YtjfgcipbbcplmaaDoor.fnExprs
open Go.ChangeShapes Go.WideShapes Go.ChangeAt Go.RowKit
open Go.ChangeMaps (open_string shut_string)
open Go.Proofs.YtjfgcipbbcplmaaDoor.HFnExprs Go.Proofs.YtjfgcipbbcplmaaDoor.Base Go.Proofs.YtjfgcipbbcplmaaDoorW.PrintWords
set_option linter.unusedVariables false
set_option linter.unusedSimpArgs false
theorem own : ownKnob Tryd.prog.godebug = none := by kernel_rfl
theorem laidOut : laidOutB Tryd.prog = true := by kernel_rfl
theorem door_row186 : ∀ u, Tryd.prog.typeName? 3 u = some "*errors.errorString" → u = 186 := fun u h => typeName_ptr_named (P := Tryd.prog) (nm := "errors.errorString") (by kernel_rfl) (by kernel_rfl) (by decide) u (by rw [h]; rfl)
theorem door_cells : ∀ {W W2 : World} {n : String} {g : Nat} {cs : Array Value}, Tryd.prog.globalNamed n = some g → W.var? Tryd.prog n = some cs → Below W.heap.size W W2 → W2.var? Tryd.prog n = some cs := fun hg h hb => Joins.var_stays hg h hb (Nat.le_refl _)
theorem door_pow {W : World} {r : List (String × DataW Unit)} (h : laidMet Tryd.prog (("internal/strconv.uint64pow10", Lib.tabData .u64 Lib.pow10Tab) :: r) W) : Lib.TabIs Tryd.prog W "internal/strconv.uint64pow10" .u64 Lib.pow10Tab :=
  Lib.tabIs_of_head (g := 0) (t := 161) (e := 149) (n := 20) (by kernel_rfl) (by kernel_rfl) Tryd.underlying161 Tryd.underlying149 (by kernel_rfl) (by kernel_rfl) h
theorem door_syn {W : World} {text : List UInt8} {r : List (String × DataW Unit)} (h : laidMet Tryd.prog (("strconv.ErrSyntax", .iface "*errors.errorString" (.ptr (.agg [.lit (.string text)]))) :: r) W) : ∃ a : Addr, W.var? Tryd.prog "strconv.ErrSyntax" = some #[.iface 186 (.pointer (some a))] := by
  obtain ⟨a, _, h1, _⟩ := laid_sentinel h (g := 4) (by kernel_rfl) (by kernel_rfl) Tryd.underlying125 door_row186 Tryd.underlying186 Tryd.underlying188 rfl rfl Tryd.underlying9 (by kernel_rfl) (by kernel_rfl)
  exact ⟨a, h1⟩
theorem door_rng {W : World} {text : List UInt8} {r : List (String × DataW Unit)} (h : laidMet Tryd.prog (("strconv.ErrRange", .iface "*errors.errorString" (.ptr (.agg [.lit (.string text)]))) :: r) W) : ∃ a : Addr, W.var? Tryd.prog "strconv.ErrRange" = some #[.iface 186 (.pointer (some a))] := by
  obtain ⟨a, _, h1, _⟩ := laid_sentinel h (g := 5) (by kernel_rfl) (by kernel_rfl) Tryd.underlying125 door_row186 Tryd.underlying186 Tryd.underlying188 rfl rfl Tryd.underlying9 (by kernel_rfl) (by kernel_rfl)
  exact ⟨a, h1⟩
set_option maxHeartbeats 4000000 in
set_option maxRecDepth 100000 in
theorem lifted (os : Os) (started : os.Started) (H : Type) (enc : TypeId × Value → H) :
    ReturnsInHanded {} Tryd.checked os 3 .any (fun w args => (Rows.fnExprsSpec.pre enc Tryd.prog Tryd.f3 Rows.fnExprsRow.domain false w args ∧ laidMetH Tryd.prog Rows.fnExprsRow.laid w) ∧ sizedMet enc Tryd.prog Tryd.f3 (OpenSpec.ofChange Rows.fnExprsSpec) false w args) (Rows.fnExprsSpec.post enc Tryd.prog Tryd.f3 false true false false) := by
  refine Door.handed (C := Tryd.checked) (X := fun w _ => laidMetH Tryd.prog Rows.fnExprsRow.laid w) (fun _ _ _ hh h => h.of_heap hh) own started (by kernel_rfl) Tryd.func3
    (ChangeSpec.witness_shaped (enc := enc) (C := Tryd.checked) (os := os) (X := fun w _ => laidMetH Tryd.prog Rows.fnExprsRow.laid w) false (World.laidAll Tryd.prog os Rows.fnExprsRow.laid) #[.slice none 0 0] 8 (World.laidAll_os _ _ _)
      (World.shaped_of_ZipB (by kernel_rfl) (by kernel_rfl)) (by kernel_rfl) (by kernel_rfl) (by kernel_rfl)
      (by rw [MakeChecks.laidMetH_plain _ _ _ (by kernel_rfl)]; exact laidMet_laidAll _ (by kernel_rfl) (by kernel_rfl))) ?_
  intro W base args ds gs before hval0 hW hcnd hsz0 hLH hSh _
  have hM : laidMet Tryd.prog Rows.fnExprsRow.laid W := by rw [MakeChecks.laidMetH_plain _ _ _ (by kernel_rfl)] at hLH; exact hLH
  have hpow := door_pow (hM.tail.tail)
  obtain ⟨a_syn, hsyn⟩ := door_syn (hM.tail.tail.tail.tail)
  obtain ⟨a_rng, hrng⟩ := door_rng (hM.tail.tail.tail)
  have hLa : Laid W := fun W2 hb => ⟨Lib.tabBelow_of_tabIs hpow W2 hb, ⟨_, _, door_cells (g := 4) (by kernel_rfl) hsyn hb⟩, ⟨_, _, door_cells (g := 5) (by kernel_rfl) hrng hb⟩⟩
  clear hM hLH
  have hval : ∀ (j : Nat) t v, Tryd.f3.params[j]? = some t → args[j]? = some v → Value.okWide Tryd.prog W .any base t v := hval0
  have hW' := hW
  obtain ⟨p, q, hA0, hV, rfl, hfz, hnd⟩ := hW
  have hA : DataW.TrodAll enc Tryd.prog W 0 (fun _ => true) true Tryd.f3.params.toList args.toList ds p := hA0
  rw [Tryd.params3] at hA hval
  obtain ⟨v0, vs0, d0, ds0, p0, q0, hargs, rfl, rfl, h0, r0⟩ := trodAll_cons hA
  obtain ⟨rfl, rfl, rfl⟩ := trodAll_nil r0
  obtain rfl : args = #[v0] := by cases args; simp_all
  obtain ⟨rfl, rfl⟩ := trodVars_none hV
  obtain ⟨x0, xl_, xc_, rfl⟩ := okWide_slice Tryd.underlying22 (hval 0 22 v0 rfl rfl)
  have k0 := h0
  have lt0 : ∀ x ∈ p0, x.block < W.heap.size := by obtain ⟨m, hm⟩ := k0; exact DataW.trod_lt m _ _ _ hm
  obtain ⟨y0, K0, w0⟩ : ∃ y, ((Kd.slice 5 (Kd.int .u8))).K W y _ ∧ (y.length ≤ maxLen ∧ ∀ x_ ∈ y, (Lit.int .u8 x_).wf = true) := by
    obtain ⟨fuel, hf⟩ := h0
    exact (op_slice (0 : Int) Tryd.underlying22 (by first | kernel_rfl | rfl) fuel (fun m0_ hm0_ => (op_int Tryd.underlying5 m0_))) H enc (fun _ => true) fuel _ _ (Nat.le_refl _) hf
  obtain ⟨A0, c0, e0, h0c, h0r⟩ := K0
  simp [Value.cells] at e0
  obtain ⟨rfl, rfl, rfl⟩ := e0
  obtain ⟨kk, hk⟩ := HPure.FnExprs y0 w0
  clear hA0 hval0 hsz0
  refine (laws_FnExprs.calls kk _ _ y0 true W h0r h0c ⟨hLa⟩ hk).mono fun e W' ⟨he, bel⟩ => ?_
  subst he
  exact ⟨_, rfl, _, _, _, [], _, [], hW', trodAll_mk1 (shut_bool Tryd.underlying4 _), (trodAll_cons_mk (Below.trod laidOut (by kernel_rfl) (of_decide_eq_true (by kernel_rfl)) k0 bel lt0) trodAll_mk0), rfl, bel.frame _, fun h => by cases h⟩
theorem over : Rows.fnExprsRow.holds Tryd.pinned (OpenSpec.ofChange Rows.fnExprsSpec) :=
  OpenClaim.holds_of_wide 3 Tryd.f3 rfl rfl rfl rfl rfl rfl rfl ⟨rfl, rfl, rfl, rfl, rfl⟩ rfl rfl rfl rfl rfl (by kernel_rfl) Tryd.func3 (by kernel_rfl)
    (of_decide_eq_true (by kernel_rfl)) (by unfold Func.isWrapper; first | (rw [if_pos (by decide +kernel)]; kernel_rfl) | (rw [if_neg (by decide +kernel)]; exact ⟨rfl, rfl⟩))
    (fun os started H enc _ => lifted os started H enc)
theorem plain (f : FuncId) (fn : Func) (hf : Tryd.pinned.checked.prog.funcNamed "loop.example/g03225/laws.FnExprs" = some f) (hfn : Tryd.pinned.checked.prog.funcs[f]? = some fn) :
    true = Tryd.pinned.checked.prog.looks [] ∧ ∀ (j : Nat) t, fn.params[j]? = some t → Tryd.pinned.checked.prog.wantsStandIn t = false := by
  obtain rfl : f = 3 := Option.some.inj ((show Tryd.prog.funcNamed "loop.example/g03225/laws.FnExprs" = some 3 by kernel_rfl).symm.trans hf) |>.symm
  obtain rfl : fn = Tryd.f3 := (Option.some.inj (Tryd.func3.symm.trans hfn)).symm
  refine ⟨by kernel_rfl, fun j t ht => ?_⟩
  rw [Tryd.params3] at ht
  have hm : t ∈ [22] := by simpa using Array.mem_of_getElem? ht
  have hall : ([22].all fun u => !Tryd.prog.wantsStandIn u) = true := by kernel_rfl
  exact (show Tryd.prog.wantsStandIn t = false by simpa using List.all_eq_true.1 hall t hm)
theorem proved : Rows.FnExprsCardSaid :=
  Claim7.holds_tied_plain_at .later [] _ _ _ _ over (fun _ h => by cases h) (by kernel_rfl) (fun _ h => by cases h) fnExprs_row_tie rfl ⟨rfl, rfl⟩ (by kernel_rfl) rfl plain (by kernel_rfl)
#print axioms proved
end Go.Proofs.YtjfgcipbbcplmaaDoor.fnExprs
namespace Go.Proofs.YtjfgcipbbcplmaaDoor
/-- The row, under a short name, for the claim. -/
theorem fnExprs_holds : Rows.FnExprsCardSaid := fnExprs.proved
end Go.Proofs.YtjfgcipbbcplmaaDoor

/- How the arguments of FnExactBalanceOf open. -/
import Derived.Test.YtffohdlbkigehaaOpen
import Derived.Test.YtffohdlbkigehaaHFnExactBalanceOfx3
set_option linter.unusedVariables false
set_option linter.unusedSimpArgs false
set_option linter.unusedSimpArgs false
namespace Go.Proofs.Ytffohdlbkigehaa.HFnExactBalanceOf
open Go.RowKit Go.Proofs.YtffohdlbkigehaaW.PrintWords Go.Proofs.YtffohdlbkigehaaW.PrintLast Go.Proofs.YtffohdlbkigehaaW.PrintMore Go.Proofs.Ytffohdlbkigehaa.Base
structure S24 where
  f0 : List (Int)
  f1 : List (Int)
def k24 : Kd S24 := Kd.iso (Kd.pair (Kd.slice 3 (Kd.int .i64)) (Kd.slice 3 (Kd.int .i64))) (fun x : S24 => (x.f0, x.f1))
theorem k24_open {w : World} {x : S24} {cs : List Value} (h : k24.K w x cs) : ∃ A0 c0 A1 c1, cs = [.slice A0 x.f0.length c0, .slice A1 x.f1.length c1] ∧ x.f0.length ≤ c0 ∧ (Kd.int .i64).C w A0 x.f0.length x.f0 ∧ x.f1.length ≤ c1 ∧ (Kd.int .i64).C w A1 x.f1.length x.f1 := by
  obtain ⟨_, _, rfl, ⟨A0, c0, rfl, l0, g0⟩, ⟨A1, c1, rfl, l1, g1⟩⟩ := h
  exact ⟨A0, c0, A1, c1, rfl, l0, g0, l1, g1⟩
theorem k24_mk (w : World) (x : S24) {A0 : Option Addr} {c0 : Nat} (l0 : x.f0.length ≤ c0) (g0 : (Kd.int .i64).C w A0 x.f0.length x.f0) {A1 : Option Addr} {c1 : Nat} (l1 : x.f1.length ≤ c1) (g1 : (Kd.int .i64).C w A1 x.f1.length x.f1) : k24.K w x [.slice A0 x.f0.length c0, .slice A1 x.f1.length c1] := ⟨[.slice A0 x.f0.length c0], [.slice A1 x.f1.length c1], rfl, ⟨A0, c0, rfl, l0, g0⟩, ⟨A1, c1, rfl, l1, g1⟩⟩
inductive Wf24 : S24 → Prop
  | mk (x : S24) (h0a : x.f0.length ≤ maxLen) (h0b : ∀ x_ ∈ x.f0, (Lit.int .i64 x_).wf = true) (h1a : x.f1.length ≤ maxLen) (h1b : ∀ x_ ∈ x.f1, (Lit.int .i64 x_).wf = true) : Wf24 x
theorem op24 (W : World) : ∀ n_, OpN Try.prog W 24 k24 Wf24 n_ := by
  intro n_
  induction n_ using Nat.strongRecOn with
  | _ n_ ih =>
  intro H enc spare fuel cs x hf h
  obtain ⟨y_, hK_, hw_⟩ := op_struct2 Try.underlying24 (by first | kernel_rfl | rfl) rfl rfl (by first | kernel_rfl | rfl) (by first | kernel_rfl | rfl) n_ (fun m_ hm_ => (op_slice (0 : Int) Try.underlying22 (by first | kernel_rfl | rfl) m_ (fun m0_ hm0_ => (op_int Try.underlying3 m0_)))) (fun m_ hm_ => (op_slice (0 : Int) Try.underlying22 (by first | kernel_rfl | rfl) m_ (fun m0_ hm0_ => (op_int Try.underlying3 m0_)))) H enc spare fuel cs x hf h
  obtain ⟨_, _, rfl, ⟨A0_, c0_, rfl, l0_, g0_⟩, ⟨A1_, c1_, rfl, l1_, g1_⟩⟩ := hK_
  obtain ⟨w0_, w1_⟩ := hw_
  exact ⟨⟨y_.1, y_.2⟩, k24_mk W _ l0_ g0_ l1_ g1_, .mk _ w0_.1 w0_.2 w1_.1 w1_.2⟩
def laws_FnExactBalanceOf.OPure : Prop := ∀ (y0 : S24) (y1 : Int), Wf24 y0 → (Lit.int .i64 y1).wf = true → ∃ k, laws_FnExactBalanceOf.f k y0.f0 y0.f1 y1 = some true
end Go.Proofs.Ytffohdlbkigehaa.HFnExactBalanceOf

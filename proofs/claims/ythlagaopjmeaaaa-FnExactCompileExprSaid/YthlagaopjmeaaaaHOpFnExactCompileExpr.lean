/- How the arguments of FnExactCompileExpr open. -/
import Derived.Test.YthlagaopjmeaaaaOpen
import Derived.Test.YthlagaopjmeaaaaHFnExactCompileExprx10
set_option linter.unusedVariables false
set_option linter.unusedSimpArgs false
set_option linter.unusedSimpArgs false
namespace Go.Proofs.Ythlagaopjmeaaaa.HFnExactCompileExpr
open Go.RowKit Go.Proofs.YthlagaopjmeaaaaW.PrintWords Go.Proofs.YthlagaopjmeaaaaW.PrintLast Go.Proofs.YthlagaopjmeaaaaW.PrintMore Go.Proofs.Ythlagaopjmeaaaa.Base
inductive Wf24 : S24 → Prop
  | mk (x : S24) (h0 : (Lit.int .i64 x.f0).wf = true) (h1 : (Lit.int .i64 x.f1).wf = true) (h2a : x.f2.length ≤ maxLen) (h2b : ∀ x_ ∈ x.f2, Wf24 x_) : Wf24 x
theorem op24 (W : World) : ∀ n_, OpN Try.prog W 24 k24 Wf24 n_ := by
  intro n_
  induction n_ using Nat.strongRecOn with
  | _ n_ ih =>
  intro H enc spare fuel cs x hf h
  obtain ⟨y_, hK_, hw_⟩ := op_struct3 Try.underlying24 (by first | kernel_rfl | rfl) rfl rfl rfl (by first | kernel_rfl | rfl) (by first | kernel_rfl | rfl) (by first | kernel_rfl | rfl) n_ (fun m_ hm_ => (op_int Try.underlying3 m_)) (fun m_ hm_ => (op_int Try.underlying3 m_)) (fun m_ hm_ => (op_slice z24 Try.underlying22 (by first | kernel_rfl | rfl) m_ (fun m0_ hm0_ => (ih m0_ (by omega))))) H enc spare fuel cs x hf h
  obtain ⟨_, _, rfl, rfl, ⟨_, _, rfl, rfl, ⟨A2_, c2_, rfl, l2_, g2_⟩⟩⟩ := hK_
  obtain ⟨w0_, w1_, w2_⟩ := hw_
  exact ⟨⟨y_.1, y_.2.1, y_.2.2⟩, k24_mk W _ l2_ g2_, .mk _ w0_ w1_ w2_.1 w2_.2⟩
def laws_FnExactCompileExpr.OPure : Prop := ∀ (y0 : S24), Wf24 y0 → ∃ k, laws_FnExactCompileExpr.f k y0.f0 y0.f1 y0.f2 = some true
end Go.Proofs.Ythlagaopjmeaaaa.HFnExactCompileExpr

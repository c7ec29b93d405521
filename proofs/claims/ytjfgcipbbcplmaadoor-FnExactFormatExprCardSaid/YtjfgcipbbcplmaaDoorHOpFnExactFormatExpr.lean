/- How the arguments of FnExactFormatExpr open. -/
import Derived.Test.YtjfgcipbbcplmaaDoorOpen
import Derived.Test.YtjfgcipbbcplmaaDoorHFnExactFormatExprx10
set_option linter.unusedVariables false
set_option linter.unusedSimpArgs false
set_option linter.unusedSimpArgs false
namespace Go.Proofs.YtjfgcipbbcplmaaDoor.HFnExactFormatExpr
open Go.RowKit Go.Proofs.YtjfgcipbbcplmaaDoorW.PrintWords Go.Proofs.YtjfgcipbbcplmaaDoorW.PrintLast Go.Proofs.YtjfgcipbbcplmaaDoorW.PrintMore Go.Proofs.YtjfgcipbbcplmaaDoor.Base
inductive Wf38 : S38 → Prop
  | mk (x : S38) (h0 : (Lit.int .i64 x.f0).wf = true) (h1 : (Lit.int .i64 x.f1).wf = true) (h2a : x.f2.length ≤ maxLen) (h2b : ∀ x_ ∈ x.f2, Wf38 x_) : Wf38 x
theorem op38 (W : World) : ∀ n_, OpN Tryd.prog W 38 k38 Wf38 n_ := by
  intro n_
  induction n_ using Nat.strongRecOn with
  | _ n_ ih =>
  intro H enc spare fuel cs x hf h
  obtain ⟨y_, hK_, hw_⟩ := op_struct3 Tryd.underlying38 (by first | kernel_rfl | rfl) rfl rfl rfl (by first | kernel_rfl | rfl) (by first | kernel_rfl | rfl) (by first | kernel_rfl | rfl) n_ (fun m_ hm_ => (op_int Tryd.underlying3 m_)) (fun m_ hm_ => (op_int Tryd.underlying3 m_)) (fun m_ hm_ => (op_slice z38 Tryd.underlying36 (by first | kernel_rfl | rfl) m_ (fun m0_ hm0_ => (ih m0_ (by omega))))) H enc spare fuel cs x hf h
  obtain ⟨_, _, rfl, rfl, ⟨_, _, rfl, rfl, ⟨A2_, c2_, rfl, l2_, g2_⟩⟩⟩ := hK_
  obtain ⟨w0_, w1_, w2_⟩ := hw_
  exact ⟨⟨y_.1, y_.2.1, y_.2.2⟩, k38_mk W _ l2_ g2_, .mk _ w0_ w1_ w2_.1 w2_.2⟩
def laws_FnExactFormatExpr.OPure : Prop := ∀ (y0 : S38), Wf38 y0 → ∃ k, laws_FnExactFormatExpr.f k y0.f0 y0.f1 y0.f2 = some true
end Go.Proofs.YtjfgcipbbcplmaaDoor.HFnExactFormatExpr

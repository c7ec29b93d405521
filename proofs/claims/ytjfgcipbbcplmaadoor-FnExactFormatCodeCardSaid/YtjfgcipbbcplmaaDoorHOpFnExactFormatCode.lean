/- How the arguments of FnExactFormatCode open. -/
import Derived.Test.YtjfgcipbbcplmaaDoorOpen
import Derived.Test.YtjfgcipbbcplmaaDoorHFnExactFormatCodex7
set_option linter.unusedVariables false
set_option linter.unusedSimpArgs false
set_option linter.unusedSimpArgs false
namespace Go.Proofs.YtjfgcipbbcplmaaDoor.HFnExactFormatCode
open Go.RowKit Go.Proofs.YtjfgcipbbcplmaaDoorW.PrintWords Go.Proofs.YtjfgcipbbcplmaaDoorW.PrintLast Go.Proofs.YtjfgcipbbcplmaaDoorW.PrintMore Go.Proofs.YtjfgcipbbcplmaaDoor.Base
inductive Wf81 : S81 → Prop
  | mk (x : S81) (h0 : (Lit.int .i64 x.f0).wf = true) (h1 : (Lit.int .i64 x.f1).wf = true) (h2 : (Lit.int .i64 x.f2).wf = true) (h3 : (Lit.int .i64 x.f3).wf = true) : Wf81 x
theorem op81 (W : World) : ∀ n_, OpN Tryd.prog W 81 k81 Wf81 n_ := by
  intro n_
  induction n_ using Nat.strongRecOn with
  | _ n_ ih =>
  intro H enc spare fuel cs x hf h
  obtain ⟨y_, hK_, hw_⟩ := op_struct4 Tryd.underlying81 (by first | kernel_rfl | rfl) rfl rfl rfl rfl (by first | kernel_rfl | rfl) (by first | kernel_rfl | rfl) (by first | kernel_rfl | rfl) (by first | kernel_rfl | rfl) n_ (fun m_ hm_ => (op_int Tryd.underlying3 m_)) (fun m_ hm_ => (op_int Tryd.underlying3 m_)) (fun m_ hm_ => (op_int Tryd.underlying3 m_)) (fun m_ hm_ => (op_int Tryd.underlying3 m_)) H enc spare fuel cs x hf h
  obtain ⟨_, _, rfl, rfl, ⟨_, _, rfl, rfl, ⟨_, _, rfl, rfl, rfl⟩⟩⟩ := hK_
  obtain ⟨w0_, w1_, w2_, w3_⟩ := hw_
  exact ⟨⟨y_.1, y_.2.1, y_.2.2.1, y_.2.2.2⟩, k81_mk W _ , .mk _ w0_ w1_ w2_ w3_⟩
def laws_FnExactFormatCode.OPure : Prop := ∀ (y0 : List (S81)), (y0.length ≤ maxLen ∧ ∀ x_ ∈ y0, Wf81 x_) → ∃ k, laws_FnExactFormatCode.f k y0 = some true
end Go.Proofs.YtjfgcipbbcplmaaDoor.HFnExactFormatCode

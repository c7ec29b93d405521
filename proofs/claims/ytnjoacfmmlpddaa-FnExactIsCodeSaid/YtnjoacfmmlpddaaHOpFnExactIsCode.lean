/- How the arguments of FnExactIsCode open. -/
import Derived.Test.YtnjoacfmmlpddaaOpen
import Derived.Test.YtnjoacfmmlpddaaHFnExactIsCodex3
set_option linter.unusedVariables false
set_option linter.unusedSimpArgs false
namespace Go.Proofs.Ytnjoacfmmlpddaa.HFnExactIsCode
open Go.RowKit Go.Proofs.YtnjoacfmmlpddaaW.PrintWords Go.Proofs.YtnjoacfmmlpddaaW.PrintLast Go.Proofs.YtnjoacfmmlpddaaW.PrintMore Go.Proofs.Ytnjoacfmmlpddaa.Base
inductive Wf64 : S64 → Prop
  | mk (x : S64) (h0 : (Lit.int .i64 x.f0).wf = true) (h1 : (Lit.int .i64 x.f1).wf = true) (h2 : (Lit.int .i64 x.f2).wf = true) (h3 : (Lit.int .i64 x.f3).wf = true) : Wf64 x
theorem op64 (W : World) : ∀ n_, OpN Try.prog W 64 k64 Wf64 n_ := by
  intro n_
  induction n_ using Nat.strongRecOn with
  | _ n_ ih =>
  intro H enc spare fuel cs x hf h
  obtain ⟨y_, hK_, hw_⟩ := op_struct4 Try.underlying64 (by first | kernel_rfl | rfl) rfl rfl rfl rfl (by first | kernel_rfl | rfl) (by first | kernel_rfl | rfl) (by first | kernel_rfl | rfl) (by first | kernel_rfl | rfl) n_ (fun m_ hm_ => (op_int Try.underlying3 m_)) (fun m_ hm_ => (op_int Try.underlying3 m_)) (fun m_ hm_ => (op_int Try.underlying3 m_)) (fun m_ hm_ => (op_int Try.underlying3 m_)) H enc spare fuel cs x hf h
  obtain ⟨_, _, rfl, rfl, ⟨_, _, rfl, rfl, ⟨_, _, rfl, rfl, rfl⟩⟩⟩ := hK_
  obtain ⟨w0_, w1_, w2_, w3_⟩ := hw_
  exact ⟨⟨y_.1, y_.2.1, y_.2.2.1, y_.2.2.2⟩, k64_mk W _ , .mk _ w0_ w1_ w2_ w3_⟩
def laws_FnExactIsCode.OPure : Prop := ∀ (y0 : List (S64)), (y0.length ≤ maxLen ∧ ∀ x_ ∈ y0, Wf64 x_) → ∃ k, laws_FnExactIsCode.f k y0 = some true
end Go.Proofs.Ytnjoacfmmlpddaa.HFnExactIsCode

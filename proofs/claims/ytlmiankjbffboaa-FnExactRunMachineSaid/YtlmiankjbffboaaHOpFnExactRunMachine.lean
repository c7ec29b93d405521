/- How the arguments of FnExactRunMachine open. -/
import Derived.Test.YtlmiankjbffboaaOpen
import Derived.Test.YtlmiankjbffboaaHFnExactRunMachinex13
set_option linter.unusedVariables false
set_option linter.unusedSimpArgs false
set_option linter.unusedSimpArgs false
namespace Go.Proofs.Ytlmiankjbffboaa.HFnExactRunMachine
open Go.RowKit Go.Proofs.YtlmiankjbffboaaW.PrintWords Go.Proofs.YtlmiankjbffboaaW.PrintLast Go.Proofs.YtlmiankjbffboaaW.PrintMore Go.Proofs.Ytlmiankjbffboaa.Base
inductive Wf65 : S65 → Prop
  | mk (x : S65) (h0 : (Lit.int .i64 x.f0).wf = true) (h1 : (Lit.int .i64 x.f1).wf = true) (h2 : (Lit.int .i64 x.f2).wf = true) (h3 : (Lit.int .i64 x.f3).wf = true) : Wf65 x
theorem op65 (W : World) : ∀ n_, OpN Try.prog W 65 k65 Wf65 n_ := by
  intro n_
  induction n_ using Nat.strongRecOn with
  | _ n_ ih =>
  intro H enc spare fuel cs x hf h
  obtain ⟨y_, hK_, hw_⟩ := op_struct4 Try.underlying65 (by first | kernel_rfl | rfl) rfl rfl rfl rfl (by first | kernel_rfl | rfl) (by first | kernel_rfl | rfl) (by first | kernel_rfl | rfl) (by first | kernel_rfl | rfl) n_ (fun m_ hm_ => (op_int Try.underlying3 m_)) (fun m_ hm_ => (op_int Try.underlying3 m_)) (fun m_ hm_ => (op_int Try.underlying3 m_)) (fun m_ hm_ => (op_int Try.underlying3 m_)) H enc spare fuel cs x hf h
  obtain ⟨_, _, rfl, rfl, ⟨_, _, rfl, rfl, ⟨_, _, rfl, rfl, rfl⟩⟩⟩ := hK_
  obtain ⟨w0_, w1_, w2_, w3_⟩ := hw_
  exact ⟨⟨y_.1, y_.2.1, y_.2.2.1, y_.2.2.2⟩, k65_mk W _ , .mk _ w0_ w1_ w2_ w3_⟩
structure S25 where
  f0 : Int
  f1 : List (Int)
  f2 : List (Int)
def k25 : Kd S25 := Kd.iso (Kd.pair (Kd.int .i64) (Kd.pair (Kd.slice 3 (Kd.int .i64)) (Kd.slice 3 (Kd.int .i64)))) (fun x : S25 => (x.f0, x.f1, x.f2))
theorem k25_open {w : World} {x : S25} {cs : List Value} (h : k25.K w x cs) : ∃ A1 c1 A2 c2, cs = [.int .i64 x.f0, .slice A1 x.f1.length c1, .slice A2 x.f2.length c2] ∧ x.f1.length ≤ c1 ∧ (Kd.int .i64).C w A1 x.f1.length x.f1 ∧ x.f2.length ≤ c2 ∧ (Kd.int .i64).C w A2 x.f2.length x.f2 := by
  obtain ⟨_, _, rfl, rfl, ⟨_, _, rfl, ⟨A1, c1, rfl, l1, g1⟩, ⟨A2, c2, rfl, l2, g2⟩⟩⟩ := h
  exact ⟨A1, c1, A2, c2, rfl, l1, g1, l2, g2⟩
theorem k25_mk (w : World) (x : S25) {A1 : Option Addr} {c1 : Nat} (l1 : x.f1.length ≤ c1) (g1 : (Kd.int .i64).C w A1 x.f1.length x.f1) {A2 : Option Addr} {c2 : Nat} (l2 : x.f2.length ≤ c2) (g2 : (Kd.int .i64).C w A2 x.f2.length x.f2) : k25.K w x [.int .i64 x.f0, .slice A1 x.f1.length c1, .slice A2 x.f2.length c2] := ⟨[.int .i64 x.f0], [.slice A1 x.f1.length c1, .slice A2 x.f2.length c2], rfl, rfl, ⟨[.slice A1 x.f1.length c1], [.slice A2 x.f2.length c2], rfl, ⟨A1, c1, rfl, l1, g1⟩, ⟨A2, c2, rfl, l2, g2⟩⟩⟩
inductive Wf25 : S25 → Prop
  | mk (x : S25) (h0 : (Lit.int .i64 x.f0).wf = true) (h1a : x.f1.length ≤ maxLen) (h1b : ∀ x_ ∈ x.f1, (Lit.int .i64 x_).wf = true) (h2a : x.f2.length ≤ maxLen) (h2b : ∀ x_ ∈ x.f2, (Lit.int .i64 x_).wf = true) : Wf25 x
theorem op25 (W : World) : ∀ n_, OpN Try.prog W 25 k25 Wf25 n_ := by
  intro n_
  induction n_ using Nat.strongRecOn with
  | _ n_ ih =>
  intro H enc spare fuel cs x hf h
  obtain ⟨y_, hK_, hw_⟩ := op_struct3 Try.underlying25 (by first | kernel_rfl | rfl) rfl rfl rfl (by first | kernel_rfl | rfl) (by first | kernel_rfl | rfl) (by first | kernel_rfl | rfl) n_ (fun m_ hm_ => (op_int Try.underlying3 m_)) (fun m_ hm_ => (op_slice (0 : Int) Try.underlying23 (by first | kernel_rfl | rfl) m_ (fun m0_ hm0_ => (op_int Try.underlying3 m0_)))) (fun m_ hm_ => (op_slice (0 : Int) Try.underlying23 (by first | kernel_rfl | rfl) m_ (fun m0_ hm0_ => (op_int Try.underlying3 m0_)))) H enc spare fuel cs x hf h
  obtain ⟨_, _, rfl, rfl, ⟨_, _, rfl, ⟨A1_, c1_, rfl, l1_, g1_⟩, ⟨A2_, c2_, rfl, l2_, g2_⟩⟩⟩ := hK_
  obtain ⟨w0_, w1_, w2_⟩ := hw_
  exact ⟨⟨y_.1, y_.2.1, y_.2.2⟩, k25_mk W _ l1_ g1_ l2_ g2_, .mk _ w0_ w1_.1 w1_.2 w2_.1 w2_.2⟩
def laws_FnExactRunMachine.OPure : Prop := ∀ (y0 : List (S65)) (y1 : S25) (y2 : Int), (y0.length ≤ maxLen ∧ ∀ x_ ∈ y0, Wf65 x_) → Wf25 y1 → (Lit.int .i64 y2).wf = true → ∃ k, laws_FnExactRunMachine.f k y0 y1.f0 y1.f1 y1.f2 y2 = some true
end Go.Proofs.Ytlmiankjbffboaa.HFnExactRunMachine

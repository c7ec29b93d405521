/- How the arguments of FnExactIsMachine open. -/
import Derived.Test.YtnjoacfmmlpddaaOpen
import Derived.Test.YtnjoacfmmlpddaaHFnExactIsMachinex5
set_option linter.unusedVariables false
set_option linter.unusedSimpArgs false
namespace Go.Proofs.Ytnjoacfmmlpddaa.HFnExactIsMachine
open Go.RowKit Go.Proofs.YtnjoacfmmlpddaaW.PrintWords Go.Proofs.YtnjoacfmmlpddaaW.PrintLast Go.Proofs.YtnjoacfmmlpddaaW.PrintMore Go.Proofs.Ytnjoacfmmlpddaa.Base
inductive Wf64 : S64 → Prop
  | mk (x : S64) (h0 : (Lit.int .i64 x.f0).wf = true) (h1 : (Lit.int .i64 x.f1).wf = true) (h2 : (Lit.int .i64 x.f2).wf = true) (h3 : (Lit.int .i64 x.f3).wf = true) : Wf64 x
theorem op64 (W : World) : ∀ n_, OpN Try.prog W 64 k64 Wf64 n_ := by
  intro n_
  induction n_ using Nat.strongRecOn with
  | _ n_ ih =>
  intro H enc spare fuel cs x hf h
  obtain ⟨y_, hK_, hw_⟩ := op_struct4 Try.underlying64 (by first | kernel_rfl | rfl) rfl rfl rfl rfl (by first | kernel_rfl | rfl) (by first | kernel_rfl | rfl) (by first | kernel_rfl | rfl) (by first | kernel_rfl | rfl) n_ (fun m_ hm_ => (op_int Try.underlying3 m_)) (fun m_ hm_ => (op_int Try.underlying3 m_)) (fun m_ hm_ => (op_int Try.underlying3 m_)) (fun m_ hm_ => (op_int Try.underlying3 m_)) H enc spare fuel cs x hf h
  obtain ⟨_, _, rfl, rfl, ⟨_, _, rfl, rfl, ⟨_, _, rfl, rfl, rfl⟩⟩⟩ := hK_
  obtain ⟨w0_, w1_, w2_, w3_⟩ := hw_
  exact ⟨⟨y_.1, y_.2.1, y_.2.2.1, y_.2.2.2⟩, k64_mk W _ , .mk _ w0_ w1_ w2_ w3_⟩
structure S31 where
  f0 : Int
  f1 : List (Int)
  f2 : List (Int)
def k31 : Kd S31 := Kd.iso (Kd.pair (Kd.int .i64) (Kd.pair (Kd.slice 3 (Kd.int .i64)) (Kd.slice 3 (Kd.int .i64)))) (fun x : S31 => (x.f0, x.f1, x.f2))
theorem k31_open {w : World} {x : S31} {cs : List Value} (h : k31.K w x cs) : ∃ A1 c1 A2 c2, cs = [.int .i64 x.f0, .slice A1 x.f1.length c1, .slice A2 x.f2.length c2] ∧ x.f1.length ≤ c1 ∧ (Kd.int .i64).C w A1 x.f1.length x.f1 ∧ x.f2.length ≤ c2 ∧ (Kd.int .i64).C w A2 x.f2.length x.f2 := by
  obtain ⟨_, _, rfl, rfl, ⟨_, _, rfl, ⟨A1, c1, rfl, l1, g1⟩, ⟨A2, c2, rfl, l2, g2⟩⟩⟩ := h
  exact ⟨A1, c1, A2, c2, rfl, l1, g1, l2, g2⟩
theorem k31_mk (w : World) (x : S31) {A1 : Option Addr} {c1 : Nat} (l1 : x.f1.length ≤ c1) (g1 : (Kd.int .i64).C w A1 x.f1.length x.f1) {A2 : Option Addr} {c2 : Nat} (l2 : x.f2.length ≤ c2) (g2 : (Kd.int .i64).C w A2 x.f2.length x.f2) : k31.K w x [.int .i64 x.f0, .slice A1 x.f1.length c1, .slice A2 x.f2.length c2] := ⟨[.int .i64 x.f0], [.slice A1 x.f1.length c1, .slice A2 x.f2.length c2], rfl, rfl, ⟨[.slice A1 x.f1.length c1], [.slice A2 x.f2.length c2], rfl, ⟨A1, c1, rfl, l1, g1⟩, ⟨A2, c2, rfl, l2, g2⟩⟩⟩
inductive Wf31 : S31 → Prop
  | mk (x : S31) (h0 : (Lit.int .i64 x.f0).wf = true) (h1a : x.f1.length ≤ maxLen) (h1b : ∀ x_ ∈ x.f1, (Lit.int .i64 x_).wf = true) (h2a : x.f2.length ≤ maxLen) (h2b : ∀ x_ ∈ x.f2, (Lit.int .i64 x_).wf = true) : Wf31 x
theorem op31 (W : World) : ∀ n_, OpN Try.prog W 31 k31 Wf31 n_ := by
  intro n_
  induction n_ using Nat.strongRecOn with
  | _ n_ ih =>
  intro H enc spare fuel cs x hf h
  obtain ⟨y_, hK_, hw_⟩ := op_struct3 Try.underlying31 (by first | kernel_rfl | rfl) rfl rfl rfl (by first | kernel_rfl | rfl) (by first | kernel_rfl | rfl) (by first | kernel_rfl | rfl) n_ (fun m_ hm_ => (op_int Try.underlying3 m_)) (fun m_ hm_ => (op_slice (0 : Int) Try.underlying29 (by first | kernel_rfl | rfl) m_ (fun m0_ hm0_ => (op_int Try.underlying3 m0_)))) (fun m_ hm_ => (op_slice (0 : Int) Try.underlying29 (by first | kernel_rfl | rfl) m_ (fun m0_ hm0_ => (op_int Try.underlying3 m0_)))) H enc spare fuel cs x hf h
  obtain ⟨_, _, rfl, rfl, ⟨_, _, rfl, ⟨A1_, c1_, rfl, l1_, g1_⟩, ⟨A2_, c2_, rfl, l2_, g2_⟩⟩⟩ := hK_
  obtain ⟨w0_, w1_, w2_⟩ := hw_
  exact ⟨⟨y_.1, y_.2.1, y_.2.2⟩, k31_mk W _ l1_ g1_ l2_ g2_, .mk _ w0_ w1_.1 w1_.2 w2_.1 w2_.2⟩
def laws_FnExactIsMachine.OPure : Prop := ∀ (y0 : List (S64)) (y1 : S31), (y0.length ≤ maxLen ∧ ∀ x_ ∈ y0, Wf64 x_) → Wf31 y1 → ∃ k, laws_FnExactIsMachine.f k y0 y1.f0 y1.f1 y1.f2 = some true
end Go.Proofs.Ytnjoacfmmlpddaa.HFnExactIsMachine

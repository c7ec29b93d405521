/- An expression that is drawn is read back from its text, with and without parentheses around it; and its negative has the negative value. -/
import Derived.Test.YtjfgcipbbcplmaaDoorHLemFnExprs
set_option linter.unusedVariables false
set_option linter.unusedSimpArgs false
namespace Go.Proofs.YtjfgcipbbcplmaaDoor.HPure
open Go.RowKit Go.Proofs.YtjfgcipbbcplmaaDoor.HFnExprs Go.Proofs.YtjfgcipbbcplmaaDoorW.PrintWords Go.Proofs.YtjfgcipbbcplmaaDoorW.PrintLast Go.Proofs.YtjfgcipbbcplmaaDoorW.PrintMore Go.Proofs.YtjfgcipbbcplmaaDoor.Base Go.Proofs.YtjfgcipbbcplmaaDoor.LemFnExprs

theorem evE_neg (x : S25) (hx : isE x = true) (hn : isE (neg25 x) = true) : (evE x).2 = (evE (neg25 x)).2 ∧ (evE x).1 = wrap64 (-(evE (neg25 x)).1) := by
  obtain ⟨h1, h2⟩ := ev_neg x (isE_shp hx).1
  unfold evE
  rw [if_pos hx, if_pos hn, h1]
  by_cases h : (ev25 x).2 = true
  · rw [if_pos h, if_pos h, h2 h]
    have hi := ev25_ok x h
    unfold inL at hi
    refine ⟨rfl, ?_⟩
    show (ev25 x).1 = wrap64 (- -(ev25 x).1)
    rw [w64 (by omega) (by omega)]
    omega
  · rw [if_neg h, if_neg h]
    refine ⟨rfl, ?_⟩
    show (0 : Int) = wrap64 (-0)
    rw [w64 (by omega) (by omega)]
    rfl
theorem FnExprs : laws_FnExprs.OPure := by
  intro b hb
  apply Ev.rounds
  simp only [laws_FnExprs.f]
  refine Ev.ite (fun h => Ev.now _) (fun h => ?_)
  obtain ⟨x, e, hx⟩ := spec_MakeExpr_ev b (by omega) 5 (by omega) (by omega)
  have hE : isE x = true := hx.good (by omega)
  have hT : (tx25 x).size ≤ 265 := hx.text (by omega)
  obtain ⟨hsh, h60⟩ := isE_shp hE
  have hs : sub25 x ≤ 1048576 := by omega
  have e1 := impl_FormatExpr_ev x hs
  unfold forT at e1
  rw [if_pos hE] at e1
  have e2 : Ev (fun k => impl_EqualExprs.f x.f0 x.f1 x.f2 x.f0 x.f1 x.f2) true := Ev.ret (by show impl_EqualExprs.t ⟨x.f0, x.f1, x.f2⟩ ⟨x.f0, x.f1, x.f2⟩ = true; rw [eta25, eq_refl25])
  have e3 := impl_IsExpr_ev x hs
  rw [hE] at e3
  have hsz : ((⟨#[32, 32, 40, 40]⟩ : ByteArray) ++ tx25 x).size = 4 + (tx25 x).size := by
    simp only [ByteArray.size_append', ByteArray.size_mk', List.size_toArray, List.length_cons, List.length_nil]
  refine Ev.bind e (Ev.bind e1 (Ev.bind (impl_ParseExpr_text x hE (by omega)) (Ev.pos (by omega) (Ev.pos (by rw [hsz]; omega) (Ev.bind (impl_ParseExpr_wide x hE (by omega)) (Ev.pos rfl (Ev.pos rfl (Ev.bind e2 (Ev.pos rfl (Ev.bind e2 (Ev.pos rfl (Ev.bind e3 ?_))))))))))))
  apply Ev.succ
  simp only [laws_FnExprs.j0.eq_2]
  refine Ev.neg (by simp) (Ev.bind (impl_NegateExpr_ev x hs) (Ev.bind (spec_NegateExpr_ev x hs) (Ev.bind (impl_EvalExpr_ev x hs) (Ev.bind (impl_EvalExpr_ev (negT x).1 (by have := negT_sub x; omega)) (Ev.neg (by simp) ?_)))))
  have en : negT x = if isE (neg25 x) = true then (neg25 x, true) else (⟨0, 0, []⟩, false) := by unfold negT; rw [if_pos hE]
  by_cases hn : isE (neg25 x) = true
  · rw [if_pos hn] at en
    rw [en]
    obtain ⟨g1, g2⟩ := evE_neg x hE hn
    refine Ev.pos rfl (Ev.pos ?_ (Ev.ret ?_))
    · show ((evE x).2 == (evE (neg25 x)).2) = true
      rw [g1]; exact beq_self_eq_true _
    · show ((evE x).1 == wrap64 (-(evE (neg25 x)).1)) = true
      rw [← g2]; exact beq_self_eq_true _
  · rw [if_neg hn] at en
    rw [en]
    exact Ev.neg (by simp) (Ev.now _)

end Go.Proofs.YtjfgcipbbcplmaaDoor.HPure

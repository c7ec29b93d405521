/- FormatCode of the program and of the reference give the same text. -/
import Derived.Test.YtjfgcipbbcplmaaDoorHLemFnExactFormatCode
set_option linter.unusedVariables false
set_option linter.unusedSimpArgs false
namespace Go.Proofs.YtjfgcipbbcplmaaDoor.HPure
open Go.RowKit Go.Proofs.YtjfgcipbbcplmaaDoor.HFnExactFormatCode Go.Proofs.YtjfgcipbbcplmaaDoorW.PrintWords Go.Proofs.YtjfgcipbbcplmaaDoorW.PrintLast Go.Proofs.YtjfgcipbbcplmaaDoorW.PrintMore Go.Proofs.YtjfgcipbbcplmaaDoor.Base Go.Proofs.YtjfgcipbbcplmaaDoor.LemFnExactFormatCode

theorem FnExactFormatCode : laws_FnExactFormatCode.OPure := by
  intro l hl
  apply Ev.rounds
  simp only [laws_FnExactFormatCode.f]
  refine Ev.bindc (laws_szOpS_eq l 1048576 hl.1 (by omega) (by omega)) (Ev.ite (fun h => Ev.now _) (fun h => ?_))
  have hn : (l.length : Int) ≤ 1048576 := by split at h <;> omega
  have e1 := laws_toOpS_ev l (by omega)
  refine Ev.bind e1 (Ev.bind (spec_FormatCode_ev _ (by simp; omega)) (Ev.bind e1 (Ev.bind (impl_FormatCode_ev _) (Ev.pos rfl ?_))))
  exact Ev.bind e1 (Ev.bind (laws_eqOpS_ev _ (by simp; omega)) (Ev.pos rfl (Ev.now _)))

end Go.Proofs.YtjfgcipbbcplmaaDoor.HPure

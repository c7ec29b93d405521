/- Of ThueTrits' sequence: no part is followed by an equal part, its beginnings agree, and the replacement leaves it as it is. No condition. -/
import Derived.Test.YteedicdanhjfpaaHLemFnThue
set_option linter.unusedVariables false
set_option linter.unusedSimpArgs false
namespace Go.Proofs.Yteedicdanhjfpaa.HPure
open Go.RowKit Go.Proofs.Yteedicdanhjfpaa.HFnThue Go.Proofs.YteedicdanhjfpaaW.PrintWords Go.Proofs.YteedicdanhjfpaaW.PrintLast Go.Proofs.YteedicdanhjfpaaW.PrintMore Go.Proofs.Yteedicdanhjfpaa.Base Go.Proofs.Yteedicdanhjfpaa.LemFnThue

theorem laws_FnThue_l0 (n : Nat) (hn : n ≤ 500) (a b : List Int) (hb : b.length ≤ 1000) (ha : (nextT b).take n = a) (hnb : n ≤ b.length) (hal : a.length = n) : ∀ (d i : Nat), i + d = b.length → Ev (fun k => laws_FnThue.l0 k n a (nextT (b.take i)) b b.length i) true := by
  intro d
  induction d with
  | zero =>
    intro i hi
    apply Ev.succ
    simp only [laws_FnThue.l0.eq_2]
    have e : b.take i = b := List.take_of_length_le (by omega)
    rw [e]
    have hl := nextT_length b
    have e1 : ((n : Int)).toNat = n := by omega
    refine Ev.neg (by omega) (Ev.neg (by omega) (Ev.pos (by omega) (Ev.pos (by omega) ?_)))
    rw [e1, ha]
    refine Ev.bind (laws_ints_ev a a (by omega)) (Ev.pos (by simp) ?_)
    refine Ev.ite (fun h => Ev.now _) (fun h => ?_)
    simp only [Option.bind_some, List.nil_append, List.length_nil]
    refine Ev.pos (by omega) (Ev.pos (by omega) ?_)
    obtain ⟨c, hc, hq⟩ := impl_HasSquare_ev (a ++ a) (by rw [List.length_append]; omega)
    refine Ev.bind hc (Ev.ret ?_)
    exact hq.2 (Sq.double a (by omega))
  | succ d ih =>
    intro i hi
    apply Ev.succ
    simp only [laws_FnThue.l0.eq_2]
    refine Ev.pos (by omega) (Ev.pos (by omega) (Ev.pos (by omega) ?_))
    have h2 := ih (i + 1) (by omega)
    rw [take_snoc b i (by omega), nextT_append] at h2
    have e : nextT [b[i]] = sub3 b[i] := by simp [nextT]
    rw [e, sub3] at h2
    have hl := (nextT_length (b.take i)).2
    have hl2 : (b.take i).length ≤ 3000 := by simp; omega
    rw [rd_get b i (by omega), w64 (by omega) (by omega)]
    refine Ev.ite (fun c => ?_) (fun c => Ev.ite (fun c1 => ?_) (fun c1 => ?_))
    · simp only [Option.bind_some]
      rw [if_pos c] at h2
      exact Ev.pos (by simp; omega) h2
    · simp only [Option.bind_some]
      rw [if_neg c, if_pos c1] at h2
      exact Ev.pos (by simp; omega) h2
    · rw [if_neg c, if_neg c1] at h2
      exact Ev.pos (by omega) h2
theorem FnThue : laws_FnThue.Pure := by
  intro l _ _ hl8
  apply Ev.rounds
  simp only [laws_FnThue.f]
  refine Ev.ite (fun h => Ev.now _) (fun h => ?_)
  have hr := atv_range l 1 hl8
  refine Ev.bindc (laws_at_eq l 1 (by omega) (by omega) hl8) ?_
  rw [Int.tmod_eq_emod_of_nonneg hr.1]
  obtain ⟨n, hn, hn2⟩ : ∃ n : Nat, atv l 1 % 120 = n ∧ n < 120 := ⟨(atv l 1 % 120).toNat, by omega, by omega⟩
  rw [hn]
  have e1 : thueV n = ((thueT 9).take n, true) := by unfold thueV; rw [if_pos ⟨by omega, by omega⟩]; simp
  have e2 : thueV (n + 40) = ((thueT 9).take (n + 40), true) := by
    unfold thueV; rw [if_pos ⟨by omega, by omega⟩]
    rw [show ((n : Int) + 40).toNat = n + 40 by omega]
  have h1 := impl_ThueTrits_ev n
  have h2 := impl_ThueTrits_ev (n + 40)
  rw [e1] at h1
  rw [e2] at h2
  have hL := thueT_length9
  have hsq := thue_no_square
  have hpre : thueT 9 <+: nextT (thueT 9) := thueT_prefix 9 1
  clear e1 e2
  generalize thueT 9 = T at *
  have l1 : (T.take n).length = n := by rw [List.length_take, hL]; omega
  have l2 : (T.take (n + 40)).length = n + 40 := by rw [List.length_take, hL]; omega
  refine Ev.bind h1 ?_
  rw [w64 (n := (n : Int) + 40) (by omega) (by omega)]
  refine Ev.bind h2 ?_
  simp only [l1, l2]
  refine Ev.pos trivial (Ev.pos trivial (Ev.pos trivial (Ev.pos (by omega) (Ev.pos (by omega) (Ev.pos (by omega) ?_)))))
  have e3 : ((T.take (n + 40)).take (n : Int).toNat) = T.take n := by
    rw [List.take_take]; congr 1; omega
  rw [e3]
  refine Ev.bind (laws_ints_ev _ _ (by rw [l1]; omega)) (Ev.pos (by simp) ?_)
  obtain ⟨c, hc, hq⟩ := impl_HasSquare_ev (T.take n) (by rw [l1]; omega)
  have hcf : c = false := by
    rw [← Bool.not_eq_true]
    intro e
    refine hsq (Sq.of_prefix ?_ (hq.1 e))
    have e4 : T.take n = (T.take 120).take n := by rw [List.take_take]; congr 1; omega
    rw [e4]; exact List.take_prefix _ _
  rw [hcf] at hc
  refine Ev.bind hc ?_
  apply Ev.succ
  simp only [laws_FnThue.j0.eq_2]
  refine Ev.neg (by simp) ?_
  have hlast := laws_FnThue_l0 n (by omega) (T.take n) (T.take (n + 40)) (by omega) ?_ (by omega) l1 (n + 40) 0 (by omega)
  · simpa [l2, nextT_nil] using hlast
  · have hp : nextT (T.take (n + 40)) <+: nextT T := by
      have : nextT T = nextT (T.take (n + 40)) ++ nextT (T.drop (n + 40)) := by
        rw [← nextT_append, List.take_append_drop]
      rw [this]; exact List.prefix_append _ _
    have hl := (nextT_length (T.take (n + 40))).1
    rw [take_of_prefix hp (by omega), take_of_prefix hpre (by omega)]

end Go.Proofs.Yteedicdanhjfpaa.HPure

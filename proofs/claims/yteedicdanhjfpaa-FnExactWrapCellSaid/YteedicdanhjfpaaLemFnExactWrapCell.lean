/- Lemmas: what each function that this statement reaches computes. -/
import Derived.Test.YteedicdanhjfpaaPFnExactWrapCellx1
import Derived.Test.YteedicdanhjfpaaBase
namespace Go.Proofs.Yteedicdanhjfpaa.LemFnExactWrapCell
open Go.RowKit Go.Proofs.YteedicdanhjfpaaW.PrintWords Go.Proofs.YteedicdanhjfpaaW.PrintLast Go.Proofs.YteedicdanhjfpaaW.PrintMore Go.Proofs.Yteedicdanhjfpaa.PFnExactWrapCell Go.Proofs.Yteedicdanhjfpaa.Base

def wrapc (n : Int) : Int := (n + 9841) % 19683 - 9841
theorem wrapc_range (n : Int) : -9841 ≤ wrapc n ∧ wrapc n ≤ 9841 := by unfold wrapc; omega
theorem tmod_19683 (n : Int) : Int.tmod n 19683 = if 0 ≤ n then n % 19683 else -((-n) % 19683) := by
  split
  · exact Int.tmod_eq_emod_of_nonneg (by omega)
  · have h : Int.tmod (-n) 19683 = (-n) % 19683 := Int.tmod_eq_emod_of_nonneg (by omega)
    rw [Int.neg_tmod] at h; omega
theorem spec_WrapCell_eq (n : Int) : spec_WrapCell.f n = some (wrapc n) := by
  unfold spec_WrapCell.f wrapc
  rw [tmod_19683]
  generalize hr : (if 0 ≤ n then n % 19683 else -(-n % 19683)) = r
  have h1 : -19683 < r ∧ r < 19683 ∧ (r - n) % 19683 = 0 := by split at hr <;> omega
  rw [w64 (n := r - 19683) (by omega) (by omega)]
  by_cases c1 : r > 9841
  · rw [if_pos c1, if_neg (by omega)]; refine congrArg some ?_; omega
  · rw [if_neg c1]
    by_cases c2 : r < -9841
    · rw [if_pos c2, w64 (by omega) (by omega)]; refine congrArg some ?_; omega
    · rw [if_neg c2]; refine congrArg some ?_; omega

theorem impl_power_l (n : Nat) (hn : n ≤ 30) : ∀ (d i : Nat), i + d = n → Ev (fun k => impl_power.l0 k ((3 : Int) ^ i) n i) ((3 : Int) ^ n) := by
  intro d
  induction d with
  | zero =>
    intro i hi
    apply Ev.succ
    simp only [impl_power.l0.eq_2]
    refine Ev.neg (by omega) (Ev.ret ?_)
    rw [← hi]; rfl
  | succ d ih =>
    intro i hi
    apply Ev.succ
    simp only [impl_power.l0.eq_2]
    have h1 := pow3_30 (i := i + 1) (by omega)
    have h2 := pow3_pos i
    rw [pow3_succ] at h1
    refine Ev.pos (by omega) ?_
    rw [w64 (by omega) (by omega), w64 (by omega) (by omega), Int.mul_comm, ← pow3_succ]
    exact ih (i + 1) (by omega)
theorem impl_power_ev (n : Int) (h0 : 0 ≤ n) (hn : n ≤ 30) : Ev (fun k => impl_power.f k n) ((3 : Int) ^ n.toNat) := by
  obtain ⟨m, rfl⟩ : ∃ m : Nat, n = m := ⟨n.toNat, by omega⟩
  exact impl_power_l m (by omega) m 0 (by omega)

def divr (a d : Int) : Int :=
  let s := if d < 0 then -d else d
  let r := Int.tmod a s
  if 2 * r > s then r - s else if 2 * r ≤ -s then r + s else r
theorem divr_eq (a d s r : Int) (hs : (if d < 0 then -d else d) = s) (hr : Int.tmod a s = r) : divr a d = if 2 * r > s then r - s else if 2 * r ≤ -s then r + s else r := by
  subst hr; subst hs; rfl
theorem impl_divided_eq (a d : Int) (ha : -1000000000000000000 ≤ a ∧ a ≤ 1000000000000000000) (hd : -1000000000000000000 ≤ d ∧ d ≤ 1000000000000000000) (h0 : d ≠ 0) : impl_divided.f a d = some (Int.tdiv (a - divr a d) d, divr a d) := by
  have hs : impl_size.f d = some (if d < 0 then -d else d) := by
    unfold impl_size.f mx
    rw [w64 (by omega) (by omega)]
    refine congrArg some ?_
    split <;> split <;> omega
  unfold impl_divided.f
  rw [hs]
  simp only [Option.bind_some]
  rw [divr_eq a d _ _ rfl rfl]
  generalize hS : (if d < 0 then -d else d) = s
  have hs1 : 0 < s := by split at hS <;> omega
  have hs2 : s ≤ 1000000000000000000 := by split at hS <;> omega
  have h1 := Int.tmod_lt_of_pos a hs1
  have h2 : -s < Int.tmod a s := by
    have := Int.tmod_lt_of_pos (-a) hs1
    rw [Int.neg_tmod] at this; omega
  generalize hR : Int.tmod a s = r at *
  have key : ∀ b : Int, -2000000000000000000 ≤ b → b ≤ 2000000000000000000 → wrap64 (Int.tdiv b d) = Int.tdiv b d := by
    intro b hb0 hb1
    have := Int.natAbs_tdiv_le_natAbs b d
    exact w64 (by omega) (by omega)
  rw [if_neg (by omega), w64 (n := 2 * r) (by omega) (by omega), w64 (n := -s) (by omega) (by omega)]
  by_cases c1 : 2 * r > s
  · rw [if_pos c1, if_neg h0]
    rw [if_pos c1, w64 (n := r - s) (by omega) (by omega), w64 (n := a - (r - s)) (by omega) (by omega), key _ (by omega) (by omega)]
  · rw [if_neg c1]
    by_cases c2 : 2 * r ≤ -s
    · rw [if_pos c2, if_neg h0]
      rw [if_neg c1, if_pos c2, w64 (n := r + s) (by omega) (by omega), w64 (n := a - (r + s)) (by omega) (by omega), key _ (by omega) (by omega)]
    · rw [if_neg c2, if_neg h0]
      rw [if_neg c1, if_neg c2, w64 (n := a - r) (by omega) (by omega), key _ (by omega) (by omega)]

theorem impl_WrapCell_ev (n : Int) : Ev (fun k => impl_WrapCell.f k n) (wrapc n) := by
  simp only [impl_WrapCell.f]
  have hp := impl_power_ev 9 (by omega) (by omega)
  refine Ev.bind hp ?_
  refine Ev.neg (by decide) ?_
  refine Ev.bind hp ?_
  have e : (3 : Int) ^ (Int.toNat 9) = 19683 := by decide
  rw [e]
  have h := tmod_19683 n
  generalize hr : Int.tmod n 19683 = r at *
  have h1 : -19683 < r ∧ r < 19683 ∧ (r - n) % 19683 = 0 := by split at h <;> omega
  refine Ev.bindc (impl_divided_eq r 19683 (by omega) (by omega) (by omega)) (Ev.ret ?_)
  have h3 : Int.tmod r 19683 = r := by rw [tmod_19683 r]; split <;> omega
  rw [divr_eq r 19683 19683 r (by decide) h3]
  unfold wrapc
  split
  · omega
  · split <;> omega

end Go.Proofs.Yteedicdanhjfpaa.LemFnExactWrapCell

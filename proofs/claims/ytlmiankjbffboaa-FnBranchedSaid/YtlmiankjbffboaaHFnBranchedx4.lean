/- Text for FnBranched: written by a program of this session on the pattern of the kit's print. -/
import Derived.Test.YtlmiankjbffboaaHFnBranchedxs4p1
import Derived.Test.YtlmiankjbffboaaHFnBranchedxs4p2
import Derived.Test.YtlmiankjbffboaaHFnBranchedxs4p3
import Derived.Test.YtlmiankjbffboaaHFnBranchedxs4p4
import Derived.Test.YtlmiankjbffboaaHFnBranchedxs4p5
import Derived.Test.YtlmiankjbffboaaHFnBranchedxs4p6
import Derived.Test.YtlmiankjbffboaaHFnBranchedx0
import Derived.Test.YtlmiankjbffboaaHFnBranchedx1
import Derived.Test.YtlmiankjbffboaaHFnBranchedx2
import Derived.Test.YtlmiankjbffboaaHFnBranchedx3
namespace Go.Proofs.Ytlmiankjbffboaa.HFnBranched
open Go.RowKit Go.Proofs.YtlmiankjbffboaaW.PrintWords Go.Proofs.YtlmiankjbffboaaW.PrintLast Go.Proofs.YtlmiankjbffboaaW.PrintMore
attribute [local go_sem] max2_int min2_int max_two min_two max_three min_three max_four min_four
set_option linter.unusedVariables false
set_option linter.unusedSimpArgs false

theorem impl_step.sgn {y r : Int} (h : impl_SignOf.f y = some r) (p q s : Int) : r = -1 ∧ (if r = -1 then p else if r = 0 then q else s) = p ∨ r = 0 ∧ (if r = -1 then p else if r = 0 then q else s) = q ∨ r = 1 ∧ (if r = -1 then p else if r = 0 then q else s) = s := by
 unfold impl_SignOf.f at h
 split at h
 ·obtain rfl := Option.some.inj h; exact .inl ⟨rfl, rfl⟩
 ·split at h
  ·obtain rfl := Option.some.inj h; exact .inr (.inr ⟨rfl, rfl⟩)
  ·obtain rfl := Option.some.inj h; exact .inr (.inl ⟨rfl, rfl⟩)
theorem impl_step.calls0 (k : Nat) (A0 : Option Addr) (c0 : Nat) (l : List S48) (gm : Nat) (pc : Int) (vs vc : Value) (st cl : List Int) (w0 w : World) (hC : Kd.C k48 w A0 l.length l) (hH : impl_step.Held w0 w gm pc vs vc st cl) (how pc' : Int) (st' cl' : List Int) (h : impl_step.f k l pc st cl = some (how, pc', st', cl')) :
  Calls Try.prog 43 #[.slice A0 l.length c0, .pointer (some ⟨gm, 0, none⟩)] w fun e w' => e = .returned (.int .i64 how) ∧ ∃ vs' vc', impl_step.Held w0 w' gm pc' vs' vc' st' cl' := by
 unfold impl_step.f at h
 by_cases e0 : pc = (l.length : Int)
 ·rw [if_pos e0] at h
  obtain ⟨rfl, rfl, rfl, rfl⟩ : 2 = how ∧ pc = pc' ∧ st = st' ∧ cl = cl' := by simpa using h
  exact impl_step.ended A0 c0 l gm pc vs vc st cl w0 w hH e0
 rw [if_neg e0] at h
 by_cases e1 : 0 ≤ pc ∧ pc < (l.length : Int) ∧ l.length ≤ 80 ∧ st.length ≤ 20 ∧ cl.length = 27
 case neg => rw [if_neg e1] at h; exact absurd h (by simp)
 rw [if_pos e1] at h
 obtain ⟨h0, h1, h2, h3, h27⟩ := e1
 obtain ⟨ad0, rfl, _⟩ := at_T48 hC pc h0 h1
 by_cases e2 : (rd_T48 l pc).f0 = 15
 ·rw [if_pos e2] at h
  obtain ⟨rfl, rfl, rfl, rfl⟩ : 1 = how ∧ pc = pc' ∧ st = st' ∧ cl = cl' := by simpa using h
  exact impl_step.halted k ad0 c0 l gm pc vs vc st cl w0 w hC hH h0 h1 h2 h3 e2
 rw [if_neg e2] at h
 by_cases e3 : st.length < impl_step.nd (rd_T48 l pc).f0
 ·rw [if_pos e3] at h
  obtain ⟨rfl, rfl, rfl, rfl⟩ : 3 = how ∧ pc = pc' ∧ st = st' ∧ cl = cl' := by simpa using h
  unfold impl_step.nd at e3
  by_cases q2 : (rd_T48 l pc).f0 = 2 ∨ (rd_T48 l pc).f0 = 3 ∨ (rd_T48 l pc).f0 = 4 ∨ (rd_T48 l pc).f0 = 8 ∨ (rd_T48 l pc).f0 = 12
  ·rw [if_pos q2] at e3
   rcases q2 with c | c | c | c | c
   ·exact impl_step.few2 k ad0 c0 l gm pc vs vc st cl w0 w hC hH h0 h1 h2 h3 c e3
   ·exact impl_step.few3 k ad0 c0 l gm pc vs vc st cl w0 w hC hH h0 h1 h2 h3 c e3
   ·exact impl_step.few4 k ad0 c0 l gm pc vs vc st cl w0 w hC hH h0 h1 h2 h3 c e3
   ·exact impl_step.few8 k ad0 c0 l gm pc vs vc st cl w0 w hC hH h0 h1 h2 h3 c e3
   ·exact impl_step.few12 k ad0 c0 l gm pc vs vc st cl w0 w hC hH h0 h1 h2 h3 c e3
  ·rw [if_neg q2] at e3
   by_cases q1 : (rd_T48 l pc).f0 = 5 ∨ (rd_T48 l pc).f0 = 6 ∨ (rd_T48 l pc).f0 = 7 ∨ (rd_T48 l pc).f0 = 9 ∨ (rd_T48 l pc).f0 = 10 ∨ (rd_T48 l pc).f0 = 11 ∨ (rd_T48 l pc).f0 = 14
   ·rw [if_pos q1] at e3
    rcases q1 with c | c | c | c | c | c | c
    ·exact impl_step.few5 k ad0 c0 l gm pc vs vc st cl w0 w hC hH h0 h1 h2 h3 c e3
    ·exact impl_step.few6 k ad0 c0 l gm pc vs vc st cl w0 w hC hH h0 h1 h2 h3 c e3
    ·exact impl_step.few7 k ad0 c0 l gm pc vs vc st cl w0 w hC hH h0 h1 h2 h3 c e3
    ·exact impl_step.few9 k ad0 c0 l gm pc vs vc st cl w0 w hC hH h0 h1 h2 h3 c e3
    ·exact impl_step.few10 k ad0 c0 l gm pc vs vc st cl w0 w hC hH h0 h1 h2 h3 c e3
    ·exact impl_step.few11 k ad0 c0 l gm pc vs vc st cl w0 w hC hH h0 h1 h2 h3 c e3
    ·exact impl_step.few14 k ad0 c0 l gm pc vs vc st cl w0 w hC hH h0 h1 h2 h3 c e3
   ·rw [if_neg q1] at e3
    exact absurd e3 (by omega)
 rw [if_neg e3] at h
 by_cases e4 : st.length = 20 ∧ ((rd_T48 l pc).f0 = 1 ∨ (rd_T48 l pc).f0 = 7)
 ·rw [if_pos e4] at h
  obtain ⟨rfl, rfl, rfl, rfl⟩ : 3 = how ∧ pc = pc' ∧ st = st' ∧ cl = cl' := by simpa using h
  rcases e4 with ⟨q, c | c⟩
  ·exact impl_step.full1 k ad0 c0 l gm pc vs vc st cl w0 w hC hH h0 h1 h2 h3 c q
  ·exact impl_step.full7 k ad0 c0 l gm pc vs vc st cl w0 w hC hH h0 h1 h2 h3 c q
 rw [if_neg e4] at h
 by_cases e5 : (rd_T48 l pc).f0 = 11 ∨ (rd_T48 l pc).f0 = 12
 ·rw [if_pos e5] at h
  obtain ⟨sz, hsz, h⟩ := Option.bind_eq_some_iff.1 h
  by_cases e6 : 13 < sz
  ·rw [if_pos e6] at h
   obtain ⟨rfl, rfl, rfl, rfl⟩ : 4 = how ∧ pc = pc' ∧ st = st' ∧ cl = cl' := by simpa using h
   rcases e5 with c | c
   ·exact impl_step.cell11 k ad0 c0 l gm pc vs vc st cl w0 w hC hH h0 h1 h2 h3 c (by rw [c, show impl_step.nd 11 = 1 by decide] at e3; omega) sz hsz e6
   ·exact impl_step.cell12 k ad0 c0 l gm pc vs vc st cl w0 w hC hH h0 h1 h2 h3 c (by rw [c, show impl_step.nd 12 = 2 by decide] at e3; omega) sz hsz e6
  rw [if_neg e6] at h
  by_cases e7 : -13 ≤ rd st ((st.length : Int) - 1) ∧ rd st ((st.length : Int) - 1) ≤ 13
  case neg => rw [if_neg e7] at h; exact absurd h (by simp)
  rw [if_pos e7] at h
  rcases e5 with c | c
  ·obtain ⟨rfl, rfl, rfl, rfl⟩ : 0 = how ∧ pc + 1 = pc' ∧ st.set (st.length - 1) (rd cl (rd st ((st.length : Int) - 1) + 13)) = st' ∧ cl = cl' := by simpa [impl_step.go, c] using h
   exact impl_step.load k ad0 c0 l gm pc vs vc st cl w0 w hC hH h0 h1 h2 h3 c (by rw [c, show impl_step.nd 11 = 1 by decide] at e3; omega) h27 e7 sz hsz (by omega)
  ·obtain ⟨rfl, rfl, rfl, rfl⟩ : 0 = how ∧ pc + 1 = pc' ∧ st.take (st.length - 2) = st' ∧ cl.set (rd st ((st.length : Int) - 1) + 13).toNat (rd st ((st.length : Int) - 2)) = cl' := by simpa [impl_step.go, c] using h
   exact impl_step.store k ad0 c0 l gm pc vs vc st cl w0 w hC hH h0 h1 h2 h3 c (by rw [c, show impl_step.nd 12 = 2 by decide] at e3; omega) h27 e7 sz hsz (by omega)
 rw [if_neg e5] at h
 by_cases c : (rd_T48 l pc).f0 = 1
 ·obtain ⟨rfl, rfl, rfl, rfl⟩ : 0 = how ∧ pc + 1 = pc' ∧ st ++ [(rd_T48 l pc).f1] = st' ∧ cl = cl' := by simpa [impl_step.go, c] using h
  exact impl_step.push k ad0 c0 l gm pc vs vc st cl w0 w hC hH h0 h1 h2 h3 c (by rcases Nat.lt_or_ge st.length 20 with h_ | h_; exact h_; exact absurd ⟨by omega, .inl c⟩ e4)
 by_cases c : (rd_T48 l pc).f0 = 2
 ·obtain ⟨r, hr, rfl, rfl, rfl, rfl⟩ : ∃ r, impl_WrapCell.f k (wrap64 (rd st ((st.length : Int) - 2) + rd st ((st.length : Int) - 1))) = some r ∧ 0 = how ∧ pc + 1 = pc' ∧ (st.set (st.length - 2) r).take (st.length - 1) = st' ∧ cl = cl' := by simpa [impl_step.go, c, Option.bind_eq_some_iff] using h
  exact impl_step.add k ad0 c0 l gm pc vs vc st cl w0 w hC hH h0 h1 h2 h3 c (by rw [c, show impl_step.nd 2 = 2 by decide] at e3; omega) r hr
 by_cases c : (rd_T48 l pc).f0 = 3
 ·obtain ⟨r, hr, rfl, rfl, rfl, rfl⟩ : ∃ r, impl_WrapCell.f k (wrap64 (rd st ((st.length : Int) - 2) - rd st ((st.length : Int) - 1))) = some r ∧ 0 = how ∧ pc + 1 = pc' ∧ (st.set (st.length - 2) r).take (st.length - 1) = st' ∧ cl = cl' := by simpa [impl_step.go, c, Option.bind_eq_some_iff] using h
  exact impl_step.sub k ad0 c0 l gm pc vs vc st cl w0 w hC hH h0 h1 h2 h3 c (by rw [c, show impl_step.nd 3 = 2 by decide] at e3; omega) r hr
 by_cases c : (rd_T48 l pc).f0 = 4
 ·obtain ⟨r, hr, rfl, rfl, rfl, rfl⟩ : ∃ r, impl_WrapCell.f k (wrap64 (rd st ((st.length : Int) - 2) * rd st ((st.length : Int) - 1))) = some r ∧ 0 = how ∧ pc + 1 = pc' ∧ (st.set (st.length - 2) r).take (st.length - 1) = st' ∧ cl = cl' := by simpa [impl_step.go, c, Option.bind_eq_some_iff] using h
  exact impl_step.mul k ad0 c0 l gm pc vs vc st cl w0 w hC hH h0 h1 h2 h3 c (by rw [c, show impl_step.nd 4 = 2 by decide] at e3; omega) r hr
 by_cases c : (rd_T48 l pc).f0 = 5
 ·obtain ⟨rfl, rfl, rfl, rfl⟩ : 0 = how ∧ pc + 1 = pc' ∧ st.set (st.length - 1) (wrap64 (-(rd st ((st.length : Int) - 1)))) = st' ∧ cl = cl' := by simpa [impl_step.go, c] using h
  exact impl_step.negate k ad0 c0 l gm pc vs vc st cl w0 w hC hH h0 h1 h2 h3 c (by rw [c, show impl_step.nd 5 = 1 by decide] at e3; omega)
 by_cases c : (rd_T48 l pc).f0 = 6
 ·obtain ⟨r, hr, rfl, rfl, rfl, rfl⟩ : ∃ r, impl_SignOf.f (rd st ((st.length : Int) - 1)) = some r ∧ 0 = how ∧ pc + 1 = pc' ∧ st.set (st.length - 1) r = st' ∧ cl = cl' := by simpa [impl_step.go, c, Option.bind_eq_some_iff] using h
  exact impl_step.sign k ad0 c0 l gm pc vs vc st cl w0 w hC hH h0 h1 h2 h3 c (by rw [c, show impl_step.nd 6 = 1 by decide] at e3; omega) r hr
 by_cases c : (rd_T48 l pc).f0 = 7
 ·obtain ⟨rfl, rfl, rfl, rfl⟩ : 0 = how ∧ pc + 1 = pc' ∧ st ++ [rd st ((st.length : Int) - 1)] = st' ∧ cl = cl' := by simpa [impl_step.go, c] using h
  exact impl_step.copy k ad0 c0 l gm pc vs vc st cl w0 w hC hH h0 h1 h2 h3 c (by rw [c, show impl_step.nd 7 = 1 by decide] at e3; omega) (by rcases Nat.lt_or_ge st.length 20 with h_ | h_; exact h_; exact absurd ⟨by omega, .inr c⟩ e4)
 by_cases c : (rd_T48 l pc).f0 = 8
 ·obtain ⟨rfl, rfl, rfl, rfl⟩ : 0 = how ∧ pc + 1 = pc' ∧ (st.set (st.length - 2) (rd st ((st.length : Int) - 1))).set (st.length - 1) (rd st ((st.length : Int) - 2)) = st' ∧ cl = cl' := by simpa [impl_step.go, c] using h
  exact impl_step.swap k ad0 c0 l gm pc vs vc st cl w0 w hC hH h0 h1 h2 h3 c (by rw [c, show impl_step.nd 8 = 2 by decide] at e3; omega)
 by_cases c : (rd_T48 l pc).f0 = 9
 ·obtain ⟨rfl, rfl, rfl, rfl⟩ : 0 = how ∧ pc + 1 = pc' ∧ st.take (st.length - 1) = st' ∧ cl = cl' := by simpa [impl_step.go, c] using h
  exact impl_step.drop k ad0 c0 l gm pc vs vc st cl w0 w hC hH h0 h1 h2 h3 c (by rw [c, show impl_step.nd 9 = 1 by decide] at e3; omega)
 by_cases c : (rd_T48 l pc).f0 = 10
 ·obtain ⟨r, hr, rfl, rfl, rfl, rfl⟩ : ∃ r, impl_shifted.f k (rd st ((st.length : Int) - 1)) (rd_T48 l pc).f1 = some r ∧ 0 = how ∧ pc + 1 = pc' ∧ st.set (st.length - 1) r = st' ∧ cl = cl' := by simpa [impl_step.go, c, Option.bind_eq_some_iff] using h
  exact impl_step.shift k ad0 c0 l gm pc vs vc st cl w0 w hC hH h0 h1 h2 h3 c (by rw [c, show impl_step.nd 10 = 1 by decide] at e3; omega) r hr
 by_cases c : (rd_T48 l pc).f0 = 13
 ·obtain ⟨rfl, rfl, rfl, rfl⟩ : 0 = how ∧ (rd_T48 l pc).f1 = pc' ∧ st = st' ∧ cl = cl' := by simpa [impl_step.go, c] using h
  exact impl_step.jump k ad0 c0 l gm pc vs vc st cl w0 w hC hH h0 h1 h2 h3 c
 by_cases c : (rd_T48 l pc).f0 = 14
 ·obtain ⟨r, hr, rfl, rfl, rfl, rfl⟩ : ∃ r, impl_SignOf.f (rd st ((st.length : Int) - 1)) = some r ∧ 0 = how ∧ (if r = -1 then (rd_T48 l pc).f1 else if r = 0 then (rd_T48 l pc).f2 else (rd_T48 l pc).f3) = pc' ∧ st.take (st.length - 1) = st' ∧ cl = cl' := by simpa [impl_step.go, c, Option.bind_eq_some_iff] using h
  exact impl_step.branch k ad0 c0 l gm pc vs vc st cl w0 w hC hH h0 h1 h2 h3 c (by rw [c, show impl_step.nd 14 = 1 by decide] at e3; omega) r hr _ (impl_step.sgn hr _ _ _)
 ·exfalso
  simp_all [impl_step.go]

end Go.Proofs.Ytlmiankjbffboaa.HFnBranched


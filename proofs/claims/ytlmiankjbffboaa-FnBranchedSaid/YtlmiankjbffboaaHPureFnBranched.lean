/- The machine branches three ways: a program that branches on a number leaves its sign, as the operation for signs does; numbers are wrapped as words of nine trits are. -/
import Derived.Test.YtlmiankjbffboaaHLemFnBranched
set_option linter.unusedVariables false
set_option linter.unusedSimpArgs false
namespace Go.Proofs.Ytlmiankjbffboaa.HPure
open Go.RowKit Go.Proofs.Ytlmiankjbffboaa.HFnBranched Go.Proofs.YtlmiankjbffboaaW.PrintWords Go.Proofs.YtlmiankjbffboaaW.PrintLast Go.Proofs.YtlmiankjbffboaaW.PrintMore Go.Proofs.Ytlmiankjbffboaa.Base Go.Proofs.Ytlmiankjbffboaa.LemFnBranched

theorem runP_go {l : List S48} {n : Nat} {pc pc' : Int} {st cl st' cl' : List Int} (h : stepP l pc st cl = (0, pc', st', cl')) : runP l (n + 1) pc st cl = runP l n pc' st' cl' := by
  simp [runP, h]
theorem runP_stop {l : List S48} {n : Nat} {how pc pc' : Int} {st cl st' cl' : List Int} (h : stepP l pc st cl = (how, pc', st', cl')) (hh : how ≠ 0) : runP l (n + 1) pc st cl = (pc', st', cl', how) := by
  simp [runP, h, hh]
def zc : List Int := List.replicate 27 0
theorem run1 (x : Int) : runP (laws_FnBranched.p1 x) 20 0 [] zc = (7, [sgn x], zc, 2) := by
  have e1 : rd [x] 0 = x := rfl
  have s0 : stepP (laws_FnBranched.p1 x) 0 [] zc = (0, 1, [x], zc) := by simp [stepP, goP, laws_FnBranched.p1, rd_T48, ndP]
  have s1 : stepP (laws_FnBranched.p1 x) 1 [x] zc = (0, if sgn x = -1 then 2 else if sgn x = 0 then 4 else 6, [], zc) := by simp [stepP, goP, laws_FnBranched.p1, rd_T48, ndP, e1]
  have e7 : ∀ v : Int, stepP (laws_FnBranched.p1 x) 7 [v] zc = (2, 7, [v], zc) := fun v => by simp [stepP, laws_FnBranched.p1]
  have s2 : stepP (laws_FnBranched.p1 x) 2 [] zc = (0, 3, [-1], zc) := by simp [stepP, goP, laws_FnBranched.p1, rd_T48, ndP]
  have s3 : stepP (laws_FnBranched.p1 x) 3 [-1] zc = (0, 7, [-1], zc) := by simp [stepP, goP, laws_FnBranched.p1, rd_T48, ndP]
  have s4 : stepP (laws_FnBranched.p1 x) 4 [] zc = (0, 5, [0], zc) := by simp [stepP, goP, laws_FnBranched.p1, rd_T48, ndP]
  have s5 : stepP (laws_FnBranched.p1 x) 5 [0] zc = (0, 7, [0], zc) := by simp [stepP, goP, laws_FnBranched.p1, rd_T48, ndP]
  have s6 : stepP (laws_FnBranched.p1 x) 6 [] zc = (0, 7, [1], zc) := by simp [stepP, goP, laws_FnBranched.p1, rd_T48, ndP]
  have hs : sgn x = -1 ∨ sgn x = 0 ∨ sgn x = 1 := by
    unfold sgn
    split
    · exact .inl rfl
    · split
      · first | exact .inr (.inr rfl) | exact .inr (.inl rfl)
      · first | exact .inr (.inl rfl) | exact .inr (.inr rfl)
  rw [show (20 : Nat) = 14 + 1 + 1 + 1 + 1 + 1 + 1 from rfl, runP_go s0, runP_go s1]
  rcases hs with h | h | h
  · rw [h, if_pos rfl, runP_go s2, runP_go s3, runP_stop (e7 _) (by decide)]
  · rw [h, if_neg (by decide), if_pos rfl, runP_go s4, runP_go s5, runP_stop (e7 _) (by decide)]
  · rw [h, if_neg (by decide), if_neg (by decide), runP_go s6, runP_stop (e7 _) (by decide)]
theorem run2 (x : Int) : runP (laws_FnBranched.p2 x) 20 0 [] zc = (2, [sgn x], zc, 2) := by
  have e1 : rd [x] 0 = x := rfl
  have s0 : stepP (laws_FnBranched.p2 x) 0 [] zc = (0, 1, [x], zc) := by simp [stepP, goP, laws_FnBranched.p2, rd_T48, ndP]
  have s1 : stepP (laws_FnBranched.p2 x) 1 [x] zc = (0, 2, [sgn x], zc) := by simp [stepP, goP, laws_FnBranched.p2, rd_T48, ndP, e1]
  have s2 : stepP (laws_FnBranched.p2 x) 2 [sgn x] zc = (2, 2, [sgn x], zc) := by simp [stepP, laws_FnBranched.p2]
  rw [show (20 : Nat) = 17 + 1 + 1 + 1 from rfl, runP_go s0, runP_go s1, runP_stop s2 (by decide)]
theorem run3 (x y : Int) : runP (laws_FnBranched.p3 x y) 20 0 [] zc = (3, [wrapc (x + y)], zc, 2) := by
  have e1 : rd [x, y] 1 = y := rfl
  have e2 : rd [x, y] 0 = x := rfl
  have s0 : stepP (laws_FnBranched.p3 x y) 0 [] zc = (0, 1, [x], zc) := by simp [stepP, goP, laws_FnBranched.p3, rd_T48, ndP]
  have s1 : stepP (laws_FnBranched.p3 x y) 1 [x] zc = (0, 2, [x, y], zc) := by simp [stepP, goP, laws_FnBranched.p3, rd_T48, ndP]
  have s2 : stepP (laws_FnBranched.p3 x y) 2 [x, y] zc = (0, 3, [wrapc (x + y)], zc) := by simp [stepP, goP, laws_FnBranched.p3, rd_T48, ndP, e1, e2]
  have s3 : stepP (laws_FnBranched.p3 x y) 3 [wrapc (x + y)] zc = (2, 3, [wrapc (x + y)], zc) := by simp [stepP, laws_FnBranched.p3]
  rw [show (20 : Nat) = 16 + 1 + 1 + 1 + 1 from rfl, runP_go s0, runP_go s1, runP_go s2, runP_stop s3 (by decide)]
theorem code1 {x : Int} (hx : -9841 ≤ x ∧ x ≤ 9841) : codeB (laws_FnBranched.p1 x) = true := by
  simp [codeB, laws_FnBranched.p1, opB]; omega
theorem code2 {x : Int} (hx : -9841 ≤ x ∧ x ≤ 9841) : codeB (laws_FnBranched.p2 x) = true := by
  simp [codeB, laws_FnBranched.p2, opB]; omega
theorem code3 {x y : Int} (hx : -9841 ≤ x ∧ x ≤ 9841) (hy : -9841 ≤ y ∧ y ≤ 9841) : codeB (laws_FnBranched.p3 x y) = true := by
  simp [codeB, laws_FnBranched.p3, opB]; omega
theorem start_vm (l : List S48) : Vm l 0 [] zc := ⟨by omega, by omega, by simp, by simp [zc], fun a h => absurd h (by simp), fun a h => by rw [List.eq_of_mem_replicate h]; omega⟩
theorem wordOf9 {x : Int} (hx : -9841 ≤ x ∧ x ≤ 9841) : wordOf x 9 = (word 9 x, true) := by
  unfold wordOf
  rw [if_pos ⟨by omega, by omega, by rw [fits9]; simpa using hx⟩]; rfl
theorem sum9 {x y : Int} (hx : -9841 ≤ x ∧ x ≤ 9841) (hy : -9841 ≤ y ∧ y ≤ 9841) : val (addW (word 9 x) (word 9 y) 0).1 = wrapc (x + y) := by
  have h := addW_val (word 9 x) (word 9 y) 0 (by rw [word_length, word_length])
  have l9 : L3 9 = 9841 := by decide
  rw [word_length, val_word 9 x (by omega) (by omega), val_word 9 y (by omega) (by omega), show (3 : Int) ^ 9 = 19683 by decide] at h
  have r := val_range (addW (word 9 x) (word 9 y) 0).1 (addW_trits _ _ _)
  rw [addW_length _ _ _ (by rw [word_length, word_length]), word_length, l9] at r
  unfold wrapc
  omega
theorem tail_ev (n x y : Int) (hx : -9841 ≤ x ∧ x ≤ 9841) (hy : -9841 ≤ y ∧ y ≤ 9841) (hn : Int.tmod (wrap64 (n - x)) 19683 = 0) : Ev (fun k => laws_FnBranched.tail k n x y (7, [sgn x], zc, 2) (2, [sgn x], zc, 2) (3, [wrapc (x + y)], zc, 2)) true := by
  simp only [laws_FnBranched.tail]
  have h1 := spec_WordOf_ev x 9
  have h2 := spec_WordOf_ev y 9
  rw [wordOf9 hx] at h1
  rw [wordOf9 hy] at h2
  have l9 : (word 9 x).length = (word 9 y).length := by rw [word_length, word_length]
  have i1 := laws_ints_ev [sgn x] [sgn x] (by simp)
  have i3 := laws_ints_ev [wrapc (x + y)] [wrapc (x + y)] (by simp)
  rw [decide_eq_true rfl] at i1 i3
  have hv := spec_ValueOf_ev (addW (word 9 x) (word 9 y) 0).1 ((isWord_iff _).2 ⟨by rw [addW_length _ _ _ l9, word_length]; omega, addW_trits _ _ _⟩)
  rw [sum9 hx hy] at hv
  refine Ev.bind h1 (Ev.bind h2 (Ev.bind (spec_AddWords_ev (word 9 x) (word 9 y) 0 l9 (word_isWord 9 x (by omega)) (word_isWord 9 y (by omega)) (by omega)) ?_))
  refine Ev.pos ⟨rfl, rfl, hn, by first | rfl | trivial, by first | rfl | trivial, by first | rfl | trivial⟩ (Ev.bindc (impl_SignOf_eq x) (Ev.bind i1 (Ev.bind i1 (Ev.bind hv (Ev.bind i3 (Ev.pos ⟨rfl, rfl, rfl⟩ (Ev.now _)))))))
theorem FnBranched : laws_FnBranched.OPure := by
  intro l hl
  obtain ⟨hl0, hb⟩ := hl
  apply Ev.rounds
  simp only [laws_FnBranched.f]
  refine Ev.ite (fun h => Ev.now _) (fun h => ?_)
  have hl : l.length ≤ 1048576 := by omega
  have a1 := laws_at_eq l 1 hl (by omega) hb
  have a2 := laws_at_eq l 2 hl (by omega) hb
  have a3 := laws_at_eq l 3 hl (by omega) hb
  have a4 := laws_at_eq l 4 hl (by omega) hb
  have r1 := atv_range l 1 hb
  have r2 := atv_range l 2 hb
  have r3 := atv_range l 3 hb
  refine Ev.bindc a1 (Ev.bindc a2 (Ev.bindc a3 (Ev.bind (impl_WrapCell_ev _) ?_)))
  generalize atv l 1 = v1 at *
  generalize atv l 2 = v2 at *
  generalize atv l 3 = v3 at *
  have m0 : 0 ≤ v1 * v2 := Int.mul_nonneg r1.1 r2.1
  have m1 : v1 * v2 ≤ 255 * 255 := Int.mul_le_mul (by omega) (by omega) r2.1 (by omega)
  generalize v1 * v2 = m at *
  rw [w64 (n := m) (by omega) (by omega), w64 (n := v3 * 100) (by omega) (by omega), w64 (n := m - v3 * 100) (by omega) (by omega)]
  have hx := wrapc_range (m - v3 * 100)
  have hn : Int.tmod (wrap64 ((m - v3 * 100) - wrapc (m - v3 * 100))) 19683 = 0 := by
    rw [w64 (by omega) (by omega), tmod_19683]
    unfold wrapc
    split <;> omega
  generalize m - v3 * 100 = n at *
  generalize wrapc n = x at *
  have h1 := spec_IsCode_ev (laws_FnBranched.p1 x) (by simp [laws_FnBranched.p1])
  rw [code1 hx] at h1
  have q1 := impl_RunMachine_ev (laws_FnBranched.p1 x) 0 [] zc 20 (by omega) (code1 hx) (start_vm _)
  have q2 := impl_RunMachine_ev (laws_FnBranched.p2 x) 0 [] zc 20 (by omega) (code2 hx) (start_vm _)
  rw [run1] at q1
  rw [run2] at q2
  refine Ev.bind h1 (Ev.pos rfl (Ev.bindc impl_NewMachine_eq (Ev.bind q1 (Ev.bind q2 (Ev.bindc a4 (Ev.bind (impl_WrapCell_ev _) ?_))))))
  have hy := wrapc_range (wrap64 (wrap64 (atv l 4 * 41) - 5000))
  generalize wrapc (wrap64 (wrap64 (atv l 4 * 41) - 5000)) = y at *
  have q3 := impl_RunMachine_ev (laws_FnBranched.p3 x y) 0 [] zc 20 (by omega) (code3 hx hy) (start_vm _)
  rw [run3] at q3
  exact Ev.bind q3 (tail_ev n x y hx hy hn)

end Go.Proofs.Ytlmiankjbffboaa.HPure

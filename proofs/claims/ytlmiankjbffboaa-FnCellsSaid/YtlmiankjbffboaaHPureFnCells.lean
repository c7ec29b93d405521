/- What is stored in a cell is loaded from it, no other cell changes, and a shift of the machine is a shift of the word, cut to nine trits. -/
import Derived.Test.YtlmiankjbffboaaHLemFnCells
set_option linter.unusedVariables false
set_option linter.unusedSimpArgs false
namespace Go.Proofs.Ytlmiankjbffboaa.HPure
open Go.RowKit Go.Proofs.Ytlmiankjbffboaa.HFnCells Go.Proofs.YtlmiankjbffboaaW.PrintWords Go.Proofs.YtlmiankjbffboaaW.PrintLast Go.Proofs.YtlmiankjbffboaaW.PrintMore Go.Proofs.Ytlmiankjbffboaa.Base Go.Proofs.Ytlmiankjbffboaa.LemFnCells

theorem runP_go {l : List S48} {n : Nat} {pc pc' : Int} {st cl st' cl' : List Int} (h : stepP l pc st cl = (0, pc', st', cl')) : runP l (n + 1) pc st cl = runP l n pc' st' cl' := by
  simp [runP, h]
theorem runP_stop {l : List S48} {n : Nat} {how pc pc' : Int} {st cl st' cl' : List Int} (h : stepP l pc st cl = (how, pc', st', cl')) (hh : how ≠ 0) : runP l (n + 1) pc st cl = (pc', st', cl', how) := by
  simp [runP, h, hh]
def prog (x ad d : Int) : List S48 := [⟨1, x, 0, 0⟩, ⟨1, ad, 0, 0⟩, ⟨12, 0, 0, 0⟩, ⟨1, ad, 0, 0⟩, ⟨11, 0, 0, 0⟩, ⟨7, 0, 0, 0⟩, ⟨10, d, 0, 0⟩]
theorem prog_code {x ad d : Int} (hx : -9841 ≤ x ∧ x ≤ 9841) (ha : -13 ≤ ad ∧ ad ≤ 13) (hd : -9 ≤ d ∧ d ≤ 9) : codeB (prog x ad d) = true := by
  simp [codeB, prog, opB]
  omega
def cells0 (ad x : Int) : List Int := (List.replicate 27 0).set (ad + 13).toNat x
theorem cells0_rd {ad x : Int} (ha : -13 ≤ ad ∧ ad ≤ 13) (i : Nat) (hi : i < 27) : rd (cells0 ad x) (i : Int) = if (i : Int) = ad + 13 then x else 0 := by
  unfold cells0
  rw [rd_get _ i (by simp; omega), List.getElem_set]
  by_cases c : (i : Int) = ad + 13
  · rw [if_pos c, if_pos (by omega)]
  · rw [if_neg c, if_neg (by omega), List.getElem_replicate]
theorem prog_run {x ad d : Int} (ha : -13 ≤ ad ∧ ad ≤ 13) : runP (prog x ad d) 50 0 [] (List.replicate 27 0) = (7, [x, shv x d], cells0 ad x, 2) := by
  have s0 : stepP (prog x ad d) 0 [] (List.replicate 27 0) = (0, 1, [x], List.replicate 27 0) := by simp [stepP, goP, prog, rd_T48, ndP]
  have s1 : stepP (prog x ad d) 1 [x] (List.replicate 27 0) = (0, 2, [x, ad], List.replicate 27 0) := by simp [stepP, goP, prog, rd_T48, ndP]
  have s2 : stepP (prog x ad d) 2 [x, ad] (List.replicate 27 0) = (0, 3, [], cells0 ad x) := by
    have e1 : rd [x, ad] 1 = ad := rfl
    have e2 : rd [x, ad] 0 = x := rfl
    simp [stepP, goP, prog, rd_T48, ndP, e1, e2, ha, cells0]
  have s3 : stepP (prog x ad d) 3 [] (cells0 ad x) = (0, 4, [ad], cells0 ad x) := by simp [stepP, goP, prog, rd_T48, ndP]
  have s4 : stepP (prog x ad d) 4 [ad] (cells0 ad x) = (0, 5, [x], cells0 ad x) := by
    have e1 : rd [ad] 0 = ad := rfl
    have e2 : rd (cells0 ad x) (ad + 13) = x := by
      have := cells0_rd (x := x) ha (ad + 13).toNat (by omega)
      rwa [show (((ad + 13).toNat : Nat) : Int) = ad + 13 by omega, if_pos rfl] at this
    simp [stepP, goP, prog, rd_T48, ndP, e1, e2, ha]
  have s5 : stepP (prog x ad d) 5 [x] (cells0 ad x) = (0, 6, [x, x], cells0 ad x) := by
    have e1 : rd [x] 0 = x := rfl
    simp [stepP, goP, prog, rd_T48, ndP, e1]
  have s6 : stepP (prog x ad d) 6 [x, x] (cells0 ad x) = (0, 7, [x, shv x d], cells0 ad x) := by
    have e1 : rd [x, x] 1 = x := rfl
    simp [stepP, goP, prog, rd_T48, ndP, e1]
  have s7 : stepP (prog x ad d) 7 [x, shv x d] (cells0 ad x) = (2, 7, [x, shv x d], cells0 ad x) := by simp [stepP, prog]
  rw [show (50 : Nat) = 42 + 1 + 1 + 1 + 1 + 1 + 1 + 1 + 1 from rfl, runP_go s0, runP_go s1, runP_go s2, runP_go s3, runP_go s4, runP_go s5, runP_go s6, runP_stop s7 (by decide)]
theorem shiftW_9 {x d : Int} (hd : -9 ≤ d ∧ d ≤ 9) : (shiftW (word 9 x) d).2 = true ∧ 1 ≤ (shiftW (word 9 x) d).1.length := by
  have hl := word_length 9 x
  unfold shiftW
  rw [if_pos ⟨word_isWord 9 x (by omega), by omega⟩, hl]
  split
  · simp
  · split
    · simp [hl]; omega
    · simp [hl]
theorem tail_ev (x d pc : Int) (cl : List Int) (hx : -9841 ≤ x ∧ x ≤ 9841) (hd : -9 ≤ d ∧ d ≤ 9) : Ev (fun k => (spec_WordOf.f k x 9).bind fun bt259 => ((impl_ShiftWord.f k bt259.1 d).bind fun bt263 => (if bt263.2 = true then (laws_FnCells.j2 k bt263.1 ((bt263.1.length : Int) == 0) pc [x, shv x d] cl) else (laws_FnCells.j2 k bt263.1 true pc [x, shv x d] cl)))) true := by
  have hw : wordOf x 9 = (word 9 x, true) := by
    unfold wordOf
    rw [if_pos ⟨by omega, by omega, by rw [fits9]; simpa using hx⟩]; rfl
  have h0 := spec_WordOf_ev x 9
  rw [hw] at h0
  obtain ⟨h1, h2⟩ := shiftW_9 (x := x) hd
  refine Ev.bind h0 (Ev.bind (impl_ShiftWord_ev (word 9 x) d (by rw [word_length]; omega)) (Ev.pos h1 ?_))
  apply Ev.succ
  simp only [laws_FnCells.j2.eq_2]
  have e : (((shiftW (word 9 x) d).1.length : Int) == 0) = false := beq_eq_false_iff_ne.mpr (by omega)
  rw [e]
  refine Ev.neg (by simp) ?_
  have ht := shiftW_trits (word 9 x) d
  have hl := shiftW_length (word 9 x) d
  have hs : rd [x, shv x d] 1 = shv x d := rfl
  rw [hs]
  have hb : ∀ s : Int, s = shv x d → (shv x d == s) = true := fun s h => by rw [h]; simp
  unfold shv at hb ⊢
  generalize (shiftW (word 9 x) d).1 = w at *
  refine Ev.ite (fun h => Ev.pos (by omega) (Ev.pos (by simp) ?_)) (fun h => Ev.pos (by simp) ?_)
  · exact Ev.bind (spec_ValueOf_ev (w.take 9) ((isWord_iff _).2 ⟨by rw [List.length_take]; omega, fun a ha => ht a (List.mem_of_mem_take ha)⟩)) (Ev.ret (hb _ rfl))
  · exact Ev.bind (spec_ValueOf_ev w ((isWord_iff _).2 ⟨by omega, ht⟩)) (Ev.ret (hb _ (by rw [List.take_of_length_le (by omega)])))
theorem loop_ev (x ad d pc : Int) (hx : -9841 ≤ x ∧ x ≤ 9841) (ha : -13 ≤ ad ∧ ad ≤ 13) (hd : -9 ≤ d ∧ d ≤ 9) : ∀ (r i : Nat), i + r = 27 → Ev (fun k => laws_FnCells.l0 k ad x d (cells0 ad x) 27 i pc [x, shv x d] (cells0 ad x)) true := by
  intro r
  induction r with
  | zero =>
    intro i hi
    apply Ev.succ
    simp only [laws_FnCells.l0.eq_2]
    exact Ev.neg (by omega) (tail_ev x d pc _ hx hd)
  | succ r ih =>
    intro i hi
    apply Ev.succ
    simp only [laws_FnCells.l0.eq_2]
    have hr := cells0_rd (x := x) ha i (by omega)
    refine Ev.pos (by omega) (Ev.pos (by omega) (Ev.pos (by unfold cells0; simp; omega) ?_))
    rw [hr, w64 (n := ad + 13) (by omega) (by omega), w64 (n := (i : Int) + 1) (by omega) (by omega)]
    refine Ev.ite (fun h => ?_) (fun h => ?_)
    · rw [if_pos h]; exact Ev.pos rfl (ih (i + 1) (by omega))
    · rw [if_neg h]; exact Ev.pos rfl (ih (i + 1) (by omega))
theorem FnCells : laws_FnCells.Pure := by
  intro l hl0 _ hb
  apply Ev.rounds
  simp only [laws_FnCells.f]
  refine Ev.ite (fun h => Ev.now _) (fun h => ?_)
  have hl : l.length ≤ 1048576 := by omega
  have a1 := laws_at_eq l 1 hl (by omega) hb
  have a2 := laws_at_eq l 2 hl (by omega) hb
  have a3 := laws_at_eq l 3 hl (by omega) hb
  have r1 := atv_range l 1 hb
  have r2 := atv_range l 2 hb
  have r3 := atv_range l 3 hb
  refine Ev.bindc a1 (Ev.bindc a2 (Ev.bind (impl_WrapCell_ev _) (Ev.bindc a3 ?_)))
  generalize atv l 1 = v1 at *
  generalize atv l 2 = v2 at *
  generalize atv l 3 = v3 at *
  have hx := wrapc_cell (wrap64 (wrap64 (v2 * 77) - 9000))
  generalize wrapc (wrap64 (wrap64 (v2 * 77) - 9000)) = x at *
  rw [Int.tmod_eq_emod_of_nonneg r1.1, Int.tmod_eq_emod_of_nonneg r3.1, w64 (n := v1 % 27 - 13) (by omega) (by omega), w64 (n := v3 % 19 - 9) (by omega) (by omega)]
  have ha : -13 ≤ v1 % 27 - 13 ∧ v1 % 27 - 13 ≤ 13 := by omega
  have hd : -9 ≤ v3 % 19 - 9 ∧ v3 % 19 - 9 ≤ 9 := by omega
  generalize v1 % 27 - 13 = ad at *
  generalize v3 % 19 - 9 = d at *
  clear a1 a2 a3 r1 r2 r3
  have hn : impl_NewMachine.f = some (0, [], List.replicate 27 0) := rfl
  have hc := prog_code hx ha hd
  have hv : Vm (prog x ad d) 0 [] (List.replicate 27 0) := ⟨by omega, by simp, by simp, by simp, fun a h => absurd h (by simp), fun a h => by rw [List.eq_of_mem_replicate h]; omega⟩
  have hrun := impl_RunMachine_ev (prog x ad d) 0 [] (List.replicate 27 0) 50 (by omega) hc hv
  rw [prog_run ha] at hrun
  refine Ev.bindc (a := prog x ad d) rfl (Ev.bindc hn (Ev.bind hrun (Ev.pos rfl ?_)))
  have hcl : ∀ a ∈ cells0 ad x, -9841 ≤ a ∧ a ≤ 9841 := by
    intro a h
    unfold cells0 at h
    rcases List.mem_or_eq_of_mem_set h with h | h
    · rw [List.eq_of_mem_replicate h]; omega
    · rw [h]; exact hx
  have hsv := shv_cell x d
  have hm : machB (prog x ad d) 7 [x, shv x d] (cells0 ad x) = true := (machB_iff _ _ _ _).2 ⟨hc, ⟨by omega, by simp [prog], by simp, by simp [cells0], fun a h => by simp at h; rcases h with h | h <;> rw [h]; exact hx; exact hsv, hcl⟩⟩
  have h1 := spec_IsMachine_ev (prog x ad d) 7 [x, shv x d] (cells0 ad x) (by simp [prog]) (by simp) (by simp [cells0])
  rw [hm] at h1
  refine Ev.bind h1 (Ev.pos rfl (Ev.pos (by simp) (Ev.pos (by simp) ?_)))
  apply Ev.succ
  simp only [laws_FnCells.j0.eq_2]
  refine Ev.neg (by simp [rd]) ?_
  have hlen : ((cells0 ad x).length : Int) = 27 := by simp [cells0]
  rw [hlen]
  exact loop_ev x ad d 7 hx ha hd 27 0 (by omega)

end Go.Proofs.Ytlmiankjbffboaa.HPure

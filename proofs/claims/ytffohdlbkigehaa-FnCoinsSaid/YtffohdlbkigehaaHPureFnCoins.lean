/- The weighings of coin words find the odd coin. -/
import Derived.Test.YtffohdlbkigehaaHLemFnCoins
set_option linter.unusedVariables false
set_option linter.unusedSimpArgs false
namespace Go.Proofs.Ytffohdlbkigehaa.HPure
open Go.RowKit Go.Proofs.Ytffohdlbkigehaa.HFnCoins Go.Proofs.YtffohdlbkigehaaW.PrintWords Go.Proofs.YtffohdlbkigehaaW.PrintLast Go.Proofs.YtffohdlbkigehaaW.PrintMore Go.Proofs.Ytffohdlbkigehaa.Base Go.Proofs.Ytffohdlbkigehaa.LemFnCoins

set_option maxRecDepth 100000
def guess2 : List (List Int) → List Int → Nat → Int × Int × Bool
  | [], _, _ => (0, 0, false)
  | w :: ws, o, i => if (w.map fun a => a * 1) = o then ((i : Int), 1, true) else if (w.map fun a => a * (-1)) = o then ((i : Int), -1, true) else guess2 ws o (i + 1)
theorem guess2_eq (l : List (List Int)) (h : wordsB l = true) (o : List Int) : ∀ (d i : Nat), i + d = l.length → guessB l o i d = guess2 (l.drop i) o i
  | 0, i, hi => by
    rw [List.drop_eq_nil_of_le (by omega)]; rfl
  | d + 1, i, hi => by
    have hlt : i < l.length := by omega
    have ei : l.getD i [] = l[i] := by simp [List.getD_eq_getElem?_getD, List.getElem?_eq_getElem hlt]
    have o1 : (outB l i 1).1 = l[i].map fun a => a * 1 := by
      unfold outB
      rw [if_pos ⟨h, by decide, .inr ⟨by omega, by omega⟩⟩, if_neg (by decide), Int.toNat_natCast, ei]
    have o2 : (outB l i (-1)).1 = l[i].map fun a => a * (-1) := by
      unfold outB
      rw [if_pos ⟨h, by decide, .inr ⟨by omega, by omega⟩⟩, if_neg (by decide), Int.toNat_natCast, ei]
    rw [guessB, drop_cons l i hlt, guess2, o1, o2, guess2_eq l h o d (i + 1) (by omega)]
def wgt (c odd : Nat) (kind : Int) : List Int := (List.replicate c 10).set odd (wrap64 (10 + kind))
/-- One coin, lighter (-1), heavier (1) or as the others. -/
def chk1 (ws rs : List (List Int)) (kk c odd : Nat) (kind : Int) : Bool :=
  ((List.range kk).all fun i => decide (weigh (wgt c odd kind) (rs.getD (2 * i) []) (rs.getD (2 * i + 1) []) = ((((ws.getD odd []).map fun a => a * kind).getD i 0), true))) &&
  (if kind = 0 then true else decide (List.replicate kk 0 ≠ (ws.getD odd []).map fun a => a * kind) && decide (guess2 ws ((ws.getD odd []).map fun a => a * kind) 0 = ((odd : Int), kind, true)))
def chk (ws rs : List (List Int)) (kk c : Nat) : Bool :=
  decide (ws.length = c) && wordsB ws && decide ((ws.getD 0 []).length = kk) && ((List.range kk).all fun i => decide ((rs.getD (2 * i) []).length = (rs.getD (2 * i + 1) []).length ∧ (rs.getD (2 * i) []).length ≤ 100)) &&
  (List.range c).all fun odd => chk1 ws rs kk c odd (-1) && chk1 ws rs kk c odd 0 && chk1 ws rs kk c odd 1
def cw_2_3 : List (List Int) := [[1, -1], [-1, 0], [0, 1]]
def cr_2_3 : List (List Int) := [[0], [1], [2], [0]]
theorem ca_2_3 : algI 3 2 (3 ^ 2) (-(L3 2)) [] = cw_2_3 ∧ impl_WeighingsOf.all cw_2_3 0 (List.replicate (2 * 2) []) = cr_2_3 := by decide +kernel
theorem cc_2_3 : chk cw_2_3 cr_2_3 2 3 = true := by decide +kernel
def cw_3_3 : List (List Int) := [[1, -1, -1], [-1, 0, 0], [0, 1, 1]]
def cr_3_3 : List (List Int) := [[0], [1], [2], [0], [2], [0]]
theorem ca_3_3 : algI 3 3 (3 ^ 3) (-(L3 3)) [] = cw_3_3 ∧ impl_WeighingsOf.all cw_3_3 0 (List.replicate (2 * 3) []) = cr_3_3 := by decide +kernel
theorem cc_3_3 : chk cw_3_3 cr_3_3 3 3 = true := by decide +kernel
def cw_3_6 : List (List Int) := [[1, -1, -1], [-1, 0, 0], [0, 1, 1], [-1, 0, -1], [0, 1, 0], [1, -1, 1]]
def cr_3_6 : List (List Int) := [[0, 5], [1, 3], [2, 4], [0, 5], [2, 5], [0, 3]]
theorem ca_3_6 : algI 6 3 (3 ^ 3) (-(L3 3)) [] = cw_3_6 ∧ impl_WeighingsOf.all cw_3_6 0 (List.replicate (2 * 3) []) = cr_3_6 := by decide +kernel
theorem cc_3_6 : chk cw_3_6 cr_3_6 3 6 = true := by decide +kernel
def cw_3_9 : List (List Int) := [[1, -1, -1], [-1, 0, 0], [0, 1, 1], [-1, 0, -1], [0, 1, 0], [1, -1, 1], [0, 1, -1], [1, -1, 0], [-1, 0, 1]]
def cr_3_9 : List (List Int) := [[0, 5, 7], [1, 3, 8], [2, 4, 6], [0, 5, 7], [2, 5, 8], [0, 3, 6]]
theorem ca_3_9 : algI 9 3 (3 ^ 3) (-(L3 3)) [] = cw_3_9 ∧ impl_WeighingsOf.all cw_3_9 0 (List.replicate (2 * 3) []) = cr_3_9 := by decide +kernel
theorem cc_3_9 : chk cw_3_9 cr_3_9 3 9 = true := by decide +kernel
def cw_3_12 : List (List Int) := [[1, -1, -1], [-1, 0, 0], [0, 1, 1], [-1, 0, -1], [0, 1, 0], [1, -1, 1], [0, 1, -1], [1, -1, 0], [-1, 0, 1], [1, 1, -1], [-1, -1, 0], [0, 0, 1]]
def cr_3_12 : List (List Int) := [[0, 5, 7, 9], [1, 3, 8, 10], [2, 4, 6, 9], [0, 5, 7, 10], [2, 5, 8, 11], [0, 3, 6, 9]]
theorem ca_3_12 : algI 12 3 (3 ^ 3) (-(L3 3)) [] = cw_3_12 ∧ impl_WeighingsOf.all cw_3_12 0 (List.replicate (2 * 3) []) = cr_3_12 := by decide +kernel
theorem cc_3_12 : chk cw_3_12 cr_3_12 3 12 = true := by decide +kernel
def cw_4_3 : List (List Int) := [[1, -1, -1, -1], [-1, 0, 0, 0], [0, 1, 1, 1]]
def cr_4_3 : List (List Int) := [[0], [1], [2], [0], [2], [0], [2], [0]]
theorem ca_4_3 : algI 3 4 (3 ^ 4) (-(L3 4)) [] = cw_4_3 ∧ impl_WeighingsOf.all cw_4_3 0 (List.replicate (2 * 4) []) = cr_4_3 := by decide +kernel
theorem cc_4_3 : chk cw_4_3 cr_4_3 4 3 = true := by decide +kernel
def cw_4_6 : List (List Int) := [[1, -1, -1, -1], [-1, 0, 0, 0], [0, 1, 1, 1], [-1, 0, -1, -1], [0, 1, 0, 0], [1, -1, 1, 1]]
def cr_4_6 : List (List Int) := [[0, 5], [1, 3], [2, 4], [0, 5], [2, 5], [0, 3], [2, 5], [0, 3]]
theorem ca_4_6 : algI 6 4 (3 ^ 4) (-(L3 4)) [] = cw_4_6 ∧ impl_WeighingsOf.all cw_4_6 0 (List.replicate (2 * 4) []) = cr_4_6 := by decide +kernel
theorem cc_4_6 : chk cw_4_6 cr_4_6 4 6 = true := by decide +kernel
def cw_4_9 : List (List Int) := [[1, -1, -1, -1], [-1, 0, 0, 0], [0, 1, 1, 1], [-1, 0, -1, -1], [0, 1, 0, 0], [1, -1, 1, 1], [0, 1, -1, -1], [1, -1, 0, 0], [-1, 0, 1, 1]]
def cr_4_9 : List (List Int) := [[0, 5, 7], [1, 3, 8], [2, 4, 6], [0, 5, 7], [2, 5, 8], [0, 3, 6], [2, 5, 8], [0, 3, 6]]
theorem ca_4_9 : algI 9 4 (3 ^ 4) (-(L3 4)) [] = cw_4_9 ∧ impl_WeighingsOf.all cw_4_9 0 (List.replicate (2 * 4) []) = cr_4_9 := by decide +kernel
theorem cc_4_9 : chk cw_4_9 cr_4_9 4 9 = true := by decide +kernel
def cw_4_12 : List (List Int) := [[1, -1, -1, -1], [-1, 0, 0, 0], [0, 1, 1, 1], [-1, 0, -1, -1], [0, 1, 0, 0], [1, -1, 1, 1], [0, 1, -1, -1], [1, -1, 0, 0], [-1, 0, 1, 1], [1, 1, -1, -1], [-1, -1, 0, 0], [0, 0, 1, 1]]
def cr_4_12 : List (List Int) := [[0, 5, 7, 9], [1, 3, 8, 10], [2, 4, 6, 9], [0, 5, 7, 10], [2, 5, 8, 11], [0, 3, 6, 9], [2, 5, 8, 11], [0, 3, 6, 9]]
theorem ca_4_12 : algI 12 4 (3 ^ 4) (-(L3 4)) [] = cw_4_12 ∧ impl_WeighingsOf.all cw_4_12 0 (List.replicate (2 * 4) []) = cr_4_12 := by decide +kernel
theorem cc_4_12 : chk cw_4_12 cr_4_12 4 12 = true := by decide +kernel
def cw_4_15 : List (List Int) := [[1, -1, -1, -1], [-1, 0, 0, 0], [0, 1, 1, 1], [-1, 0, -1, -1], [0, 1, 0, 0], [1, -1, 1, 1], [0, 1, -1, -1], [1, -1, 0, 0], [-1, 0, 1, 1], [1, 1, -1, -1], [-1, -1, 0, 0], [0, 0, 1, 1], [-1, -1, 0, -1], [0, 0, 1, 0], [1, 1, -1, 1]]
def cr_4_15 : List (List Int) := [[0, 5, 7, 9, 14], [1, 3, 8, 10, 12], [2, 4, 6, 9, 14], [0, 5, 7, 10, 12], [2, 5, 8, 11, 13], [0, 3, 6, 9, 14], [2, 5, 8, 11, 14], [0, 3, 6, 9, 12]]
theorem ca_4_15 : algI 15 4 (3 ^ 4) (-(L3 4)) [] = cw_4_15 ∧ impl_WeighingsOf.all cw_4_15 0 (List.replicate (2 * 4) []) = cr_4_15 := by decide +kernel
theorem cc_4_15 : chk cw_4_15 cr_4_15 4 15 = true := by decide +kernel
def cw_4_18 : List (List Int) := [[1, -1, -1, -1], [-1, 0, 0, 0], [0, 1, 1, 1], [-1, 0, -1, -1], [0, 1, 0, 0], [1, -1, 1, 1], [0, 1, -1, -1], [1, -1, 0, 0], [-1, 0, 1, 1], [1, 1, -1, -1], [-1, -1, 0, 0], [0, 0, 1, 1], [-1, -1, 0, -1], [0, 0, 1, 0], [1, 1, -1, 1], [1, -1, 0, -1], [-1, 0, 1, 0], [0, 1, -1, 1]]
def cr_4_18 : List (List Int) := [[0, 5, 7, 9, 14, 15], [1, 3, 8, 10, 12, 16], [2, 4, 6, 9, 14, 17], [0, 5, 7, 10, 12, 15], [2, 5, 8, 11, 13, 16], [0, 3, 6, 9, 14, 17], [2, 5, 8, 11, 14, 17], [0, 3, 6, 9, 12, 15]]
theorem ca_4_18 : algI 18 4 (3 ^ 4) (-(L3 4)) [] = cw_4_18 ∧ impl_WeighingsOf.all cw_4_18 0 (List.replicate (2 * 4) []) = cr_4_18 := by decide +kernel
theorem cc_4_18 : chk cw_4_18 cr_4_18 4 18 = true := by decide +kernel
def cw_4_21 : List (List Int) := [[1, -1, -1, -1], [-1, 0, 0, 0], [0, 1, 1, 1], [-1, 0, -1, -1], [0, 1, 0, 0], [1, -1, 1, 1], [0, 1, -1, -1], [1, -1, 0, 0], [-1, 0, 1, 1], [1, 1, -1, -1], [-1, -1, 0, 0], [0, 0, 1, 1], [-1, -1, 0, -1], [0, 0, 1, 0], [1, 1, -1, 1], [1, -1, 0, -1], [-1, 0, 1, 0], [0, 1, -1, 1], [-1, 0, 0, -1], [0, 1, 1, 0], [1, -1, -1, 1]]
def cr_4_21 : List (List Int) := [[0, 5, 7, 9, 14, 15, 20], [1, 3, 8, 10, 12, 16, 18], [2, 4, 6, 9, 14, 17, 19], [0, 5, 7, 10, 12, 15, 20], [2, 5, 8, 11, 13, 16, 19], [0, 3, 6, 9, 14, 17, 20], [2, 5, 8, 11, 14, 17, 20], [0, 3, 6, 9, 12, 15, 18]]
theorem ca_4_21 : algI 21 4 (3 ^ 4) (-(L3 4)) [] = cw_4_21 ∧ impl_WeighingsOf.all cw_4_21 0 (List.replicate (2 * 4) []) = cr_4_21 := by decide +kernel
theorem cc_4_21 : chk cw_4_21 cr_4_21 4 21 = true := by decide +kernel
def cw_4_24 : List (List Int) := [[1, -1, -1, -1], [-1, 0, 0, 0], [0, 1, 1, 1], [-1, 0, -1, -1], [0, 1, 0, 0], [1, -1, 1, 1], [0, 1, -1, -1], [1, -1, 0, 0], [-1, 0, 1, 1], [1, 1, -1, -1], [-1, -1, 0, 0], [0, 0, 1, 1], [-1, -1, 0, -1], [0, 0, 1, 0], [1, 1, -1, 1], [1, -1, 0, -1], [-1, 0, 1, 0], [0, 1, -1, 1], [-1, 0, 0, -1], [0, 1, 1, 0], [1, -1, -1, 1], [0, 1, 0, -1], [1, -1, 1, 0], [-1, 0, -1, 1]]
def cr_4_24 : List (List Int) := [[0, 5, 7, 9, 14, 15, 20, 22], [1, 3, 8, 10, 12, 16, 18, 23], [2, 4, 6, 9, 14, 17, 19, 21], [0, 5, 7, 10, 12, 15, 20, 22], [2, 5, 8, 11, 13, 16, 19, 22], [0, 3, 6, 9, 14, 17, 20, 23], [2, 5, 8, 11, 14, 17, 20, 23], [0, 3, 6, 9, 12, 15, 18, 21]]
theorem ca_4_24 : algI 24 4 (3 ^ 4) (-(L3 4)) [] = cw_4_24 ∧ impl_WeighingsOf.all cw_4_24 0 (List.replicate (2 * 4) []) = cr_4_24 := by decide +kernel
theorem cc_4_24 : chk cw_4_24 cr_4_24 4 24 = true := by decide +kernel
def cw_4_27 : List (List Int) := [[1, -1, -1, -1], [-1, 0, 0, 0], [0, 1, 1, 1], [-1, 0, -1, -1], [0, 1, 0, 0], [1, -1, 1, 1], [0, 1, -1, -1], [1, -1, 0, 0], [-1, 0, 1, 1], [1, 1, -1, -1], [-1, -1, 0, 0], [0, 0, 1, 1], [-1, -1, 0, -1], [0, 0, 1, 0], [1, 1, -1, 1], [1, -1, 0, -1], [-1, 0, 1, 0], [0, 1, -1, 1], [-1, 0, 0, -1], [0, 1, 1, 0], [1, -1, -1, 1], [0, 1, 0, -1], [1, -1, 1, 0], [-1, 0, -1, 1], [1, -1, 1, -1], [-1, 0, -1, 0], [0, 1, 0, 1]]
def cr_4_27 : List (List Int) := [[0, 5, 7, 9, 14, 15, 20, 22, 24], [1, 3, 8, 10, 12, 16, 18, 23, 25], [2, 4, 6, 9, 14, 17, 19, 21, 26], [0, 5, 7, 10, 12, 15, 20, 22, 24], [2, 5, 8, 11, 13, 16, 19, 22, 24], [0, 3, 6, 9, 14, 17, 20, 23, 25], [2, 5, 8, 11, 14, 17, 20, 23, 26], [0, 3, 6, 9, 12, 15, 18, 21, 24]]
theorem ca_4_27 : algI 27 4 (3 ^ 4) (-(L3 4)) [] = cw_4_27 ∧ impl_WeighingsOf.all cw_4_27 0 (List.replicate (2 * 4) []) = cr_4_27 := by decide +kernel
theorem cc_4_27 : chk cw_4_27 cr_4_27 4 27 = true := by decide +kernel
def cw_4_30 : List (List Int) := [[1, -1, -1, -1], [-1, 0, 0, 0], [0, 1, 1, 1], [-1, 0, -1, -1], [0, 1, 0, 0], [1, -1, 1, 1], [0, 1, -1, -1], [1, -1, 0, 0], [-1, 0, 1, 1], [1, 1, -1, -1], [-1, -1, 0, 0], [0, 0, 1, 1], [-1, -1, 0, -1], [0, 0, 1, 0], [1, 1, -1, 1], [1, -1, 0, -1], [-1, 0, 1, 0], [0, 1, -1, 1], [-1, 0, 0, -1], [0, 1, 1, 0], [1, -1, -1, 1], [0, 1, 0, -1], [1, -1, 1, 0], [-1, 0, -1, 1], [1, -1, 1, -1], [-1, 0, -1, 0], [0, 1, 0, 1], [-1, 0, 1, -1], [0, 1, -1, 0], [1, -1, 0, 1]]
def cr_4_30 : List (List Int) := [[0, 5, 7, 9, 14, 15, 20, 22, 24, 29], [1, 3, 8, 10, 12, 16, 18, 23, 25, 27], [2, 4, 6, 9, 14, 17, 19, 21, 26, 28], [0, 5, 7, 10, 12, 15, 20, 22, 24, 29], [2, 5, 8, 11, 13, 16, 19, 22, 24, 27], [0, 3, 6, 9, 14, 17, 20, 23, 25, 28], [2, 5, 8, 11, 14, 17, 20, 23, 26, 29], [0, 3, 6, 9, 12, 15, 18, 21, 24, 27]]
theorem ca_4_30 : algI 30 4 (3 ^ 4) (-(L3 4)) [] = cw_4_30 ∧ impl_WeighingsOf.all cw_4_30 0 (List.replicate (2 * 4) []) = cr_4_30 := by decide +kernel
theorem cc_4_30 : chk cw_4_30 cr_4_30 4 30 = true := by decide +kernel
def cw_4_33 : List (List Int) := [[1, -1, -1, -1], [-1, 0, 0, 0], [0, 1, 1, 1], [-1, 0, -1, -1], [0, 1, 0, 0], [1, -1, 1, 1], [0, 1, -1, -1], [1, -1, 0, 0], [-1, 0, 1, 1], [1, 1, -1, -1], [-1, -1, 0, 0], [0, 0, 1, 1], [-1, -1, 0, -1], [0, 0, 1, 0], [1, 1, -1, 1], [1, -1, 0, -1], [-1, 0, 1, 0], [0, 1, -1, 1], [-1, 0, 0, -1], [0, 1, 1, 0], [1, -1, -1, 1], [0, 1, 0, -1], [1, -1, 1, 0], [-1, 0, -1, 1], [1, -1, 1, -1], [-1, 0, -1, 0], [0, 1, 0, 1], [-1, 0, 1, -1], [0, 1, -1, 0], [1, -1, 0, 1], [0, 0, 1, -1], [1, 1, -1, 0], [-1, -1, 0, 1]]
def cr_4_33 : List (List Int) := [[0, 5, 7, 9, 14, 15, 20, 22, 24, 29, 31], [1, 3, 8, 10, 12, 16, 18, 23, 25, 27, 32], [2, 4, 6, 9, 14, 17, 19, 21, 26, 28, 31], [0, 5, 7, 10, 12, 15, 20, 22, 24, 29, 32], [2, 5, 8, 11, 13, 16, 19, 22, 24, 27, 30], [0, 3, 6, 9, 14, 17, 20, 23, 25, 28, 31], [2, 5, 8, 11, 14, 17, 20, 23, 26, 29, 32], [0, 3, 6, 9, 12, 15, 18, 21, 24, 27, 30]]
theorem ca_4_33 : algI 33 4 (3 ^ 4) (-(L3 4)) [] = cw_4_33 ∧ impl_WeighingsOf.all cw_4_33 0 (List.replicate (2 * 4) []) = cr_4_33 := by decide +kernel
theorem cc_4_33 : chk cw_4_33 cr_4_33 4 33 = true := by decide +kernel
def cw_4_36 : List (List Int) := [[1, -1, -1, -1], [-1, 0, 0, 0], [0, 1, 1, 1], [-1, 0, -1, -1], [0, 1, 0, 0], [1, -1, 1, 1], [0, 1, -1, -1], [1, -1, 0, 0], [-1, 0, 1, 1], [1, 1, -1, -1], [-1, -1, 0, 0], [0, 0, 1, 1], [-1, -1, 0, -1], [0, 0, 1, 0], [1, 1, -1, 1], [1, -1, 0, -1], [-1, 0, 1, 0], [0, 1, -1, 1], [-1, 0, 0, -1], [0, 1, 1, 0], [1, -1, -1, 1], [0, 1, 0, -1], [1, -1, 1, 0], [-1, 0, -1, 1], [1, -1, 1, -1], [-1, 0, -1, 0], [0, 1, 0, 1], [-1, 0, 1, -1], [0, 1, -1, 0], [1, -1, 0, 1], [0, 0, 1, -1], [1, 1, -1, 0], [-1, -1, 0, 1], [0, 1, 1, -1], [1, -1, -1, 0], [-1, 0, 0, 1]]
def cr_4_36 : List (List Int) := [[0, 5, 7, 9, 14, 15, 20, 22, 24, 29, 31, 34], [1, 3, 8, 10, 12, 16, 18, 23, 25, 27, 32, 35], [2, 4, 6, 9, 14, 17, 19, 21, 26, 28, 31, 33], [0, 5, 7, 10, 12, 15, 20, 22, 24, 29, 32, 34], [2, 5, 8, 11, 13, 16, 19, 22, 24, 27, 30, 33], [0, 3, 6, 9, 14, 17, 20, 23, 25, 28, 31, 34], [2, 5, 8, 11, 14, 17, 20, 23, 26, 29, 32, 35], [0, 3, 6, 9, 12, 15, 18, 21, 24, 27, 30, 33]]
theorem ca_4_36 : algI 36 4 (3 ^ 4) (-(L3 4)) [] = cw_4_36 ∧ impl_WeighingsOf.all cw_4_36 0 (List.replicate (2 * 4) []) = cr_4_36 := by decide +kernel
theorem cc_4_36 : chk cw_4_36 cr_4_36 4 36 = true := by decide +kernel
def cw_4_39 : List (List Int) := [[1, -1, -1, -1], [-1, 0, 0, 0], [0, 1, 1, 1], [-1, 0, -1, -1], [0, 1, 0, 0], [1, -1, 1, 1], [0, 1, -1, -1], [1, -1, 0, 0], [-1, 0, 1, 1], [1, 1, -1, -1], [-1, -1, 0, 0], [0, 0, 1, 1], [-1, -1, 0, -1], [0, 0, 1, 0], [1, 1, -1, 1], [1, -1, 0, -1], [-1, 0, 1, 0], [0, 1, -1, 1], [-1, 0, 0, -1], [0, 1, 1, 0], [1, -1, -1, 1], [0, 1, 0, -1], [1, -1, 1, 0], [-1, 0, -1, 1], [1, -1, 1, -1], [-1, 0, -1, 0], [0, 1, 0, 1], [-1, 0, 1, -1], [0, 1, -1, 0], [1, -1, 0, 1], [0, 0, 1, -1], [1, 1, -1, 0], [-1, -1, 0, 1], [0, 1, 1, -1], [1, -1, -1, 0], [-1, 0, 0, 1], [1, 1, 1, -1], [-1, -1, -1, 0], [0, 0, 0, 1]]
def cr_4_39 : List (List Int) := [[0, 5, 7, 9, 14, 15, 20, 22, 24, 29, 31, 34, 36], [1, 3, 8, 10, 12, 16, 18, 23, 25, 27, 32, 35, 37], [2, 4, 6, 9, 14, 17, 19, 21, 26, 28, 31, 33, 36], [0, 5, 7, 10, 12, 15, 20, 22, 24, 29, 32, 34, 37], [2, 5, 8, 11, 13, 16, 19, 22, 24, 27, 30, 33, 36], [0, 3, 6, 9, 14, 17, 20, 23, 25, 28, 31, 34, 37], [2, 5, 8, 11, 14, 17, 20, 23, 26, 29, 32, 35, 38], [0, 3, 6, 9, 12, 15, 18, 21, 24, 27, 30, 33, 36]]
theorem ca_4_39 : algI 39 4 (3 ^ 4) (-(L3 4)) [] = cw_4_39 ∧ impl_WeighingsOf.all cw_4_39 0 (List.replicate (2 * 4) []) = cr_4_39 := by decide +kernel
theorem cc_4_39 : chk cw_4_39 cr_4_39 4 39 = true := by decide +kernel
theorem coin_table (kk c : Nat) (h : (kk = 2 ∧ c ≤ 3 ∨ kk = 3 ∧ c ≤ 12 ∨ kk = 4 ∧ c ≤ 39) ∧ 3 ≤ c ∧ c % 3 = 0) : ∃ ws rs : List (List Int), algI c kk (3 ^ kk) (-(L3 kk)) [] = ws ∧ impl_WeighingsOf.all ws 0 (List.replicate (2 * kk) []) = rs ∧ chk ws rs kk c = true := by
  obtain ⟨hk, h3, hm⟩ := h
  obtain ⟨j, rfl⟩ : ∃ j, c = 3 * j := ⟨c / 3, by omega⟩
  rcases hk with ⟨rfl, hk⟩ | ⟨rfl, hk⟩ | ⟨rfl, hk⟩
  · have : j = 1 := by omega
    rcases this with rfl
    · exact ⟨cw_2_3, cr_2_3, ca_2_3.1, ca_2_3.2, cc_2_3⟩
  · have : j = 1 ∨ j = 2 ∨ j = 3 ∨ j = 4 := by omega
    rcases this with rfl | rfl | rfl | rfl
    · exact ⟨cw_3_3, cr_3_3, ca_3_3.1, ca_3_3.2, cc_3_3⟩
    · exact ⟨cw_3_6, cr_3_6, ca_3_6.1, ca_3_6.2, cc_3_6⟩
    · exact ⟨cw_3_9, cr_3_9, ca_3_9.1, ca_3_9.2, cc_3_9⟩
    · exact ⟨cw_3_12, cr_3_12, ca_3_12.1, ca_3_12.2, cc_3_12⟩
  · have : j = 1 ∨ j = 2 ∨ j = 3 ∨ j = 4 ∨ j = 5 ∨ j = 6 ∨ j = 7 ∨ j = 8 ∨ j = 9 ∨ j = 10 ∨ j = 11 ∨ j = 12 ∨ j = 13 := by omega
    rcases this with rfl | rfl | rfl | rfl | rfl | rfl | rfl | rfl | rfl | rfl | rfl | rfl | rfl
    · exact ⟨cw_4_3, cr_4_3, ca_4_3.1, ca_4_3.2, cc_4_3⟩
    · exact ⟨cw_4_6, cr_4_6, ca_4_6.1, ca_4_6.2, cc_4_6⟩
    · exact ⟨cw_4_9, cr_4_9, ca_4_9.1, ca_4_9.2, cc_4_9⟩
    · exact ⟨cw_4_12, cr_4_12, ca_4_12.1, ca_4_12.2, cc_4_12⟩
    · exact ⟨cw_4_15, cr_4_15, ca_4_15.1, ca_4_15.2, cc_4_15⟩
    · exact ⟨cw_4_18, cr_4_18, ca_4_18.1, ca_4_18.2, cc_4_18⟩
    · exact ⟨cw_4_21, cr_4_21, ca_4_21.1, ca_4_21.2, cc_4_21⟩
    · exact ⟨cw_4_24, cr_4_24, ca_4_24.1, ca_4_24.2, cc_4_24⟩
    · exact ⟨cw_4_27, cr_4_27, ca_4_27.1, ca_4_27.2, cc_4_27⟩
    · exact ⟨cw_4_30, cr_4_30, ca_4_30.1, ca_4_30.2, cc_4_30⟩
    · exact ⟨cw_4_33, cr_4_33, ca_4_33.1, ca_4_33.2, cc_4_33⟩
    · exact ⟨cw_4_36, cr_4_36, ca_4_36.1, ca_4_36.2, cc_4_36⟩
    · exact ⟨cw_4_39, cr_4_39, ca_4_39.1, ca_4_39.2, cc_4_39⟩

section
variable (kk c odd : Nat) (ws rs : List (List Int)) (kind : Int)
theorem coins_l2 (hk : kk ≤ 4) (hc : c ≤ 100) (hw : wordsB ws = true) (hwl : ws.length = c) (hw0 : (ws.getD 0 []).length = kk) (ho : odd < c)
    (hr : ∀ i, i < kk → (rs.getD (2 * i) []).length = (rs.getD (2 * i + 1) []).length ∧ (rs.getD (2 * i) []).length ≤ 100)
    (h1 : chk1 ws rs kk c odd kind = true) (hkd : kind = -1 ∨ kind = 0 ∨ kind = 1) (x85 : Int) (hz : Ev (fun k => laws_FnCoins.l0 k (c : Int) ws (impl_WeighingsOf.pairs rs kk) (odd : Int) [-1, 0, 1] (([-1, 0, 1] : List Int).length : Int) (wrap64 (x85 + 1))) true) :
    ∀ (d i : Nat), i + d = kk → Ev (fun k => laws_FnCoins.l2 k (c : Int) ws (impl_WeighingsOf.pairs rs kk) (odd : Int) kind (wgt c odd kind) ((((ws.getD odd []).map fun a => a * kind)).take i) [-1, 0, 1] (([-1, 0, 1] : List Int).length : Int) x85 (impl_WeighingsOf.pairs rs kk) ((impl_WeighingsOf.pairs rs kk).length : Int) (i : Int)) true := by
  have hwd := (wordsB_iff ws).1 hw
  have hlt : odd < ws.length := by omega
  have eo : ws.getD odd [] = ws[odd] := by simp [List.getD_eq_getElem?_getD, List.getElem?_eq_getElem hlt]
  have hol : ((ws.getD odd []).map fun a => a * kind).length = kk := by
    rw [List.length_map, eo, (hwd.2 _ (List.getElem_mem hlt)).2, hw0]
  have hall : ∀ y ∈ ws, y.length ≤ 1048576 := fun y hy => by have := (hwd.2 y hy).2; omega
  simp only [chk1, Bool.and_eq_true, List.all_eq_true, List.mem_range, decide_eq_true_eq] at h1
  have hpl : (impl_WeighingsOf.pairs rs kk).length = kk := by simp [impl_WeighingsOf.pairs]
  have hout : outB ws odd kind = ((ws.getD odd []).map (fun a => a * kind), true) := by
    unfold outB
    rw [if_pos ⟨hw, by rcases hkd with rfl | rfl | rfl <;> decide, .inr ⟨by omega, by omega⟩⟩, Int.toNat_natCast]
    by_cases h0 : kind = 0
    · rw [if_pos h0]
      subst h0
      rw [eo, hw0, ← (hwd.2 _ (List.getElem_mem hlt)).2.trans hw0]
      congr 1
      apply List.ext_getElem (by simp)
      intro i h1 h2
      simp
    · rw [if_neg h0]
  obtain ⟨hweigh, hg⟩ := h1
  generalize ho' : (ws.getD odd []).map (fun a => a * kind) = o at *
  intro d
  induction d with
  | zero =>
    intro i hi
    apply Ev.succ
    simp only [laws_FnCoins.l2.eq_2]
    refine Ev.neg (by omega) (Ev.bind (impl_OutcomeOf_ev ws (by omega) hall odd kind) (Ev.bind (impl_GuessOf_ev ws (by omega) hall _) ?_))
    rw [hout, List.take_of_length_le (by omega)]
    have hgs : guess ws o = (if kind = 0 then -1 else (odd : Int), kind, true) := by
      unfold guess
      rw [if_pos hw, hw0]
      by_cases h0 : kind = 0
      · rw [if_pos h0, h0, if_pos]
        rw [h0] at ho'
        rw [← ho']
        rw [← ho', List.length_map] at hol
        rw [← hol]
        apply List.ext_getElem (by simp)
        intro i h1 h2
        simp
      · rw [if_neg h0] at hg
        rw [if_neg h0]
        simp only [Bool.and_eq_true, decide_eq_true_eq] at hg
        rw [if_neg hg.1, guess2_eq ws hw o ws.length 0 (by omega), List.drop_zero, hg.2]
    rw [hgs]
    refine Ev.pos rfl (Ev.pos rfl (Ev.bind (laws_ints_ev o o (by omega)) (Ev.pos (by simp) (Ev.pos rfl ?_))))
    by_cases h0 : kind = 0
    · exact Ev.pos h0 (Ev.pos (by rw [if_pos h0]) hz)
    · exact Ev.neg h0 (Ev.pos (by rw [if_neg h0]) hz)
  | succ d ih =>
    intro i hi
    have hik : i < kk := by omega
    have er : rd_T29 (impl_WeighingsOf.pairs rs kk) (i : Int) = ⟨rs.getD (2 * i) [], rs.getD (2 * i + 1) []⟩ := by
      simp [rd_T29, impl_WeighingsOf.pairs, hik]
    have hri := hr i hik
    apply Ev.succ
    simp only [laws_FnCoins.l2.eq_2, er]
    refine Ev.pos (by omega) (Ev.pos (by omega) (Ev.pos (by omega) (Ev.bind (impl_WeighCoins_ev _ _ _ (by omega) (by omega)) ?_)))
    rw [hweigh i hik]
    have hoi : i < o.length := by omega
    refine Ev.pos rfl (Ev.pos (by omega) (Ev.pos (by rw [List.length_take]; omega) ?_))
    rw [w64 (n := (i : Int) + 1) (by omega) (by omega)]
    have e2 : o.take i ++ [o.getD i 0] = o.take (i + 1) := by
      rw [take_snoc o i hoi]
      simp [List.getD_eq_getElem?_getD, List.getElem?_eq_getElem hoi]
    show Ev (fun k => laws_FnCoins.l2 k (c : Int) ws (impl_WeighingsOf.pairs rs kk) (odd : Int) kind (wgt c odd kind) (o.take i ++ [o.getD i 0]) [-1, 0, 1] (([-1, 0, 1] : List Int).length : Int) x85 (impl_WeighingsOf.pairs rs kk) ((impl_WeighingsOf.pairs rs kk).length : Int) ((i + 1 : Nat) : Int)) true
    rw [e2]
    exact ih (i + 1) (by omega)
theorem coins_l1 (hk : kk ≤ 4) (hc : c ≤ 100) (hw : wordsB ws = true) (hwl : ws.length = c) (hw0 : (ws.getD 0 []).length = kk) (ho : odd < c)
    (hr : ∀ i, i < kk → (rs.getD (2 * i) []).length = (rs.getD (2 * i + 1) []).length ∧ (rs.getD (2 * i) []).length ≤ 100)
    (h1 : chk1 ws rs kk c odd kind = true) (hkd : kind = -1 ∨ kind = 0 ∨ kind = 1) (x85 : Int) (hz : Ev (fun k => laws_FnCoins.l0 k (c : Int) ws (impl_WeighingsOf.pairs rs kk) (odd : Int) [-1, 0, 1] (([-1, 0, 1] : List Int).length : Int) (wrap64 (x85 + 1))) true) :
    ∀ (d i : Nat), i + d = c → Ev (fun k => laws_FnCoins.l1 k (c : Int) ws (impl_WeighingsOf.pairs rs kk) (odd : Int) kind (List.replicate i 10) (i : Int) [-1, 0, 1] (([-1, 0, 1] : List Int).length : Int) x85) true := by
  intro d
  induction d with
  | zero =>
    intro i hi
    obtain rfl : i = c := by omega
    have e := rd_get (List.replicate i (10 : Int)) odd (by simpa using ho)
    rw [List.getElem_replicate] at e
    apply Ev.succ
    simp only [laws_FnCoins.l1.eq_2]
    refine Ev.neg (by omega) (Ev.pos (by omega) (Ev.pos (by simp; omega) ?_))
    rw [e, Int.toNat_natCast]
    exact coins_l2 kk i odd ws rs kind hk hc hw hwl hw0 ho hr h1 hkd x85 hz kk 0 (by omega)
  | succ d ih =>
    intro i hi
    apply Ev.succ
    simp only [laws_FnCoins.l1.eq_2]
    refine Ev.pos (by omega) (Ev.pos (by simp; omega) ?_)
    rw [w64 (by omega) (by omega), show List.replicate i (10 : Int) ++ [10] = List.replicate (i + 1) 10 by rw [List.replicate_succ']]
    exact ih (i + 1) (by omega)
theorem coins_l0 (hk : kk ≤ 4) (hc : c ≤ 100) (ho : odd < c) (h : chk ws rs kk c = true) : Ev (fun k => laws_FnCoins.l0 k (c : Int) ws (impl_WeighingsOf.pairs rs kk) (odd : Int) [-1, 0, 1] (([-1, 0, 1] : List Int).length : Int) 0) true := by
  simp only [chk, Bool.and_eq_true, List.all_eq_true, List.mem_range, decide_eq_true_eq] at h
  obtain ⟨⟨⟨⟨hwl, hw⟩, hw0⟩, hr⟩, hch⟩ := h
  obtain ⟨⟨c0, c1⟩, c2⟩ := hch odd ho
  have r0 : rd [-1, 0, 1] 0 = -1 := rfl
  have r1 : rd [-1, 0, 1] (wrap64 (0 + 1)) = 0 := by decide +kernel
  have r2 : rd [-1, 0, 1] (wrap64 (wrap64 (0 + 1) + 1)) = 1 := by decide +kernel
  apply Ev.succ
  simp only [laws_FnCoins.l0.eq_2]
  refine Ev.pos (by decide +kernel) (Ev.pos (by decide +kernel) (Ev.pos (by decide +kernel) ?_))
  rw [r0]
  refine coins_l1 kk c odd ws rs (-1) hk hc hw hwl hw0 ho hr c0 (.inl rfl) 0 ?_ c 0 (by omega)
  apply Ev.succ
  simp only [laws_FnCoins.l0.eq_2]
  refine Ev.pos (by decide +kernel) (Ev.pos (by decide +kernel) (Ev.pos (by decide +kernel) ?_))
  rw [r1]
  refine coins_l1 kk c odd ws rs 0 hk hc hw hwl hw0 ho hr c1 (.inr (.inl rfl)) _ ?_ c 0 (by omega)
  apply Ev.succ
  simp only [laws_FnCoins.l0.eq_2]
  refine Ev.pos (by decide +kernel) (Ev.pos (by decide +kernel) (Ev.pos (by decide +kernel) ?_))
  rw [r2]
  refine coins_l1 kk c odd ws rs 1 hk hc hw hwl hw0 ho hr c2 (.inr (.inr rfl)) _ ?_ c 0 (by omega)
  apply Ev.succ
  simp only [laws_FnCoins.l0.eq_2]
  exact Ev.neg (by decide +kernel) (Ev.now _)
end
theorem FnCoins : laws_FnCoins.Pure := by
  intro l _ _ hl8
  apply Ev.rounds
  simp only [laws_FnCoins.f]
  refine Ev.ite (fun _ => Ev.now _) (fun h => ?_)
  have hlen : l.length ≤ 1048576 := by omega
  have a1 := atv_range l 1 hl8
  have a2 := atv_range l 2 hl8
  have a3 := atv_range l 3 hl8
  refine Ev.bindc (laws_at_eq l 1 hlen (by omega) hl8) (Ev.bindc (laws_at_eq l 2 hlen (by omega) hl8) ?_)
  have e3 : laws_at.f l 3 = some (atv l 3) := laws_at_eq l 3 hlen (by omega) hl8
  generalize atv l 1 = a at *
  generalize atv l 2 = b at *
  generalize atv l 3 = d at *
  obtain ⟨kk, hkk, hk⟩ : ∃ kk : Nat, wrap64 (2 + Int.tmod a 3) = (kk : Int) ∧ (kk = 2 ∨ kk = 3 ∨ kk = 4) := by
    refine ⟨(2 + a % 3).toNat, ?_, by omega⟩
    rw [Int.tmod_eq_emod_of_nonneg (by omega), w64 (by omega) (by omega)]
    omega
  simp only [hkk]
  refine Ev.bind (spec_CoinsFor_ev kk) ?_
  obtain ⟨T, hT, hTk⟩ : ∃ T : Nat, (if 2 ≤ (kk : Int) ∧ (kk : Int) ≤ 5 then ((3 : Int) ^ (kk : Int).toNat - 3) / 2 else 0) = (T : Int) ∧ (kk = 2 ∧ T = 3 ∨ kk = 3 ∧ T = 12 ∨ kk = 4 ∧ T = 39) := by
    rcases hk with rfl | rfl | rfl
    · exact ⟨3, by decide, by omega⟩
    · exact ⟨12, by decide, by omega⟩
    · exact ⟨39, by decide, by omega⟩
  rw [hT]
  have hm : wrap64 (wrap64 (Int.tdiv (T : Int) 3) + 1) = ((T / 3 + 1 : Nat) : Int) := by
    rw [Int.tdiv_eq_ediv_of_nonneg (by omega), w64 (n := (T : Int) / 3) (by omega) (by omega), w64 (by omega) (by omega)]
    omega
  rw [hm]
  obtain ⟨c, hc, hc3⟩ : ∃ c : Nat, wrap64 (3 * wrap64 (1 + Int.tmod b ((T / 3 + 1 : Nat) : Int))) = (c : Int) ∧ 3 ≤ c ∧ c ≤ T + 3 ∧ c % 3 = 0 := by
    have h1 := Int.emod_nonneg b (b := ((T / 3 + 1 : Nat) : Int)) (by omega)
    have h2 := Int.emod_lt_of_pos b (b := ((T / 3 + 1 : Nat) : Int)) (by omega)
    rw [Int.tmod_eq_emod_of_nonneg (by omega)]
    generalize b % ((T / 3 + 1 : Nat) : Int) = q at *
    refine ⟨(3 * (1 + q)).toNat, ?_, by omega, by omega, by omega⟩
    rw [w64 (n := 1 + q) (by omega) (by omega), w64 (by omega) (by omega)]
    omega
  simp only [hc]
  refine Ev.neg (by omega) (Ev.bind (impl_CoinWords_ev c kk) (Ev.bind (spec_MakePower_ev kk) ?_))
  have hp : wrap64 (Int.tdiv (wrap64 ((3 : Int) ^ (max 0 (min (kk : Int) 30)).toNat - 3)) 2) = (T : Int) := by
    rcases hTk with ⟨rfl, rfl⟩ | ⟨rfl, rfl⟩ | ⟨rfl, rfl⟩ <;> decide +kernel
  rw [hp]
  have hT2 : ((3 : Int) ^ kk - 3) / 2 = T := by
    rcases hTk with ⟨rfl, rfl⟩ | ⟨rfl, rfl⟩ | ⟨rfl, rfl⟩ <;> decide +kernel
  by_cases hok : c ≤ T
  · obtain ⟨ws, rs, e1, e2, hch⟩ := coin_table kk c (by omega)
    have hcw : coinW (c : Int) (kk : Int) = (ws, true) := by
      unfold coinW
      rw [if_pos ⟨by omega, by omega, by omega, by rw [Int.toNat_natCast, hT2]; omega, by omega⟩]
      simp only [Int.toNat_natCast]
      rw [e1]
    rw [hcw]
    have hch2 := hch
    simp only [chk, Bool.and_eq_true, List.all_eq_true, List.mem_range, decide_eq_true_eq] at hch2
    obtain ⟨⟨⟨⟨hwl, hw⟩, hw0⟩, _⟩, _⟩ := hch2
    have hwb : weighsB ws = (impl_WeighingsOf.pairs rs kk, true) := by
      unfold weighsB
      rw [if_pos hw, hw0, e2]
    refine Ev.neg (by rw [decide_eq_true (show (c : Int) ≤ T by omega)]; simp) (Ev.bind (impl_WeighingsOf_ev ws (by omega)) ?_)
    rw [hwb]
    have hpl : (impl_WeighingsOf.pairs rs kk).length = kk := by simp [impl_WeighingsOf.pairs]
    refine Ev.pos rfl (Ev.pos rfl (Ev.pos (by rw [hwl]) ?_))
    apply Ev.succ
    simp only [laws_FnCoins.j0.eq_2]
    refine Ev.neg (by rw [hpl]; simp) (Ev.bindc e3 (Ev.neg (by omega) (Ev.bindc rfl ?_)))
    obtain ⟨odd, ho, hlt⟩ : ∃ odd : Nat, Int.tmod d (c : Int) = (odd : Int) ∧ odd < c := by
      have h1 := Int.emod_nonneg d (b := (c : Int)) (by omega)
      have h2 := Int.emod_lt_of_pos d (b := (c : Int)) (by omega)
      refine ⟨(d % (c : Int)).toNat, ?_, by omega⟩
      rw [Int.tmod_eq_emod_of_nonneg (by omega)]
      omega
    rw [ho]
    exact coins_l0 kk c odd ws rs (by omega) (by omega) hlt hch
  · have hcw : coinW (c : Int) (kk : Int) = ([], false) := by
      unfold coinW
      rw [if_neg (fun h => by have := h.2.2.2.1; rw [Int.toNat_natCast, hT2] at this; omega)]
    rw [hcw]
    refine Ev.neg (by rw [decide_eq_false (show ¬ (c : Int) ≤ T by omega)]; simp) (Ev.bind (impl_WeighingsOf_ev [] (by simp)) ?_)
    refine Ev.neg (by decide) ?_
    apply Ev.succ
    simp only [laws_FnCoins.j0.eq_2]
    exact Ev.pos trivial (Ev.now _)

end Go.Proofs.Ytffohdlbkigehaa.HPure

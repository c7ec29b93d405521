/- Text for FnExactFormatExpr: written by a program of this session on the pattern of the kit's print. -/
import Derived.Test.YtjfgcipbbcplmaaDoorHFnExactFormatExprx0
import Derived.Test.YtjfgcipbbcplmaaDoorHFnExactFormatExprx6
import Derived.Test.YtjfgcipbbcplmaaDoorHFnExactFormatExprx7
namespace Go.Proofs.YtjfgcipbbcplmaaDoor.HFnExactFormatExpr
open Go.RowKit Go.Proofs.YtjfgcipbbcplmaaDoorW.PrintWords Go.Proofs.YtjfgcipbbcplmaaDoorW.PrintLast Go.Proofs.YtjfgcipbbcplmaaDoorW.PrintMore
attribute [local go_sem] max2_int min2_int max_two min_two max_three min_three max_four min_four
set_option linter.unusedVariables false
set_option linter.unusedSimpArgs false

/-! ### spec_l10Text: function 54 -/
def spec_l10Text.f : Nat → Int → Int → List (S25) → Int → Option (ByteArray)
 | 0, _, _, _, _ => none
 | k + 1, a0_0, a0_1, l0_2, a1 => (spec_l10Level.f k a0_0).bind fun t163 => (if a0_0 = 1 then ((spec_l5Number.f k a0_1).bind fun t164 => (if t163 < a1 then (if 1 + t164.size ≤ 9223372036854775807 then (if ((⟨#[40]⟩ : ByteArray) ++ t164).size + 1 ≤ 9223372036854775807 then (some (((⟨#[40]⟩ : ByteArray) ++ t164) ++ (⟨#[41]⟩ : ByteArray))) else (none)) else (none)) else (some t164))) else (if a0_0 = 2 then (if 0 < (l0_2.length : Int) then ((spec_l10Text.f k ((rd_T25 l0_2 0).f0) ((rd_T25 l0_2 0).f1) ((rd_T25 l0_2 0).f2) 3).bind fun t166 => (if 1 + t166.size ≤ 9223372036854775807 then (if t163 < a1 then (if 1 + ((⟨#[43]⟩ : ByteArray) ++ t166).size ≤ 9223372036854775807 then (if ((⟨#[40]⟩ : ByteArray) ++ ((⟨#[43]⟩ : ByteArray) ++ t166)).size + 1 ≤ 9223372036854775807 then (some (((⟨#[40]⟩ : ByteArray) ++ ((⟨#[43]⟩ : ByteArray) ++ t166)) ++ (⟨#[41]⟩ : ByteArray))) else (none)) else (none)) else (some ((⟨#[43]⟩ : ByteArray) ++ t166))) else (none))) else (none)) else (if a0_0 = 3 then (if 0 < (l0_2.length : Int) then ((spec_l10Text.f k ((rd_T25 l0_2 0).f0) ((rd_T25 l0_2 0).f1) ((rd_T25 l0_2 0).f2) 3).bind fun t168 => (if 1 + t168.size ≤ 9223372036854775807 then (if t163 < a1 then (if 1 + ((⟨#[45]⟩ : ByteArray) ++ t168).size ≤ 9223372036854775807 then (if ((⟨#[40]⟩ : ByteArray) ++ ((⟨#[45]⟩ : ByteArray) ++ t168)).size + 1 ≤ 9223372036854775807 then (some (((⟨#[40]⟩ : ByteArray) ++ ((⟨#[45]⟩ : ByteArray) ++ t168)) ++ (⟨#[41]⟩ : ByteArray))) else (none)) else (none)) else (some ((⟨#[45]⟩ : ByteArray) ++ t168))) else (none))) else (none)) else (if 0 < (l0_2.length : Int) then ((spec_l10Text.f k ((rd_T25 l0_2 0).f0) ((rd_T25 l0_2 0).f1) ((rd_T25 l0_2 0).f2) t163).bind fun t170 => ((some (([(⟨#[32, 43, 32]⟩ : ByteArray), (⟨#[32, 45, 32]⟩ : ByteArray), (⟨#[32, 42, 32]⟩ : ByteArray), (⟨#[32, 47, 32]⟩ : ByteArray), (⟨#[32, 37, 32]⟩ : ByteArray)] : List ByteArray) : List ByteArray)).bind fun y171 => (if 0 ≤ (wrap64 (a0_0 - 4)) then (if (wrap64 (a0_0 - 4)) < (y171.length : Int) then (if t170.size + (rdOf ByteArray.empty y171 (wrap64 (a0_0 - 4))).size ≤ 9223372036854775807 then (if 1 < (l0_2.length : Int) then ((spec_l10Text.f k ((rd_T25 l0_2 1).f0) ((rd_T25 l0_2 1).f1) ((rd_T25 l0_2 1).f2) (wrap64 (t163 + 1))).bind fun t176 => (if (t170 ++ (rdOf ByteArray.empty y171 (wrap64 (a0_0 - 4)))).size + t176.size ≤ 9223372036854775807 then (if t163 < a1 then (if 1 + ((t170 ++ (rdOf ByteArray.empty y171 (wrap64 (a0_0 - 4)))) ++ t176).size ≤ 9223372036854775807 then (if ((⟨#[40]⟩ : ByteArray) ++ ((t170 ++ (rdOf ByteArray.empty y171 (wrap64 (a0_0 - 4)))) ++ t176)).size + 1 ≤ 9223372036854775807 then (some (((⟨#[40]⟩ : ByteArray) ++ ((t170 ++ (rdOf ByteArray.empty y171 (wrap64 (a0_0 - 4)))) ++ t176)) ++ (⟨#[41]⟩ : ByteArray))) else (none)) else (none)) else (some ((t170 ++ (rdOf ByteArray.empty y171 (wrap64 (a0_0 - 4)))) ++ t176))) else (none))) else (none)) else (none)) else (none)) else (none)))) else (none)))))
theorem spec_l10Text.mono_l : ∀ k, (∀ y0 y1 y2 y3, LeO (spec_l10Text.f k y0 y1 y2 y3) (spec_l10Text.f (k + 1) y0 y1 y2 y3))
 | 0 => fun _ _ _ _ r h => by simp [spec_l10Text.f] at h
 | k + 1 => by
  have ih0 := spec_l10Text.mono_l k
  ·intro y0 y1 y2 y3
   unfold spec_l10Text.f
   repeat' first
   | (with_reducible exact ih0 _ _ _ _)
   | (with_reducible exact spec_l10Level.mono _ _)
   | (with_reducible exact spec_l5Number.mono _ _)
   | (with_reducible exact LeO.refl _)
   | (with_reducible exact LeO.none _)
   | (with_reducible refine LeO.ite ?_ ?_)
   | (with_reducible refine LeO.bind ?_ (fun _ => ?_))
   | exact ih0 _ _ _ _
   | exact spec_l10Level.mono _ _
   | exact spec_l5Number.mono _ _
   | exact LeO.none _
   | refine LeO.ite ?_ ?_
   | refine LeO.bind ?_ (fun _ => ?_)
theorem spec_l10Text.mono : ∀ a0 a1 a2 a3 k, LeO (spec_l10Text.f k a0 a1 a2 a3) (spec_l10Text.f (k + 1) a0 a1 a2 a3) := by
 intro a0 a1 a2 a3 k
 have ih0 := spec_l10Text.mono_l k
 exact ih0 a0 a1 a2 a3
def spec_l10Text.T4 : Bool × List (List Nat × List Nat) := (true, [([], []), ([0], [0]), ([1], [1]), ([2], [2]), ([], []), ([3, 4], [3, 4]), ([], []), ([], []), ([7], [7]), ([8], [8]), ([6, 9], [6, 9]), ([10], [10]), ([5, 11], [5, 11]), ([], []), ([13], [13]), ([14], [14]), ([15], [15]), ([], []), ([17], [17]), ([16, 18, 5], [16, 18]), ([12, 19], [12, 19]), ([20, 19, 0, 1, 2, 3, 4, 5, 6, 7, 8, 9, 10, 11, 12, 13, 14, 15, 16, 17, 18, 19, 20], [20])])
def spec_l10Text.B4 : List Nat := [0, 1, 3, 7, 0, 31, 0, 0, 128, 384, 960, 1984, 4095, 0, 8192, 24576, 57344, 0, 131072, 516159, 1048575, 2097151]
theorem spec_l10Text.tab4 : rtab .any (opsOf Tryd.f54 4) = spec_l10Text.T4 := by kernel_rfl
theorem spec_l10Text.bits4 : waitsOk spec_l10Text.T4.2 spec_l10Text.B4 = true := by kernel_rfl
set_option maxHeartbeats 8000000 in
set_option maxRecDepth 100000 in
theorem spec_l10Text.calls (k : Nat) : ∀ (a0_0 : Int) (a0_1 : Int) (A0_2 : Option Addr) (c0_2 : Nat) (l0_2 : List (S25)) (a1 : Int) (r : ByteArray) (w : World) (hr0_2 : Kd.C k25 w A0_2 l0_2.length l0_2) (hc0_2 : l0_2.length ≤ c0_2) (h : spec_l10Text.f k a0_0 a0_1 l0_2 a1 = some r),
  Calls Tryd.prog 54 #[.agg #[.int .i64 a0_0, .int .i64 a0_1, .slice A0_2 l0_2.length c0_2], .int .i64 a1] w fun e w' => e = .returned (.string r) ∧ Below w.heap.size w w' := by
 induction k using Nat.strongRecOn with
 | _ k ih =>
 intro a0_0 a0_1 A0_2 c0_2 l0_2 a1 r w hr0_2 hc0_2 h
 cases k with
 | zero => exact absurd h (by simp [spec_l10Text.f])
 | succ k =>
 simp only [spec_l10Text.f] at h
 have hu25 := Tryd.underlying25
 have HR0_2 := Ak hr0_2
 have HC0_2 := Ak hc0_2
 clear hr0_2 hc0_2
 have HB := Ak (Below.refl w.heap.size w)
 have H : ((spec_l10Level.f k a0_0).bind fun t163 => (if a0_0 = 1 then ((spec_l5Number.f k a0_1).bind fun t164 => (if t163 < a1 then (if 1 + t164.size ≤ 9223372036854775807 then (if ((⟨#[40]⟩ : ByteArray) ++ t164).size + 1 ≤ 9223372036854775807 then (some (((⟨#[40]⟩ : ByteArray) ++ t164) ++ (⟨#[41]⟩ : ByteArray))) else (none)) else (none)) else (some t164))) else (if a0_0 = 2 then (if 0 < (l0_2.length : Int) then ((spec_l10Text.f k ((rd_T25 l0_2 0).f0) ((rd_T25 l0_2 0).f1) ((rd_T25 l0_2 0).f2) 3).bind fun t166 => (if 1 + t166.size ≤ 9223372036854775807 then (if t163 < a1 then (if 1 + ((⟨#[43]⟩ : ByteArray) ++ t166).size ≤ 9223372036854775807 then (if ((⟨#[40]⟩ : ByteArray) ++ ((⟨#[43]⟩ : ByteArray) ++ t166)).size + 1 ≤ 9223372036854775807 then (some (((⟨#[40]⟩ : ByteArray) ++ ((⟨#[43]⟩ : ByteArray) ++ t166)) ++ (⟨#[41]⟩ : ByteArray))) else (none)) else (none)) else (some ((⟨#[43]⟩ : ByteArray) ++ t166))) else (none))) else (none)) else (if a0_0 = 3 then (if 0 < (l0_2.length : Int) then ((spec_l10Text.f k ((rd_T25 l0_2 0).f0) ((rd_T25 l0_2 0).f1) ((rd_T25 l0_2 0).f2) 3).bind fun t168 => (if 1 + t168.size ≤ 9223372036854775807 then (if t163 < a1 then (if 1 + ((⟨#[45]⟩ : ByteArray) ++ t168).size ≤ 9223372036854775807 then (if ((⟨#[40]⟩ : ByteArray) ++ ((⟨#[45]⟩ : ByteArray) ++ t168)).size + 1 ≤ 9223372036854775807 then (some (((⟨#[40]⟩ : ByteArray) ++ ((⟨#[45]⟩ : ByteArray) ++ t168)) ++ (⟨#[41]⟩ : ByteArray))) else (none)) else (none)) else (some ((⟨#[45]⟩ : ByteArray) ++ t168))) else (none))) else (none)) else (if 0 < (l0_2.length : Int) then ((spec_l10Text.f k ((rd_T25 l0_2 0).f0) ((rd_T25 l0_2 0).f1) ((rd_T25 l0_2 0).f2) t163).bind fun t170 => ((some (([(⟨#[32, 43, 32]⟩ : ByteArray), (⟨#[32, 45, 32]⟩ : ByteArray), (⟨#[32, 42, 32]⟩ : ByteArray), (⟨#[32, 47, 32]⟩ : ByteArray), (⟨#[32, 37, 32]⟩ : ByteArray)] : List ByteArray) : List ByteArray)).bind fun y171 => (if 0 ≤ (wrap64 (a0_0 - 4)) then (if (wrap64 (a0_0 - 4)) < (y171.length : Int) then (if t170.size + (rdOf ByteArray.empty y171 (wrap64 (a0_0 - 4))).size ≤ 9223372036854775807 then (if 1 < (l0_2.length : Int) then ((spec_l10Text.f k ((rd_T25 l0_2 1).f0) ((rd_T25 l0_2 1).f1) ((rd_T25 l0_2 1).f2) (wrap64 (t163 + 1))).bind fun t176 => (if (t170 ++ (rdOf ByteArray.empty y171 (wrap64 (a0_0 - 4)))).size + t176.size ≤ 9223372036854775807 then (if t163 < a1 then (if 1 + ((t170 ++ (rdOf ByteArray.empty y171 (wrap64 (a0_0 - 4)))) ++ t176).size ≤ 9223372036854775807 then (if ((⟨#[40]⟩ : ByteArray) ++ ((t170 ++ (rdOf ByteArray.empty y171 (wrap64 (a0_0 - 4)))) ++ t176)).size + 1 ≤ 9223372036854775807 then (some (((⟨#[40]⟩ : ByteArray) ++ ((t170 ++ (rdOf ByteArray.empty y171 (wrap64 (a0_0 - 4)))) ++ t176)) ++ (⟨#[41]⟩ : ByteArray))) else (none)) else (none)) else (some ((t170 ++ (rdOf ByteArray.empty y171 (wrap64 (a0_0 - 4)))) ++ t176))) else (none))) else (none)) else (none)) else (none)) else (none)))) else (none)))))) = some r := h
 clear h
 replace H := Option.bind_eq_some_iff.mp H
 obtain ⟨t163, A30, H⟩ := H
 replace H : (if a0_0 = 1 then ((spec_l5Number.f k a0_1).bind fun t164 => (if t163 < a1 then (if 1 + t164.size ≤ 9223372036854775807 then (if ((⟨#[40]⟩ : ByteArray) ++ t164).size + 1 ≤ 9223372036854775807 then (some (((⟨#[40]⟩ : ByteArray) ++ t164) ++ (⟨#[41]⟩ : ByteArray))) else (none)) else (none)) else (some t164))) else (if a0_0 = 2 then (if 0 < (l0_2.length : Int) then ((spec_l10Text.f k ((rd_T25 l0_2 0).f0) ((rd_T25 l0_2 0).f1) ((rd_T25 l0_2 0).f2) 3).bind fun t166 => (if 1 + t166.size ≤ 9223372036854775807 then (if t163 < a1 then (if 1 + ((⟨#[43]⟩ : ByteArray) ++ t166).size ≤ 9223372036854775807 then (if ((⟨#[40]⟩ : ByteArray) ++ ((⟨#[43]⟩ : ByteArray) ++ t166)).size + 1 ≤ 9223372036854775807 then (some (((⟨#[40]⟩ : ByteArray) ++ ((⟨#[43]⟩ : ByteArray) ++ t166)) ++ (⟨#[41]⟩ : ByteArray))) else (none)) else (none)) else (some ((⟨#[43]⟩ : ByteArray) ++ t166))) else (none))) else (none)) else (if a0_0 = 3 then (if 0 < (l0_2.length : Int) then ((spec_l10Text.f k ((rd_T25 l0_2 0).f0) ((rd_T25 l0_2 0).f1) ((rd_T25 l0_2 0).f2) 3).bind fun t168 => (if 1 + t168.size ≤ 9223372036854775807 then (if t163 < a1 then (if 1 + ((⟨#[45]⟩ : ByteArray) ++ t168).size ≤ 9223372036854775807 then (if ((⟨#[40]⟩ : ByteArray) ++ ((⟨#[45]⟩ : ByteArray) ++ t168)).size + 1 ≤ 9223372036854775807 then (some (((⟨#[40]⟩ : ByteArray) ++ ((⟨#[45]⟩ : ByteArray) ++ t168)) ++ (⟨#[41]⟩ : ByteArray))) else (none)) else (none)) else (some ((⟨#[45]⟩ : ByteArray) ++ t168))) else (none))) else (none)) else (if 0 < (l0_2.length : Int) then ((spec_l10Text.f k ((rd_T25 l0_2 0).f0) ((rd_T25 l0_2 0).f1) ((rd_T25 l0_2 0).f2) t163).bind fun t170 => ((some (([(⟨#[32, 43, 32]⟩ : ByteArray), (⟨#[32, 45, 32]⟩ : ByteArray), (⟨#[32, 42, 32]⟩ : ByteArray), (⟨#[32, 47, 32]⟩ : ByteArray), (⟨#[32, 37, 32]⟩ : ByteArray)] : List ByteArray) : List ByteArray)).bind fun y171 => (if 0 ≤ (wrap64 (a0_0 - 4)) then (if (wrap64 (a0_0 - 4)) < (y171.length : Int) then (if t170.size + (rdOf ByteArray.empty y171 (wrap64 (a0_0 - 4))).size ≤ 9223372036854775807 then (if 1 < (l0_2.length : Int) then ((spec_l10Text.f k ((rd_T25 l0_2 1).f0) ((rd_T25 l0_2 1).f1) ((rd_T25 l0_2 1).f2) (wrap64 (t163 + 1))).bind fun t176 => (if (t170 ++ (rdOf ByteArray.empty y171 (wrap64 (a0_0 - 4)))).size + t176.size ≤ 9223372036854775807 then (if t163 < a1 then (if 1 + ((t170 ++ (rdOf ByteArray.empty y171 (wrap64 (a0_0 - 4)))) ++ t176).size ≤ 9223372036854775807 then (if ((⟨#[40]⟩ : ByteArray) ++ ((t170 ++ (rdOf ByteArray.empty y171 (wrap64 (a0_0 - 4)))) ++ t176)).size + 1 ≤ 9223372036854775807 then (some (((⟨#[40]⟩ : ByteArray) ++ ((t170 ++ (rdOf ByteArray.empty y171 (wrap64 (a0_0 - 4)))) ++ t176)) ++ (⟨#[41]⟩ : ByteArray))) else (none)) else (none)) else (some ((t170 ++ (rdOf ByteArray.empty y171 (wrap64 (a0_0 - 4)))) ++ t176))) else (none))) else (none)) else (none)) else (none)) else (none)))) else (none))))) = some r := H
 have A3 := Ak A30
 clear A30
 by_cases c4 : a0_0 = 1
 ·rw [if_pos c4] at H
  have c4b0 : (a0_0 == 1) = true := beq_iff_eq.mpr c4
  have c4b1 : (a0_0 != 1) = false := bne_eq_false_iff_eq.mpr c4
  clear c4
  replace H := Option.bind_eq_some_iff.mp H
  obtain ⟨t164, A50, H⟩ := H
  replace H : (if t163 < a1 then (if 1 + t164.size ≤ 9223372036854775807 then (if ((⟨#[40]⟩ : ByteArray) ++ t164).size + 1 ≤ 9223372036854775807 then (some (((⟨#[40]⟩ : ByteArray) ++ t164) ++ (⟨#[41]⟩ : ByteArray))) else (none)) else (none)) else (some t164)) = some r := H
  have A5 := Ak A50
  clear A50
  by_cases c6 : t163 < a1
  ·rw [if_pos c6] at H
   have c6b0 : decide (t163 < a1) = true := decide_eq_true c6
   clear c6
   by_cases c7 : 1 + t164.size ≤ 9223372036854775807
   ·rw [if_pos c7] at H
    have c7b0 := eq_true c7
    have c7b1 : decide (1 + t164.size ≤ 9223372036854775807) = true := decide_eq_true c7
    try have c7b2 : (9223372036854775807 < 1 + t164.size) = False := eq_false (Nat.not_lt.2 c7)
    by_cases c8 : ((⟨#[40]⟩ : ByteArray) ++ t164).size + 1 ≤ 9223372036854775807
    ·rw [if_pos c8] at H
     have c8b0 := eq_true c8
     have c8b1 : decide (((⟨#[40]⟩ : ByteArray) ++ t164).size + 1 ≤ 9223372036854775807) = true := decide_eq_true c8
     try have c8b2 : (9223372036854775807 < ((⟨#[40]⟩ : ByteArray) ++ t164).size + 1) = False := eq_false (Nat.not_lt.2 c8)
     have c8n := c8
     (simp only [ByteArray.size_append', ByteArray.size_mk', ByteArray.size_extract, List.size_toArray, List.length_cons, List.length_nil] at c8n)
     obtain rfl := Option.some.inj H
     go_enter Tryd.func54, Tryd.ntmps54
     go_wp2_with (first | ((with_reducible refine gate_dst (N := 2) rfl ?_); refine Qk 2 #[.int .i64 a0_0, .int .i64 a0_1, .slice A0_2 l0_2.length c0_2] 25 ?_; intro gb162 hg w9 hbox hb; have n0_ := Ak (below_step (Qb HB.out) hb); have n1_ := Ak (hbox); have n2_ := Ak ((Qp hg HB.out : w.heap.size ≤ gb162)); have n3_ := Ak ((Qp hg HB.out : w.heap.size ≤ gb162)); clear HB; have HB := n0_; have BK162 := n1_; have GW162 := n2_; have GE162 := n3_; clear n0_ n1_ n2_ n3_; clear hb hbox hg; obtain ⟨hcz10_0, hcz10_1, hcz10_2⟩ := Qu3 BK162.out; have hfz10_0 := blk_frozen BK162.out 0; have hfz10_1 := blk_frozen BK162.out 1; have hfz10_2 := blk_frozen BK162.out 2) | ((with_reducible refine gate_callee (f := 97) rfl ?_); refine Qj (some 9) Tryd.func97 #[.int .i64 a0_0] ?_; (with_reducible refine (spec_l10Level.calls k a0_0 t163 _ A3.out).mono ?_); rintro e w' ⟨rfl, ⟨nd, rfl⟩⟩; refine ⟨_, rfl, ?_⟩) | ((with_reducible refine gate_callee (f := 61) rfl ?_); refine Qj (some 37) Tryd.func61 #[.int .i64 a0_1] ?_; (with_reducible refine (spec_l5Number.calls k a0_1 t164 _ A5.out).mono ?_); rintro e w11 ⟨rfl, hb⟩; refine ⟨_, rfl, ?_⟩; have n0_ := Ak (Qm BK162.out hb); have n1_ := Ak (below_step (Qb HB.out) hb); clear BK162 HB; have BK162 := n0_; have HB := n1_; clear n0_ n1_; (try clear hb); (try clear hb2); (try clear hk); (try clear hi)))
     go_ret
     exact ⟨Qh, Qb HB.out⟩
    ·rw [if_neg c8] at H
     exact absurd H (by simp)
   ·rw [if_neg c7] at H
    exact absurd H (by simp)
  ·rw [if_neg c6] at H
   have c6b0 : decide (t163 < a1) = false := decide_eq_false c6
   clear c6
   obtain rfl := Option.some.inj H
   go_enter Tryd.func54, Tryd.ntmps54
   go_wp2_with (first | ((with_reducible refine gate_dst (N := 2) rfl ?_); refine Qk 2 #[.int .i64 a0_0, .int .i64 a0_1, .slice A0_2 l0_2.length c0_2] 25 ?_; intro gb162 hg w12 hbox hb; have n0_ := Ak (below_step (Qb HB.out) hb); have n1_ := Ak (hbox); have n2_ := Ak ((Qp hg HB.out : w.heap.size ≤ gb162)); have n3_ := Ak ((Qp hg HB.out : w.heap.size ≤ gb162)); clear HB; have HB := n0_; have BK162 := n1_; have GW162 := n2_; have GE162 := n3_; clear n0_ n1_ n2_ n3_; clear hb hbox hg; obtain ⟨hcz13_0, hcz13_1, hcz13_2⟩ := Qu3 BK162.out; have hfz13_0 := blk_frozen BK162.out 0; have hfz13_1 := blk_frozen BK162.out 1; have hfz13_2 := blk_frozen BK162.out 2) | ((with_reducible refine gate_callee (f := 97) rfl ?_); refine Qj (some 9) Tryd.func97 #[.int .i64 a0_0] ?_; (with_reducible refine (spec_l10Level.calls k a0_0 t163 _ A3.out).mono ?_); rintro e w' ⟨rfl, ⟨nd, rfl⟩⟩; refine ⟨_, rfl, ?_⟩) | ((with_reducible refine gate_callee (f := 61) rfl ?_); refine Qj (some 37) Tryd.func61 #[.int .i64 a0_1] ?_; (with_reducible refine (spec_l5Number.calls k a0_1 t164 _ A5.out).mono ?_); rintro e w14 ⟨rfl, hb⟩; refine ⟨_, rfl, ?_⟩; have n0_ := Ak (Qm BK162.out hb); have n1_ := Ak (below_step (Qb HB.out) hb); clear BK162 HB; have BK162 := n0_; have HB := n1_; clear n0_ n1_; (try clear hb); (try clear hb2); (try clear hk); (try clear hi)))
   go_ret
   exact ⟨Qh, Qb HB.out⟩
 ·rw [if_neg c4] at H
  have c4b0 : (a0_0 == 1) = false := beq_eq_false_iff_ne.mpr c4
  have c4b1 : (a0_0 != 1) = true := bne_iff_ne.mpr c4
  by_cases c15 : a0_0 = 2
  ·rw [if_pos c15] at H
   have c15b0 : (a0_0 == 2) = true := beq_iff_eq.mpr c15
   have c15b1 : (a0_0 != 2) = false := bne_eq_false_iff_eq.mpr c15
   clear c15
   by_cases c16 : 0 < (l0_2.length : Int)
   ·rw [if_pos c16] at H
    have c16b0 : decide (0 < (l0_2.length : Int)) = true := decide_eq_true c16
    have c16b1 : decide (0 < l0_2.length) = true := decide_eq_true (by omega)
    clear c16
    replace H := Option.bind_eq_some_iff.mp H
    obtain ⟨t166, A170, H⟩ := H
    replace H : (if 1 + t166.size ≤ 9223372036854775807 then (if t163 < a1 then (if 1 + ((⟨#[43]⟩ : ByteArray) ++ t166).size ≤ 9223372036854775807 then (if ((⟨#[40]⟩ : ByteArray) ++ ((⟨#[43]⟩ : ByteArray) ++ t166)).size + 1 ≤ 9223372036854775807 then (some (((⟨#[40]⟩ : ByteArray) ++ ((⟨#[43]⟩ : ByteArray) ++ t166)) ++ (⟨#[41]⟩ : ByteArray))) else (none)) else (none)) else (some ((⟨#[43]⟩ : ByteArray) ++ t166))) else (none)) = some r := H
    have A17 := Ak A170
    clear A170
    by_cases c18 : 1 + t166.size ≤ 9223372036854775807
    ·rw [if_pos c18] at H
     have c18b0 := eq_true c18
     have c18b1 : decide (1 + t166.size ≤ 9223372036854775807) = true := decide_eq_true c18
     try have c18b2 : (9223372036854775807 < 1 + t166.size) = False := eq_false (Nat.not_lt.2 c18)
     by_cases c19 : t163 < a1
     ·rw [if_pos c19] at H
      have c19b0 : decide (t163 < a1) = true := decide_eq_true c19
      clear c19
      by_cases c20 : 1 + ((⟨#[43]⟩ : ByteArray) ++ t166).size ≤ 9223372036854775807
      ·rw [if_pos c20] at H
       have c20b0 := eq_true c20
       have c20b1 : decide (1 + ((⟨#[43]⟩ : ByteArray) ++ t166).size ≤ 9223372036854775807) = true := decide_eq_true c20
       try have c20b2 : (9223372036854775807 < 1 + ((⟨#[43]⟩ : ByteArray) ++ t166).size) = False := eq_false (Nat.not_lt.2 c20)
       have c20n := c20
       (simp only [ByteArray.size_append', ByteArray.size_mk', ByteArray.size_extract, List.size_toArray, List.length_cons, List.length_nil] at c20n)
       by_cases c21 : ((⟨#[40]⟩ : ByteArray) ++ ((⟨#[43]⟩ : ByteArray) ++ t166)).size + 1 ≤ 9223372036854775807
       ·rw [if_pos c21] at H
        have c21b0 := eq_true c21
        have c21b1 : decide (((⟨#[40]⟩ : ByteArray) ++ ((⟨#[43]⟩ : ByteArray) ++ t166)).size + 1 ≤ 9223372036854775807) = true := decide_eq_true c21
        try have c21b2 : (9223372036854775807 < ((⟨#[40]⟩ : ByteArray) ++ ((⟨#[43]⟩ : ByteArray) ++ t166)).size + 1) = False := eq_false (Nat.not_lt.2 c21)
        have c21n := c21
        (simp only [ByteArray.size_append', ByteArray.size_mk', ByteArray.size_extract, List.size_toArray, List.length_cons, List.length_nil] at c21n)
        obtain rfl := Option.some.inj H
        go_enter Tryd.func54, Tryd.ntmps54
        go_wp2_with (first | ((with_reducible refine gate_dst (N := 2) rfl ?_); refine Qk 2 #[.int .i64 a0_0, .int .i64 a0_1, .slice A0_2 l0_2.length c0_2] 25 ?_; intro gb162 hg w22 hbox hb; have n0_ := Ak (below_step (Qb HB.out) hb); have n1_ := Ak (hbox); have n2_ := Ak ((Qp hg HB.out : w.heap.size ≤ gb162)); have n3_ := Ak ((Qp hg HB.out : w.heap.size ≤ gb162)); clear HB; have HB := n0_; have BK162 := n1_; have GW162 := n2_; have GE162 := n3_; clear n0_ n1_ n2_ n3_; clear hb hbox hg; obtain ⟨hcz23_0, hcz23_1, hcz23_2⟩ := Qu3 BK162.out; have hfz23_0 := blk_frozen BK162.out 0; have hfz23_1 := blk_frozen BK162.out 1; have hfz23_2 := blk_frozen BK162.out 2) | ((with_reducible refine gate_callee (f := 97) rfl ?_); refine Qj (some 9) Tryd.func97 #[.int .i64 a0_0] ?_; (with_reducible refine (spec_l10Level.calls k a0_0 t163 _ A3.out).mono ?_); rintro e w' ⟨rfl, ⟨nd, rfl⟩⟩; refine ⟨_, rfl, ?_⟩; have p165 : 0 ≤ (0 : Int) := (by omega); have q165 : 0 < (l0_2.length : Int) := Qg; obtain ⟨ad165, A165_2, c165_2, e165, hx165_0, hx165_1, hx165_2, hl165_2, hi165_2⟩ := at_T25 HR0_2.out 0 p165 q165; cases e165; have qi165 : (0 < l0_2.length) = True := eq_true (by omega); (try rw [show ((0 : Int)).toNat = 0 from rfl] at hx165_0); (try rw [show 0 * 3 = 0 from rfl] at hx165_0); (try rw [Addr.add_zero'] at hx165_0); (try rw [show ((0 : Int)).toNat = 0 from rfl] at hx165_1); (try rw [show 0 * 3 = 0 from rfl] at hx165_1); (try rw [Addr.add_zero'] at hx165_1); (try rw [show ((0 : Int)).toNat = 0 from rfl] at hx165_2); (try rw [show 0 * 3 = 0 from rfl] at hx165_2); (try rw [Addr.add_zero'] at hx165_2); replace hx165_0 := (HB.out.cell (World.block_lt_of_cell? w _ hx165_0)).trans hx165_0; replace hx165_1 := (HB.out.cell (World.block_lt_of_cell? w _ hx165_1)).trans hx165_1; replace hx165_2 := (HB.out.cell (World.block_lt_of_cell? w _ hx165_2)).trans hx165_2; have HR165_2 := Ak hi165_2; have HC165_2 := Ak hl165_2; clear hi165_2 hl165_2; replace p165 := eq_true p165; replace q165 := eq_true q165) | ((with_reducible refine gate_callee (f := 54) rfl ?_); refine Qj (some 44) Tryd.func54 #[.agg #[.int .i64 ((rd_T25 l0_2 0).f0), .int .i64 ((rd_T25 l0_2 0).f1), .slice A165_2 ((rd_T25 l0_2 0).f2).length c165_2], .int .i64 3] ?_; (with_reducible refine (ih k (by omega) ((rd_T25 l0_2 0).f0) ((rd_T25 l0_2 0).f1) _ _ ((rd_T25 l0_2 0).f2) 3 t166 _ ?side1 ?side2 A17.out).mono ?_); (case side1 => repeat (first | exact (Kd.C_below HR165_2.out (Qb HB.out)) | (with_reducible refine Kd.C_alloc ?_ _) | (with_reducible refine Kd.C_drewN ?_ _) | (with_reducible refine Kd.C_drew ?_))); (case side2 => exact HC165_2.out); rintro e w24 ⟨rfl, hb⟩; refine ⟨_, rfl, ?_⟩; have n0_ := Ak (Qm BK162.out hb); have n1_ := Ak (below_step (Qb HB.out) hb); clear BK162 HB; have BK162 := n0_; have HB := n1_; clear n0_ n1_; (try clear hb); (try clear hb2); (try clear hk); (try clear hi)))
        go_ret
        exact ⟨Qh, Qb HB.out⟩
       ·rw [if_neg c21] at H
        exact absurd H (by simp)
      ·rw [if_neg c20] at H
       exact absurd H (by simp)
     ·rw [if_neg c19] at H
      have c19b0 : decide (t163 < a1) = false := decide_eq_false c19
      clear c19
      obtain rfl := Option.some.inj H
      go_enter Tryd.func54, Tryd.ntmps54
      go_wp2_with (first | ((with_reducible refine gate_dst (N := 2) rfl ?_); refine Qk 2 #[.int .i64 a0_0, .int .i64 a0_1, .slice A0_2 l0_2.length c0_2] 25 ?_; intro gb162 hg w25 hbox hb; have n0_ := Ak (below_step (Qb HB.out) hb); have n1_ := Ak (hbox); have n2_ := Ak ((Qp hg HB.out : w.heap.size ≤ gb162)); have n3_ := Ak ((Qp hg HB.out : w.heap.size ≤ gb162)); clear HB; have HB := n0_; have BK162 := n1_; have GW162 := n2_; have GE162 := n3_; clear n0_ n1_ n2_ n3_; clear hb hbox hg; obtain ⟨hcz26_0, hcz26_1, hcz26_2⟩ := Qu3 BK162.out; have hfz26_0 := blk_frozen BK162.out 0; have hfz26_1 := blk_frozen BK162.out 1; have hfz26_2 := blk_frozen BK162.out 2) | ((with_reducible refine gate_callee (f := 97) rfl ?_); refine Qj (some 9) Tryd.func97 #[.int .i64 a0_0] ?_; (with_reducible refine (spec_l10Level.calls k a0_0 t163 _ A3.out).mono ?_); rintro e w' ⟨rfl, ⟨nd, rfl⟩⟩; refine ⟨_, rfl, ?_⟩; have p165 : 0 ≤ (0 : Int) := (by omega); have q165 : 0 < (l0_2.length : Int) := Qg; obtain ⟨ad165, A165_2, c165_2, e165, hx165_0, hx165_1, hx165_2, hl165_2, hi165_2⟩ := at_T25 HR0_2.out 0 p165 q165; cases e165; have qi165 : (0 < l0_2.length) = True := eq_true (by omega); (try rw [show ((0 : Int)).toNat = 0 from rfl] at hx165_0); (try rw [show 0 * 3 = 0 from rfl] at hx165_0); (try rw [Addr.add_zero'] at hx165_0); (try rw [show ((0 : Int)).toNat = 0 from rfl] at hx165_1); (try rw [show 0 * 3 = 0 from rfl] at hx165_1); (try rw [Addr.add_zero'] at hx165_1); (try rw [show ((0 : Int)).toNat = 0 from rfl] at hx165_2); (try rw [show 0 * 3 = 0 from rfl] at hx165_2); (try rw [Addr.add_zero'] at hx165_2); replace hx165_0 := (HB.out.cell (World.block_lt_of_cell? w _ hx165_0)).trans hx165_0; replace hx165_1 := (HB.out.cell (World.block_lt_of_cell? w _ hx165_1)).trans hx165_1; replace hx165_2 := (HB.out.cell (World.block_lt_of_cell? w _ hx165_2)).trans hx165_2; have HR165_2 := Ak hi165_2; have HC165_2 := Ak hl165_2; clear hi165_2 hl165_2; replace p165 := eq_true p165; replace q165 := eq_true q165) | ((with_reducible refine gate_callee (f := 54) rfl ?_); refine Qj (some 44) Tryd.func54 #[.agg #[.int .i64 ((rd_T25 l0_2 0).f0), .int .i64 ((rd_T25 l0_2 0).f1), .slice A165_2 ((rd_T25 l0_2 0).f2).length c165_2], .int .i64 3] ?_; (with_reducible refine (ih k (by omega) ((rd_T25 l0_2 0).f0) ((rd_T25 l0_2 0).f1) _ _ ((rd_T25 l0_2 0).f2) 3 t166 _ ?side1 ?side2 A17.out).mono ?_); (case side1 => repeat (first | exact (Kd.C_below HR165_2.out (Qb HB.out)) | (with_reducible refine Kd.C_alloc ?_ _) | (with_reducible refine Kd.C_drewN ?_ _) | (with_reducible refine Kd.C_drew ?_))); (case side2 => exact HC165_2.out); rintro e w27 ⟨rfl, hb⟩; refine ⟨_, rfl, ?_⟩; have n0_ := Ak (Qm BK162.out hb); have n1_ := Ak (below_step (Qb HB.out) hb); clear BK162 HB; have BK162 := n0_; have HB := n1_; clear n0_ n1_; (try clear hb); (try clear hb2); (try clear hk); (try clear hi)))
      go_ret
      exact ⟨Qh, Qb HB.out⟩
    ·rw [if_neg c18] at H
     exact absurd H (by simp)
   ·rw [if_neg c16] at H
    exact absurd H (by simp)
  ·rw [if_neg c15] at H
   have c15b0 : (a0_0 == 2) = false := beq_eq_false_iff_ne.mpr c15
   have c15b1 : (a0_0 != 2) = true := bne_iff_ne.mpr c15
   by_cases c28 : a0_0 = 3
   ·rw [if_pos c28] at H
    have c28b0 : (a0_0 == 3) = true := beq_iff_eq.mpr c28
    have c28b1 : (a0_0 != 3) = false := bne_eq_false_iff_eq.mpr c28
    clear c28
    by_cases c29 : 0 < (l0_2.length : Int)
    ·rw [if_pos c29] at H
     have c29b0 : decide (0 < (l0_2.length : Int)) = true := decide_eq_true c29
     have c29b1 : decide (0 < l0_2.length) = true := decide_eq_true (by omega)
     clear c29
     replace H := Option.bind_eq_some_iff.mp H
     obtain ⟨t168, A300, H⟩ := H
     replace H : (if 1 + t168.size ≤ 9223372036854775807 then (if t163 < a1 then (if 1 + ((⟨#[45]⟩ : ByteArray) ++ t168).size ≤ 9223372036854775807 then (if ((⟨#[40]⟩ : ByteArray) ++ ((⟨#[45]⟩ : ByteArray) ++ t168)).size + 1 ≤ 9223372036854775807 then (some (((⟨#[40]⟩ : ByteArray) ++ ((⟨#[45]⟩ : ByteArray) ++ t168)) ++ (⟨#[41]⟩ : ByteArray))) else (none)) else (none)) else (some ((⟨#[45]⟩ : ByteArray) ++ t168))) else (none)) = some r := H
     have A30 := Ak A300
     clear A300
     by_cases c31 : 1 + t168.size ≤ 9223372036854775807
     ·rw [if_pos c31] at H
      have c31b0 := eq_true c31
      have c31b1 : decide (1 + t168.size ≤ 9223372036854775807) = true := decide_eq_true c31
      try have c31b2 : (9223372036854775807 < 1 + t168.size) = False := eq_false (Nat.not_lt.2 c31)
      by_cases c32 : t163 < a1
      ·rw [if_pos c32] at H
       have c32b0 : decide (t163 < a1) = true := decide_eq_true c32
       clear c32
       by_cases c33 : 1 + ((⟨#[45]⟩ : ByteArray) ++ t168).size ≤ 9223372036854775807
       ·rw [if_pos c33] at H
        have c33b0 := eq_true c33
        have c33b1 : decide (1 + ((⟨#[45]⟩ : ByteArray) ++ t168).size ≤ 9223372036854775807) = true := decide_eq_true c33
        try have c33b2 : (9223372036854775807 < 1 + ((⟨#[45]⟩ : ByteArray) ++ t168).size) = False := eq_false (Nat.not_lt.2 c33)
        have c33n := c33
        (simp only [ByteArray.size_append', ByteArray.size_mk', ByteArray.size_extract, List.size_toArray, List.length_cons, List.length_nil] at c33n)
        by_cases c34 : ((⟨#[40]⟩ : ByteArray) ++ ((⟨#[45]⟩ : ByteArray) ++ t168)).size + 1 ≤ 9223372036854775807
        ·rw [if_pos c34] at H
         have c34b0 := eq_true c34
         have c34b1 : decide (((⟨#[40]⟩ : ByteArray) ++ ((⟨#[45]⟩ : ByteArray) ++ t168)).size + 1 ≤ 9223372036854775807) = true := decide_eq_true c34
         try have c34b2 : (9223372036854775807 < ((⟨#[40]⟩ : ByteArray) ++ ((⟨#[45]⟩ : ByteArray) ++ t168)).size + 1) = False := eq_false (Nat.not_lt.2 c34)
         have c34n := c34
         (simp only [ByteArray.size_append', ByteArray.size_mk', ByteArray.size_extract, List.size_toArray, List.length_cons, List.length_nil] at c34n)
         obtain rfl := Option.some.inj H
         go_enter Tryd.func54, Tryd.ntmps54
         go_wp2_with (first | ((with_reducible refine gate_dst (N := 2) rfl ?_); refine Qk 2 #[.int .i64 a0_0, .int .i64 a0_1, .slice A0_2 l0_2.length c0_2] 25 ?_; intro gb162 hg w35 hbox hb; have n0_ := Ak (below_step (Qb HB.out) hb); have n1_ := Ak (hbox); have n2_ := Ak ((Qp hg HB.out : w.heap.size ≤ gb162)); have n3_ := Ak ((Qp hg HB.out : w.heap.size ≤ gb162)); clear HB; have HB := n0_; have BK162 := n1_; have GW162 := n2_; have GE162 := n3_; clear n0_ n1_ n2_ n3_; clear hb hbox hg; obtain ⟨hcz36_0, hcz36_1, hcz36_2⟩ := Qu3 BK162.out; have hfz36_0 := blk_frozen BK162.out 0; have hfz36_1 := blk_frozen BK162.out 1; have hfz36_2 := blk_frozen BK162.out 2) | ((with_reducible refine gate_callee (f := 97) rfl ?_); refine Qj (some 9) Tryd.func97 #[.int .i64 a0_0] ?_; (with_reducible refine (spec_l10Level.calls k a0_0 t163 _ A3.out).mono ?_); rintro e w' ⟨rfl, ⟨nd, rfl⟩⟩; refine ⟨_, rfl, ?_⟩; have p167 : 0 ≤ (0 : Int) := (by omega); have q167 : 0 < (l0_2.length : Int) := Qg; obtain ⟨ad167, A167_2, c167_2, e167, hx167_0, hx167_1, hx167_2, hl167_2, hi167_2⟩ := at_T25 HR0_2.out 0 p167 q167; cases e167; have qi167 : (0 < l0_2.length) = True := eq_true (by omega); (try rw [show ((0 : Int)).toNat = 0 from rfl] at hx167_0); (try rw [show 0 * 3 = 0 from rfl] at hx167_0); (try rw [Addr.add_zero'] at hx167_0); (try rw [show ((0 : Int)).toNat = 0 from rfl] at hx167_1); (try rw [show 0 * 3 = 0 from rfl] at hx167_1); (try rw [Addr.add_zero'] at hx167_1); (try rw [show ((0 : Int)).toNat = 0 from rfl] at hx167_2); (try rw [show 0 * 3 = 0 from rfl] at hx167_2); (try rw [Addr.add_zero'] at hx167_2); replace hx167_0 := (HB.out.cell (World.block_lt_of_cell? w _ hx167_0)).trans hx167_0; replace hx167_1 := (HB.out.cell (World.block_lt_of_cell? w _ hx167_1)).trans hx167_1; replace hx167_2 := (HB.out.cell (World.block_lt_of_cell? w _ hx167_2)).trans hx167_2; have HR167_2 := Ak hi167_2; have HC167_2 := Ak hl167_2; clear hi167_2 hl167_2; replace p167 := eq_true p167; replace q167 := eq_true q167) | ((with_reducible refine gate_callee (f := 54) rfl ?_); refine Qj (some 52) Tryd.func54 #[.agg #[.int .i64 ((rd_T25 l0_2 0).f0), .int .i64 ((rd_T25 l0_2 0).f1), .slice A167_2 ((rd_T25 l0_2 0).f2).length c167_2], .int .i64 3] ?_; (with_reducible refine (ih k (by omega) ((rd_T25 l0_2 0).f0) ((rd_T25 l0_2 0).f1) _ _ ((rd_T25 l0_2 0).f2) 3 t168 _ ?side1 ?side2 A30.out).mono ?_); (case side1 => repeat (first | exact (Kd.C_below HR167_2.out (Qb HB.out)) | (with_reducible refine Kd.C_alloc ?_ _) | (with_reducible refine Kd.C_drewN ?_ _) | (with_reducible refine Kd.C_drew ?_))); (case side2 => exact HC167_2.out); rintro e w37 ⟨rfl, hb⟩; refine ⟨_, rfl, ?_⟩; have n0_ := Ak (Qm BK162.out hb); have n1_ := Ak (below_step (Qb HB.out) hb); clear BK162 HB; have BK162 := n0_; have HB := n1_; clear n0_ n1_; (try clear hb); (try clear hb2); (try clear hk); (try clear hi)))
         go_ret
         exact ⟨Qh, Qb HB.out⟩
        ·rw [if_neg c34] at H
         exact absurd H (by simp)
       ·rw [if_neg c33] at H
        exact absurd H (by simp)
      ·rw [if_neg c32] at H
       have c32b0 : decide (t163 < a1) = false := decide_eq_false c32
       clear c32
       obtain rfl := Option.some.inj H
       go_enter Tryd.func54, Tryd.ntmps54
       go_wp2_with (first | ((with_reducible refine gate_dst (N := 2) rfl ?_); refine Qk 2 #[.int .i64 a0_0, .int .i64 a0_1, .slice A0_2 l0_2.length c0_2] 25 ?_; intro gb162 hg w38 hbox hb; have n0_ := Ak (below_step (Qb HB.out) hb); have n1_ := Ak (hbox); have n2_ := Ak ((Qp hg HB.out : w.heap.size ≤ gb162)); have n3_ := Ak ((Qp hg HB.out : w.heap.size ≤ gb162)); clear HB; have HB := n0_; have BK162 := n1_; have GW162 := n2_; have GE162 := n3_; clear n0_ n1_ n2_ n3_; clear hb hbox hg; obtain ⟨hcz39_0, hcz39_1, hcz39_2⟩ := Qu3 BK162.out; have hfz39_0 := blk_frozen BK162.out 0; have hfz39_1 := blk_frozen BK162.out 1; have hfz39_2 := blk_frozen BK162.out 2) | ((with_reducible refine gate_callee (f := 97) rfl ?_); refine Qj (some 9) Tryd.func97 #[.int .i64 a0_0] ?_; (with_reducible refine (spec_l10Level.calls k a0_0 t163 _ A3.out).mono ?_); rintro e w' ⟨rfl, ⟨nd, rfl⟩⟩; refine ⟨_, rfl, ?_⟩; have p167 : 0 ≤ (0 : Int) := (by omega); have q167 : 0 < (l0_2.length : Int) := Qg; obtain ⟨ad167, A167_2, c167_2, e167, hx167_0, hx167_1, hx167_2, hl167_2, hi167_2⟩ := at_T25 HR0_2.out 0 p167 q167; cases e167; have qi167 : (0 < l0_2.length) = True := eq_true (by omega); (try rw [show ((0 : Int)).toNat = 0 from rfl] at hx167_0); (try rw [show 0 * 3 = 0 from rfl] at hx167_0); (try rw [Addr.add_zero'] at hx167_0); (try rw [show ((0 : Int)).toNat = 0 from rfl] at hx167_1); (try rw [show 0 * 3 = 0 from rfl] at hx167_1); (try rw [Addr.add_zero'] at hx167_1); (try rw [show ((0 : Int)).toNat = 0 from rfl] at hx167_2); (try rw [show 0 * 3 = 0 from rfl] at hx167_2); (try rw [Addr.add_zero'] at hx167_2); replace hx167_0 := (HB.out.cell (World.block_lt_of_cell? w _ hx167_0)).trans hx167_0; replace hx167_1 := (HB.out.cell (World.block_lt_of_cell? w _ hx167_1)).trans hx167_1; replace hx167_2 := (HB.out.cell (World.block_lt_of_cell? w _ hx167_2)).trans hx167_2; have HR167_2 := Ak hi167_2; have HC167_2 := Ak hl167_2; clear hi167_2 hl167_2; replace p167 := eq_true p167; replace q167 := eq_true q167) | ((with_reducible refine gate_callee (f := 54) rfl ?_); refine Qj (some 52) Tryd.func54 #[.agg #[.int .i64 ((rd_T25 l0_2 0).f0), .int .i64 ((rd_T25 l0_2 0).f1), .slice A167_2 ((rd_T25 l0_2 0).f2).length c167_2], .int .i64 3] ?_; (with_reducible refine (ih k (by omega) ((rd_T25 l0_2 0).f0) ((rd_T25 l0_2 0).f1) _ _ ((rd_T25 l0_2 0).f2) 3 t168 _ ?side1 ?side2 A30.out).mono ?_); (case side1 => repeat (first | exact (Kd.C_below HR167_2.out (Qb HB.out)) | (with_reducible refine Kd.C_alloc ?_ _) | (with_reducible refine Kd.C_drewN ?_ _) | (with_reducible refine Kd.C_drew ?_))); (case side2 => exact HC167_2.out); rintro e w40 ⟨rfl, hb⟩; refine ⟨_, rfl, ?_⟩; have n0_ := Ak (Qm BK162.out hb); have n1_ := Ak (below_step (Qb HB.out) hb); clear BK162 HB; have BK162 := n0_; have HB := n1_; clear n0_ n1_; (try clear hb); (try clear hb2); (try clear hk); (try clear hi)))
       go_ret
       exact ⟨Qh, Qb HB.out⟩
     ·rw [if_neg c31] at H
      exact absurd H (by simp)
    ·rw [if_neg c29] at H
     exact absurd H (by simp)
   ·rw [if_neg c28] at H
    have c28b0 : (a0_0 == 3) = false := beq_eq_false_iff_ne.mpr c28
    have c28b1 : (a0_0 != 3) = true := bne_iff_ne.mpr c28
    by_cases c41 : 0 < (l0_2.length : Int)
    ·rw [if_pos c41] at H
     have c41b0 : decide (0 < (l0_2.length : Int)) = true := decide_eq_true c41
     have c41b1 : decide (0 < l0_2.length) = true := decide_eq_true (by omega)
     clear c41
     replace H := Option.bind_eq_some_iff.mp H
     obtain ⟨t170, A420, H⟩ := H
     replace H : ((some (([(⟨#[32, 43, 32]⟩ : ByteArray), (⟨#[32, 45, 32]⟩ : ByteArray), (⟨#[32, 42, 32]⟩ : ByteArray), (⟨#[32, 47, 32]⟩ : ByteArray), (⟨#[32, 37, 32]⟩ : ByteArray)] : List ByteArray) : List ByteArray)).bind fun y171 => (if 0 ≤ (wrap64 (a0_0 - 4)) then (if (wrap64 (a0_0 - 4)) < (y171.length : Int) then (if t170.size + (rdOf ByteArray.empty y171 (wrap64 (a0_0 - 4))).size ≤ 9223372036854775807 then (if 1 < (l0_2.length : Int) then ((spec_l10Text.f k ((rd_T25 l0_2 1).f0) ((rd_T25 l0_2 1).f1) ((rd_T25 l0_2 1).f2) (wrap64 (t163 + 1))).bind fun t176 => (if (t170 ++ (rdOf ByteArray.empty y171 (wrap64 (a0_0 - 4)))).size + t176.size ≤ 9223372036854775807 then (if t163 < a1 then (if 1 + ((t170 ++ (rdOf ByteArray.empty y171 (wrap64 (a0_0 - 4)))) ++ t176).size ≤ 9223372036854775807 then (if ((⟨#[40]⟩ : ByteArray) ++ ((t170 ++ (rdOf ByteArray.empty y171 (wrap64 (a0_0 - 4)))) ++ t176)).size + 1 ≤ 9223372036854775807 then (some (((⟨#[40]⟩ : ByteArray) ++ ((t170 ++ (rdOf ByteArray.empty y171 (wrap64 (a0_0 - 4)))) ++ t176)) ++ (⟨#[41]⟩ : ByteArray))) else (none)) else (none)) else (some ((t170 ++ (rdOf ByteArray.empty y171 (wrap64 (a0_0 - 4)))) ++ t176))) else (none))) else (none)) else (none)) else (none)) else (none))) = some r := H
     have A42 := Ak A420
     clear A420
     obtain ⟨y171, hy171⟩ : ∃ y_ : List ByteArray, y_ = (([(⟨#[32, 43, 32]⟩ : ByteArray), (⟨#[32, 45, 32]⟩ : ByteArray), (⟨#[32, 42, 32]⟩ : ByteArray), (⟨#[32, 47, 32]⟩ : ByteArray), (⟨#[32, 37, 32]⟩ : ByteArray)] : List ByteArray)) := ⟨_, rfl⟩
     replace H : (if 0 ≤ (wrap64 (a0_0 - 4)) then (if (wrap64 (a0_0 - 4)) < (y171.length : Int) then (if t170.size + (rdOf ByteArray.empty y171 (wrap64 (a0_0 - 4))).size ≤ 9223372036854775807 then (if 1 < (l0_2.length : Int) then ((spec_l10Text.f k ((rd_T25 l0_2 1).f0) ((rd_T25 l0_2 1).f1) ((rd_T25 l0_2 1).f2) (wrap64 (t163 + 1))).bind fun t176 => (if (t170 ++ (rdOf ByteArray.empty y171 (wrap64 (a0_0 - 4)))).size + t176.size ≤ 9223372036854775807 then (if t163 < a1 then (if 1 + ((t170 ++ (rdOf ByteArray.empty y171 (wrap64 (a0_0 - 4)))) ++ t176).size ≤ 9223372036854775807 then (if ((⟨#[40]⟩ : ByteArray) ++ ((t170 ++ (rdOf ByteArray.empty y171 (wrap64 (a0_0 - 4)))) ++ t176)).size + 1 ≤ 9223372036854775807 then (some (((⟨#[40]⟩ : ByteArray) ++ ((t170 ++ (rdOf ByteArray.empty y171 (wrap64 (a0_0 - 4)))) ++ t176)) ++ (⟨#[41]⟩ : ByteArray))) else (none)) else (none)) else (some ((t170 ++ (rdOf ByteArray.empty y171 (wrap64 (a0_0 - 4)))) ++ t176))) else (none))) else (none)) else (none)) else (none)) else (none)) = some r := by first | (rw [hy171]; with_reducible exact H) | (have H2_ := (Option.bind_some _ _).symm.trans H; rw [hy171]; with_reducible exact H2_) | (have H2_ := (Option.bind_some _ _).symm.trans H; with_reducible exact H2_) | with_reducible exact H | (rw [hy171]; exact H) | exact H
     have Ny171 := Ak hy171
     clear hy171
     obtain ⟨ji43, hji43⟩ : ∃ j_ : Int, (wrap64 (a0_0 - 4)) = j_ := ⟨_, rfl⟩
     replace H : (if 0 ≤ (ji43) then (if (ji43) < (y171.length : Int) then (if t170.size + (rdOf ByteArray.empty y171 (ji43)).size ≤ 9223372036854775807 then (if 1 < (l0_2.length : Int) then ((spec_l10Text.f k ((rd_T25 l0_2 1).f0) ((rd_T25 l0_2 1).f1) ((rd_T25 l0_2 1).f2) (wrap64 (t163 + 1))).bind fun t176 => (if (t170 ++ (rdOf ByteArray.empty y171 (ji43))).size + t176.size ≤ 9223372036854775807 then (if t163 < a1 then (if 1 + ((t170 ++ (rdOf ByteArray.empty y171 (ji43))) ++ t176).size ≤ 9223372036854775807 then (if ((⟨#[40]⟩ : ByteArray) ++ ((t170 ++ (rdOf ByteArray.empty y171 (ji43))) ++ t176)).size + 1 ≤ 9223372036854775807 then (some (((⟨#[40]⟩ : ByteArray) ++ ((t170 ++ (rdOf ByteArray.empty y171 (ji43))) ++ t176)) ++ (⟨#[41]⟩ : ByteArray))) else (none)) else (none)) else (some ((t170 ++ (rdOf ByteArray.empty y171 (ji43))) ++ t176))) else (none))) else (none)) else (none)) else (none)) else (none)) = some r := by first | (rw [hji43] at H; exact H) | (simp only [hji43] at H ⊢; exact H)
     (try rw [hji43] at A3)
     (try rw [hji43] at A42)
     have hji43w : (IntKind.i64.wrap (a0_0 - 4)) = ji43 := (i64_w _).trans hji43
     by_cases c44 : 0 ≤ (ji43)
     ·rw [if_pos c44] at H
      have c44b0 : decide (0 ≤ (ji43)) = true := decide_eq_true c44
      clear c44
      by_cases c45 : (ji43) < (y171.length : Int)
      ·rw [if_pos c45] at H
       have c45b0 : decide ((ji43) < (y171.length : Int)) = true := decide_eq_true c45
       clear c45
       by_cases c46 : t170.size + (rdOf ByteArray.empty y171 (ji43)).size ≤ 9223372036854775807
       ·rw [if_pos c46] at H
        have c46b0 := eq_true c46
        have c46b1 : decide (t170.size + (rdOf ByteArray.empty y171 (ji43)).size ≤ 9223372036854775807) = true := decide_eq_true c46
        try have c46b2 : (9223372036854775807 < t170.size + (rdOf ByteArray.empty y171 (ji43)).size) = False := eq_false (Nat.not_lt.2 c46)
        by_cases c47 : 1 < (l0_2.length : Int)
        ·rw [if_pos c47] at H
         have c47b0 : decide (1 < (l0_2.length : Int)) = true := decide_eq_true c47
         have c47b1 : decide (1 < l0_2.length) = true := decide_eq_true (by omega)
         clear c47
         replace H := Option.bind_eq_some_iff.mp H
         obtain ⟨t176, A480, H⟩ := H
         replace H : (if (t170 ++ (rdOf ByteArray.empty y171 (ji43))).size + t176.size ≤ 9223372036854775807 then (if t163 < a1 then (if 1 + ((t170 ++ (rdOf ByteArray.empty y171 (ji43))) ++ t176).size ≤ 9223372036854775807 then (if ((⟨#[40]⟩ : ByteArray) ++ ((t170 ++ (rdOf ByteArray.empty y171 (ji43))) ++ t176)).size + 1 ≤ 9223372036854775807 then (some (((⟨#[40]⟩ : ByteArray) ++ ((t170 ++ (rdOf ByteArray.empty y171 (ji43))) ++ t176)) ++ (⟨#[41]⟩ : ByteArray))) else (none)) else (none)) else (some ((t170 ++ (rdOf ByteArray.empty y171 (ji43))) ++ t176))) else (none)) = some r := H
         have A48 := Ak A480
         clear A480
         by_cases c49 : (t170 ++ (rdOf ByteArray.empty y171 (ji43))).size + t176.size ≤ 9223372036854775807
         ·rw [if_pos c49] at H
          have c49b0 := eq_true c49
          have c49b1 : decide ((t170 ++ (rdOf ByteArray.empty y171 (ji43))).size + t176.size ≤ 9223372036854775807) = true := decide_eq_true c49
          try have c49b2 : (9223372036854775807 < (t170 ++ (rdOf ByteArray.empty y171 (ji43))).size + t176.size) = False := eq_false (Nat.not_lt.2 c49)
          have c49n := c49
          (simp only [ByteArray.size_append', ByteArray.size_mk', ByteArray.size_extract, List.size_toArray, List.length_cons, List.length_nil] at c49n)
          by_cases c50 : t163 < a1
          ·rw [if_pos c50] at H
           have c50b0 : decide (t163 < a1) = true := decide_eq_true c50
           clear c50
           by_cases c51 : 1 + ((t170 ++ (rdOf ByteArray.empty y171 (ji43))) ++ t176).size ≤ 9223372036854775807
           ·rw [if_pos c51] at H
            have c51b0 := eq_true c51
            have c51b1 : decide (1 + ((t170 ++ (rdOf ByteArray.empty y171 (ji43))) ++ t176).size ≤ 9223372036854775807) = true := decide_eq_true c51
            try have c51b2 : (9223372036854775807 < 1 + ((t170 ++ (rdOf ByteArray.empty y171 (ji43))) ++ t176).size) = False := eq_false (Nat.not_lt.2 c51)
            have c51n := c51
            (simp only [ByteArray.size_append', ByteArray.size_mk', ByteArray.size_extract, List.size_toArray, List.length_cons, List.length_nil] at c51n)
            by_cases c52 : ((⟨#[40]⟩ : ByteArray) ++ ((t170 ++ (rdOf ByteArray.empty y171 (ji43))) ++ t176)).size + 1 ≤ 9223372036854775807
            ·rw [if_pos c52] at H
             have c52b0 := eq_true c52
             have c52b1 : decide (((⟨#[40]⟩ : ByteArray) ++ ((t170 ++ (rdOf ByteArray.empty y171 (ji43))) ++ t176)).size + 1 ≤ 9223372036854775807) = true := decide_eq_true c52
             try have c52b2 : (9223372036854775807 < ((⟨#[40]⟩ : ByteArray) ++ ((t170 ++ (rdOf ByteArray.empty y171 (ji43))) ++ t176)).size + 1) = False := eq_false (Nat.not_lt.2 c52)
             have c52n := c52
             (simp only [ByteArray.size_append', ByteArray.size_mk', ByteArray.size_extract, List.size_toArray, List.length_cons, List.length_nil] at c52n)
             obtain rfl := Option.some.inj H
             go_enter Tryd.func54, Tryd.ntmps54
             try go_wp2_with (first | ((with_reducible refine gate_dst (N := 2) rfl ?_); refine Qk 2 #[.int .i64 a0_0, .int .i64 a0_1, .slice A0_2 l0_2.length c0_2] 25 ?_; intro gb162 hg w53 hbox hb; have n0_ := Ak (below_step (Qb HB.out) hb); have n1_ := Ak (hbox); have n2_ := Ak ((Qp hg HB.out : w.heap.size ≤ gb162)); have n3_ := Ak ((Qp hg HB.out : w.heap.size ≤ gb162)); clear HB; have HB := n0_; have BK162 := n1_; have GW162 := n2_; have GE162 := n3_; clear n0_ n1_ n2_ n3_; clear hb hbox hg; obtain ⟨hcz54_0, hcz54_1, hcz54_2⟩ := Qu3 BK162.out; have hfz54_0 := blk_frozen BK162.out 0; have hfz54_1 := blk_frozen BK162.out 1; have hfz54_2 := blk_frozen BK162.out 2) | ((with_reducible refine gate_callee (f := 97) rfl ?_); refine Qj (some 9) Tryd.func97 #[.int .i64 a0_0] ?_; (with_reducible refine (spec_l10Level.calls k a0_0 t163 _ A3.out).mono ?_); rintro e w' ⟨rfl, ⟨nd, rfl⟩⟩; refine ⟨_, rfl, ?_⟩))
             have pi174 : (0 ≤ ((ji43) : Int)) = True := eq_true (Qg)
             have qi174 : ((ji43) < (y171.length : Int)) = True := eq_true (Qg)
             (try (rw [drewN_self w53]; generalize hq_ : World.drewN w53 _ = w53; have n0_ : Aside0 (w53.heap[gb162]? = some (.cells #[.int .i64 a0_0, .int .i64 a0_1, .slice A0_2 l0_2.length c0_2] 25 (0, 0))) := ⟨by rw [← hq_]; exact (Qa BK162.out)⟩; have n1_ : Aside0 (Below w.heap.size w w53) := ⟨by rw [← hq_]; exact (Qb HB.out)⟩; clear BK162 HB hq_; have BK162 := n0_; have HB := n1_; clear n0_ n1_))
             have n0_ := Ak (blk_drew BK162.out)
             have n1_ := Ak (below_drew1 HB.out)
             clear BK162 HB
             have BK162 := n0_
             have HB := n1_
             clear n0_ n1_
             have p169 : 0 ≤ (0 : Int) := (by omega)
             have q169 : 0 < (l0_2.length : Int) := Qg
             obtain ⟨ad169, A169_2, c169_2, e169, hx169_0, hx169_1, hx169_2, hl169_2, hi169_2⟩ := at_T25 HR0_2.out 0 p169 q169
             have hw169_2 := hx169_2
             (try rw [show ((0 : Int)).toNat = 0 from rfl] at hw169_2)
             (try rw [show 0 * 3 = 0 from rfl] at hw169_2)
             (try rw [Addr.add_zero'] at hw169_2)
             have hw169_1 := hx169_1
             (try rw [show ((0 : Int)).toNat = 0 from rfl] at hw169_1)
             (try rw [show 0 * 3 = 0 from rfl] at hw169_1)
             (try rw [Addr.add_zero'] at hw169_1)
             have hw169_0 := hx169_0
             (try rw [show ((0 : Int)).toNat = 0 from rfl] at hw169_0)
             (try rw [show 0 * 3 = 0 from rfl] at hw169_0)
             (try rw [Addr.add_zero'] at hw169_0)
             cases e169
             have qi169 : (0 < l0_2.length) = True := eq_true (by omega)
             (try rw [show ((0 : Int)).toNat = 0 from rfl] at hx169_0)
             (try rw [show 0 * 3 = 0 from rfl] at hx169_0)
             (try rw [Addr.add_zero'] at hx169_0)
             (try rw [show ((0 : Int)).toNat = 0 from rfl] at hx169_1)
             (try rw [show 0 * 3 = 0 from rfl] at hx169_1)
             (try rw [Addr.add_zero'] at hx169_1)
             (try rw [show ((0 : Int)).toNat = 0 from rfl] at hx169_2)
             (try rw [show 0 * 3 = 0 from rfl] at hx169_2)
             (try rw [Addr.add_zero'] at hx169_2)
             (try replace hx169_0 := (HB.out.cell (World.block_lt_of_cell? w _ hx169_0)).trans hx169_0)
             (try replace hx169_1 := (HB.out.cell (World.block_lt_of_cell? w _ hx169_1)).trans hx169_1)
             (try replace hx169_2 := (HB.out.cell (World.block_lt_of_cell? w _ hx169_2)).trans hx169_2)
             have HR169_2 := Ak hi169_2
             have HC169_2 := Ak hl169_2
             clear hi169_2 hl169_2
             replace p169 := eq_true p169
             replace q169 := eq_true q169
             have p175 : 0 ≤ (1 : Int) := (by omega)
             have q175 : 1 < (l0_2.length : Int) := Qg
             obtain ⟨ad175, A175_2, c175_2, e175, hx175_0, hx175_1, hx175_2, hl175_2, hi175_2⟩ := at_T25 HR0_2.out 1 p175 q175
             have hw175_2 := hx175_2
             (try rw [show ((1 : Int)).toNat = 1 from rfl] at hw175_2)
             (try rw [show 1 * 3 = 3 from rfl] at hw175_2)
             (try simp only [Nat.reduceMul, Nat.reduceEqDiff, Go.Addr.add, ↓reduceIte] at hw175_2)
             have hw175_1 := hx175_1
             (try rw [show ((1 : Int)).toNat = 1 from rfl] at hw175_1)
             (try rw [show 1 * 3 = 3 from rfl] at hw175_1)
             (try simp only [Nat.reduceMul, Nat.reduceEqDiff, Go.Addr.add, ↓reduceIte] at hw175_1)
             have hw175_0 := hx175_0
             (try rw [show ((1 : Int)).toNat = 1 from rfl] at hw175_0)
             (try rw [show 1 * 3 = 3 from rfl] at hw175_0)
             (try simp only [Nat.reduceMul, Nat.reduceEqDiff, Go.Addr.add, ↓reduceIte] at hw175_0)
             obtain rfl : ad169 = ad175 := (by injection e175)
             (try simp only [show (1 : Int).toNat = 1 from rfl, Nat.reduceMul, Nat.reduceEqDiff, Go.Addr.add, ↓reduceIte] at hx175_0)
             (try simp only [show (1 : Int).toNat = 1 from rfl, Nat.reduceMul, Nat.reduceEqDiff, Go.Addr.add, ↓reduceIte] at hx175_1)
             (try simp only [show (1 : Int).toNat = 1 from rfl, Nat.reduceMul, Nat.reduceEqDiff, Go.Addr.add, ↓reduceIte] at hx175_2)
             have qi175 : (1 < l0_2.length) = True := eq_true (by omega)
             (try rw [show ((1 : Int)).toNat = 1 from rfl] at hx175_0)
             (try rw [show 1 * 3 = 3 from rfl] at hx175_0)
             (try rw [show ((1 : Int)).toNat = 1 from rfl] at hx175_1)
             (try rw [show 1 * 3 = 3 from rfl] at hx175_1)
             (try rw [show ((1 : Int)).toNat = 1 from rfl] at hx175_2)
             (try rw [show 1 * 3 = 3 from rfl] at hx175_2)
             (try replace hx175_0 := (HB.out.cell (World.block_lt_of_cell? w _ hx175_0)).trans hx175_0)
             (try replace hx175_1 := (HB.out.cell (World.block_lt_of_cell? w _ hx175_1)).trans hx175_1)
             (try replace hx175_2 := (HB.out.cell (World.block_lt_of_cell? w _ hx175_2)).trans hx175_2)
             have HR175_2 := Ak hi175_2
             have HC175_2 := Ak hl175_2
             clear hi175_2 hl175_2
             replace p175 := eq_true p175
             replace q175 := eq_true q175
             refine start_ (n := 22) (S := fun w' => True) (ds := []) #[false, false, false, false, false, false, false, false, false, false, false, false, false, false, false, false, false, false, false, false, false, false] (by kernel_rfl) rfl rfl trivial (fun hHeld => ?_); refine with_tabW spec_l10Text.tab4 spec_l10Text.bits4 (fun HT_ HW_ => ?_)
             generalize w53.drew = w55 at BK162 HB HR169_2 HR175_2 hx169_0 hx169_1 hx169_2 hx175_0 hx175_1 hx175_2 hHeld ⊢
             refine pure_ (i := 0) (N := some 12) (v := ?_) (a' := ?_) #[true, false, false, false, false, false, false, false, false, false, false, false, false, false, false, false, false, false, false, false, false, false] rfl rfl (any_of HT_.out (by kernel_rfl)) (fun _ _ _ h => h) (Or.inl ⟨by rfl, ?_⟩) ?_ ?_
             rotate_left
             ·intro w'
              first | (go_simp; with_reducible rfl) | (go_simp; refine (if_neg (by omega)).trans ?_; with_reducible rfl)
             rotate_left
             ·simp only [Act.put, List.setIfInBounds_toArray, List.set_cons_zero, List.set_cons_succ, i64_w, i32_w]
              rfl
             refine pure_ (i := 4) (N := some 16) (v := ?_) (a' := ?_) #[true, false, false, false, true, false, false, false, false, false, false, false, false, false, false, false, false, false, false, false, false, false] rfl rfl (any_of HT_.out (by kernel_rfl)) (fun _ _ _ h => h) (Or.inl ⟨by rfl, ?_⟩) ?_ ?_
             rotate_left
             ·intro w'
              first | (go_simp; with_reducible rfl) | (go_simp; refine (if_neg (by omega)).trans ?_; with_reducible rfl)
             rotate_left
             ·simp only [Act.put, List.setIfInBounds_toArray, List.set_cons_zero, List.set_cons_succ, i64_w, i32_w]
              rfl
             refine pure_ (i := 7) (N := some 19) (v := ?_) (a' := ?_) #[true, false, false, false, true, false, false, true, false, false, false, false, false, false, false, false, false, false, false, false, false, false] rfl rfl (any_of HT_.out (by kernel_rfl)) (fun _ _ _ h => h) (Or.inl ⟨by rfl, ?_⟩) ?_ ?_
             rotate_left
             ·intro w'
              first | (go_simp; with_reducible rfl) | (go_simp; refine (if_neg (by omega)).trans ?_; with_reducible rfl)
             rotate_left
             ·simp only [Act.put, List.setIfInBounds_toArray, List.set_cons_zero, List.set_cons_succ, i64_w, i32_w]
              rfl
             refine pure_ (i := 13) (N := some 25) (v := ?_) (a' := ?_) #[true, false, false, false, true, false, false, true, false, false, false, false, false, true, false, false, false, false, false, false, false, false] rfl rfl (any_of HT_.out (by kernel_rfl)) (fun _ _ _ h => h) (Or.inl ⟨by rfl, ?_⟩) ?_ ?_
             rotate_left
             ·intro w'
              first | (go_simp; with_reducible rfl) | (go_simp; refine (if_neg (by omega)).trans ?_; with_reducible rfl)
             rotate_left
             ·simp only [Act.put, List.setIfInBounds_toArray, List.set_cons_zero, List.set_cons_succ, i64_w, i32_w]
              rfl
             refine pure_ (i := 17) (N := some 29) (v := ?_) (a' := ?_) #[true, false, false, false, true, false, false, true, false, false, false, false, false, true, false, false, false, true, false, false, false, false] rfl rfl (any_of HT_.out (by kernel_rfl)) (fun _ _ _ h => h) (Or.inl ⟨by rfl, ?_⟩) ?_ ?_
             rotate_left
             ·intro w'
              first | (go_simp; with_reducible rfl) | (go_simp; refine (if_neg (by omega)).trans ?_; with_reducible rfl)
             rotate_left
             ·simp only [Act.put, List.setIfInBounds_toArray, List.set_cons_zero, List.set_cons_succ, i64_w, i32_w]
              rfl
             refine inv_at [1, 2, 3, 5, 6, 8, 9, 10, 11, 12, 14, 15, 16, 18, 19, 20, 21] (fun a0_ b a w' => ∃ (v172 : Value) (adz_v172 : Addr) (m10_ : Value), a = putSel a0_ b [(1, 13, .slice (some ad169) l0_2.length c0_2), (2, 14, .pointer (some ad169)), (3, 15, .agg #[.int .i64 ((rd_T25 l0_2 0).f0), .int .i64 ((rd_T25 l0_2 0).f1), .slice A169_2 ((rd_T25 l0_2 0).f2).length c169_2]), (5, 17, .string t170), (6, 18, v172), (8, 20, .int .i64 a0_0), (9, 21, .int .i64 ji43), (10, 22, m10_), (11, 23, .string (rdOf ByteArray.empty y171 (ji43))), (12, 24, .string (t170 ++ (rdOf ByteArray.empty y171 (ji43)))), (14, 26, .slice (some ad169) l0_2.length c0_2), (15, 27, .pointer (some (ad169.add 3))), (16, 28, .agg #[.int .i64 ((rd_T25 l0_2 1).f0), .int .i64 ((rd_T25 l0_2 1).f1), .slice A175_2 ((rd_T25 l0_2 1).f2).length c175_2]), (18, 30, .int .i64 (wrap64 (t163 + 1))), (19, 31, .string t176), (20, 32, .string ((t170 ++ (rdOf ByteArray.empty y171 (ji43))) ++ t176)), (21, 5, .string ((t170 ++ (rdOf ByteArray.empty y171 (ji43))) ++ t176))] ∧ (w'.heap[gb162]? = some (.cells #[.int .i64 a0_0, .int .i64 a0_1, .slice (some ad169) l0_2.length c0_2] 25 (0, 0))) ∧ (Below w.heap.size w w') ∧ (b 6 = true → Kd.R Kd.string 9 w' w.heap.size (fun _ => True) v172 y171) ∧ (b 6 = true → ∃ c_, (v172 : Value) = .slice (some adz_v172) y171.length c_) ∧ (b 10 = true → (m10_ : Value) = .pointer (some (adz_v172.add ((ji43)).toNat)))) HT_.out HW_.out (by kernel_rfl) (by kernel_rfl) ?_ ?_ ?_
             ·exact ⟨.bool false, ⟨0, 0, none⟩, .bool false, by simp only [putSel, Bool.false_eq_true, if_false], BK162.out, HB.out, fun h_ => absurd h_ (by decide), fun h_ => absurd h_ (by decide), fun h_ => absurd h_ (by decide)⟩
             ·skip
              clear BK162 HB
              refine steps_cons ?_ ?_
              ·rintro b a w' ⟨v172, adz_v172, m10_, ha, Q_BK162, Q_HB, Q_HO173, Q_HA_HO173, Q_X10_⟩ hb_ hon hoff
               refine ⟨_, rfl, fun K hK => ?_⟩
               have e12 : a.tmps[12]? = some (.pointer (some ⟨gb162, 2, none⟩)) := by rw [ha]; exact (putSel_off rfl).trans rfl
               replace ha := Ak ha
               have BK162 := Ak Q_BK162
               have HB := Ak Q_HB
               have hc0_ : w'.cell? ⟨gb162, 0, none⟩ = some (.int .i64 a0_0) := (blk_cell BK162.out 0).trans rfl
               have hc1_ : w'.cell? ⟨gb162, 1, none⟩ = some (.int .i64 a0_1) := (blk_cell BK162.out 1).trans rfl
               have hc2_ : w'.cell? ⟨gb162, 2, none⟩ = some (.slice (some ad169) l0_2.length c0_2) := (blk_cell BK162.out 2).trans rfl
               refine value_ (w1 := w') (v := .slice (some ad169) l0_2.length c0_2) (by rfl) rfl ?_ ?_
               ·go_simp
                (try simp only [i64_w])
                try rfl
               refine hK.out _ _ ⟨v172, adz_v172, m10_, (by rw [ha.out]; exact putSel_upk 0 hb_ rfl rfl rfl), Q_BK162, Q_HB, Q_HO173, Q_HA_HO173, Q_X10_⟩
              refine steps_cons ?_ ?_
              ·rintro b a w' ⟨v172, adz_v172, m10_, ha, Q_BK162, Q_HB, Q_HO173, Q_HA_HO173, Q_X10_⟩ hb_ hon hoff
               refine ⟨_, rfl, fun K hK => ?_⟩
               have e13 : a.tmps[13]? = some (.slice (some ad169) l0_2.length c0_2) := by rw [ha]; exact putSel_on (e := (1, 13, .slice (some ad169) l0_2.length c0_2)) 0 rfl rfl (hon 1 (by kernel_rfl)) rfl
               replace ha := Ak ha
               have BK162 := Ak Q_BK162
               have HB := Ak Q_HB
               have hs0_ : w'.cell? ad169 = some (.int .i64 ((rd_T25 l0_2 0).f0)) := ((HB.out.cell (World.block_lt_of_cell? w _ hw169_0)).trans hw169_0)
               have hs1_ : w'.cell? ⟨ad169.block, ad169.off + 1, none⟩ = some (.int .i64 ((rd_T25 l0_2 0).f1)) := ((HB.out.cell (World.block_lt_of_cell? w _ hw169_1)).trans hw169_1)
               have hs2_ : w'.cell? ⟨ad169.block, ad169.off + 2, none⟩ = some (.slice A169_2 ((rd_T25 l0_2 0).f2).length c169_2) := ((HB.out.cell (World.block_lt_of_cell? w _ hw169_2)).trans hw169_2)
               refine value_ (w1 := w') (v := .pointer (some ad169)) (by rfl) rfl ?_ ?_
               ·go_simp
                (try simp only [i64_w])
                try rfl
               refine hK.out _ _ ⟨v172, adz_v172, m10_, (by rw [ha.out]; exact putSel_upk 1 hb_ rfl rfl rfl), Q_BK162, Q_HB, Q_HO173, Q_HA_HO173, Q_X10_⟩
              refine steps_cons ?_ ?_
              ·rintro b a w' ⟨v172, adz_v172, m10_, ha, Q_BK162, Q_HB, Q_HO173, Q_HA_HO173, Q_X10_⟩ hb_ hon hoff
               refine ⟨_, rfl, fun K hK => ?_⟩
               have e14 : a.tmps[14]? = some (.pointer (some ad169)) := by rw [ha]; exact putSel_on (e := (2, 14, .pointer (some ad169))) 1 rfl rfl (hon 2 (by kernel_rfl)) rfl
               replace ha := Ak ha
               have BK162 := Ak Q_BK162
               have HB := Ak Q_HB
               have hs0_ : w'.cell? ad169 = some (.int .i64 ((rd_T25 l0_2 0).f0)) := ((HB.out.cell (World.block_lt_of_cell? w _ hw169_0)).trans hw169_0)
               have hs1_ : w'.cell? ⟨ad169.block, ad169.off + 1, none⟩ = some (.int .i64 ((rd_T25 l0_2 0).f1)) := ((HB.out.cell (World.block_lt_of_cell? w _ hw169_1)).trans hw169_1)
               have hs2_ : w'.cell? ⟨ad169.block, ad169.off + 2, none⟩ = some (.slice A169_2 ((rd_T25 l0_2 0).f2).length c169_2) := ((HB.out.cell (World.block_lt_of_cell? w _ hw169_2)).trans hw169_2)
               refine value_ (w1 := w') (v := .agg #[.int .i64 ((rd_T25 l0_2 0).f0), .int .i64 ((rd_T25 l0_2 0).f1), .slice A169_2 ((rd_T25 l0_2 0).f2).length c169_2]) (by rfl) rfl ?_ ?_
               ·go_simp
                (try simp only [i64_w])
                try rfl
               refine hK.out _ _ ⟨v172, adz_v172, m10_, (by rw [ha.out]; exact putSel_upk 2 hb_ rfl rfl rfl), Q_BK162, Q_HB, Q_HO173, Q_HA_HO173, Q_X10_⟩
              refine steps_cons ?_ ?_
              ·rintro b a w' ⟨v172, adz_v172, m10_, ha, Q_BK162, Q_HB, Q_HO173, Q_HA_HO173, Q_X10_⟩ hb_ hon hoff
               refine ⟨_, rfl, fun K hK => ?_⟩
               have e15 : a.tmps[15]? = some (.agg #[.int .i64 ((rd_T25 l0_2 0).f0), .int .i64 ((rd_T25 l0_2 0).f1), .slice A169_2 ((rd_T25 l0_2 0).f2).length c169_2]) := by rw [ha]; exact putSel_on (e := (3, 15, .agg #[.int .i64 ((rd_T25 l0_2 0).f0), .int .i64 ((rd_T25 l0_2 0).f1), .slice A169_2 ((rd_T25 l0_2 0).f2).length c169_2])) 2 rfl rfl (hon 3 (by kernel_rfl)) rfl
               have e16 : a.tmps[16]? = some (.int .i64 t163) := by rw [ha]; exact (putSel_off rfl).trans rfl
               replace ha := Ak ha
               have BK162 := Ak Q_BK162
               have HB := Ak Q_HB
               refine goes_ Tryd.func54 (by kernel_rfl) rfl #[.agg #[.int .i64 ((rd_T25 l0_2 0).f0), .int .i64 ((rd_T25 l0_2 0).f1), .slice A169_2 ((rd_T25 l0_2 0).f2).length c169_2], .int .i64 t163] (by rfl) rfl rfl (by first | (simp only [List.map_toArray, List.map_cons, List.map_nil, Act.eval, Array.getD_eq_getD_getElem?, Option.getD_some, e15, e16]; done) | (simp only [List.map_toArray, List.map_cons, List.map_nil, Act.eval, Array.getD_eq_getD_getElem?, Option.getD_some, e15, e16]; rfl)) ?_
               with_reducible refine (ih k (by omega) ((rd_T25 l0_2 0).f0) ((rd_T25 l0_2 0).f1) _ _ ((rd_T25 l0_2 0).f2) t163 t170 _ ?side1 ?side2 A42.out).mono ?_
               (case side1 => repeat (first | exact (Kd.C_below HR169_2.out HB.out) | (with_reducible refine Kd.C_alloc ?_ _) | (with_reducible refine Kd.C_drewN ?_ _) | (with_reducible refine Kd.C_drew ?_)))
               (case side2 => exact HC169_2.out)
               rintro e w56 ⟨rfl, hb⟩
               refine ⟨_, rfl, ?_⟩
               have n0_ := Ak (Qm BK162.out hb)
               have n1_ := Ak (below_step (Qb HB.out) hb)
               have z_HO173 := fun (h0_ : b 6 = true) => (show Kd.R Kd.string 9 w56 w.heap.size (fun _ => True) v172 y171 from by first | exact (Kd.R_below (by refine Qf ?_; exact (Q_HO173 h0_)) hb) | exact Kd.R_mono (Kd.R_below (by refine Qf ?_; exact (Q_HO173 h0_)) hb) (fun _ h_ => by first | trivial | exact h_ | exact h_.1))
               clear BK162 HB
               have BK162 := n0_
               have HB := n1_
               clear n0_ n1_
               (try clear hb); (try clear hb2); (try clear hk); (try clear hi)
               refine hK.out _ _ ⟨v172, adz_v172, m10_, (by rw [ha.out]; exact putSel_upk 3 hb_ rfl rfl rfl), (Qa BK162.out), (Qb HB.out), z_HO173, Q_HA_HO173, Q_X10_⟩
              refine steps_cons ?_ ?_
              ·rintro b a w' ⟨v172, adz_v172, m10_, ha, Q_BK162, Q_HB, Q_HO173, Q_HA_HO173, Q_X10_⟩ hb_ hon hoff
               refine ⟨_, rfl, fun K hK => ?_⟩
               replace ha := Ak ha
               have BK162 := Ak Q_BK162
               have HB := Ak Q_HB
               refine Kd.R_lit_step Kd.string _ 9 ?hg (N := 18) ?hd (xs := ([(⟨#[32, 43, 32]⟩ : ByteArray), (⟨#[32, 45, 32]⟩ : ByteArray), (⟨#[32, 42, 32]⟩ : ByteArray), (⟨#[32, 47, 32]⟩ : ByteArray), (⟨#[32, 37, 32]⟩ : ByteArray)] : List ByteArray)) (inner := [.string (⟨#[32, 43, 32]⟩ : ByteArray), .string (⟨#[32, 45, 32]⟩ : ByteArray), .string (⟨#[32, 42, 32]⟩ : ByteArray), .string (⟨#[32, 47, 32]⟩ : ByteArray), .string (⟨#[32, 37, 32]⟩ : ByteArray)]) (ok := fun _ => True) (okp := fun _ => True) ?hr ?hp (fun _ hk => hk) trivial (Below.refl _ _) (Nat.le_refl _) (by simp) ?_; (case hd => rfl); (case hg => rfl); (case hr => first | (go_simp; done) | (go_simp; rfl)); (case hp => exact (Reps.one (show Kd.M Kd.string _ _ _ (⟨#[32, 43, 32]⟩ : ByteArray) [.string (⟨#[32, 43, 32]⟩ : ByteArray)] from rfl) (Reps.one (show Kd.M Kd.string _ _ _ (⟨#[32, 45, 32]⟩ : ByteArray) [.string (⟨#[32, 45, 32]⟩ : ByteArray)] from rfl) (Reps.one (show Kd.M Kd.string _ _ _ (⟨#[32, 42, 32]⟩ : ByteArray) [.string (⟨#[32, 42, 32]⟩ : ByteArray)] from rfl) (Reps.one (show Kd.M Kd.string _ _ _ (⟨#[32, 47, 32]⟩ : ByteArray) [.string (⟨#[32, 47, 32]⟩ : ByteArray)] from rfl) (Reps.one (show Kd.M Kd.string _ _ _ (⟨#[32, 37, 32]⟩ : ByteArray) [.string (⟨#[32, 37, 32]⟩ : ByteArray)] from rfl) (Reps.none _ _)))))))
               intro v172 w56 ho57 hb hg_ hnew_
               clear hg_ hnew_
               (first | rw [← Ny171.out] at ho57 | (simp only [Int.reduceToNat] at ho57; rw [← Ny171.out] at ho57))
               have n0_ := Ak (Kd.R_lower ho57 (below_size (Qb HB.out)))
               have n1_ := Ak (Qm BK162.out hb)
               have n2_ := Ak (below_step (Qb HB.out) hb)
               clear BK162 HB
               have HO173 := n0_
               have BK162 := n1_
               have HB := n2_
               clear n0_ n1_ n2_
               clear hb ho57
               obtain ⟨Ao58, co58, eo58⟩ := Kd.R_slice HO173.out
               subst eo58
               obtain ⟨ado58, fo58, _⟩ := Kd.at_string (Kd.R_reads' HO173.out).2.2 0 (by decide) (by rw [Ny171.out]; simp)
               cases fo58
               refine hK.out _ _ ⟨.slice (some ado58) y171.length co58, ado58, m10_, (by rw [ha.out]; exact putSel_upk 4 hb_ rfl rfl rfl), (Qa BK162.out), (Qb HB.out), fun _ => (Qc HO173.out), fun _ => ⟨_, rfl⟩, fun h0_ => absurd ((hoff 10 (by kernel_rfl)).symm.trans h0_) (by decide)⟩
              refine steps_cons ?_ ?_
              ·rintro b a w' ⟨v172, adz_v172, m10_, ha, Q_BK162, Q_HB, Q_HO173, Q_HA_HO173, Q_X10_⟩ hb_ hon hoff
               refine ⟨_, rfl, fun K hK => ?_⟩
               have e19 : a.tmps[19]? = some (.pointer (some ⟨gb162, 0, none⟩)) := by rw [ha]; exact (putSel_off rfl).trans rfl
               replace ha := Ak ha
               have BK162 := Ak Q_BK162
               have HB := Ak Q_HB
               have hc0_ : w'.cell? ⟨gb162, 0, none⟩ = some (.int .i64 a0_0) := (blk_cell BK162.out 0).trans rfl
               have hc1_ : w'.cell? ⟨gb162, 1, none⟩ = some (.int .i64 a0_1) := (blk_cell BK162.out 1).trans rfl
               have hc2_ : w'.cell? ⟨gb162, 2, none⟩ = some (.slice (some ad169) l0_2.length c0_2) := (blk_cell BK162.out 2).trans rfl
               refine value_ (w1 := w') (v := .int .i64 a0_0) (by rfl) rfl ?_ ?_
               ·go_simp
                (try simp only [i64_w])
                try rfl
               refine hK.out _ _ ⟨v172, adz_v172, m10_, (by rw [ha.out]; exact putSel_upk 5 hb_ rfl rfl rfl), Q_BK162, Q_HB, Q_HO173, Q_HA_HO173, fun h0_ => absurd ((hoff 10 (by kernel_rfl)).symm.trans h0_) (by decide)⟩
              refine steps_cons ?_ ?_
              ·rintro b a w' ⟨v172, adz_v172, m10_, ha, Q_BK162, Q_HB, Q_HO173, Q_HA_HO173, Q_X10_⟩ hb_ hon hoff
               refine ⟨_, rfl, fun K hK => ?_⟩
               have e20 : a.tmps[20]? = some (.int .i64 a0_0) := by rw [ha]; exact putSel_on (e := (8, 20, .int .i64 a0_0)) 5 rfl rfl (hon 8 (by kernel_rfl)) rfl
               replace ha := Ak ha
               have BK162 := Ak Q_BK162
               have HB := Ak Q_HB
               refine value_ (w1 := w') (v := .int .i64 ji43) (by rfl) rfl ?_ ?_
               ·go_simp
                (try simp only [i64_w])
                try rfl
               refine hK.out _ _ ⟨v172, adz_v172, m10_, (by rw [ha.out]; exact putSel_upk 6 hb_ rfl rfl rfl), Q_BK162, Q_HB, Q_HO173, Q_HA_HO173, fun h0_ => absurd ((hoff 10 (by kernel_rfl)).symm.trans h0_) (by decide)⟩
              refine steps_cons ?_ ?_
              ·rintro b a w' ⟨v172, adz_v172, m10_, ha, Q_BK162, Q_HB, Q_HO173, Q_HA_HO173, Q_X10_⟩ hb_ hon hoff
               refine ⟨_, rfl, fun K hK => ?_⟩
               have e18 : a.tmps[18]? = some (v172) := by rw [ha]; exact putSel_on (e := (6, 18, v172)) 4 rfl rfl (hon 6 (by kernel_rfl)) rfl
               have e21 : a.tmps[21]? = some (.int .i64 ji43) := by rw [ha]; exact putSel_on (e := (9, 21, .int .i64 ji43)) 6 rfl rfl (hon 9 (by kernel_rfl)) rfl
               replace ha := Ak ha
               have BK162 := Ak Q_BK162
               have HB := Ak Q_HB
               have HO173 := Ak (Q_HO173 (hon 6 (by kernel_rfl)))
               have HA_HO173 := Ak (Q_HA_HO173 (hon 6 (by kernel_rfl)))
               obtain ⟨c_, hv_⟩ := HA_HO173.out
               rw [hv_] at e18
               refine value_ (w1 := w') (v := .pointer (some (adz_v172.add ((ji43)).toNat))) (by rfl) rfl ?_ ?_
               ·go_simp
                (try simp only [i64_w])
                try rfl
               refine hK.out _ _ ⟨v172, adz_v172, (.pointer (some (adz_v172.add ((ji43)).toNat))), (by rw [ha.out]; exact putSel_upk 7 hb_ rfl rfl rfl), Q_BK162, Q_HB, Q_HO173, Q_HA_HO173, fun _ => rfl⟩
              refine steps_cons ?_ ?_
              ·rintro b a w' ⟨v172, adz_v172, m10_, ha, Q_BK162, Q_HB, Q_HO173, Q_HA_HO173, Q_X10_⟩ hb_ hon hoff
               refine ⟨_, rfl, fun K hK => ?_⟩
               have e22 : a.tmps[22]? = some (m10_) := by rw [ha]; exact putSel_on (e := (10, 22, m10_)) 7 rfl rfl (hon 10 (by kernel_rfl)) rfl
               rw [Q_X10_ (hon 10 (by kernel_rfl))] at e22
               replace ha := Ak ha
               have BK162 := Ak Q_BK162
               have HB := Ak Q_HB
               have HO173 := Ak (Q_HO173 (hon 6 (by kernel_rfl)))
               have HA_HO173 := Ak (Q_HA_HO173 (hon 6 (by kernel_rfl)))
               obtain ⟨c_, hv_⟩ := HA_HO173.out
               have hF_ := HO173.out
               rw [hv_] at hF_
               obtain ⟨ad_, ea_, hx_⟩ := Kd.at_string (Kd.R_reads' hF_).2.2 (ji43) (of_eq_true pi174) (of_eq_true qi174)
               cases ea_
               refine value_ (w1 := w') (v := .string (rdOf ByteArray.empty y171 (ji43))) (by rfl) rfl ?_ ?_
               ·go_simp
                (try simp only [i64_w])
                try rfl
               refine hK.out _ _ ⟨v172, adz_v172, m10_, (by rw [ha.out]; exact putSel_upk 8 hb_ rfl rfl rfl), Q_BK162, Q_HB, Q_HO173, Q_HA_HO173, Q_X10_⟩
              refine steps_cons ?_ ?_
              ·rintro b a w' ⟨v172, adz_v172, m10_, ha, Q_BK162, Q_HB, Q_HO173, Q_HA_HO173, Q_X10_⟩ hb_ hon hoff
               refine ⟨_, rfl, fun K hK => ?_⟩
               have e17 : a.tmps[17]? = some (.string t170) := by rw [ha]; exact putSel_on (e := (5, 17, .string t170)) 3 rfl rfl (hon 5 (by kernel_rfl)) rfl
               have e23 : a.tmps[23]? = some (.string (rdOf ByteArray.empty y171 (ji43))) := by rw [ha]; exact putSel_on (e := (11, 23, .string (rdOf ByteArray.empty y171 (ji43)))) 8 rfl rfl (hon 11 (by kernel_rfl)) rfl
               replace ha := Ak ha
               have BK162 := Ak Q_BK162
               have HB := Ak Q_HB
               have HO173 := Ak (Q_HO173 (hon 6 (by kernel_rfl)))
               have HA_HO173 := Ak (Q_HA_HO173 (hon 6 (by kernel_rfl)))
               refine value_ (w1 := w') (v := .string (t170 ++ (rdOf ByteArray.empty y171 (ji43)))) (by rfl) rfl ?_ ?_
               ·go_simp
                (try simp only [i64_w])
                try rfl
               refine hK.out _ _ ⟨v172, adz_v172, m10_, (by rw [ha.out]; exact putSel_upk 9 hb_ rfl rfl rfl), Q_BK162, Q_HB, Q_HO173, Q_HA_HO173, Q_X10_⟩
              refine steps_cons ?_ ?_
              ·rintro b a w' ⟨v172, adz_v172, m10_, ha, Q_BK162, Q_HB, Q_HO173, Q_HA_HO173, Q_X10_⟩ hb_ hon hoff
               refine ⟨_, rfl, fun K hK => ?_⟩
               have e25 : a.tmps[25]? = some (.pointer (some ⟨gb162, 2, none⟩)) := by rw [ha]; exact (putSel_off rfl).trans rfl
               replace ha := Ak ha
               have BK162 := Ak Q_BK162
               have HB := Ak Q_HB
               have hc0_ : w'.cell? ⟨gb162, 0, none⟩ = some (.int .i64 a0_0) := (blk_cell BK162.out 0).trans rfl
               have hc1_ : w'.cell? ⟨gb162, 1, none⟩ = some (.int .i64 a0_1) := (blk_cell BK162.out 1).trans rfl
               have hc2_ : w'.cell? ⟨gb162, 2, none⟩ = some (.slice (some ad169) l0_2.length c0_2) := (blk_cell BK162.out 2).trans rfl
               refine value_ (w1 := w') (v := .slice (some ad169) l0_2.length c0_2) (by rfl) rfl ?_ ?_
               ·go_simp
                (try simp only [i64_w])
                try rfl
               refine hK.out _ _ ⟨v172, adz_v172, m10_, (by rw [ha.out]; exact putSel_upk 10 hb_ rfl rfl rfl), Q_BK162, Q_HB, Q_HO173, Q_HA_HO173, Q_X10_⟩
              refine steps_cons ?_ ?_
              ·rintro b a w' ⟨v172, adz_v172, m10_, ha, Q_BK162, Q_HB, Q_HO173, Q_HA_HO173, Q_X10_⟩ hb_ hon hoff
               refine ⟨_, rfl, fun K hK => ?_⟩
               have e26 : a.tmps[26]? = some (.slice (some ad169) l0_2.length c0_2) := by rw [ha]; exact putSel_on (e := (14, 26, .slice (some ad169) l0_2.length c0_2)) 10 rfl rfl (hon 14 (by kernel_rfl)) rfl
               replace ha := Ak ha
               have BK162 := Ak Q_BK162
               have HB := Ak Q_HB
               have hs3_ : w'.cell? ⟨ad169.block, ad169.off + 3, none⟩ = some (.int .i64 ((rd_T25 l0_2 1).f0)) := ((HB.out.cell (World.block_lt_of_cell? w _ hw175_0)).trans hw175_0)
               have hs4_ : w'.cell? ⟨ad169.block, ad169.off + 3 + 1, none⟩ = some (.int .i64 ((rd_T25 l0_2 1).f1)) := ((HB.out.cell (World.block_lt_of_cell? w _ hw175_1)).trans hw175_1)
               have hs5_ : w'.cell? ⟨ad169.block, ad169.off + 3 + 2, none⟩ = some (.slice A175_2 ((rd_T25 l0_2 1).f2).length c175_2) := ((HB.out.cell (World.block_lt_of_cell? w _ hw175_2)).trans hw175_2)
               refine value_ (w1 := w') (v := .pointer (some (ad169.add 3))) (by rfl) rfl ?_ ?_
               ·go_simp
                (try simp only [i64_w])
                try rfl
               refine hK.out _ _ ⟨v172, adz_v172, m10_, (by rw [ha.out]; exact putSel_upk 11 hb_ rfl rfl rfl), Q_BK162, Q_HB, Q_HO173, Q_HA_HO173, Q_X10_⟩
              refine steps_cons ?_ ?_
              ·rintro b a w' ⟨v172, adz_v172, m10_, ha, Q_BK162, Q_HB, Q_HO173, Q_HA_HO173, Q_X10_⟩ hb_ hon hoff
               refine ⟨_, rfl, fun K hK => ?_⟩
               have e27 : a.tmps[27]? = some (.pointer (some (ad169.add 3))) := by rw [ha]; exact putSel_on (e := (15, 27, .pointer (some (ad169.add 3)))) 11 rfl rfl (hon 15 (by kernel_rfl)) rfl
               replace ha := Ak ha
               have BK162 := Ak Q_BK162
               have HB := Ak Q_HB
               have hs3_ : w'.cell? ⟨ad169.block, ad169.off + 3, none⟩ = some (.int .i64 ((rd_T25 l0_2 1).f0)) := ((HB.out.cell (World.block_lt_of_cell? w _ hw175_0)).trans hw175_0)
               have hs4_ : w'.cell? ⟨ad169.block, ad169.off + 3 + 1, none⟩ = some (.int .i64 ((rd_T25 l0_2 1).f1)) := ((HB.out.cell (World.block_lt_of_cell? w _ hw175_1)).trans hw175_1)
               have hs5_ : w'.cell? ⟨ad169.block, ad169.off + 3 + 2, none⟩ = some (.slice A175_2 ((rd_T25 l0_2 1).f2).length c175_2) := ((HB.out.cell (World.block_lt_of_cell? w _ hw175_2)).trans hw175_2)
               refine value_ (w1 := w') (v := .agg #[.int .i64 ((rd_T25 l0_2 1).f0), .int .i64 ((rd_T25 l0_2 1).f1), .slice A175_2 ((rd_T25 l0_2 1).f2).length c175_2]) (by rfl) rfl ?_ ?_
               ·go_simp
                (try simp only [i64_w])
                try rfl
               refine hK.out _ _ ⟨v172, adz_v172, m10_, (by rw [ha.out]; exact putSel_upk 12 hb_ rfl rfl rfl), Q_BK162, Q_HB, Q_HO173, Q_HA_HO173, Q_X10_⟩
              refine steps_cons ?_ ?_
              ·rintro b a w' ⟨v172, adz_v172, m10_, ha, Q_BK162, Q_HB, Q_HO173, Q_HA_HO173, Q_X10_⟩ hb_ hon hoff
               refine ⟨_, rfl, fun K hK => ?_⟩
               have e29 : a.tmps[29]? = some (.int .i64 t163) := by rw [ha]; exact (putSel_off rfl).trans rfl
               replace ha := Ak ha
               have BK162 := Ak Q_BK162
               have HB := Ak Q_HB
               refine value_ (w1 := w') (v := .int .i64 (wrap64 (t163 + 1))) (by rfl) rfl ?_ ?_
               ·go_simp
                (try simp only [i64_w])
                try rfl
               refine hK.out _ _ ⟨v172, adz_v172, m10_, (by rw [ha.out]; exact putSel_upk 13 hb_ rfl rfl rfl), Q_BK162, Q_HB, Q_HO173, Q_HA_HO173, Q_X10_⟩
              refine steps_cons ?_ ?_
              ·rintro b a w' ⟨v172, adz_v172, m10_, ha, Q_BK162, Q_HB, Q_HO173, Q_HA_HO173, Q_X10_⟩ hb_ hon hoff
               refine ⟨_, rfl, fun K hK => ?_⟩
               have e28 : a.tmps[28]? = some (.agg #[.int .i64 ((rd_T25 l0_2 1).f0), .int .i64 ((rd_T25 l0_2 1).f1), .slice A175_2 ((rd_T25 l0_2 1).f2).length c175_2]) := by rw [ha]; exact putSel_on (e := (16, 28, .agg #[.int .i64 ((rd_T25 l0_2 1).f0), .int .i64 ((rd_T25 l0_2 1).f1), .slice A175_2 ((rd_T25 l0_2 1).f2).length c175_2])) 12 rfl rfl (hon 16 (by kernel_rfl)) rfl
               have e30 : a.tmps[30]? = some (.int .i64 (wrap64 (t163 + 1))) := by rw [ha]; exact putSel_on (e := (18, 30, .int .i64 (wrap64 (t163 + 1)))) 13 rfl rfl (hon 18 (by kernel_rfl)) rfl
               replace ha := Ak ha
               have BK162 := Ak Q_BK162
               have HB := Ak Q_HB
               refine goes_ Tryd.func54 (by kernel_rfl) rfl #[.agg #[.int .i64 ((rd_T25 l0_2 1).f0), .int .i64 ((rd_T25 l0_2 1).f1), .slice A175_2 ((rd_T25 l0_2 1).f2).length c175_2], .int .i64 (wrap64 (t163 + 1))] (by rfl) rfl rfl (by first | (simp only [List.map_toArray, List.map_cons, List.map_nil, Act.eval, Array.getD_eq_getD_getElem?, Option.getD_some, e28, e30]; done) | (simp only [List.map_toArray, List.map_cons, List.map_nil, Act.eval, Array.getD_eq_getD_getElem?, Option.getD_some, e28, e30]; rfl)) ?_
               with_reducible refine (ih k (by omega) ((rd_T25 l0_2 1).f0) ((rd_T25 l0_2 1).f1) _ _ ((rd_T25 l0_2 1).f2) (wrap64 (t163 + 1)) t176 _ ?side1 ?side2 A48.out).mono ?_
               (case side1 => repeat (first | exact (Kd.C_below HR175_2.out HB.out) | (with_reducible refine Kd.C_alloc ?_ _) | (with_reducible refine Kd.C_drewN ?_ _) | (with_reducible refine Kd.C_drew ?_)))
               (case side2 => exact HC175_2.out)
               rintro e w58 ⟨rfl, hb⟩
               refine ⟨_, rfl, ?_⟩
               have n0_ := Ak (Qm BK162.out hb)
               have n1_ := Ak (below_step (Qb HB.out) hb)
               have z_HO173 := fun (h0_ : b 6 = true) => (show Kd.R Kd.string 9 w58 w.heap.size (fun _ => True) v172 y171 from by first | exact (Kd.R_below (by refine Qf ?_; exact (Q_HO173 h0_)) hb) | exact Kd.R_mono (Kd.R_below (by refine Qf ?_; exact (Q_HO173 h0_)) hb) (fun _ h_ => by first | trivial | exact h_ | exact h_.1))
               clear BK162 HB
               have BK162 := n0_
               have HB := n1_
               clear n0_ n1_
               (try clear hb); (try clear hb2); (try clear hk); (try clear hi)
               refine hK.out _ _ ⟨v172, adz_v172, m10_, (by rw [ha.out]; exact putSel_upk 14 hb_ rfl rfl rfl), (Qa BK162.out), (Qb HB.out), z_HO173, Q_HA_HO173, Q_X10_⟩
              refine steps_cons ?_ ?_
              ·rintro b a w' ⟨v172, adz_v172, m10_, ha, Q_BK162, Q_HB, Q_HO173, Q_HA_HO173, Q_X10_⟩ hb_ hon hoff
               refine ⟨_, rfl, fun K hK => ?_⟩
               have e24 : a.tmps[24]? = some (.string (t170 ++ (rdOf ByteArray.empty y171 (ji43)))) := by rw [ha]; exact putSel_on (e := (12, 24, .string (t170 ++ (rdOf ByteArray.empty y171 (ji43))))) 9 rfl rfl (hon 12 (by kernel_rfl)) rfl
               have e31 : a.tmps[31]? = some (.string t176) := by rw [ha]; exact putSel_on (e := (19, 31, .string t176)) 14 rfl rfl (hon 19 (by kernel_rfl)) rfl
               replace ha := Ak ha
               have BK162 := Ak Q_BK162
               have HB := Ak Q_HB
               have HO173 := Ak (Q_HO173 (hon 6 (by kernel_rfl)))
               have HA_HO173 := Ak (Q_HA_HO173 (hon 6 (by kernel_rfl)))
               refine value_ (w1 := w') (v := .string ((t170 ++ (rdOf ByteArray.empty y171 (ji43))) ++ t176)) (by rfl) rfl ?_ ?_
               ·go_simp
                (try simp only [i64_w])
                try rfl
               refine hK.out _ _ ⟨v172, adz_v172, m10_, (by rw [ha.out]; exact putSel_upk 15 hb_ rfl rfl rfl), Q_BK162, Q_HB, Q_HO173, Q_HA_HO173, Q_X10_⟩
              refine steps_cons ?_ ?_
              ·rintro b a w' ⟨v172, adz_v172, m10_, ha, Q_BK162, Q_HB, Q_HO173, Q_HA_HO173, Q_X10_⟩ hb_ hon hoff
               refine ⟨_, rfl, fun K hK => ?_⟩
               have e32 : a.tmps[32]? = some (.string ((t170 ++ (rdOf ByteArray.empty y171 (ji43))) ++ t176)) := by rw [ha]; exact putSel_on (e := (20, 32, .string ((t170 ++ (rdOf ByteArray.empty y171 (ji43))) ++ t176))) 15 rfl rfl (hon 20 (by kernel_rfl)) rfl
               replace ha := Ak ha
               have BK162 := Ak Q_BK162
               have HB := Ak Q_HB
               have HO173 := Ak (Q_HO173 (hon 6 (by kernel_rfl)))
               have HA_HO173 := Ak (Q_HA_HO173 (hon 6 (by kernel_rfl)))
               refine value_ (w1 := w') (v := .string ((t170 ++ (rdOf ByteArray.empty y171 (ji43))) ++ t176)) (by rfl) rfl ?_ ?_
               ·go_simp
                (try simp only [i64_w])
                try rfl
               refine hK.out _ _ ⟨v172, adz_v172, m10_, (by rw [ha.out]; exact putSel_upk 16 hb_ rfl rfl rfl), Q_BK162, Q_HB, Q_HO173, Q_HA_HO173, Q_X10_⟩
              exact steps_nil
             rintro b a w61 hall ⟨v172, adz_v172, m10_, ha, Q_BK162, Q_HB, Q_HO173, Q_HA_HO173, Q_X10_⟩
             clear BK162 HB
             have hb1_ := hall 1 (by kernel_rfl)
             have hb2_ := hall 2 (by kernel_rfl)
             have hb3_ := hall 3 (by kernel_rfl)
             have hb5_ := hall 5 (by kernel_rfl)
             have hb6_ := hall 6 (by kernel_rfl)
             have hb8_ := hall 8 (by kernel_rfl)
             have hb9_ := hall 9 (by kernel_rfl)
             have hb10_ := hall 10 (by kernel_rfl)
             have hb11_ := hall 11 (by kernel_rfl)
             have hb12_ := hall 12 (by kernel_rfl)
             have hb14_ := hall 14 (by kernel_rfl)
             have hb15_ := hall 15 (by kernel_rfl)
             have hb16_ := hall 16 (by kernel_rfl)
             have hb18_ := hall 18 (by kernel_rfl)
             have hb19_ := hall 19 (by kernel_rfl)
             have hb20_ := hall 20 (by kernel_rfl)
             have hb21_ := hall 21 (by kernel_rfl)
             subst ha
             obtain rfl := Q_X10_ hb10_
             simp only [putSel, hb1_, hb2_, hb3_, hb5_, hb6_, hb8_, hb9_, hb10_, hb11_, hb12_, hb14_, hb15_, hb16_, hb18_, hb19_, hb20_, hb21_, if_true, Act.put, List.setIfInBounds_toArray, List.set_cons_zero, List.set_cons_succ]
             have BK162 := Ak Q_BK162
             clear Q_BK162
             have HB := Ak Q_HB
             clear Q_HB
             have HO173 := Ak (Q_HO173 hb6_)
             clear Q_HO173
             have HA_HO173 := Ak (Q_HA_HO173 hb6_)
             clear Q_HA_HO173
             clear hall hb1_ hb2_ hb3_ hb5_ hb6_ hb8_ hb9_ hb10_ hb11_ hb12_ hb14_ hb15_ hb16_ hb18_ hb19_ hb20_ hb21_
             obtain ⟨co62, eo62⟩ := HA_HO173.out
             clear HA_HO173
             subst eo62
             try go_wp2
             go_ret
             exact ⟨by first | rfl | (simp [errW_none, errW_some] <;> rfl) | (simp only [← hji43]; first | rfl | (simp [errW_none, errW_some] <;> rfl)) | (simp [*, errW_none, errW_some] <;> rfl), Qb HB.out⟩
            ·rw [if_neg c52] at H
             exact absurd H (by simp)
           ·rw [if_neg c51] at H
            exact absurd H (by simp)
          ·rw [if_neg c50] at H
           have c50b0 : decide (t163 < a1) = false := decide_eq_false c50
           clear c50
           obtain rfl := Option.some.inj H
           go_enter Tryd.func54, Tryd.ntmps54
           try go_wp2_with (first | ((with_reducible refine gate_dst (N := 2) rfl ?_); refine Qk 2 #[.int .i64 a0_0, .int .i64 a0_1, .slice A0_2 l0_2.length c0_2] 25 ?_; intro gb162 hg w63 hbox hb; have n0_ := Ak (below_step (Qb HB.out) hb); have n1_ := Ak (hbox); have n2_ := Ak ((Qp hg HB.out : w.heap.size ≤ gb162)); have n3_ := Ak ((Qp hg HB.out : w.heap.size ≤ gb162)); clear HB; have HB := n0_; have BK162 := n1_; have GW162 := n2_; have GE162 := n3_; clear n0_ n1_ n2_ n3_; clear hb hbox hg; obtain ⟨hcz64_0, hcz64_1, hcz64_2⟩ := Qu3 BK162.out; have hfz64_0 := blk_frozen BK162.out 0; have hfz64_1 := blk_frozen BK162.out 1; have hfz64_2 := blk_frozen BK162.out 2) | ((with_reducible refine gate_callee (f := 97) rfl ?_); refine Qj (some 9) Tryd.func97 #[.int .i64 a0_0] ?_; (with_reducible refine (spec_l10Level.calls k a0_0 t163 _ A3.out).mono ?_); rintro e w' ⟨rfl, ⟨nd, rfl⟩⟩; refine ⟨_, rfl, ?_⟩))
           have pi174 : (0 ≤ ((ji43) : Int)) = True := eq_true (Qg)
           have qi174 : ((ji43) < (y171.length : Int)) = True := eq_true (Qg)
           (try (rw [drewN_self w63]; generalize hq_ : World.drewN w63 _ = w63; have n0_ : Aside0 (w63.heap[gb162]? = some (.cells #[.int .i64 a0_0, .int .i64 a0_1, .slice A0_2 l0_2.length c0_2] 25 (0, 0))) := ⟨by rw [← hq_]; exact (Qa BK162.out)⟩; have n1_ : Aside0 (Below w.heap.size w w63) := ⟨by rw [← hq_]; exact (Qb HB.out)⟩; clear BK162 HB hq_; have BK162 := n0_; have HB := n1_; clear n0_ n1_))
           have n0_ := Ak (blk_drew BK162.out)
           have n1_ := Ak (below_drew1 HB.out)
           clear BK162 HB
           have BK162 := n0_
           have HB := n1_
           clear n0_ n1_
           have p169 : 0 ≤ (0 : Int) := (by omega)
           have q169 : 0 < (l0_2.length : Int) := Qg
           obtain ⟨ad169, A169_2, c169_2, e169, hx169_0, hx169_1, hx169_2, hl169_2, hi169_2⟩ := at_T25 HR0_2.out 0 p169 q169
           have hw169_2 := hx169_2
           (try rw [show ((0 : Int)).toNat = 0 from rfl] at hw169_2)
           (try rw [show 0 * 3 = 0 from rfl] at hw169_2)
           (try rw [Addr.add_zero'] at hw169_2)
           have hw169_1 := hx169_1
           (try rw [show ((0 : Int)).toNat = 0 from rfl] at hw169_1)
           (try rw [show 0 * 3 = 0 from rfl] at hw169_1)
           (try rw [Addr.add_zero'] at hw169_1)
           have hw169_0 := hx169_0
           (try rw [show ((0 : Int)).toNat = 0 from rfl] at hw169_0)
           (try rw [show 0 * 3 = 0 from rfl] at hw169_0)
           (try rw [Addr.add_zero'] at hw169_0)
           cases e169
           have qi169 : (0 < l0_2.length) = True := eq_true (by omega)
           (try rw [show ((0 : Int)).toNat = 0 from rfl] at hx169_0)
           (try rw [show 0 * 3 = 0 from rfl] at hx169_0)
           (try rw [Addr.add_zero'] at hx169_0)
           (try rw [show ((0 : Int)).toNat = 0 from rfl] at hx169_1)
           (try rw [show 0 * 3 = 0 from rfl] at hx169_1)
           (try rw [Addr.add_zero'] at hx169_1)
           (try rw [show ((0 : Int)).toNat = 0 from rfl] at hx169_2)
           (try rw [show 0 * 3 = 0 from rfl] at hx169_2)
           (try rw [Addr.add_zero'] at hx169_2)
           (try replace hx169_0 := (HB.out.cell (World.block_lt_of_cell? w _ hx169_0)).trans hx169_0)
           (try replace hx169_1 := (HB.out.cell (World.block_lt_of_cell? w _ hx169_1)).trans hx169_1)
           (try replace hx169_2 := (HB.out.cell (World.block_lt_of_cell? w _ hx169_2)).trans hx169_2)
           have HR169_2 := Ak hi169_2
           have HC169_2 := Ak hl169_2
           clear hi169_2 hl169_2
           replace p169 := eq_true p169
           replace q169 := eq_true q169
           have p175 : 0 ≤ (1 : Int) := (by omega)
           have q175 : 1 < (l0_2.length : Int) := Qg
           obtain ⟨ad175, A175_2, c175_2, e175, hx175_0, hx175_1, hx175_2, hl175_2, hi175_2⟩ := at_T25 HR0_2.out 1 p175 q175
           have hw175_2 := hx175_2
           (try rw [show ((1 : Int)).toNat = 1 from rfl] at hw175_2)
           (try rw [show 1 * 3 = 3 from rfl] at hw175_2)
           (try simp only [Nat.reduceMul, Nat.reduceEqDiff, Go.Addr.add, ↓reduceIte] at hw175_2)
           have hw175_1 := hx175_1
           (try rw [show ((1 : Int)).toNat = 1 from rfl] at hw175_1)
           (try rw [show 1 * 3 = 3 from rfl] at hw175_1)
           (try simp only [Nat.reduceMul, Nat.reduceEqDiff, Go.Addr.add, ↓reduceIte] at hw175_1)
           have hw175_0 := hx175_0
           (try rw [show ((1 : Int)).toNat = 1 from rfl] at hw175_0)
           (try rw [show 1 * 3 = 3 from rfl] at hw175_0)
           (try simp only [Nat.reduceMul, Nat.reduceEqDiff, Go.Addr.add, ↓reduceIte] at hw175_0)
           obtain rfl : ad169 = ad175 := (by injection e175)
           (try simp only [show (1 : Int).toNat = 1 from rfl, Nat.reduceMul, Nat.reduceEqDiff, Go.Addr.add, ↓reduceIte] at hx175_0)
           (try simp only [show (1 : Int).toNat = 1 from rfl, Nat.reduceMul, Nat.reduceEqDiff, Go.Addr.add, ↓reduceIte] at hx175_1)
           (try simp only [show (1 : Int).toNat = 1 from rfl, Nat.reduceMul, Nat.reduceEqDiff, Go.Addr.add, ↓reduceIte] at hx175_2)
           have qi175 : (1 < l0_2.length) = True := eq_true (by omega)
           (try rw [show ((1 : Int)).toNat = 1 from rfl] at hx175_0)
           (try rw [show 1 * 3 = 3 from rfl] at hx175_0)
           (try rw [show ((1 : Int)).toNat = 1 from rfl] at hx175_1)
           (try rw [show 1 * 3 = 3 from rfl] at hx175_1)
           (try rw [show ((1 : Int)).toNat = 1 from rfl] at hx175_2)
           (try rw [show 1 * 3 = 3 from rfl] at hx175_2)
           (try replace hx175_0 := (HB.out.cell (World.block_lt_of_cell? w _ hx175_0)).trans hx175_0)
           (try replace hx175_1 := (HB.out.cell (World.block_lt_of_cell? w _ hx175_1)).trans hx175_1)
           (try replace hx175_2 := (HB.out.cell (World.block_lt_of_cell? w _ hx175_2)).trans hx175_2)
           have HR175_2 := Ak hi175_2
           have HC175_2 := Ak hl175_2
           clear hi175_2 hl175_2
           replace p175 := eq_true p175
           replace q175 := eq_true q175
           refine start_ (n := 22) (S := fun w' => True) (ds := []) #[false, false, false, false, false, false, false, false, false, false, false, false, false, false, false, false, false, false, false, false, false, false] (by kernel_rfl) rfl rfl trivial (fun hHeld => ?_); refine with_tabW spec_l10Text.tab4 spec_l10Text.bits4 (fun HT_ HW_ => ?_)
           generalize w63.drew = w65 at BK162 HB HR169_2 HR175_2 hx169_0 hx169_1 hx169_2 hx175_0 hx175_1 hx175_2 hHeld ⊢
           refine pure_ (i := 0) (N := some 12) (v := ?_) (a' := ?_) #[true, false, false, false, false, false, false, false, false, false, false, false, false, false, false, false, false, false, false, false, false, false] rfl rfl (any_of HT_.out (by kernel_rfl)) (fun _ _ _ h => h) (Or.inl ⟨by rfl, ?_⟩) ?_ ?_
           rotate_left
           ·intro w'
            first | (go_simp; with_reducible rfl) | (go_simp; refine (if_neg (by omega)).trans ?_; with_reducible rfl)
           rotate_left
           ·simp only [Act.put, List.setIfInBounds_toArray, List.set_cons_zero, List.set_cons_succ, i64_w, i32_w]
            rfl
           refine pure_ (i := 4) (N := some 16) (v := ?_) (a' := ?_) #[true, false, false, false, true, false, false, false, false, false, false, false, false, false, false, false, false, false, false, false, false, false] rfl rfl (any_of HT_.out (by kernel_rfl)) (fun _ _ _ h => h) (Or.inl ⟨by rfl, ?_⟩) ?_ ?_
           rotate_left
           ·intro w'
            first | (go_simp; with_reducible rfl) | (go_simp; refine (if_neg (by omega)).trans ?_; with_reducible rfl)
           rotate_left
           ·simp only [Act.put, List.setIfInBounds_toArray, List.set_cons_zero, List.set_cons_succ, i64_w, i32_w]
            rfl
           refine pure_ (i := 7) (N := some 19) (v := ?_) (a' := ?_) #[true, false, false, false, true, false, false, true, false, false, false, false, false, false, false, false, false, false, false, false, false, false] rfl rfl (any_of HT_.out (by kernel_rfl)) (fun _ _ _ h => h) (Or.inl ⟨by rfl, ?_⟩) ?_ ?_
           rotate_left
           ·intro w'
            first | (go_simp; with_reducible rfl) | (go_simp; refine (if_neg (by omega)).trans ?_; with_reducible rfl)
           rotate_left
           ·simp only [Act.put, List.setIfInBounds_toArray, List.set_cons_zero, List.set_cons_succ, i64_w, i32_w]
            rfl
           refine pure_ (i := 13) (N := some 25) (v := ?_) (a' := ?_) #[true, false, false, false, true, false, false, true, false, false, false, false, false, true, false, false, false, false, false, false, false, false] rfl rfl (any_of HT_.out (by kernel_rfl)) (fun _ _ _ h => h) (Or.inl ⟨by rfl, ?_⟩) ?_ ?_
           rotate_left
           ·intro w'
            first | (go_simp; with_reducible rfl) | (go_simp; refine (if_neg (by omega)).trans ?_; with_reducible rfl)
           rotate_left
           ·simp only [Act.put, List.setIfInBounds_toArray, List.set_cons_zero, List.set_cons_succ, i64_w, i32_w]
            rfl
           refine pure_ (i := 17) (N := some 29) (v := ?_) (a' := ?_) #[true, false, false, false, true, false, false, true, false, false, false, false, false, true, false, false, false, true, false, false, false, false] rfl rfl (any_of HT_.out (by kernel_rfl)) (fun _ _ _ h => h) (Or.inl ⟨by rfl, ?_⟩) ?_ ?_
           rotate_left
           ·intro w'
            first | (go_simp; with_reducible rfl) | (go_simp; refine (if_neg (by omega)).trans ?_; with_reducible rfl)
           rotate_left
           ·simp only [Act.put, List.setIfInBounds_toArray, List.set_cons_zero, List.set_cons_succ, i64_w, i32_w]
            rfl
           refine inv_at [1, 2, 3, 5, 6, 8, 9, 10, 11, 12, 14, 15, 16, 18, 19, 20, 21] (fun a0_ b a w' => ∃ (v172 : Value) (adz_v172 : Addr) (m10_ : Value), a = putSel a0_ b [(1, 13, .slice (some ad169) l0_2.length c0_2), (2, 14, .pointer (some ad169)), (3, 15, .agg #[.int .i64 ((rd_T25 l0_2 0).f0), .int .i64 ((rd_T25 l0_2 0).f1), .slice A169_2 ((rd_T25 l0_2 0).f2).length c169_2]), (5, 17, .string t170), (6, 18, v172), (8, 20, .int .i64 a0_0), (9, 21, .int .i64 ji43), (10, 22, m10_), (11, 23, .string (rdOf ByteArray.empty y171 (ji43))), (12, 24, .string (t170 ++ (rdOf ByteArray.empty y171 (ji43)))), (14, 26, .slice (some ad169) l0_2.length c0_2), (15, 27, .pointer (some (ad169.add 3))), (16, 28, .agg #[.int .i64 ((rd_T25 l0_2 1).f0), .int .i64 ((rd_T25 l0_2 1).f1), .slice A175_2 ((rd_T25 l0_2 1).f2).length c175_2]), (18, 30, .int .i64 (wrap64 (t163 + 1))), (19, 31, .string t176), (20, 32, .string ((t170 ++ (rdOf ByteArray.empty y171 (ji43))) ++ t176)), (21, 5, .string ((t170 ++ (rdOf ByteArray.empty y171 (ji43))) ++ t176))] ∧ (w'.heap[gb162]? = some (.cells #[.int .i64 a0_0, .int .i64 a0_1, .slice (some ad169) l0_2.length c0_2] 25 (0, 0))) ∧ (Below w.heap.size w w') ∧ (b 6 = true → Kd.R Kd.string 9 w' w.heap.size (fun _ => True) v172 y171) ∧ (b 6 = true → ∃ c_, (v172 : Value) = .slice (some adz_v172) y171.length c_) ∧ (b 10 = true → (m10_ : Value) = .pointer (some (adz_v172.add ((ji43)).toNat)))) HT_.out HW_.out (by kernel_rfl) (by kernel_rfl) ?_ ?_ ?_
           ·exact ⟨.bool false, ⟨0, 0, none⟩, .bool false, by simp only [putSel, Bool.false_eq_true, if_false], BK162.out, HB.out, fun h_ => absurd h_ (by decide), fun h_ => absurd h_ (by decide), fun h_ => absurd h_ (by decide)⟩
           ·skip
            clear BK162 HB
            refine steps_cons ?_ ?_
            ·rintro b a w' ⟨v172, adz_v172, m10_, ha, Q_BK162, Q_HB, Q_HO173, Q_HA_HO173, Q_X10_⟩ hb_ hon hoff
             refine ⟨_, rfl, fun K hK => ?_⟩
             have e12 : a.tmps[12]? = some (.pointer (some ⟨gb162, 2, none⟩)) := by rw [ha]; exact (putSel_off rfl).trans rfl
             replace ha := Ak ha
             have BK162 := Ak Q_BK162
             have HB := Ak Q_HB
             have hc0_ : w'.cell? ⟨gb162, 0, none⟩ = some (.int .i64 a0_0) := (blk_cell BK162.out 0).trans rfl
             have hc1_ : w'.cell? ⟨gb162, 1, none⟩ = some (.int .i64 a0_1) := (blk_cell BK162.out 1).trans rfl
             have hc2_ : w'.cell? ⟨gb162, 2, none⟩ = some (.slice (some ad169) l0_2.length c0_2) := (blk_cell BK162.out 2).trans rfl
             refine value_ (w1 := w') (v := .slice (some ad169) l0_2.length c0_2) (by rfl) rfl ?_ ?_
             ·go_simp
              (try simp only [i64_w])
              try rfl
             refine hK.out _ _ ⟨v172, adz_v172, m10_, (by rw [ha.out]; exact putSel_upk 0 hb_ rfl rfl rfl), Q_BK162, Q_HB, Q_HO173, Q_HA_HO173, Q_X10_⟩
            refine steps_cons ?_ ?_
            ·rintro b a w' ⟨v172, adz_v172, m10_, ha, Q_BK162, Q_HB, Q_HO173, Q_HA_HO173, Q_X10_⟩ hb_ hon hoff
             refine ⟨_, rfl, fun K hK => ?_⟩
             have e13 : a.tmps[13]? = some (.slice (some ad169) l0_2.length c0_2) := by rw [ha]; exact putSel_on (e := (1, 13, .slice (some ad169) l0_2.length c0_2)) 0 rfl rfl (hon 1 (by kernel_rfl)) rfl
             replace ha := Ak ha
             have BK162 := Ak Q_BK162
             have HB := Ak Q_HB
             have hs0_ : w'.cell? ad169 = some (.int .i64 ((rd_T25 l0_2 0).f0)) := ((HB.out.cell (World.block_lt_of_cell? w _ hw169_0)).trans hw169_0)
             have hs1_ : w'.cell? ⟨ad169.block, ad169.off + 1, none⟩ = some (.int .i64 ((rd_T25 l0_2 0).f1)) := ((HB.out.cell (World.block_lt_of_cell? w _ hw169_1)).trans hw169_1)
             have hs2_ : w'.cell? ⟨ad169.block, ad169.off + 2, none⟩ = some (.slice A169_2 ((rd_T25 l0_2 0).f2).length c169_2) := ((HB.out.cell (World.block_lt_of_cell? w _ hw169_2)).trans hw169_2)
             refine value_ (w1 := w') (v := .pointer (some ad169)) (by rfl) rfl ?_ ?_
             ·go_simp
              (try simp only [i64_w])
              try rfl
             refine hK.out _ _ ⟨v172, adz_v172, m10_, (by rw [ha.out]; exact putSel_upk 1 hb_ rfl rfl rfl), Q_BK162, Q_HB, Q_HO173, Q_HA_HO173, Q_X10_⟩
            refine steps_cons ?_ ?_
            ·rintro b a w' ⟨v172, adz_v172, m10_, ha, Q_BK162, Q_HB, Q_HO173, Q_HA_HO173, Q_X10_⟩ hb_ hon hoff
             refine ⟨_, rfl, fun K hK => ?_⟩
             have e14 : a.tmps[14]? = some (.pointer (some ad169)) := by rw [ha]; exact putSel_on (e := (2, 14, .pointer (some ad169))) 1 rfl rfl (hon 2 (by kernel_rfl)) rfl
             replace ha := Ak ha
             have BK162 := Ak Q_BK162
             have HB := Ak Q_HB
             have hs0_ : w'.cell? ad169 = some (.int .i64 ((rd_T25 l0_2 0).f0)) := ((HB.out.cell (World.block_lt_of_cell? w _ hw169_0)).trans hw169_0)
             have hs1_ : w'.cell? ⟨ad169.block, ad169.off + 1, none⟩ = some (.int .i64 ((rd_T25 l0_2 0).f1)) := ((HB.out.cell (World.block_lt_of_cell? w _ hw169_1)).trans hw169_1)
             have hs2_ : w'.cell? ⟨ad169.block, ad169.off + 2, none⟩ = some (.slice A169_2 ((rd_T25 l0_2 0).f2).length c169_2) := ((HB.out.cell (World.block_lt_of_cell? w _ hw169_2)).trans hw169_2)
             refine value_ (w1 := w') (v := .agg #[.int .i64 ((rd_T25 l0_2 0).f0), .int .i64 ((rd_T25 l0_2 0).f1), .slice A169_2 ((rd_T25 l0_2 0).f2).length c169_2]) (by rfl) rfl ?_ ?_
             ·go_simp
              (try simp only [i64_w])
              try rfl
             refine hK.out _ _ ⟨v172, adz_v172, m10_, (by rw [ha.out]; exact putSel_upk 2 hb_ rfl rfl rfl), Q_BK162, Q_HB, Q_HO173, Q_HA_HO173, Q_X10_⟩
            refine steps_cons ?_ ?_
            ·rintro b a w' ⟨v172, adz_v172, m10_, ha, Q_BK162, Q_HB, Q_HO173, Q_HA_HO173, Q_X10_⟩ hb_ hon hoff
             refine ⟨_, rfl, fun K hK => ?_⟩
             have e15 : a.tmps[15]? = some (.agg #[.int .i64 ((rd_T25 l0_2 0).f0), .int .i64 ((rd_T25 l0_2 0).f1), .slice A169_2 ((rd_T25 l0_2 0).f2).length c169_2]) := by rw [ha]; exact putSel_on (e := (3, 15, .agg #[.int .i64 ((rd_T25 l0_2 0).f0), .int .i64 ((rd_T25 l0_2 0).f1), .slice A169_2 ((rd_T25 l0_2 0).f2).length c169_2])) 2 rfl rfl (hon 3 (by kernel_rfl)) rfl
             have e16 : a.tmps[16]? = some (.int .i64 t163) := by rw [ha]; exact (putSel_off rfl).trans rfl
             replace ha := Ak ha
             have BK162 := Ak Q_BK162
             have HB := Ak Q_HB
             refine goes_ Tryd.func54 (by kernel_rfl) rfl #[.agg #[.int .i64 ((rd_T25 l0_2 0).f0), .int .i64 ((rd_T25 l0_2 0).f1), .slice A169_2 ((rd_T25 l0_2 0).f2).length c169_2], .int .i64 t163] (by rfl) rfl rfl (by first | (simp only [List.map_toArray, List.map_cons, List.map_nil, Act.eval, Array.getD_eq_getD_getElem?, Option.getD_some, e15, e16]; done) | (simp only [List.map_toArray, List.map_cons, List.map_nil, Act.eval, Array.getD_eq_getD_getElem?, Option.getD_some, e15, e16]; rfl)) ?_
             with_reducible refine (ih k (by omega) ((rd_T25 l0_2 0).f0) ((rd_T25 l0_2 0).f1) _ _ ((rd_T25 l0_2 0).f2) t163 t170 _ ?side1 ?side2 A42.out).mono ?_
             (case side1 => repeat (first | exact (Kd.C_below HR169_2.out HB.out) | (with_reducible refine Kd.C_alloc ?_ _) | (with_reducible refine Kd.C_drewN ?_ _) | (with_reducible refine Kd.C_drew ?_)))
             (case side2 => exact HC169_2.out)
             rintro e w66 ⟨rfl, hb⟩
             refine ⟨_, rfl, ?_⟩
             have n0_ := Ak (Qm BK162.out hb)
             have n1_ := Ak (below_step (Qb HB.out) hb)
             have z_HO173 := fun (h0_ : b 6 = true) => (show Kd.R Kd.string 9 w66 w.heap.size (fun _ => True) v172 y171 from by first | exact (Kd.R_below (by refine Qf ?_; exact (Q_HO173 h0_)) hb) | exact Kd.R_mono (Kd.R_below (by refine Qf ?_; exact (Q_HO173 h0_)) hb) (fun _ h_ => by first | trivial | exact h_ | exact h_.1))
             clear BK162 HB
             have BK162 := n0_
             have HB := n1_
             clear n0_ n1_
             (try clear hb); (try clear hb2); (try clear hk); (try clear hi)
             refine hK.out _ _ ⟨v172, adz_v172, m10_, (by rw [ha.out]; exact putSel_upk 3 hb_ rfl rfl rfl), (Qa BK162.out), (Qb HB.out), z_HO173, Q_HA_HO173, Q_X10_⟩
            refine steps_cons ?_ ?_
            ·rintro b a w' ⟨v172, adz_v172, m10_, ha, Q_BK162, Q_HB, Q_HO173, Q_HA_HO173, Q_X10_⟩ hb_ hon hoff
             refine ⟨_, rfl, fun K hK => ?_⟩
             replace ha := Ak ha
             have BK162 := Ak Q_BK162
             have HB := Ak Q_HB
             refine Kd.R_lit_step Kd.string _ 9 ?hg (N := 18) ?hd (xs := ([(⟨#[32, 43, 32]⟩ : ByteArray), (⟨#[32, 45, 32]⟩ : ByteArray), (⟨#[32, 42, 32]⟩ : ByteArray), (⟨#[32, 47, 32]⟩ : ByteArray), (⟨#[32, 37, 32]⟩ : ByteArray)] : List ByteArray)) (inner := [.string (⟨#[32, 43, 32]⟩ : ByteArray), .string (⟨#[32, 45, 32]⟩ : ByteArray), .string (⟨#[32, 42, 32]⟩ : ByteArray), .string (⟨#[32, 47, 32]⟩ : ByteArray), .string (⟨#[32, 37, 32]⟩ : ByteArray)]) (ok := fun _ => True) (okp := fun _ => True) ?hr ?hp (fun _ hk => hk) trivial (Below.refl _ _) (Nat.le_refl _) (by simp) ?_; (case hd => rfl); (case hg => rfl); (case hr => first | (go_simp; done) | (go_simp; rfl)); (case hp => exact (Reps.one (show Kd.M Kd.string _ _ _ (⟨#[32, 43, 32]⟩ : ByteArray) [.string (⟨#[32, 43, 32]⟩ : ByteArray)] from rfl) (Reps.one (show Kd.M Kd.string _ _ _ (⟨#[32, 45, 32]⟩ : ByteArray) [.string (⟨#[32, 45, 32]⟩ : ByteArray)] from rfl) (Reps.one (show Kd.M Kd.string _ _ _ (⟨#[32, 42, 32]⟩ : ByteArray) [.string (⟨#[32, 42, 32]⟩ : ByteArray)] from rfl) (Reps.one (show Kd.M Kd.string _ _ _ (⟨#[32, 47, 32]⟩ : ByteArray) [.string (⟨#[32, 47, 32]⟩ : ByteArray)] from rfl) (Reps.one (show Kd.M Kd.string _ _ _ (⟨#[32, 37, 32]⟩ : ByteArray) [.string (⟨#[32, 37, 32]⟩ : ByteArray)] from rfl) (Reps.none _ _)))))))
             intro v172 w66 ho67 hb hg_ hnew_
             clear hg_ hnew_
             (first | rw [← Ny171.out] at ho67 | (simp only [Int.reduceToNat] at ho67; rw [← Ny171.out] at ho67))
             have n0_ := Ak (Kd.R_lower ho67 (below_size (Qb HB.out)))
             have n1_ := Ak (Qm BK162.out hb)
             have n2_ := Ak (below_step (Qb HB.out) hb)
             clear BK162 HB
             have HO173 := n0_
             have BK162 := n1_
             have HB := n2_
             clear n0_ n1_ n2_
             clear hb ho67
             obtain ⟨Ao68, co68, eo68⟩ := Kd.R_slice HO173.out
             subst eo68
             obtain ⟨ado68, fo68, _⟩ := Kd.at_string (Kd.R_reads' HO173.out).2.2 0 (by decide) (by rw [Ny171.out]; simp)
             cases fo68
             refine hK.out _ _ ⟨.slice (some ado68) y171.length co68, ado68, m10_, (by rw [ha.out]; exact putSel_upk 4 hb_ rfl rfl rfl), (Qa BK162.out), (Qb HB.out), fun _ => (Qc HO173.out), fun _ => ⟨_, rfl⟩, fun h0_ => absurd ((hoff 10 (by kernel_rfl)).symm.trans h0_) (by decide)⟩
            refine steps_cons ?_ ?_
            ·rintro b a w' ⟨v172, adz_v172, m10_, ha, Q_BK162, Q_HB, Q_HO173, Q_HA_HO173, Q_X10_⟩ hb_ hon hoff
             refine ⟨_, rfl, fun K hK => ?_⟩
             have e19 : a.tmps[19]? = some (.pointer (some ⟨gb162, 0, none⟩)) := by rw [ha]; exact (putSel_off rfl).trans rfl
             replace ha := Ak ha
             have BK162 := Ak Q_BK162
             have HB := Ak Q_HB
             have hc0_ : w'.cell? ⟨gb162, 0, none⟩ = some (.int .i64 a0_0) := (blk_cell BK162.out 0).trans rfl
             have hc1_ : w'.cell? ⟨gb162, 1, none⟩ = some (.int .i64 a0_1) := (blk_cell BK162.out 1).trans rfl
             have hc2_ : w'.cell? ⟨gb162, 2, none⟩ = some (.slice (some ad169) l0_2.length c0_2) := (blk_cell BK162.out 2).trans rfl
             refine value_ (w1 := w') (v := .int .i64 a0_0) (by rfl) rfl ?_ ?_
             ·go_simp
              (try simp only [i64_w])
              try rfl
             refine hK.out _ _ ⟨v172, adz_v172, m10_, (by rw [ha.out]; exact putSel_upk 5 hb_ rfl rfl rfl), Q_BK162, Q_HB, Q_HO173, Q_HA_HO173, fun h0_ => absurd ((hoff 10 (by kernel_rfl)).symm.trans h0_) (by decide)⟩
            refine steps_cons ?_ ?_
            ·rintro b a w' ⟨v172, adz_v172, m10_, ha, Q_BK162, Q_HB, Q_HO173, Q_HA_HO173, Q_X10_⟩ hb_ hon hoff
             refine ⟨_, rfl, fun K hK => ?_⟩
             have e20 : a.tmps[20]? = some (.int .i64 a0_0) := by rw [ha]; exact putSel_on (e := (8, 20, .int .i64 a0_0)) 5 rfl rfl (hon 8 (by kernel_rfl)) rfl
             replace ha := Ak ha
             have BK162 := Ak Q_BK162
             have HB := Ak Q_HB
             refine value_ (w1 := w') (v := .int .i64 ji43) (by rfl) rfl ?_ ?_
             ·go_simp
              (try simp only [i64_w])
              try rfl
             refine hK.out _ _ ⟨v172, adz_v172, m10_, (by rw [ha.out]; exact putSel_upk 6 hb_ rfl rfl rfl), Q_BK162, Q_HB, Q_HO173, Q_HA_HO173, fun h0_ => absurd ((hoff 10 (by kernel_rfl)).symm.trans h0_) (by decide)⟩
            refine steps_cons ?_ ?_
            ·rintro b a w' ⟨v172, adz_v172, m10_, ha, Q_BK162, Q_HB, Q_HO173, Q_HA_HO173, Q_X10_⟩ hb_ hon hoff
             refine ⟨_, rfl, fun K hK => ?_⟩
             have e18 : a.tmps[18]? = some (v172) := by rw [ha]; exact putSel_on (e := (6, 18, v172)) 4 rfl rfl (hon 6 (by kernel_rfl)) rfl
             have e21 : a.tmps[21]? = some (.int .i64 ji43) := by rw [ha]; exact putSel_on (e := (9, 21, .int .i64 ji43)) 6 rfl rfl (hon 9 (by kernel_rfl)) rfl
             replace ha := Ak ha
             have BK162 := Ak Q_BK162
             have HB := Ak Q_HB
             have HO173 := Ak (Q_HO173 (hon 6 (by kernel_rfl)))
             have HA_HO173 := Ak (Q_HA_HO173 (hon 6 (by kernel_rfl)))
             obtain ⟨c_, hv_⟩ := HA_HO173.out
             rw [hv_] at e18
             refine value_ (w1 := w') (v := .pointer (some (adz_v172.add ((ji43)).toNat))) (by rfl) rfl ?_ ?_
             ·go_simp
              (try simp only [i64_w])
              try rfl
             refine hK.out _ _ ⟨v172, adz_v172, (.pointer (some (adz_v172.add ((ji43)).toNat))), (by rw [ha.out]; exact putSel_upk 7 hb_ rfl rfl rfl), Q_BK162, Q_HB, Q_HO173, Q_HA_HO173, fun _ => rfl⟩
            refine steps_cons ?_ ?_
            ·rintro b a w' ⟨v172, adz_v172, m10_, ha, Q_BK162, Q_HB, Q_HO173, Q_HA_HO173, Q_X10_⟩ hb_ hon hoff
             refine ⟨_, rfl, fun K hK => ?_⟩
             have e22 : a.tmps[22]? = some (m10_) := by rw [ha]; exact putSel_on (e := (10, 22, m10_)) 7 rfl rfl (hon 10 (by kernel_rfl)) rfl
             rw [Q_X10_ (hon 10 (by kernel_rfl))] at e22
             replace ha := Ak ha
             have BK162 := Ak Q_BK162
             have HB := Ak Q_HB
             have HO173 := Ak (Q_HO173 (hon 6 (by kernel_rfl)))
             have HA_HO173 := Ak (Q_HA_HO173 (hon 6 (by kernel_rfl)))
             obtain ⟨c_, hv_⟩ := HA_HO173.out
             have hF_ := HO173.out
             rw [hv_] at hF_
             obtain ⟨ad_, ea_, hx_⟩ := Kd.at_string (Kd.R_reads' hF_).2.2 (ji43) (of_eq_true pi174) (of_eq_true qi174)
             cases ea_
             refine value_ (w1 := w') (v := .string (rdOf ByteArray.empty y171 (ji43))) (by rfl) rfl ?_ ?_
             ·go_simp
              (try simp only [i64_w])
              try rfl
             refine hK.out _ _ ⟨v172, adz_v172, m10_, (by rw [ha.out]; exact putSel_upk 8 hb_ rfl rfl rfl), Q_BK162, Q_HB, Q_HO173, Q_HA_HO173, Q_X10_⟩
            refine steps_cons ?_ ?_
            ·rintro b a w' ⟨v172, adz_v172, m10_, ha, Q_BK162, Q_HB, Q_HO173, Q_HA_HO173, Q_X10_⟩ hb_ hon hoff
             refine ⟨_, rfl, fun K hK => ?_⟩
             have e17 : a.tmps[17]? = some (.string t170) := by rw [ha]; exact putSel_on (e := (5, 17, .string t170)) 3 rfl rfl (hon 5 (by kernel_rfl)) rfl
             have e23 : a.tmps[23]? = some (.string (rdOf ByteArray.empty y171 (ji43))) := by rw [ha]; exact putSel_on (e := (11, 23, .string (rdOf ByteArray.empty y171 (ji43)))) 8 rfl rfl (hon 11 (by kernel_rfl)) rfl
             replace ha := Ak ha
             have BK162 := Ak Q_BK162
             have HB := Ak Q_HB
             have HO173 := Ak (Q_HO173 (hon 6 (by kernel_rfl)))
             have HA_HO173 := Ak (Q_HA_HO173 (hon 6 (by kernel_rfl)))
             refine value_ (w1 := w') (v := .string (t170 ++ (rdOf ByteArray.empty y171 (ji43)))) (by rfl) rfl ?_ ?_
             ·go_simp
              (try simp only [i64_w])
              try rfl
             refine hK.out _ _ ⟨v172, adz_v172, m10_, (by rw [ha.out]; exact putSel_upk 9 hb_ rfl rfl rfl), Q_BK162, Q_HB, Q_HO173, Q_HA_HO173, Q_X10_⟩
            refine steps_cons ?_ ?_
            ·rintro b a w' ⟨v172, adz_v172, m10_, ha, Q_BK162, Q_HB, Q_HO173, Q_HA_HO173, Q_X10_⟩ hb_ hon hoff
             refine ⟨_, rfl, fun K hK => ?_⟩
             have e25 : a.tmps[25]? = some (.pointer (some ⟨gb162, 2, none⟩)) := by rw [ha]; exact (putSel_off rfl).trans rfl
             replace ha := Ak ha
             have BK162 := Ak Q_BK162
             have HB := Ak Q_HB
             have hc0_ : w'.cell? ⟨gb162, 0, none⟩ = some (.int .i64 a0_0) := (blk_cell BK162.out 0).trans rfl
             have hc1_ : w'.cell? ⟨gb162, 1, none⟩ = some (.int .i64 a0_1) := (blk_cell BK162.out 1).trans rfl
             have hc2_ : w'.cell? ⟨gb162, 2, none⟩ = some (.slice (some ad169) l0_2.length c0_2) := (blk_cell BK162.out 2).trans rfl
             refine value_ (w1 := w') (v := .slice (some ad169) l0_2.length c0_2) (by rfl) rfl ?_ ?_
             ·go_simp
              (try simp only [i64_w])
              try rfl
             refine hK.out _ _ ⟨v172, adz_v172, m10_, (by rw [ha.out]; exact putSel_upk 10 hb_ rfl rfl rfl), Q_BK162, Q_HB, Q_HO173, Q_HA_HO173, Q_X10_⟩
            refine steps_cons ?_ ?_
            ·rintro b a w' ⟨v172, adz_v172, m10_, ha, Q_BK162, Q_HB, Q_HO173, Q_HA_HO173, Q_X10_⟩ hb_ hon hoff
             refine ⟨_, rfl, fun K hK => ?_⟩
             have e26 : a.tmps[26]? = some (.slice (some ad169) l0_2.length c0_2) := by rw [ha]; exact putSel_on (e := (14, 26, .slice (some ad169) l0_2.length c0_2)) 10 rfl rfl (hon 14 (by kernel_rfl)) rfl
             replace ha := Ak ha
             have BK162 := Ak Q_BK162
             have HB := Ak Q_HB
             have hs3_ : w'.cell? ⟨ad169.block, ad169.off + 3, none⟩ = some (.int .i64 ((rd_T25 l0_2 1).f0)) := ((HB.out.cell (World.block_lt_of_cell? w _ hw175_0)).trans hw175_0)
             have hs4_ : w'.cell? ⟨ad169.block, ad169.off + 3 + 1, none⟩ = some (.int .i64 ((rd_T25 l0_2 1).f1)) := ((HB.out.cell (World.block_lt_of_cell? w _ hw175_1)).trans hw175_1)
             have hs5_ : w'.cell? ⟨ad169.block, ad169.off + 3 + 2, none⟩ = some (.slice A175_2 ((rd_T25 l0_2 1).f2).length c175_2) := ((HB.out.cell (World.block_lt_of_cell? w _ hw175_2)).trans hw175_2)
             refine value_ (w1 := w') (v := .pointer (some (ad169.add 3))) (by rfl) rfl ?_ ?_
             ·go_simp
              (try simp only [i64_w])
              try rfl
             refine hK.out _ _ ⟨v172, adz_v172, m10_, (by rw [ha.out]; exact putSel_upk 11 hb_ rfl rfl rfl), Q_BK162, Q_HB, Q_HO173, Q_HA_HO173, Q_X10_⟩
            refine steps_cons ?_ ?_
            ·rintro b a w' ⟨v172, adz_v172, m10_, ha, Q_BK162, Q_HB, Q_HO173, Q_HA_HO173, Q_X10_⟩ hb_ hon hoff
             refine ⟨_, rfl, fun K hK => ?_⟩
             have e27 : a.tmps[27]? = some (.pointer (some (ad169.add 3))) := by rw [ha]; exact putSel_on (e := (15, 27, .pointer (some (ad169.add 3)))) 11 rfl rfl (hon 15 (by kernel_rfl)) rfl
             replace ha := Ak ha
             have BK162 := Ak Q_BK162
             have HB := Ak Q_HB
             have hs3_ : w'.cell? ⟨ad169.block, ad169.off + 3, none⟩ = some (.int .i64 ((rd_T25 l0_2 1).f0)) := ((HB.out.cell (World.block_lt_of_cell? w _ hw175_0)).trans hw175_0)
             have hs4_ : w'.cell? ⟨ad169.block, ad169.off + 3 + 1, none⟩ = some (.int .i64 ((rd_T25 l0_2 1).f1)) := ((HB.out.cell (World.block_lt_of_cell? w _ hw175_1)).trans hw175_1)
             have hs5_ : w'.cell? ⟨ad169.block, ad169.off + 3 + 2, none⟩ = some (.slice A175_2 ((rd_T25 l0_2 1).f2).length c175_2) := ((HB.out.cell (World.block_lt_of_cell? w _ hw175_2)).trans hw175_2)
             refine value_ (w1 := w') (v := .agg #[.int .i64 ((rd_T25 l0_2 1).f0), .int .i64 ((rd_T25 l0_2 1).f1), .slice A175_2 ((rd_T25 l0_2 1).f2).length c175_2]) (by rfl) rfl ?_ ?_
             ·go_simp
              (try simp only [i64_w])
              try rfl
             refine hK.out _ _ ⟨v172, adz_v172, m10_, (by rw [ha.out]; exact putSel_upk 12 hb_ rfl rfl rfl), Q_BK162, Q_HB, Q_HO173, Q_HA_HO173, Q_X10_⟩
            refine steps_cons ?_ ?_
            ·rintro b a w' ⟨v172, adz_v172, m10_, ha, Q_BK162, Q_HB, Q_HO173, Q_HA_HO173, Q_X10_⟩ hb_ hon hoff
             refine ⟨_, rfl, fun K hK => ?_⟩
             have e29 : a.tmps[29]? = some (.int .i64 t163) := by rw [ha]; exact (putSel_off rfl).trans rfl
             replace ha := Ak ha
             have BK162 := Ak Q_BK162
             have HB := Ak Q_HB
             refine value_ (w1 := w') (v := .int .i64 (wrap64 (t163 + 1))) (by rfl) rfl ?_ ?_
             ·go_simp
              (try simp only [i64_w])
              try rfl
             refine hK.out _ _ ⟨v172, adz_v172, m10_, (by rw [ha.out]; exact putSel_upk 13 hb_ rfl rfl rfl), Q_BK162, Q_HB, Q_HO173, Q_HA_HO173, Q_X10_⟩
            refine steps_cons ?_ ?_
            ·rintro b a w' ⟨v172, adz_v172, m10_, ha, Q_BK162, Q_HB, Q_HO173, Q_HA_HO173, Q_X10_⟩ hb_ hon hoff
             refine ⟨_, rfl, fun K hK => ?_⟩
             have e28 : a.tmps[28]? = some (.agg #[.int .i64 ((rd_T25 l0_2 1).f0), .int .i64 ((rd_T25 l0_2 1).f1), .slice A175_2 ((rd_T25 l0_2 1).f2).length c175_2]) := by rw [ha]; exact putSel_on (e := (16, 28, .agg #[.int .i64 ((rd_T25 l0_2 1).f0), .int .i64 ((rd_T25 l0_2 1).f1), .slice A175_2 ((rd_T25 l0_2 1).f2).length c175_2])) 12 rfl rfl (hon 16 (by kernel_rfl)) rfl
             have e30 : a.tmps[30]? = some (.int .i64 (wrap64 (t163 + 1))) := by rw [ha]; exact putSel_on (e := (18, 30, .int .i64 (wrap64 (t163 + 1)))) 13 rfl rfl (hon 18 (by kernel_rfl)) rfl
             replace ha := Ak ha
             have BK162 := Ak Q_BK162
             have HB := Ak Q_HB
             refine goes_ Tryd.func54 (by kernel_rfl) rfl #[.agg #[.int .i64 ((rd_T25 l0_2 1).f0), .int .i64 ((rd_T25 l0_2 1).f1), .slice A175_2 ((rd_T25 l0_2 1).f2).length c175_2], .int .i64 (wrap64 (t163 + 1))] (by rfl) rfl rfl (by first | (simp only [List.map_toArray, List.map_cons, List.map_nil, Act.eval, Array.getD_eq_getD_getElem?, Option.getD_some, e28, e30]; done) | (simp only [List.map_toArray, List.map_cons, List.map_nil, Act.eval, Array.getD_eq_getD_getElem?, Option.getD_some, e28, e30]; rfl)) ?_
             with_reducible refine (ih k (by omega) ((rd_T25 l0_2 1).f0) ((rd_T25 l0_2 1).f1) _ _ ((rd_T25 l0_2 1).f2) (wrap64 (t163 + 1)) t176 _ ?side1 ?side2 A48.out).mono ?_
             (case side1 => repeat (first | exact (Kd.C_below HR175_2.out HB.out) | (with_reducible refine Kd.C_alloc ?_ _) | (with_reducible refine Kd.C_drewN ?_ _) | (with_reducible refine Kd.C_drew ?_)))
             (case side2 => exact HC175_2.out)
             rintro e w68 ⟨rfl, hb⟩
             refine ⟨_, rfl, ?_⟩
             have n0_ := Ak (Qm BK162.out hb)
             have n1_ := Ak (below_step (Qb HB.out) hb)
             have z_HO173 := fun (h0_ : b 6 = true) => (show Kd.R Kd.string 9 w68 w.heap.size (fun _ => True) v172 y171 from by first | exact (Kd.R_below (by refine Qf ?_; exact (Q_HO173 h0_)) hb) | exact Kd.R_mono (Kd.R_below (by refine Qf ?_; exact (Q_HO173 h0_)) hb) (fun _ h_ => by first | trivial | exact h_ | exact h_.1))
             clear BK162 HB
             have BK162 := n0_
             have HB := n1_
             clear n0_ n1_
             (try clear hb); (try clear hb2); (try clear hk); (try clear hi)
             refine hK.out _ _ ⟨v172, adz_v172, m10_, (by rw [ha.out]; exact putSel_upk 14 hb_ rfl rfl rfl), (Qa BK162.out), (Qb HB.out), z_HO173, Q_HA_HO173, Q_X10_⟩
            refine steps_cons ?_ ?_
            ·rintro b a w' ⟨v172, adz_v172, m10_, ha, Q_BK162, Q_HB, Q_HO173, Q_HA_HO173, Q_X10_⟩ hb_ hon hoff
             refine ⟨_, rfl, fun K hK => ?_⟩
             have e24 : a.tmps[24]? = some (.string (t170 ++ (rdOf ByteArray.empty y171 (ji43)))) := by rw [ha]; exact putSel_on (e := (12, 24, .string (t170 ++ (rdOf ByteArray.empty y171 (ji43))))) 9 rfl rfl (hon 12 (by kernel_rfl)) rfl
             have e31 : a.tmps[31]? = some (.string t176) := by rw [ha]; exact putSel_on (e := (19, 31, .string t176)) 14 rfl rfl (hon 19 (by kernel_rfl)) rfl
             replace ha := Ak ha
             have BK162 := Ak Q_BK162
             have HB := Ak Q_HB
             have HO173 := Ak (Q_HO173 (hon 6 (by kernel_rfl)))
             have HA_HO173 := Ak (Q_HA_HO173 (hon 6 (by kernel_rfl)))
             refine value_ (w1 := w') (v := .string ((t170 ++ (rdOf ByteArray.empty y171 (ji43))) ++ t176)) (by rfl) rfl ?_ ?_
             ·go_simp
              (try simp only [i64_w])
              try rfl
             refine hK.out _ _ ⟨v172, adz_v172, m10_, (by rw [ha.out]; exact putSel_upk 15 hb_ rfl rfl rfl), Q_BK162, Q_HB, Q_HO173, Q_HA_HO173, Q_X10_⟩
            refine steps_cons ?_ ?_
            ·rintro b a w' ⟨v172, adz_v172, m10_, ha, Q_BK162, Q_HB, Q_HO173, Q_HA_HO173, Q_X10_⟩ hb_ hon hoff
             refine ⟨_, rfl, fun K hK => ?_⟩
             have e32 : a.tmps[32]? = some (.string ((t170 ++ (rdOf ByteArray.empty y171 (ji43))) ++ t176)) := by rw [ha]; exact putSel_on (e := (20, 32, .string ((t170 ++ (rdOf ByteArray.empty y171 (ji43))) ++ t176))) 15 rfl rfl (hon 20 (by kernel_rfl)) rfl
             replace ha := Ak ha
             have BK162 := Ak Q_BK162
             have HB := Ak Q_HB
             have HO173 := Ak (Q_HO173 (hon 6 (by kernel_rfl)))
             have HA_HO173 := Ak (Q_HA_HO173 (hon 6 (by kernel_rfl)))
             refine value_ (w1 := w') (v := .string ((t170 ++ (rdOf ByteArray.empty y171 (ji43))) ++ t176)) (by rfl) rfl ?_ ?_
             ·go_simp
              (try simp only [i64_w])
              try rfl
             refine hK.out _ _ ⟨v172, adz_v172, m10_, (by rw [ha.out]; exact putSel_upk 16 hb_ rfl rfl rfl), Q_BK162, Q_HB, Q_HO173, Q_HA_HO173, Q_X10_⟩
            exact steps_nil
           rintro b a w71 hall ⟨v172, adz_v172, m10_, ha, Q_BK162, Q_HB, Q_HO173, Q_HA_HO173, Q_X10_⟩
           clear BK162 HB
           have hb1_ := hall 1 (by kernel_rfl)
           have hb2_ := hall 2 (by kernel_rfl)
           have hb3_ := hall 3 (by kernel_rfl)
           have hb5_ := hall 5 (by kernel_rfl)
           have hb6_ := hall 6 (by kernel_rfl)
           have hb8_ := hall 8 (by kernel_rfl)
           have hb9_ := hall 9 (by kernel_rfl)
           have hb10_ := hall 10 (by kernel_rfl)
           have hb11_ := hall 11 (by kernel_rfl)
           have hb12_ := hall 12 (by kernel_rfl)
           have hb14_ := hall 14 (by kernel_rfl)
           have hb15_ := hall 15 (by kernel_rfl)
           have hb16_ := hall 16 (by kernel_rfl)
           have hb18_ := hall 18 (by kernel_rfl)
           have hb19_ := hall 19 (by kernel_rfl)
           have hb20_ := hall 20 (by kernel_rfl)
           have hb21_ := hall 21 (by kernel_rfl)
           subst ha
           obtain rfl := Q_X10_ hb10_
           simp only [putSel, hb1_, hb2_, hb3_, hb5_, hb6_, hb8_, hb9_, hb10_, hb11_, hb12_, hb14_, hb15_, hb16_, hb18_, hb19_, hb20_, hb21_, if_true, Act.put, List.setIfInBounds_toArray, List.set_cons_zero, List.set_cons_succ]
           have BK162 := Ak Q_BK162
           clear Q_BK162
           have HB := Ak Q_HB
           clear Q_HB
           have HO173 := Ak (Q_HO173 hb6_)
           clear Q_HO173
           have HA_HO173 := Ak (Q_HA_HO173 hb6_)
           clear Q_HA_HO173
           clear hall hb1_ hb2_ hb3_ hb5_ hb6_ hb8_ hb9_ hb10_ hb11_ hb12_ hb14_ hb15_ hb16_ hb18_ hb19_ hb20_ hb21_
           obtain ⟨co72, eo72⟩ := HA_HO173.out
           clear HA_HO173
           subst eo72
           try go_wp2
           go_ret
           exact ⟨by first | rfl | (simp [errW_none, errW_some] <;> rfl) | (simp only [← hji43]; first | rfl | (simp [errW_none, errW_some] <;> rfl)) | (simp [*, errW_none, errW_some] <;> rfl), Qb HB.out⟩
         ·rw [if_neg c49] at H
          exact absurd H (by simp)
        ·rw [if_neg c47] at H
         exact absurd H (by simp)
       ·rw [if_neg c46] at H
        exact absurd H (by simp)
      ·rw [if_neg c45] at H
       exact absurd H (by simp)
     ·rw [if_neg c44] at H
      exact absurd H (by simp)
    ·rw [if_neg c41] at H
     exact absurd H (by simp)

end Go.Proofs.YtjfgcipbbcplmaaDoor.HFnExactFormatExpr

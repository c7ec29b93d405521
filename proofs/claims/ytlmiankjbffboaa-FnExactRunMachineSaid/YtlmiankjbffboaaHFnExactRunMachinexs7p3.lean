/- Text for FnExactRunMachine: written by a program of this session on the pattern of the kit's print. -/
import Derived.Test.YtlmiankjbffboaaHFnExactRunMachinex0
import Derived.Test.YtlmiankjbffboaaHFnExactRunMachinex5
import Derived.Test.YtlmiankjbffboaaHFnExactRunMachinex6
namespace Go.Proofs.Ytlmiankjbffboaa.HFnExactRunMachine
open Go.RowKit Go.Proofs.YtlmiankjbffboaaW.PrintWords Go.Proofs.YtlmiankjbffboaaW.PrintLast Go.Proofs.YtlmiankjbffboaaW.PrintMore
attribute [local go_sem] max2_int min2_int max_two min_two max_three min_three max_four min_four
set_option linter.unusedVariables false
set_option linter.unusedSimpArgs false

/-! ## spec_l7Change: function 38 -/
theorem ownlen_ (A : Option Addr) (n m c d : Nat) : (Value.slice A n c).ownBlock = (Value.slice A m d).ownBlock := by cases A <;> rfl
def spec_l7Change.f (k : Nat) (a0_0 : Int) (a0_1 : Int) (a0_2 : Int) (a0_3 : Int) (a1_0 : Int) (l1_1 : List Int) (l1_2 : List Int) : Option (Int × List Int × List Int) := if a0_0 = 1 then (if l1_1.length < 17592186044416 then (some (wrap64 (a1_0 + 1), (l1_1 ++ [a0_1]), l1_2)) else (none)) else (if a0_0 = 2 then (if 0 ≤ (wrap64 ((l1_1.length : Int) - 2)) then (if (wrap64 ((l1_1.length : Int) - 2)) ≤ (l1_1.length : Int) then ((some (l1_1.take ((wrap64 ((l1_1.length : Int) - 2)) : Int).toNat : List Int)).bind fun y248 => (if (wrap64 ((l1_1.length : Int) - 2)) < (l1_1.length : Int) then (if 0 ≤ (wrap64 ((l1_1.length : Int) - 1)) then (if (wrap64 ((l1_1.length : Int) - 1)) < (l1_1.length : Int) then ((spec_WrapCell.f (wrap64 ((rd l1_1 (wrap64 ((l1_1.length : Int) - 2))) + (rd l1_1 (wrap64 ((l1_1.length : Int) - 1)))))).bind fun t253 => (if y248.length < 17592186044416 then (some (wrap64 (a1_0 + 1), (y248 ++ [t253]), l1_2)) else (none))) else (none)) else (none)) else (none))) else (none)) else (none)) else (if a0_0 = 3 then (if 0 ≤ (wrap64 ((l1_1.length : Int) - 2)) then (if (wrap64 ((l1_1.length : Int) - 2)) ≤ (l1_1.length : Int) then ((some (l1_1.take ((wrap64 ((l1_1.length : Int) - 2)) : Int).toNat : List Int)).bind fun y257 => (if (wrap64 ((l1_1.length : Int) - 2)) < (l1_1.length : Int) then (if 0 ≤ (wrap64 ((l1_1.length : Int) - 1)) then (if (wrap64 ((l1_1.length : Int) - 1)) < (l1_1.length : Int) then ((spec_WrapCell.f (wrap64 ((rd l1_1 (wrap64 ((l1_1.length : Int) - 2))) - (rd l1_1 (wrap64 ((l1_1.length : Int) - 1)))))).bind fun t262 => (if y257.length < 17592186044416 then (some (wrap64 (a1_0 + 1), (y257 ++ [t262]), l1_2)) else (none))) else (none)) else (none)) else (none))) else (none)) else (none)) else (if a0_0 = 4 then (if 0 ≤ (wrap64 ((l1_1.length : Int) - 2)) then (if (wrap64 ((l1_1.length : Int) - 2)) ≤ (l1_1.length : Int) then ((some (l1_1.take ((wrap64 ((l1_1.length : Int) - 2)) : Int).toNat : List Int)).bind fun y266 => (if (wrap64 ((l1_1.length : Int) - 2)) < (l1_1.length : Int) then (if 0 ≤ (wrap64 ((l1_1.length : Int) - 1)) then (if (wrap64 ((l1_1.length : Int) - 1)) < (l1_1.length : Int) then ((spec_WrapCell.f (wrap64 ((rd l1_1 (wrap64 ((l1_1.length : Int) - 2))) * (rd l1_1 (wrap64 ((l1_1.length : Int) - 1)))))).bind fun t271 => (if y266.length < 17592186044416 then (some (wrap64 (a1_0 + 1), (y266 ++ [t271]), l1_2)) else (none))) else (none)) else (none)) else (none))) else (none)) else (none)) else (if a0_0 = 5 then (if 0 ≤ (wrap64 ((l1_1.length : Int) - 1)) then (if (wrap64 ((l1_1.length : Int) - 1)) < (l1_1.length : Int) then (some (wrap64 (a1_0 + 1), (l1_1.set ((wrap64 ((l1_1.length : Int) - 1)) : Int).toNat (wrap64 (-(rd l1_1 (wrap64 ((l1_1.length : Int) - 1)))))), l1_2)) else (none)) else (none)) else (if a0_0 = 6 then (if 0 ≤ (wrap64 ((l1_1.length : Int) - 1)) then (if (wrap64 ((l1_1.length : Int) - 1)) < (l1_1.length : Int) then ((spec_SignOf.f (rd l1_1 (wrap64 ((l1_1.length : Int) - 1)))).bind fun t278 => (some (wrap64 (a1_0 + 1), (l1_1.set ((wrap64 ((l1_1.length : Int) - 1)) : Int).toNat t278), l1_2))) else (none)) else (none)) else (if a0_0 = 7 then (if 0 ≤ (wrap64 ((l1_1.length : Int) - 1)) then (if (wrap64 ((l1_1.length : Int) - 1)) < (l1_1.length : Int) then (if l1_1.length < 17592186044416 then (some (wrap64 (a1_0 + 1), (l1_1 ++ [rd l1_1 (wrap64 ((l1_1.length : Int) - 1))]), l1_2)) else (none)) else (none)) else (none)) else (if a0_0 = 8 then (if 0 ≤ (wrap64 ((l1_1.length : Int) - 1)) then (if (wrap64 ((l1_1.length : Int) - 1)) < (l1_1.length : Int) then (if 0 ≤ (wrap64 ((l1_1.length : Int) - 2)) then (if (wrap64 ((l1_1.length : Int) - 2)) < (l1_1.length : Int) then (some (wrap64 (a1_0 + 1), ((l1_1.set ((wrap64 ((l1_1.length : Int) - 1)) : Int).toNat (rd l1_1 (wrap64 ((l1_1.length : Int) - 2)))).set ((wrap64 ((l1_1.length : Int) - 2)) : Int).toNat (rd l1_1 (wrap64 ((l1_1.length : Int) - 1)))), l1_2)) else (none)) else (none)) else (none)) else (none)) else (if a0_0 = 9 then (if 0 ≤ (wrap64 ((l1_1.length : Int) - 1)) then (if (wrap64 ((l1_1.length : Int) - 1)) ≤ (l1_1.length : Int) then (some (wrap64 (a1_0 + 1), (l1_1.take ((wrap64 ((l1_1.length : Int) - 1)) : Int).toNat), l1_2)) else (none)) else (none)) else (if a0_0 = 10 then (if 0 ≤ (wrap64 ((l1_1.length : Int) - 1)) then (if (wrap64 ((l1_1.length : Int) - 1)) < (l1_1.length : Int) then ((spec_l7Shift.f k (rd l1_1 (wrap64 ((l1_1.length : Int) - 1))) a0_1).bind fun t292 => (some (wrap64 (a1_0 + 1), (l1_1.set ((wrap64 ((l1_1.length : Int) - 1)) : Int).toNat t292), l1_2))) else (none)) else (none)) else (if a0_0 = 11 then (if 0 ≤ (wrap64 ((l1_1.length : Int) - 1)) then (if (wrap64 ((l1_1.length : Int) - 1)) < (l1_1.length : Int) then (if 0 ≤ (wrap64 ((rd l1_1 (wrap64 ((l1_1.length : Int) - 1))) + 13)) then (if (wrap64 ((rd l1_1 (wrap64 ((l1_1.length : Int) - 1))) + 13)) < (l1_2.length : Int) then (some (wrap64 (a1_0 + 1), (l1_1.set ((wrap64 ((l1_1.length : Int) - 1)) : Int).toNat (rd l1_2 (wrap64 ((rd l1_1 (wrap64 ((l1_1.length : Int) - 1))) + 13)))), l1_2)) else (none)) else (none)) else (none)) else (none)) else (if a0_0 = 12 then (if 0 ≤ (wrap64 ((l1_1.length : Int) - 1)) then (if (wrap64 ((l1_1.length : Int) - 1)) < (l1_1.length : Int) then (if 0 ≤ (wrap64 ((l1_1.length : Int) - 2)) then (if (wrap64 ((l1_1.length : Int) - 2)) < (l1_1.length : Int) then (if 0 ≤ (wrap64 ((rd l1_1 (wrap64 ((l1_1.length : Int) - 1))) + 13)) then (if (wrap64 ((rd l1_1 (wrap64 ((l1_1.length : Int) - 1))) + 13)) < (l1_2.length : Int) then (if (wrap64 ((l1_1.length : Int) - 2)) ≤ (l1_1.length : Int) then (some (wrap64 (a1_0 + 1), (l1_1.take ((wrap64 ((l1_1.length : Int) - 2)) : Int).toNat), (l1_2.set ((wrap64 ((rd l1_1 (wrap64 ((l1_1.length : Int) - 1))) + 13)) : Int).toNat (rd l1_1 (wrap64 ((l1_1.length : Int) - 2)))))) else (none)) else (none)) else (none)) else (none)) else (none)) else (none)) else (none)) else (if a0_0 = 13 then (some (a0_1, l1_1, l1_2)) else (if a0_0 = 14 then ((some (([a0_1, a0_2, a0_3] : List Int) : List Int)).bind fun y303 => (if 0 ≤ (wrap64 ((l1_1.length : Int) - 1)) then (if (wrap64 ((l1_1.length : Int) - 1)) < (l1_1.length : Int) then ((spec_SignOf.f (rd l1_1 (wrap64 ((l1_1.length : Int) - 1)))).bind fun t307 => (if 0 ≤ (wrap64 (t307 + 1)) then (if (wrap64 (t307 + 1)) < (y303.length : Int) then (if (wrap64 ((l1_1.length : Int) - 1)) ≤ (l1_1.length : Int) then (some (rd y303 (wrap64 (t307 + 1)), (l1_1.take ((wrap64 ((l1_1.length : Int) - 1)) : Int).toNat), l1_2)) else (none)) else (none)) else (none))) else (none)) else (none))) else (some (wrap64 (a1_0 + 1), l1_1, l1_2)))))))))))))))
theorem spec_l7Change.mono : ∀ a0 a1 a2 a3 a4 a5 a6 k, LeO (spec_l7Change.f k a0 a1 a2 a3 a4 a5 a6) (spec_l7Change.f (k + 1) a0 a1 a2 a3 a4 a5 a6) := by
 intro a0 a1 a2 a3 a4 a5 a6 k
 unfold spec_l7Change.f
 repeat' first
   | (with_reducible exact spec_l7Shift.mono _ _ _)
   | (with_reducible exact LeO.refl _)
   | (with_reducible exact LeO.none _)
   | (with_reducible refine LeO.ite ?_ ?_)
   | (with_reducible refine LeO.bind ?_ (fun _ => ?_))
   | exact spec_l7Shift.mono _ _ _
   | exact LeO.none _
   | refine LeO.ite ?_ ?_
   | refine LeO.bind ?_ (fun _ => ?_)
def spec_l7Change.T7 : Bool × List (List Nat × List Nat) := (true, [([], []), ([0], [0]), ([], []), ([2], [2]), ([1, 3], [1, 3]), ([], []), ([5], [5]), ([], []), ([7], [7]), ([6, 8], [6, 8]), ([9], [9]), ([], []), ([11], [11]), ([], []), ([13], [13]), ([12, 14], [12, 14]), ([15], [15]), ([10, 16], [10, 16]), ([17], [17]), ([18], [18]), ([4, 19, 18], [4, 19]), ([0, 1, 2, 3, 4, 5, 6, 7, 8, 9, 10, 11, 12, 13, 14, 15, 16, 17, 18, 19, 20], []), ([21, 20, 20, 0, 1, 2, 3, 4, 5, 6, 7, 8, 9, 10, 11, 12, 13, 14, 15, 16, 17, 18, 19, 20], [20, 21])])
def spec_l7Change.B7 : List Nat := [0, 1, 0, 4, 15, 0, 32, 0, 128, 480, 992, 0, 2048, 0, 8192, 30720, 63488, 131040, 262112, 524256, 1048575, 2097151, 4194303]
theorem spec_l7Change.tab7 : rtab .any (opsOf Try.f38 7) = spec_l7Change.T7 := by kernel_rfl
theorem spec_l7Change.bits7 : waitsOk spec_l7Change.T7.2 spec_l7Change.B7 = true := by kernel_rfl
def spec_l7Change.T9 : Bool × List (List Nat × List Nat) := (true, [([], []), ([0], [0]), ([], []), ([2], [2]), ([1, 3], [1, 3]), ([], []), ([5], [5]), ([], []), ([7], [7]), ([6, 8], [6, 8]), ([9], [9]), ([], []), ([11], [11]), ([], []), ([13], [13]), ([12, 14], [12, 14]), ([15], [15]), ([10, 16], [10, 16]), ([17], [17]), ([18], [18]), ([4, 19, 18], [4, 19]), ([0, 1, 2, 3, 4, 5, 6, 7, 8, 9, 10, 11, 12, 13, 14, 15, 16, 17, 18, 19, 20], []), ([21, 20, 20, 0, 1, 2, 3, 4, 5, 6, 7, 8, 9, 10, 11, 12, 13, 14, 15, 16, 17, 18, 19, 20], [20, 21])])
def spec_l7Change.B9 : List Nat := [0, 1, 0, 4, 15, 0, 32, 0, 128, 480, 992, 0, 2048, 0, 8192, 30720, 63488, 131040, 262112, 524256, 1048575, 2097151, 4194303]
theorem spec_l7Change.tab9 : rtab .any (opsOf Try.f38 9) = spec_l7Change.T9 := by kernel_rfl
theorem spec_l7Change.bits9 : waitsOk spec_l7Change.T9.2 spec_l7Change.B9 = true := by kernel_rfl
def spec_l7Change.T11 : Bool × List (List Nat × List Nat) := (true, [([], []), ([0], [0]), ([], []), ([2], [2]), ([1, 3], [1, 3]), ([], []), ([5], [5]), ([], []), ([7], [7]), ([6, 8], [6, 8]), ([9], [9]), ([], []), ([11], [11]), ([], []), ([13], [13]), ([12, 14], [12, 14]), ([15], [15]), ([10, 16], [10, 16]), ([17], [17]), ([18], [18]), ([4, 19, 18], [4, 19]), ([0, 1, 2, 3, 4, 5, 6, 7, 8, 9, 10, 11, 12, 13, 14, 15, 16, 17, 18, 19, 20], []), ([21, 20, 20, 0, 1, 2, 3, 4, 5, 6, 7, 8, 9, 10, 11, 12, 13, 14, 15, 16, 17, 18, 19, 20], [20, 21])])
def spec_l7Change.B11 : List Nat := [0, 1, 0, 4, 15, 0, 32, 0, 128, 480, 992, 0, 2048, 0, 8192, 30720, 63488, 131040, 262112, 524256, 1048575, 2097151, 4194303]
theorem spec_l7Change.tab11 : rtab .any (opsOf Try.f38 11) = spec_l7Change.T11 := by kernel_rfl
theorem spec_l7Change.bits11 : waitsOk spec_l7Change.T11.2 spec_l7Change.B11 = true := by kernel_rfl
def spec_l7Change.T13 : Bool × List (List Nat × List Nat) := (true, [([], []), ([0], [0]), ([], []), ([2], [2]), ([], []), ([4], [4]), ([], []), ([6], [6]), ([5, 7], [5, 7]), ([8], [8]), ([9], [9]), ([1, 3, 0, 1, 2, 3, 4, 5, 6, 7, 8, 9, 10], [1, 3]), ([11, 10, 0, 1, 2, 3, 4, 5, 6, 7, 8, 9, 10], [10, 11])])
def spec_l7Change.B13 : List Nat := [0, 1, 0, 4, 0, 16, 0, 64, 240, 496, 1008, 2047, 4095]
theorem spec_l7Change.tab13 : rtab .any (opsOf Try.f38 13) = spec_l7Change.T13 := by kernel_rfl
theorem spec_l7Change.bits13 : waitsOk spec_l7Change.T13.2 spec_l7Change.B13 = true := by kernel_rfl
def spec_l7Change.T15 : Bool × List (List Nat × List Nat) := (true, [([], []), ([0], [0]), ([], []), ([2], [2]), ([], []), ([4], [4]), ([], []), ([6], [6]), ([5, 7], [5, 7]), ([8], [8]), ([9], [9]), ([1, 3, 0, 1, 2, 3, 4, 5, 6, 7, 8, 9, 10], [1, 3]), ([11, 10, 10, 0, 1, 2, 3, 4, 5, 6, 7, 8, 9, 10], [10, 11])])
def spec_l7Change.B15 : List Nat := [0, 1, 0, 4, 0, 16, 0, 64, 240, 496, 1008, 2047, 4095]
theorem spec_l7Change.tab15 : rtab .any (opsOf Try.f38 15) = spec_l7Change.T15 := by kernel_rfl
theorem spec_l7Change.bits15 : waitsOk spec_l7Change.T15.2 spec_l7Change.B15 = true := by kernel_rfl
def spec_l7Change.T17 : Bool × List (List Nat × List Nat) := (true, [([], []), ([0], [0]), ([], []), ([2], [2]), ([], []), ([4], [4]), ([3, 5], [3, 5]), ([6], [6]), ([7], [7]), ([1, 8], [1, 8]), ([0, 1, 2, 3, 4, 5, 6, 7, 8, 9], []), ([10, 9, 9, 0, 1, 2, 3, 4, 5, 6, 7, 8, 9], [9, 10])])
def spec_l7Change.B17 : List Nat := [0, 1, 0, 4, 0, 16, 60, 124, 252, 511, 1023, 2047]
theorem spec_l7Change.tab17 : rtab .any (opsOf Try.f38 17) = spec_l7Change.T17 := by kernel_rfl
theorem spec_l7Change.bits17 : waitsOk spec_l7Change.T17.2 spec_l7Change.B17 = true := by kernel_rfl
def spec_l7Change.T20 : Bool × List (List Nat × List Nat) := (true, [([], []), ([0], [0]), ([], []), ([2], [2]), ([], []), ([4], [4]), ([], []), ([6], [6]), ([5, 7], [5, 7]), ([8], [8]), ([1, 3, 0, 1, 2, 3, 4, 5, 6, 7, 8, 9], [1, 3]), ([10, 9, 0, 1, 2, 3, 4, 5, 6, 7, 8, 9], [9, 10])])
def spec_l7Change.B20 : List Nat := [0, 1, 0, 4, 0, 16, 0, 64, 240, 496, 1023, 2047]
theorem spec_l7Change.tab20 : rtab .any (opsOf Try.f38 20) = spec_l7Change.T20 := by kernel_rfl
theorem spec_l7Change.bits20 : waitsOk spec_l7Change.T20.2 spec_l7Change.B20 = true := by kernel_rfl
def spec_l7Change.T25 : Bool × List (List Nat × List Nat) := (true, [([], []), ([0], [0]), ([], []), ([2], [2]), ([], []), ([4], [4]), ([], []), ([6], [6]), ([5, 7], [5, 7]), ([8], [8]), ([], []), ([10], [10]), ([9, 11], [9, 11]), ([1, 3, 0, 1, 2, 3, 4, 5, 6, 7, 8, 9, 10, 11, 12], [1, 3]), ([13, 12, 12, 0, 1, 2, 3, 4, 5, 6, 7, 8, 9, 10, 11, 12], [12, 13])])
def spec_l7Change.B25 : List Nat := [0, 1, 0, 4, 0, 16, 0, 64, 240, 496, 0, 1024, 4080, 8191, 16383]
theorem spec_l7Change.tab25 : rtab .any (opsOf Try.f38 25) = spec_l7Change.T25 := by kernel_rfl
theorem spec_l7Change.bits25 : waitsOk spec_l7Change.T25.2 spec_l7Change.B25 = true := by kernel_rfl
def spec_l7Change.T27 : Bool × List (List Nat × List Nat) := (true, [([], []), ([0], [0]), ([], []), ([2], [2]), ([], []), ([4], [4]), ([], []), ([6], [6]), ([], []), ([8], [8]), ([7, 9], [7, 9]), ([10], [10]), ([11], [11]), ([5, 12], [5, 12]), ([13], [13]), ([1, 3, 0, 1, 2, 3, 4, 5, 6, 7, 8, 9, 10, 11, 12, 13, 14], [1, 3]), ([15, 14, 0, 1, 2, 3, 4, 5, 6, 7, 8, 9, 10, 11, 12, 13, 14], [14, 15])])
def spec_l7Change.B27 : List Nat := [0, 1, 0, 4, 0, 16, 0, 64, 0, 256, 960, 1984, 4032, 8176, 16368, 32767, 65535]
theorem spec_l7Change.tab27 : rtab .any (opsOf Try.f38 27) = spec_l7Change.T27 := by kernel_rfl
theorem spec_l7Change.bits27 : waitsOk spec_l7Change.T27.2 spec_l7Change.B27 = true := by kernel_rfl
def spec_l7Change.T29 : Bool × List (List Nat × List Nat) := (true, [([], []), ([0], [0]), ([], []), ([2], [2]), ([], []), ([4], [4]), ([3, 5], [3, 5]), ([6], [6]), ([7], [7]), ([], []), ([9], [9]), ([], []), ([11], [11]), ([10, 12], [10, 12]), ([13], [13]), ([1, 8, 0, 1, 2, 3, 4, 5, 6, 7, 8, 9, 10, 11, 12, 13, 14], [1, 8]), ([15, 14, 0, 1, 2, 3, 4, 5, 6, 7, 8, 9, 10, 11, 12, 13, 14], [14, 15])])
def spec_l7Change.B29 : List Nat := [0, 1, 0, 4, 0, 16, 60, 124, 252, 0, 512, 0, 2048, 7680, 15872, 32767, 65535]
theorem spec_l7Change.tab29 : rtab .any (opsOf Try.f38 29) = spec_l7Change.T29 := by kernel_rfl
theorem spec_l7Change.bits29 : waitsOk spec_l7Change.T29.2 spec_l7Change.B29 = true := by kernel_rfl
def spec_l7Change.T34 : Bool × List (List Nat × List Nat) := (true, [([], []), ([0], [0]), ([], []), ([2], [2]), ([], []), ([4], [4]), ([1, 3, 5], [1, 3, 5]), ([], []), ([7], [7]), ([], []), ([9], [9]), ([8, 10], [8, 10]), ([11], [11]), ([12], [12]), ([13], [13]), ([6, 14], [6, 14]), ([15], [15]), ([0, 1, 2, 3, 4, 5, 6, 7, 8, 9, 10, 11, 12, 13, 14, 15, 16], []), ([17, 16, 13, 0, 1, 2, 3, 4, 5, 6, 7, 8, 9, 10, 11, 12, 13, 14, 15, 16], [16, 17])])
def spec_l7Change.B34 : List Nat := [0, 1, 0, 4, 0, 16, 63, 0, 128, 0, 512, 1920, 3968, 8064, 16256, 32767, 65535, 131071, 262143]
theorem spec_l7Change.tab34 : rtab .any (opsOf Try.f38 34) = spec_l7Change.T34 := by kernel_rfl
theorem spec_l7Change.bits34 : waitsOk spec_l7Change.T34.2 spec_l7Change.B34 = true := by kernel_rfl
set_option maxHeartbeats 8000000 in
set_option maxRecDepth 100000 in
theorem spec_l7Change.calls_11 (k : Nat) (a0_0 : Int) (a0_1 : Int) (a0_2 : Int) (a0_3 : Int) (a1_0 : Int) (P1_1_ : Nat → Prop) (u9000_ : Value) (l1_1 : List Int) (P1_2_ : Nat → Prop) (u9001_ : Value) (l1_2 : List Int) (r1 : Int) (r2 : List Int) (r3 : List Int) (w0 w : World) (hB : Below w0.heap.size w0 w) (ho1_1 : Kd.R (Kd.int .i64) 3 w w0.heap.size P1_1_ u9000_ l1_1) (hp1_1_1_2 : ∀ k_, P1_1_ k_ → ¬ P1_2_ k_) (ho1_2 : Kd.R (Kd.int .i64) 3 w w0.heap.size P1_2_ u9001_ l1_2) (hp1_2_1_1 : ∀ k_, P1_2_ k_ → ¬ P1_1_ k_) (c3 : ¬ a0_0 = 1) (c19 : ¬ a0_0 = 2) (c47 : ¬ a0_0 = 3) (c75 : ¬ a0_0 = 4) (c103 : ¬ a0_0 = 5) (c124 : ¬ a0_0 = 6) (c147 : ¬ a0_0 = 7) (c169 : ¬ a0_0 = 8) (c197 : ¬ a0_0 = 9) (c215 : ¬ a0_0 = 10) (h : (if a0_0 = 11 then (if 0 ≤ (wrap64 ((l1_1.length : Int) - 1)) then (if (wrap64 ((l1_1.length : Int) - 1)) < (l1_1.length : Int) then (if 0 ≤ (wrap64 ((rd l1_1 (wrap64 ((l1_1.length : Int) - 1))) + 13)) then (if (wrap64 ((rd l1_1 (wrap64 ((l1_1.length : Int) - 1))) + 13)) < (l1_2.length : Int) then (some (wrap64 (a1_0 + 1), (l1_1.set ((wrap64 ((l1_1.length : Int) - 1)) : Int).toNat (rd l1_2 (wrap64 ((rd l1_1 (wrap64 ((l1_1.length : Int) - 1))) + 13)))), l1_2)) else (none)) else (none)) else (none)) else (none)) else (if a0_0 = 12 then (if 0 ≤ (wrap64 ((l1_1.length : Int) - 1)) then (if (wrap64 ((l1_1.length : Int) - 1)) < (l1_1.length : Int) then (if 0 ≤ (wrap64 ((l1_1.length : Int) - 2)) then (if (wrap64 ((l1_1.length : Int) - 2)) < (l1_1.length : Int) then (if 0 ≤ (wrap64 ((rd l1_1 (wrap64 ((l1_1.length : Int) - 1))) + 13)) then (if (wrap64 ((rd l1_1 (wrap64 ((l1_1.length : Int) - 1))) + 13)) < (l1_2.length : Int) then (if (wrap64 ((l1_1.length : Int) - 2)) ≤ (l1_1.length : Int) then (some (wrap64 (a1_0 + 1), (l1_1.take ((wrap64 ((l1_1.length : Int) - 2)) : Int).toNat), (l1_2.set ((wrap64 ((rd l1_1 (wrap64 ((l1_1.length : Int) - 1))) + 13)) : Int).toNat (rd l1_1 (wrap64 ((l1_1.length : Int) - 2)))))) else (none)) else (none)) else (none)) else (none)) else (none)) else (none)) else (none)) else (if a0_0 = 13 then (some (a0_1, l1_1, l1_2)) else (if a0_0 = 14 then ((some (([a0_1, a0_2, a0_3] : List Int) : List Int)).bind fun y303 => (if 0 ≤ (wrap64 ((l1_1.length : Int) - 1)) then (if (wrap64 ((l1_1.length : Int) - 1)) < (l1_1.length : Int) then ((spec_SignOf.f (rd l1_1 (wrap64 ((l1_1.length : Int) - 1)))).bind fun t307 => (if 0 ≤ (wrap64 (t307 + 1)) then (if (wrap64 (t307 + 1)) < (y303.length : Int) then (if (wrap64 ((l1_1.length : Int) - 1)) ≤ (l1_1.length : Int) then (some (rd y303 (wrap64 (t307 + 1)), (l1_1.take ((wrap64 ((l1_1.length : Int) - 1)) : Int).toNat), l1_2)) else (none)) else (none)) else (none))) else (none)) else (none))) else (some (wrap64 (a1_0 + 1), l1_1, l1_2)))))) = some (r1, r2, r3)) :
  Calls Try.prog 38 #[.agg #[.int .i64 a0_0, .int .i64 a0_1, .int .i64 a0_2, .int .i64 a0_3], .agg #[.int .i64 a1_0, u9000_, u9001_]] w fun e w' => ∃ v1_ v2_ : Value, e = .returned (.agg #[.int .i64 r1, v1_, v2_]) ∧ Kd.R (Kd.int .i64) 3 w' w0.heap.size (fun k_ => ((P1_1_ k_ ∨ P1_2_ k_) ∨ w.heap.size ≤ k_) ∧ some k_ ≠ (v2_ : Value).ownBlock) v1_ r2 ∧ Kd.R (Kd.int .i64) 3 w' w0.heap.size (fun k_ => ((P1_1_ k_ ∨ P1_2_ k_) ∨ w.heap.size ≤ k_) ∧ some k_ ≠ (v1_ : Value).ownBlock) v2_ r3 ∧ Below w0.heap.size w0 w' ∧ Kept w w' (fun k_ => P1_1_ k_ ∨ P1_2_ k_) := by
 have hu48 := Try.underlying48
 have hu28 := Try.underlying28
 have HO1_1 := Ak (show Kd.R (Kd.int .i64) 3 w w0.heap.size (fun k_ => ((P1_1_ k_ ∨ P1_2_ k_) ∨ w.heap.size ≤ k_) ∧ some k_ ≠ (u9001_ : Value).ownBlock) u9000_ l1_1 from Kd.R_mono ho1_1 (fun k_ hk => ⟨(.inl (.inl hk)), fun e_ => hp1_1_1_2 k_ hk (ho1_2.1 k_ e_.symm)⟩))
 have HO1_2 := Ak (show Kd.R (Kd.int .i64) 3 w w0.heap.size (fun k_ => ((P1_1_ k_ ∨ P1_2_ k_) ∨ w.heap.size ≤ k_) ∧ some k_ ≠ (u9000_ : Value).ownBlock) u9001_ l1_2 from Kd.R_mono ho1_2 (fun k_ hk => ⟨(.inl (.inr hk)), fun e_ => hp1_2_1_1 k_ hk (ho1_1.1 k_ e_.symm)⟩))
 have HK := Ak (Kept.refl w (fun k_ => P1_1_ k_ ∨ P1_2_ k_))
 have HW0 := Ak hB.size
 have HB := Ak hB
 clear hB
 have H := h
 clear h
 have c3b0 : (a0_0 == 1) = false := beq_eq_false_iff_ne.mpr c3
 have c3b1 : (a0_0 != 1) = true := bne_iff_ne.mpr c3
 have c19b0 : (a0_0 == 2) = false := beq_eq_false_iff_ne.mpr c19
 have c19b1 : (a0_0 != 2) = true := bne_iff_ne.mpr c19
 have c47b0 : (a0_0 == 3) = false := beq_eq_false_iff_ne.mpr c47
 have c47b1 : (a0_0 != 3) = true := bne_iff_ne.mpr c47
 have c75b0 : (a0_0 == 4) = false := beq_eq_false_iff_ne.mpr c75
 have c75b1 : (a0_0 != 4) = true := bne_iff_ne.mpr c75
 have c103b0 : (a0_0 == 5) = false := beq_eq_false_iff_ne.mpr c103
 have c103b1 : (a0_0 != 5) = true := bne_iff_ne.mpr c103
 have c124b0 : (a0_0 == 6) = false := beq_eq_false_iff_ne.mpr c124
 have c124b1 : (a0_0 != 6) = true := bne_iff_ne.mpr c124
 have c147b0 : (a0_0 == 7) = false := beq_eq_false_iff_ne.mpr c147
 have c147b1 : (a0_0 != 7) = true := bne_iff_ne.mpr c147
 have c169b0 : (a0_0 == 8) = false := beq_eq_false_iff_ne.mpr c169
 have c169b1 : (a0_0 != 8) = true := bne_iff_ne.mpr c169
 have c197b0 : (a0_0 == 9) = false := beq_eq_false_iff_ne.mpr c197
 have c197b1 : (a0_0 != 9) = true := bne_iff_ne.mpr c197
 have c215b0 : (a0_0 == 10) = false := beq_eq_false_iff_ne.mpr c215
 have c215b1 : (a0_0 != 10) = true := bne_iff_ne.mpr c215
 by_cases c238 : a0_0 = 11
 ·rw [if_pos c238] at H
  have c238b0 : (a0_0 == 11) = true := beq_iff_eq.mpr c238
  have c238b1 : (a0_0 != 11) = false := bne_eq_false_iff_eq.mpr c238
  clear c238
  obtain ⟨ji239, hji239⟩ : ∃ j_ : Int, (wrap64 ((l1_1.length : Int) - 1)) = j_ := ⟨_, rfl⟩
  replace H : (if 0 ≤ (ji239) then (if (ji239) < (l1_1.length : Int) then (if 0 ≤ (wrap64 ((rd l1_1 (ji239)) + 13)) then (if (wrap64 ((rd l1_1 (ji239)) + 13)) < (l1_2.length : Int) then (some (wrap64 (a1_0 + 1), (l1_1.set ((ji239) : Int).toNat (rd l1_2 (wrap64 ((rd l1_1 (ji239)) + 13)))), l1_2)) else (none)) else (none)) else (none)) else (none)) = some (r1, r2, r3) := by first | (rw [hji239] at H; exact H) | (simp only [hji239] at H ⊢; exact H)
  have hji239w : (IntKind.i64.wrap ((l1_1.length : Int) - 1)) = ji239 := (i64_w _).trans hji239
  by_cases c240 : 0 ≤ (ji239)
  ·rw [if_pos c240] at H
   have c240b0 : decide (0 ≤ (ji239)) = true := decide_eq_true c240
   clear c240
   by_cases c241 : (ji239) < (l1_1.length : Int)
   ·rw [if_pos c241] at H
    have c241b0 : decide ((ji239) < (l1_1.length : Int)) = true := decide_eq_true c241
    clear c241
    obtain ⟨ji242, hji242⟩ : ∃ j_ : Int, (wrap64 ((rd l1_1 (ji239)) + 13)) = j_ := ⟨_, rfl⟩
    replace H : (if 0 ≤ (ji242) then (if (ji242) < (l1_2.length : Int) then (some (wrap64 (a1_0 + 1), (l1_1.set ((ji239) : Int).toNat (rd l1_2 (ji242))), l1_2)) else (none)) else (none)) = some (r1, r2, r3) := by first | (rw [hji242] at H; exact H) | (simp only [hji242] at H ⊢; exact H)
    have hji242w : (IntKind.i64.wrap ((rd l1_1 (ji239)) + 13)) = ji242 := (i64_w _).trans hji242
    by_cases c243 : 0 ≤ (ji242)
    ·rw [if_pos c243] at H
     have c243b0 : decide (0 ≤ (ji242)) = true := decide_eq_true c243
     clear c243
     by_cases c244 : (ji242) < (l1_2.length : Int)
     ·rw [if_pos c244] at H
      have c244b0 : decide ((ji242) < (l1_2.length : Int)) = true := decide_eq_true c244
      clear c244
      obtain ⟨y296, hy296⟩ : ∃ y_ : List Int, y_ = (l1_1.set ((ji239) : Int).toNat (rd l1_2 (ji242))) := ⟨_, rfl⟩
      replace H : (some (wrap64 (a1_0 + 1), y296, l1_2)) = some (r1, r2, r3) := by first | (rw [hy296]; with_reducible exact H) | (have H2_ := (Option.bind_some _ _).symm.trans H; rw [hy296]; with_reducible exact H2_) | (have H2_ := (Option.bind_some _ _).symm.trans H; with_reducible exact H2_) | with_reducible exact H | (rw [hy296]; exact H) | exact H
      have Ny296 := Ak hy296
      clear hy296
      simp only [Option.some.injEq, Prod.mk.injEq] at H
      obtain ⟨rfl, rfl, rfl⟩ := H
      go_enter Try.func38, Try.ntmps38
      try go_wp2_with (first | ((with_reducible refine gate_dst (N := 2) rfl ?_); refine Qk 2 #[.int .i64 a0_0, .int .i64 a0_1, .int .i64 a0_2, .int .i64 a0_3] 48 ?_; intro gb242 hg w246 hbox hb; have n0_ := Ak (Kd.R_below (Qc HO1_1.out) hb); have n1_ := Ak (Kd.R_below (Qc HO1_2.out) hb); have n2_ := Ak (Kept.below (S := (fun k_ => P1_1_ k_ ∨ P1_2_ k_)) (Qd HK.out) hb); have n3_ := Ak (below_step (Qb HB.out) hb); have n4_ := Ak (hbox); have n5_ := Ak ((by rw [hg]; exact (Qo HK.out) : w.heap.size ≤ gb242)); have n6_ := Ak ((Qp hg HB.out : w0.heap.size ≤ gb242)); clear HO1_1 HO1_2 HK HB; have HO1_1 := n0_; have HO1_2 := n1_; have HK := n2_; have HB := n3_; have BK242 := n4_; have GW242 := n5_; have GE242 := n6_; clear n0_ n1_ n2_ n3_ n4_ n5_ n6_; clear hb hbox hg; obtain ⟨Ao247, co247, eo247⟩ := Kd.R_slice HO1_1.out; subst eo247; obtain ⟨Ao248, co248, eo248⟩ := Kd.R_slice HO1_2.out; subst eo248) | ((with_reducible refine gate_dst (N := 3) rfl ?_); refine Qk 3 #[.int .i64 a1_0, .slice Ao247 l1_1.length co247, .slice Ao248 l1_2.length co248] 28 ?_; intro gb243 hg w249 hbox hb; have n0_ := Ak (Kd.R_below (Qc HO1_1.out) hb); have n1_ := Ak (Kd.R_below (Qc HO1_2.out) hb); have n2_ := Ak (Qm BK242.out hb); have n3_ := Ak (Kept.below (S := (fun k_ => P1_1_ k_ ∨ P1_2_ k_)) (Qd HK.out) hb); have n4_ := Ak (below_step (Qb HB.out) hb); have n5_ := Ak (hbox); have n6_ := Ak ((by rw [hg]; exact (Qo HK.out) : w.heap.size ≤ gb243)); have n7_ := Ak ((Qp hg HB.out : w0.heap.size ≤ gb243)); have n8_ := Ak ((by rw [hg]; exact Nat.ne_of_lt (Qn BK242.out) : gb242 ≠ gb243)); have n9_ := Ak ((by rw [hg]; exact Nat.ne_of_gt (Qn BK242.out) : gb243 ≠ gb242)); clear HO1_1 HO1_2 BK242 HK HB; have HO1_1 := n0_; have HO1_2 := n1_; have BK242 := n2_; have HK := n3_; have HB := n4_; have BK243 := n5_; have GW243 := n6_; have GE243 := n7_; have NB242_243 := n8_; have NB243_242 := n9_; clear n0_ n1_ n2_ n3_ n4_ n5_ n6_ n7_ n8_ n9_; clear hb hbox hg) | ((with_reducible refine gate_dst (N := 4) rfl ?_); refine Qk 4 #[.int .i64 0, .slice none 0 0, .slice none 0 0] 28 ?_; intro gb244 hg w250 hbox hb; have n0_ := Ak (Kd.R_below (Qc HO1_1.out) hb); have n1_ := Ak (Kd.R_below (Qc HO1_2.out) hb); have n2_ := Ak (Qm BK242.out hb); have n3_ := Ak (Qm BK243.out hb); have n4_ := Ak (Kept.below (S := (fun k_ => P1_1_ k_ ∨ P1_2_ k_)) (Qd HK.out) hb); have n5_ := Ak (below_step (Qb HB.out) hb); have n6_ := Ak (hbox); have n7_ := Ak ((by rw [hg]; exact (Qo HK.out) : w.heap.size ≤ gb244)); have n8_ := Ak ((Qp hg HB.out : w0.heap.size ≤ gb244)); have n9_ := Ak ((by rw [hg]; exact Nat.ne_of_lt (Qn BK242.out) : gb242 ≠ gb244)); have n10_ := Ak ((by rw [hg]; exact Nat.ne_of_gt (Qn BK242.out) : gb244 ≠ gb242)); have n11_ := Ak ((by rw [hg]; exact Nat.ne_of_lt (Qn BK243.out) : gb243 ≠ gb244)); have n12_ := Ak ((by rw [hg]; exact Nat.ne_of_gt (Qn BK243.out) : gb244 ≠ gb243)); clear HO1_1 HO1_2 BK242 BK243 HK HB; have HO1_1 := n0_; have HO1_2 := n1_; have BK242 := n2_; have BK243 := n3_; have HK := n4_; have HB := n5_; have BK244 := n6_; have GW244 := n7_; have GE244 := n8_; have NB242_244 := n9_; have NB244_242 := n10_; have NB243_244 := n11_; have NB244_243 := n12_; clear n0_ n1_ n2_ n3_ n4_ n5_ n6_ n7_ n8_ n9_ n10_ n11_ n12_; clear hb hbox hg; have hnb251 := NB243_242.out; have hnc251 := NB242_243.out; have hnb252 := NB243_244.out; have hnc252 := NB244_243.out; obtain ⟨hcz253_0, hcz253_1, hcz253_2, hfz253_0, hfz253_1, hfz253_2⟩ := Qv3 BK243.out; have hnb254 := NB242_244.out; have hnc254 := NB244_242.out; obtain ⟨hcz255_0, hcz255_1, hcz255_2, hcz255_3⟩ := Qu4 BK242.out; have hfz255_0 := blk_frozen BK242.out 0; have hfz255_1 := blk_frozen BK242.out 1; have hfz255_2 := blk_frozen BK242.out 2; have hfz255_3 := blk_frozen BK242.out 3))
      have n0_ : Aside0 (Kd.R (Kd.int .i64) 3 (w250.setCell ⟨gb243, 0, none⟩ (.int .i64 (wrap64 (a1_0 + 1)))) w0.heap.size (fun k_ => ((P1_1_ k_ ∨ P1_2_ k_) ∨ w.heap.size ≤ k_) ∧ some k_ ≠ (.slice Ao248 l1_2.length co248 : Value).ownBlock) (.slice Ao247 l1_1.length co247) l1_1) := ⟨by refine Qf ?_; exact Kd.R_mono (Kd.R_far (p := ⟨gb243, 0, none⟩) (Kd.R_types HO1_1.out BK243.out (by decide)) (fun _ hk => hk.2) (.int .i64 (wrap64 (a1_0 + 1)))) (fun _ hk => ⟨hk.1.1, hk.1.2⟩)⟩
      have n1_ : Aside0 (Kd.R (Kd.int .i64) 3 (w250.setCell ⟨gb243, 0, none⟩ (.int .i64 (wrap64 (a1_0 + 1)))) w0.heap.size (fun k_ => ((P1_1_ k_ ∨ P1_2_ k_) ∨ w.heap.size ≤ k_) ∧ some k_ ≠ (.slice Ao247 l1_1.length co247 : Value).ownBlock) (.slice Ao248 l1_2.length co248) l1_2) := ⟨by refine Qf ?_; exact Kd.R_mono (Kd.R_far (p := ⟨gb243, 0, none⟩) (Kd.R_types HO1_2.out BK243.out (by decide)) (fun _ hk => hk.2) (.int .i64 (wrap64 (a1_0 + 1)))) (fun _ hk => ⟨hk.1.1, hk.1.2⟩)⟩
      have n2_ : Aside0 ((w250.setCell ⟨gb243, 0, none⟩ (.int .i64 (wrap64 (a1_0 + 1)))).heap[gb242]? = some (.cells #[.int .i64 a0_0, .int .i64 a0_1, .int .i64 a0_2, .int .i64 a0_3] 48 (0, 0))) := ⟨by refine Qe ?_; refine blk_far ?_ NB242_243.out _; refine Qe ?_; exact BK242.out⟩
      have n3_ : Aside0 ((w250.setCell ⟨gb243, 0, none⟩ (.int .i64 (wrap64 (a1_0 + 1)))).heap[gb243]? = some (.cells #[.int .i64 (wrap64 (a1_0 + 1)), .slice Ao247 l1_1.length co247, .slice Ao248 l1_2.length co248] 28 (0, 0))) := ⟨by refine Qe ?_; refine blk_put (cs := #[.int .i64 a1_0, .slice Ao247 l1_1.length co247, .slice Ao248 l1_2.length co248]) ?_ 0 _ rfl; refine Qe ?_; exact BK243.out⟩
      have n4_ : Aside0 ((w250.setCell ⟨gb243, 0, none⟩ (.int .i64 (wrap64 (a1_0 + 1)))).heap[gb244]? = some (.cells #[.int .i64 0, .slice none 0 0, .slice none 0 0] 28 (0, 0))) := ⟨by refine Qe ?_; refine blk_far ?_ NB244_243.out _; refine Qe ?_; exact BK244.out⟩
      have n5_ : Aside0 (Kept w (w250.setCell ⟨gb243, 0, none⟩ (.int .i64 (wrap64 (a1_0 + 1)))) (fun k_ => P1_1_ k_ ∨ P1_2_ k_)) := ⟨Qd HK.out⟩
      have n6_ : Aside0 (Below w0.heap.size w0 (w250.setCell ⟨gb243, 0, none⟩ (.int .i64 (wrap64 (a1_0 + 1))))) := ⟨Qb HB.out⟩
      (try clear HO1_1); (try clear HO1_2); (try clear BK242); (try clear BK243); (try clear BK244); (try clear HK); (try clear HB)
      generalize (w250.setCell ⟨gb243, 0, none⟩ (.int .i64 (wrap64 (a1_0 + 1)))) = w256 at n0_ n1_ n2_ n3_ n4_ n5_ n6_ ⊢
      have HO1_1 := n0_
      have HO1_2 := n1_
      have BK242 := n2_
      have BK243 := n3_
      have BK244 := n4_
      have HK := n5_
      have HB := n6_
      clear n0_ n1_ n2_ n3_ n4_ n5_ n6_
      have n0_ := Ak (Kd.R_drew HO1_1.out)
      have n1_ := Ak (Kd.R_drew HO1_2.out)
      have n2_ := Ak (blk_drew BK242.out)
      have n3_ := Ak (blk_drew BK243.out)
      have n4_ := Ak (blk_drew BK244.out)
      have n5_ := Ak (Kept.drew HK.out)
      have n6_ := Ak (below_drew1 HB.out)
      clear HO1_1 HO1_2 BK242 BK243 BK244 HK HB
      have HO1_1 := n0_
      have HO1_2 := n1_
      have BK242 := n2_
      have BK243 := n3_
      have BK244 := n4_
      have HK := n5_
      have HB := n6_
      clear n0_ n1_ n2_ n3_ n4_ n5_ n6_
      have p294 : 0 ≤ ((ji239) : Int) := Qg
      have q294 : (ji239) < (l1_1.length : Int) := Qg
      obtain ⟨ad294, e294, hx294_0⟩ := Kd.at_int (Kd.R_reads' HO1_1.out).2.2 (ji239) p294 q294
      cases e294
      replace p294 := eq_true p294
      replace q294 := eq_true q294
      have p295 : 0 ≤ ((ji242) : Int) := Qg
      have q295 : (ji242) < (l1_2.length : Int) := Qg
      obtain ⟨ad295, e295, hx295_0⟩ := Kd.at_int (Kd.R_reads' HO1_2.out).2.2 (ji242) p295 q295
      cases e295
      replace p295 := eq_true p295
      replace q295 := eq_true q295
      have p245 : 0 ≤ ((ji239) : Int) := Qg
      have q245 : ((ji239) : Int) < ((l1_1.length : Int) : Int) := Qg
      obtain ⟨go245, co245, eo245, gb245, gl245, cl245, HG245⟩ := Kd.R_form HO1_1.out (by omega)
      (first | cases eo245 | (injection eo245 with ea_ en_ ec_; (first | subst ea_ | (injection ea_ with ea_; subst ea_)); subst ec_; clear en_))
      have GB245 := Ak gb245
      have GG245 := Ak HG245
      clear gb245 gl245 HG245
      have HMgo245 := Ak (show ((P1_1_ go245 ∨ P1_2_ go245) ∨ w.heap.size ≤ go245) from (HO1_1.out.1 _ rfl).1)
      (first | simp only [add_plain] at hx294_0 | skip)
      obtain ⟨hx245_0, hf245_0⟩ := Kd.R_celln 0 HO1_1.out ((ji239) : Int) p245 q245
      replace p245 := eq_true p245
      replace q245 := eq_true q245
      have HP258 := Kd.R_putn HO1_1.out ((ji239) : Int) (rd l1_2 (ji242))
      rw [← Ny296.out] at HP258
      have HQ258 := Ak HP258
      clear HP258
      refine start_ (n := 17) (S := fun w' => w'.cell? ⟨gb243, 0, none⟩ = some (.int .i64 (wrap64 (a1_0 + 1))) ∧ w'.cell? ⟨gb243, 1, none⟩ = some (.slice (some ⟨go245, 0, none⟩) l1_1.length co247) ∧ w'.cell? ⟨gb243, 2, none⟩ = some (.slice (some ad295) l1_2.length co248) ∧ w'.cell? ⟨go245, ((ji239)).toNat, none⟩ = some (.int .i64 (rd l1_1 (ji239))) ∧ w'.cell? (ad295.add ((ji242)).toNat) = some (.int .i64 (rd l1_2 (ji242)))) (ds := [16]) #[false, false, false, false, false, false, false, false, false, false, false, false, false, false, false, false, false] (by kernel_rfl) rfl rfl ⟨(blk_cell BK243.out 0).trans rfl, (blk_cell BK243.out 1).trans rfl, (blk_cell BK243.out 2).trans rfl, hx294_0, hx295_0⟩ (fun hHeld => ?_); refine with_tabW spec_l7Change.tab27 spec_l7Change.bits27 (fun HT_ HW_ => ?_)
      generalize w256.drew = w257 at HO1_1 HO1_2 BK242 BK243 BK244 HK HB GG245 HQ258 hf245_0 hx245_0 hx294_0 hx295_0 hHeld ⊢
      refine Qq 0 (some 189) ?_
      refine Qq 2 (some 191) ?_
      refine Qq 3 (some 192) ?_
      refine Qq 4 (some 193) ?_
      refine Qq 6 (some 195) ?_
      refine Qq 8 (some 197) ?_
      refine Qq 9 (some 198) ?_
      refine Qr 1 (some 190) hHeld ?_
      refine Qr 5 (some 194) hHeld ?_
      refine Qr 7 (some 196) hHeld ?_
      refine Qq 10 (some 199) ?_
      refine Qr 11 (some 200) hHeld ?_
      refine Qq 12 (some 201) ?_
      refine Qq 13 (some 202) ?_
      refine Qr 14 (some 203) hHeld ?_
      refine Qq 15 (some 204) ?_
      refine Qt 16 none (fun K hK => ?_)
      refine skip_ (w1 := ?_) (by rfl) rfl ?_ ?_
      rotate_left
      ·go_simp
       rfl
      refine hK.out _ _ ?_
      clear hK K
      refine done_ (done_of HT_.out (by kernel_rfl)) ?_
      have n0_ : Aside0 (Kd.R (Kd.int .i64) 3 (w257.setCell ⟨go245, ((ji239) : Int).toNat, none⟩ (.int .i64 (rd l1_2 (ji242)))) w0.heap.size (fun k_ => ((P1_1_ k_ ∨ P1_2_ k_) ∨ w.heap.size ≤ k_) ∧ some k_ ≠ (.slice (some ad295) l1_2.length co248 : Value).ownBlock) (.slice (some ⟨go245, 0, none⟩) l1_1.length co247) y296) := ⟨by refine Qf ?_; exact HQ258.out⟩
      have n1_ : Aside0 (Kd.R (Kd.int .i64) 3 (w257.setCell ⟨go245, ((ji239) : Int).toNat, none⟩ (.int .i64 (rd l1_2 (ji242)))) w0.heap.size (fun k_ => ((P1_1_ k_ ∨ P1_2_ k_) ∨ w.heap.size ≤ k_) ∧ some k_ ≠ (.slice (some ⟨go245, 0, none⟩) l1_1.length co247 : Value).ownBlock) (.slice (some ad295) l1_2.length co248) l1_2) := ⟨by refine Qf ?_; exact Kd.R_mono (Kd.R_far (p := ⟨go245, ((ji239) : Int).toNat, none⟩) (Kd.R_mono HO1_2.out (fun k_ hk => (⟨hk, fun e_ => hk.2 (by rw [e_]; rfl)⟩ : _ ∧ k_ ≠ go245))) (fun _ hk => hk.2) (.int .i64 (rd l1_2 (ji242)))) (fun _ hk => ⟨hk.1.1, hk.1.2⟩)⟩
      have n2_ : Aside0 ((w257.setCell ⟨go245, ((ji239) : Int).toNat, none⟩ (.int .i64 (rd l1_2 (ji242)))).heap[gb242]? = some (.cells #[.int .i64 a0_0, .int .i64 a0_1, .int .i64 a0_2, .int .i64 a0_3] 48 (0, 0))) := ⟨by refine Qe ?_; refine blk_far ?_ T_2 _; refine Qe ?_; exact BK242.out⟩
      have n3_ : Aside0 ((w257.setCell ⟨go245, ((ji239) : Int).toNat, none⟩ (.int .i64 (rd l1_2 (ji242)))).heap[gb243]? = some (.cells #[.int .i64 (wrap64 (a1_0 + 1)), .slice (some ⟨go245, 0, none⟩) l1_1.length co247, .slice (some ad295) l1_2.length co248] 28 (0, 0))) := ⟨by refine Qe ?_; refine blk_far ?_ T_3 _; refine Qe ?_; exact BK243.out⟩
      have n4_ : Aside0 ((w257.setCell ⟨go245, ((ji239) : Int).toNat, none⟩ (.int .i64 (rd l1_2 (ji242)))).heap[gb244]? = some (.cells #[.int .i64 0, .slice none 0 0, .slice none 0 0] 28 (0, 0))) := ⟨by refine Qe ?_; refine blk_far ?_ T_4 _; refine Qe ?_; exact BK244.out⟩
      have n5_ : Aside0 (Kept w (w257.setCell ⟨go245, ((ji239) : Int).toNat, none⟩ (.int .i64 (rd l1_2 (ji242)))) (fun k_ => P1_1_ k_ ∨ P1_2_ k_)) := ⟨Qd HK.out⟩
      have n6_ : Aside0 (Below w0.heap.size w0 (w257.setCell ⟨go245, ((ji239) : Int).toNat, none⟩ (.int .i64 (rd l1_2 (ji242))))) := ⟨Qb HB.out⟩
      (try clear HO1_1); (try clear HO1_2); (try clear BK242); (try clear BK243); (try clear BK244); (try clear HK); (try clear HB)
      generalize (w257.setCell ⟨go245, ((ji239) : Int).toNat, none⟩ (.int .i64 (rd l1_2 (ji242)))) = w259 at n0_ n1_ n2_ n3_ n4_ n5_ n6_ ⊢
      have HO1_1 := n0_
      have HO1_2 := n1_
      have BK242 := n2_
      have BK243 := n3_
      have BK244 := n4_
      have HK := n5_
      have HB := n6_
      clear n0_ n1_ n2_ n3_ n4_ n5_ n6_
      obtain ⟨hcz260_0, hcz260_1, hcz260_2, hfz260_0, hfz260_1, hfz260_2⟩ := Qv3 BK243.out
      obtain ⟨hcz261_0, hcz261_1, hcz261_2, hfz261_0, hfz261_1, hfz261_2⟩ := Qv3 BK244.out
      try go_wp2
      refine bodyPost_ret (results_cell_row rfl _ _ gb244 28 #[.int .i64 (wrap64 (a1_0 + 1)), .slice (some ⟨go245, 0, none⟩) l1_1.length co247, .slice (some ad295) l1_2.length co248] (0, 0) _ rfl (by refine Qe ?_; refine blk_put (cs := #[.int .i64 (wrap64 (a1_0 + 1)), .slice (some ⟨go245, 0, none⟩) l1_1.length co247, .slice none 0 0]) ?_ 2 _ rfl; refine Qe ?_; refine blk_put (cs := #[.int .i64 (wrap64 (a1_0 + 1)), .slice none 0 0, .slice none 0 0]) ?_ 1 _ rfl; refine Qe ?_; refine blk_put (cs := #[.int .i64 0, .slice none 0 0, .slice none 0 0]) ?_ 0 _ rfl; exact Qa BK244.out) Try.underlying28 rfl (by kernel_rfl)) rfl ?_
      exact ⟨_, _, by first | rfl | (simp [errW_none, errW_some] <;> rfl) | (simp only [← hji239, ← hji242]; first | rfl | (simp [errW_none, errW_some] <;> rfl)) | (simp [*, errW_none, errW_some] <;> rfl), by refine Qf ?_; exact Kd.R_mono (Kd.R_far (p := ⟨gb244, 2, none⟩) (Kd.R_far (p := ⟨gb244, 1, none⟩) (Kd.R_far (p := ⟨gb244, 0, none⟩) (Kd.R_types HO1_1.out BK244.out (by decide)) (fun _ hk => hk.2) (.int .i64 (wrap64 (a1_0 + 1)))) (fun _ hk => hk.2) (.slice (some ⟨go245, 0, none⟩) l1_1.length co247)) (fun _ hk => hk.2) (.slice (some ad295) l1_2.length co248)) (fun _ hk => ⟨hk.1.1, hk.1.2⟩), by refine Qf ?_; exact Kd.R_mono (Kd.R_far (p := ⟨gb244, 2, none⟩) (Kd.R_far (p := ⟨gb244, 1, none⟩) (Kd.R_far (p := ⟨gb244, 0, none⟩) (Kd.R_types HO1_2.out BK244.out (by decide)) (fun _ hk => hk.2) (.int .i64 (wrap64 (a1_0 + 1)))) (fun _ hk => hk.2) (.slice (some ⟨go245, 0, none⟩) l1_1.length co247)) (fun _ hk => hk.2) (.slice (some ad295) l1_2.length co248)) (fun _ hk => ⟨hk.1.1, hk.1.2⟩), Qb HB.out, Qd HK.out⟩
     ·rw [if_neg c244] at H
      exact absurd H (by simp)
    ·rw [if_neg c243] at H
     exact absurd H (by simp)
   ·rw [if_neg c241] at H
    exact absurd H (by simp)
  ·rw [if_neg c240] at H
   exact absurd H (by simp)
 ·rw [if_neg c238] at H
  have c238b0 : (a0_0 == 11) = false := beq_eq_false_iff_ne.mpr c238
  have c238b1 : (a0_0 != 11) = true := bne_iff_ne.mpr c238
  by_cases c262 : a0_0 = 12
  ·rw [if_pos c262] at H
   have c262b0 : (a0_0 == 12) = true := beq_iff_eq.mpr c262
   have c262b1 : (a0_0 != 12) = false := bne_eq_false_iff_eq.mpr c262
   clear c262
   obtain ⟨ji263, hji263⟩ : ∃ j_ : Int, (wrap64 ((l1_1.length : Int) - 1)) = j_ := ⟨_, rfl⟩
   replace H : (if 0 ≤ (ji263) then (if (ji263) < (l1_1.length : Int) then (if 0 ≤ (wrap64 ((l1_1.length : Int) - 2)) then (if (wrap64 ((l1_1.length : Int) - 2)) < (l1_1.length : Int) then (if 0 ≤ (wrap64 ((rd l1_1 (ji263)) + 13)) then (if (wrap64 ((rd l1_1 (ji263)) + 13)) < (l1_2.length : Int) then (if (wrap64 ((l1_1.length : Int) - 2)) ≤ (l1_1.length : Int) then (some (wrap64 (a1_0 + 1), (l1_1.take ((wrap64 ((l1_1.length : Int) - 2)) : Int).toNat), (l1_2.set ((wrap64 ((rd l1_1 (ji263)) + 13)) : Int).toNat (rd l1_1 (wrap64 ((l1_1.length : Int) - 2)))))) else (none)) else (none)) else (none)) else (none)) else (none)) else (none)) else (none)) = some (r1, r2, r3) := by first | (rw [hji263] at H; exact H) | (simp only [hji263] at H ⊢; exact H)
   have hji263w : (IntKind.i64.wrap ((l1_1.length : Int) - 1)) = ji263 := (i64_w _).trans hji263
   by_cases c264 : 0 ≤ (ji263)
   ·rw [if_pos c264] at H
    have c264b0 : decide (0 ≤ (ji263)) = true := decide_eq_true c264
    clear c264
    by_cases c265 : (ji263) < (l1_1.length : Int)
    ·rw [if_pos c265] at H
     have c265b0 : decide ((ji263) < (l1_1.length : Int)) = true := decide_eq_true c265
     clear c265
     obtain ⟨ji266, hji266⟩ : ∃ j_ : Int, (wrap64 ((l1_1.length : Int) - 2)) = j_ := ⟨_, rfl⟩
     replace H : (if 0 ≤ (ji266) then (if (ji266) < (l1_1.length : Int) then (if 0 ≤ (wrap64 ((rd l1_1 (ji263)) + 13)) then (if (wrap64 ((rd l1_1 (ji263)) + 13)) < (l1_2.length : Int) then (if (ji266) ≤ (l1_1.length : Int) then (some (wrap64 (a1_0 + 1), (l1_1.take ((ji266) : Int).toNat), (l1_2.set ((wrap64 ((rd l1_1 (ji263)) + 13)) : Int).toNat (rd l1_1 (ji266))))) else (none)) else (none)) else (none)) else (none)) else (none)) = some (r1, r2, r3) := by first | (rw [hji266] at H; exact H) | (simp only [hji266] at H ⊢; exact H)
     have hji266w : (IntKind.i64.wrap ((l1_1.length : Int) - 2)) = ji266 := (i64_w _).trans hji266
     by_cases c267 : 0 ≤ (ji266)
     ·rw [if_pos c267] at H
      have c267b0 : decide (0 ≤ (ji266)) = true := decide_eq_true c267
      clear c267
      by_cases c268 : (ji266) < (l1_1.length : Int)
      ·rw [if_pos c268] at H
       have c268b0 : decide ((ji266) < (l1_1.length : Int)) = true := decide_eq_true c268
       clear c268
       obtain ⟨ji269, hji269⟩ : ∃ j_ : Int, (wrap64 ((rd l1_1 (ji263)) + 13)) = j_ := ⟨_, rfl⟩
       replace H : (if 0 ≤ (ji269) then (if (ji269) < (l1_2.length : Int) then (if (ji266) ≤ (l1_1.length : Int) then (some (wrap64 (a1_0 + 1), (l1_1.take ((ji266) : Int).toNat), (l1_2.set ((ji269) : Int).toNat (rd l1_1 (ji266))))) else (none)) else (none)) else (none)) = some (r1, r2, r3) := by first | (rw [hji269] at H; exact H) | (simp only [hji269] at H ⊢; exact H)
       have hji269w : (IntKind.i64.wrap ((rd l1_1 (ji263)) + 13)) = ji269 := (i64_w _).trans hji269
       by_cases c270 : 0 ≤ (ji269)
       ·rw [if_pos c270] at H
        have c270b0 : decide (0 ≤ (ji269)) = true := decide_eq_true c270
        clear c270
        by_cases c271 : (ji269) < (l1_2.length : Int)
        ·rw [if_pos c271] at H
         have c271b0 : decide ((ji269) < (l1_2.length : Int)) = true := decide_eq_true c271
         clear c271
         obtain ⟨y299, hy299⟩ : ∃ y_ : List Int, y_ = (l1_2.set ((ji269) : Int).toNat (rd l1_1 (ji266))) := ⟨_, rfl⟩
         replace H : (if (ji266) ≤ (l1_1.length : Int) then (some (wrap64 (a1_0 + 1), (l1_1.take ((ji266) : Int).toNat), y299)) else (none)) = some (r1, r2, r3) := by first | (rw [hy299]; with_reducible exact H) | (have H2_ := (Option.bind_some _ _).symm.trans H; rw [hy299]; with_reducible exact H2_) | (have H2_ := (Option.bind_some _ _).symm.trans H; with_reducible exact H2_) | with_reducible exact H | (rw [hy299]; exact H) | exact H
         have Ny299 := Ak hy299
         clear hy299
         by_cases c273 : (ji266) ≤ (l1_1.length : Int)
         ·rw [if_pos c273] at H
          have c273b0 := eq_true c273
          have c273b1 : decide ((ji266) ≤ (l1_1.length : Int)) = true := decide_eq_true c273
          clear c273
          obtain ⟨y300, hy300⟩ : ∃ y_ : List Int, y_ = (l1_1.take ((ji266) : Int).toNat) := ⟨_, rfl⟩
          replace H : (some (wrap64 (a1_0 + 1), y300, y299)) = some (r1, r2, r3) := by first | (rw [hy300]; with_reducible exact H) | (have H2_ := (Option.bind_some _ _).symm.trans H; rw [hy300]; with_reducible exact H2_) | (have H2_ := (Option.bind_some _ _).symm.trans H; with_reducible exact H2_) | with_reducible exact H | (rw [hy300]; exact H) | exact H
          have Ny300 := Ak hy300
          clear hy300
          simp only [Option.some.injEq, Prod.mk.injEq] at H
          obtain ⟨rfl, rfl, rfl⟩ := H
          go_enter Try.func38, Try.ntmps38
          try go_wp2_with (first | ((with_reducible refine gate_dst (N := 2) rfl ?_); refine Qk 2 #[.int .i64 a0_0, .int .i64 a0_1, .int .i64 a0_2, .int .i64 a0_3] 48 ?_; intro gb242 hg w274 hbox hb; have n0_ := Ak (Kd.R_below (Qc HO1_1.out) hb); have n1_ := Ak (Kd.R_below (Qc HO1_2.out) hb); have n2_ := Ak (Kept.below (S := (fun k_ => P1_1_ k_ ∨ P1_2_ k_)) (Qd HK.out) hb); have n3_ := Ak (below_step (Qb HB.out) hb); have n4_ := Ak (hbox); have n5_ := Ak ((by rw [hg]; exact (Qo HK.out) : w.heap.size ≤ gb242)); have n6_ := Ak ((Qp hg HB.out : w0.heap.size ≤ gb242)); clear HO1_1 HO1_2 HK HB; have HO1_1 := n0_; have HO1_2 := n1_; have HK := n2_; have HB := n3_; have BK242 := n4_; have GW242 := n5_; have GE242 := n6_; clear n0_ n1_ n2_ n3_ n4_ n5_ n6_; clear hb hbox hg; obtain ⟨Ao275, co275, eo275⟩ := Kd.R_slice HO1_1.out; subst eo275; obtain ⟨Ao276, co276, eo276⟩ := Kd.R_slice HO1_2.out; subst eo276) | ((with_reducible refine gate_dst (N := 3) rfl ?_); refine Qk 3 #[.int .i64 a1_0, .slice Ao275 l1_1.length co275, .slice Ao276 l1_2.length co276] 28 ?_; intro gb243 hg w277 hbox hb; have n0_ := Ak (Kd.R_below (Qc HO1_1.out) hb); have n1_ := Ak (Kd.R_below (Qc HO1_2.out) hb); have n2_ := Ak (Qm BK242.out hb); have n3_ := Ak (Kept.below (S := (fun k_ => P1_1_ k_ ∨ P1_2_ k_)) (Qd HK.out) hb); have n4_ := Ak (below_step (Qb HB.out) hb); have n5_ := Ak (hbox); have n6_ := Ak ((by rw [hg]; exact (Qo HK.out) : w.heap.size ≤ gb243)); have n7_ := Ak ((Qp hg HB.out : w0.heap.size ≤ gb243)); have n8_ := Ak ((by rw [hg]; exact Nat.ne_of_lt (Qn BK242.out) : gb242 ≠ gb243)); have n9_ := Ak ((by rw [hg]; exact Nat.ne_of_gt (Qn BK242.out) : gb243 ≠ gb242)); clear HO1_1 HO1_2 BK242 HK HB; have HO1_1 := n0_; have HO1_2 := n1_; have BK242 := n2_; have HK := n3_; have HB := n4_; have BK243 := n5_; have GW243 := n6_; have GE243 := n7_; have NB242_243 := n8_; have NB243_242 := n9_; clear n0_ n1_ n2_ n3_ n4_ n5_ n6_ n7_ n8_ n9_; clear hb hbox hg) | ((with_reducible refine gate_dst (N := 4) rfl ?_); refine Qk 4 #[.int .i64 0, .slice none 0 0, .slice none 0 0] 28 ?_; intro gb244 hg w278 hbox hb; have n0_ := Ak (Kd.R_below (Qc HO1_1.out) hb); have n1_ := Ak (Kd.R_below (Qc HO1_2.out) hb); have n2_ := Ak (Qm BK242.out hb); have n3_ := Ak (Qm BK243.out hb); have n4_ := Ak (Kept.below (S := (fun k_ => P1_1_ k_ ∨ P1_2_ k_)) (Qd HK.out) hb); have n5_ := Ak (below_step (Qb HB.out) hb); have n6_ := Ak (hbox); have n7_ := Ak ((by rw [hg]; exact (Qo HK.out) : w.heap.size ≤ gb244)); have n8_ := Ak ((Qp hg HB.out : w0.heap.size ≤ gb244)); have n9_ := Ak ((by rw [hg]; exact Nat.ne_of_lt (Qn BK242.out) : gb242 ≠ gb244)); have n10_ := Ak ((by rw [hg]; exact Nat.ne_of_gt (Qn BK242.out) : gb244 ≠ gb242)); have n11_ := Ak ((by rw [hg]; exact Nat.ne_of_lt (Qn BK243.out) : gb243 ≠ gb244)); have n12_ := Ak ((by rw [hg]; exact Nat.ne_of_gt (Qn BK243.out) : gb244 ≠ gb243)); clear HO1_1 HO1_2 BK242 BK243 HK HB; have HO1_1 := n0_; have HO1_2 := n1_; have BK242 := n2_; have BK243 := n3_; have HK := n4_; have HB := n5_; have BK244 := n6_; have GW244 := n7_; have GE244 := n8_; have NB242_244 := n9_; have NB244_242 := n10_; have NB243_244 := n11_; have NB244_243 := n12_; clear n0_ n1_ n2_ n3_ n4_ n5_ n6_ n7_ n8_ n9_ n10_ n11_ n12_; clear hb hbox hg; have hnb279 := NB243_242.out; have hnc279 := NB242_243.out; have hnb280 := NB243_244.out; have hnc280 := NB244_243.out; obtain ⟨hcz281_0, hcz281_1, hcz281_2, hfz281_0, hfz281_1, hfz281_2⟩ := Qv3 BK243.out; have hnb282 := NB242_244.out; have hnc282 := NB244_242.out; obtain ⟨hcz283_0, hcz283_1, hcz283_2, hcz283_3⟩ := Qu4 BK242.out; have hfz283_0 := blk_frozen BK242.out 0; have hfz283_1 := blk_frozen BK242.out 1; have hfz283_2 := blk_frozen BK242.out 2; have hfz283_3 := blk_frozen BK242.out 3))
          have n0_ : Aside0 (Kd.R (Kd.int .i64) 3 (w278.setCell ⟨gb243, 0, none⟩ (.int .i64 (wrap64 (a1_0 + 1)))) w0.heap.size (fun k_ => ((P1_1_ k_ ∨ P1_2_ k_) ∨ w.heap.size ≤ k_) ∧ some k_ ≠ (.slice Ao276 l1_2.length co276 : Value).ownBlock) (.slice Ao275 l1_1.length co275) l1_1) := ⟨by refine Qf ?_; exact Kd.R_mono (Kd.R_far (p := ⟨gb243, 0, none⟩) (Kd.R_types HO1_1.out BK243.out (by decide)) (fun _ hk => hk.2) (.int .i64 (wrap64 (a1_0 + 1)))) (fun _ hk => ⟨hk.1.1, hk.1.2⟩)⟩
          have n1_ : Aside0 (Kd.R (Kd.int .i64) 3 (w278.setCell ⟨gb243, 0, none⟩ (.int .i64 (wrap64 (a1_0 + 1)))) w0.heap.size (fun k_ => ((P1_1_ k_ ∨ P1_2_ k_) ∨ w.heap.size ≤ k_) ∧ some k_ ≠ (.slice Ao275 l1_1.length co275 : Value).ownBlock) (.slice Ao276 l1_2.length co276) l1_2) := ⟨by refine Qf ?_; exact Kd.R_mono (Kd.R_far (p := ⟨gb243, 0, none⟩) (Kd.R_types HO1_2.out BK243.out (by decide)) (fun _ hk => hk.2) (.int .i64 (wrap64 (a1_0 + 1)))) (fun _ hk => ⟨hk.1.1, hk.1.2⟩)⟩
          have n2_ : Aside0 ((w278.setCell ⟨gb243, 0, none⟩ (.int .i64 (wrap64 (a1_0 + 1)))).heap[gb242]? = some (.cells #[.int .i64 a0_0, .int .i64 a0_1, .int .i64 a0_2, .int .i64 a0_3] 48 (0, 0))) := ⟨by refine Qe ?_; refine blk_far ?_ NB242_243.out _; refine Qe ?_; exact BK242.out⟩
          have n3_ : Aside0 ((w278.setCell ⟨gb243, 0, none⟩ (.int .i64 (wrap64 (a1_0 + 1)))).heap[gb243]? = some (.cells #[.int .i64 (wrap64 (a1_0 + 1)), .slice Ao275 l1_1.length co275, .slice Ao276 l1_2.length co276] 28 (0, 0))) := ⟨by refine Qe ?_; refine blk_put (cs := #[.int .i64 a1_0, .slice Ao275 l1_1.length co275, .slice Ao276 l1_2.length co276]) ?_ 0 _ rfl; refine Qe ?_; exact BK243.out⟩
          have n4_ : Aside0 ((w278.setCell ⟨gb243, 0, none⟩ (.int .i64 (wrap64 (a1_0 + 1)))).heap[gb244]? = some (.cells #[.int .i64 0, .slice none 0 0, .slice none 0 0] 28 (0, 0))) := ⟨by refine Qe ?_; refine blk_far ?_ NB244_243.out _; refine Qe ?_; exact BK244.out⟩
          have n5_ : Aside0 (Kept w (w278.setCell ⟨gb243, 0, none⟩ (.int .i64 (wrap64 (a1_0 + 1)))) (fun k_ => P1_1_ k_ ∨ P1_2_ k_)) := ⟨Qd HK.out⟩
          have n6_ : Aside0 (Below w0.heap.size w0 (w278.setCell ⟨gb243, 0, none⟩ (.int .i64 (wrap64 (a1_0 + 1))))) := ⟨Qb HB.out⟩
          (try clear HO1_1); (try clear HO1_2); (try clear BK242); (try clear BK243); (try clear BK244); (try clear HK); (try clear HB)
          generalize (w278.setCell ⟨gb243, 0, none⟩ (.int .i64 (wrap64 (a1_0 + 1)))) = w284 at n0_ n1_ n2_ n3_ n4_ n5_ n6_ ⊢
          have HO1_1 := n0_
          have HO1_2 := n1_
          have BK242 := n2_
          have BK243 := n3_
          have BK244 := n4_
          have HK := n5_
          have HB := n6_
          clear n0_ n1_ n2_ n3_ n4_ n5_ n6_
          have n0_ := Ak (Kd.R_drew HO1_1.out)
          have n1_ := Ak (Kd.R_drew HO1_2.out)
          have n2_ := Ak (blk_drew BK242.out)
          have n3_ := Ak (blk_drew BK243.out)
          have n4_ := Ak (blk_drew BK244.out)
          have n5_ := Ak (Kept.drew HK.out)
          have n6_ := Ak (below_drew1 HB.out)
          clear HO1_1 HO1_2 BK242 BK243 BK244 HK HB
          have HO1_1 := n0_
          have HO1_2 := n1_
          have BK242 := n2_
          have BK243 := n3_
          have BK244 := n4_
          have HK := n5_
          have HB := n6_
          clear n0_ n1_ n2_ n3_ n4_ n5_ n6_
          have p297 : 0 ≤ ((ji263) : Int) := Qg
          have q297 : (ji263) < (l1_1.length : Int) := Qg
          obtain ⟨ad297, e297, hx297_0⟩ := Kd.at_int (Kd.R_reads' HO1_1.out).2.2 (ji263) p297 q297
          cases e297
          replace p297 := eq_true p297
          replace q297 := eq_true q297
          have p298 : 0 ≤ ((ji266) : Int) := Qg
          have q298 : (ji266) < (l1_1.length : Int) := Qg
          obtain ⟨ad298, e298, hx298_0⟩ := Kd.at_int (Kd.R_reads' HO1_1.out).2.2 (ji266) p298 q298
          obtain rfl : ad297 = ad298 := (by injection e298)
          replace p298 := eq_true p298
          replace q298 := eq_true q298
          have p272 : 0 ≤ ((ji269) : Int) := Qg
          have q272 : ((ji269) : Int) < ((l1_2.length : Int) : Int) := Qg
          obtain ⟨go272, co272, eo272, gb272, gl272, cl272, HG272⟩ := Kd.R_form HO1_2.out (by omega)
          (first | cases eo272 | (injection eo272 with ea_ en_ ec_; (first | subst ea_ | (injection ea_ with ea_; subst ea_)); subst ec_; clear en_))
          have GB272 := Ak gb272
          have GG272 := Ak HG272
          clear gb272 gl272 HG272
          have HMgo272 := Ak (show ((P1_1_ go272 ∨ P1_2_ go272) ∨ w.heap.size ≤ go272) from (HO1_2.out.1 _ rfl).1)
          obtain ⟨hx272_0, hf272_0⟩ := Kd.R_celln 0 HO1_2.out ((ji269) : Int) p272 q272
          replace p272 := eq_true p272
          replace q272 := eq_true q272
          have HP286 := Kd.R_putn HO1_2.out ((ji269) : Int) (rd l1_1 (ji266))
          rw [← Ny299.out] at HP286
          have HQ286 := Ak HP286
          clear HP286
          refine start_ (n := 17) (S := fun w' => w'.cell? ⟨gb243, 0, none⟩ = some (.int .i64 (wrap64 (a1_0 + 1))) ∧ w'.cell? ⟨gb243, 1, none⟩ = some (.slice (some ad297) l1_1.length co275) ∧ w'.cell? ⟨gb243, 2, none⟩ = some (.slice (some ⟨go272, 0, none⟩) l1_2.length co276) ∧ w'.cell? (ad297.add ((ji263)).toNat) = some (.int .i64 (rd l1_1 (ji263))) ∧ w'.cell? (ad297.add ((ji266)).toNat) = some (.int .i64 (rd l1_1 (ji266)))) (ds := [16]) #[false, false, false, false, false, false, false, false, false, false, false, false, false, false, false, false, false] (by kernel_rfl) rfl rfl ⟨(blk_cell BK243.out 0).trans rfl, (blk_cell BK243.out 1).trans rfl, (blk_cell BK243.out 2).trans rfl, hx297_0, hx298_0⟩ (fun hHeld => ?_); refine with_tabW spec_l7Change.tab29 spec_l7Change.bits29 (fun HT_ HW_ => ?_)
          generalize w284.drew = w285 at HO1_1 HO1_2 BK242 BK243 BK244 HK HB GG272 HQ286 hf272_0 hx272_0 hx297_0 hx298_0 hHeld ⊢
          refine Qq 0 (some 207) ?_
          refine Qq 2 (some 209) ?_
          refine Qq 4 (some 211) ?_
          refine Qq 5 (some 212) ?_
          refine Qq 9 (some 216) ?_
          refine Qq 11 (some 218) ?_
          refine Qq 12 (some 219) ?_
          refine Qr 1 (some 208) hHeld ?_
          refine Qr 3 (some 210) hHeld ?_
          refine Qq 6 (some 213) ?_
          refine Qr 7 (some 214) hHeld ?_
          refine Qq 8 (some 215) ?_
          refine Qr 10 (some 217) hHeld ?_
          refine Qq 13 (some 220) ?_
          refine Qr 14 (some 221) hHeld ?_
          refine Qq 15 (some 222) ?_
          refine Qt 16 none (fun K hK => ?_)
          refine skip_ (w1 := ?_) (by rfl) rfl ?_ ?_
          rotate_left
          ·go_simp
           rfl
          refine hK.out _ _ ?_
          clear hK K
          refine done_ (done_of HT_.out (by kernel_rfl)) ?_
          have n0_ : Aside0 (Kd.R (Kd.int .i64) 3 (w285.setCell ⟨go272, ((ji269) : Int).toNat, none⟩ (.int .i64 (rd l1_1 (ji266)))) w0.heap.size (fun k_ => ((P1_1_ k_ ∨ P1_2_ k_) ∨ w.heap.size ≤ k_) ∧ some k_ ≠ (.slice (some ⟨go272, 0, none⟩) l1_2.length co276 : Value).ownBlock) (.slice (some ad297) l1_1.length co275) l1_1) := ⟨by refine Qf ?_; exact Kd.R_mono (Kd.R_far (p := ⟨go272, ((ji269) : Int).toNat, none⟩) (Kd.R_mono HO1_1.out (fun k_ hk => (⟨hk, fun e_ => hk.2 (by rw [e_]; rfl)⟩ : _ ∧ k_ ≠ go272))) (fun _ hk => hk.2) (.int .i64 (rd l1_1 (ji266)))) (fun _ hk => ⟨hk.1.1, hk.1.2⟩)⟩
          have n1_ : Aside0 (Kd.R (Kd.int .i64) 3 (w285.setCell ⟨go272, ((ji269) : Int).toNat, none⟩ (.int .i64 (rd l1_1 (ji266)))) w0.heap.size (fun k_ => ((P1_1_ k_ ∨ P1_2_ k_) ∨ w.heap.size ≤ k_) ∧ some k_ ≠ (.slice (some ad297) l1_1.length co275 : Value).ownBlock) (.slice (some ⟨go272, 0, none⟩) l1_2.length co276) y299) := ⟨by refine Qf ?_; exact HQ286.out⟩
          have n2_ : Aside0 ((w285.setCell ⟨go272, ((ji269) : Int).toNat, none⟩ (.int .i64 (rd l1_1 (ji266)))).heap[gb242]? = some (.cells #[.int .i64 a0_0, .int .i64 a0_1, .int .i64 a0_2, .int .i64 a0_3] 48 (0, 0))) := ⟨by refine Qe ?_; refine blk_far ?_ (by have h_ := Kd.R_ne HO1_2.out BK242.out (by decide); intro e_; exact h_ (by rw [e_]; rfl)) _; refine Qe ?_; exact BK242.out⟩
          have n3_ : Aside0 ((w285.setCell ⟨go272, ((ji269) : Int).toNat, none⟩ (.int .i64 (rd l1_1 (ji266)))).heap[gb243]? = some (.cells #[.int .i64 (wrap64 (a1_0 + 1)), .slice (some ad297) l1_1.length co275, .slice (some ⟨go272, 0, none⟩) l1_2.length co276] 28 (0, 0))) := ⟨by refine Qe ?_; refine blk_far ?_ (by have h_ := Kd.R_ne HO1_2.out BK243.out (by decide); intro e_; exact h_ (by rw [e_]; rfl)) _; refine Qe ?_; exact BK243.out⟩
          have n4_ : Aside0 ((w285.setCell ⟨go272, ((ji269) : Int).toNat, none⟩ (.int .i64 (rd l1_1 (ji266)))).heap[gb244]? = some (.cells #[.int .i64 0, .slice none 0 0, .slice none 0 0] 28 (0, 0))) := ⟨by refine Qe ?_; refine blk_far ?_ (by have h_ := Kd.R_ne HO1_2.out BK244.out (by decide); intro e_; exact h_ (by rw [e_]; rfl)) _; refine Qe ?_; exact BK244.out⟩
          have n5_ : Aside0 (Kept w (w285.setCell ⟨go272, ((ji269) : Int).toNat, none⟩ (.int .i64 (rd l1_1 (ji266)))) (fun k_ => P1_1_ k_ ∨ P1_2_ k_)) := ⟨Qd HK.out⟩
          have n6_ : Aside0 (Below w0.heap.size w0 (w285.setCell ⟨go272, ((ji269) : Int).toNat, none⟩ (.int .i64 (rd l1_1 (ji266))))) := ⟨Qb HB.out⟩
          (try clear HO1_1); (try clear HO1_2); (try clear BK242); (try clear BK243); (try clear BK244); (try clear HK); (try clear HB)
          generalize (w285.setCell ⟨go272, ((ji269) : Int).toNat, none⟩ (.int .i64 (rd l1_1 (ji266)))) = w287 at n0_ n1_ n2_ n3_ n4_ n5_ n6_ ⊢
          have HO1_1 := n0_
          have HO1_2 := n1_
          have BK242 := n2_
          have BK243 := n3_
          have BK244 := n4_
          have HK := n5_
          have HB := n6_
          clear n0_ n1_ n2_ n3_ n4_ n5_ n6_
          obtain ⟨hcz288_0, hcz288_1, hcz288_2, hfz288_0, hfz288_1, hfz288_2⟩ := Qv3 BK243.out
          have q289 : ((ji266) : Int) ≤ ((l1_1.length : Int) : Int) := Qg
          obtain ⟨i0289, hi0289, _, hsz289, _⟩ := info_parts info3
          have hcut289 := cut_to (P := Try.prog) 23 3 .i64 Try.underlying23 hi0289 (some ad297) l1_1.length co275 (ji266) (Qg) q289 (Kd.R_reads' HO1_1.out).2.1
          have hr289 := Kd.R_take (m := ((ji266) : Int).toNat) HO1_1.out (by omega)
          have hy289 : y300.length = ((ji266) : Int).toNat := (by rw [Ny300.out, List.length_take]; omega)
          rw [← Ny300.out] at hr289
          rw [← hy289] at hr289 hcut289
          clear hy289 hi0289 hsz289
          have HO302 := Ak hr289
          clear hr289
          replace q289 := eq_true q289
          obtain ⟨hcz290_0, hcz290_1, hcz290_2, hfz290_0, hfz290_1, hfz290_2⟩ := Qv3 BK244.out
          try go_wp2
          refine bodyPost_ret (results_cell_row rfl _ _ gb244 28 #[.int .i64 (wrap64 (a1_0 + 1)), .slice (some ad297) y300.length co275, .slice (some ⟨go272, 0, none⟩) l1_2.length co276] (0, 0) _ rfl (by refine Qe ?_; refine blk_put (cs := #[.int .i64 (wrap64 (a1_0 + 1)), .slice (some ad297) y300.length co275, .slice none 0 0]) ?_ 2 _ rfl; refine Qe ?_; refine blk_put (cs := #[.int .i64 (wrap64 (a1_0 + 1)), .slice none 0 0, .slice none 0 0]) ?_ 1 _ rfl; refine Qe ?_; refine blk_put (cs := #[.int .i64 0, .slice none 0 0, .slice none 0 0]) ?_ 0 _ rfl; refine Qe ?_; refine blk_far ?_ NB244_243.out _; exact Qa BK244.out) Try.underlying28 rfl (by kernel_rfl)) rfl ?_
          exact ⟨_, _, by first | rfl | (simp [errW_none, errW_some] <;> rfl) | (simp only [← hji263, ← hji266, ← hji269]; first | rfl | (simp [errW_none, errW_some] <;> rfl)) | (simp [*, errW_none, errW_some] <;> rfl), by refine Qf ?_; exact Kd.R_mono (Kd.R_far (p := ⟨gb244, 2, none⟩) (Kd.R_far (p := ⟨gb244, 1, none⟩) (Kd.R_far (p := ⟨gb244, 0, none⟩) (Kd.R_far (p := ⟨gb243, 1, none⟩) (Kd.R_types (Kd.R_types HO302.out BK243.out (by decide)) BK244.out (by decide)) (fun _ hk => hk.1.2) (.slice (some ad297) y300.length co275)) (fun _ hk => hk.2) (.int .i64 (wrap64 (a1_0 + 1)))) (fun _ hk => hk.2) (.slice (some ad297) y300.length co275)) (fun _ hk => hk.2) (.slice (some ⟨go272, 0, none⟩) l1_2.length co276)) (fun _ hk => by first | exact ⟨hk.1.1.1, hk.1.1.2⟩ | exact ⟨hk.1.1.1, fun e_ => hk.1.1.2 (e_.trans (ownlen_ _ _ _ _ _))⟩), by refine Qf ?_; exact Kd.R_mono (Kd.R_far (p := ⟨gb244, 2, none⟩) (Kd.R_far (p := ⟨gb244, 1, none⟩) (Kd.R_far (p := ⟨gb244, 0, none⟩) (Kd.R_far (p := ⟨gb243, 1, none⟩) (Kd.R_types (Kd.R_types HO1_2.out BK243.out (by decide)) BK244.out (by decide)) (fun _ hk => hk.1.2) (.slice (some ad297) y300.length co275)) (fun _ hk => hk.2) (.int .i64 (wrap64 (a1_0 + 1)))) (fun _ hk => hk.2) (.slice (some ad297) y300.length co275)) (fun _ hk => hk.2) (.slice (some ⟨go272, 0, none⟩) l1_2.length co276)) (fun _ hk => by first | exact ⟨hk.1.1.1, hk.1.1.2⟩ | exact ⟨hk.1.1.1, fun e_ => hk.1.1.2 (e_.trans (ownlen_ _ _ _ _ _))⟩), Qb HB.out, Qd HK.out⟩
         ·rw [if_neg c273] at H
          exact absurd H (by simp)
        ·rw [if_neg c271] at H
         exact absurd H (by simp)
       ·rw [if_neg c270] at H
        exact absurd H (by simp)
      ·rw [if_neg c268] at H
       exact absurd H (by simp)
     ·rw [if_neg c267] at H
      exact absurd H (by simp)
    ·rw [if_neg c265] at H
     exact absurd H (by simp)
   ·rw [if_neg c264] at H
    exact absurd H (by simp)
  ·rw [if_neg c262] at H
   have c262b0 : (a0_0 == 12) = false := beq_eq_false_iff_ne.mpr c262
   have c262b1 : (a0_0 != 12) = true := bne_iff_ne.mpr c262
   by_cases c291 : a0_0 = 13
   ·rw [if_pos c291] at H
    have c291b0 : (a0_0 == 13) = true := beq_iff_eq.mpr c291
    have c291b1 : (a0_0 != 13) = false := bne_eq_false_iff_eq.mpr c291
    clear c291
    simp only [Option.some.injEq, Prod.mk.injEq] at H
    obtain ⟨rfl, rfl, rfl⟩ := H
    go_enter Try.func38, Try.ntmps38
    go_wp2_with (first | ((with_reducible refine gate_dst (N := 2) rfl ?_); refine Qk 2 #[.int .i64 a0_0, .int .i64 a0_1, .int .i64 a0_2, .int .i64 a0_3] 48 ?_; intro gb242 hg w292 hbox hb; have n0_ := Ak (Kd.R_below (Qc HO1_1.out) hb); have n1_ := Ak (Kd.R_below (Qc HO1_2.out) hb); have n2_ := Ak (Kept.below (S := (fun k_ => P1_1_ k_ ∨ P1_2_ k_)) (Qd HK.out) hb); have n3_ := Ak (below_step (Qb HB.out) hb); have n4_ := Ak (hbox); have n5_ := Ak ((by rw [hg]; exact (Qo HK.out) : w.heap.size ≤ gb242)); have n6_ := Ak ((Qp hg HB.out : w0.heap.size ≤ gb242)); clear HO1_1 HO1_2 HK HB; have HO1_1 := n0_; have HO1_2 := n1_; have HK := n2_; have HB := n3_; have BK242 := n4_; have GW242 := n5_; have GE242 := n6_; clear n0_ n1_ n2_ n3_ n4_ n5_ n6_; clear hb hbox hg; obtain ⟨Ao293, co293, eo293⟩ := Kd.R_slice HO1_1.out; subst eo293; obtain ⟨Ao294, co294, eo294⟩ := Kd.R_slice HO1_2.out; subst eo294) | ((with_reducible refine gate_dst (N := 3) rfl ?_); refine Qk 3 #[.int .i64 a1_0, .slice Ao293 l1_1.length co293, .slice Ao294 l1_2.length co294] 28 ?_; intro gb243 hg w295 hbox hb; have n0_ := Ak (Kd.R_below (Qc HO1_1.out) hb); have n1_ := Ak (Kd.R_below (Qc HO1_2.out) hb); have n2_ := Ak (Qm BK242.out hb); have n3_ := Ak (Kept.below (S := (fun k_ => P1_1_ k_ ∨ P1_2_ k_)) (Qd HK.out) hb); have n4_ := Ak (below_step (Qb HB.out) hb); have n5_ := Ak (hbox); have n6_ := Ak ((by rw [hg]; exact (Qo HK.out) : w.heap.size ≤ gb243)); have n7_ := Ak ((Qp hg HB.out : w0.heap.size ≤ gb243)); have n8_ := Ak ((by rw [hg]; exact Nat.ne_of_lt (Qn BK242.out) : gb242 ≠ gb243)); have n9_ := Ak ((by rw [hg]; exact Nat.ne_of_gt (Qn BK242.out) : gb243 ≠ gb242)); clear HO1_1 HO1_2 BK242 HK HB; have HO1_1 := n0_; have HO1_2 := n1_; have BK242 := n2_; have HK := n3_; have HB := n4_; have BK243 := n5_; have GW243 := n6_; have GE243 := n7_; have NB242_243 := n8_; have NB243_242 := n9_; clear n0_ n1_ n2_ n3_ n4_ n5_ n6_ n7_ n8_ n9_; clear hb hbox hg) | ((with_reducible refine gate_dst (N := 4) rfl ?_); refine Qk 4 #[.int .i64 0, .slice none 0 0, .slice none 0 0] 28 ?_; intro gb244 hg w296 hbox hb; have n0_ := Ak (Kd.R_below (Qc HO1_1.out) hb); have n1_ := Ak (Kd.R_below (Qc HO1_2.out) hb); have n2_ := Ak (Qm BK242.out hb); have n3_ := Ak (Qm BK243.out hb); have n4_ := Ak (Kept.below (S := (fun k_ => P1_1_ k_ ∨ P1_2_ k_)) (Qd HK.out) hb); have n5_ := Ak (below_step (Qb HB.out) hb); have n6_ := Ak (hbox); have n7_ := Ak ((by rw [hg]; exact (Qo HK.out) : w.heap.size ≤ gb244)); have n8_ := Ak ((Qp hg HB.out : w0.heap.size ≤ gb244)); have n9_ := Ak ((by rw [hg]; exact Nat.ne_of_lt (Qn BK242.out) : gb242 ≠ gb244)); have n10_ := Ak ((by rw [hg]; exact Nat.ne_of_gt (Qn BK242.out) : gb244 ≠ gb242)); have n11_ := Ak ((by rw [hg]; exact Nat.ne_of_lt (Qn BK243.out) : gb243 ≠ gb244)); have n12_ := Ak ((by rw [hg]; exact Nat.ne_of_gt (Qn BK243.out) : gb244 ≠ gb243)); clear HO1_1 HO1_2 BK242 BK243 HK HB; have HO1_1 := n0_; have HO1_2 := n1_; have BK242 := n2_; have BK243 := n3_; have HK := n4_; have HB := n5_; have BK244 := n6_; have GW244 := n7_; have GE244 := n8_; have NB242_244 := n9_; have NB244_242 := n10_; have NB243_244 := n11_; have NB244_243 := n12_; clear n0_ n1_ n2_ n3_ n4_ n5_ n6_ n7_ n8_ n9_ n10_ n11_ n12_; clear hb hbox hg; have hnb297 := NB243_242.out; have hnc297 := NB242_243.out; have hnb298 := NB243_244.out; have hnc298 := NB244_243.out; obtain ⟨hcz299_0, hcz299_1, hcz299_2, hfz299_0, hfz299_1, hfz299_2⟩ := Qv3 BK243.out; have hnb300 := NB242_244.out; have hnc300 := NB244_242.out; obtain ⟨hcz301_0, hcz301_1, hcz301_2, hcz301_3, hfz301_0, hfz301_1, hfz301_2, hfz301_3⟩ := Qv4 BK242.out; obtain ⟨hcz302_0, hcz302_1, hcz302_2⟩ := Qu3 BK244.out; have hfz302_0 := blk_frozen BK244.out 0; have hfz302_1 := blk_frozen BK244.out 1; have hfz302_2 := blk_frozen BK244.out 2))
    refine bodyPost_ret (results_cell_row rfl _ _ gb244 28 #[.int .i64 a0_1, .slice Ao293 l1_1.length co293, .slice Ao294 l1_2.length co294] (0, 0) _ rfl (by refine Qe ?_; refine blk_put (cs := #[.int .i64 a0_1, .slice Ao293 l1_1.length co293, .slice none 0 0]) ?_ 2 _ rfl; refine Qe ?_; refine blk_put (cs := #[.int .i64 a0_1, .slice none 0 0, .slice none 0 0]) ?_ 1 _ rfl; refine Qe ?_; refine blk_put (cs := #[.int .i64 0, .slice none 0 0, .slice none 0 0]) ?_ 0 _ rfl; refine Qe ?_; refine blk_far ?_ NB244_243.out _; refine Qe ?_; refine blk_far ?_ NB244_243.out _; exact Qa BK244.out) Try.underlying28 rfl (by kernel_rfl)) rfl ?_
    exact ⟨_, _, Qh, by refine Qf ?_; exact Kd.R_mono (Kd.R_far (p := ⟨gb244, 2, none⟩) (Kd.R_far (p := ⟨gb244, 1, none⟩) (Kd.R_far (p := ⟨gb244, 0, none⟩) (Kd.R_far (p := ⟨gb243, 0, none⟩) (Kd.R_far (p := ⟨gb243, 0, none⟩) (Kd.R_types (Kd.R_types HO1_1.out BK243.out (by decide)) BK244.out (by decide)) (fun _ hk => hk.1.2) (.int .i64 (wrap64 (a1_0 + 1)))) (fun _ hk => hk.1.2) (.int .i64 a0_1)) (fun _ hk => hk.2) (.int .i64 a0_1)) (fun _ hk => hk.2) (.slice Ao293 l1_1.length co293)) (fun _ hk => hk.2) (.slice Ao294 l1_2.length co294)) (fun _ hk => by first | exact ⟨hk.1.1.1, hk.1.1.2⟩ | exact ⟨hk.1.1.1, fun e_ => hk.1.1.2 (e_.trans (ownlen_ _ _ _ _ _))⟩), by refine Qf ?_; exact Kd.R_mono (Kd.R_far (p := ⟨gb244, 2, none⟩) (Kd.R_far (p := ⟨gb244, 1, none⟩) (Kd.R_far (p := ⟨gb244, 0, none⟩) (Kd.R_far (p := ⟨gb243, 0, none⟩) (Kd.R_far (p := ⟨gb243, 0, none⟩) (Kd.R_types (Kd.R_types HO1_2.out BK243.out (by decide)) BK244.out (by decide)) (fun _ hk => hk.1.2) (.int .i64 (wrap64 (a1_0 + 1)))) (fun _ hk => hk.1.2) (.int .i64 a0_1)) (fun _ hk => hk.2) (.int .i64 a0_1)) (fun _ hk => hk.2) (.slice Ao293 l1_1.length co293)) (fun _ hk => hk.2) (.slice Ao294 l1_2.length co294)) (fun _ hk => by first | exact ⟨hk.1.1.1, hk.1.1.2⟩ | exact ⟨hk.1.1.1, fun e_ => hk.1.1.2 (e_.trans (ownlen_ _ _ _ _ _))⟩), Qb HB.out, Qd HK.out⟩
   ·rw [if_neg c291] at H
    have c291b0 : (a0_0 == 13) = false := beq_eq_false_iff_ne.mpr c291
    have c291b1 : (a0_0 != 13) = true := bne_iff_ne.mpr c291
    by_cases c303 : a0_0 = 14
    ·rw [if_pos c303] at H
     have c303b0 : (a0_0 == 14) = true := beq_iff_eq.mpr c303
     have c303b1 : (a0_0 != 14) = false := bne_eq_false_iff_eq.mpr c303
     clear c303
     obtain ⟨y303, hy303⟩ : ∃ y_ : List Int, y_ = (([a0_1, a0_2, a0_3] : List Int)) := ⟨_, rfl⟩
     replace H : (if 0 ≤ (wrap64 ((l1_1.length : Int) - 1)) then (if (wrap64 ((l1_1.length : Int) - 1)) < (l1_1.length : Int) then ((spec_SignOf.f (rd l1_1 (wrap64 ((l1_1.length : Int) - 1)))).bind fun t307 => (if 0 ≤ (wrap64 (t307 + 1)) then (if (wrap64 (t307 + 1)) < (y303.length : Int) then (if (wrap64 ((l1_1.length : Int) - 1)) ≤ (l1_1.length : Int) then (some (rd y303 (wrap64 (t307 + 1)), (l1_1.take ((wrap64 ((l1_1.length : Int) - 1)) : Int).toNat), l1_2)) else (none)) else (none)) else (none))) else (none)) else (none)) = some (r1, r2, r3) := by first | (rw [hy303]; with_reducible exact H) | (have H2_ := (Option.bind_some _ _).symm.trans H; rw [hy303]; with_reducible exact H2_) | (have H2_ := (Option.bind_some _ _).symm.trans H; with_reducible exact H2_) | with_reducible exact H | (rw [hy303]; exact H) | exact H
     have Ny303 := Ak hy303
     clear hy303
     obtain ⟨ji304, hji304⟩ : ∃ j_ : Int, (wrap64 ((l1_1.length : Int) - 1)) = j_ := ⟨_, rfl⟩
     replace H : (if 0 ≤ (ji304) then (if (ji304) < (l1_1.length : Int) then ((spec_SignOf.f (rd l1_1 (ji304))).bind fun t307 => (if 0 ≤ (wrap64 (t307 + 1)) then (if (wrap64 (t307 + 1)) < (y303.length : Int) then (if (ji304) ≤ (l1_1.length : Int) then (some (rd y303 (wrap64 (t307 + 1)), (l1_1.take ((ji304) : Int).toNat), l1_2)) else (none)) else (none)) else (none))) else (none)) else (none)) = some (r1, r2, r3) := by first | (rw [hji304] at H; exact H) | (simp only [hji304] at H ⊢; exact H)
     have hji304w : (IntKind.i64.wrap ((l1_1.length : Int) - 1)) = ji304 := (i64_w _).trans hji304
     by_cases c305 : 0 ≤ (ji304)
     ·rw [if_pos c305] at H
      have c305b0 : decide (0 ≤ (ji304)) = true := decide_eq_true c305
      clear c305
      by_cases c306 : (ji304) < (l1_1.length : Int)
      ·rw [if_pos c306] at H
       have c306b0 : decide ((ji304) < (l1_1.length : Int)) = true := decide_eq_true c306
       clear c306
       replace H := Option.bind_eq_some_iff.mp H
       obtain ⟨t307, A3070, H⟩ := H
       replace H : (if 0 ≤ (wrap64 (t307 + 1)) then (if (wrap64 (t307 + 1)) < (y303.length : Int) then (if (ji304) ≤ (l1_1.length : Int) then (some (rd y303 (wrap64 (t307 + 1)), (l1_1.take ((ji304) : Int).toNat), l1_2)) else (none)) else (none)) else (none)) = some (r1, r2, r3) := H
       have A307 := Ak A3070
       clear A3070
       obtain ⟨ji308, hji308⟩ : ∃ j_ : Int, (wrap64 (t307 + 1)) = j_ := ⟨_, rfl⟩
       replace H : (if 0 ≤ (ji308) then (if (ji308) < (y303.length : Int) then (if (ji304) ≤ (l1_1.length : Int) then (some (rd y303 (ji308), (l1_1.take ((ji304) : Int).toNat), l1_2)) else (none)) else (none)) else (none)) = some (r1, r2, r3) := by first | (rw [hji308] at H; exact H) | (simp only [hji308] at H ⊢; exact H)
       (try rw [hji308] at A307)
       have hji308w : (IntKind.i64.wrap (t307 + 1)) = ji308 := (i64_w _).trans hji308
       by_cases c309 : 0 ≤ (ji308)
       ·rw [if_pos c309] at H
        have c309b0 : decide (0 ≤ (ji308)) = true := decide_eq_true c309
        clear c309
        by_cases c310 : (ji308) < (y303.length : Int)
        ·rw [if_pos c310] at H
         have c310b0 : decide ((ji308) < (y303.length : Int)) = true := decide_eq_true c310
         clear c310
         by_cases c311 : (ji304) ≤ (l1_1.length : Int)
         ·rw [if_pos c311] at H
          have c311b0 := eq_true c311
          have c311b1 : decide ((ji304) ≤ (l1_1.length : Int)) = true := decide_eq_true c311
          clear c311
          obtain ⟨y309, hy309⟩ : ∃ y_ : List Int, y_ = (l1_1.take ((ji304) : Int).toNat) := ⟨_, rfl⟩
          replace H : (some (rd y303 (ji308), y309, l1_2)) = some (r1, r2, r3) := by first | (rw [hy309]; with_reducible exact H) | (have H2_ := (Option.bind_some _ _).symm.trans H; rw [hy309]; with_reducible exact H2_) | (have H2_ := (Option.bind_some _ _).symm.trans H; with_reducible exact H2_) | with_reducible exact H | (rw [hy309]; exact H) | exact H
          have Ny309 := Ak hy309
          clear hy309
          simp only [Option.some.injEq, Prod.mk.injEq] at H
          obtain ⟨rfl, rfl, rfl⟩ := H
          go_enter Try.func38, Try.ntmps38
          try go_wp2_with (first | ((with_reducible refine gate_dst (N := 2) rfl ?_); refine Qk 2 #[.int .i64 a0_0, .int .i64 a0_1, .int .i64 a0_2, .int .i64 a0_3] 48 ?_; intro gb242 hg w312 hbox hb; have n0_ := Ak (Kd.R_below (Qc HO1_1.out) hb); have n1_ := Ak (Kd.R_below (Qc HO1_2.out) hb); have n2_ := Ak (Kept.below (S := (fun k_ => P1_1_ k_ ∨ P1_2_ k_)) (Qd HK.out) hb); have n3_ := Ak (below_step (Qb HB.out) hb); have n4_ := Ak (hbox); have n5_ := Ak ((by rw [hg]; exact (Qo HK.out) : w.heap.size ≤ gb242)); have n6_ := Ak ((Qp hg HB.out : w0.heap.size ≤ gb242)); clear HO1_1 HO1_2 HK HB; have HO1_1 := n0_; have HO1_2 := n1_; have HK := n2_; have HB := n3_; have BK242 := n4_; have GW242 := n5_; have GE242 := n6_; clear n0_ n1_ n2_ n3_ n4_ n5_ n6_; clear hb hbox hg; obtain ⟨Ao313, co313, eo313⟩ := Kd.R_slice HO1_1.out; subst eo313; obtain ⟨Ao314, co314, eo314⟩ := Kd.R_slice HO1_2.out; subst eo314) | ((with_reducible refine gate_dst (N := 3) rfl ?_); refine Qk 3 #[.int .i64 a1_0, .slice Ao313 l1_1.length co313, .slice Ao314 l1_2.length co314] 28 ?_; intro gb243 hg w315 hbox hb; have n0_ := Ak (Kd.R_below (Qc HO1_1.out) hb); have n1_ := Ak (Kd.R_below (Qc HO1_2.out) hb); have n2_ := Ak (Qm BK242.out hb); have n3_ := Ak (Kept.below (S := (fun k_ => P1_1_ k_ ∨ P1_2_ k_)) (Qd HK.out) hb); have n4_ := Ak (below_step (Qb HB.out) hb); have n5_ := Ak (hbox); have n6_ := Ak ((by rw [hg]; exact (Qo HK.out) : w.heap.size ≤ gb243)); have n7_ := Ak ((Qp hg HB.out : w0.heap.size ≤ gb243)); have n8_ := Ak ((by rw [hg]; exact Nat.ne_of_lt (Qn BK242.out) : gb242 ≠ gb243)); have n9_ := Ak ((by rw [hg]; exact Nat.ne_of_gt (Qn BK242.out) : gb243 ≠ gb242)); clear HO1_1 HO1_2 BK242 HK HB; have HO1_1 := n0_; have HO1_2 := n1_; have BK242 := n2_; have HK := n3_; have HB := n4_; have BK243 := n5_; have GW243 := n6_; have GE243 := n7_; have NB242_243 := n8_; have NB243_242 := n9_; clear n0_ n1_ n2_ n3_ n4_ n5_ n6_ n7_ n8_ n9_; clear hb hbox hg) | ((with_reducible refine gate_dst (N := 4) rfl ?_); refine Qk 4 #[.int .i64 0, .slice none 0 0, .slice none 0 0] 28 ?_; intro gb244 hg w316 hbox hb; have n0_ := Ak (Kd.R_below (Qc HO1_1.out) hb); have n1_ := Ak (Kd.R_below (Qc HO1_2.out) hb); have n2_ := Ak (Qm BK242.out hb); have n3_ := Ak (Qm BK243.out hb); have n4_ := Ak (Kept.below (S := (fun k_ => P1_1_ k_ ∨ P1_2_ k_)) (Qd HK.out) hb); have n5_ := Ak (below_step (Qb HB.out) hb); have n6_ := Ak (hbox); have n7_ := Ak ((by rw [hg]; exact (Qo HK.out) : w.heap.size ≤ gb244)); have n8_ := Ak ((Qp hg HB.out : w0.heap.size ≤ gb244)); have n9_ := Ak ((by rw [hg]; exact Nat.ne_of_lt (Qn BK242.out) : gb242 ≠ gb244)); have n10_ := Ak ((by rw [hg]; exact Nat.ne_of_gt (Qn BK242.out) : gb244 ≠ gb242)); have n11_ := Ak ((by rw [hg]; exact Nat.ne_of_lt (Qn BK243.out) : gb243 ≠ gb244)); have n12_ := Ak ((by rw [hg]; exact Nat.ne_of_gt (Qn BK243.out) : gb244 ≠ gb243)); clear HO1_1 HO1_2 BK242 BK243 HK HB; have HO1_1 := n0_; have HO1_2 := n1_; have BK242 := n2_; have BK243 := n3_; have HK := n4_; have HB := n5_; have BK244 := n6_; have GW244 := n7_; have GE244 := n8_; have NB242_244 := n9_; have NB244_242 := n10_; have NB243_244 := n11_; have NB244_243 := n12_; clear n0_ n1_ n2_ n3_ n4_ n5_ n6_ n7_ n8_ n9_ n10_ n11_ n12_; clear hb hbox hg; have hnb317 := NB243_242.out; have hnc317 := NB242_243.out; have hnb318 := NB243_244.out; have hnc318 := NB244_243.out; obtain ⟨hcz319_0, hcz319_1, hcz319_2, hfz319_0, hfz319_1, hfz319_2⟩ := Qv3 BK243.out; have hnb320 := NB242_244.out; have hnc320 := NB244_242.out; obtain ⟨hcz321_0, hcz321_1, hcz321_2, hcz321_3⟩ := Qu4 BK242.out; have hfz321_0 := blk_frozen BK242.out 0; have hfz321_1 := blk_frozen BK242.out 1; have hfz321_2 := blk_frozen BK242.out 2; have hfz321_3 := blk_frozen BK242.out 3))
          have pi308 : (0 ≤ ((ji308) : Int)) = True := eq_true (Qg)
          have qi308 : ((ji308) < (y303.length : Int)) = True := eq_true (Qg)
          have n0_ : Aside0 (Kd.R (Kd.int .i64) 3 (w316.setCell ⟨gb243, 0, none⟩ (.int .i64 (wrap64 (a1_0 + 1)))) w0.heap.size (fun k_ => ((P1_1_ k_ ∨ P1_2_ k_) ∨ w.heap.size ≤ k_) ∧ some k_ ≠ (.slice Ao314 l1_2.length co314 : Value).ownBlock) (.slice Ao313 l1_1.length co313) l1_1) := ⟨by refine Qf ?_; exact Kd.R_mono (Kd.R_far (p := ⟨gb243, 0, none⟩) (Kd.R_types HO1_1.out BK243.out (by decide)) (fun _ hk => hk.2) (.int .i64 (wrap64 (a1_0 + 1)))) (fun _ hk => ⟨hk.1.1, hk.1.2⟩)⟩
          have n1_ : Aside0 (Kd.R (Kd.int .i64) 3 (w316.setCell ⟨gb243, 0, none⟩ (.int .i64 (wrap64 (a1_0 + 1)))) w0.heap.size (fun k_ => ((P1_1_ k_ ∨ P1_2_ k_) ∨ w.heap.size ≤ k_) ∧ some k_ ≠ (.slice Ao313 l1_1.length co313 : Value).ownBlock) (.slice Ao314 l1_2.length co314) l1_2) := ⟨by refine Qf ?_; exact Kd.R_mono (Kd.R_far (p := ⟨gb243, 0, none⟩) (Kd.R_types HO1_2.out BK243.out (by decide)) (fun _ hk => hk.2) (.int .i64 (wrap64 (a1_0 + 1)))) (fun _ hk => ⟨hk.1.1, hk.1.2⟩)⟩
          have n2_ : Aside0 ((w316.setCell ⟨gb243, 0, none⟩ (.int .i64 (wrap64 (a1_0 + 1)))).heap[gb242]? = some (.cells #[.int .i64 a0_0, .int .i64 a0_1, .int .i64 a0_2, .int .i64 a0_3] 48 (0, 0))) := ⟨by refine Qe ?_; refine blk_far ?_ NB242_243.out _; refine Qe ?_; exact BK242.out⟩
          have n3_ : Aside0 ((w316.setCell ⟨gb243, 0, none⟩ (.int .i64 (wrap64 (a1_0 + 1)))).heap[gb243]? = some (.cells #[.int .i64 (wrap64 (a1_0 + 1)), .slice Ao313 l1_1.length co313, .slice Ao314 l1_2.length co314] 28 (0, 0))) := ⟨by refine Qe ?_; refine blk_put (cs := #[.int .i64 a1_0, .slice Ao313 l1_1.length co313, .slice Ao314 l1_2.length co314]) ?_ 0 _ rfl; refine Qe ?_; exact BK243.out⟩
          have n4_ : Aside0 ((w316.setCell ⟨gb243, 0, none⟩ (.int .i64 (wrap64 (a1_0 + 1)))).heap[gb244]? = some (.cells #[.int .i64 0, .slice none 0 0, .slice none 0 0] 28 (0, 0))) := ⟨by refine Qe ?_; refine blk_far ?_ NB244_243.out _; refine Qe ?_; exact BK244.out⟩
          have n5_ : Aside0 (Kept w (w316.setCell ⟨gb243, 0, none⟩ (.int .i64 (wrap64 (a1_0 + 1)))) (fun k_ => P1_1_ k_ ∨ P1_2_ k_)) := ⟨Qd HK.out⟩
          have n6_ : Aside0 (Below w0.heap.size w0 (w316.setCell ⟨gb243, 0, none⟩ (.int .i64 (wrap64 (a1_0 + 1))))) := ⟨Qb HB.out⟩
          (try clear HO1_1); (try clear HO1_2); (try clear BK242); (try clear BK243); (try clear BK244); (try clear HK); (try clear HB)
          generalize (w316.setCell ⟨gb243, 0, none⟩ (.int .i64 (wrap64 (a1_0 + 1)))) = w322 at n0_ n1_ n2_ n3_ n4_ n5_ n6_ ⊢
          have HO1_1 := n0_
          have HO1_2 := n1_
          have BK242 := n2_
          have BK243 := n3_
          have BK244 := n4_
          have HK := n5_
          have HB := n6_
          clear n0_ n1_ n2_ n3_ n4_ n5_ n6_
          have n0_ := Ak (Kd.R_drew HO1_1.out)
          have n1_ := Ak (Kd.R_drew HO1_2.out)
          have n2_ := Ak (blk_drew BK242.out)
          have n3_ := Ak (blk_drew BK243.out)
          have n4_ := Ak (blk_drew BK244.out)
          have n5_ := Ak (Kept.drew HK.out)
          have n6_ := Ak (below_drew1 HB.out)
          clear HO1_1 HO1_2 BK242 BK243 BK244 HK HB
          have HO1_1 := n0_
          have HO1_2 := n1_
          have BK242 := n2_
          have BK243 := n3_
          have BK244 := n4_
          have HK := n5_
          have HB := n6_
          clear n0_ n1_ n2_ n3_ n4_ n5_ n6_
          have p306 : 0 ≤ ((ji304) : Int) := Qg
          have q306 : (ji304) < (l1_1.length : Int) := Qg
          obtain ⟨ad306, e306, hx306_0⟩ := Kd.at_int (Kd.R_reads' HO1_1.out).2.2 (ji304) p306 q306
          cases e306
          replace p306 := eq_true p306
          replace q306 := eq_true q306
          refine start_ (n := 19) (S := fun w' => w'.cell? ⟨gb242, 0, none⟩ = some (.int .i64 a0_0) ∧ w'.cell? ⟨gb242, 1, none⟩ = some (.int .i64 a0_1) ∧ w'.cell? ⟨gb242, 2, none⟩ = some (.int .i64 a0_2) ∧ w'.cell? ⟨gb242, 3, none⟩ = some (.int .i64 a0_3) ∧ w'.cell? ⟨gb243, 0, none⟩ = some (.int .i64 (wrap64 (a1_0 + 1))) ∧ w'.cell? ⟨gb243, 1, none⟩ = some (.slice (some ad306) l1_1.length co313) ∧ w'.cell? ⟨gb243, 2, none⟩ = some (.slice Ao314 l1_2.length co314) ∧ w'.cell? (ad306.add ((ji304)).toNat) = some (.int .i64 (rd l1_1 (ji304)))) (ds := [18]) #[false, false, false, false, false, false, false, false, false, false, false, false, false, false, false, false, false, false, false] (by kernel_rfl) rfl rfl ⟨(blk_cell BK242.out 0).trans rfl, (blk_cell BK242.out 1).trans rfl, (blk_cell BK242.out 2).trans rfl, (blk_cell BK242.out 3).trans rfl, (blk_cell BK243.out 0).trans rfl, (blk_cell BK243.out 1).trans rfl, (blk_cell BK243.out 2).trans rfl, hx306_0⟩ (fun hHeld => ?_); refine with_tabW spec_l7Change.tab34 spec_l7Change.bits34 (fun HT_ HW_ => ?_)
          generalize w322.drew = w323 at HO1_1 HO1_2 BK242 BK243 BK244 HK HB hx306_0 hHeld ⊢
          refine Qq 0 (some 236) ?_
          refine Qq 2 (some 238) ?_
          refine Qq 4 (some 240) ?_
          refine Qq 7 (some 243) ?_
          refine Qq 9 (some 245) ?_
          refine Qq 10 (some 246) ?_
          refine Qr 1 (some 237) hHeld ?_
          refine Qr 3 (some 239) hHeld ?_
          refine Qr 5 (some 241) hHeld ?_
          refine Qr 8 (some 244) hHeld ?_
          refine Qq 11 (some 247) ?_
          refine Qr 12 (some 248) hHeld ?_
          refine join_ (σ := Value × Addr) 4 #[true, true, true, true, true, true, true, true, true, true, true, true, true, true, true, false, false, false, false] (fun s_ => [(242, s_.1), (249, .int .i64 t307), (250, .int .i64 ji308)]) (fun s_ w' => (w'.cell? ⟨gb242, 0, none⟩ = some (.int .i64 a0_0) ∧ w'.cell? ⟨gb242, 1, none⟩ = some (.int .i64 a0_1) ∧ w'.cell? ⟨gb242, 2, none⟩ = some (.int .i64 a0_2) ∧ w'.cell? ⟨gb242, 3, none⟩ = some (.int .i64 a0_3) ∧ w'.cell? ⟨gb243, 0, none⟩ = some (.int .i64 (wrap64 (a1_0 + 1))) ∧ w'.cell? ⟨gb243, 1, none⟩ = some (.slice (some ad306) l1_1.length co313) ∧ w'.cell? ⟨gb243, 2, none⟩ = some (.slice Ao314 l1_2.length co314) ∧ w'.cell? (ad306.add ((ji304)).toNat) = some (.int .i64 (rd l1_1 (ji304)))) ∧ (Kd.R (Kd.int .i64) 3 w' w0.heap.size (fun k_ => ((P1_1_ k_ ∨ P1_2_ k_) ∨ w.heap.size ≤ k_) ∧ some k_ ≠ (.slice Ao314 l1_2.length co314 : Value).ownBlock ∧ some k_ ≠ (s_.1 : Value).ownBlock) (.slice (some ad306) l1_1.length co313) l1_1) ∧ (Kd.R (Kd.int .i64) 3 w' w0.heap.size (fun k_ => ((P1_1_ k_ ∨ P1_2_ k_) ∨ w.heap.size ≤ k_) ∧ some k_ ≠ (.slice (some ad306) l1_1.length co313 : Value).ownBlock ∧ some k_ ≠ (s_.1 : Value).ownBlock) (.slice Ao314 l1_2.length co314) l1_2) ∧ (Kd.R (Kd.int .i64) 3 w' w0.heap.size (fun k_ => ((P1_1_ k_ ∨ P1_2_ k_) ∨ w.heap.size ≤ k_) ∧ some k_ ≠ (.slice (some ad306) l1_1.length co313 : Value).ownBlock ∧ some k_ ≠ (.slice Ao314 l1_2.length co314 : Value).ownBlock) s_.1 y303) ∧ (∃ c_, (s_.1 : Value) = .slice (some s_.2) y303.length c_) ∧ (w'.heap[gb242]? = some (.cells #[.int .i64 a0_0, .int .i64 a0_1, .int .i64 a0_2, .int .i64 a0_3] 48 (0, 0))) ∧ (w'.heap[gb243]? = some (.cells #[.int .i64 (wrap64 (a1_0 + 1)), .slice (some ad306) l1_1.length co313, .slice Ao314 l1_2.length co314] 28 (0, 0))) ∧ (w'.heap[gb244]? = some (.cells #[.int .i64 0, .slice none 0 0, .slice none 0 0] 28 (0, 0))) ∧ (Kept w w' (fun k_ => P1_1_ k_ ∨ P1_2_ k_)) ∧ (Below w0.heap.size w0 w')) ?_ ?_
          rotate_left
          ·intro hCont
           refine two_ (i := 6) (j := 13) (Ni := some 242) (Nj := some 249) #[true, true, true, true, true, true, true, true, true, true, true, true, true, false, false, false, false, false, false] #[true, true, true, true, true, true, false, true, true, true, true, true, true, true, false, false, false, false, false] rfl rfl rfl rfl (two_of HT_.out (by kernel_rfl)) (by decide) (by decide) (fun K hK => ?_) (fun K hK => ?_)
           ·skip
            refine Kd.R_lit_step (Kd.int .i64) _ 3 ?hg (N := 242) ?hd (xs := ([a0_1, a0_2, a0_3] : List Int)) (inner := [.int .i64 a0_1, .int .i64 a0_2, .int .i64 a0_3]) (ok := fun _ => True) (okp := fun _ => True) ?hr ?hp (fun _ hk => hk) trivial (Below.refl _ _) (Nat.le_refl _) (by simp) ?_; (case hd => rfl); (case hg => rfl); (case hr => first | (go_simp; done) | (go_simp; rfl)); (case hp => exact (Reps.one (show Kd.M (Kd.int .i64) _ _ _ a0_1 [.int .i64 a0_1] from rfl) (Reps.one (show Kd.M (Kd.int .i64) _ _ _ a0_2 [.int .i64 a0_2] from rfl) (Reps.one (show Kd.M (Kd.int .i64) _ _ _ a0_3 [.int .i64 a0_3] from rfl) (Reps.none _ _)))))
            intro v304 w324 ho325 hb hg_ hnew_
            have HS7_ := (hb.cell (World.block_lt_of_cell? _ _ (hHeld.2.2.2.2.2.2.2))).trans (hHeld.2.2.2.2.2.2.2)
            clear hg_ hnew_
            (first | rw [← Ny303.out] at ho325 | (simp only [Int.reduceToNat] at ho325; rw [← Ny303.out] at ho325))
            have n0_ := Ak (Kd.R_elder' (Qc HO1_1.out) (Kd.R_base ho325) hb)
            have n1_ := Ak (Kd.R_elder' (Qc HO1_2.out) (Kd.R_base ho325) hb)
            have n2_ := Ak (Kd.R_lower (Kd.R_new' (Kd.R_new' (Kd.R_newM (M := fun k_ => ((P1_1_ k_ ∨ P1_2_ k_) ∨ w.heap.size ≤ k_)) ho325 (Qo HK.out) (fun k_ h_ => .inr h_)) (Kd.R_lt (Qc HO1_1.out))) (Kd.R_lt (Qc HO1_2.out))) (below_size (Qb HB.out)))
            have n3_ := Ak (Qm BK242.out hb)
            have n4_ := Ak (Qm BK243.out hb)
            have n5_ := Ak (Qm BK244.out hb)
            have n6_ := Ak (Kept.below (S := (fun k_ => P1_1_ k_ ∨ P1_2_ k_)) (Qd HK.out) hb)
            have n7_ := Ak (below_step (Qb HB.out) hb)
            clear HO1_1 HO1_2 BK242 BK243 BK244 HK HB
            have HO1_1 := n0_
            have HO1_2 := n1_
            have HO305 := n2_
            have BK242 := n3_
            have BK243 := n4_
            have BK244 := n5_
            have HK := n6_
            have HB := n7_
            clear n0_ n1_ n2_ n3_ n4_ n5_ n6_ n7_
            clear hb ho325
            obtain ⟨Ao326, co326, eo326⟩ := Kd.R_slice HO305.out
            subst eo326
            obtain ⟨ado326, fo326, _⟩ := Kd.at_int (Kd.R_reads' HO305.out).2.2 0 (by decide) (by rw [Ny303.out]; simp)
            cases fo326
            refine hK.out _ _ ⟨(blk_cell BK242.out 0).trans rfl, (blk_cell BK242.out 1).trans rfl, (blk_cell BK242.out 2).trans rfl, (blk_cell BK242.out 3).trans rfl, (blk_cell BK243.out 0).trans rfl, (blk_cell BK243.out 1).trans rfl, (blk_cell BK243.out 2).trans rfl, HS7_⟩ (fun hHeld => ?_)
            clear hK K
            refine norm_ (a' := ?_) ?_ ?_
            rotate_left
            ·show Act.put _ (some 242) _ = _
             simp only [Act.put, List.setIfInBounds_toArray, List.set_cons_zero, List.set_cons_succ, i64_w, i32_w]
             rfl
            refine Qs 13 (some 249) (fun K hK => ?_)
            refine goes_ Try.func69 (by kernel_rfl) rfl #[.int .i64 (rd l1_1 (ji304))] (by rfl) rfl rfl (by (try simp only [List.map_toArray, List.map_cons, List.map_nil]); first | done | (simp only [hji304]; rfl) | rfl | (simp only [List.length_drop, List.length_take]; rfl)) ?_
            with_reducible refine (spec_SignOf.calls (rd l1_1 (ji304)) t307 _ A307.out).mono ?_
            rintro e w327 ⟨rfl, hb⟩
            have HS7_ := (hb.cell (World.block_lt_of_cell? _ _ (hHeld.2.2.2.2.2.2.2))).trans (hHeld.2.2.2.2.2.2.2)
            refine ⟨_, rfl, ?_⟩
            have n0_ := Ak (Kd.R_below (Qc HO1_1.out) hb)
            have n1_ := Ak (Kd.R_below (Qc HO1_2.out) hb)
            have n2_ := Ak (Kd.R_below (Qc HO305.out) hb)
            have n3_ := Ak (Qm BK242.out hb)
            have n4_ := Ak (Qm BK243.out hb)
            have n5_ := Ak (Qm BK244.out hb)
            have n6_ := Ak (Kept.below (S := (fun k_ => P1_1_ k_ ∨ P1_2_ k_)) (Qd HK.out) hb)
            have n7_ := Ak (below_step (Qb HB.out) hb)
            clear HO1_1 HO1_2 HO305 BK242 BK243 BK244 HK HB
            have HO1_1 := n0_
            have HO1_2 := n1_
            have HO305 := n2_
            have BK242 := n3_
            have BK243 := n4_
            have BK244 := n5_
            have HK := n6_
            have HB := n7_
            clear n0_ n1_ n2_ n3_ n4_ n5_ n6_ n7_
            (try clear hb); (try clear hb2); (try clear hk); (try clear hi)
            refine hK.out _ _ ⟨(blk_cell BK242.out 0).trans rfl, (blk_cell BK242.out 1).trans rfl, (blk_cell BK242.out 2).trans rfl, (blk_cell BK242.out 3).trans rfl, (blk_cell BK243.out 0).trans rfl, (blk_cell BK243.out 1).trans rfl, (blk_cell BK243.out 2).trans rfl, HS7_⟩ (fun hHeld => ?_)
            clear hK K
            refine norm_ (a' := ?_) ?_ ?_
            rotate_left
            ·show Act.put _ (some 249) _ = _
             simp only [Act.put, List.setIfInBounds_toArray, List.set_cons_zero, List.set_cons_succ, i64_w, i32_w]
             rfl
            refine Qq 14 (some 250) ?_
            exact norm_ (by simp only [putAll, Act.put, List.setIfInBounds_toArray, List.set_cons_zero, List.set_cons_succ]) (hCont (.slice (some ado326) y303.length co326, ado326) _ ⟨hHeld, (by refine Qf ?_; exact Kd.R_mono HO1_1.out (fun _ hk => ⟨hk.1.1, ⟨hk.1.2, hk.2⟩⟩)), (by refine Qf ?_; exact Kd.R_mono HO1_2.out (fun _ hk => ⟨hk.1.1, ⟨hk.1.2, hk.2⟩⟩)), (by refine Qf ?_; exact Kd.R_mono HO305.out (fun _ hk => ⟨hk.1.1.1, ⟨hk.1.2, hk.2⟩⟩)), ⟨_, rfl⟩, (Qa BK242.out), (Qa BK243.out), (Qa BK244.out), (Qd HK.out), (Qb HB.out)⟩)
           ·skip
            refine goes_ Try.func69 (by kernel_rfl) rfl #[.int .i64 (rd l1_1 (ji304))] (by rfl) rfl rfl (by (try simp only [List.map_toArray, List.map_cons, List.map_nil]); first | done | (simp only [hji304]; rfl) | rfl | (simp only [List.length_drop, List.length_take]; rfl)) ?_
            with_reducible refine (spec_SignOf.calls (rd l1_1 (ji304)) t307 _ A307.out).mono ?_
            rintro e w324 ⟨rfl, hb⟩
            have HS7_ := (hb.cell (World.block_lt_of_cell? _ _ (hHeld.2.2.2.2.2.2.2))).trans (hHeld.2.2.2.2.2.2.2)
            refine ⟨_, rfl, ?_⟩
            have n0_ := Ak (Kd.R_below (Qc HO1_1.out) hb)
            have n1_ := Ak (Kd.R_below (Qc HO1_2.out) hb)
            have n2_ := Ak (Qm BK242.out hb)
            have n3_ := Ak (Qm BK243.out hb)
            have n4_ := Ak (Qm BK244.out hb)
            have n5_ := Ak (Kept.below (S := (fun k_ => P1_1_ k_ ∨ P1_2_ k_)) (Qd HK.out) hb)
            have n6_ := Ak (below_step (Qb HB.out) hb)
            clear HO1_1 HO1_2 BK242 BK243 BK244 HK HB
            have HO1_1 := n0_
            have HO1_2 := n1_
            have BK242 := n2_
            have BK243 := n3_
            have BK244 := n4_
            have HK := n5_
            have HB := n6_
            clear n0_ n1_ n2_ n3_ n4_ n5_ n6_
            (try clear hb); (try clear hb2); (try clear hk); (try clear hi)
            refine hK.out _ _ ⟨(blk_cell BK242.out 0).trans rfl, (blk_cell BK242.out 1).trans rfl, (blk_cell BK242.out 2).trans rfl, (blk_cell BK242.out 3).trans rfl, (blk_cell BK243.out 0).trans rfl, (blk_cell BK243.out 1).trans rfl, (blk_cell BK243.out 2).trans rfl, HS7_⟩ (fun hHeld => ?_)
            clear hK K
            refine norm_ (a' := ?_) ?_ ?_
            rotate_left
            ·show Act.put _ (some 249) _ = _
             simp only [Act.put, List.setIfInBounds_toArray, List.set_cons_zero, List.set_cons_succ, i64_w, i32_w]
             rfl
            refine Qq 14 (some 250) ?_
            refine Qs 6 (some 242) (fun K hK => ?_)
            refine Kd.R_lit_step (Kd.int .i64) _ 3 ?hg (N := 242) ?hd (xs := ([a0_1, a0_2, a0_3] : List Int)) (inner := [.int .i64 a0_1, .int .i64 a0_2, .int .i64 a0_3]) (ok := fun _ => True) (okp := fun _ => True) ?hr ?hp (fun _ hk => hk) trivial (Below.refl _ _) (Nat.le_refl _) (by simp) ?_; (case hd => rfl); (case hg => rfl); (case hr => first | (go_simp; done) | (go_simp; rfl)); (case hp => exact (Reps.one (show Kd.M (Kd.int .i64) _ _ _ a0_1 [.int .i64 a0_1] from rfl) (Reps.one (show Kd.M (Kd.int .i64) _ _ _ a0_2 [.int .i64 a0_2] from rfl) (Reps.one (show Kd.M (Kd.int .i64) _ _ _ a0_3 [.int .i64 a0_3] from rfl) (Reps.none _ _)))))
            intro v304 w325 ho326 hb hg_ hnew_
            have HS7_ := (hb.cell (World.block_lt_of_cell? _ _ (hHeld.2.2.2.2.2.2.2))).trans (hHeld.2.2.2.2.2.2.2)
            clear hg_ hnew_
            (first | rw [← Ny303.out] at ho326 | (simp only [Int.reduceToNat] at ho326; rw [← Ny303.out] at ho326))
            have n0_ := Ak (Kd.R_elder' (Qc HO1_1.out) (Kd.R_base ho326) hb)
            have n1_ := Ak (Kd.R_elder' (Qc HO1_2.out) (Kd.R_base ho326) hb)
            have n2_ := Ak (Kd.R_lower (Kd.R_new' (Kd.R_new' (Kd.R_newM (M := fun k_ => ((P1_1_ k_ ∨ P1_2_ k_) ∨ w.heap.size ≤ k_)) ho326 (Qo HK.out) (fun k_ h_ => .inr h_)) (Kd.R_lt (Qc HO1_1.out))) (Kd.R_lt (Qc HO1_2.out))) (below_size (Qb HB.out)))
            have n3_ := Ak (Qm BK242.out hb)
            have n4_ := Ak (Qm BK243.out hb)
            have n5_ := Ak (Qm BK244.out hb)
            have n6_ := Ak (Kept.below (S := (fun k_ => P1_1_ k_ ∨ P1_2_ k_)) (Qd HK.out) hb)
            have n7_ := Ak (below_step (Qb HB.out) hb)
            clear HO1_1 HO1_2 BK242 BK243 BK244 HK HB
            have HO1_1 := n0_
            have HO1_2 := n1_
            have HO305 := n2_
            have BK242 := n3_
            have BK243 := n4_
            have BK244 := n5_
            have HK := n6_
            have HB := n7_
            clear n0_ n1_ n2_ n3_ n4_ n5_ n6_ n7_
            clear hb ho326
            obtain ⟨Ao327, co327, eo327⟩ := Kd.R_slice HO305.out
            subst eo327
            obtain ⟨ado327, fo327, _⟩ := Kd.at_int (Kd.R_reads' HO305.out).2.2 0 (by decide) (by rw [Ny303.out]; simp)
            cases fo327
            refine hK.out _ _ ⟨(blk_cell BK242.out 0).trans rfl, (blk_cell BK242.out 1).trans rfl, (blk_cell BK242.out 2).trans rfl, (blk_cell BK242.out 3).trans rfl, (blk_cell BK243.out 0).trans rfl, (blk_cell BK243.out 1).trans rfl, (blk_cell BK243.out 2).trans rfl, HS7_⟩ (fun hHeld => ?_)
            clear hK K
            refine norm_ (a' := ?_) ?_ ?_
            rotate_left
            ·show Act.put _ (some 242) _ = _
             simp only [Act.put, List.setIfInBounds_toArray, List.set_cons_zero, List.set_cons_succ, i64_w, i32_w]
             rfl
            exact norm_ (by simp only [putAll, Act.put, List.setIfInBounds_toArray, List.set_cons_zero, List.set_cons_succ]) (hCont (.slice (some ado327) y303.length co327, ado327) _ ⟨hHeld, (by refine Qf ?_; exact Kd.R_mono HO1_1.out (fun _ hk => ⟨hk.1.1, ⟨hk.1.2, hk.2⟩⟩)), (by refine Qf ?_; exact Kd.R_mono HO1_2.out (fun _ hk => ⟨hk.1.1, ⟨hk.1.2, hk.2⟩⟩)), (by refine Qf ?_; exact Kd.R_mono HO305.out (fun _ hk => ⟨hk.1.1.1, ⟨hk.1.2, hk.2⟩⟩)), ⟨_, rfl⟩, (Qa BK242.out), (Qa BK243.out), (Qa BK244.out), (Qd HK.out), (Qb HB.out)⟩)
          rintro ⟨v304, adz_v304⟩ w328 ⟨hS_, h0_, h1_, h2_, h3_, h4_, h5_, h6_, h7_, h8_⟩
          have n0_ : Aside0 (Kd.R (Kd.int .i64) 3 w328 w0.heap.size (fun k_ => ((P1_1_ k_ ∨ P1_2_ k_) ∨ w.heap.size ≤ k_) ∧ some k_ ≠ (.slice Ao314 l1_2.length co314 : Value).ownBlock ∧ some k_ ≠ (v304 : Value).ownBlock) (.slice (some ad306) l1_1.length co313) l1_1) := ⟨h0_⟩
          have n1_ : Aside0 (Kd.R (Kd.int .i64) 3 w328 w0.heap.size (fun k_ => ((P1_1_ k_ ∨ P1_2_ k_) ∨ w.heap.size ≤ k_) ∧ some k_ ≠ (.slice (some ad306) l1_1.length co313 : Value).ownBlock ∧ some k_ ≠ (v304 : Value).ownBlock) (.slice Ao314 l1_2.length co314) l1_2) := ⟨h1_⟩
          have n2_ : Aside0 (Kd.R (Kd.int .i64) 3 w328 w0.heap.size (fun k_ => ((P1_1_ k_ ∨ P1_2_ k_) ∨ w.heap.size ≤ k_) ∧ some k_ ≠ (.slice (some ad306) l1_1.length co313 : Value).ownBlock ∧ some k_ ≠ (.slice Ao314 l1_2.length co314 : Value).ownBlock) v304 y303) := ⟨h2_⟩
          have n3_ : Aside0 (∃ c_, (v304 : Value) = .slice (some adz_v304) y303.length c_) := ⟨h3_⟩
          have n4_ : Aside0 (w328.heap[gb242]? = some (.cells #[.int .i64 a0_0, .int .i64 a0_1, .int .i64 a0_2, .int .i64 a0_3] 48 (0, 0))) := ⟨h4_⟩
          have n5_ : Aside0 (w328.heap[gb243]? = some (.cells #[.int .i64 (wrap64 (a1_0 + 1)), .slice (some ad306) l1_1.length co313, .slice Ao314 l1_2.length co314] 28 (0, 0))) := ⟨h5_⟩
          have n6_ : Aside0 (w328.heap[gb244]? = some (.cells #[.int .i64 0, .slice none 0 0, .slice none 0 0] 28 (0, 0))) := ⟨h6_⟩
          have n7_ : Aside0 (Kept w w328 (fun k_ => P1_1_ k_ ∨ P1_2_ k_)) := ⟨h7_⟩
          have n8_ : Aside0 (Below w0.heap.size w0 w328) := ⟨h8_⟩
          clear HO1_1 HO1_2 BK242 BK243 BK244 HK HB
          clear h0_ h1_ h2_ h3_ h4_ h5_ h6_ h7_ h8_
          have HO1_1 := n0_
          have HO1_2 := n1_
          have HO305 := n2_
          have HA_HO305 := n3_
          have BK242 := n4_
          have BK243 := n5_
          have BK244 := n6_
          have HK := n7_
          have HB := n8_
          clear n0_ n1_ n2_ n3_ n4_ n5_ n6_ n7_ n8_
          have hHeld : w328.cell? ⟨gb242, 0, none⟩ = some (.int .i64 a0_0) ∧ w328.cell? ⟨gb242, 1, none⟩ = some (.int .i64 a0_1) ∧ w328.cell? ⟨gb242, 2, none⟩ = some (.int .i64 a0_2) ∧ w328.cell? ⟨gb242, 3, none⟩ = some (.int .i64 a0_3) ∧ w328.cell? ⟨gb243, 0, none⟩ = some (.int .i64 (wrap64 (a1_0 + 1))) ∧ w328.cell? ⟨gb243, 1, none⟩ = some (.slice (some ad306) l1_1.length co313) ∧ w328.cell? ⟨gb243, 2, none⟩ = some (.slice Ao314 l1_2.length co314) ∧ w328.cell? (ad306.add ((ji304)).toNat) = some (.int .i64 (rd l1_1 (ji304))) := hS_
          obtain ⟨co329, eo329⟩ := HA_HO305.out
          clear HA_HO305
          subst eo329
          refine norm_ (a' := ?_) ?_ ?_
          rotate_left
          ·simp only [putAll, Act.put, List.setIfInBounds_toArray, List.set_cons_zero, List.set_cons_succ]
           rfl
          refine Qq 15 (some 251) ?_
          refine Qs 16 (some 252) (fun K hK => ?_)
          (have p308 : 0 ≤ ((ji308) : Int) := Qg; have q308 : (ji308) < (y303.length : Int) := Qg; obtain ⟨ad308, e308, hx308_0⟩ := Kd.at_int (Kd.R_reads' HO305.out).2.2 (ji308) p308 q308; obtain rfl : adz_v304 = ad308 := (by injection e308))
          refine value_ (w1 := ?_) (v := ?_) (by rfl) rfl ?_ ?_
          rotate_left 2
          ·go_simp
           constructor
           ·rfl
           ·rfl
          clear hx308_0
          refine hK.out _ _ ⟨(blk_cell BK242.out 0).trans rfl, (blk_cell BK242.out 1).trans rfl, (blk_cell BK242.out 2).trans rfl, (blk_cell BK242.out 3).trans rfl, (blk_cell BK243.out 0).trans rfl, (blk_cell BK243.out 1).trans rfl, (blk_cell BK243.out 2).trans rfl, hHeld.2.2.2.2.2.2.2⟩ (fun hHeld => ?_)
          clear hK K
          refine norm_ (a' := ?_) ?_ ?_
          rotate_left
          ·show Act.put _ (some 252) _ = _
           simp only [Act.put, List.setIfInBounds_toArray, List.set_cons_zero, List.set_cons_succ, i64_w, i32_w]
           rfl
          refine Qq 17 (some 253) ?_
          refine Qt 18 none (fun K hK => ?_)
          have hs330 : w328.cell? ⟨gb243, 0, none⟩ = some (.int .i64 (wrap64 (a1_0 + 1))) := (blk_cell BK243.out 0).trans rfl
          have hfs330 := blk_frozen BK243.out 0
          have hns330_0 := NB242_243.out
          have hns330_2 := NB244_243.out
          have hms330_0 := NB243_242.out
          have hms330_2 := NB243_244.out
          refine skip_ (w1 := ?_) (by rfl) rfl ?_ ?_
          rotate_left
          ·go_simp
           rfl
          refine hK.out _ _ ?_
          clear hK K
          refine done_ (done_of HT_.out (by kernel_rfl)) ?_
          have n0_ : Aside0 (Kd.R (Kd.int .i64) 3 (w328.setCell ⟨gb243, 0, none⟩ (.int .i64 (rd y303 (ji308)))) w0.heap.size (fun k_ => ((P1_1_ k_ ∨ P1_2_ k_) ∨ w.heap.size ≤ k_) ∧ some k_ ≠ (.slice Ao314 l1_2.length co314 : Value).ownBlock ∧ some k_ ≠ (.slice (some adz_v304) y303.length co329 : Value).ownBlock) (.slice (some ad306) l1_1.length co313) l1_1) := ⟨by refine Qf ?_; exact Kd.R_mono (Kd.R_far (p := ⟨gb243, 0, none⟩) (Kd.R_types HO1_1.out BK243.out (by decide)) (fun _ hk => hk.2) (.int .i64 (rd y303 (ji308)))) (fun _ hk => ⟨hk.1.1, ⟨hk.1.2.1, hk.1.2.2⟩⟩)⟩
          have n1_ : Aside0 (Kd.R (Kd.int .i64) 3 (w328.setCell ⟨gb243, 0, none⟩ (.int .i64 (rd y303 (ji308)))) w0.heap.size (fun k_ => ((P1_1_ k_ ∨ P1_2_ k_) ∨ w.heap.size ≤ k_) ∧ some k_ ≠ (.slice (some ad306) l1_1.length co313 : Value).ownBlock ∧ some k_ ≠ (.slice (some adz_v304) y303.length co329 : Value).ownBlock) (.slice Ao314 l1_2.length co314) l1_2) := ⟨by refine Qf ?_; exact Kd.R_mono (Kd.R_far (p := ⟨gb243, 0, none⟩) (Kd.R_types HO1_2.out BK243.out (by decide)) (fun _ hk => hk.2) (.int .i64 (rd y303 (ji308)))) (fun _ hk => ⟨hk.1.1, ⟨hk.1.2.1, hk.1.2.2⟩⟩)⟩
          have n2_ : Aside0 (Kd.R (Kd.int .i64) 3 (w328.setCell ⟨gb243, 0, none⟩ (.int .i64 (rd y303 (ji308)))) w0.heap.size (fun k_ => ((P1_1_ k_ ∨ P1_2_ k_) ∨ w.heap.size ≤ k_) ∧ some k_ ≠ (.slice (some ad306) l1_1.length co313 : Value).ownBlock ∧ some k_ ≠ (.slice Ao314 l1_2.length co314 : Value).ownBlock) (.slice (some adz_v304) y303.length co329) y303) := ⟨by refine Qf ?_; exact Kd.R_mono (Kd.R_far (p := ⟨gb243, 0, none⟩) (Kd.R_types HO305.out BK243.out (by decide)) (fun _ hk => hk.2) (.int .i64 (rd y303 (ji308)))) (fun _ hk => ⟨hk.1.1, ⟨hk.1.2.1, hk.1.2.2⟩⟩)⟩
          have n3_ : Aside0 ((w328.setCell ⟨gb243, 0, none⟩ (.int .i64 (rd y303 (ji308)))).heap[gb242]? = some (.cells #[.int .i64 a0_0, .int .i64 a0_1, .int .i64 a0_2, .int .i64 a0_3] 48 (0, 0))) := ⟨by refine Qe ?_; refine blk_far ?_ NB242_243.out _; refine Qe ?_; exact BK242.out⟩
          have n4_ : Aside0 ((w328.setCell ⟨gb243, 0, none⟩ (.int .i64 (rd y303 (ji308)))).heap[gb243]? = some (.cells #[.int .i64 (rd y303 (ji308)), .slice (some ad306) l1_1.length co313, .slice Ao314 l1_2.length co314] 28 (0, 0))) := ⟨by refine Qe ?_; refine blk_put (cs := #[.int .i64 (wrap64 (a1_0 + 1)), .slice (some ad306) l1_1.length co313, .slice Ao314 l1_2.length co314]) ?_ 0 _ rfl; refine Qe ?_; exact BK243.out⟩
          have n5_ : Aside0 ((w328.setCell ⟨gb243, 0, none⟩ (.int .i64 (rd y303 (ji308)))).heap[gb244]? = some (.cells #[.int .i64 0, .slice none 0 0, .slice none 0 0] 28 (0, 0))) := ⟨by refine Qe ?_; refine blk_far ?_ NB244_243.out _; refine Qe ?_; exact BK244.out⟩
          have n6_ : Aside0 (Kept w (w328.setCell ⟨gb243, 0, none⟩ (.int .i64 (rd y303 (ji308)))) (fun k_ => P1_1_ k_ ∨ P1_2_ k_)) := ⟨Qd HK.out⟩
          have n7_ : Aside0 (Below w0.heap.size w0 (w328.setCell ⟨gb243, 0, none⟩ (.int .i64 (rd y303 (ji308))))) := ⟨Qb HB.out⟩
          (try clear HO1_1); (try clear HO1_2); (try clear HO305); (try clear BK242); (try clear BK243); (try clear BK244); (try clear HK); (try clear HB)
          generalize (w328.setCell ⟨gb243, 0, none⟩ (.int .i64 (rd y303 (ji308)))) = w331 at n0_ n1_ n2_ n3_ n4_ n5_ n6_ n7_ ⊢
          have HO1_1 := n0_
          have HO1_2 := n1_
          have HO305 := n2_
          have BK242 := n3_
          have BK243 := n4_
          have BK244 := n5_
          have HK := n6_
          have HB := n7_
          clear n0_ n1_ n2_ n3_ n4_ n5_ n6_ n7_
          obtain ⟨hcz332_0, hcz332_1, hcz332_2, hfz332_0, hfz332_1, hfz332_2⟩ := Qv3 BK243.out
          have q333 : ((ji304) : Int) ≤ ((l1_1.length : Int) : Int) := Qg
          obtain ⟨i0333, hi0333, _, hsz333, _⟩ := info_parts info3
          have hcut333 := cut_to (P := Try.prog) 23 3 .i64 Try.underlying23 hi0333 (some ad306) l1_1.length co313 (ji304) (Qg) q333 (Kd.R_reads' HO1_1.out).2.1
          have hr333 := Kd.R_take (m := ((ji304) : Int).toNat) HO1_1.out (by omega)
          have hy333 : y309.length = ((ji304) : Int).toNat := (by rw [Ny309.out, List.length_take]; omega)
          rw [← Ny309.out] at hr333
          rw [← hy333] at hr333 hcut333
          clear hy333 hi0333 hsz333
          have HO311 := Ak hr333
          clear hr333
          replace q333 := eq_true q333
          obtain ⟨hcz334_0, hcz334_1, hcz334_2, hfz334_0, hfz334_1, hfz334_2⟩ := Qv3 BK244.out
          try go_wp2
          refine bodyPost_ret (results_cell_row rfl _ _ gb244 28 #[.int .i64 (rd y303 (ji308)), .slice (some ad306) y309.length co313, .slice Ao314 l1_2.length co314] (0, 0) _ rfl (by refine Qe ?_; refine blk_put (cs := #[.int .i64 (rd y303 (ji308)), .slice (some ad306) y309.length co313, .slice none 0 0]) ?_ 2 _ rfl; refine Qe ?_; refine blk_put (cs := #[.int .i64 (rd y303 (ji308)), .slice none 0 0, .slice none 0 0]) ?_ 1 _ rfl; refine Qe ?_; refine blk_put (cs := #[.int .i64 0, .slice none 0 0, .slice none 0 0]) ?_ 0 _ rfl; refine Qe ?_; refine blk_far ?_ NB244_243.out _; exact Qa BK244.out) Try.underlying28 rfl (by kernel_rfl)) rfl ?_
          exact ⟨_, _, by first | rfl | (simp [errW_none, errW_some] <;> rfl) | (simp only [← hji304, ← hji308]; first | rfl | (simp [errW_none, errW_some] <;> rfl)) | (simp [*, errW_none, errW_some] <;> rfl), by refine Qf ?_; exact Kd.R_mono (Kd.R_far (p := ⟨gb244, 2, none⟩) (Kd.R_far (p := ⟨gb244, 1, none⟩) (Kd.R_far (p := ⟨gb244, 0, none⟩) (Kd.R_far (p := ⟨gb243, 1, none⟩) (Kd.R_types (Kd.R_types HO311.out BK243.out (by decide)) BK244.out (by decide)) (fun _ hk => hk.1.2) (.slice (some ad306) y309.length co313)) (fun _ hk => hk.2) (.int .i64 (rd y303 (ji308)))) (fun _ hk => hk.2) (.slice (some ad306) y309.length co313)) (fun _ hk => hk.2) (.slice Ao314 l1_2.length co314)) (fun _ hk => ⟨hk.1.1.1, hk.1.1.2.1⟩), by refine Qf ?_; exact Kd.R_mono (Kd.R_far (p := ⟨gb244, 2, none⟩) (Kd.R_far (p := ⟨gb244, 1, none⟩) (Kd.R_far (p := ⟨gb244, 0, none⟩) (Kd.R_far (p := ⟨gb243, 1, none⟩) (Kd.R_types (Kd.R_types HO1_2.out BK243.out (by decide)) BK244.out (by decide)) (fun _ hk => hk.1.2) (.slice (some ad306) y309.length co313)) (fun _ hk => hk.2) (.int .i64 (rd y303 (ji308)))) (fun _ hk => hk.2) (.slice (some ad306) y309.length co313)) (fun _ hk => hk.2) (.slice Ao314 l1_2.length co314)) (fun _ hk => ⟨hk.1.1.1, hk.1.1.2.1⟩), Qb HB.out, Qd HK.out⟩
         ·rw [if_neg c311] at H
          exact absurd H (by simp)
        ·rw [if_neg c310] at H
         exact absurd H (by simp)
       ·rw [if_neg c309] at H
        exact absurd H (by simp)
      ·rw [if_neg c306] at H
       exact absurd H (by simp)
     ·rw [if_neg c305] at H
      exact absurd H (by simp)
    ·rw [if_neg c303] at H
     have c303b0 : (a0_0 == 14) = false := beq_eq_false_iff_ne.mpr c303
     have c303b1 : (a0_0 != 14) = true := bne_iff_ne.mpr c303
     simp only [Option.some.injEq, Prod.mk.injEq] at H
     obtain ⟨rfl, rfl, rfl⟩ := H
     go_enter Try.func38, Try.ntmps38
     go_wp2_with (first | ((with_reducible refine gate_dst (N := 2) rfl ?_); refine Qk 2 #[.int .i64 a0_0, .int .i64 a0_1, .int .i64 a0_2, .int .i64 a0_3] 48 ?_; intro gb242 hg w335 hbox hb; have n0_ := Ak (Kd.R_below (Qc HO1_1.out) hb); have n1_ := Ak (Kd.R_below (Qc HO1_2.out) hb); have n2_ := Ak (Kept.below (S := (fun k_ => P1_1_ k_ ∨ P1_2_ k_)) (Qd HK.out) hb); have n3_ := Ak (below_step (Qb HB.out) hb); have n4_ := Ak (hbox); have n5_ := Ak ((by rw [hg]; exact (Qo HK.out) : w.heap.size ≤ gb242)); have n6_ := Ak ((Qp hg HB.out : w0.heap.size ≤ gb242)); clear HO1_1 HO1_2 HK HB; have HO1_1 := n0_; have HO1_2 := n1_; have HK := n2_; have HB := n3_; have BK242 := n4_; have GW242 := n5_; have GE242 := n6_; clear n0_ n1_ n2_ n3_ n4_ n5_ n6_; clear hb hbox hg; obtain ⟨Ao336, co336, eo336⟩ := Kd.R_slice HO1_1.out; subst eo336; obtain ⟨Ao337, co337, eo337⟩ := Kd.R_slice HO1_2.out; subst eo337) | ((with_reducible refine gate_dst (N := 3) rfl ?_); refine Qk 3 #[.int .i64 a1_0, .slice Ao336 l1_1.length co336, .slice Ao337 l1_2.length co337] 28 ?_; intro gb243 hg w338 hbox hb; have n0_ := Ak (Kd.R_below (Qc HO1_1.out) hb); have n1_ := Ak (Kd.R_below (Qc HO1_2.out) hb); have n2_ := Ak (Qm BK242.out hb); have n3_ := Ak (Kept.below (S := (fun k_ => P1_1_ k_ ∨ P1_2_ k_)) (Qd HK.out) hb); have n4_ := Ak (below_step (Qb HB.out) hb); have n5_ := Ak (hbox); have n6_ := Ak ((by rw [hg]; exact (Qo HK.out) : w.heap.size ≤ gb243)); have n7_ := Ak ((Qp hg HB.out : w0.heap.size ≤ gb243)); have n8_ := Ak ((by rw [hg]; exact Nat.ne_of_lt (Qn BK242.out) : gb242 ≠ gb243)); have n9_ := Ak ((by rw [hg]; exact Nat.ne_of_gt (Qn BK242.out) : gb243 ≠ gb242)); clear HO1_1 HO1_2 BK242 HK HB; have HO1_1 := n0_; have HO1_2 := n1_; have BK242 := n2_; have HK := n3_; have HB := n4_; have BK243 := n5_; have GW243 := n6_; have GE243 := n7_; have NB242_243 := n8_; have NB243_242 := n9_; clear n0_ n1_ n2_ n3_ n4_ n5_ n6_ n7_ n8_ n9_; clear hb hbox hg) | ((with_reducible refine gate_dst (N := 4) rfl ?_); refine Qk 4 #[.int .i64 0, .slice none 0 0, .slice none 0 0] 28 ?_; intro gb244 hg w339 hbox hb; have n0_ := Ak (Kd.R_below (Qc HO1_1.out) hb); have n1_ := Ak (Kd.R_below (Qc HO1_2.out) hb); have n2_ := Ak (Qm BK242.out hb); have n3_ := Ak (Qm BK243.out hb); have n4_ := Ak (Kept.below (S := (fun k_ => P1_1_ k_ ∨ P1_2_ k_)) (Qd HK.out) hb); have n5_ := Ak (below_step (Qb HB.out) hb); have n6_ := Ak (hbox); have n7_ := Ak ((by rw [hg]; exact (Qo HK.out) : w.heap.size ≤ gb244)); have n8_ := Ak ((Qp hg HB.out : w0.heap.size ≤ gb244)); have n9_ := Ak ((by rw [hg]; exact Nat.ne_of_lt (Qn BK242.out) : gb242 ≠ gb244)); have n10_ := Ak ((by rw [hg]; exact Nat.ne_of_gt (Qn BK242.out) : gb244 ≠ gb242)); have n11_ := Ak ((by rw [hg]; exact Nat.ne_of_lt (Qn BK243.out) : gb243 ≠ gb244)); have n12_ := Ak ((by rw [hg]; exact Nat.ne_of_gt (Qn BK243.out) : gb244 ≠ gb243)); clear HO1_1 HO1_2 BK242 BK243 HK HB; have HO1_1 := n0_; have HO1_2 := n1_; have BK242 := n2_; have BK243 := n3_; have HK := n4_; have HB := n5_; have BK244 := n6_; have GW244 := n7_; have GE244 := n8_; have NB242_244 := n9_; have NB244_242 := n10_; have NB243_244 := n11_; have NB244_243 := n12_; clear n0_ n1_ n2_ n3_ n4_ n5_ n6_ n7_ n8_ n9_ n10_ n11_ n12_; clear hb hbox hg; have hnb340 := NB243_242.out; have hnc340 := NB242_243.out; have hnb341 := NB243_244.out; have hnc341 := NB244_243.out; obtain ⟨hcz342_0, hcz342_1, hcz342_2, hfz342_0, hfz342_1, hfz342_2⟩ := Qv3 BK243.out; have hnb343 := NB242_244.out; have hnc343 := NB244_242.out; obtain ⟨hcz344_0, hcz344_1, hcz344_2, hcz344_3, hfz344_0, hfz344_1, hfz344_2, hfz344_3⟩ := Qv4 BK242.out; obtain ⟨hcz345_0, hcz345_1, hcz345_2⟩ := Qu3 BK244.out; have hfz345_0 := blk_frozen BK244.out 0; have hfz345_1 := blk_frozen BK244.out 1; have hfz345_2 := blk_frozen BK244.out 2))
     refine bodyPost_ret (results_cell_row rfl _ _ gb244 28 #[.int .i64 (wrap64 (a1_0 + 1)), .slice Ao336 l1_1.length co336, .slice Ao337 l1_2.length co337] (0, 0) _ rfl (by refine Qe ?_; refine blk_put (cs := #[.int .i64 (wrap64 (a1_0 + 1)), .slice Ao336 l1_1.length co336, .slice none 0 0]) ?_ 2 _ rfl; refine Qe ?_; refine blk_put (cs := #[.int .i64 (wrap64 (a1_0 + 1)), .slice none 0 0, .slice none 0 0]) ?_ 1 _ rfl; refine Qe ?_; refine blk_put (cs := #[.int .i64 0, .slice none 0 0, .slice none 0 0]) ?_ 0 _ rfl; refine Qe ?_; refine blk_far ?_ NB244_243.out _; exact Qa BK244.out) Try.underlying28 rfl (by kernel_rfl)) rfl ?_
     exact ⟨_, _, Qh, by refine Qf ?_; exact Kd.R_mono (Kd.R_far (p := ⟨gb244, 2, none⟩) (Kd.R_far (p := ⟨gb244, 1, none⟩) (Kd.R_far (p := ⟨gb244, 0, none⟩) (Kd.R_far (p := ⟨gb243, 0, none⟩) (Kd.R_types (Kd.R_types HO1_1.out BK243.out (by decide)) BK244.out (by decide)) (fun _ hk => hk.1.2) (.int .i64 (wrap64 (a1_0 + 1)))) (fun _ hk => hk.2) (.int .i64 (wrap64 (a1_0 + 1)))) (fun _ hk => hk.2) (.slice Ao336 l1_1.length co336)) (fun _ hk => hk.2) (.slice Ao337 l1_2.length co337)) (fun _ hk => by first | exact ⟨hk.1.1.1, hk.1.1.2⟩ | exact ⟨hk.1.1.1, fun e_ => hk.1.1.2 (e_.trans (ownlen_ _ _ _ _ _))⟩), by refine Qf ?_; exact Kd.R_mono (Kd.R_far (p := ⟨gb244, 2, none⟩) (Kd.R_far (p := ⟨gb244, 1, none⟩) (Kd.R_far (p := ⟨gb244, 0, none⟩) (Kd.R_far (p := ⟨gb243, 0, none⟩) (Kd.R_types (Kd.R_types HO1_2.out BK243.out (by decide)) BK244.out (by decide)) (fun _ hk => hk.1.2) (.int .i64 (wrap64 (a1_0 + 1)))) (fun _ hk => hk.2) (.int .i64 (wrap64 (a1_0 + 1)))) (fun _ hk => hk.2) (.slice Ao336 l1_1.length co336)) (fun _ hk => hk.2) (.slice Ao337 l1_2.length co337)) (fun _ hk => by first | exact ⟨hk.1.1.1, hk.1.1.2⟩ | exact ⟨hk.1.1.1, fun e_ => hk.1.1.2 (e_.trans (ownlen_ _ _ _ _ _))⟩), Qb HB.out, Qd HK.out⟩
end Go.Proofs.Ytlmiankjbffboaa.HFnExactRunMachine

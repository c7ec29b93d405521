/- Text for FnBranched: written by a program of this session on the pattern of the kit's print. -/
import Derived.Test.YtlmiankjbffboaaHFnBranchedx0
import Derived.Test.YtlmiankjbffboaaHFnBranchedx1
namespace Go.Proofs.Ytlmiankjbffboaa.HFnBranched
set_option maxHeartbeats 8000000
set_option maxRecDepth 100000
open Go.RowKit Go.Proofs.YtlmiankjbffboaaW.PrintWords Go.Proofs.YtlmiankjbffboaaW.PrintLast Go.Proofs.YtlmiankjbffboaaW.PrintMore
attribute [local go_sem] max2_int min2_int max_two min_two max_three min_three max_four min_four
set_option linter.unusedVariables false
set_option linter.unusedSimpArgs false

/-! ### impl_divided: function 54 -/
def impl_divided.f (a0 : Int) (a1 : Int) : Option (Int × Int) := (impl_size.f a1).bind fun t116 => (if t116 = 0 then (none) else ((impl_size.f a1).bind fun t117 => (if (wrap64 (2 * (Int.tmod a0 t116))) > t117 then ((impl_size.f a1).bind fun t118 => (if a1 = 0 then (none) else (some (wrap64 (Int.tdiv (wrap64 (a0 - (wrap64 ((Int.tmod a0 t116) - t118)))) a1), wrap64 ((Int.tmod a0 t116) - t118))))) else ((impl_size.f a1).bind fun t119 => (if (wrap64 (2 * (Int.tmod a0 t116))) ≤ (wrap64 (-t119)) then ((impl_size.f a1).bind fun t120 => (if a1 = 0 then (none) else (some (wrap64 (Int.tdiv (wrap64 (a0 - (wrap64 ((Int.tmod a0 t116) + t120)))) a1), wrap64 ((Int.tmod a0 t116) + t120))))) else (if a1 = 0 then (none) else (some (wrap64 (Int.tdiv (wrap64 (a0 - (Int.tmod a0 t116))) a1), Int.tmod a0 t116))))))))
theorem impl_divided.calls (a0 : Int) (a1 : Int) (r1 : Int) (r2 : Int) (w : World) (h : impl_divided.f a0 a1 = some (r1, r2)) :
  Calls Try.prog 54 #[.int .i64 a0, .int .i64 a1] w fun e w' => e = .returned (.tuple #[.int .i64 r1, .int .i64 r2]) ∧ Below w.heap.size w w' := by
 have HB := Ak (Below.refl w.heap.size w)
 have H : ((impl_size.f a1).bind fun t116 => (if t116 = 0 then (none) else ((impl_size.f a1).bind fun t117 => (if (wrap64 (2 * (Int.tmod a0 t116))) > t117 then ((impl_size.f a1).bind fun t118 => (if a1 = 0 then (none) else (some (wrap64 (Int.tdiv (wrap64 (a0 - (wrap64 ((Int.tmod a0 t116) - t118)))) a1), wrap64 ((Int.tmod a0 t116) - t118))))) else ((impl_size.f a1).bind fun t119 => (if (wrap64 (2 * (Int.tmod a0 t116))) ≤ (wrap64 (-t119)) then ((impl_size.f a1).bind fun t120 => (if a1 = 0 then (none) else (some (wrap64 (Int.tdiv (wrap64 (a0 - (wrap64 ((Int.tmod a0 t116) + t120)))) a1), wrap64 ((Int.tmod a0 t116) + t120))))) else (if a1 = 0 then (none) else (some (wrap64 (Int.tdiv (wrap64 (a0 - (Int.tmod a0 t116))) a1), Int.tmod a0 t116))))))))) = some (r1, r2) := h
 clear h
 replace H := Option.bind_eq_some_iff.mp H
 obtain ⟨t116, A30, H⟩ := H
 replace H : (if t116 = 0 then (none) else ((impl_size.f a1).bind fun t117 => (if (wrap64 (2 * (Int.tmod a0 t116))) > t117 then ((impl_size.f a1).bind fun t118 => (if a1 = 0 then (none) else (some (wrap64 (Int.tdiv (wrap64 (a0 - (wrap64 ((Int.tmod a0 t116) - t118)))) a1), wrap64 ((Int.tmod a0 t116) - t118))))) else ((impl_size.f a1).bind fun t119 => (if (wrap64 (2 * (Int.tmod a0 t116))) ≤ (wrap64 (-t119)) then ((impl_size.f a1).bind fun t120 => (if a1 = 0 then (none) else (some (wrap64 (Int.tdiv (wrap64 (a0 - (wrap64 ((Int.tmod a0 t116) + t120)))) a1), wrap64 ((Int.tmod a0 t116) + t120))))) else (if a1 = 0 then (none) else (some (wrap64 (Int.tdiv (wrap64 (a0 - (Int.tmod a0 t116))) a1), Int.tmod a0 t116)))))))) = some (r1, r2) := H
 have A3 := Ak A30
 clear A30
 by_cases c4 : t116 = 0
 ·rw [if_pos c4] at H
  exact absurd H (by simp)
 ·rw [if_neg c4] at H
  have c4b0 : (t116 == 0) = false := beq_eq_false_iff_ne.mpr c4
  have c4b1 : (t116 != 0) = true := bne_iff_ne.mpr c4
  replace H := Option.bind_eq_some_iff.mp H
  obtain ⟨t117, A50, H⟩ := H
  replace H : (if (wrap64 (2 * (Int.tmod a0 t116))) > t117 then ((impl_size.f a1).bind fun t118 => (if a1 = 0 then (none) else (some (wrap64 (Int.tdiv (wrap64 (a0 - (wrap64 ((Int.tmod a0 t116) - t118)))) a1), wrap64 ((Int.tmod a0 t116) - t118))))) else ((impl_size.f a1).bind fun t119 => (if (wrap64 (2 * (Int.tmod a0 t116))) ≤ (wrap64 (-t119)) then ((impl_size.f a1).bind fun t120 => (if a1 = 0 then (none) else (some (wrap64 (Int.tdiv (wrap64 (a0 - (wrap64 ((Int.tmod a0 t116) + t120)))) a1), wrap64 ((Int.tmod a0 t116) + t120))))) else (if a1 = 0 then (none) else (some (wrap64 (Int.tdiv (wrap64 (a0 - (Int.tmod a0 t116))) a1), Int.tmod a0 t116)))))) = some (r1, r2) := H
  have A5 := Ak A50
  clear A50
  by_cases c6 : (wrap64 (2 * (Int.tmod a0 t116))) > t117
  ·rw [if_pos c6] at H
   have c6b0 : decide (t117 < (wrap64 (2 * (Int.tmod a0 t116)))) = true := decide_eq_true c6
   clear c6
   replace H := Option.bind_eq_some_iff.mp H
   obtain ⟨t118, A70, H⟩ := H
   replace H : (if a1 = 0 then (none) else (some (wrap64 (Int.tdiv (wrap64 (a0 - (wrap64 ((Int.tmod a0 t116) - t118)))) a1), wrap64 ((Int.tmod a0 t116) - t118)))) = some (r1, r2) := H
   have A7 := Ak A70
   clear A70
   by_cases c8 : a1 = 0
   ·rw [if_pos c8] at H
    exact absurd H (by simp)
   ·rw [if_neg c8] at H
    have c8b0 : (a1 == 0) = false := beq_eq_false_iff_ne.mpr c8
    have c8b1 : (a1 != 0) = true := bne_iff_ne.mpr c8
    simp only [Option.some.injEq, Prod.mk.injEq] at H
    obtain ⟨rfl, rfl⟩ := H
    go_enter Try.func54, Try.ntmps54
    go_wp2_with (first | ((with_reducible refine gate_callee (f := 74) rfl ?_); refine Qj (some 9) Try.func74 #[.int .i64 a1] ?_; (with_reducible refine (impl_size.calls a1 t116 _ A3.out).mono ?_); rintro e w9 ⟨rfl, hb⟩; refine ⟨_, rfl, ?_⟩; have n0_ := Ak (below_step (Qb HB.out) hb); clear HB; have HB := n0_; clear n0_; (try clear hb); (try clear hb2); (try clear hk); (try clear hi)) | ((with_reducible refine gate_callee (f := 74) rfl ?_); refine Qj (some 15) Try.func74 #[.int .i64 a1] ?_; (with_reducible refine (impl_size.calls a1 t117 _ A5.out).mono ?_); rintro e w10 ⟨rfl, hb⟩; refine ⟨_, rfl, ?_⟩; have n0_ := Ak (below_step (Qb HB.out) hb); clear HB; have HB := n0_; clear n0_; (try clear hb); (try clear hb2); (try clear hk); (try clear hi)) | ((with_reducible refine gate_callee (f := 74) rfl ?_); refine Qj (some 19) Try.func74 #[.int .i64 a1] ?_; (with_reducible refine (impl_size.calls a1 t118 _ A7.out).mono ?_); rintro e w11 ⟨rfl, hb⟩; refine ⟨_, rfl, ?_⟩; have n0_ := Ak (below_step (Qb HB.out) hb); clear HB; have HB := n0_; clear n0_; (try clear hb); (try clear hb2); (try clear hk); (try clear hi)))
    go_ret2
    exact ⟨Qh, Qb HB.out⟩
  ·rw [if_neg c6] at H
   have c6b0 : decide (t117 < (wrap64 (2 * (Int.tmod a0 t116)))) = false := decide_eq_false c6
   clear c6
   replace H := Option.bind_eq_some_iff.mp H
   obtain ⟨t119, A120, H⟩ := H
   replace H : (if (wrap64 (2 * (Int.tmod a0 t116))) ≤ (wrap64 (-t119)) then ((impl_size.f a1).bind fun t120 => (if a1 = 0 then (none) else (some (wrap64 (Int.tdiv (wrap64 (a0 - (wrap64 ((Int.tmod a0 t116) + t120)))) a1), wrap64 ((Int.tmod a0 t116) + t120))))) else (if a1 = 0 then (none) else (some (wrap64 (Int.tdiv (wrap64 (a0 - (Int.tmod a0 t116))) a1), Int.tmod a0 t116)))) = some (r1, r2) := H
   have A12 := Ak A120
   clear A120
   by_cases c13 : (wrap64 (2 * (Int.tmod a0 t116))) ≤ (wrap64 (-t119))
   ·rw [if_pos c13] at H
    have c13b0 : decide ((wrap64 (2 * (Int.tmod a0 t116))) ≤ (wrap64 (-t119))) = true := decide_eq_true c13
    clear c13
    replace H := Option.bind_eq_some_iff.mp H
    obtain ⟨t120, A140, H⟩ := H
    replace H : (if a1 = 0 then (none) else (some (wrap64 (Int.tdiv (wrap64 (a0 - (wrap64 ((Int.tmod a0 t116) + t120)))) a1), wrap64 ((Int.tmod a0 t116) + t120)))) = some (r1, r2) := H
    have A14 := Ak A140
    clear A140
    by_cases c15 : a1 = 0
    ·rw [if_pos c15] at H
     exact absurd H (by simp)
    ·rw [if_neg c15] at H
     have c15b0 : (a1 == 0) = false := beq_eq_false_iff_ne.mpr c15
     have c15b1 : (a1 != 0) = true := bne_iff_ne.mpr c15
     simp only [Option.some.injEq, Prod.mk.injEq] at H
     obtain ⟨rfl, rfl⟩ := H
     go_enter Try.func54, Try.ntmps54
     go_wp2_with (first | ((with_reducible refine gate_callee (f := 74) rfl ?_); refine Qj (some 9) Try.func74 #[.int .i64 a1] ?_; (with_reducible refine (impl_size.calls a1 t116 _ A3.out).mono ?_); rintro e w16 ⟨rfl, hb⟩; refine ⟨_, rfl, ?_⟩; have n0_ := Ak (below_step (Qb HB.out) hb); clear HB; have HB := n0_; clear n0_; (try clear hb); (try clear hb2); (try clear hk); (try clear hi)) | ((with_reducible refine gate_callee (f := 74) rfl ?_); refine Qj (some 15) Try.func74 #[.int .i64 a1] ?_; (with_reducible refine (impl_size.calls a1 t117 _ A5.out).mono ?_); rintro e w17 ⟨rfl, hb⟩; refine ⟨_, rfl, ?_⟩; have n0_ := Ak (below_step (Qb HB.out) hb); clear HB; have HB := n0_; clear n0_; (try clear hb); (try clear hb2); (try clear hk); (try clear hi)) | ((with_reducible refine gate_callee (f := 74) rfl ?_); refine Qj (some 25) Try.func74 #[.int .i64 a1] ?_; (with_reducible refine (impl_size.calls a1 t119 _ A12.out).mono ?_); rintro e w18 ⟨rfl, hb⟩; refine ⟨_, rfl, ?_⟩; have n0_ := Ak (below_step (Qb HB.out) hb); clear HB; have HB := n0_; clear n0_; (try clear hb); (try clear hb2); (try clear hk); (try clear hi)) | ((with_reducible refine gate_callee (f := 74) rfl ?_); refine Qj (some 30) Try.func74 #[.int .i64 a1] ?_; (with_reducible refine (impl_size.calls a1 t120 _ A14.out).mono ?_); rintro e w19 ⟨rfl, hb⟩; refine ⟨_, rfl, ?_⟩; have n0_ := Ak (below_step (Qb HB.out) hb); clear HB; have HB := n0_; clear n0_; (try clear hb); (try clear hb2); (try clear hk); (try clear hi)))
     go_ret2
     exact ⟨Qh, Qb HB.out⟩
   ·rw [if_neg c13] at H
    have c13b0 : decide ((wrap64 (2 * (Int.tmod a0 t116))) ≤ (wrap64 (-t119))) = false := decide_eq_false c13
    clear c13
    by_cases c20 : a1 = 0
    ·rw [if_pos c20] at H
     exact absurd H (by simp)
    ·rw [if_neg c20] at H
     have c20b0 : (a1 == 0) = false := beq_eq_false_iff_ne.mpr c20
     have c20b1 : (a1 != 0) = true := bne_iff_ne.mpr c20
     simp only [Option.some.injEq, Prod.mk.injEq] at H
     obtain ⟨rfl, rfl⟩ := H
     go_enter Try.func54, Try.ntmps54
     go_wp2_with (first | ((with_reducible refine gate_callee (f := 74) rfl ?_); refine Qj (some 9) Try.func74 #[.int .i64 a1] ?_; (with_reducible refine (impl_size.calls a1 t116 _ A3.out).mono ?_); rintro e w21 ⟨rfl, hb⟩; refine ⟨_, rfl, ?_⟩; have n0_ := Ak (below_step (Qb HB.out) hb); clear HB; have HB := n0_; clear n0_; (try clear hb); (try clear hb2); (try clear hk); (try clear hi)) | ((with_reducible refine gate_callee (f := 74) rfl ?_); refine Qj (some 15) Try.func74 #[.int .i64 a1] ?_; (with_reducible refine (impl_size.calls a1 t117 _ A5.out).mono ?_); rintro e w22 ⟨rfl, hb⟩; refine ⟨_, rfl, ?_⟩; have n0_ := Ak (below_step (Qb HB.out) hb); clear HB; have HB := n0_; clear n0_; (try clear hb); (try clear hb2); (try clear hk); (try clear hi)) | ((with_reducible refine gate_callee (f := 74) rfl ?_); refine Qj (some 25) Try.func74 #[.int .i64 a1] ?_; (with_reducible refine (impl_size.calls a1 t119 _ A12.out).mono ?_); rintro e w23 ⟨rfl, hb⟩; refine ⟨_, rfl, ?_⟩; have n0_ := Ak (below_step (Qb HB.out) hb); clear HB; have HB := n0_; clear n0_; (try clear hb); (try clear hb2); (try clear hk); (try clear hi)))
     go_ret2
     exact ⟨Qh, Qb HB.out⟩

/-! ### impl_WrapCell: function 27 -/
def impl_WrapCell.f (k : Nat) (a0 : Int) : Option (Int) := (impl_power.f k 9).bind fun t121 => (if t121 = 0 then (none) else ((impl_power.f k 9).bind fun t122 => ((impl_divided.f (Int.tmod a0 t121) t122).bind fun bt123 => (some bt123.2))))
theorem impl_WrapCell.mono : ∀ a0 k, LeO (impl_WrapCell.f k a0) (impl_WrapCell.f (k + 1) a0) := by
 intro a0 k
 unfold impl_WrapCell.f
 repeat' first
   | (with_reducible exact impl_power.mono _ _)
   | (with_reducible exact LeO.refl _)
   | (with_reducible exact LeO.none _)
   | (with_reducible refine LeO.ite ?_ ?_)
   | (with_reducible refine LeO.bind ?_ (fun _ => ?_))
   | exact impl_power.mono _ _
   | exact LeO.none _
   | refine LeO.ite ?_ ?_
   | refine LeO.bind ?_ (fun _ => ?_)
def impl_WrapCell.T1 : Bool × List (List Nat × List Nat) := (true, [([], []), ([], []), ([0, 1], [0, 1]), ([1], []), ([2, 3, 3], [2, 3]), ([4], [4]), ([5], [5]), ([5], [5]), ([6, 4, 0, 1, 2, 3, 4, 5, 6], [6]), ([7, 8, 0, 1, 2, 3, 4, 5, 6, 7, 8], [7])])
def impl_WrapCell.B1 : List Nat := [0, 0, 3, 2, 15, 31, 63, 63, 127, 511]
theorem impl_WrapCell.tab1 : rtab .any (opsOf Try.f27 1) = impl_WrapCell.T1 := by kernel_rfl
theorem impl_WrapCell.bits1 : waitsOk impl_WrapCell.T1.2 impl_WrapCell.B1 = true := by kernel_rfl
theorem impl_WrapCell.calls (k : Nat) (a0 : Int) (r : Int) (w : World) (h : impl_WrapCell.f k a0 = some r) :
  Calls Try.prog 27 #[.int .i64 a0] w fun e w' => e = .returned (.int .i64 r) ∧ Below w.heap.size w w' := by
 have HB := Ak (Below.refl w.heap.size w)
 have H : ((impl_power.f k 9).bind fun t121 => (if t121 = 0 then (none) else ((impl_power.f k 9).bind fun t122 => ((impl_divided.f (Int.tmod a0 t121) t122).bind fun bt123 => (some bt123.2))))) = some r := h
 clear h
 replace H := Option.bind_eq_some_iff.mp H
 obtain ⟨t121, A20, H⟩ := H
 replace H : (if t121 = 0 then (none) else ((impl_power.f k 9).bind fun t122 => ((impl_divided.f (Int.tmod a0 t121) t122).bind fun bt123 => (some bt123.2)))) = some r := H
 have A2 := Ak A20
 clear A20
 by_cases c3 : t121 = 0
 ·rw [if_pos c3] at H
  exact absurd H (by simp)
 ·rw [if_neg c3] at H
  have c3b0 : (t121 == 0) = false := beq_eq_false_iff_ne.mpr c3
  have c3b1 : (t121 != 0) = true := bne_iff_ne.mpr c3
  replace H := Option.bind_eq_some_iff.mp H
  obtain ⟨t122, A40, H⟩ := H
  replace H : ((impl_divided.f (Int.tmod a0 t121) t122).bind fun bt123 => (some bt123.2)) = some r := H
  have A4 := Ak A40
  clear A40
  replace H := Option.bind_eq_some_iff.mp H
  obtain ⟨⟨t123, t124⟩, A50, H⟩ := H
  replace H : (some t124) = some r := H
  have A5 := Ak A50
  clear A50
  obtain rfl := Option.some.inj H
  go_enter Try.func27, Try.ntmps27
  try go_wp2
  have n0_ := Ak (below_drew1 HB.out)
  clear HB
  have HB := n0_
  clear n0_
  refine start_ (n := 10) (S := fun w' => True) (ds := []) #[false, false, false, false, false, false, false, false, false, false] (by kernel_rfl) rfl rfl trivial (fun hHeld => ?_); refine with_tabW impl_WrapCell.tab1 impl_WrapCell.bits1 (fun HT_ HW_ => ?_)
  generalize w.drew = w6 at HB hHeld ⊢
  refine Qq 0 (some 6) ?_
  refine Qs 1 (some 7) (fun K hK => ?_)
  refine goes_ Try.func55 (by kernel_rfl) rfl #[.int .i64 9] (by rfl) rfl rfl (by (try simp only [List.map_toArray, List.map_cons, List.map_nil]); first | done | rfl | (simp only [List.length_drop, List.length_take]; rfl)) ?_
  with_reducible refine (impl_power.calls k 9 t121 _ A2.out).mono ?_
  rintro e w' ⟨rfl, ⟨nd, rfl⟩⟩
  refine ⟨_, rfl, ?_⟩
  refine hK.out _ _ trivial (fun hHeld => ?_)
  clear hK K
  refine norm_ (a' := ?_) ?_ ?_
  rotate_left
  ·show Act.put _ (some 7) _ = _
   simp only [Act.put, List.setIfInBounds_toArray, List.set_cons_zero, List.set_cons_succ, i64_w, i32_w]
   rfl
  refine Qq 2 (some 8) ?_
  refine Qs 3 (some 9) (fun K hK => ?_)
  refine goes_ Try.func55 (by kernel_rfl) rfl #[.int .i64 9] (by rfl) rfl rfl (by (try simp only [List.map_toArray, List.map_cons, List.map_nil]); first | done | rfl | (simp only [List.length_drop, List.length_take]; rfl)) ?_
  with_reducible refine (impl_power.calls k 9 t122 _ A4.out).mono ?_
  rintro e w' ⟨rfl, ⟨nd, rfl⟩⟩
  refine ⟨_, rfl, ?_⟩
  refine hK.out _ _ trivial (fun hHeld => ?_)
  clear hK K
  refine norm_ (a' := ?_) ?_ ?_
  rotate_left
  ·show Act.put _ (some 9) _ = _
   simp only [Act.put, List.setIfInBounds_toArray, List.set_cons_zero, List.set_cons_succ, i64_w, i32_w]
   rfl
  refine Qs 4 (some 10) (fun K hK => ?_)
  refine goes_ Try.func54 (by kernel_rfl) rfl #[.int .i64 (Int.tmod a0 t121), .int .i64 t122] (by rfl) rfl rfl (by (try simp only [List.map_toArray, List.map_cons, List.map_nil]); first | done | rfl | (simp only [List.length_drop, List.length_take]; rfl)) ?_
  with_reducible refine (impl_divided.calls (Int.tmod a0 t121) t122 t123 t124 _ A5.out).mono ?_
  rintro e w7 ⟨rfl, hb⟩
  refine ⟨_, rfl, ?_⟩
  have n0_ := Ak (below_step (Qb HB.out) hb)
  clear HB
  have HB := n0_
  clear n0_
  (try clear hb); (try clear hb2); (try clear hk); (try clear hi)
  refine hK.out _ _ trivial (fun hHeld => ?_)
  clear hK K
  refine norm_ (a' := ?_) ?_ ?_
  rotate_left
  ·show Act.put _ (some 10) _ = _
   simp only [Act.put, List.setIfInBounds_toArray, List.set_cons_zero, List.set_cons_succ, i64_w, i32_w]
   rfl
  refine Qq 5 (some 5) ?_
  refine Qq 6 (some 11) ?_
  refine Qq 7 (some 12) ?_
  refine Qq 8 (some 3) ?_
  refine Qq 9 (some 4) ?_
  refine done_ (done_of HT_.out (by kernel_rfl)) ?_
  try go_wp2
  go_ret
  exact ⟨Qh, Qb HB.out⟩

/-! ### impl_SignOf: function 34 -/
def impl_SignOf.f (a0 : Int) : Option (Int) := if a0 < 0 then (some (-1)) else (if a0 > 0 then (some 1) else (some 0))
theorem impl_SignOf.calls (a0 : Int) (r : Int) (w : World) (h : impl_SignOf.f a0 = some r) :
  Calls Try.prog 34 #[.int .i64 a0] w fun e w' => e = .returned (.int .i64 r) ∧ Drawn0 w w' := by
 have H : (if a0 < 0 then (some (-1)) else (if a0 > 0 then (some 1) else (some 0))) = some r := h
 clear h
 by_cases c2 : a0 < 0
 ·rw [if_pos c2] at H
  have c2b0 : decide (a0 < 0) = true := decide_eq_true c2
  clear c2
  obtain rfl := Option.some.inj H
  go_enter Try.func34, Try.ntmps34
  go_wp2
  go_ret
  exact ⟨Qi, Ql⟩
 ·rw [if_neg c2] at H
  have c2b0 : decide (a0 < 0) = false := decide_eq_false c2
  clear c2
  by_cases c3 : a0 > 0
  ·rw [if_pos c3] at H
   have c3b0 : decide (0 < a0) = true := decide_eq_true c3
   clear c3
   obtain rfl := Option.some.inj H
   go_enter Try.func34, Try.ntmps34
   go_wp2
   go_ret
   exact ⟨Qi, Ql⟩
  ·rw [if_neg c3] at H
   have c3b0 : decide (0 < a0) = false := decide_eq_false c3
   clear c3
   obtain rfl := Option.some.inj H
   go_enter Try.func34, Try.ntmps34
   go_wp2
   go_ret
   exact ⟨Qi, Ql⟩

/-! ### impl_needs: function 73 -/
def impl_needs.j0 : Nat → Int → Bool → Option (Int)
 | 0, _, _ => none
 | k + 1, x3, x4 => if x4 = true then (some 2) else (if x3 = 5 then (some 1) else (if x3 = 6 then (some 1) else (if x3 = 7 then (some 1) else (if x3 = 9 then (some 1) else (if x3 = 10 then (some 1) else (if x3 = 11 then (some 1) else (if x3 = 14 then (some 1) else (some 0))))))))
def impl_needs.f (k : Nat) (a0 : Int) : Option (Int) := if a0 = 2 then (impl_needs.j0 k a0 (a0 == 2)) else (if a0 = 3 then (impl_needs.j0 k a0 (a0 == 3)) else (if a0 = 4 then (impl_needs.j0 k a0 (a0 == 4)) else (if a0 = 8 then (impl_needs.j0 k a0 (a0 == 8)) else (impl_needs.j0 k a0 (a0 == 12)))))
theorem impl_needs.mono_l : ∀ k, (∀ y0 y1, LeO (impl_needs.j0 k y0 y1) (impl_needs.j0 (k + 1) y0 y1))
 | 0 => fun _ _ r h => by simp [impl_needs.j0] at h
 | k + 1 => by
  have ih0 := impl_needs.mono_l k
  ·intro y0 y1
   unfold impl_needs.j0
   repeat' first
   | (with_reducible exact ih0 _ _)
   | (with_reducible exact LeO.refl _)
   | (with_reducible exact LeO.none _)
   | (with_reducible refine LeO.ite ?_ ?_)
   | (with_reducible refine LeO.bind ?_ (fun _ => ?_))
   | exact ih0 _ _
   | exact LeO.none _
   | refine LeO.ite ?_ ?_
   | refine LeO.bind ?_ (fun _ => ?_)
theorem impl_needs.mono : ∀ a0 k, LeO (impl_needs.f k a0) (impl_needs.f (k + 1) a0) := by
 intro a0 k
 have ih0 := impl_needs.mono_l k
 unfold impl_needs.f
 repeat' first
   | (with_reducible exact ih0 _ _)
   | (with_reducible exact LeO.refl _)
   | (with_reducible exact LeO.none _)
   | (with_reducible refine LeO.ite ?_ ?_)
   | (with_reducible refine LeO.bind ?_ (fun _ => ?_))
   | exact ih0 _ _
   | exact LeO.none _
   | refine LeO.ite ?_ ?_
   | refine LeO.bind ?_ (fun _ => ?_)
theorem impl_needs.calls (k : Nat) (a0 : Int) (r : Int) (w : World) (h : impl_needs.f k a0 = some r) :
  Calls Try.prog 73 #[.int .i64 a0] w fun e w' => e = .returned (.int .i64 r) ∧ Drawn0 w w' := by
 have H : (if a0 = 2 then (impl_needs.j0 k a0 (a0 == 2)) else (if a0 = 3 then (impl_needs.j0 k a0 (a0 == 3)) else (if a0 = 4 then (impl_needs.j0 k a0 (a0 == 4)) else (if a0 = 8 then (impl_needs.j0 k a0 (a0 == 8)) else (impl_needs.j0 k a0 (a0 == 12)))))) = some r := h
 clear h
 have HC2 := Ak H
 clear H
 go_enter Try.func73, Try.ntmps73
 go_upto_if 4 with (fail)
 go_cut [4] (fun v4 wc => ∃ (kq : Nat) (x4_1 : Bool), v4 = .bool x4_1 ∧ Aside0 (impl_needs.j0 kq a0 x4_1 = some r) ∧ Aside0 (kq ≤ k) ∧ Drawn0 w wc)
 case first =>
  have H := HC2.out
  clear HC2
  by_cases c3 : a0 = 2
  ·rw [if_pos c3] at H
   have c3b0 : (a0 == 2) = true := beq_iff_eq.mpr c3
   have c3b1 : (a0 != 2) = false := bne_eq_false_iff_eq.mpr c3
   clear c3
   (first | rw [c3b0] | (simp only [i64_w, i32_w]; rw [c3b0]) | skip)
   have H' := Ak H
   clear H
   go_wp2
   go_meet
   case rel => exact ⟨_, ((a0 == 2)), Qi, H', ⟨by first | omega | exact Nat.le_refl _⟩, Ql⟩
  ·rw [if_neg c3] at H
   have c3b0 : (a0 == 2) = false := beq_eq_false_iff_ne.mpr c3
   have c3b1 : (a0 != 2) = true := bne_iff_ne.mpr c3
   (first | rw [c3b0] | (simp only [i64_w, i32_w]; rw [c3b0]) | skip)
   by_cases c4 : a0 = 3
   ·rw [if_pos c4] at H
    have c4b0 : (a0 == 3) = true := beq_iff_eq.mpr c4
    have c4b1 : (a0 != 3) = false := bne_eq_false_iff_eq.mpr c4
    clear c4
    have H' := Ak H
    clear H
    go_wp2
    go_meet
    case rel => exact ⟨_, ((a0 == 3)), Qi, H', ⟨by first | omega | exact Nat.le_refl _⟩, Ql⟩
   ·rw [if_neg c4] at H
    have c4b0 : (a0 == 3) = false := beq_eq_false_iff_ne.mpr c4
    have c4b1 : (a0 != 3) = true := bne_iff_ne.mpr c4
    by_cases c5 : a0 = 4
    ·rw [if_pos c5] at H
     have c5b0 : (a0 == 4) = true := beq_iff_eq.mpr c5
     have c5b1 : (a0 != 4) = false := bne_eq_false_iff_eq.mpr c5
     clear c5
     have H' := Ak H
     clear H
     go_wp2
     go_meet
     case rel => exact ⟨_, ((a0 == 4)), Qi, H', ⟨by first | omega | exact Nat.le_refl _⟩, Ql⟩
    ·rw [if_neg c5] at H
     have c5b0 : (a0 == 4) = false := beq_eq_false_iff_ne.mpr c5
     have c5b1 : (a0 != 4) = true := bne_iff_ne.mpr c5
     by_cases c6 : a0 = 8
     ·rw [if_pos c6] at H
      have c6b0 : (a0 == 8) = true := beq_iff_eq.mpr c6
      have c6b1 : (a0 != 8) = false := bne_eq_false_iff_eq.mpr c6
      clear c6
      have H' := Ak H
      clear H
      go_wp2
      go_meet
      case rel => exact ⟨_, ((a0 == 8)), Qi, H', ⟨by first | omega | exact Nat.le_refl _⟩, Ql⟩
     ·rw [if_neg c6] at H
      have c6b0 : (a0 == 8) = false := beq_eq_false_iff_ne.mpr c6
      have c6b1 : (a0 != 8) = true := bne_iff_ne.mpr c6
      have H' := Ak H
      clear H
      go_wp2
      go_meet
      case rel => exact ⟨_, ((a0 == 12)), Qi, H', ⟨by first | omega | exact Nat.le_refl _⟩, Ql⟩
 case rest =>
  clear HC2
  (try clear p2); (try clear c3); (try clear c3b0); (try clear c3b1); (try clear c4); (try clear c4b0); (try clear c4b1); (try clear c5); (try clear c5b0); (try clear c5b1); (try clear c6); (try clear c6b0); (try clear c6b1)
  obtain ⟨kq, x4_1, rfl, HA, HJ1, ⟨mc1, rfl⟩⟩ := hcut
  cases kq with
  | zero => exact absurd HA.out (by simp [impl_needs.j0])
  | succ kj1 =>
   have H := HA.out
   clear HA
   simp only [impl_needs.j0] at H
   by_cases c7 : x4_1 = true
   ·(try subst c7)
    have H1 : (some 2) = some r := by rw [if_pos rfl] at H; exact H
    clear H
    have H := H1
    clear H1
    obtain rfl := Option.some.inj H
    go_wp2
    go_ret
    exact ⟨Qi, Ql⟩
   ·replace c7 := Bool.eq_false_iff.mpr c7
    (try subst c7)
    have H1 : (if a0 = 5 then (some 1) else (if a0 = 6 then (some 1) else (if a0 = 7 then (some 1) else (if a0 = 9 then (some 1) else (if a0 = 10 then (some 1) else (if a0 = 11 then (some 1) else (if a0 = 14 then (some 1) else (some 0)))))))) = some r := by rw [if_neg (show ¬ (false = true) by decide)] at H; exact H
    clear H
    have H := H1
    clear H1
    by_cases c8 : a0 = 5
    ·rw [if_pos c8] at H
     have c8b0 : (a0 == 5) = true := beq_iff_eq.mpr c8
     have c8b1 : (a0 != 5) = false := bne_eq_false_iff_eq.mpr c8
     clear c8
     obtain rfl := Option.some.inj H
     go_wp2
     go_ret
     exact ⟨Qi, Ql⟩
    ·rw [if_neg c8] at H
     have c8b0 : (a0 == 5) = false := beq_eq_false_iff_ne.mpr c8
     have c8b1 : (a0 != 5) = true := bne_iff_ne.mpr c8
     by_cases c9 : a0 = 6
     ·rw [if_pos c9] at H
      have c9b0 : (a0 == 6) = true := beq_iff_eq.mpr c9
      have c9b1 : (a0 != 6) = false := bne_eq_false_iff_eq.mpr c9
      clear c9
      obtain rfl := Option.some.inj H
      go_wp2
      go_ret
      exact ⟨Qi, Ql⟩
     ·rw [if_neg c9] at H
      have c9b0 : (a0 == 6) = false := beq_eq_false_iff_ne.mpr c9
      have c9b1 : (a0 != 6) = true := bne_iff_ne.mpr c9
      by_cases c10 : a0 = 7
      ·rw [if_pos c10] at H
       have c10b0 : (a0 == 7) = true := beq_iff_eq.mpr c10
       have c10b1 : (a0 != 7) = false := bne_eq_false_iff_eq.mpr c10
       clear c10
       obtain rfl := Option.some.inj H
       go_wp2
       go_ret
       exact ⟨Qi, Ql⟩
      ·rw [if_neg c10] at H
       have c10b0 : (a0 == 7) = false := beq_eq_false_iff_ne.mpr c10
       have c10b1 : (a0 != 7) = true := bne_iff_ne.mpr c10
       by_cases c11 : a0 = 9
       ·rw [if_pos c11] at H
        have c11b0 : (a0 == 9) = true := beq_iff_eq.mpr c11
        have c11b1 : (a0 != 9) = false := bne_eq_false_iff_eq.mpr c11
        clear c11
        obtain rfl := Option.some.inj H
        go_wp2
        go_ret
        exact ⟨Qi, Ql⟩
       ·rw [if_neg c11] at H
        have c11b0 : (a0 == 9) = false := beq_eq_false_iff_ne.mpr c11
        have c11b1 : (a0 != 9) = true := bne_iff_ne.mpr c11
        by_cases c12 : a0 = 10
        ·rw [if_pos c12] at H
         have c12b0 : (a0 == 10) = true := beq_iff_eq.mpr c12
         have c12b1 : (a0 != 10) = false := bne_eq_false_iff_eq.mpr c12
         clear c12
         obtain rfl := Option.some.inj H
         go_wp2
         go_ret
         exact ⟨Qi, Ql⟩
        ·rw [if_neg c12] at H
         have c12b0 : (a0 == 10) = false := beq_eq_false_iff_ne.mpr c12
         have c12b1 : (a0 != 10) = true := bne_iff_ne.mpr c12
         by_cases c13 : a0 = 11
         ·rw [if_pos c13] at H
          have c13b0 : (a0 == 11) = true := beq_iff_eq.mpr c13
          have c13b1 : (a0 != 11) = false := bne_eq_false_iff_eq.mpr c13
          clear c13
          obtain rfl := Option.some.inj H
          go_wp2
          go_ret
          exact ⟨Qi, Ql⟩
         ·rw [if_neg c13] at H
          have c13b0 : (a0 == 11) = false := beq_eq_false_iff_ne.mpr c13
          have c13b1 : (a0 != 11) = true := bne_iff_ne.mpr c13
          by_cases c14 : a0 = 14
          ·rw [if_pos c14] at H
           have c14b0 : (a0 == 14) = true := beq_iff_eq.mpr c14
           have c14b1 : (a0 != 14) = false := bne_eq_false_iff_eq.mpr c14
           clear c14
           obtain rfl := Option.some.inj H
           go_wp2
           go_ret
           exact ⟨Qi, Ql⟩
          ·rw [if_neg c14] at H
           have c14b0 : (a0 == 14) = false := beq_eq_false_iff_ne.mpr c14
           have c14b1 : (a0 != 14) = true := bne_iff_ne.mpr c14
           obtain rfl := Option.some.inj H
           go_wp2
           go_ret
           exact ⟨Qi, Ql⟩

/-! ### impl_IsTrit: function 93 -/
def impl_IsTrit.f (a0 : Int) : Option (Bool) := if a0 ≥ (-1) then (some (decide (a0 ≤ 1))) else (some false)
theorem impl_IsTrit.calls (a0 : Int) (r : Bool) (w : World) (h : impl_IsTrit.f a0 = some r) :
  Calls Try.prog 93 #[.int .i64 a0] w fun e w' => e = .returned (.bool r) ∧ Drawn0 w w' := by
 have H : (if a0 ≥ (-1) then (some (decide (a0 ≤ 1))) else (some false)) = some r := h
 clear h
 by_cases c2 : a0 ≥ (-1)
 ·rw [if_pos c2] at H
  have c2b0 : decide ((-1) ≤ a0) = true := decide_eq_true c2
  clear c2
  obtain rfl := Option.some.inj H
  go_enter Try.func93, Try.ntmps93
  go_wp2
  go_ret
  exact ⟨Qi, Ql⟩
 ·rw [if_neg c2] at H
  have c2b0 : decide ((-1) ≤ a0) = false := decide_eq_false c2
  clear c2
  obtain rfl := Option.some.inj H
  go_enter Try.func93, Try.ntmps93
  go_wp2
  go_ret
  exact ⟨Qi, Ql⟩

/-! ### impl_trits: function 80 -/
def impl_trits.l0 : Nat → List Int → Int → Int → Option (Bool)
 | 0, _, _, _ => none
 | k + 1, x5, x6, x7 => if x7 < x6 then (if 0 ≤ x7 then (if x7 < (x5.length : Int) then ((impl_IsTrit.f (rd x5 x7)).bind fun t126 => (if t126 = true then (impl_trits.l0 k x5 x6 (wrap64 (x7 + 1))) else (some false))) else (none)) else (none)) else (some true)
def impl_trits.f (k : Nat) (l0 : List Int) : Option (Bool) := impl_trits.l0 k l0 (l0.length : Int) 0
theorem impl_trits.mono_l : ∀ k, (∀ y0 y1 y2, LeO (impl_trits.l0 k y0 y1 y2) (impl_trits.l0 (k + 1) y0 y1 y2))
 | 0 => fun _ _ _ r h => by simp [impl_trits.l0] at h
 | k + 1 => by
  have ih0 := impl_trits.mono_l k
  ·intro y0 y1 y2
   unfold impl_trits.l0
   repeat' first
   | (with_reducible exact ih0 _ _ _)
   | (with_reducible exact LeO.refl _)
   | (with_reducible exact LeO.none _)
   | (with_reducible refine LeO.ite ?_ ?_)
   | (with_reducible refine LeO.bind ?_ (fun _ => ?_))
   | exact ih0 _ _ _
   | exact LeO.none _
   | refine LeO.ite ?_ ?_
   | refine LeO.bind ?_ (fun _ => ?_)
theorem impl_trits.mono : ∀ a0 k, LeO (impl_trits.f k a0) (impl_trits.f (k + 1) a0) := by
 intro a0 k
 have ih0 := impl_trits.mono_l k
 unfold impl_trits.f
 repeat' first
   | (with_reducible exact ih0 _ _ _)
   | (with_reducible exact LeO.refl _)
   | (with_reducible exact LeO.none _)
   | (with_reducible refine LeO.ite ?_ ?_)
   | (with_reducible refine LeO.bind ?_ (fun _ => ?_))
   | exact ih0 _ _ _
   | exact LeO.none _
   | refine LeO.ite ?_ ?_
   | refine LeO.bind ?_ (fun _ => ?_)
theorem impl_trits.calls (k : Nat) (A0 : Option Addr) (c0 : Nat) (l0 : List Int) (r : Bool) (w : World) (hr0 : Kd.C (Kd.int .i64) w A0 l0.length l0) (hc0 : l0.length ≤ c0) (h : impl_trits.f k l0 = some r) :
  Calls Try.prog 80 #[.slice A0 l0.length c0] w fun e w' => e = .returned (.bool r) ∧ Drawn0 w w' := by
 have HR0 := Ak hr0
 have HC0 := Ak hc0
 clear hr0 hc0
 have H : (impl_trits.l0 k l0 (l0.length : Int) 0) = some r := h
 clear h
 have H' := Ak H
 clear H
 go_enter Try.func80, Try.ntmps80
 go_wp2
 go_loopg [7] k (fun kq v7 w' => ∃ (x7_1 : Int), v7 = .int .i64 x7_1 ∧ Aside0 (impl_trits.l0 kq l0 (l0.length : Int) x7_1 = some r) ∧ Aside0 (kq ≤ k) ∧ Drawn0 w w')
 case atStart => exact ⟨(0), Qi, H', ⟨Nat.le_refl _⟩, Ql⟩
 case round =>
  clear H'
  obtain ⟨x7_1, rfl, HA, HK1, ⟨m1, rfl⟩⟩ := hrel
  cases gk with
  | zero => exact absurd HA.out (by simp [impl_trits.l0])
  | succ k1 =>
   have H := HA.out
   clear HA
   simp only [impl_trits.l0] at H
   by_cases c2 : x7_1 < (l0.length : Int)
   ·rw [if_pos c2] at H
    have c2b0 : decide (x7_1 < (l0.length : Int)) = true := decide_eq_true c2
    clear c2
    by_cases c3 : 0 ≤ x7_1
    ·rw [if_pos c3] at H
     have c3b0 : decide (0 ≤ x7_1) = true := decide_eq_true c3
     clear c3
     by_cases c4 : x7_1 < (l0.length : Int)
     ·rw [if_pos c4] at H
      have c4b0 : decide (x7_1 < (l0.length : Int)) = true := decide_eq_true c4
      clear c4
      replace H := Option.bind_eq_some_iff.mp H
      obtain ⟨t126, A50, H⟩ := H
      replace H : (if t126 = true then (impl_trits.l0 k1 l0 (l0.length : Int) (wrap64 (x7_1 + 1))) else (some false)) = some r := H
      have A5 := Ak A50
      clear A50
      by_cases c6 : t126 = true
      ·(try subst c6)
       have H1 : (impl_trits.l0 k1 l0 (l0.length : Int) (wrap64 (x7_1 + 1))) = some r := by rw [if_pos rfl] at H; exact H
       clear H
       have H := H1
       clear H1
       have H' := Ak H
       clear H
       have p125 : 0 ≤ (x7_1 : Int) := Qg
       have q125 : x7_1 < (l0.length : Int) := Qg
       obtain ⟨ad125, e125, hx125_0⟩ := Kd.at_int HR0.out x7_1 p125 q125
       cases e125
       replace p125 := eq_true p125
       replace q125 := eq_true q125
       go_wp2_with (first | ((with_reducible refine gate_callee (f := 93) rfl ?_); refine Qj (some 12) Try.func93 #[.int .i64 (rd l0 x7_1)] ?_; (with_reducible refine (impl_IsTrit.calls (rd l0 x7_1) true _ A5.out).mono ?_); rintro e w' ⟨rfl, ⟨nd, rfl⟩⟩; refine ⟨_, rfl, ?_⟩))
       go_roundg k1
       case measure => have := HK1.out; omega
       case rel => exact ⟨(wrap64 (x7_1 + 1)), Qi, H', ⟨by have := HK1.out; omega⟩, Ql⟩
      ·replace c6 := Bool.eq_false_iff.mpr c6
       (try subst c6)
       have H1 : (some false) = some r := by rw [if_neg (show ¬ (false = true) by decide)] at H; exact H
       clear H
       have H := H1
       clear H1
       obtain rfl := Option.some.inj H
       have p125 : 0 ≤ (x7_1 : Int) := Qg
       have q125 : x7_1 < (l0.length : Int) := Qg
       obtain ⟨ad125, e125, hx125_0⟩ := Kd.at_int HR0.out x7_1 p125 q125
       cases e125
       replace p125 := eq_true p125
       replace q125 := eq_true q125
       go_wp2_with (first | ((with_reducible refine gate_callee (f := 93) rfl ?_); refine Qj (some 12) Try.func93 #[.int .i64 (rd l0 x7_1)] ?_; (with_reducible refine (impl_IsTrit.calls (rd l0 x7_1) false _ A5.out).mono ?_); rintro e w' ⟨rfl, ⟨nd, rfl⟩⟩; refine ⟨_, rfl, ?_⟩))
       go_ret
       exact ⟨Qi, Ql⟩
     ·rw [if_neg c4] at H
      exact absurd H (by simp)
    ·rw [if_neg c3] at H
     exact absurd H (by simp)
   ·rw [if_neg c2] at H
    have c2b0 : decide (x7_1 < (l0.length : Int)) = false := decide_eq_false c2
    clear c2
    obtain rfl := Option.some.inj H
    go_wp2
    go_ret
    exact ⟨Qi, Ql⟩

/-! ### impl_IsWord: function 58 -/
def impl_IsWord.f (k : Nat) (l0 : List Int) : Option (Bool) := if (l0.length : Int) ≥ 1 then (if (l0.length : Int) ≤ 30 then ((impl_trits.f k l0).bind fun t127 => (some t127)) else (some false)) else (some false)
theorem impl_IsWord.mono : ∀ a0 k, LeO (impl_IsWord.f k a0) (impl_IsWord.f (k + 1) a0) := by
 intro a0 k
 unfold impl_IsWord.f
 repeat' first
   | (with_reducible exact impl_trits.mono _ _)
   | (with_reducible exact LeO.refl _)
   | (with_reducible exact LeO.none _)
   | (with_reducible refine LeO.ite ?_ ?_)
   | (with_reducible refine LeO.bind ?_ (fun _ => ?_))
   | exact impl_trits.mono _ _
   | exact LeO.none _
   | refine LeO.ite ?_ ?_
   | refine LeO.bind ?_ (fun _ => ?_)
theorem impl_IsWord.calls (k : Nat) (A0 : Option Addr) (c0 : Nat) (l0 : List Int) (r : Bool) (w : World) (hr0 : Kd.C (Kd.int .i64) w A0 l0.length l0) (hc0 : l0.length ≤ c0) (h : impl_IsWord.f k l0 = some r) :
  Calls Try.prog 58 #[.slice A0 l0.length c0] w fun e w' => e = .returned (.bool r) ∧ Drawn0 w w' := by
 have HR0 := Ak hr0
 have HC0 := Ak hc0
 clear hr0 hc0
 have H : (if (l0.length : Int) ≥ 1 then (if (l0.length : Int) ≤ 30 then ((impl_trits.f k l0).bind fun t127 => (some t127)) else (some false)) else (some false)) = some r := h
 clear h
 by_cases c2 : (l0.length : Int) ≥ 1
 ·rw [if_pos c2] at H
  have c2b0 : decide (1 ≤ (l0.length : Int)) = true := decide_eq_true c2
  have c2b1 : decide (1 ≤ l0.length) = true := decide_eq_true (by omega)
  clear c2
  by_cases c3 : (l0.length : Int) ≤ 30
  ·rw [if_pos c3] at H
   have c3b0 : decide ((l0.length : Int) ≤ 30) = true := decide_eq_true c3
   have c3b1 : decide (l0.length ≤ 30) = true := decide_eq_true (by omega)
   clear c3
   replace H := Option.bind_eq_some_iff.mp H
   obtain ⟨t127, A40, H⟩ := H
   replace H : (some t127) = some r := H
   have A4 := Ak A40
   clear A40
   obtain rfl := Option.some.inj H
   go_enter Try.func58, Try.ntmps58
   go_wp2_with (first | (go_at_call 80; (with_reducible refine (impl_trits.calls k _ _ l0 t127 _ ?side1 ?side2 A4.out).mono ?_); (case side1 => repeat (first | exact HR0.out | (with_reducible refine Kd.C_alloc ?_ _) | (with_reducible refine Kd.C_drewN ?_ _) | (with_reducible refine Kd.C_drew ?_))); (case side2 => exact HC0.out); rintro e w' ⟨rfl, ⟨nd, rfl⟩⟩))
   go_ret
   exact ⟨Qi, Ql⟩
  ·rw [if_neg c3] at H
   have c3b0 : decide ((l0.length : Int) ≤ 30) = false := decide_eq_false c3
   have c3b1 : decide (l0.length ≤ 30) = false := decide_eq_false (by omega)
   clear c3
   obtain rfl := Option.some.inj H
   go_enter Try.func58, Try.ntmps58
   go_wp2
   go_ret
   exact ⟨Qi, Ql⟩
 ·rw [if_neg c2] at H
  have c2b0 : decide (1 ≤ (l0.length : Int)) = false := decide_eq_false c2
  have c2b1 : decide (1 ≤ l0.length) = false := decide_eq_false (by omega)
  clear c2
  obtain rfl := Option.some.inj H
  go_enter Try.func58, Try.ntmps58
  go_wp2
  go_ret
  exact ⟨Qi, Ql⟩

/-! ### slices_Grow_int_int: function 81 -/
/-- slices.Grow of a nil slice (nothing is told of others). -/
def slices_Grow_int_int.f (l0 : List Int) (a1 : Int) : Option (List Int) := if l0 = [] ∧ 0 ≤ a1 ∧ a1 ≤ 17592186044415 then some [] else none
theorem slices_Grow_int_int.callsNil (a1 : Int) (r : List Int) (w : World) (h : slices_Grow_int_int.f [] a1 = some r) :
  Calls Try.prog 81 #[.slice none 0 0, .int .i64 a1] w fun e w' => ∃ v0_ : Value, e = .returned (v0_) ∧ Kd.R (Kd.int .i64) 3 w' w.heap.size (fun _ => True) v0_ r ∧ Below w.heap.size w w' := by
 unfold slices_Grow_int_int.f at h
 by_cases hc : ([] : List Int) = [] ∧ 0 ≤ a1 ∧ a1 ≤ 17592186044415
 ·rw [if_pos hc] at h
  obtain rfl := Option.some.inj h
  obtain ⟨_, h0, hn⟩ := hc
  clear h
  by_cases hz : a1 = 0
  ·subst hz
   go_enter Try.func81, Try.ntmps81
   go_wp2
   go_ret
   exact ⟨_, rfl, Kd.R_nil _ _ _ _ _, Below.refl _ _⟩
  ·have hp : 0 < a1 := by omega
   have hnn : ¬ a1 < 0 := by omega
   clear hz
   go_enter Try.func81, Try.ntmps81
   go_wp2_with (first
    | ((with_reducible refine gate_builtin (b := .append) (xs := #[.tmp 20, .tmp 21]) rfl ?_); at_builtin; refine Kd.R_append_zeros (Kd.int .i64) (w0 := w) w.heap.size rfl (.tmp 20) (.tmp 21) 23 3 3 (.int .i64 0) 8 rfl Try.underlying23 Try.underlying3 info3 rfl (by decide) (by omega) (.slice none 0 0) [] (0 : Int) a1 (fun _ => True) rfl rfl rfl ?aF ?aO ?a0 ?aB ?aS ?aL ?_; (case aF => exact (fun _ _ => trivial)); (case aO => exact Kd.R_nil _ _ _ _ _); (case a0 => omega); (case aB => exact Below.refl _ _); (case aS => exact Nat.le_refl _); (case aL => simp only [List.length_nil]; omega); intro v1 w1 ho hb hg hat; obtain ⟨A1, c1, e1⟩ := Kd.R_slice ho; subst e1; obtain ⟨i1, hi1, _, hsz1, _⟩ := info_parts info3; have hcut1 := cut_to (P := Try.prog) 23 3 .i64 Try.underlying23 hi1 A1 ([] ++ List.replicate a1.toNat (0 : Int)).length c1 0 (by omega) (by omega) ((Kd.R_reads' ho).2.1); have HO := Ak (Kd.R_take (m := 0) ho (by omega)); have HB := Ak hb; clear ho hb hg hat))
   go_ret
   exact ⟨_, rfl, HO.out, HB.out⟩
 ·rw [if_neg hc] at h
  exact absurd h (by simp)

end Go.Proofs.Ytlmiankjbffboaa.HFnBranched

/- Text for FnExactCompileExpr: written by a program of this session on the pattern of the kit's print. -/
import Derived.Test.YthlagaopjmeaaaaHFnExactCompileExprx0
import Derived.Test.YthlagaopjmeaaaaHFnExactCompileExprx6
import Derived.Test.YthlagaopjmeaaaaHFnExactCompileExprx7
namespace Go.Proofs.Ythlagaopjmeaaaa.HFnExactCompileExpr
set_option maxHeartbeats 8000000
set_option maxRecDepth 100000
open Go.RowKit Go.Proofs.YthlagaopjmeaaaaW.PrintWords Go.Proofs.YthlagaopjmeaaaaW.PrintLast Go.Proofs.YthlagaopjmeaaaaW.PrintMore
attribute [local go_sem] max2_int min2_int max_two min_two max_three min_three max_four min_four
set_option linter.unusedVariables false
set_option linter.unusedSimpArgs false

/-! ### impl_IsExpr: function 21 -/
def impl_IsExpr.f (k : Nat) (a0_0 : Int) (a0_1 : Int) (l0_2 : List (S28)) : Option (Bool) := (impl_nodes.f k a0_0 a0_1 l0_2 60 12).bind fun t166 => (some (decide (t166 ≥ 0)))
theorem impl_IsExpr.mono : ∀ a0 a1 a2 k, LeO (impl_IsExpr.f k a0 a1 a2) (impl_IsExpr.f (k + 1) a0 a1 a2) := by
 intro a0 a1 a2 k
 unfold impl_IsExpr.f
 repeat' first
   | (with_reducible exact impl_nodes.mono _ _ _ _ _ _)
   | (with_reducible exact LeO.refl _)
   | (with_reducible exact LeO.none _)
   | (with_reducible refine LeO.ite ?_ ?_)
   | (with_reducible refine LeO.bind ?_ (fun _ => ?_))
   | exact impl_nodes.mono _ _ _ _ _ _
   | exact LeO.none _
   | refine LeO.ite ?_ ?_
   | refine LeO.bind ?_ (fun _ => ?_)
theorem impl_IsExpr.calls (k : Nat) (a0_0 : Int) (a0_1 : Int) (A0_2 : Option Addr) (c0_2 : Nat) (l0_2 : List (S28)) (r : Bool) (w : World) (hr0_2 : Kd.C k28 w A0_2 l0_2.length l0_2) (hc0_2 : l0_2.length ≤ c0_2) (h : impl_IsExpr.f k a0_0 a0_1 l0_2 = some r) :
  Calls Try.prog 21 #[.agg #[.int .i64 a0_0, .int .i64 a0_1, .slice A0_2 l0_2.length c0_2]] w fun e w' => e = .returned (.bool r) ∧ Below w.heap.size w w' := by
 have hu28 := Try.underlying28
 have HR0_2 := Ak hr0_2
 have HC0_2 := Ak hc0_2
 clear hr0_2 hc0_2
 have HB := Ak (Below.refl w.heap.size w)
 have H : ((impl_nodes.f k a0_0 a0_1 l0_2 60 12).bind fun t166 => (some (decide (t166 ≥ 0)))) = some r := h
 clear h
 replace H := Option.bind_eq_some_iff.mp H
 obtain ⟨t166, A20, H⟩ := H
 replace H : (some (decide (t166 ≥ 0))) = some r := H
 have A2 := Ak A20
 clear A20
 obtain rfl := Option.some.inj H
 go_enter Try.func21, Try.ntmps21
 go_wp2_with (first | ((with_reducible refine gate_dst (N := 1) rfl ?_); refine Qk 1 #[.int .i64 a0_0, .int .i64 a0_1, .slice A0_2 l0_2.length c0_2] 28 ?_; intro gb165 hg w3 hbox hb; have n0_ := Ak (below_step (Qb HB.out) hb); have n1_ := Ak (hbox); have n2_ := Ak ((Qp hg HB.out : w.heap.size ≤ gb165)); have n3_ := Ak ((Qp hg HB.out : w.heap.size ≤ gb165)); clear HB; have HB := n0_; have BK165 := n1_; have GW165 := n2_; have GE165 := n3_; clear n0_ n1_ n2_ n3_; clear hb hbox hg; obtain ⟨hcz4_0, hcz4_1, hcz4_2⟩ := Qu3 BK165.out; have hfz4_0 := blk_frozen BK165.out 0; have hfz4_1 := blk_frozen BK165.out 1; have hfz4_2 := blk_frozen BK165.out 2) | ((with_reducible refine gate_callee (f := 35) rfl ?_); refine Qj (some 4) Try.func35 #[.agg #[.int .i64 a0_0, .int .i64 a0_1, .slice A0_2 l0_2.length c0_2], .int .i64 60, .int .i64 12] ?_; (with_reducible refine (impl_nodes.calls k a0_0 a0_1 _ _ l0_2 60 12 t166 _ ?side1 ?side2 A2.out).mono ?_); (case side1 => repeat (first | exact (Kd.C_below HR0_2.out HB.out) | (with_reducible refine Kd.C_alloc ?_ _) | (with_reducible refine Kd.C_drewN ?_ _) | (with_reducible refine Kd.C_drew ?_))); (case side2 => exact HC0_2.out); rintro e w5 ⟨rfl, hb⟩; refine ⟨_, rfl, ?_⟩; have n0_ := Ak (Qm BK165.out hb); have n1_ := Ak (below_step (Qb HB.out) hb); clear BK165 HB; have BK165 := n0_; have HB := n1_; clear n0_ n1_; (try clear hb); (try clear hb2); (try clear hk); (try clear hi)))
 go_ret
 exact ⟨Qh, Qb HB.out⟩

/-! ### impl_size: function 51 -/
def impl_size.f (a0 : Int) : Option (Int) := some (mx a0 (wrap64 (-a0)))
theorem impl_size.calls (a0 : Int) (r : Int) (w : World) (h : impl_size.f a0 = some r) :
  Calls Try.prog 51 #[.int .i64 a0] w fun e w' => e = .returned (.int .i64 r) ∧ Below w.heap.size w w' := by
 have HB := Ak (Below.refl w.heap.size w)
 have H : (some (mx a0 (wrap64 (-a0)))) = some r := h
 clear h
 obtain ⟨ji2, hji2⟩ : ∃ j_ : Int, (mx a0 (wrap64 (-a0))) = j_ := ⟨_, rfl⟩
 replace H : (some ji2) = some r := by first | (rw [hji2] at H; exact H) | (simp only [hji2] at H ⊢; exact H)
 have hji2_ : (if a0 < (wrap64 (-a0)) then (wrap64 (-a0)) else a0) = ji2 := hji2
 obtain rfl := Option.some.inj H
 go_enter Try.func51, Try.ntmps51
 go_wp2
 go_ret
 exact ⟨by first | rfl | (simp [errW_none, errW_some] <;> rfl) | (simp only [← hji2]; first | rfl | (simp [errW_none, errW_some] <;> rfl)) | (simp [*, errW_none, errW_some] <;> rfl), Qb HB.out⟩

/-! ### impl_divided: function 46 -/
def impl_divided.f (a0 : Int) (a1 : Int) : Option (Int × Int) := (impl_size.f a1).bind fun t167 => (if t167 = 0 then (none) else ((impl_size.f a1).bind fun t168 => (if (wrap64 (2 * (Int.tmod a0 t167))) > t168 then ((impl_size.f a1).bind fun t169 => (if a1 = 0 then (none) else (some (wrap64 (Int.tdiv (wrap64 (a0 - (wrap64 ((Int.tmod a0 t167) - t169)))) a1), wrap64 ((Int.tmod a0 t167) - t169))))) else ((impl_size.f a1).bind fun t170 => (if (wrap64 (2 * (Int.tmod a0 t167))) ≤ (wrap64 (-t170)) then ((impl_size.f a1).bind fun t171 => (if a1 = 0 then (none) else (some (wrap64 (Int.tdiv (wrap64 (a0 - (wrap64 ((Int.tmod a0 t167) + t171)))) a1), wrap64 ((Int.tmod a0 t167) + t171))))) else (if a1 = 0 then (none) else (some (wrap64 (Int.tdiv (wrap64 (a0 - (Int.tmod a0 t167))) a1), Int.tmod a0 t167))))))))
theorem impl_divided.calls (a0 : Int) (a1 : Int) (r1 : Int) (r2 : Int) (w : World) (h : impl_divided.f a0 a1 = some (r1, r2)) :
  Calls Try.prog 46 #[.int .i64 a0, .int .i64 a1] w fun e w' => e = .returned (.tuple #[.int .i64 r1, .int .i64 r2]) ∧ Below w.heap.size w w' := by
 have HB := Ak (Below.refl w.heap.size w)
 have H : ((impl_size.f a1).bind fun t167 => (if t167 = 0 then (none) else ((impl_size.f a1).bind fun t168 => (if (wrap64 (2 * (Int.tmod a0 t167))) > t168 then ((impl_size.f a1).bind fun t169 => (if a1 = 0 then (none) else (some (wrap64 (Int.tdiv (wrap64 (a0 - (wrap64 ((Int.tmod a0 t167) - t169)))) a1), wrap64 ((Int.tmod a0 t167) - t169))))) else ((impl_size.f a1).bind fun t170 => (if (wrap64 (2 * (Int.tmod a0 t167))) ≤ (wrap64 (-t170)) then ((impl_size.f a1).bind fun t171 => (if a1 = 0 then (none) else (some (wrap64 (Int.tdiv (wrap64 (a0 - (wrap64 ((Int.tmod a0 t167) + t171)))) a1), wrap64 ((Int.tmod a0 t167) + t171))))) else (if a1 = 0 then (none) else (some (wrap64 (Int.tdiv (wrap64 (a0 - (Int.tmod a0 t167))) a1), Int.tmod a0 t167))))))))) = some (r1, r2) := h
 clear h
 replace H := Option.bind_eq_some_iff.mp H
 obtain ⟨t167, A30, H⟩ := H
 replace H : (if t167 = 0 then (none) else ((impl_size.f a1).bind fun t168 => (if (wrap64 (2 * (Int.tmod a0 t167))) > t168 then ((impl_size.f a1).bind fun t169 => (if a1 = 0 then (none) else (some (wrap64 (Int.tdiv (wrap64 (a0 - (wrap64 ((Int.tmod a0 t167) - t169)))) a1), wrap64 ((Int.tmod a0 t167) - t169))))) else ((impl_size.f a1).bind fun t170 => (if (wrap64 (2 * (Int.tmod a0 t167))) ≤ (wrap64 (-t170)) then ((impl_size.f a1).bind fun t171 => (if a1 = 0 then (none) else (some (wrap64 (Int.tdiv (wrap64 (a0 - (wrap64 ((Int.tmod a0 t167) + t171)))) a1), wrap64 ((Int.tmod a0 t167) + t171))))) else (if a1 = 0 then (none) else (some (wrap64 (Int.tdiv (wrap64 (a0 - (Int.tmod a0 t167))) a1), Int.tmod a0 t167)))))))) = some (r1, r2) := H
 have A3 := Ak A30
 clear A30
 by_cases c4 : t167 = 0
 ·rw [if_pos c4] at H
  exact absurd H (by simp)
 ·rw [if_neg c4] at H
  have c4b0 : (t167 == 0) = false := beq_eq_false_iff_ne.mpr c4
  have c4b1 : (t167 != 0) = true := bne_iff_ne.mpr c4
  replace H := Option.bind_eq_some_iff.mp H
  obtain ⟨t168, A50, H⟩ := H
  replace H : (if (wrap64 (2 * (Int.tmod a0 t167))) > t168 then ((impl_size.f a1).bind fun t169 => (if a1 = 0 then (none) else (some (wrap64 (Int.tdiv (wrap64 (a0 - (wrap64 ((Int.tmod a0 t167) - t169)))) a1), wrap64 ((Int.tmod a0 t167) - t169))))) else ((impl_size.f a1).bind fun t170 => (if (wrap64 (2 * (Int.tmod a0 t167))) ≤ (wrap64 (-t170)) then ((impl_size.f a1).bind fun t171 => (if a1 = 0 then (none) else (some (wrap64 (Int.tdiv (wrap64 (a0 - (wrap64 ((Int.tmod a0 t167) + t171)))) a1), wrap64 ((Int.tmod a0 t167) + t171))))) else (if a1 = 0 then (none) else (some (wrap64 (Int.tdiv (wrap64 (a0 - (Int.tmod a0 t167))) a1), Int.tmod a0 t167)))))) = some (r1, r2) := H
  have A5 := Ak A50
  clear A50
  by_cases c6 : (wrap64 (2 * (Int.tmod a0 t167))) > t168
  ·rw [if_pos c6] at H
   have c6b0 : decide (t168 < (wrap64 (2 * (Int.tmod a0 t167)))) = true := decide_eq_true c6
   clear c6
   replace H := Option.bind_eq_some_iff.mp H
   obtain ⟨t169, A70, H⟩ := H
   replace H : (if a1 = 0 then (none) else (some (wrap64 (Int.tdiv (wrap64 (a0 - (wrap64 ((Int.tmod a0 t167) - t169)))) a1), wrap64 ((Int.tmod a0 t167) - t169)))) = some (r1, r2) := H
   have A7 := Ak A70
   clear A70
   by_cases c8 : a1 = 0
   ·rw [if_pos c8] at H
    exact absurd H (by simp)
   ·rw [if_neg c8] at H
    have c8b0 : (a1 == 0) = false := beq_eq_false_iff_ne.mpr c8
    have c8b1 : (a1 != 0) = true := bne_iff_ne.mpr c8
    simp only [Option.some.injEq, Prod.mk.injEq] at H
    obtain ⟨rfl, rfl⟩ := H
    go_enter Try.func46, Try.ntmps46
    go_wp2_with (first | ((with_reducible refine gate_callee (f := 51) rfl ?_); refine Qj (some 9) Try.func51 #[.int .i64 a1] ?_; (with_reducible refine (impl_size.calls a1 t167 _ A3.out).mono ?_); rintro e w9 ⟨rfl, hb⟩; refine ⟨_, rfl, ?_⟩; have n0_ := Ak (below_step (Qb HB.out) hb); clear HB; have HB := n0_; clear n0_; (try clear hb); (try clear hb2); (try clear hk); (try clear hi)) | ((with_reducible refine gate_callee (f := 51) rfl ?_); refine Qj (some 15) Try.func51 #[.int .i64 a1] ?_; (with_reducible refine (impl_size.calls a1 t168 _ A5.out).mono ?_); rintro e w10 ⟨rfl, hb⟩; refine ⟨_, rfl, ?_⟩; have n0_ := Ak (below_step (Qb HB.out) hb); clear HB; have HB := n0_; clear n0_; (try clear hb); (try clear hb2); (try clear hk); (try clear hi)) | ((with_reducible refine gate_callee (f := 51) rfl ?_); refine Qj (some 19) Try.func51 #[.int .i64 a1] ?_; (with_reducible refine (impl_size.calls a1 t169 _ A7.out).mono ?_); rintro e w11 ⟨rfl, hb⟩; refine ⟨_, rfl, ?_⟩; have n0_ := Ak (below_step (Qb HB.out) hb); clear HB; have HB := n0_; clear n0_; (try clear hb); (try clear hb2); (try clear hk); (try clear hi)))
    go_ret2
    exact ⟨Qh, Qb HB.out⟩
  ·rw [if_neg c6] at H
   have c6b0 : decide (t168 < (wrap64 (2 * (Int.tmod a0 t167)))) = false := decide_eq_false c6
   clear c6
   replace H := Option.bind_eq_some_iff.mp H
   obtain ⟨t170, A120, H⟩ := H
   replace H : (if (wrap64 (2 * (Int.tmod a0 t167))) ≤ (wrap64 (-t170)) then ((impl_size.f a1).bind fun t171 => (if a1 = 0 then (none) else (some (wrap64 (Int.tdiv (wrap64 (a0 - (wrap64 ((Int.tmod a0 t167) + t171)))) a1), wrap64 ((Int.tmod a0 t167) + t171))))) else (if a1 = 0 then (none) else (some (wrap64 (Int.tdiv (wrap64 (a0 - (Int.tmod a0 t167))) a1), Int.tmod a0 t167)))) = some (r1, r2) := H
   have A12 := Ak A120
   clear A120
   by_cases c13 : (wrap64 (2 * (Int.tmod a0 t167))) ≤ (wrap64 (-t170))
   ·rw [if_pos c13] at H
    have c13b0 : decide ((wrap64 (2 * (Int.tmod a0 t167))) ≤ (wrap64 (-t170))) = true := decide_eq_true c13
    clear c13
    replace H := Option.bind_eq_some_iff.mp H
    obtain ⟨t171, A140, H⟩ := H
    replace H : (if a1 = 0 then (none) else (some (wrap64 (Int.tdiv (wrap64 (a0 - (wrap64 ((Int.tmod a0 t167) + t171)))) a1), wrap64 ((Int.tmod a0 t167) + t171)))) = some (r1, r2) := H
    have A14 := Ak A140
    clear A140
    by_cases c15 : a1 = 0
    ·rw [if_pos c15] at H
     exact absurd H (by simp)
    ·rw [if_neg c15] at H
     have c15b0 : (a1 == 0) = false := beq_eq_false_iff_ne.mpr c15
     have c15b1 : (a1 != 0) = true := bne_iff_ne.mpr c15
     simp only [Option.some.injEq, Prod.mk.injEq] at H
     obtain ⟨rfl, rfl⟩ := H
     go_enter Try.func46, Try.ntmps46
     go_wp2_with (first | ((with_reducible refine gate_callee (f := 51) rfl ?_); refine Qj (some 9) Try.func51 #[.int .i64 a1] ?_; (with_reducible refine (impl_size.calls a1 t167 _ A3.out).mono ?_); rintro e w16 ⟨rfl, hb⟩; refine ⟨_, rfl, ?_⟩; have n0_ := Ak (below_step (Qb HB.out) hb); clear HB; have HB := n0_; clear n0_; (try clear hb); (try clear hb2); (try clear hk); (try clear hi)) | ((with_reducible refine gate_callee (f := 51) rfl ?_); refine Qj (some 15) Try.func51 #[.int .i64 a1] ?_; (with_reducible refine (impl_size.calls a1 t168 _ A5.out).mono ?_); rintro e w17 ⟨rfl, hb⟩; refine ⟨_, rfl, ?_⟩; have n0_ := Ak (below_step (Qb HB.out) hb); clear HB; have HB := n0_; clear n0_; (try clear hb); (try clear hb2); (try clear hk); (try clear hi)) | ((with_reducible refine gate_callee (f := 51) rfl ?_); refine Qj (some 25) Try.func51 #[.int .i64 a1] ?_; (with_reducible refine (impl_size.calls a1 t170 _ A12.out).mono ?_); rintro e w18 ⟨rfl, hb⟩; refine ⟨_, rfl, ?_⟩; have n0_ := Ak (below_step (Qb HB.out) hb); clear HB; have HB := n0_; clear n0_; (try clear hb); (try clear hb2); (try clear hk); (try clear hi)) | ((with_reducible refine gate_callee (f := 51) rfl ?_); refine Qj (some 30) Try.func51 #[.int .i64 a1] ?_; (with_reducible refine (impl_size.calls a1 t171 _ A14.out).mono ?_); rintro e w19 ⟨rfl, hb⟩; refine ⟨_, rfl, ?_⟩; have n0_ := Ak (below_step (Qb HB.out) hb); clear HB; have HB := n0_; clear n0_; (try clear hb); (try clear hb2); (try clear hk); (try clear hi)))
     go_ret2
     exact ⟨Qh, Qb HB.out⟩
   ·rw [if_neg c13] at H
    have c13b0 : decide ((wrap64 (2 * (Int.tmod a0 t167))) ≤ (wrap64 (-t170))) = false := decide_eq_false c13
    clear c13
    by_cases c20 : a1 = 0
    ·rw [if_pos c20] at H
     exact absurd H (by simp)
    ·rw [if_neg c20] at H
     have c20b0 : (a1 == 0) = false := beq_eq_false_iff_ne.mpr c20
     have c20b1 : (a1 != 0) = true := bne_iff_ne.mpr c20
     simp only [Option.some.injEq, Prod.mk.injEq] at H
     obtain ⟨rfl, rfl⟩ := H
     go_enter Try.func46, Try.ntmps46
     go_wp2_with (first | ((with_reducible refine gate_callee (f := 51) rfl ?_); refine Qj (some 9) Try.func51 #[.int .i64 a1] ?_; (with_reducible refine (impl_size.calls a1 t167 _ A3.out).mono ?_); rintro e w21 ⟨rfl, hb⟩; refine ⟨_, rfl, ?_⟩; have n0_ := Ak (below_step (Qb HB.out) hb); clear HB; have HB := n0_; clear n0_; (try clear hb); (try clear hb2); (try clear hk); (try clear hi)) | ((with_reducible refine gate_callee (f := 51) rfl ?_); refine Qj (some 15) Try.func51 #[.int .i64 a1] ?_; (with_reducible refine (impl_size.calls a1 t168 _ A5.out).mono ?_); rintro e w22 ⟨rfl, hb⟩; refine ⟨_, rfl, ?_⟩; have n0_ := Ak (below_step (Qb HB.out) hb); clear HB; have HB := n0_; clear n0_; (try clear hb); (try clear hb2); (try clear hk); (try clear hi)) | ((with_reducible refine gate_callee (f := 51) rfl ?_); refine Qj (some 25) Try.func51 #[.int .i64 a1] ?_; (with_reducible refine (impl_size.calls a1 t170 _ A12.out).mono ?_); rintro e w23 ⟨rfl, hb⟩; refine ⟨_, rfl, ?_⟩; have n0_ := Ak (below_step (Qb HB.out) hb); clear HB; have HB := n0_; clear n0_; (try clear hb); (try clear hb2); (try clear hk); (try clear hi)))
     go_ret2
     exact ⟨Qh, Qb HB.out⟩

/-! ### impl_WrapCell: function 39 -/
def impl_WrapCell.f (k : Nat) (a0 : Int) : Option (Int) := (impl_power.f k 9).bind fun t172 => (if t172 = 0 then (none) else ((impl_power.f k 9).bind fun t173 => ((impl_divided.f (Int.tmod a0 t172) t173).bind fun bt174 => (some bt174.2))))
theorem impl_WrapCell.mono : ∀ a0 k, LeO (impl_WrapCell.f k a0) (impl_WrapCell.f (k + 1) a0) := by
 intro a0 k
 unfold impl_WrapCell.f
 repeat' first
   | (with_reducible exact impl_power.mono _ _)
   | (with_reducible exact LeO.refl _)
   | (with_reducible exact LeO.none _)
   | (with_reducible refine LeO.ite ?_ ?_)
   | (with_reducible refine LeO.bind ?_ (fun _ => ?_))
   | exact impl_power.mono _ _
   | exact LeO.none _
   | refine LeO.ite ?_ ?_
   | refine LeO.bind ?_ (fun _ => ?_)
def impl_WrapCell.T1 : Bool × List (List Nat × List Nat) := (true, [([], []), ([], []), ([0, 1], [0, 1]), ([1], []), ([2, 3, 3], [2, 3]), ([4], [4]), ([5], [5]), ([5], [5]), ([6, 4, 0, 1, 2, 3, 4, 5, 6], [6]), ([7, 8, 0, 1, 2, 3, 4, 5, 6, 7, 8], [7])])
def impl_WrapCell.B1 : List Nat := [0, 0, 3, 2, 15, 31, 63, 63, 127, 511]
theorem impl_WrapCell.tab1 : rtab .any (opsOf Try.f39 1) = impl_WrapCell.T1 := by kernel_rfl
theorem impl_WrapCell.bits1 : waitsOk impl_WrapCell.T1.2 impl_WrapCell.B1 = true := by kernel_rfl
theorem impl_WrapCell.calls (k : Nat) (a0 : Int) (r : Int) (w : World) (h : impl_WrapCell.f k a0 = some r) :
  Calls Try.prog 39 #[.int .i64 a0] w fun e w' => e = .returned (.int .i64 r) ∧ Below w.heap.size w w' := by
 have HB := Ak (Below.refl w.heap.size w)
 have H : ((impl_power.f k 9).bind fun t172 => (if t172 = 0 then (none) else ((impl_power.f k 9).bind fun t173 => ((impl_divided.f (Int.tmod a0 t172) t173).bind fun bt174 => (some bt174.2))))) = some r := h
 clear h
 replace H := Option.bind_eq_some_iff.mp H
 obtain ⟨t172, A20, H⟩ := H
 replace H : (if t172 = 0 then (none) else ((impl_power.f k 9).bind fun t173 => ((impl_divided.f (Int.tmod a0 t172) t173).bind fun bt174 => (some bt174.2)))) = some r := H
 have A2 := Ak A20
 clear A20
 by_cases c3 : t172 = 0
 ·rw [if_pos c3] at H
  exact absurd H (by simp)
 ·rw [if_neg c3] at H
  have c3b0 : (t172 == 0) = false := beq_eq_false_iff_ne.mpr c3
  have c3b1 : (t172 != 0) = true := bne_iff_ne.mpr c3
  replace H := Option.bind_eq_some_iff.mp H
  obtain ⟨t173, A40, H⟩ := H
  replace H : ((impl_divided.f (Int.tmod a0 t172) t173).bind fun bt174 => (some bt174.2)) = some r := H
  have A4 := Ak A40
  clear A40
  replace H := Option.bind_eq_some_iff.mp H
  obtain ⟨⟨t174, t175⟩, A50, H⟩ := H
  replace H : (some t175) = some r := H
  have A5 := Ak A50
  clear A50
  obtain rfl := Option.some.inj H
  go_enter Try.func39, Try.ntmps39
  try go_wp2
  have n0_ := Ak (below_drew1 HB.out)
  clear HB
  have HB := n0_
  clear n0_
  refine start_ (n := 10) (S := fun w' => True) (ds := []) #[false, false, false, false, false, false, false, false, false, false] (by kernel_rfl) rfl rfl trivial (fun hHeld => ?_); refine with_tabW impl_WrapCell.tab1 impl_WrapCell.bits1 (fun HT_ HW_ => ?_)
  generalize w.drew = w6 at HB hHeld ⊢
  refine Qq 0 (some 6) ?_
  refine Qs 1 (some 7) (fun K hK => ?_)
  refine goes_ Try.func47 (by kernel_rfl) rfl #[.int .i64 9] (by rfl) rfl rfl (by (try simp only [List.map_toArray, List.map_cons, List.map_nil]); first | done | rfl | (simp only [List.length_drop, List.length_take]; rfl)) ?_
  with_reducible refine (impl_power.calls k 9 t172 _ A2.out).mono ?_
  rintro e w' ⟨rfl, ⟨nd, rfl⟩⟩
  refine ⟨_, rfl, ?_⟩
  refine hK.out _ _ trivial (fun hHeld => ?_)
  clear hK K
  refine norm_ (a' := ?_) ?_ ?_
  rotate_left
  ·show Act.put _ (some 7) _ = _
   simp only [Act.put, List.setIfInBounds_toArray, List.set_cons_zero, List.set_cons_succ, i64_w, i32_w]
   rfl
  refine Qq 2 (some 8) ?_
  refine Qs 3 (some 9) (fun K hK => ?_)
  refine goes_ Try.func47 (by kernel_rfl) rfl #[.int .i64 9] (by rfl) rfl rfl (by (try simp only [List.map_toArray, List.map_cons, List.map_nil]); first | done | rfl | (simp only [List.length_drop, List.length_take]; rfl)) ?_
  with_reducible refine (impl_power.calls k 9 t173 _ A4.out).mono ?_
  rintro e w' ⟨rfl, ⟨nd, rfl⟩⟩
  refine ⟨_, rfl, ?_⟩
  refine hK.out _ _ trivial (fun hHeld => ?_)
  clear hK K
  refine norm_ (a' := ?_) ?_ ?_
  rotate_left
  ·show Act.put _ (some 9) _ = _
   simp only [Act.put, List.setIfInBounds_toArray, List.set_cons_zero, List.set_cons_succ, i64_w, i32_w]
   rfl
  refine Qs 4 (some 10) (fun K hK => ?_)
  refine goes_ Try.func46 (by kernel_rfl) rfl #[.int .i64 (Int.tmod a0 t172), .int .i64 t173] (by rfl) rfl rfl (by (try simp only [List.map_toArray, List.map_cons, List.map_nil]); first | done | rfl | (simp only [List.length_drop, List.length_take]; rfl)) ?_
  with_reducible refine (impl_divided.calls (Int.tmod a0 t172) t173 t174 t175 _ A5.out).mono ?_
  rintro e w7 ⟨rfl, hb⟩
  refine ⟨_, rfl, ?_⟩
  have n0_ := Ak (below_step (Qb HB.out) hb)
  clear HB
  have HB := n0_
  clear n0_
  (try clear hb); (try clear hb2); (try clear hk); (try clear hi)
  refine hK.out _ _ trivial (fun hHeld => ?_)
  clear hK K
  refine norm_ (a' := ?_) ?_ ?_
  rotate_left
  ·show Act.put _ (some 10) _ = _
   simp only [Act.put, List.setIfInBounds_toArray, List.set_cons_zero, List.set_cons_succ, i64_w, i32_w]
   rfl
  refine Qq 5 (some 5) ?_
  refine Qq 6 (some 11) ?_
  refine Qq 7 (some 12) ?_
  refine Qq 8 (some 3) ?_
  refine Qq 9 (some 4) ?_
  refine done_ (done_of HT_.out (by kernel_rfl)) ?_
  try go_wp2
  go_ret
  exact ⟨Qh, Qb HB.out⟩

/-! ### impl_compiled: function 29 -/
mutual
def impl_compiled.l0 : Nat → List (S50) → List (S28) → Int → Int → Int → Int → List (S28) → Option ((List (S50)) × Bool)
 | 0, _, _, _, _, _, _, _ => none
 | k + 1, x4, x11, x12, x13, x177000, x177001, x177002 => if x13 < x12 then (if 0 ≤ x13 then (if x13 < (x11.length : Int) then ((impl_compiled.f k ((rd_T28 x11 x13).f0) ((rd_T28 x11 x13).f1) ((rd_T28 x11 x13).f2)).bind fun bt182 => (if bt182.2 = true then (if x4.length + bt182.1.length < 4398046511104 then (impl_compiled.l0 k (x4 ++ bt182.1) x11 x12 (wrap64 (x13 + 1)) x177000 x177001 x177002) else (none)) else (some (([] : List (S50)), false)))) else (none)) else (none)) else (if x177000 = 1 then ((impl_WrapCell.f k x177001).bind fun t189 => (if x4.length < 4398046511104 then (some ((x4 ++ [(⟨1, t189, 0, 0⟩ : S50)]), true)) else (none))) else (if x177000 = 3 then (if x4.length < 4398046511104 then (some ((x4 ++ [(⟨5, 0, 0, 0⟩ : S50)]), true)) else (none)) else (if x177000 = 4 then (impl_compiled.j1 k x4 x177000 (x177000 == 4) x177000 x177001 x177002) else (if x177000 = 5 then (impl_compiled.j1 k x4 x177000 (x177000 == 5) x177000 x177001 x177002) else (impl_compiled.j1 k x4 x177000 (x177000 == 6) x177000 x177001 x177002)))))
def impl_compiled.j1 : Nat → List (S50) → Int → Bool → Int → Int → List (S28) → Option ((List (S50)) × Bool)
 | 0, _, _, _, _, _, _ => none
 | k + 1, x4, x29, x45, x177000, x177001, x177002 => if x45 = true then (if x4.length < 4398046511104 then (some ((x4 ++ [(⟨wrap64 ((wrap64 (2 + x177000)) - 4), 0, 0, 0⟩ : S50)]), true)) else (none)) else (if x29 = 7 then (some (([] : List (S50)), false)) else (if x29 = 8 then (some (([] : List (S50)), false)) else (some (x4, true))))
def impl_compiled.f : Nat → Int → Int → List (S28) → Option ((List (S50)) × Bool)
 | 0, _, _, _ => none
 | k + 1, a0_0, a0_1, l0_2 => impl_compiled.l0 k (([] : List (S50))) l0_2 (l0_2.length : Int) 0 a0_0 a0_1 l0_2
end
theorem impl_compiled.mono_l : ∀ k, (∀ y0 y1 y2, LeO (impl_compiled.f k y0 y1 y2) (impl_compiled.f (k + 1) y0 y1 y2)) ∧ (∀ y0 y1 y2 y3 y4 y5 y6, LeO (impl_compiled.l0 k y0 y1 y2 y3 y4 y5 y6) (impl_compiled.l0 (k + 1) y0 y1 y2 y3 y4 y5 y6)) ∧ (∀ y0 y1 y2 y3 y4 y5, LeO (impl_compiled.j1 k y0 y1 y2 y3 y4 y5) (impl_compiled.j1 (k + 1) y0 y1 y2 y3 y4 y5))
 | 0 => ⟨fun _ _ _ r h => by simp [impl_compiled.f] at h, fun _ _ _ _ _ _ _ r h => by simp [impl_compiled.l0] at h, fun _ _ _ _ _ _ r h => by simp [impl_compiled.j1] at h⟩
 | k + 1 => by
  obtain ⟨ih0, ih1, ih2⟩ := impl_compiled.mono_l k
  refine ⟨?_, ?_, ?_⟩
  ·intro y0 y1 y2
   unfold impl_compiled.f
   repeat' first
   | (with_reducible exact ih0 _ _ _)
   | (with_reducible exact ih1 _ _ _ _ _ _ _)
   | (with_reducible exact ih2 _ _ _ _ _ _)
   | (with_reducible exact impl_WrapCell.mono _ _)
   | (with_reducible exact LeO.refl _)
   | (with_reducible exact LeO.none _)
   | (with_reducible refine LeO.ite ?_ ?_)
   | (with_reducible refine LeO.bind ?_ (fun _ => ?_))
   | exact ih0 _ _ _
   | exact ih1 _ _ _ _ _ _ _
   | exact ih2 _ _ _ _ _ _
   | exact impl_WrapCell.mono _ _
   | exact LeO.none _
   | refine LeO.ite ?_ ?_
   | refine LeO.bind ?_ (fun _ => ?_)
  ·intro y0 y1 y2 y3 y4 y5 y6
   unfold impl_compiled.l0
   repeat' first
   | (with_reducible exact ih0 _ _ _)
   | (with_reducible exact ih1 _ _ _ _ _ _ _)
   | (with_reducible exact ih2 _ _ _ _ _ _)
   | (with_reducible exact impl_WrapCell.mono _ _)
   | (with_reducible exact LeO.refl _)
   | (with_reducible exact LeO.none _)
   | (with_reducible refine LeO.ite ?_ ?_)
   | (with_reducible refine LeO.bind ?_ (fun _ => ?_))
   | exact ih0 _ _ _
   | exact ih1 _ _ _ _ _ _ _
   | exact ih2 _ _ _ _ _ _
   | exact impl_WrapCell.mono _ _
   | exact LeO.none _
   | refine LeO.ite ?_ ?_
   | refine LeO.bind ?_ (fun _ => ?_)
  ·intro y0 y1 y2 y3 y4 y5
   unfold impl_compiled.j1
   repeat' first
   | (with_reducible exact ih0 _ _ _)
   | (with_reducible exact ih1 _ _ _ _ _ _ _)
   | (with_reducible exact ih2 _ _ _ _ _ _)
   | (with_reducible exact impl_WrapCell.mono _ _)
   | (with_reducible exact LeO.refl _)
   | (with_reducible exact LeO.none _)
   | (with_reducible refine LeO.ite ?_ ?_)
   | (with_reducible refine LeO.bind ?_ (fun _ => ?_))
   | exact ih0 _ _ _
   | exact ih1 _ _ _ _ _ _ _
   | exact ih2 _ _ _ _ _ _
   | exact impl_WrapCell.mono _ _
   | exact LeO.none _
   | refine LeO.ite ?_ ?_
   | refine LeO.bind ?_ (fun _ => ?_)
theorem impl_compiled.mono : ∀ a0 a1 a2 k, LeO (impl_compiled.f k a0 a1 a2) (impl_compiled.f (k + 1) a0 a1 a2) := by
 intro a0 a1 a2 k
 obtain ⟨ih0, ih1, ih2⟩ := impl_compiled.mono_l k
 exact ih0 a0 a1 a2
theorem impl_compiled.calls (k : Nat) : ∀ (a0_0 : Int) (a0_1 : Int) (A0_2 : Option Addr) (c0_2 : Nat) (l0_2 : List (S28)) (r1 : List (S50)) (r2 : Bool) (w : World) (hr0_2 : Kd.C k28 w A0_2 l0_2.length l0_2) (hc0_2 : l0_2.length ≤ c0_2) (h : impl_compiled.f k a0_0 a0_1 l0_2 = some (r1, r2)),
  Calls Try.prog 29 #[.agg #[.int .i64 a0_0, .int .i64 a0_1, .slice A0_2 l0_2.length c0_2]] w fun e w' => ∃ v0_ : Value, e = .returned (.tuple #[v0_, .bool r2]) ∧ Kd.R k50 50 w' w.heap.size (fun _ => True) v0_ r1 ∧ Below w.heap.size w w' := by
 induction k using Nat.strongRecOn with
 | _ k ih =>
 intro a0_0 a0_1 A0_2 c0_2 l0_2 r1 r2 w hr0_2 hc0_2 h
 cases k with
 | zero => exact absurd h (by simp [impl_compiled.f])
 | succ k =>
 simp only [impl_compiled.f] at h
 have hu28 := Try.underlying28
 have hu50 := Try.underlying50
 have HR0_2 := Ak hr0_2
 have HC0_2 := Ak hc0_2
 clear hr0_2 hc0_2
 have HB := Ak (Below.refl w.heap.size w)
 have H : (impl_compiled.l0 k (([] : List (S50))) l0_2 (l0_2.length : Int) 0 a0_0 a0_1 l0_2) = some (r1, r2) := h
 clear h
 obtain ⟨y177, hy177⟩ : ∃ y_ : List (S50), y_ = (([] : List (S50))) := ⟨_, rfl⟩
 replace H : (impl_compiled.l0 k y177 l0_2 (l0_2.length : Int) 0 a0_0 a0_1 l0_2) = some (r1, r2) := by first | (rw [hy177]; with_reducible exact H) | (have H2_ := (Option.bind_some _ _).symm.trans H; rw [hy177]; with_reducible exact H2_) | (have H2_ := (Option.bind_some _ _).symm.trans H; with_reducible exact H2_) | with_reducible exact H | (rw [hy177]; exact H) | exact H
 have Ny177 := Ak hy177
 clear hy177
 have H' := Ak H
 clear H
 go_enter Try.func29, Try.ntmps29
 go_wp2_with (first | ((with_reducible refine gate_dst (N := 1) rfl ?_); refine Qk 1 #[.int .i64 a0_0, .int .i64 a0_1, .slice A0_2 l0_2.length c0_2] 28 ?_; intro gb176 hg w2 hbox hb; have n0_ := Ak (below_step (Qb HB.out) hb); have n1_ := Ak (hbox); have n2_ := Ak ((Qp hg HB.out : w.heap.size ≤ gb176)); have n3_ := Ak ((Qp hg HB.out : w.heap.size ≤ gb176)); clear HB; have HB := n0_; have BK176 := n1_; have GW176 := n2_; have GE176 := n3_; clear n0_ n1_ n2_ n3_; clear hb hbox hg) | ((with_reducible refine gate_dst (N := 9) rfl ?_); refine Kd.R_lit k50 _ 50 ?hg (N := 9) ?hd (xs := ([] : List (S50))) (inner := []) (ok := fun _ => True) (okp := fun _ => True) ?hr ?hp (fun _ hk => hk) trivial (Below.refl _ _) (Nat.le_refl _) (by simp) ?_; (case hd => rfl); (case hg => rfl); (case hr => first | (go_simp; done) | (go_simp; rfl)); (case hp => exact (Reps.none _ _)); intro v178 w3 ho4 hb hg_ hnew_; clear hg_ hnew_; (first | rw [← Ny177.out] at ho4 | (simp only [Int.reduceToNat] at ho4; rw [← Ny177.out] at ho4)); have n0_ := Ak (Kd.R_lower ho4 (below_size (Qb HB.out))); have n1_ := Ak (Qm BK176.out hb); have n2_ := Ak (below_step (Qb HB.out) hb); clear BK176 HB; have HO179 := n0_; have BK176 := n1_; have HB := n2_; clear n0_ n1_ n2_; clear hb ho4; obtain ⟨hcz5_0, hcz5_1, hcz5_2⟩ := Qu3 BK176.out; have hfz5_0 := blk_frozen BK176.out 0; have hfz5_1 := blk_frozen BK176.out 1; have hfz5_2 := blk_frozen BK176.out 2))
 go_loopg [4, 13] k (fun kq v4 v13 w' => ∃ (x4_1 : List (S50)) (x13_1 : Int), v13 = .int .i64 x13_1 ∧ Aside0 (impl_compiled.l0 kq x4_1 l0_2 (l0_2.length : Int) x13_1 a0_0 a0_1 l0_2 = some (r1, r2)) ∧ Aside0 (kq ≤ k) ∧ Aside0 (Kd.R k50 50 w' w.heap.size (fun _ => True) v4 x4_1) ∧ Aside0 (w'.heap[gb176]? = some (.cells #[.int .i64 a0_0, .int .i64 a0_1, (.slice A0_2 l0_2.length c0_2)] 28 (0, 0))) ∧ Aside0 (Below w.heap.size w w'))
 case atStart => exact ⟨(y177), (0), Qi, H', ⟨Nat.le_refl _⟩, ⟨by refine Qf ?_; exact HO179.out⟩, ⟨by refine Qe ?_; exact BK176.out⟩, ⟨Qb HB.out⟩⟩
 case round =>
  clear H'
  (try clear c2); (try clear p2); (try clear hcz5_0); (try clear hcz5_1); (try clear hcz5_2); (try clear hfz5_0); (try clear hfz5_1); (try clear hfz5_2)
  obtain ⟨x4_1, x13_1, rfl, HA, HK1, HO_4, BK176, HB⟩ := hrel
  cases gk with
  | zero => exact absurd HA.out (by simp [impl_compiled.l0])
  | succ k1 =>
   have H := HA.out
   clear HA
   simp only [impl_compiled.l0] at H
   by_cases c6 : x13_1 < (l0_2.length : Int)
   ·rw [if_pos c6] at H
    have c6b0 : decide (x13_1 < (l0_2.length : Int)) = true := decide_eq_true c6
    clear c6
    by_cases c7 : 0 ≤ x13_1
    ·rw [if_pos c7] at H
     have c7b0 : decide (0 ≤ x13_1) = true := decide_eq_true c7
     clear c7
     by_cases c8 : x13_1 < (l0_2.length : Int)
     ·rw [if_pos c8] at H
      have c8b0 : decide (x13_1 < (l0_2.length : Int)) = true := decide_eq_true c8
      clear c8
      replace H := Option.bind_eq_some_iff.mp H
      obtain ⟨⟨t182, t185⟩, A90, H⟩ := H
      replace H : (if t185 = true then (if x4_1.length + t182.length < 4398046511104 then (impl_compiled.l0 k1 (x4_1 ++ t182) l0_2 (l0_2.length : Int) (wrap64 (x13_1 + 1)) a0_0 a0_1 l0_2) else (none)) else (some (([] : List (S50)), false))) = some (r1, r2) := H
      have A9 := Ak A90
      clear A90
      by_cases c10 : t185 = true
      ·(try subst c10)
       have H1 : (if x4_1.length + t182.length < 4398046511104 then (impl_compiled.l0 k1 (x4_1 ++ t182) l0_2 (l0_2.length : Int) (wrap64 (x13_1 + 1)) a0_0 a0_1 l0_2) else (none)) = some (r1, r2) := by rw [if_pos rfl] at H; exact H
       clear H
       have H := H1
       clear H1
       by_cases c11 : x4_1.length + t182.length < 4398046511104
       ·rw [if_pos c11] at H
        have LMc11 := Ak c11
        clear c11
        obtain ⟨y186, hy186⟩ : ∃ y_ : List (S50), y_ = (x4_1 ++ t182) := ⟨_, rfl⟩
        replace H : (impl_compiled.l0 k1 y186 l0_2 (l0_2.length : Int) (wrap64 (x13_1 + 1)) a0_0 a0_1 l0_2) = some (r1, r2) := by first | (rw [hy186]; with_reducible exact H) | (have H2_ := (Option.bind_some _ _).symm.trans H; rw [hy186]; with_reducible exact H2_) | (have H2_ := (Option.bind_some _ _).symm.trans H; with_reducible exact H2_) | with_reducible exact H | (rw [hy186]; exact H) | exact H
        have Ny186 := Ak hy186
        clear hy186
        have H' := Ak H
        clear H
        have p180 : 0 ≤ (x13_1 : Int) := Qg
        have q180 : x13_1 < (l0_2.length : Int) := Qg
        obtain ⟨ad180, A180_2, c180_2, e180, hx180_0, hx180_1, hx180_2, hl180_2, hi180_2⟩ := at_T28 HR0_2.out x13_1 p180 q180
        cases e180
        (try replace hx180_0 := (HB.out.cell (World.block_lt_of_cell? w _ hx180_0)).trans hx180_0)
        (try replace hx180_1 := (HB.out.cell (World.block_lt_of_cell? w _ hx180_1)).trans hx180_1)
        (try replace hx180_2 := (HB.out.cell (World.block_lt_of_cell? w _ hx180_2)).trans hx180_2)
        have HR180_2 := Ak hi180_2
        have HC180_2 := Ak hl180_2
        clear hi180_2 hl180_2
        replace p180 := eq_true p180
        replace q180 := eq_true q180
        go_wp2_with (first | ((with_reducible refine gate_dst (N := 6) rfl ?_); refine Qk 6 #[.int .i64 0, .int .i64 0, .slice none 0 0] 28 ?_; intro gb181 hg w12 hbox hb; have n0_ := Ak (Kd.R_below (Qc HO_4.out) hb); have n1_ := Ak (Qm BK176.out hb); have n2_ := Ak (below_step (Qb HB.out) hb); have n3_ := Ak (hbox); have n4_ := Ak ((Qp hg HB.out : w.heap.size ≤ gb181)); have n5_ := Ak ((Qp hg HB.out : w.heap.size ≤ gb181)); have n6_ := Ak ((by rw [hg]; exact Nat.ne_of_lt (Qn BK176.out) : gb176 ≠ gb181)); have n7_ := Ak ((by rw [hg]; exact Nat.ne_of_gt (Qn BK176.out) : gb181 ≠ gb176)); clear HO_4 BK176 HB; have HO_4 := n0_; have BK176 := n1_; have HB := n2_; have BK181 := n3_; have GW181 := n4_; have GE181 := n5_; have NB176_181 := n6_; have NB181_176 := n7_; clear n0_ n1_ n2_ n3_ n4_ n5_ n6_ n7_; clear hb hbox hg; have hnb13 := NB181_176.out; have hnc13 := NB176_181.out; obtain ⟨hcz14_0, hcz14_1, hcz14_2⟩ := Qu3 BK181.out; have hfz14_0 := blk_frozen BK181.out 0; have hfz14_1 := blk_frozen BK181.out 1; have hfz14_2 := blk_frozen BK181.out 2) | ((with_reducible refine gate_callee (f := 29) rfl ?_); refine Qj (some 19) Try.func29 #[.agg #[.int .i64 ((rd_T28 l0_2 x13_1).f0), .int .i64 ((rd_T28 l0_2 x13_1).f1), .slice A180_2 ((rd_T28 l0_2 x13_1).f2).length c180_2]] ?_; (with_reducible refine (ih k1 (by have := HK1.out; omega) ((rd_T28 l0_2 x13_1).f0) ((rd_T28 l0_2 x13_1).f1) _ _ ((rd_T28 l0_2 x13_1).f2) t182 true _ ?side1 ?side2 A9.out).mono ?_); (case side1 => exact Kd.C_below HR180_2.out (Qb HB.out)); (case side2 => exact HC180_2.out); rintro e w15 ⟨v183, rfl, ho0, hb⟩; refine ⟨_, rfl, ?_⟩; have n0_ := Ak (Kd.R_elder' (by refine Qf ?_; exact (Kd.R_mono (Kd.R_far (p := ⟨gb181, 2, none⟩) (Kd.R_far (p := ⟨gb181, 1, none⟩) (Kd.R_far (p := ⟨gb181, 0, none⟩) (Kd.R_types HO_4.out BK181.out (by decide)) (fun _ hk => hk.2) (.int .i64 ((rd_T28 l0_2 x13_1).f0))) (fun _ hk => hk.2) (.int .i64 ((rd_T28 l0_2 x13_1).f1))) (fun _ hk => hk.2) (.slice A180_2 ((rd_T28 l0_2 x13_1).f2).length c180_2)) (fun _ h_ => h_.1))) (Kd.R_base ho0) hb); have n1_ := Ak (Kd.R_lower (Kd.R_new' ho0 (Kd.R_lt (by refine Qf ?_; exact (Kd.R_mono (Kd.R_far (p := ⟨gb181, 2, none⟩) (Kd.R_far (p := ⟨gb181, 1, none⟩) (Kd.R_far (p := ⟨gb181, 0, none⟩) (Kd.R_types HO_4.out BK181.out (by decide)) (fun _ hk => hk.2) (.int .i64 ((rd_T28 l0_2 x13_1).f0))) (fun _ hk => hk.2) (.int .i64 ((rd_T28 l0_2 x13_1).f1))) (fun _ hk => hk.2) (.slice A180_2 ((rd_T28 l0_2 x13_1).f2).length c180_2)) (fun _ h_ => h_.1))))) (below_size (Qb HB.out))); have n2_ := Ak (blk_below (g := gb176) (o := .cells #[.int .i64 a0_0, .int .i64 a0_1, .slice (some ad180) l0_2.length c0_2] 28 (0, 0)) (by refine Qe ?_; refine blk_far ?_ NB176_181.out _; refine Qe ?_; refine blk_far ?_ NB176_181.out _; refine Qe ?_; refine blk_far ?_ NB176_181.out _; exact Qa BK176.out) hb); have n3_ := Ak (blk_below (g := gb181) (o := .cells #[.int .i64 ((rd_T28 l0_2 x13_1).f0), .int .i64 ((rd_T28 l0_2 x13_1).f1), .slice A180_2 ((rd_T28 l0_2 x13_1).f2).length c180_2] 28 (0, 0)) (by refine Qe ?_; refine blk_put (cs := #[.int .i64 ((rd_T28 l0_2 x13_1).f0), .int .i64 ((rd_T28 l0_2 x13_1).f1), .slice none 0 0]) ?_ 2 _ rfl; refine Qe ?_; refine blk_put (cs := #[.int .i64 ((rd_T28 l0_2 x13_1).f0), .int .i64 0, .slice none 0 0]) ?_ 1 _ rfl; refine Qe ?_; refine blk_put (cs := #[.int .i64 0, .int .i64 0, .slice none 0 0]) ?_ 0 _ rfl; exact Qa BK181.out) hb); have n4_ := Ak (below_step (Qb HB.out) hb); clear HO_4 BK176 BK181 HB; have HO_4 := n0_; have HO184 := n1_; have BK176 := n2_; have BK181 := n3_; have HB := n4_; clear n0_ n1_ n2_ n3_ n4_; (try clear hb); (try clear hb2); (try clear hk); (try clear hi); (try clear ho0); obtain ⟨Ao17, co17, eo17⟩ := Kd.R_slice HO184.out; subst eo17) | ((with_reducible refine gate_builtin (b := .append) (xs := #[.tmp 24, .tmp 25]) rfl ?_); at_builtin; refine Kd.R_append_rows k50 (w0 := w) w.heap.size rfl (.tmp 24) (.tmp 25) 35 50 (.agg #[(.int .i64 0), (.int .i64 0), (.int .i64 0), (.int .i64 0)]) 32 rfl Try.underlying35 info50 rfl (by decide) (by omega) u4 x4_1 t182 _ _ _ (fun k_ => some k_ ≠ (.slice Ao17 t182.length co17 : Value).ownBlock) (fun _ => False) rfl rfl ?aO ?aR (fun _ _ h => h) (fun _ h => h.elim) ?aF ?aB ?aS ?aL ?_; (case aR => repeat (first | exact (Kd.R_reads' HO184.out).2.2 | (with_reducible refine Kd.C_alloc ?_ _) | (with_reducible refine Kd.C_drewN ?_ _) | (with_reducible refine Kd.C_drew ?_))); (case aB => exact (Qb HB.out)); (case aF => exact (fun k_ hk => Kd.fresh' (Kd.R_lt (Qc HO184.out)) k_ hk)); (case aO => exact (by refine Qf ?_; exact Kd.R_mono HO_4.out (fun _ hk => hk.2))); (case aS => exact (below_size (Qb HB.out))); (case aL => have := LMc11.out; omega); intro v187 w16 ho hb hg hat; rw [← Ny186.out] at ho; have n0_ := Ak (blk_grown (g := gb176) (o := .cells #[.int .i64 a0_0, .int .i64 a0_1, .slice (some ad180) l0_2.length c0_2] 28 (0, 0)) (Qa BK176.out) hg (Kd.R_ne HO_4.out BK176.out (by decide))); have n1_ := Ak (blk_grown (g := gb181) (o := .cells #[.int .i64 ((rd_T28 l0_2 x13_1).f0), .int .i64 ((rd_T28 l0_2 x13_1).f1), .slice A180_2 ((rd_T28 l0_2 x13_1).f2).length c180_2] 28 (0, 0)) (Qa BK181.out) hg (Kd.R_ne HO_4.out BK181.out (by decide))); have n2_ := Ak (Kd.R_after (ok := (fun _ => True)) (Qc HO184.out) hg hat); have n3_ := Ak (hb); have n4_ := Ak (ho); clear BK176 BK181 HO184 HB HO_4; have BK176 := n0_; have BK181 := n1_; have HO184 := n2_; have HB := n3_; have HO188 := n4_; clear n0_ n1_ n2_ n3_ n4_; clear ho hb hg hat))
        go_roundg k1
        case measure => have := HK1.out; omega
        case rel => exact ⟨(y186), (wrap64 (x13_1 + 1)), Qi, H', ⟨by have := HK1.out; omega⟩, ⟨by refine Qf ?_; exact Kd.R_mono HO188.out (fun _ hk => trivial)⟩, ⟨by refine Qe ?_; exact BK176.out⟩, ⟨Qb HB.out⟩⟩
       ·rw [if_neg c11] at H
        exact absurd H (by simp)
      ·replace c10 := Bool.eq_false_iff.mpr c10
       (try subst c10)
       have H1 : (some (([] : List (S50)), false)) = some (r1, r2) := by rw [if_neg (show ¬ (false = true) by decide)] at H; exact H
       clear H
       have H := H1
       clear H1
       simp only [Option.some.injEq, Prod.mk.injEq] at H
       obtain ⟨rfl, rfl⟩ := H
       have p180 : 0 ≤ (x13_1 : Int) := Qg
       have q180 : x13_1 < (l0_2.length : Int) := Qg
       obtain ⟨ad180, A180_2, c180_2, e180, hx180_0, hx180_1, hx180_2, hl180_2, hi180_2⟩ := at_T28 HR0_2.out x13_1 p180 q180
       cases e180
       (try replace hx180_0 := (HB.out.cell (World.block_lt_of_cell? w _ hx180_0)).trans hx180_0)
       (try replace hx180_1 := (HB.out.cell (World.block_lt_of_cell? w _ hx180_1)).trans hx180_1)
       (try replace hx180_2 := (HB.out.cell (World.block_lt_of_cell? w _ hx180_2)).trans hx180_2)
       have HR180_2 := Ak hi180_2
       have HC180_2 := Ak hl180_2
       clear hi180_2 hl180_2
       replace p180 := eq_true p180
       replace q180 := eq_true q180
       go_wp2_with (first | ((with_reducible refine gate_dst (N := 6) rfl ?_); refine Qk 6 #[.int .i64 0, .int .i64 0, .slice none 0 0] 28 ?_; intro gb181 hg w18 hbox hb; have n0_ := Ak (Kd.R_below (Qc HO_4.out) hb); have n1_ := Ak (Qm BK176.out hb); have n2_ := Ak (below_step (Qb HB.out) hb); have n3_ := Ak (hbox); have n4_ := Ak ((Qp hg HB.out : w.heap.size ≤ gb181)); have n5_ := Ak ((Qp hg HB.out : w.heap.size ≤ gb181)); have n6_ := Ak ((by rw [hg]; exact Nat.ne_of_lt (Qn BK176.out) : gb176 ≠ gb181)); have n7_ := Ak ((by rw [hg]; exact Nat.ne_of_gt (Qn BK176.out) : gb181 ≠ gb176)); clear HO_4 BK176 HB; have HO_4 := n0_; have BK176 := n1_; have HB := n2_; have BK181 := n3_; have GW181 := n4_; have GE181 := n5_; have NB176_181 := n6_; have NB181_176 := n7_; clear n0_ n1_ n2_ n3_ n4_ n5_ n6_ n7_; clear hb hbox hg; have hnb19 := NB181_176.out; have hnc19 := NB176_181.out; obtain ⟨hcz20_0, hcz20_1, hcz20_2⟩ := Qu3 BK181.out; have hfz20_0 := blk_frozen BK181.out 0; have hfz20_1 := blk_frozen BK181.out 1; have hfz20_2 := blk_frozen BK181.out 2) | ((with_reducible refine gate_callee (f := 29) rfl ?_); refine Qj (some 19) Try.func29 #[.agg #[.int .i64 ((rd_T28 l0_2 x13_1).f0), .int .i64 ((rd_T28 l0_2 x13_1).f1), .slice A180_2 ((rd_T28 l0_2 x13_1).f2).length c180_2]] ?_; (with_reducible refine (ih k1 (by have := HK1.out; omega) ((rd_T28 l0_2 x13_1).f0) ((rd_T28 l0_2 x13_1).f1) _ _ ((rd_T28 l0_2 x13_1).f2) t182 false _ ?side1 ?side2 A9.out).mono ?_); (case side1 => exact Kd.C_below HR180_2.out (Qb HB.out)); (case side2 => exact HC180_2.out); rintro e w21 ⟨v183, rfl, ho0, hb⟩; refine ⟨_, rfl, ?_⟩; have n0_ := Ak (Kd.R_elder' (by refine Qf ?_; exact (Kd.R_mono (Kd.R_far (p := ⟨gb181, 2, none⟩) (Kd.R_far (p := ⟨gb181, 1, none⟩) (Kd.R_far (p := ⟨gb181, 0, none⟩) (Kd.R_types HO_4.out BK181.out (by decide)) (fun _ hk => hk.2) (.int .i64 ((rd_T28 l0_2 x13_1).f0))) (fun _ hk => hk.2) (.int .i64 ((rd_T28 l0_2 x13_1).f1))) (fun _ hk => hk.2) (.slice A180_2 ((rd_T28 l0_2 x13_1).f2).length c180_2)) (fun _ h_ => h_.1))) (Kd.R_base ho0) hb); have n1_ := Ak (Kd.R_lower (Kd.R_new' ho0 (Kd.R_lt (by refine Qf ?_; exact (Kd.R_mono (Kd.R_far (p := ⟨gb181, 2, none⟩) (Kd.R_far (p := ⟨gb181, 1, none⟩) (Kd.R_far (p := ⟨gb181, 0, none⟩) (Kd.R_types HO_4.out BK181.out (by decide)) (fun _ hk => hk.2) (.int .i64 ((rd_T28 l0_2 x13_1).f0))) (fun _ hk => hk.2) (.int .i64 ((rd_T28 l0_2 x13_1).f1))) (fun _ hk => hk.2) (.slice A180_2 ((rd_T28 l0_2 x13_1).f2).length c180_2)) (fun _ h_ => h_.1))))) (below_size (Qb HB.out))); have n2_ := Ak (blk_below (g := gb176) (o := .cells #[.int .i64 a0_0, .int .i64 a0_1, .slice (some ad180) l0_2.length c0_2] 28 (0, 0)) (by refine Qe ?_; refine blk_far ?_ NB176_181.out _; refine Qe ?_; refine blk_far ?_ NB176_181.out _; refine Qe ?_; refine blk_far ?_ NB176_181.out _; exact Qa BK176.out) hb); have n3_ := Ak (blk_below (g := gb181) (o := .cells #[.int .i64 ((rd_T28 l0_2 x13_1).f0), .int .i64 ((rd_T28 l0_2 x13_1).f1), .slice A180_2 ((rd_T28 l0_2 x13_1).f2).length c180_2] 28 (0, 0)) (by refine Qe ?_; refine blk_put (cs := #[.int .i64 ((rd_T28 l0_2 x13_1).f0), .int .i64 ((rd_T28 l0_2 x13_1).f1), .slice none 0 0]) ?_ 2 _ rfl; refine Qe ?_; refine blk_put (cs := #[.int .i64 ((rd_T28 l0_2 x13_1).f0), .int .i64 0, .slice none 0 0]) ?_ 1 _ rfl; refine Qe ?_; refine blk_put (cs := #[.int .i64 0, .int .i64 0, .slice none 0 0]) ?_ 0 _ rfl; exact Qa BK181.out) hb); have n4_ := Ak (below_step (Qb HB.out) hb); clear HO_4 BK176 BK181 HB; have HO_4 := n0_; have HO184 := n1_; have BK176 := n2_; have BK181 := n3_; have HB := n4_; clear n0_ n1_ n2_ n3_ n4_; (try clear hb); (try clear hb2); (try clear hk); (try clear hi); (try clear ho0)))
       go_ret2
       exact ⟨_, Qh, by first | exact Kd.R_nil _ _ _ _ _ | exact Kd.N_nil _ _ _ _ _ | exact Kd.V_nil _ _ _ _ _ | exact Kd.Q_nil _ _ _ _ _ | exact Kd.S_nil _ _ _ _ _, Qb HB.out⟩
     ·rw [if_neg c8] at H
      exact absurd H (by simp)
    ·rw [if_neg c7] at H
     exact absurd H (by simp)
   ·rw [if_neg c6] at H
    have c6b0 : decide (x13_1 < (l0_2.length : Int)) = false := decide_eq_false c6
    clear c6
    by_cases c22 : a0_0 = 1
    ·rw [if_pos c22] at H
     have c22b0 : (a0_0 == 1) = true := beq_iff_eq.mpr c22
     have c22b1 : (a0_0 != 1) = false := bne_eq_false_iff_eq.mpr c22
     clear c22
     replace H := Option.bind_eq_some_iff.mp H
     obtain ⟨t189, A230, H⟩ := H
     replace H : (if x4_1.length < 4398046511104 then (some ((x4_1 ++ [(⟨1, t189, 0, 0⟩ : S50)]), true)) else (none)) = some (r1, r2) := H
     have A23 := Ak A230
     clear A230
     by_cases c24 : x4_1.length < 4398046511104
     ·rw [if_pos c24] at H
      have LMc24 := Ak c24
      clear c24
      obtain ⟨y190, hy190⟩ : ∃ y_ : List (S50), y_ = (x4_1 ++ [(⟨1, t189, 0, 0⟩ : S50)]) := ⟨_, rfl⟩
      replace H : (some (y190, true)) = some (r1, r2) := by first | (rw [hy190]; with_reducible exact H) | (have H2_ := (Option.bind_some _ _).symm.trans H; rw [hy190]; with_reducible exact H2_) | (have H2_ := (Option.bind_some _ _).symm.trans H; with_reducible exact H2_) | with_reducible exact H | (rw [hy190]; exact H) | exact H
      have Ny190 := Ak hy190
      clear hy190
      simp only [Option.some.injEq, Prod.mk.injEq] at H
      obtain ⟨rfl, rfl⟩ := H
      obtain ⟨hcz25_0, hcz25_1, hcz25_2, hfz25_0, hfz25_1, hfz25_2⟩ := Qv3 BK176.out
      go_wp2_with (first | ((with_reducible refine gate_callee (f := 39) rfl ?_); refine Qj (some 35) Try.func39 #[.int .i64 a0_1] ?_; (with_reducible refine (impl_WrapCell.calls k1 a0_1 t189 _ A23.out).mono ?_); rintro e w26 ⟨rfl, hb⟩; refine ⟨_, rfl, ?_⟩; have n0_ := Ak (Kd.R_below (Qc HO_4.out) hb); have n1_ := Ak (Qm BK176.out hb); have n2_ := Ak (below_step (Qb HB.out) hb); clear HO_4 BK176 HB; have HO_4 := n0_; have BK176 := n1_; have HB := n2_; clear n0_ n1_ n2_; (try clear hb); (try clear hb2); (try clear hk); (try clear hi)) | ((with_reducible refine gate_builtin (b := .append) (xs := #[.tmp 32, .tmp 37]) rfl ?_); at_builtin; refine Kd.R_append k50 (w0 := w) w.heap.size rfl (.tmp 32) (.tmp 37) 35 50 (.agg #[(.int .i64 0), (.int .i64 0), (.int .i64 0), (.int .i64 0)]) 32 rfl Try.underlying35 info50 rfl (by decide) (by omega) u4 x4_1 (⟨1, t189, 0, 0⟩ : S50) [.int .i64 1, .int .i64 t189, .int .i64 0, .int .i64 0] (fun _ => True) (fun _ => False) rfl rfl ?aP (fun _ hk => hk.elim) ?aF ?aO ?aB ?aS ?aL ?_; (case aP => exact k50_mkM _ _ _ (⟨1, t189, 0, 0⟩ : S50)); (case aB => exact (Qb HB.out)); (case aF => exact (fun _ _ => trivial)); (case aO => exact (Qc HO_4.out)); (case aS => exact (below_size (Qb HB.out))); (case aL => have := LMc24.out; omega); intro v191 w27 ho hb hg hat; rw [← Ny190.out] at ho; have n0_ := Ak (blk_grown (g := gb176) (o := .cells #[.int .i64 a0_0, .int .i64 a0_1, .slice A0_2 l0_2.length c0_2] 28 (0, 0)) (Qa BK176.out) hg (Kd.R_ne HO_4.out BK176.out (by decide))); have n1_ := Ak (hb); have n2_ := Ak (ho); clear BK176 HB HO_4; have BK176 := n0_; have HB := n1_; have HO192 := n2_; clear n0_ n1_ n2_; clear ho hb hg hat))
      go_ret2
      exact ⟨_, Qh, by refine Qf ?_; exact HO192.out, Qb HB.out⟩
     ·rw [if_neg c24] at H
      exact absurd H (by simp)
    ·rw [if_neg c22] at H
     have c22b0 : (a0_0 == 1) = false := beq_eq_false_iff_ne.mpr c22
     have c22b1 : (a0_0 != 1) = true := bne_iff_ne.mpr c22
     by_cases c28 : a0_0 = 3
     ·rw [if_pos c28] at H
      have c28b0 : (a0_0 == 3) = true := beq_iff_eq.mpr c28
      have c28b1 : (a0_0 != 3) = false := bne_eq_false_iff_eq.mpr c28
      clear c28
      by_cases c29 : x4_1.length < 4398046511104
      ·rw [if_pos c29] at H
       have LMc29 := Ak c29
       clear c29
       obtain ⟨y193, hy193⟩ : ∃ y_ : List (S50), y_ = (x4_1 ++ [(⟨5, 0, 0, 0⟩ : S50)]) := ⟨_, rfl⟩
       replace H : (some (y193, true)) = some (r1, r2) := by first | (rw [hy193]; with_reducible exact H) | (have H2_ := (Option.bind_some _ _).symm.trans H; rw [hy193]; with_reducible exact H2_) | (have H2_ := (Option.bind_some _ _).symm.trans H; with_reducible exact H2_) | with_reducible exact H | (rw [hy193]; exact H) | exact H
       have Ny193 := Ak hy193
       clear hy193
       simp only [Option.some.injEq, Prod.mk.injEq] at H
       obtain ⟨rfl, rfl⟩ := H
       obtain ⟨hcz30_0, hcz30_1, hcz30_2, hfz30_0, hfz30_1, hfz30_2⟩ := Qv3 BK176.out
       go_wp2_with (first | ((with_reducible refine gate_builtin (b := .append) (xs := #[.tmp 41, .tmp 43]) rfl ?_); at_builtin; refine Kd.R_append k50 (w0 := w) w.heap.size rfl (.tmp 41) (.tmp 43) 35 50 (.agg #[(.int .i64 0), (.int .i64 0), (.int .i64 0), (.int .i64 0)]) 32 rfl Try.underlying35 info50 rfl (by decide) (by omega) u4 x4_1 (⟨5, 0, 0, 0⟩ : S50) [.int .i64 5, .int .i64 0, .int .i64 0, .int .i64 0] (fun _ => True) (fun _ => False) rfl rfl ?aP (fun _ hk => hk.elim) ?aF ?aO ?aB ?aS ?aL ?_; (case aP => exact k50_mkM _ _ _ (⟨5, 0, 0, 0⟩ : S50)); (case aB => exact (Qb HB.out)); (case aF => exact (fun _ _ => trivial)); (case aO => exact (Qc HO_4.out)); (case aS => exact (below_size (Qb HB.out))); (case aL => have := LMc29.out; omega); intro v194 w31 ho hb hg hat; rw [← Ny193.out] at ho; have n0_ := Ak (blk_grown (g := gb176) (o := .cells #[.int .i64 a0_0, .int .i64 a0_1, .slice A0_2 l0_2.length c0_2] 28 (0, 0)) (Qa BK176.out) hg (Kd.R_ne HO_4.out BK176.out (by decide))); have n1_ := Ak (hb); have n2_ := Ak (ho); clear BK176 HB HO_4; have BK176 := n0_; have HB := n1_; have HO195 := n2_; clear n0_ n1_ n2_; clear ho hb hg hat))
       go_ret2
       exact ⟨_, Qh, by refine Qf ?_; exact HO195.out, Qb HB.out⟩
      ·rw [if_neg c29] at H
       exact absurd H (by simp)
     ·rw [if_neg c28] at H
      have c28b0 : (a0_0 == 3) = false := beq_eq_false_iff_ne.mpr c28
      have c28b1 : (a0_0 != 3) = true := bne_iff_ne.mpr c28
      have HC32 := Ak H
      clear H
      obtain ⟨hcz33_0, hcz33_1, hcz33_2, hfz33_0, hfz33_1, hfz33_2⟩ := Qv3 BK176.out
      go_upto_if 45 with (fail)
      go_cut [45] (fun v45 wc => ∃ (kq : Nat) (x45_31 : Bool), v45 = .bool x45_31 ∧ Aside0 (impl_compiled.j1 kq x4_1 a0_0 x45_31 a0_0 a0_1 l0_2 = some (r1, r2)) ∧ Aside0 (kq ≤ k1) ∧ Aside0 (Kd.R k50 50 wc w.heap.size (fun _ => True) u4 x4_1) ∧ Aside0 (wc.heap[gb176]? = some (.cells #[.int .i64 a0_0, .int .i64 a0_1, (.slice A0_2 l0_2.length c0_2)] 28 (0, 0))) ∧ Aside0 (Below w.heap.size w wc))
      case first =>
       have H := HC32.out
       clear HC32
       by_cases c34 : a0_0 = 4
       ·rw [if_pos c34] at H
        have c34b0 : (a0_0 == 4) = true := beq_iff_eq.mpr c34
        have c34b1 : (a0_0 != 4) = false := bne_eq_false_iff_eq.mpr c34
        clear c34
        (first | rw [c34b0] | (simp only [i64_w, i32_w]; rw [c34b0]) | skip)
        have H' := Ak H
        clear H
        go_wp2
        go_meet
        case rel => exact ⟨_, ((a0_0 == 4)), Qi, H', ⟨by have := HK1.out; first | omega | exact Nat.le_refl _⟩, ⟨by refine Qf ?_; exact HO_4.out⟩, ⟨by refine Qe ?_; exact BK176.out⟩, ⟨Qb HB.out⟩⟩
       ·rw [if_neg c34] at H
        have c34b0 : (a0_0 == 4) = false := beq_eq_false_iff_ne.mpr c34
        have c34b1 : (a0_0 != 4) = true := bne_iff_ne.mpr c34
        (first | rw [c34b0] | (simp only [i64_w, i32_w]; rw [c34b0]) | skip)
        by_cases c35 : a0_0 = 5
        ·rw [if_pos c35] at H
         have c35b0 : (a0_0 == 5) = true := beq_iff_eq.mpr c35
         have c35b1 : (a0_0 != 5) = false := bne_eq_false_iff_eq.mpr c35
         clear c35
         have H' := Ak H
         clear H
         go_wp2
         go_meet
         case rel => exact ⟨_, ((a0_0 == 5)), Qi, H', ⟨by have := HK1.out; first | omega | exact Nat.le_refl _⟩, ⟨by refine Qf ?_; exact HO_4.out⟩, ⟨by refine Qe ?_; exact BK176.out⟩, ⟨Qb HB.out⟩⟩
        ·rw [if_neg c35] at H
         have c35b0 : (a0_0 == 5) = false := beq_eq_false_iff_ne.mpr c35
         have c35b1 : (a0_0 != 5) = true := bne_iff_ne.mpr c35
         have H' := Ak H
         clear H
         go_wp2
         go_meet
         case rel => exact ⟨_, ((a0_0 == 6)), Qi, H', ⟨by have := HK1.out; first | omega | exact Nat.le_refl _⟩, ⟨by refine Qf ?_; exact HO_4.out⟩, ⟨by refine Qe ?_; exact BK176.out⟩, ⟨Qb HB.out⟩⟩
      case rest =>
       clear HC32
       (try clear c1); (try clear p1); (try clear q1); (try clear hx1); (try clear c2); (try clear p2); (try clear c3); (try clear c6); (try clear c6b0); (try clear p6); (try clear c7); (try clear c7b0); (try clear c8); (try clear c8b0); (try clear c10); (try clear c11); (try clear c13); (try clear c18); (try clear p18); (try clear q18); (try clear hx18); (try clear c19); (try clear c22); (try clear c22b0); (try clear c22b1); (try clear c24); (try clear c28); (try clear c28b0); (try clear c28b1); (try clear c29); (try clear c34); (try clear c34b0); (try clear c34b1); (try clear c35); (try clear c35b0); (try clear c35b1); (try clear hcz14_0); (try clear hcz14_1); (try clear hcz14_2); (try clear hcz20_0); (try clear hcz20_1); (try clear hcz20_2); (try clear hcz25_0); (try clear hcz25_1); (try clear hcz25_2); (try clear hcz30_0); (try clear hcz30_1); (try clear hcz30_2); (try clear hcz33_0); (try clear hcz33_1); (try clear hcz33_2); (try clear hcz5_0); (try clear hcz5_1); (try clear hcz5_2); (try clear hfz14_0); (try clear hfz14_1); (try clear hfz14_2); (try clear hfz20_0); (try clear hfz20_1); (try clear hfz20_2); (try clear hfz25_0); (try clear hfz25_1); (try clear hfz25_2); (try clear hfz30_0); (try clear hfz30_1); (try clear hfz30_2); (try clear hfz33_0); (try clear hfz33_1); (try clear hfz33_2); (try clear hfz5_0); (try clear hfz5_1); (try clear hfz5_2); (try clear hx180_0); (try clear hx180_1); (try clear hx180_2); (try clear p180); (try clear p2); (try clear q180)
       obtain ⟨kq, x45_31, rfl, HA, HJ31, HO_4, BK176, HB⟩ := hcut
       cases kq with
       | zero => exact absurd HA.out (by simp [impl_compiled.j1])
       | succ kj31 =>
        have H := HA.out
        clear HA
        simp only [impl_compiled.j1] at H
        by_cases c36 : x45_31 = true
        ·(try subst c36)
         have H1 : (if x4_1.length < 4398046511104 then (some ((x4_1 ++ [(⟨wrap64 ((wrap64 (2 + a0_0)) - 4), 0, 0, 0⟩ : S50)]), true)) else (none)) = some (r1, r2) := by rw [if_pos rfl] at H; exact H
         clear H
         have H := H1
         clear H1
         by_cases c37 : x4_1.length < 4398046511104
         ·rw [if_pos c37] at H
          have LMc37 := Ak c37
          clear c37
          obtain ⟨y196, hy196⟩ : ∃ y_ : List (S50), y_ = (x4_1 ++ [(⟨wrap64 ((wrap64 (2 + a0_0)) - 4), 0, 0, 0⟩ : S50)]) := ⟨_, rfl⟩
          replace H : (some (y196, true)) = some (r1, r2) := by first | (rw [hy196]; with_reducible exact H) | (have H2_ := (Option.bind_some _ _).symm.trans H; rw [hy196]; with_reducible exact H2_) | (have H2_ := (Option.bind_some _ _).symm.trans H; with_reducible exact H2_) | with_reducible exact H | (rw [hy196]; exact H) | exact H
          have Ny196 := Ak hy196
          clear hy196
          simp only [Option.some.injEq, Prod.mk.injEq] at H
          obtain ⟨rfl, rfl⟩ := H
          obtain ⟨hcz38_0, hcz38_1, hcz38_2, hfz38_0, hfz38_1, hfz38_2⟩ := Qv3 BK176.out
          go_wp2_with (first | ((with_reducible refine gate_builtin (b := .append) (xs := #[.tmp 49, .tmp 55]) rfl ?_); at_builtin; refine Kd.R_append k50 (w0 := w) w.heap.size rfl (.tmp 49) (.tmp 55) 35 50 (.agg #[(.int .i64 0), (.int .i64 0), (.int .i64 0), (.int .i64 0)]) 32 rfl Try.underlying35 info50 rfl (by decide) (by omega) u4 x4_1 (⟨wrap64 ((wrap64 (2 + a0_0)) - 4), 0, 0, 0⟩ : S50) [.int .i64 (wrap64 ((wrap64 (2 + a0_0)) - 4)), .int .i64 0, .int .i64 0, .int .i64 0] (fun _ => True) (fun _ => False) rfl rfl ?aP (fun _ hk => hk.elim) ?aF ?aO ?aB ?aS ?aL ?_; (case aP => exact k50_mkM _ _ _ (⟨wrap64 ((wrap64 (2 + a0_0)) - 4), 0, 0, 0⟩ : S50)); (case aB => exact (Qb HB.out)); (case aF => exact (fun _ _ => trivial)); (case aO => exact (Qc HO_4.out)); (case aS => exact (below_size (Qb HB.out))); (case aL => have := LMc37.out; omega); intro v197 w39 ho hb hg hat; rw [← Ny196.out] at ho; have n0_ := Ak (blk_grown (g := gb176) (o := .cells #[.int .i64 a0_0, .int .i64 a0_1, .slice A0_2 l0_2.length c0_2] 28 (0, 0)) (Qa BK176.out) hg (Kd.R_ne HO_4.out BK176.out (by decide))); have n1_ := Ak (hb); have n2_ := Ak (ho); clear BK176 HB HO_4; have BK176 := n0_; have HB := n1_; have HO198 := n2_; clear n0_ n1_ n2_; clear ho hb hg hat))
          go_ret2
          exact ⟨_, Qh, by refine Qf ?_; exact HO198.out, Qb HB.out⟩
         ·rw [if_neg c37] at H
          exact absurd H (by simp)
        ·replace c36 := Bool.eq_false_iff.mpr c36
         (try subst c36)
         have H1 : (if a0_0 = 7 then (some (([] : List (S50)), false)) else (if a0_0 = 8 then (some (([] : List (S50)), false)) else (some (x4_1, true)))) = some (r1, r2) := by rw [if_neg (show ¬ (false = true) by decide)] at H; exact H
         clear H
         have H := H1
         clear H1
         by_cases c40 : a0_0 = 7
         ·rw [if_pos c40] at H
          have c40b0 : (a0_0 == 7) = true := beq_iff_eq.mpr c40
          have c40b1 : (a0_0 != 7) = false := bne_eq_false_iff_eq.mpr c40
          clear c40
          simp only [Option.some.injEq, Prod.mk.injEq] at H
          obtain ⟨rfl, rfl⟩ := H
          go_wp2
          go_ret2
          exact ⟨_, Qh, by first | exact Kd.R_nil _ _ _ _ _ | exact Kd.N_nil _ _ _ _ _ | exact Kd.V_nil _ _ _ _ _ | exact Kd.Q_nil _ _ _ _ _ | exact Kd.S_nil _ _ _ _ _, Qb HB.out⟩
         ·rw [if_neg c40] at H
          have c40b0 : (a0_0 == 7) = false := beq_eq_false_iff_ne.mpr c40
          have c40b1 : (a0_0 != 7) = true := bne_iff_ne.mpr c40
          by_cases c41 : a0_0 = 8
          ·rw [if_pos c41] at H
           have c41b0 : (a0_0 == 8) = true := beq_iff_eq.mpr c41
           have c41b1 : (a0_0 != 8) = false := bne_eq_false_iff_eq.mpr c41
           clear c41
           simp only [Option.some.injEq, Prod.mk.injEq] at H
           obtain ⟨rfl, rfl⟩ := H
           go_wp2
           go_ret2
           exact ⟨_, Qh, by first | exact Kd.R_nil _ _ _ _ _ | exact Kd.N_nil _ _ _ _ _ | exact Kd.V_nil _ _ _ _ _ | exact Kd.Q_nil _ _ _ _ _ | exact Kd.S_nil _ _ _ _ _, Qb HB.out⟩
          ·rw [if_neg c41] at H
           have c41b0 : (a0_0 == 8) = false := beq_eq_false_iff_ne.mpr c41
           have c41b1 : (a0_0 != 8) = true := bne_iff_ne.mpr c41
           simp only [Option.some.injEq, Prod.mk.injEq] at H
           obtain ⟨rfl, rfl⟩ := H
           go_wp2
           go_ret2
           exact ⟨_, Qh, by refine Qf ?_; exact HO_4.out, Qb HB.out⟩

/-! ### impl_Op_48: function 48 -/
set_option maxHeartbeats 2000000 in
theorem index48 (g : Nat) (lb : Array Value) (p : Nat → Bool) (x0 x1 x2 x3 : Nat → Value) (eg : ∀ args w, (callFunc g args).run Try.prog w = .ok (.enter g args) w) (A : Option Addr) (n c : Nat) (w : World)
  (hn : n ≤ 9223372036854775807) (hv : ∀ W, Below w.heap.size w W → ∀ j, j < n → ∃ ad, A = some ad ∧ W.cell? (ad.add (j * 4)) = some (x0 j) ∧ W.cell? ⟨(ad.add (j * 4)).block, (ad.add (j * 4)).off + 1, none⟩ = some (x1 j) ∧ W.cell? ⟨(ad.add (j * 4)).block, (ad.add (j * 4)).off + 2, none⟩ = some (x2 j) ∧ W.cell? ⟨(ad.add (j * 4)).block, (ad.add (j * 4)).off + 3, none⟩ = some (x3 j))
  (hp : ∀ (W : World) (j : Nat), Below w.heap.size w W → j < n → Calls Try.prog g (#[.agg #[x0 j, x1 j, x2 j, x3 j]] ++ lb) W fun e w' => e = .returned (.bool (p j)) ∧ Below w.heap.size w w') :
  Calls Try.prog 48 #[.slice A n c, .func (.func g) #[] lb] w fun e w' => e = .returned (.int .i64 (Go.Proofs.Ythlagaopjmeaaaa.Any.fstP p 0 n)) ∧ Below w.heap.size w w' := by
 go_enter Try.func48, Try.ntmps48
 go_wp2
 go_loopg [5, 8] n (fun gg _ s8 wr => ∃ kk : Nat, kk ≤ n ∧ n - kk ≤ gg ∧ s8 = .int .i64 kk ∧ Aside (Below w.heap.size w wr) ∧ Aside (∀ j, j < kk → p j = false))
 case atStart => exact ⟨0, Nat.zero_le _, by omega, rfl, Below.refl _ w, fun j hj => absurd hj (Nat.not_lt_zero _)⟩
 case round =>
  obtain ⟨kk, hkk, hg, rfl, BW, A0⟩ := hrel
  by_cases hlt : kk < n
  ·have hltz : (kk : Int) < (n : Int) := by omega
   obtain ⟨ad, rfl, l2, l3, l4, l5⟩ := hv wr BW.out kk hlt
   have hcall := hp wr kk BW.out hlt
   clear hv hp
   have hq : ∃ y, p kk = y := ⟨_, rfl⟩
   obtain ⟨y, hy⟩ := hq
   have B : Aside (p kk = y) := hy
   rw [hy] at hcall
   clear hy
   cases y with
   | true =>
    go_wp2
    refine hcall.mono ?_
    rintro e w' ⟨rfl, hb'⟩
    go_wp2
    go_ret
    refine ⟨?_, hb'⟩
    rw [Go.Proofs.Ythlagaopjmeaaaa.Any.fstP_hit B.out n 0 (by omega) (by omega) (fun m _ hm => A0.out m hm)]
    rfl
   | false =>
    go_wp2
    refine hcall.mono ?_
    rintro e w' ⟨rfl, hb'⟩
    go_wp2
    go_roundg (n - (kk + 1))
    case measure => omega
    case rel =>
     refine ⟨kk + 1, by omega, by omega, by go_num, hb', (show Aside _ from fun j hj => ?_)⟩
     by_cases e : j = kk
     ·subst e
      exact B.out
     ·exact A0.out j (by omega)
  ·have hltz : ¬ (kk : Int) < (n : Int) := by omega
   have : kk = n := by omega
   subst this
   go_wp2
   go_ret
   refine ⟨?_, BW.out⟩
   rw [Go.Proofs.Ythlagaopjmeaaaa.Any.fstP_miss kk 0 (fun m _ hm => A0.out m (by omega))]
   rfl

/-! ### impl_Op_40: function 40 -/
set_option maxHeartbeats 2000000 in
theorem contains40 (g : Nat) (lb : Array Value) (p : Nat → Bool) (x0 x1 x2 x3 : Nat → Value) (eg : ∀ args w, (callFunc g args).run Try.prog w = .ok (.enter g args) w) (A : Option Addr) (n c : Nat) (r : Bool) (w : World)
  (hn : n ≤ 9223372036854775807) (hv : ∀ W, Below w.heap.size w W → ∀ j, j < n → ∃ ad, A = some ad ∧ W.cell? (ad.add (j * 4)) = some (x0 j) ∧ W.cell? ⟨(ad.add (j * 4)).block, (ad.add (j * 4)).off + 1, none⟩ = some (x1 j) ∧ W.cell? ⟨(ad.add (j * 4)).block, (ad.add (j * 4)).off + 2, none⟩ = some (x2 j) ∧ W.cell? ⟨(ad.add (j * 4)).block, (ad.add (j * 4)).off + 3, none⟩ = some (x3 j))
  (hp : ∀ (W : World) (j : Nat), Below w.heap.size w W → j < n → Calls Try.prog g (#[.agg #[x0 j, x1 j, x2 j, x3 j]] ++ lb) W fun e w' => e = .returned (.bool (p j)) ∧ Below w.heap.size w w')
  (hr : decide (0 ≤ Go.Proofs.Ythlagaopjmeaaaa.Any.fstP p 0 n) = r) :
  Calls Try.prog 40 #[.slice A n c, .func (.func g) #[] lb] w fun e w' => e = .returned (.bool r) ∧ Below w.heap.size w w' := by
 have h := index48 g lb p x0 x1 x2 x3 eg A n c w hn hv hp
 generalize Go.Proofs.Ythlagaopjmeaaaa.Any.fstP p 0 n = i at h hr
 subst hr
 clear hv hp
 go_enter Try.func40, Try.ntmps40
 go_wp2_with (go_at_call 48; refine h.mono ?_; rintro e w' ⟨rfl, hb'⟩)
 go_ret
 exact ⟨rfl, hb'⟩

/-! ### impl_isOp_1: function 49 -/
set_option maxHeartbeats 2000000 in
theorem place49 (n size : Int) (b : Nat) (r : Bool) (w : World) (hr : (decide (0 ≤ n) && decide (n ≤ size)) = r) (hc : w.cell? ⟨b, 0, none⟩ = some (.int .i64 size)) :
  Calls Try.prog 49 #[.int .i64 n, .pointer (some ⟨b, 0, none⟩)] w fun e w' => e = .returned (.bool r) ∧ Drawn0 w w' := by
 subst hr
 cases h1 : decide (0 ≤ n) <;> cases h2 : decide (n ≤ size) <;>
 ·go_enter Try.func49, Try.ntmps49
  go_wp2
  go_ret
  exact ⟨by first | rfl | simp [*], Ql⟩

/-! ### impl_fits: function 50 -/
def impl_fits.f (k : Nat) (a0 : Int) (a1 : Int) : Option (Bool) := (impl_LimitOf.f k a1).bind fun t199 => (if a0 ≥ (wrap64 (-t199)) then ((impl_LimitOf.f k a1).bind fun t200 => (some (decide (a0 ≤ t200)))) else (some false))
theorem impl_fits.mono : ∀ a0 a1 k, LeO (impl_fits.f k a0 a1) (impl_fits.f (k + 1) a0 a1) := by
 intro a0 a1 k
 unfold impl_fits.f
 repeat' first
   | (with_reducible exact impl_LimitOf.mono _ _)
   | (with_reducible exact LeO.refl _)
   | (with_reducible exact LeO.none _)
   | (with_reducible refine LeO.ite ?_ ?_)
   | (with_reducible refine LeO.bind ?_ (fun _ => ?_))
   | exact impl_LimitOf.mono _ _
   | exact LeO.none _
   | refine LeO.ite ?_ ?_
   | refine LeO.bind ?_ (fun _ => ?_)
theorem impl_fits.calls (k : Nat) (a0 : Int) (a1 : Int) (r : Bool) (w : World) (h : impl_fits.f k a0 a1 = some r) :
  Calls Try.prog 50 #[.int .i64 a0, .int .i64 a1] w fun e w' => e = .returned (.bool r) ∧ Drawn0 w w' := by
 have H : ((impl_LimitOf.f k a1).bind fun t199 => (if a0 ≥ (wrap64 (-t199)) then ((impl_LimitOf.f k a1).bind fun t200 => (some (decide (a0 ≤ t200)))) else (some false))) = some r := h
 clear h
 replace H := Option.bind_eq_some_iff.mp H
 obtain ⟨t199, A30, H⟩ := H
 replace H : (if a0 ≥ (wrap64 (-t199)) then ((impl_LimitOf.f k a1).bind fun t200 => (some (decide (a0 ≤ t200)))) else (some false)) = some r := H
 have A3 := Ak A30
 clear A30
 by_cases c4 : a0 ≥ (wrap64 (-t199))
 ·rw [if_pos c4] at H
  have c4b0 : decide ((wrap64 (-t199)) ≤ a0) = true := decide_eq_true c4
  clear c4
  replace H := Option.bind_eq_some_iff.mp H
  obtain ⟨t200, A50, H⟩ := H
  replace H : (some (decide (a0 ≤ t200))) = some r := H
  have A5 := Ak A50
  clear A50
  obtain rfl := Option.some.inj H
  go_enter Try.func50, Try.ntmps50
  go_wp2_with (first | ((with_reducible refine gate_callee (f := 45) rfl ?_); refine Qj (some 7) Try.func45 #[.int .i64 a1] ?_; (with_reducible refine (impl_LimitOf.calls k a1 t199 _ A3.out).mono ?_); rintro e w' ⟨rfl, ⟨nd, rfl⟩⟩; refine ⟨_, rfl, ?_⟩) | (go_at_call 45; (with_reducible refine (impl_LimitOf.calls k a1 t200 _ A5.out).mono ?_); rintro e w' ⟨rfl, ⟨nd, rfl⟩⟩))
  go_ret
  exact ⟨Qi, Ql⟩
 ·rw [if_neg c4] at H
  have c4b0 : decide ((wrap64 (-t199)) ≤ a0) = false := decide_eq_false c4
  clear c4
  obtain rfl := Option.some.inj H
  go_enter Try.func50, Try.ntmps50
  go_wp2_with (first | ((with_reducible refine gate_callee (f := 45) rfl ?_); refine Qj (some 7) Try.func45 #[.int .i64 a1] ?_; (with_reducible refine (impl_LimitOf.calls k a1 t199 _ A3.out).mono ?_); rintro e w' ⟨rfl, ⟨nd, rfl⟩⟩; refine ⟨_, rfl, ?_⟩))
  go_ret
  exact ⟨Qi, Ql⟩

end Go.Proofs.Ythlagaopjmeaaaa.HFnExactCompileExpr

/- Text for FnExactRunMachine: written by a program of this session on the pattern of the kit's print. -/
import Derived.Test.YtlmiankjbffboaaHFnExactRunMachinexs7p2
import Derived.Test.YtlmiankjbffboaaHFnExactRunMachinex0
import Derived.Test.YtlmiankjbffboaaHFnExactRunMachinex5
import Derived.Test.YtlmiankjbffboaaHFnExactRunMachinex6
namespace Go.Proofs.Ytlmiankjbffboaa.HFnExactRunMachine
open Go.RowKit Go.Proofs.YtlmiankjbffboaaW.PrintWords Go.Proofs.YtlmiankjbffboaaW.PrintLast Go.Proofs.YtlmiankjbffboaaW.PrintMore
attribute [local go_sem] max2_int min2_int max_two min_two max_three min_three max_four min_four
set_option linter.unusedVariables false
set_option linter.unusedSimpArgs false

/-! ### part of spec_l7Change -/
set_option maxHeartbeats 8000000 in
set_option maxRecDepth 100000 in
theorem spec_l7Change.calls_5 (k : Nat) (a0_0 : Int) (a0_1 : Int) (a0_2 : Int) (a0_3 : Int) (a1_0 : Int) (P1_1_ : Nat → Prop) (u9000_ : Value) (l1_1 : List Int) (P1_2_ : Nat → Prop) (u9001_ : Value) (l1_2 : List Int) (r1 : Int) (r2 : List Int) (r3 : List Int) (w0 w : World) (hB : Below w0.heap.size w0 w) (ho1_1 : Kd.R (Kd.int .i64) 3 w w0.heap.size P1_1_ u9000_ l1_1) (hp1_1_1_2 : ∀ k_, P1_1_ k_ → ¬ P1_2_ k_) (ho1_2 : Kd.R (Kd.int .i64) 3 w w0.heap.size P1_2_ u9001_ l1_2) (hp1_2_1_1 : ∀ k_, P1_2_ k_ → ¬ P1_1_ k_) (c3 : ¬ a0_0 = 1) (c19 : ¬ a0_0 = 2) (c47 : ¬ a0_0 = 3) (c75 : ¬ a0_0 = 4) (h : (if a0_0 = 5 then (if 0 ≤ (wrap64 ((l1_1.length : Int) - 1)) then (if (wrap64 ((l1_1.length : Int) - 1)) < (l1_1.length : Int) then (some (wrap64 (a1_0 + 1), (l1_1.set ((wrap64 ((l1_1.length : Int) - 1)) : Int).toNat (wrap64 (-(rd l1_1 (wrap64 ((l1_1.length : Int) - 1)))))), l1_2)) else (none)) else (none)) else (if a0_0 = 6 then (if 0 ≤ (wrap64 ((l1_1.length : Int) - 1)) then (if (wrap64 ((l1_1.length : Int) - 1)) < (l1_1.length : Int) then ((spec_SignOf.f (rd l1_1 (wrap64 ((l1_1.length : Int) - 1)))).bind fun t278 => (some (wrap64 (a1_0 + 1), (l1_1.set ((wrap64 ((l1_1.length : Int) - 1)) : Int).toNat t278), l1_2))) else (none)) else (none)) else (if a0_0 = 7 then (if 0 ≤ (wrap64 ((l1_1.length : Int) - 1)) then (if (wrap64 ((l1_1.length : Int) - 1)) < (l1_1.length : Int) then (if l1_1.length < 17592186044416 then (some (wrap64 (a1_0 + 1), (l1_1 ++ [rd l1_1 (wrap64 ((l1_1.length : Int) - 1))]), l1_2)) else (none)) else (none)) else (none)) else (if a0_0 = 8 then (if 0 ≤ (wrap64 ((l1_1.length : Int) - 1)) then (if (wrap64 ((l1_1.length : Int) - 1)) < (l1_1.length : Int) then (if 0 ≤ (wrap64 ((l1_1.length : Int) - 2)) then (if (wrap64 ((l1_1.length : Int) - 2)) < (l1_1.length : Int) then (some (wrap64 (a1_0 + 1), ((l1_1.set ((wrap64 ((l1_1.length : Int) - 1)) : Int).toNat (rd l1_1 (wrap64 ((l1_1.length : Int) - 2)))).set ((wrap64 ((l1_1.length : Int) - 2)) : Int).toNat (rd l1_1 (wrap64 ((l1_1.length : Int) - 1)))), l1_2)) else (none)) else (none)) else (none)) else (none)) else (if a0_0 = 9 then (if 0 ≤ (wrap64 ((l1_1.length : Int) - 1)) then (if (wrap64 ((l1_1.length : Int) - 1)) ≤ (l1_1.length : Int) then (some (wrap64 (a1_0 + 1), (l1_1.take ((wrap64 ((l1_1.length : Int) - 1)) : Int).toNat), l1_2)) else (none)) else (none)) else (if a0_0 = 10 then (if 0 ≤ (wrap64 ((l1_1.length : Int) - 1)) then (if (wrap64 ((l1_1.length : Int) - 1)) < (l1_1.length : Int) then ((spec_l7Shift.f k (rd l1_1 (wrap64 ((l1_1.length : Int) - 1))) a0_1).bind fun t292 => (some (wrap64 (a1_0 + 1), (l1_1.set ((wrap64 ((l1_1.length : Int) - 1)) : Int).toNat t292), l1_2))) else (none)) else (none)) else (if a0_0 = 11 then (if 0 ≤ (wrap64 ((l1_1.length : Int) - 1)) then (if (wrap64 ((l1_1.length : Int) - 1)) < (l1_1.length : Int) then (if 0 ≤ (wrap64 ((rd l1_1 (wrap64 ((l1_1.length : Int) - 1))) + 13)) then (if (wrap64 ((rd l1_1 (wrap64 ((l1_1.length : Int) - 1))) + 13)) < (l1_2.length : Int) then (some (wrap64 (a1_0 + 1), (l1_1.set ((wrap64 ((l1_1.length : Int) - 1)) : Int).toNat (rd l1_2 (wrap64 ((rd l1_1 (wrap64 ((l1_1.length : Int) - 1))) + 13)))), l1_2)) else (none)) else (none)) else (none)) else (none)) else (if a0_0 = 12 then (if 0 ≤ (wrap64 ((l1_1.length : Int) - 1)) then (if (wrap64 ((l1_1.length : Int) - 1)) < (l1_1.length : Int) then (if 0 ≤ (wrap64 ((l1_1.length : Int) - 2)) then (if (wrap64 ((l1_1.length : Int) - 2)) < (l1_1.length : Int) then (if 0 ≤ (wrap64 ((rd l1_1 (wrap64 ((l1_1.length : Int) - 1))) + 13)) then (if (wrap64 ((rd l1_1 (wrap64 ((l1_1.length : Int) - 1))) + 13)) < (l1_2.length : Int) then (if (wrap64 ((l1_1.length : Int) - 2)) ≤ (l1_1.length : Int) then (some (wrap64 (a1_0 + 1), (l1_1.take ((wrap64 ((l1_1.length : Int) - 2)) : Int).toNat), (l1_2.set ((wrap64 ((rd l1_1 (wrap64 ((l1_1.length : Int) - 1))) + 13)) : Int).toNat (rd l1_1 (wrap64 ((l1_1.length : Int) - 2)))))) else (none)) else (none)) else (none)) else (none)) else (none)) else (none)) else (none)) else (if a0_0 = 13 then (some (a0_1, l1_1, l1_2)) else (if a0_0 = 14 then ((some (([a0_1, a0_2, a0_3] : List Int) : List Int)).bind fun y303 => (if 0 ≤ (wrap64 ((l1_1.length : Int) - 1)) then (if (wrap64 ((l1_1.length : Int) - 1)) < (l1_1.length : Int) then ((spec_SignOf.f (rd l1_1 (wrap64 ((l1_1.length : Int) - 1)))).bind fun t307 => (if 0 ≤ (wrap64 (t307 + 1)) then (if (wrap64 (t307 + 1)) < (y303.length : Int) then (if (wrap64 ((l1_1.length : Int) - 1)) ≤ (l1_1.length : Int) then (some (rd y303 (wrap64 (t307 + 1)), (l1_1.take ((wrap64 ((l1_1.length : Int) - 1)) : Int).toNat), l1_2)) else (none)) else (none)) else (none))) else (none)) else (none))) else (some (wrap64 (a1_0 + 1), l1_1, l1_2)))))))))))) = some (r1, r2, r3)) :
  Calls Try.prog 38 #[.agg #[.int .i64 a0_0, .int .i64 a0_1, .int .i64 a0_2, .int .i64 a0_3], .agg #[.int .i64 a1_0, u9000_, u9001_]] w fun e w' => ∃ v1_ v2_ : Value, e = .returned (.agg #[.int .i64 r1, v1_, v2_]) ∧ Kd.R (Kd.int .i64) 3 w' w0.heap.size (fun k_ => ((P1_1_ k_ ∨ P1_2_ k_) ∨ w.heap.size ≤ k_) ∧ some k_ ≠ (v2_ : Value).ownBlock) v1_ r2 ∧ Kd.R (Kd.int .i64) 3 w' w0.heap.size (fun k_ => ((P1_1_ k_ ∨ P1_2_ k_) ∨ w.heap.size ≤ k_) ∧ some k_ ≠ (v1_ : Value).ownBlock) v2_ r3 ∧ Below w0.heap.size w0 w' ∧ Kept w w' (fun k_ => P1_1_ k_ ∨ P1_2_ k_) := by
 have hu48 := Try.underlying48
 have hu28 := Try.underlying28
 have HO1_1 := Ak (show Kd.R (Kd.int .i64) 3 w w0.heap.size (fun k_ => ((P1_1_ k_ ∨ P1_2_ k_) ∨ w.heap.size ≤ k_) ∧ some k_ ≠ (u9001_ : Value).ownBlock) u9000_ l1_1 from Kd.R_mono ho1_1 (fun k_ hk => ⟨(.inl (.inl hk)), fun e_ => hp1_1_1_2 k_ hk (ho1_2.1 k_ e_.symm)⟩))
 have HO1_2 := Ak (show Kd.R (Kd.int .i64) 3 w w0.heap.size (fun k_ => ((P1_1_ k_ ∨ P1_2_ k_) ∨ w.heap.size ≤ k_) ∧ some k_ ≠ (u9000_ : Value).ownBlock) u9001_ l1_2 from Kd.R_mono ho1_2 (fun k_ hk => ⟨(.inl (.inr hk)), fun e_ => hp1_2_1_1 k_ hk (ho1_1.1 k_ e_.symm)⟩))
 have HK := Ak (Kept.refl w (fun k_ => P1_1_ k_ ∨ P1_2_ k_))
 have HW0 := Ak hB.size
 have HB := Ak hB
 clear hB
 have H := h
 clear h
 have c3b0 : (a0_0 == 1) = false := beq_eq_false_iff_ne.mpr c3
 have c3b1 : (a0_0 != 1) = true := bne_iff_ne.mpr c3
 have c19b0 : (a0_0 == 2) = false := beq_eq_false_iff_ne.mpr c19
 have c19b1 : (a0_0 != 2) = true := bne_iff_ne.mpr c19
 have c47b0 : (a0_0 == 3) = false := beq_eq_false_iff_ne.mpr c47
 have c47b1 : (a0_0 != 3) = true := bne_iff_ne.mpr c47
 have c75b0 : (a0_0 == 4) = false := beq_eq_false_iff_ne.mpr c75
 have c75b1 : (a0_0 != 4) = true := bne_iff_ne.mpr c75
 by_cases c103 : a0_0 = 5
 ·rw [if_pos c103] at H
  have c103b0 : (a0_0 == 5) = true := beq_iff_eq.mpr c103
  have c103b1 : (a0_0 != 5) = false := bne_eq_false_iff_eq.mpr c103
  clear c103
  obtain ⟨ji104, hji104⟩ : ∃ j_ : Int, (wrap64 ((l1_1.length : Int) - 1)) = j_ := ⟨_, rfl⟩
  replace H : (if 0 ≤ (ji104) then (if (ji104) < (l1_1.length : Int) then (some (wrap64 (a1_0 + 1), (l1_1.set ((ji104) : Int).toNat (wrap64 (-(rd l1_1 (ji104))))), l1_2)) else (none)) else (none)) = some (r1, r2, r3) := by first | (rw [hji104] at H; exact H) | (simp only [hji104] at H ⊢; exact H)
  have hji104w : (IntKind.i64.wrap ((l1_1.length : Int) - 1)) = ji104 := (i64_w _).trans hji104
  by_cases c105 : 0 ≤ (ji104)
  ·rw [if_pos c105] at H
   have c105b0 : decide (0 ≤ (ji104)) = true := decide_eq_true c105
   clear c105
   by_cases c106 : (ji104) < (l1_1.length : Int)
   ·rw [if_pos c106] at H
    have c106b0 : decide ((ji104) < (l1_1.length : Int)) = true := decide_eq_true c106
    clear c106
    obtain ⟨y276, hy276⟩ : ∃ y_ : List Int, y_ = (l1_1.set ((ji104) : Int).toNat (wrap64 (-(rd l1_1 (ji104))))) := ⟨_, rfl⟩
    replace H : (some (wrap64 (a1_0 + 1), y276, l1_2)) = some (r1, r2, r3) := by first | (rw [hy276]; with_reducible exact H) | (have H2_ := (Option.bind_some _ _).symm.trans H; rw [hy276]; with_reducible exact H2_) | (have H2_ := (Option.bind_some _ _).symm.trans H; with_reducible exact H2_) | with_reducible exact H | (rw [hy276]; exact H) | exact H
    have Ny276 := Ak hy276
    clear hy276
    simp only [Option.some.injEq, Prod.mk.injEq] at H
    obtain ⟨rfl, rfl, rfl⟩ := H
    go_enter Try.func38, Try.ntmps38
    try go_wp2_with (first | ((with_reducible refine gate_dst (N := 2) rfl ?_); refine Qk 2 #[.int .i64 a0_0, .int .i64 a0_1, .int .i64 a0_2, .int .i64 a0_3] 48 ?_; intro gb242 hg w108 hbox hb; have n0_ := Ak (Kd.R_below (Qc HO1_1.out) hb); have n1_ := Ak (Kd.R_below (Qc HO1_2.out) hb); have n2_ := Ak (Kept.below (S := (fun k_ => P1_1_ k_ ∨ P1_2_ k_)) (Qd HK.out) hb); have n3_ := Ak (below_step (Qb HB.out) hb); have n4_ := Ak (hbox); have n5_ := Ak ((by rw [hg]; exact (Qo HK.out) : w.heap.size ≤ gb242)); have n6_ := Ak ((Qp hg HB.out : w0.heap.size ≤ gb242)); clear HO1_1 HO1_2 HK HB; have HO1_1 := n0_; have HO1_2 := n1_; have HK := n2_; have HB := n3_; have BK242 := n4_; have GW242 := n5_; have GE242 := n6_; clear n0_ n1_ n2_ n3_ n4_ n5_ n6_; clear hb hbox hg; obtain ⟨Ao109, co109, eo109⟩ := Kd.R_slice HO1_1.out; subst eo109; obtain ⟨Ao110, co110, eo110⟩ := Kd.R_slice HO1_2.out; subst eo110) | ((with_reducible refine gate_dst (N := 3) rfl ?_); refine Qk 3 #[.int .i64 a1_0, .slice Ao109 l1_1.length co109, .slice Ao110 l1_2.length co110] 28 ?_; intro gb243 hg w111 hbox hb; have n0_ := Ak (Kd.R_below (Qc HO1_1.out) hb); have n1_ := Ak (Kd.R_below (Qc HO1_2.out) hb); have n2_ := Ak (Qm BK242.out hb); have n3_ := Ak (Kept.below (S := (fun k_ => P1_1_ k_ ∨ P1_2_ k_)) (Qd HK.out) hb); have n4_ := Ak (below_step (Qb HB.out) hb); have n5_ := Ak (hbox); have n6_ := Ak ((by rw [hg]; exact (Qo HK.out) : w.heap.size ≤ gb243)); have n7_ := Ak ((Qp hg HB.out : w0.heap.size ≤ gb243)); have n8_ := Ak ((by rw [hg]; exact Nat.ne_of_lt (Qn BK242.out) : gb242 ≠ gb243)); have n9_ := Ak ((by rw [hg]; exact Nat.ne_of_gt (Qn BK242.out) : gb243 ≠ gb242)); clear HO1_1 HO1_2 BK242 HK HB; have HO1_1 := n0_; have HO1_2 := n1_; have BK242 := n2_; have HK := n3_; have HB := n4_; have BK243 := n5_; have GW243 := n6_; have GE243 := n7_; have NB242_243 := n8_; have NB243_242 := n9_; clear n0_ n1_ n2_ n3_ n4_ n5_ n6_ n7_ n8_ n9_; clear hb hbox hg) | ((with_reducible refine gate_dst (N := 4) rfl ?_); refine Qk 4 #[.int .i64 0, .slice none 0 0, .slice none 0 0] 28 ?_; intro gb244 hg w112 hbox hb; have n0_ := Ak (Kd.R_below (Qc HO1_1.out) hb); have n1_ := Ak (Kd.R_below (Qc HO1_2.out) hb); have n2_ := Ak (Qm BK242.out hb); have n3_ := Ak (Qm BK243.out hb); have n4_ := Ak (Kept.below (S := (fun k_ => P1_1_ k_ ∨ P1_2_ k_)) (Qd HK.out) hb); have n5_ := Ak (below_step (Qb HB.out) hb); have n6_ := Ak (hbox); have n7_ := Ak ((by rw [hg]; exact (Qo HK.out) : w.heap.size ≤ gb244)); have n8_ := Ak ((Qp hg HB.out : w0.heap.size ≤ gb244)); have n9_ := Ak ((by rw [hg]; exact Nat.ne_of_lt (Qn BK242.out) : gb242 ≠ gb244)); have n10_ := Ak ((by rw [hg]; exact Nat.ne_of_gt (Qn BK242.out) : gb244 ≠ gb242)); have n11_ := Ak ((by rw [hg]; exact Nat.ne_of_lt (Qn BK243.out) : gb243 ≠ gb244)); have n12_ := Ak ((by rw [hg]; exact Nat.ne_of_gt (Qn BK243.out) : gb244 ≠ gb243)); clear HO1_1 HO1_2 BK242 BK243 HK HB; have HO1_1 := n0_; have HO1_2 := n1_; have BK242 := n2_; have BK243 := n3_; have HK := n4_; have HB := n5_; have BK244 := n6_; have GW244 := n7_; have GE244 := n8_; have NB242_244 := n9_; have NB244_242 := n10_; have NB243_244 := n11_; have NB244_243 := n12_; clear n0_ n1_ n2_ n3_ n4_ n5_ n6_ n7_ n8_ n9_ n10_ n11_ n12_; clear hb hbox hg; have hnb113 := NB243_242.out; have hnc113 := NB242_243.out; have hnb114 := NB243_244.out; have hnc114 := NB244_243.out; obtain ⟨hcz115_0, hcz115_1, hcz115_2, hfz115_0, hfz115_1, hfz115_2⟩ := Qv3 BK243.out; have hnb116 := NB242_244.out; have hnc116 := NB244_242.out; obtain ⟨hcz117_0, hcz117_1, hcz117_2, hcz117_3⟩ := Qu4 BK242.out; have hfz117_0 := blk_frozen BK242.out 0; have hfz117_1 := blk_frozen BK242.out 1; have hfz117_2 := blk_frozen BK242.out 2; have hfz117_3 := blk_frozen BK242.out 3))
    have n0_ : Aside0 (Kd.R (Kd.int .i64) 3 (w112.setCell ⟨gb243, 0, none⟩ (.int .i64 (wrap64 (a1_0 + 1)))) w0.heap.size (fun k_ => ((P1_1_ k_ ∨ P1_2_ k_) ∨ w.heap.size ≤ k_) ∧ some k_ ≠ (.slice Ao110 l1_2.length co110 : Value).ownBlock) (.slice Ao109 l1_1.length co109) l1_1) := ⟨by refine Qf ?_; exact Kd.R_mono (Kd.R_far (p := ⟨gb243, 0, none⟩) (Kd.R_types HO1_1.out BK243.out (by decide)) (fun _ hk => hk.2) (.int .i64 (wrap64 (a1_0 + 1)))) (fun _ hk => ⟨hk.1.1, hk.1.2⟩)⟩
    have n1_ : Aside0 (Kd.R (Kd.int .i64) 3 (w112.setCell ⟨gb243, 0, none⟩ (.int .i64 (wrap64 (a1_0 + 1)))) w0.heap.size (fun k_ => ((P1_1_ k_ ∨ P1_2_ k_) ∨ w.heap.size ≤ k_) ∧ some k_ ≠ (.slice Ao109 l1_1.length co109 : Value).ownBlock) (.slice Ao110 l1_2.length co110) l1_2) := ⟨by refine Qf ?_; exact Kd.R_mono (Kd.R_far (p := ⟨gb243, 0, none⟩) (Kd.R_types HO1_2.out BK243.out (by decide)) (fun _ hk => hk.2) (.int .i64 (wrap64 (a1_0 + 1)))) (fun _ hk => ⟨hk.1.1, hk.1.2⟩)⟩
    have n2_ : Aside0 ((w112.setCell ⟨gb243, 0, none⟩ (.int .i64 (wrap64 (a1_0 + 1)))).heap[gb242]? = some (.cells #[.int .i64 a0_0, .int .i64 a0_1, .int .i64 a0_2, .int .i64 a0_3] 48 (0, 0))) := ⟨by refine Qe ?_; refine blk_far ?_ NB242_243.out _; refine Qe ?_; exact BK242.out⟩
    have n3_ : Aside0 ((w112.setCell ⟨gb243, 0, none⟩ (.int .i64 (wrap64 (a1_0 + 1)))).heap[gb243]? = some (.cells #[.int .i64 (wrap64 (a1_0 + 1)), .slice Ao109 l1_1.length co109, .slice Ao110 l1_2.length co110] 28 (0, 0))) := ⟨by refine Qe ?_; refine blk_put (cs := #[.int .i64 a1_0, .slice Ao109 l1_1.length co109, .slice Ao110 l1_2.length co110]) ?_ 0 _ rfl; refine Qe ?_; exact BK243.out⟩
    have n4_ : Aside0 ((w112.setCell ⟨gb243, 0, none⟩ (.int .i64 (wrap64 (a1_0 + 1)))).heap[gb244]? = some (.cells #[.int .i64 0, .slice none 0 0, .slice none 0 0] 28 (0, 0))) := ⟨by refine Qe ?_; refine blk_far ?_ NB244_243.out _; refine Qe ?_; exact BK244.out⟩
    have n5_ : Aside0 (Kept w (w112.setCell ⟨gb243, 0, none⟩ (.int .i64 (wrap64 (a1_0 + 1)))) (fun k_ => P1_1_ k_ ∨ P1_2_ k_)) := ⟨Qd HK.out⟩
    have n6_ : Aside0 (Below w0.heap.size w0 (w112.setCell ⟨gb243, 0, none⟩ (.int .i64 (wrap64 (a1_0 + 1))))) := ⟨Qb HB.out⟩
    (try clear HO1_1); (try clear HO1_2); (try clear BK242); (try clear BK243); (try clear BK244); (try clear HK); (try clear HB)
    generalize (w112.setCell ⟨gb243, 0, none⟩ (.int .i64 (wrap64 (a1_0 + 1)))) = w118 at n0_ n1_ n2_ n3_ n4_ n5_ n6_ ⊢
    have HO1_1 := n0_
    have HO1_2 := n1_
    have BK242 := n2_
    have BK243 := n3_
    have BK244 := n4_
    have HK := n5_
    have HB := n6_
    clear n0_ n1_ n2_ n3_ n4_ n5_ n6_
    have n0_ := Ak (Kd.R_drew HO1_1.out)
    have n1_ := Ak (Kd.R_drew HO1_2.out)
    have n2_ := Ak (blk_drew BK242.out)
    have n3_ := Ak (blk_drew BK243.out)
    have n4_ := Ak (blk_drew BK244.out)
    have n5_ := Ak (Kept.drew HK.out)
    have n6_ := Ak (below_drew1 HB.out)
    clear HO1_1 HO1_2 BK242 BK243 BK244 HK HB
    have HO1_1 := n0_
    have HO1_2 := n1_
    have BK242 := n2_
    have BK243 := n3_
    have BK244 := n4_
    have HK := n5_
    have HB := n6_
    clear n0_ n1_ n2_ n3_ n4_ n5_ n6_
    have p275 : 0 ≤ ((ji104) : Int) := Qg
    have q275 : (ji104) < (l1_1.length : Int) := Qg
    obtain ⟨ad275, e275, hx275_0⟩ := Kd.at_int (Kd.R_reads' HO1_1.out).2.2 (ji104) p275 q275
    cases e275
    replace p275 := eq_true p275
    replace q275 := eq_true q275
    have p107 : 0 ≤ ((ji104) : Int) := Qg
    have q107 : ((ji104) : Int) < ((l1_1.length : Int) : Int) := Qg
    obtain ⟨go107, co107, eo107, gb107, gl107, cl107, HG107⟩ := Kd.R_form HO1_1.out (by omega)
    (first | cases eo107 | (injection eo107 with ea_ en_ ec_; (first | subst ea_ | (injection ea_ with ea_; subst ea_)); subst ec_; clear en_))
    have GB107 := Ak gb107
    have GG107 := Ak HG107
    clear gb107 gl107 HG107
    have HMgo107 := Ak (show ((P1_1_ go107 ∨ P1_2_ go107) ∨ w.heap.size ≤ go107) from (HO1_1.out.1 _ rfl).1)
    (first | simp only [add_plain] at hx275_0 | skip)
    obtain ⟨hx107_0, hf107_0⟩ := Kd.R_celln 0 HO1_1.out ((ji104) : Int) p107 q107
    replace p107 := eq_true p107
    replace q107 := eq_true q107
    have HP120 := Kd.R_putn HO1_1.out ((ji104) : Int) (wrap64 (-(rd l1_1 (ji104))))
    rw [← Ny276.out] at HP120
    have HQ120 := Ak HP120
    clear HP120
    refine start_ (n := 13) (S := fun w' => w'.cell? ⟨gb243, 0, none⟩ = some (.int .i64 (wrap64 (a1_0 + 1))) ∧ w'.cell? ⟨gb243, 1, none⟩ = some (.slice (some ⟨go107, 0, none⟩) l1_1.length co109) ∧ w'.cell? ⟨gb243, 2, none⟩ = some (.slice Ao110 l1_2.length co110) ∧ w'.cell? ⟨go107, ((ji104)).toNat, none⟩ = some (.int .i64 (rd l1_1 (ji104)))) (ds := [12]) #[false, false, false, false, false, false, false, false, false, false, false, false, false] (by kernel_rfl) rfl rfl ⟨(blk_cell BK243.out 0).trans rfl, (blk_cell BK243.out 1).trans rfl, (blk_cell BK243.out 2).trans rfl, hx275_0⟩ (fun hHeld => ?_); refine with_tabW spec_l7Change.tab13 spec_l7Change.bits13 (fun HT_ HW_ => ?_)
    generalize w118.drew = w119 at HO1_1 HO1_2 BK242 BK243 BK244 HK HB GG107 HQ120 hf107_0 hx107_0 hx275_0 hHeld ⊢
    refine Qq 0 (some 99) ?_
    refine Qq 2 (some 101) ?_
    refine Qq 3 (some 102) ?_
    refine Qq 4 (some 103) ?_
    refine Qq 6 (some 105) ?_
    refine Qq 7 (some 106) ?_
    refine Qr 1 (some 100) hHeld ?_
    refine Qr 5 (some 104) hHeld ?_
    refine Qq 8 (some 107) ?_
    refine Qr 9 (some 108) hHeld ?_
    refine Qq 10 (some 109) ?_
    refine Qq 11 (some 110) ?_
    refine Qt 12 none (fun K hK => ?_)
    refine skip_ (w1 := ?_) (by rfl) rfl ?_ ?_
    rotate_left
    ·go_simp
     rfl
    refine hK.out _ _ ?_
    clear hK K
    refine done_ (done_of HT_.out (by kernel_rfl)) ?_
    have n0_ : Aside0 (Kd.R (Kd.int .i64) 3 (w119.setCell ⟨go107, ((ji104) : Int).toNat, none⟩ (.int .i64 (wrap64 (-(rd l1_1 (ji104)))))) w0.heap.size (fun k_ => ((P1_1_ k_ ∨ P1_2_ k_) ∨ w.heap.size ≤ k_) ∧ some k_ ≠ (.slice Ao110 l1_2.length co110 : Value).ownBlock) (.slice (some ⟨go107, 0, none⟩) l1_1.length co109) y276) := ⟨by refine Qf ?_; exact HQ120.out⟩
    have n1_ : Aside0 (Kd.R (Kd.int .i64) 3 (w119.setCell ⟨go107, ((ji104) : Int).toNat, none⟩ (.int .i64 (wrap64 (-(rd l1_1 (ji104)))))) w0.heap.size (fun k_ => ((P1_1_ k_ ∨ P1_2_ k_) ∨ w.heap.size ≤ k_) ∧ some k_ ≠ (.slice (some ⟨go107, 0, none⟩) l1_1.length co109 : Value).ownBlock) (.slice Ao110 l1_2.length co110) l1_2) := ⟨by refine Qf ?_; exact Kd.R_mono (Kd.R_far (p := ⟨go107, ((ji104) : Int).toNat, none⟩) (Kd.R_mono HO1_2.out (fun k_ hk => (⟨hk, fun e_ => hk.2 (by rw [e_]; rfl)⟩ : _ ∧ k_ ≠ go107))) (fun _ hk => hk.2) (.int .i64 (wrap64 (-(rd l1_1 (ji104)))))) (fun _ hk => ⟨hk.1.1, hk.1.2⟩)⟩
    have n2_ : Aside0 ((w119.setCell ⟨go107, ((ji104) : Int).toNat, none⟩ (.int .i64 (wrap64 (-(rd l1_1 (ji104)))))).heap[gb242]? = some (.cells #[.int .i64 a0_0, .int .i64 a0_1, .int .i64 a0_2, .int .i64 a0_3] 48 (0, 0))) := ⟨by refine Qe ?_; refine blk_far ?_ T_2 _; refine Qe ?_; exact BK242.out⟩
    have n3_ : Aside0 ((w119.setCell ⟨go107, ((ji104) : Int).toNat, none⟩ (.int .i64 (wrap64 (-(rd l1_1 (ji104)))))).heap[gb243]? = some (.cells #[.int .i64 (wrap64 (a1_0 + 1)), .slice (some ⟨go107, 0, none⟩) l1_1.length co109, .slice Ao110 l1_2.length co110] 28 (0, 0))) := ⟨by refine Qe ?_; refine blk_far ?_ T_3 _; refine Qe ?_; exact BK243.out⟩
    have n4_ : Aside0 ((w119.setCell ⟨go107, ((ji104) : Int).toNat, none⟩ (.int .i64 (wrap64 (-(rd l1_1 (ji104)))))).heap[gb244]? = some (.cells #[.int .i64 0, .slice none 0 0, .slice none 0 0] 28 (0, 0))) := ⟨by refine Qe ?_; refine blk_far ?_ T_4 _; refine Qe ?_; exact BK244.out⟩
    have n5_ : Aside0 (Kept w (w119.setCell ⟨go107, ((ji104) : Int).toNat, none⟩ (.int .i64 (wrap64 (-(rd l1_1 (ji104)))))) (fun k_ => P1_1_ k_ ∨ P1_2_ k_)) := ⟨Qd HK.out⟩
    have n6_ : Aside0 (Below w0.heap.size w0 (w119.setCell ⟨go107, ((ji104) : Int).toNat, none⟩ (.int .i64 (wrap64 (-(rd l1_1 (ji104))))))) := ⟨Qb HB.out⟩
    (try clear HO1_1); (try clear HO1_2); (try clear BK242); (try clear BK243); (try clear BK244); (try clear HK); (try clear HB)
    generalize (w119.setCell ⟨go107, ((ji104) : Int).toNat, none⟩ (.int .i64 (wrap64 (-(rd l1_1 (ji104)))))) = w121 at n0_ n1_ n2_ n3_ n4_ n5_ n6_ ⊢
    have HO1_1 := n0_
    have HO1_2 := n1_
    have BK242 := n2_
    have BK243 := n3_
    have BK244 := n4_
    have HK := n5_
    have HB := n6_
    clear n0_ n1_ n2_ n3_ n4_ n5_ n6_
    obtain ⟨hcz122_0, hcz122_1, hcz122_2, hfz122_0, hfz122_1, hfz122_2⟩ := Qv3 BK243.out
    obtain ⟨hcz123_0, hcz123_1, hcz123_2, hfz123_0, hfz123_1, hfz123_2⟩ := Qv3 BK244.out
    try go_wp2
    refine bodyPost_ret (results_cell_row rfl _ _ gb244 28 #[.int .i64 (wrap64 (a1_0 + 1)), .slice (some ⟨go107, 0, none⟩) l1_1.length co109, .slice Ao110 l1_2.length co110] (0, 0) _ rfl (by refine Qe ?_; refine blk_put (cs := #[.int .i64 (wrap64 (a1_0 + 1)), .slice (some ⟨go107, 0, none⟩) l1_1.length co109, .slice none 0 0]) ?_ 2 _ rfl; refine Qe ?_; refine blk_put (cs := #[.int .i64 (wrap64 (a1_0 + 1)), .slice none 0 0, .slice none 0 0]) ?_ 1 _ rfl; refine Qe ?_; refine blk_put (cs := #[.int .i64 0, .slice none 0 0, .slice none 0 0]) ?_ 0 _ rfl; exact Qa BK244.out) Try.underlying28 rfl (by kernel_rfl)) rfl ?_
    exact ⟨_, _, by first | rfl | (simp [errW_none, errW_some] <;> rfl) | (simp only [← hji104]; first | rfl | (simp [errW_none, errW_some] <;> rfl)) | (simp [*, errW_none, errW_some] <;> rfl), by refine Qf ?_; exact Kd.R_mono (Kd.R_far (p := ⟨gb244, 2, none⟩) (Kd.R_far (p := ⟨gb244, 1, none⟩) (Kd.R_far (p := ⟨gb244, 0, none⟩) (Kd.R_types HO1_1.out BK244.out (by decide)) (fun _ hk => hk.2) (.int .i64 (wrap64 (a1_0 + 1)))) (fun _ hk => hk.2) (.slice (some ⟨go107, 0, none⟩) l1_1.length co109)) (fun _ hk => hk.2) (.slice Ao110 l1_2.length co110)) (fun _ hk => ⟨hk.1.1, hk.1.2⟩), by refine Qf ?_; exact Kd.R_mono (Kd.R_far (p := ⟨gb244, 2, none⟩) (Kd.R_far (p := ⟨gb244, 1, none⟩) (Kd.R_far (p := ⟨gb244, 0, none⟩) (Kd.R_types HO1_2.out BK244.out (by decide)) (fun _ hk => hk.2) (.int .i64 (wrap64 (a1_0 + 1)))) (fun _ hk => hk.2) (.slice (some ⟨go107, 0, none⟩) l1_1.length co109)) (fun _ hk => hk.2) (.slice Ao110 l1_2.length co110)) (fun _ hk => ⟨hk.1.1, hk.1.2⟩), Qb HB.out, Qd HK.out⟩
   ·rw [if_neg c106] at H
    exact absurd H (by simp)
  ·rw [if_neg c105] at H
   exact absurd H (by simp)
 ·rw [if_neg c103] at H
  have c103b0 : (a0_0 == 5) = false := beq_eq_false_iff_ne.mpr c103
  have c103b1 : (a0_0 != 5) = true := bne_iff_ne.mpr c103
  by_cases c124 : a0_0 = 6
  ·rw [if_pos c124] at H
   have c124b0 : (a0_0 == 6) = true := beq_iff_eq.mpr c124
   have c124b1 : (a0_0 != 6) = false := bne_eq_false_iff_eq.mpr c124
   clear c124
   obtain ⟨ji125, hji125⟩ : ∃ j_ : Int, (wrap64 ((l1_1.length : Int) - 1)) = j_ := ⟨_, rfl⟩
   replace H : (if 0 ≤ (ji125) then (if (ji125) < (l1_1.length : Int) then ((spec_SignOf.f (rd l1_1 (ji125))).bind fun t278 => (some (wrap64 (a1_0 + 1), (l1_1.set ((ji125) : Int).toNat t278), l1_2))) else (none)) else (none)) = some (r1, r2, r3) := by first | (rw [hji125] at H; exact H) | (simp only [hji125] at H ⊢; exact H)
   have hji125w : (IntKind.i64.wrap ((l1_1.length : Int) - 1)) = ji125 := (i64_w _).trans hji125
   by_cases c126 : 0 ≤ (ji125)
   ·rw [if_pos c126] at H
    have c126b0 : decide (0 ≤ (ji125)) = true := decide_eq_true c126
    clear c126
    by_cases c127 : (ji125) < (l1_1.length : Int)
    ·rw [if_pos c127] at H
     have c127b0 : decide ((ji125) < (l1_1.length : Int)) = true := decide_eq_true c127
     clear c127
     replace H := Option.bind_eq_some_iff.mp H
     obtain ⟨t278, A1280, H⟩ := H
     replace H : (some (wrap64 (a1_0 + 1), (l1_1.set ((ji125) : Int).toNat t278), l1_2)) = some (r1, r2, r3) := H
     have A128 := Ak A1280
     clear A1280
     obtain ⟨y279, hy279⟩ : ∃ y_ : List Int, y_ = (l1_1.set ((ji125) : Int).toNat t278) := ⟨_, rfl⟩
     replace H : (some (wrap64 (a1_0 + 1), y279, l1_2)) = some (r1, r2, r3) := by first | (rw [hy279]; with_reducible exact H) | (have H2_ := (Option.bind_some _ _).symm.trans H; rw [hy279]; with_reducible exact H2_) | (have H2_ := (Option.bind_some _ _).symm.trans H; with_reducible exact H2_) | with_reducible exact H | (rw [hy279]; exact H) | exact H
     have Ny279 := Ak hy279
     clear hy279
     simp only [Option.some.injEq, Prod.mk.injEq] at H
     obtain ⟨rfl, rfl, rfl⟩ := H
     go_enter Try.func38, Try.ntmps38
     try go_wp2_with (first | ((with_reducible refine gate_dst (N := 2) rfl ?_); refine Qk 2 #[.int .i64 a0_0, .int .i64 a0_1, .int .i64 a0_2, .int .i64 a0_3] 48 ?_; intro gb242 hg w130 hbox hb; have n0_ := Ak (Kd.R_below (Qc HO1_1.out) hb); have n1_ := Ak (Kd.R_below (Qc HO1_2.out) hb); have n2_ := Ak (Kept.below (S := (fun k_ => P1_1_ k_ ∨ P1_2_ k_)) (Qd HK.out) hb); have n3_ := Ak (below_step (Qb HB.out) hb); have n4_ := Ak (hbox); have n5_ := Ak ((by rw [hg]; exact (Qo HK.out) : w.heap.size ≤ gb242)); have n6_ := Ak ((Qp hg HB.out : w0.heap.size ≤ gb242)); clear HO1_1 HO1_2 HK HB; have HO1_1 := n0_; have HO1_2 := n1_; have HK := n2_; have HB := n3_; have BK242 := n4_; have GW242 := n5_; have GE242 := n6_; clear n0_ n1_ n2_ n3_ n4_ n5_ n6_; clear hb hbox hg; obtain ⟨Ao131, co131, eo131⟩ := Kd.R_slice HO1_1.out; subst eo131; obtain ⟨Ao132, co132, eo132⟩ := Kd.R_slice HO1_2.out; subst eo132) | ((with_reducible refine gate_dst (N := 3) rfl ?_); refine Qk 3 #[.int .i64 a1_0, .slice Ao131 l1_1.length co131, .slice Ao132 l1_2.length co132] 28 ?_; intro gb243 hg w133 hbox hb; have n0_ := Ak (Kd.R_below (Qc HO1_1.out) hb); have n1_ := Ak (Kd.R_below (Qc HO1_2.out) hb); have n2_ := Ak (Qm BK242.out hb); have n3_ := Ak (Kept.below (S := (fun k_ => P1_1_ k_ ∨ P1_2_ k_)) (Qd HK.out) hb); have n4_ := Ak (below_step (Qb HB.out) hb); have n5_ := Ak (hbox); have n6_ := Ak ((by rw [hg]; exact (Qo HK.out) : w.heap.size ≤ gb243)); have n7_ := Ak ((Qp hg HB.out : w0.heap.size ≤ gb243)); have n8_ := Ak ((by rw [hg]; exact Nat.ne_of_lt (Qn BK242.out) : gb242 ≠ gb243)); have n9_ := Ak ((by rw [hg]; exact Nat.ne_of_gt (Qn BK242.out) : gb243 ≠ gb242)); clear HO1_1 HO1_2 BK242 HK HB; have HO1_1 := n0_; have HO1_2 := n1_; have BK242 := n2_; have HK := n3_; have HB := n4_; have BK243 := n5_; have GW243 := n6_; have GE243 := n7_; have NB242_243 := n8_; have NB243_242 := n9_; clear n0_ n1_ n2_ n3_ n4_ n5_ n6_ n7_ n8_ n9_; clear hb hbox hg) | ((with_reducible refine gate_dst (N := 4) rfl ?_); refine Qk 4 #[.int .i64 0, .slice none 0 0, .slice none 0 0] 28 ?_; intro gb244 hg w134 hbox hb; have n0_ := Ak (Kd.R_below (Qc HO1_1.out) hb); have n1_ := Ak (Kd.R_below (Qc HO1_2.out) hb); have n2_ := Ak (Qm BK242.out hb); have n3_ := Ak (Qm BK243.out hb); have n4_ := Ak (Kept.below (S := (fun k_ => P1_1_ k_ ∨ P1_2_ k_)) (Qd HK.out) hb); have n5_ := Ak (below_step (Qb HB.out) hb); have n6_ := Ak (hbox); have n7_ := Ak ((by rw [hg]; exact (Qo HK.out) : w.heap.size ≤ gb244)); have n8_ := Ak ((Qp hg HB.out : w0.heap.size ≤ gb244)); have n9_ := Ak ((by rw [hg]; exact Nat.ne_of_lt (Qn BK242.out) : gb242 ≠ gb244)); have n10_ := Ak ((by rw [hg]; exact Nat.ne_of_gt (Qn BK242.out) : gb244 ≠ gb242)); have n11_ := Ak ((by rw [hg]; exact Nat.ne_of_lt (Qn BK243.out) : gb243 ≠ gb244)); have n12_ := Ak ((by rw [hg]; exact Nat.ne_of_gt (Qn BK243.out) : gb244 ≠ gb243)); clear HO1_1 HO1_2 BK242 BK243 HK HB; have HO1_1 := n0_; have HO1_2 := n1_; have BK242 := n2_; have BK243 := n3_; have HK := n4_; have HB := n5_; have BK244 := n6_; have GW244 := n7_; have GE244 := n8_; have NB242_244 := n9_; have NB244_242 := n10_; have NB243_244 := n11_; have NB244_243 := n12_; clear n0_ n1_ n2_ n3_ n4_ n5_ n6_ n7_ n8_ n9_ n10_ n11_ n12_; clear hb hbox hg; have hnb135 := NB243_242.out; have hnc135 := NB242_243.out; have hnb136 := NB243_244.out; have hnc136 := NB244_243.out; obtain ⟨hcz137_0, hcz137_1, hcz137_2, hfz137_0, hfz137_1, hfz137_2⟩ := Qv3 BK243.out; have hnb138 := NB242_244.out; have hnc138 := NB244_242.out; obtain ⟨hcz139_0, hcz139_1, hcz139_2, hcz139_3⟩ := Qu4 BK242.out; have hfz139_0 := blk_frozen BK242.out 0; have hfz139_1 := blk_frozen BK242.out 1; have hfz139_2 := blk_frozen BK242.out 2; have hfz139_3 := blk_frozen BK242.out 3))
     have n0_ : Aside0 (Kd.R (Kd.int .i64) 3 (w134.setCell ⟨gb243, 0, none⟩ (.int .i64 (wrap64 (a1_0 + 1)))) w0.heap.size (fun k_ => ((P1_1_ k_ ∨ P1_2_ k_) ∨ w.heap.size ≤ k_) ∧ some k_ ≠ (.slice Ao132 l1_2.length co132 : Value).ownBlock) (.slice Ao131 l1_1.length co131) l1_1) := ⟨by refine Qf ?_; exact Kd.R_mono (Kd.R_far (p := ⟨gb243, 0, none⟩) (Kd.R_types HO1_1.out BK243.out (by decide)) (fun _ hk => hk.2) (.int .i64 (wrap64 (a1_0 + 1)))) (fun _ hk => ⟨hk.1.1, hk.1.2⟩)⟩
     have n1_ : Aside0 (Kd.R (Kd.int .i64) 3 (w134.setCell ⟨gb243, 0, none⟩ (.int .i64 (wrap64 (a1_0 + 1)))) w0.heap.size (fun k_ => ((P1_1_ k_ ∨ P1_2_ k_) ∨ w.heap.size ≤ k_) ∧ some k_ ≠ (.slice Ao131 l1_1.length co131 : Value).ownBlock) (.slice Ao132 l1_2.length co132) l1_2) := ⟨by refine Qf ?_; exact Kd.R_mono (Kd.R_far (p := ⟨gb243, 0, none⟩) (Kd.R_types HO1_2.out BK243.out (by decide)) (fun _ hk => hk.2) (.int .i64 (wrap64 (a1_0 + 1)))) (fun _ hk => ⟨hk.1.1, hk.1.2⟩)⟩
     have n2_ : Aside0 ((w134.setCell ⟨gb243, 0, none⟩ (.int .i64 (wrap64 (a1_0 + 1)))).heap[gb242]? = some (.cells #[.int .i64 a0_0, .int .i64 a0_1, .int .i64 a0_2, .int .i64 a0_3] 48 (0, 0))) := ⟨by refine Qe ?_; refine blk_far ?_ NB242_243.out _; refine Qe ?_; exact BK242.out⟩
     have n3_ : Aside0 ((w134.setCell ⟨gb243, 0, none⟩ (.int .i64 (wrap64 (a1_0 + 1)))).heap[gb243]? = some (.cells #[.int .i64 (wrap64 (a1_0 + 1)), .slice Ao131 l1_1.length co131, .slice Ao132 l1_2.length co132] 28 (0, 0))) := ⟨by refine Qe ?_; refine blk_put (cs := #[.int .i64 a1_0, .slice Ao131 l1_1.length co131, .slice Ao132 l1_2.length co132]) ?_ 0 _ rfl; refine Qe ?_; exact BK243.out⟩
     have n4_ : Aside0 ((w134.setCell ⟨gb243, 0, none⟩ (.int .i64 (wrap64 (a1_0 + 1)))).heap[gb244]? = some (.cells #[.int .i64 0, .slice none 0 0, .slice none 0 0] 28 (0, 0))) := ⟨by refine Qe ?_; refine blk_far ?_ NB244_243.out _; refine Qe ?_; exact BK244.out⟩
     have n5_ : Aside0 (Kept w (w134.setCell ⟨gb243, 0, none⟩ (.int .i64 (wrap64 (a1_0 + 1)))) (fun k_ => P1_1_ k_ ∨ P1_2_ k_)) := ⟨Qd HK.out⟩
     have n6_ : Aside0 (Below w0.heap.size w0 (w134.setCell ⟨gb243, 0, none⟩ (.int .i64 (wrap64 (a1_0 + 1))))) := ⟨Qb HB.out⟩
     (try clear HO1_1); (try clear HO1_2); (try clear BK242); (try clear BK243); (try clear BK244); (try clear HK); (try clear HB)
     generalize (w134.setCell ⟨gb243, 0, none⟩ (.int .i64 (wrap64 (a1_0 + 1)))) = w140 at n0_ n1_ n2_ n3_ n4_ n5_ n6_ ⊢
     have HO1_1 := n0_
     have HO1_2 := n1_
     have BK242 := n2_
     have BK243 := n3_
     have BK244 := n4_
     have HK := n5_
     have HB := n6_
     clear n0_ n1_ n2_ n3_ n4_ n5_ n6_
     have n0_ := Ak (Kd.R_drew HO1_1.out)
     have n1_ := Ak (Kd.R_drew HO1_2.out)
     have n2_ := Ak (blk_drew BK242.out)
     have n3_ := Ak (blk_drew BK243.out)
     have n4_ := Ak (blk_drew BK244.out)
     have n5_ := Ak (Kept.drew HK.out)
     have n6_ := Ak (below_drew1 HB.out)
     clear HO1_1 HO1_2 BK242 BK243 BK244 HK HB
     have HO1_1 := n0_
     have HO1_2 := n1_
     have BK242 := n2_
     have BK243 := n3_
     have BK244 := n4_
     have HK := n5_
     have HB := n6_
     clear n0_ n1_ n2_ n3_ n4_ n5_ n6_
     have p277 : 0 ≤ ((ji125) : Int) := Qg
     have q277 : (ji125) < (l1_1.length : Int) := Qg
     obtain ⟨ad277, e277, hx277_0⟩ := Kd.at_int (Kd.R_reads' HO1_1.out).2.2 (ji125) p277 q277
     cases e277
     replace p277 := eq_true p277
     replace q277 := eq_true q277
     refine start_ (n := 13) (S := fun w' => w'.cell? ⟨gb243, 0, none⟩ = some (.int .i64 (wrap64 (a1_0 + 1))) ∧ w'.cell? ⟨gb243, 1, none⟩ = some (.slice (some ad277) l1_1.length co131) ∧ w'.cell? ⟨gb243, 2, none⟩ = some (.slice Ao132 l1_2.length co132) ∧ w'.cell? (ad277.add ((ji125)).toNat) = some (.int .i64 (rd l1_1 (ji125)))) (ds := [12]) #[false, false, false, false, false, false, false, false, false, false, false, false, false] (by kernel_rfl) rfl rfl ⟨(blk_cell BK243.out 0).trans rfl, (blk_cell BK243.out 1).trans rfl, (blk_cell BK243.out 2).trans rfl, hx277_0⟩ (fun hHeld => ?_); refine with_tabW spec_l7Change.tab15 spec_l7Change.bits15 (fun HT_ HW_ => ?_)
     generalize w140.drew = w141 at HO1_1 HO1_2 BK242 BK243 BK244 HK HB hx277_0 hHeld ⊢
     refine Qq 0 (some 113) ?_
     refine Qq 2 (some 115) ?_
     refine Qq 3 (some 116) ?_
     refine Qq 4 (some 117) ?_
     refine Qq 6 (some 119) ?_
     refine Qq 7 (some 120) ?_
     refine Qr 1 (some 114) hHeld ?_
     refine Qr 5 (some 118) hHeld ?_
     refine Qq 8 (some 121) ?_
     refine Qr 9 (some 122) hHeld ?_
     refine Qs 10 (some 123) (fun K hK => ?_)
     refine goes_ Try.func69 (by kernel_rfl) rfl #[.int .i64 (rd l1_1 (ji125))] (by rfl) rfl rfl (by (try simp only [List.map_toArray, List.map_cons, List.map_nil]); first | done | (simp only [hji125]; rfl) | rfl | (simp only [List.length_drop, List.length_take]; rfl)) ?_
     with_reducible refine (spec_SignOf.calls (rd l1_1 (ji125)) t278 _ A128.out).mono ?_
     rintro e w142 ⟨rfl, hb⟩
     have HS3_ := (hb.cell (World.block_lt_of_cell? _ _ (hHeld.2.2.2))).trans (hHeld.2.2.2)
     refine ⟨_, rfl, ?_⟩
     have n0_ := Ak (Kd.R_below (Qc HO1_1.out) hb)
     have n1_ := Ak (Kd.R_below (Qc HO1_2.out) hb)
     have n2_ := Ak (Qm BK242.out hb)
     have n3_ := Ak (Qm BK243.out hb)
     have n4_ := Ak (Qm BK244.out hb)
     have n5_ := Ak (Kept.below (S := (fun k_ => P1_1_ k_ ∨ P1_2_ k_)) (Qd HK.out) hb)
     have n6_ := Ak (below_step (Qb HB.out) hb)
     clear HO1_1 HO1_2 BK242 BK243 BK244 HK HB
     have HO1_1 := n0_
     have HO1_2 := n1_
     have BK242 := n2_
     have BK243 := n3_
     have BK244 := n4_
     have HK := n5_
     have HB := n6_
     clear n0_ n1_ n2_ n3_ n4_ n5_ n6_
     (try clear hb); (try clear hb2); (try clear hk); (try clear hi)
     have p129 : 0 ≤ ((ji125) : Int) := Qg
     have q129 : ((ji125) : Int) < ((l1_1.length : Int) : Int) := Qg
     obtain ⟨go129, co129, eo129, gb129, gl129, cl129, HG129⟩ := Kd.R_form HO1_1.out (by omega)
     (first | cases eo129 | (injection eo129 with ea_ en_ ec_; (first | subst ea_ | (injection ea_ with ea_; subst ea_)); subst ec_; clear en_))
     have GB129 := Ak gb129
     have GG129 := Ak HG129
     clear gb129 gl129 HG129
     have HMgo129 := Ak (show ((P1_1_ go129 ∨ P1_2_ go129) ∨ w.heap.size ≤ go129) from (HO1_1.out.1 _ rfl).1)
     (first | simp only [add_plain] at hx277_0 | skip)
     obtain ⟨hx129_0, hf129_0⟩ := Kd.R_celln 0 HO1_1.out ((ji125) : Int) p129 q129
     replace p129 := eq_true p129
     replace q129 := eq_true q129
     have HP143 := Kd.R_putn HO1_1.out ((ji125) : Int) t278
     rw [← Ny279.out] at HP143
     have HQ143 := Ak HP143
     clear HP143
     refine hK.out _ _ ⟨(blk_cell BK243.out 0).trans rfl, (blk_cell BK243.out 1).trans rfl, (blk_cell BK243.out 2).trans rfl, HS3_⟩ (fun hHeld => ?_)
     clear hK K
     refine norm_ (a' := ?_) ?_ ?_
     rotate_left
     ·show Act.put _ (some 123) _ = _
      simp only [Act.put, List.setIfInBounds_toArray, List.set_cons_zero, List.set_cons_succ, i64_w, i32_w]
      rfl
     refine Qq 11 (some 124) ?_
     refine Qt 12 none (fun K hK => ?_)
     refine skip_ (w1 := ?_) (by rfl) rfl ?_ ?_
     rotate_left
     ·go_simp
      rfl
     refine hK.out _ _ ?_
     clear hK K
     refine done_ (done_of HT_.out (by kernel_rfl)) ?_
     have n0_ : Aside0 (Kd.R (Kd.int .i64) 3 (w142.setCell ⟨go129, ((ji125) : Int).toNat, none⟩ (.int .i64 t278)) w0.heap.size (fun k_ => ((P1_1_ k_ ∨ P1_2_ k_) ∨ w.heap.size ≤ k_) ∧ some k_ ≠ (.slice Ao132 l1_2.length co132 : Value).ownBlock) (.slice (some ⟨go129, 0, none⟩) l1_1.length co131) y279) := ⟨by refine Qf ?_; exact HQ143.out⟩
     have n1_ : Aside0 (Kd.R (Kd.int .i64) 3 (w142.setCell ⟨go129, ((ji125) : Int).toNat, none⟩ (.int .i64 t278)) w0.heap.size (fun k_ => ((P1_1_ k_ ∨ P1_2_ k_) ∨ w.heap.size ≤ k_) ∧ some k_ ≠ (.slice (some ⟨go129, 0, none⟩) l1_1.length co131 : Value).ownBlock) (.slice Ao132 l1_2.length co132) l1_2) := ⟨by refine Qf ?_; exact Kd.R_mono (Kd.R_far (p := ⟨go129, ((ji125) : Int).toNat, none⟩) (Kd.R_mono HO1_2.out (fun k_ hk => (⟨hk, fun e_ => hk.2 (by rw [e_]; rfl)⟩ : _ ∧ k_ ≠ go129))) (fun _ hk => hk.2) (.int .i64 t278)) (fun _ hk => ⟨hk.1.1, hk.1.2⟩)⟩
     have n2_ : Aside0 ((w142.setCell ⟨go129, ((ji125) : Int).toNat, none⟩ (.int .i64 t278)).heap[gb242]? = some (.cells #[.int .i64 a0_0, .int .i64 a0_1, .int .i64 a0_2, .int .i64 a0_3] 48 (0, 0))) := ⟨by refine Qe ?_; refine blk_far ?_ T_2 _; refine Qe ?_; exact BK242.out⟩
     have n3_ : Aside0 ((w142.setCell ⟨go129, ((ji125) : Int).toNat, none⟩ (.int .i64 t278)).heap[gb243]? = some (.cells #[.int .i64 (wrap64 (a1_0 + 1)), .slice (some ⟨go129, 0, none⟩) l1_1.length co131, .slice Ao132 l1_2.length co132] 28 (0, 0))) := ⟨by refine Qe ?_; refine blk_far ?_ T_3 _; refine Qe ?_; exact BK243.out⟩
     have n4_ : Aside0 ((w142.setCell ⟨go129, ((ji125) : Int).toNat, none⟩ (.int .i64 t278)).heap[gb244]? = some (.cells #[.int .i64 0, .slice none 0 0, .slice none 0 0] 28 (0, 0))) := ⟨by refine Qe ?_; refine blk_far ?_ T_4 _; refine Qe ?_; exact BK244.out⟩
     have n5_ : Aside0 (Kept w (w142.setCell ⟨go129, ((ji125) : Int).toNat, none⟩ (.int .i64 t278)) (fun k_ => P1_1_ k_ ∨ P1_2_ k_)) := ⟨Qd HK.out⟩
     have n6_ : Aside0 (Below w0.heap.size w0 (w142.setCell ⟨go129, ((ji125) : Int).toNat, none⟩ (.int .i64 t278))) := ⟨Qb HB.out⟩
     (try clear HO1_1); (try clear HO1_2); (try clear BK242); (try clear BK243); (try clear BK244); (try clear HK); (try clear HB)
     generalize (w142.setCell ⟨go129, ((ji125) : Int).toNat, none⟩ (.int .i64 t278)) = w144 at n0_ n1_ n2_ n3_ n4_ n5_ n6_ ⊢
     have HO1_1 := n0_
     have HO1_2 := n1_
     have BK242 := n2_
     have BK243 := n3_
     have BK244 := n4_
     have HK := n5_
     have HB := n6_
     clear n0_ n1_ n2_ n3_ n4_ n5_ n6_
     obtain ⟨hcz145_0, hcz145_1, hcz145_2, hfz145_0, hfz145_1, hfz145_2⟩ := Qv3 BK243.out
     obtain ⟨hcz146_0, hcz146_1, hcz146_2, hfz146_0, hfz146_1, hfz146_2⟩ := Qv3 BK244.out
     try go_wp2
     refine bodyPost_ret (results_cell_row rfl _ _ gb244 28 #[.int .i64 (wrap64 (a1_0 + 1)), .slice (some ⟨go129, 0, none⟩) l1_1.length co131, .slice Ao132 l1_2.length co132] (0, 0) _ rfl (by refine Qe ?_; refine blk_put (cs := #[.int .i64 (wrap64 (a1_0 + 1)), .slice (some ⟨go129, 0, none⟩) l1_1.length co131, .slice none 0 0]) ?_ 2 _ rfl; refine Qe ?_; refine blk_put (cs := #[.int .i64 (wrap64 (a1_0 + 1)), .slice none 0 0, .slice none 0 0]) ?_ 1 _ rfl; refine Qe ?_; refine blk_put (cs := #[.int .i64 0, .slice none 0 0, .slice none 0 0]) ?_ 0 _ rfl; exact Qa BK244.out) Try.underlying28 rfl (by kernel_rfl)) rfl ?_
     exact ⟨_, _, by first | rfl | (simp [errW_none, errW_some] <;> rfl) | (simp only [← hji125]; first | rfl | (simp [errW_none, errW_some] <;> rfl)) | (simp [*, errW_none, errW_some] <;> rfl), by refine Qf ?_; exact Kd.R_mono (Kd.R_far (p := ⟨gb244, 2, none⟩) (Kd.R_far (p := ⟨gb244, 1, none⟩) (Kd.R_far (p := ⟨gb244, 0, none⟩) (Kd.R_types HO1_1.out BK244.out (by decide)) (fun _ hk => hk.2) (.int .i64 (wrap64 (a1_0 + 1)))) (fun _ hk => hk.2) (.slice (some ⟨go129, 0, none⟩) l1_1.length co131)) (fun _ hk => hk.2) (.slice Ao132 l1_2.length co132)) (fun _ hk => ⟨hk.1.1, hk.1.2⟩), by refine Qf ?_; exact Kd.R_mono (Kd.R_far (p := ⟨gb244, 2, none⟩) (Kd.R_far (p := ⟨gb244, 1, none⟩) (Kd.R_far (p := ⟨gb244, 0, none⟩) (Kd.R_types HO1_2.out BK244.out (by decide)) (fun _ hk => hk.2) (.int .i64 (wrap64 (a1_0 + 1)))) (fun _ hk => hk.2) (.slice (some ⟨go129, 0, none⟩) l1_1.length co131)) (fun _ hk => hk.2) (.slice Ao132 l1_2.length co132)) (fun _ hk => ⟨hk.1.1, hk.1.2⟩), Qb HB.out, Qd HK.out⟩
    ·rw [if_neg c127] at H
     exact absurd H (by simp)
   ·rw [if_neg c126] at H
    exact absurd H (by simp)
  ·rw [if_neg c124] at H
   have c124b0 : (a0_0 == 6) = false := beq_eq_false_iff_ne.mpr c124
   have c124b1 : (a0_0 != 6) = true := bne_iff_ne.mpr c124
   by_cases c147 : a0_0 = 7
   ·rw [if_pos c147] at H
    have c147b0 : (a0_0 == 7) = true := beq_iff_eq.mpr c147
    have c147b1 : (a0_0 != 7) = false := bne_eq_false_iff_eq.mpr c147
    clear c147
    obtain ⟨ji148, hji148⟩ : ∃ j_ : Int, (wrap64 ((l1_1.length : Int) - 1)) = j_ := ⟨_, rfl⟩
    replace H : (if 0 ≤ (ji148) then (if (ji148) < (l1_1.length : Int) then (if l1_1.length < 17592186044416 then (some (wrap64 (a1_0 + 1), (l1_1 ++ [rd l1_1 (ji148)]), l1_2)) else (none)) else (none)) else (none)) = some (r1, r2, r3) := by first | (rw [hji148] at H; exact H) | (simp only [hji148] at H ⊢; exact H)
    have hji148w : (IntKind.i64.wrap ((l1_1.length : Int) - 1)) = ji148 := (i64_w _).trans hji148
    by_cases c149 : 0 ≤ (ji148)
    ·rw [if_pos c149] at H
     have c149b0 : decide (0 ≤ (ji148)) = true := decide_eq_true c149
     clear c149
     by_cases c150 : (ji148) < (l1_1.length : Int)
     ·rw [if_pos c150] at H
      have c150b0 : decide ((ji148) < (l1_1.length : Int)) = true := decide_eq_true c150
      clear c150
      by_cases c151 : l1_1.length < 17592186044416
      ·rw [if_pos c151] at H
       have LMc151 := Ak c151
       clear c151
       obtain ⟨y281, hy281⟩ : ∃ y_ : List Int, y_ = (l1_1 ++ [rd l1_1 (ji148)]) := ⟨_, rfl⟩
       replace H : (some (wrap64 (a1_0 + 1), y281, l1_2)) = some (r1, r2, r3) := by first | (rw [hy281]; with_reducible exact H) | (have H2_ := (Option.bind_some _ _).symm.trans H; rw [hy281]; with_reducible exact H2_) | (have H2_ := (Option.bind_some _ _).symm.trans H; with_reducible exact H2_) | with_reducible exact H | (rw [hy281]; exact H) | exact H
       have Ny281 := Ak hy281
       clear hy281
       simp only [Option.some.injEq, Prod.mk.injEq] at H
       obtain ⟨rfl, rfl, rfl⟩ := H
       go_enter Try.func38, Try.ntmps38
       try go_wp2_with (first | ((with_reducible refine gate_dst (N := 2) rfl ?_); refine Qk 2 #[.int .i64 a0_0, .int .i64 a0_1, .int .i64 a0_2, .int .i64 a0_3] 48 ?_; intro gb242 hg w152 hbox hb; have n0_ := Ak (Kd.R_below (Qc HO1_1.out) hb); have n1_ := Ak (Kd.R_below (Qc HO1_2.out) hb); have n2_ := Ak (Kept.below (S := (fun k_ => P1_1_ k_ ∨ P1_2_ k_)) (Qd HK.out) hb); have n3_ := Ak (below_step (Qb HB.out) hb); have n4_ := Ak (hbox); have n5_ := Ak ((by rw [hg]; exact (Qo HK.out) : w.heap.size ≤ gb242)); have n6_ := Ak ((Qp hg HB.out : w0.heap.size ≤ gb242)); clear HO1_1 HO1_2 HK HB; have HO1_1 := n0_; have HO1_2 := n1_; have HK := n2_; have HB := n3_; have BK242 := n4_; have GW242 := n5_; have GE242 := n6_; clear n0_ n1_ n2_ n3_ n4_ n5_ n6_; clear hb hbox hg; obtain ⟨Ao153, co153, eo153⟩ := Kd.R_slice HO1_1.out; subst eo153; obtain ⟨Ao154, co154, eo154⟩ := Kd.R_slice HO1_2.out; subst eo154) | ((with_reducible refine gate_dst (N := 3) rfl ?_); refine Qk 3 #[.int .i64 a1_0, .slice Ao153 l1_1.length co153, .slice Ao154 l1_2.length co154] 28 ?_; intro gb243 hg w155 hbox hb; have n0_ := Ak (Kd.R_below (Qc HO1_1.out) hb); have n1_ := Ak (Kd.R_below (Qc HO1_2.out) hb); have n2_ := Ak (Qm BK242.out hb); have n3_ := Ak (Kept.below (S := (fun k_ => P1_1_ k_ ∨ P1_2_ k_)) (Qd HK.out) hb); have n4_ := Ak (below_step (Qb HB.out) hb); have n5_ := Ak (hbox); have n6_ := Ak ((by rw [hg]; exact (Qo HK.out) : w.heap.size ≤ gb243)); have n7_ := Ak ((Qp hg HB.out : w0.heap.size ≤ gb243)); have n8_ := Ak ((by rw [hg]; exact Nat.ne_of_lt (Qn BK242.out) : gb242 ≠ gb243)); have n9_ := Ak ((by rw [hg]; exact Nat.ne_of_gt (Qn BK242.out) : gb243 ≠ gb242)); clear HO1_1 HO1_2 BK242 HK HB; have HO1_1 := n0_; have HO1_2 := n1_; have BK242 := n2_; have HK := n3_; have HB := n4_; have BK243 := n5_; have GW243 := n6_; have GE243 := n7_; have NB242_243 := n8_; have NB243_242 := n9_; clear n0_ n1_ n2_ n3_ n4_ n5_ n6_ n7_ n8_ n9_; clear hb hbox hg) | ((with_reducible refine gate_dst (N := 4) rfl ?_); refine Qk 4 #[.int .i64 0, .slice none 0 0, .slice none 0 0] 28 ?_; intro gb244 hg w156 hbox hb; have n0_ := Ak (Kd.R_below (Qc HO1_1.out) hb); have n1_ := Ak (Kd.R_below (Qc HO1_2.out) hb); have n2_ := Ak (Qm BK242.out hb); have n3_ := Ak (Qm BK243.out hb); have n4_ := Ak (Kept.below (S := (fun k_ => P1_1_ k_ ∨ P1_2_ k_)) (Qd HK.out) hb); have n5_ := Ak (below_step (Qb HB.out) hb); have n6_ := Ak (hbox); have n7_ := Ak ((by rw [hg]; exact (Qo HK.out) : w.heap.size ≤ gb244)); have n8_ := Ak ((Qp hg HB.out : w0.heap.size ≤ gb244)); have n9_ := Ak ((by rw [hg]; exact Nat.ne_of_lt (Qn BK242.out) : gb242 ≠ gb244)); have n10_ := Ak ((by rw [hg]; exact Nat.ne_of_gt (Qn BK242.out) : gb244 ≠ gb242)); have n11_ := Ak ((by rw [hg]; exact Nat.ne_of_lt (Qn BK243.out) : gb243 ≠ gb244)); have n12_ := Ak ((by rw [hg]; exact Nat.ne_of_gt (Qn BK243.out) : gb244 ≠ gb243)); clear HO1_1 HO1_2 BK242 BK243 HK HB; have HO1_1 := n0_; have HO1_2 := n1_; have BK242 := n2_; have BK243 := n3_; have HK := n4_; have HB := n5_; have BK244 := n6_; have GW244 := n7_; have GE244 := n8_; have NB242_244 := n9_; have NB244_242 := n10_; have NB243_244 := n11_; have NB244_243 := n12_; clear n0_ n1_ n2_ n3_ n4_ n5_ n6_ n7_ n8_ n9_ n10_ n11_ n12_; clear hb hbox hg; have hnb157 := NB243_242.out; have hnc157 := NB242_243.out; have hnb158 := NB243_244.out; have hnc158 := NB244_243.out; obtain ⟨hcz159_0, hcz159_1, hcz159_2, hfz159_0, hfz159_1, hfz159_2⟩ := Qv3 BK243.out; have hnb160 := NB242_244.out; have hnc160 := NB244_242.out; obtain ⟨hcz161_0, hcz161_1, hcz161_2, hcz161_3⟩ := Qu4 BK242.out; have hfz161_0 := blk_frozen BK242.out 0; have hfz161_1 := blk_frozen BK242.out 1; have hfz161_2 := blk_frozen BK242.out 2; have hfz161_3 := blk_frozen BK242.out 3))
       have n0_ : Aside0 (Kd.R (Kd.int .i64) 3 (w156.setCell ⟨gb243, 0, none⟩ (.int .i64 (wrap64 (a1_0 + 1)))) w0.heap.size (fun k_ => ((P1_1_ k_ ∨ P1_2_ k_) ∨ w.heap.size ≤ k_) ∧ some k_ ≠ (.slice Ao154 l1_2.length co154 : Value).ownBlock) (.slice Ao153 l1_1.length co153) l1_1) := ⟨by refine Qf ?_; exact Kd.R_mono (Kd.R_far (p := ⟨gb243, 0, none⟩) (Kd.R_types HO1_1.out BK243.out (by decide)) (fun _ hk => hk.2) (.int .i64 (wrap64 (a1_0 + 1)))) (fun _ hk => ⟨hk.1.1, hk.1.2⟩)⟩
       have n1_ : Aside0 (Kd.R (Kd.int .i64) 3 (w156.setCell ⟨gb243, 0, none⟩ (.int .i64 (wrap64 (a1_0 + 1)))) w0.heap.size (fun k_ => ((P1_1_ k_ ∨ P1_2_ k_) ∨ w.heap.size ≤ k_) ∧ some k_ ≠ (.slice Ao153 l1_1.length co153 : Value).ownBlock) (.slice Ao154 l1_2.length co154) l1_2) := ⟨by refine Qf ?_; exact Kd.R_mono (Kd.R_far (p := ⟨gb243, 0, none⟩) (Kd.R_types HO1_2.out BK243.out (by decide)) (fun _ hk => hk.2) (.int .i64 (wrap64 (a1_0 + 1)))) (fun _ hk => ⟨hk.1.1, hk.1.2⟩)⟩
       have n2_ : Aside0 ((w156.setCell ⟨gb243, 0, none⟩ (.int .i64 (wrap64 (a1_0 + 1)))).heap[gb242]? = some (.cells #[.int .i64 a0_0, .int .i64 a0_1, .int .i64 a0_2, .int .i64 a0_3] 48 (0, 0))) := ⟨by refine Qe ?_; refine blk_far ?_ NB242_243.out _; refine Qe ?_; exact BK242.out⟩
       have n3_ : Aside0 ((w156.setCell ⟨gb243, 0, none⟩ (.int .i64 (wrap64 (a1_0 + 1)))).heap[gb243]? = some (.cells #[.int .i64 (wrap64 (a1_0 + 1)), .slice Ao153 l1_1.length co153, .slice Ao154 l1_2.length co154] 28 (0, 0))) := ⟨by refine Qe ?_; refine blk_put (cs := #[.int .i64 a1_0, .slice Ao153 l1_1.length co153, .slice Ao154 l1_2.length co154]) ?_ 0 _ rfl; refine Qe ?_; exact BK243.out⟩
       have n4_ : Aside0 ((w156.setCell ⟨gb243, 0, none⟩ (.int .i64 (wrap64 (a1_0 + 1)))).heap[gb244]? = some (.cells #[.int .i64 0, .slice none 0 0, .slice none 0 0] 28 (0, 0))) := ⟨by refine Qe ?_; refine blk_far ?_ NB244_243.out _; refine Qe ?_; exact BK244.out⟩
       have n5_ : Aside0 (Kept w (w156.setCell ⟨gb243, 0, none⟩ (.int .i64 (wrap64 (a1_0 + 1)))) (fun k_ => P1_1_ k_ ∨ P1_2_ k_)) := ⟨Qd HK.out⟩
       have n6_ : Aside0 (Below w0.heap.size w0 (w156.setCell ⟨gb243, 0, none⟩ (.int .i64 (wrap64 (a1_0 + 1))))) := ⟨Qb HB.out⟩
       (try clear HO1_1); (try clear HO1_2); (try clear BK242); (try clear BK243); (try clear BK244); (try clear HK); (try clear HB)
       generalize (w156.setCell ⟨gb243, 0, none⟩ (.int .i64 (wrap64 (a1_0 + 1)))) = w162 at n0_ n1_ n2_ n3_ n4_ n5_ n6_ ⊢
       have HO1_1 := n0_
       have HO1_2 := n1_
       have BK242 := n2_
       have BK243 := n3_
       have BK244 := n4_
       have HK := n5_
       have HB := n6_
       clear n0_ n1_ n2_ n3_ n4_ n5_ n6_
       have n0_ := Ak (Kd.R_drew HO1_1.out)
       have n1_ := Ak (Kd.R_drew HO1_2.out)
       have n2_ := Ak (blk_drew BK242.out)
       have n3_ := Ak (blk_drew BK243.out)
       have n4_ := Ak (blk_drew BK244.out)
       have n5_ := Ak (Kept.drew HK.out)
       have n6_ := Ak (below_drew1 HB.out)
       clear HO1_1 HO1_2 BK242 BK243 BK244 HK HB
       have HO1_1 := n0_
       have HO1_2 := n1_
       have BK242 := n2_
       have BK243 := n3_
       have BK244 := n4_
       have HK := n5_
       have HB := n6_
       clear n0_ n1_ n2_ n3_ n4_ n5_ n6_
       have p280 : 0 ≤ ((ji148) : Int) := Qg
       have q280 : (ji148) < (l1_1.length : Int) := Qg
       obtain ⟨ad280, e280, hx280_0⟩ := Kd.at_int (Kd.R_reads' HO1_1.out).2.2 (ji148) p280 q280
       cases e280
       replace p280 := eq_true p280
       replace q280 := eq_true q280
       refine start_ (n := 12) (S := fun w' => w'.cell? ⟨gb243, 0, none⟩ = some (.int .i64 (wrap64 (a1_0 + 1))) ∧ w'.cell? ⟨gb243, 1, none⟩ = some (.slice (some ad280) l1_1.length co153) ∧ w'.cell? ⟨gb243, 2, none⟩ = some (.slice Ao154 l1_2.length co154) ∧ w'.cell? (ad280.add ((ji148)).toNat) = some (.int .i64 (rd l1_1 (ji148)))) (ds := [9, 11]) #[false, false, false, false, false, false, false, false, false, false, false, false] (by kernel_rfl) rfl rfl ⟨(blk_cell BK243.out 0).trans rfl, (blk_cell BK243.out 1).trans rfl, (blk_cell BK243.out 2).trans rfl, hx280_0⟩ (fun hHeld => ?_); refine with_tabW spec_l7Change.tab17 spec_l7Change.bits17 (fun HT_ HW_ => ?_)
       generalize w162.drew = w163 at HO1_1 HO1_2 BK242 BK243 BK244 HK HB hx280_0 hHeld ⊢
       refine Qq 0 (some 127) ?_
       refine Qq 2 (some 129) ?_
       refine Qq 4 (some 131) ?_
       refine Qq 5 (some 132) ?_
       refine Qr 1 (some 128) hHeld ?_
       refine Qr 3 (some 130) hHeld ?_
       refine Qq 6 (some 133) ?_
       refine Qr 7 (some 134) hHeld ?_
       refine Qs 8 (some 135) (fun K hK => ?_)
       refine value_ (w1 := ?_) (v := ?_) (by rfl) rfl ?_ ?_
       rotate_left 2
       ·go_simp
        constructor
        ·rfl
        ·rfl
       refine hK.out _ _ ⟨(blk_cell (blk_alloc BK243.out _) 0).trans rfl, (blk_cell (blk_alloc BK243.out _) 1).trans rfl, (blk_cell (blk_alloc BK243.out _) 2).trans rfl, (World.cell?_alloc_lt _ _ _ (World.block_lt_of_cell? _ _ (hHeld.2.2.2))).trans (hHeld.2.2.2)⟩ (fun hHeld => ?_)
       clear hK K
       refine norm_ (a' := ?_) ?_ ?_
       rotate_left
       ·show Act.put _ (some 135) _ = _
        simp only [Act.put, List.setIfInBounds_toArray, List.set_cons_zero, List.set_cons_succ, i64_w, i32_w]
        rfl
       refine Qt 9 (some 136) (fun K hK => ?_)
       refine Kd.R_append_step (Kd.int .i64) (w0 := w0) w0.heap.size (by rfl) (.tmp 128) (.tmp 135) 23 3 (.int .i64 0) 8 rfl Try.underlying23 info3 rfl (by decide) (by omega) (.slice (some ad280) l1_1.length co153) l1_1 (rd l1_1 (ji148)) [.int .i64 (rd l1_1 (ji148))] (fun k_ => ((P1_1_ k_ ∨ P1_2_ k_) ∨ w.heap.size ≤ k_) ∧ some k_ ≠ (.slice Ao154 l1_2.length co154 : Value).ownBlock) (fun _ => False) rfl rfl ?aP (fun _ hk => hk.elim) ?aF ?aO ?aB ?aS ?aL ?_
       (case aP => exact rfl)
       (case aB => exact (Qb HB.out))
       (case aF => exact (fun k_ hk => ⟨(.inr (Nat.le_trans (Qo HK.out) hk)), Kd.fresh' (Kd.R_lt (Qc HO1_2.out)) k_ hk⟩))
       (case aO => exact (Qc HO1_1.out))
       (case aS => exact (below_size (Qb HB.out)))
       (case aL => have := LMc151.out; omega)
       intro v282 w164 ho hb hg hat
       rw [← Ny281.out] at ho
       have n0_ := Ak (Kd.R_after (ok := (fun k_ => ((P1_1_ k_ ∨ P1_2_ k_) ∨ w.heap.size ≤ k_))) (Qc HO1_2.out) hg hat)
       have n1_ := Ak (blk_grown (g := gb242) (o := .cells #[.int .i64 a0_0, .int .i64 a0_1, .int .i64 a0_2, .int .i64 a0_3] 48 (0, 0)) (Qa BK242.out) hg (Kd.R_ne HO1_1.out BK242.out (by decide)))
       have n2_ := Ak (blk_grown (g := gb243) (o := .cells #[.int .i64 (wrap64 (a1_0 + 1)), .slice (some ad280) l1_1.length co153, .slice Ao154 l1_2.length co154] 28 (0, 0)) (Qa BK243.out) hg (Kd.R_ne HO1_1.out BK243.out (by decide)))
       have n3_ := Ak (blk_grown (g := gb244) (o := .cells #[.int .i64 0, .slice none 0 0, .slice none 0 0] 28 (0, 0)) (Qa BK244.out) hg (Kd.R_ne HO1_1.out BK244.out (by decide)))
       have n4_ := Ak (hb)
       have n5_ := Ak (Kept.of_grown (S := (fun k_ => P1_1_ k_ ∨ P1_2_ k_)) hg (Qd HK.out) (fun k_ e_ => (HO1_1.out.1 k_ e_).1))
       have n6_ := Ak (ho)
       clear HO1_2 BK242 BK243 BK244 HB HK HO1_1
       have HO1_2 := n0_
       have BK242 := n1_
       have BK243 := n2_
       have BK244 := n3_
       have HB := n4_
       have HK := n5_
       have HO283 := n6_
       clear n0_ n1_ n2_ n3_ n4_ n5_ n6_
       clear ho hb hg hat
       obtain ⟨Ao165, co165, eo165⟩ := Kd.R_slice HO283.out
       (first | subst eo165 | (injection eo165 with f1_ f2_ f3_; have f4_ := f1_.symm; have f5_ := f3_.symm; clear f1_ f2_ f3_; subst f4_; subst f5_))
       refine hK.out _ _ ?_
       clear hK K
       refine norm_ (a' := ?_) ?_ ?_
       rotate_left
       ·show Act.put _ (some 136) _ = _
        simp only [Act.put, List.setIfInBounds_toArray, List.set_cons_zero, List.set_cons_succ, i64_w, i32_w]
        rfl
       refine Qq 10 (some 137) ?_
       refine Qt 11 none (fun K hK => ?_)
       have hs166 : w164.cell? ⟨gb243, 1, none⟩ = some (.slice (some ad280) l1_1.length co153) := (blk_cell BK243.out 1).trans rfl
       have hfs166 := blk_frozen BK243.out 1
       have hns166_0 := NB242_243.out
       have hns166_2 := NB244_243.out
       have hms166_0 := NB243_242.out
       have hms166_2 := NB243_244.out
       refine skip_ (w1 := ?_) (by rfl) rfl ?_ ?_
       rotate_left
       ·go_simp
        rfl
       refine hK.out _ _ ?_
       clear hK K
       refine done_ (done_of HT_.out (by kernel_rfl)) ?_
       obtain ⟨hcz167_0, hcz167_1, hcz167_2, hfz167_0, hfz167_1, hfz167_2⟩ := Qv3 BK243.out
       obtain ⟨hcz168_0, hcz168_1, hcz168_2, hfz168_0, hfz168_1, hfz168_2⟩ := Qv3 BK244.out
       try go_wp2
       refine bodyPost_ret (results_cell_row rfl _ _ gb244 28 #[.int .i64 (wrap64 (a1_0 + 1)), .slice Ao165 y281.length co165, .slice Ao154 l1_2.length co154] (0, 0) _ rfl (by refine Qe ?_; refine blk_put (cs := #[.int .i64 (wrap64 (a1_0 + 1)), .slice Ao165 y281.length co165, .slice none 0 0]) ?_ 2 _ rfl; refine Qe ?_; refine blk_put (cs := #[.int .i64 (wrap64 (a1_0 + 1)), .slice none 0 0, .slice none 0 0]) ?_ 1 _ rfl; refine Qe ?_; refine blk_put (cs := #[.int .i64 0, .slice none 0 0, .slice none 0 0]) ?_ 0 _ rfl; refine Qe ?_; refine blk_far ?_ NB244_243.out _; exact Qa BK244.out) Try.underlying28 rfl (by kernel_rfl)) rfl ?_
       exact ⟨_, _, by first | rfl | (simp [errW_none, errW_some] <;> rfl) | (simp only [← hji148]; first | rfl | (simp [errW_none, errW_some] <;> rfl)) | (simp [*, errW_none, errW_some] <;> rfl), by refine Qf ?_; exact Kd.R_mono (Kd.R_far (p := ⟨gb244, 2, none⟩) (Kd.R_far (p := ⟨gb244, 1, none⟩) (Kd.R_far (p := ⟨gb244, 0, none⟩) (Kd.R_far (p := ⟨gb243, 1, none⟩) (Kd.R_types (Kd.R_types HO283.out BK243.out (by decide)) BK244.out (by decide)) (fun _ hk => hk.1.2) (.slice Ao165 y281.length co165)) (fun _ hk => hk.2) (.int .i64 (wrap64 (a1_0 + 1)))) (fun _ hk => hk.2) (.slice Ao165 y281.length co165)) (fun _ hk => hk.2) (.slice Ao154 l1_2.length co154)) (fun _ hk => by first | exact ⟨hk.1.1.1, hk.1.1.2⟩ | exact ⟨hk.1.1.1, fun e_ => hk.1.1.2 (e_.trans (ownlen_ _ _ _ _ _))⟩), by refine Qf ?_; exact Kd.R_mono (Kd.R_far (p := ⟨gb244, 2, none⟩) (Kd.R_far (p := ⟨gb244, 1, none⟩) (Kd.R_far (p := ⟨gb244, 0, none⟩) (Kd.R_far (p := ⟨gb243, 1, none⟩) (Kd.R_types (Kd.R_types HO1_2.out BK243.out (by decide)) BK244.out (by decide)) (fun _ hk => hk.1.2) (.slice Ao165 y281.length co165)) (fun _ hk => hk.2) (.int .i64 (wrap64 (a1_0 + 1)))) (fun _ hk => hk.2) (.slice Ao165 y281.length co165)) (fun _ hk => hk.2) (.slice Ao154 l1_2.length co154)) (fun _ hk => by first | exact ⟨hk.1.1.1, hk.1.1.2⟩ | exact ⟨hk.1.1.1, fun e_ => hk.1.1.2 (e_.trans (ownlen_ _ _ _ _ _))⟩), Qb HB.out, Qd HK.out⟩
      ·rw [if_neg c151] at H
       exact absurd H (by simp)
     ·rw [if_neg c150] at H
      exact absurd H (by simp)
    ·rw [if_neg c149] at H
     exact absurd H (by simp)
   ·rw [if_neg c147] at H
    have c147b0 : (a0_0 == 7) = false := beq_eq_false_iff_ne.mpr c147
    have c147b1 : (a0_0 != 7) = true := bne_iff_ne.mpr c147
    exact spec_l7Change.calls_8 k a0_0 a0_1 a0_2 a0_3 a1_0 P1_1_ u9000_ l1_1 P1_2_ u9001_ l1_2 r1 r2 r3 w0 w HB.out ho1_1 hp1_1_1_2 ho1_2 hp1_2_1_1 c3 c19 c47 c75 c103 c124 c147 H
end Go.Proofs.Ytlmiankjbffboaa.HFnExactRunMachine

/- Text for FnExactRunMachine: written by a program of this session on the pattern of the kit's print. -/
import Derived.Test.YtlmiankjbffboaaHFnExactRunMachinexs7p1
import Derived.Test.YtlmiankjbffboaaHFnExactRunMachinex0
import Derived.Test.YtlmiankjbffboaaHFnExactRunMachinex5
import Derived.Test.YtlmiankjbffboaaHFnExactRunMachinex6
namespace Go.Proofs.Ytlmiankjbffboaa.HFnExactRunMachine
open Go.RowKit Go.Proofs.YtlmiankjbffboaaW.PrintWords Go.Proofs.YtlmiankjbffboaaW.PrintLast Go.Proofs.YtlmiankjbffboaaW.PrintMore
attribute [local go_sem] max2_int min2_int max_two min_two max_three min_three max_four min_four
set_option linter.unusedVariables false
set_option linter.unusedSimpArgs false

/-! ### spec_l7Change: function 38 -/
set_option maxHeartbeats 8000000 in
set_option maxRecDepth 100000 in
theorem spec_l7Change.calls (k : Nat) (a0_0 : Int) (a0_1 : Int) (a0_2 : Int) (a0_3 : Int) (a1_0 : Int) (P1_1_ : Nat → Prop) (u9000_ : Value) (l1_1 : List Int) (P1_2_ : Nat → Prop) (u9001_ : Value) (l1_2 : List Int) (r1 : Int) (r2 : List Int) (r3 : List Int) (w0 w : World) (hB : Below w0.heap.size w0 w) (ho1_1 : Kd.R (Kd.int .i64) 3 w w0.heap.size P1_1_ u9000_ l1_1) (hp1_1_1_2 : ∀ k_, P1_1_ k_ → ¬ P1_2_ k_) (ho1_2 : Kd.R (Kd.int .i64) 3 w w0.heap.size P1_2_ u9001_ l1_2) (hp1_2_1_1 : ∀ k_, P1_2_ k_ → ¬ P1_1_ k_) (h : spec_l7Change.f k a0_0 a0_1 a0_2 a0_3 a1_0 l1_1 l1_2 = some (r1, r2, r3)) :
  Calls Try.prog 38 #[.agg #[.int .i64 a0_0, .int .i64 a0_1, .int .i64 a0_2, .int .i64 a0_3], .agg #[.int .i64 a1_0, u9000_, u9001_]] w fun e w' => ∃ v1_ v2_ : Value, e = .returned (.agg #[.int .i64 r1, v1_, v2_]) ∧ Kd.R (Kd.int .i64) 3 w' w0.heap.size (fun k_ => ((P1_1_ k_ ∨ P1_2_ k_) ∨ w.heap.size ≤ k_) ∧ some k_ ≠ (v2_ : Value).ownBlock) v1_ r2 ∧ Kd.R (Kd.int .i64) 3 w' w0.heap.size (fun k_ => ((P1_1_ k_ ∨ P1_2_ k_) ∨ w.heap.size ≤ k_) ∧ some k_ ≠ (v1_ : Value).ownBlock) v2_ r3 ∧ Below w0.heap.size w0 w' ∧ Kept w w' (fun k_ => P1_1_ k_ ∨ P1_2_ k_) := by
 have hu48 := Try.underlying48
 have hu28 := Try.underlying28
 have HO1_1 := Ak (show Kd.R (Kd.int .i64) 3 w w0.heap.size (fun k_ => ((P1_1_ k_ ∨ P1_2_ k_) ∨ w.heap.size ≤ k_) ∧ some k_ ≠ (u9001_ : Value).ownBlock) u9000_ l1_1 from Kd.R_mono ho1_1 (fun k_ hk => ⟨(.inl (.inl hk)), fun e_ => hp1_1_1_2 k_ hk (ho1_2.1 k_ e_.symm)⟩))
 have HO1_2 := Ak (show Kd.R (Kd.int .i64) 3 w w0.heap.size (fun k_ => ((P1_1_ k_ ∨ P1_2_ k_) ∨ w.heap.size ≤ k_) ∧ some k_ ≠ (u9000_ : Value).ownBlock) u9001_ l1_2 from Kd.R_mono ho1_2 (fun k_ hk => ⟨(.inl (.inr hk)), fun e_ => hp1_2_1_1 k_ hk (ho1_1.1 k_ e_.symm)⟩))
 have HK := Ak (Kept.refl w (fun k_ => P1_1_ k_ ∨ P1_2_ k_))
 have HW0 := Ak hB.size
 have HB := Ak hB
 clear hB
 have H : (if a0_0 = 1 then (if l1_1.length < 17592186044416 then (some (wrap64 (a1_0 + 1), (l1_1 ++ [a0_1]), l1_2)) else (none)) else (if a0_0 = 2 then (if 0 ≤ (wrap64 ((l1_1.length : Int) - 2)) then (if (wrap64 ((l1_1.length : Int) - 2)) ≤ (l1_1.length : Int) then ((some (l1_1.take ((wrap64 ((l1_1.length : Int) - 2)) : Int).toNat : List Int)).bind fun y248 => (if (wrap64 ((l1_1.length : Int) - 2)) < (l1_1.length : Int) then (if 0 ≤ (wrap64 ((l1_1.length : Int) - 1)) then (if (wrap64 ((l1_1.length : Int) - 1)) < (l1_1.length : Int) then ((spec_WrapCell.f (wrap64 ((rd l1_1 (wrap64 ((l1_1.length : Int) - 2))) + (rd l1_1 (wrap64 ((l1_1.length : Int) - 1)))))).bind fun t253 => (if y248.length < 17592186044416 then (some (wrap64 (a1_0 + 1), (y248 ++ [t253]), l1_2)) else (none))) else (none)) else (none)) else (none))) else (none)) else (none)) else (if a0_0 = 3 then (if 0 ≤ (wrap64 ((l1_1.length : Int) - 2)) then (if (wrap64 ((l1_1.length : Int) - 2)) ≤ (l1_1.length : Int) then ((some (l1_1.take ((wrap64 ((l1_1.length : Int) - 2)) : Int).toNat : List Int)).bind fun y257 => (if (wrap64 ((l1_1.length : Int) - 2)) < (l1_1.length : Int) then (if 0 ≤ (wrap64 ((l1_1.length : Int) - 1)) then (if (wrap64 ((l1_1.length : Int) - 1)) < (l1_1.length : Int) then ((spec_WrapCell.f (wrap64 ((rd l1_1 (wrap64 ((l1_1.length : Int) - 2))) - (rd l1_1 (wrap64 ((l1_1.length : Int) - 1)))))).bind fun t262 => (if y257.length < 17592186044416 then (some (wrap64 (a1_0 + 1), (y257 ++ [t262]), l1_2)) else (none))) else (none)) else (none)) else (none))) else (none)) else (none)) else (if a0_0 = 4 then (if 0 ≤ (wrap64 ((l1_1.length : Int) - 2)) then (if (wrap64 ((l1_1.length : Int) - 2)) ≤ (l1_1.length : Int) then ((some (l1_1.take ((wrap64 ((l1_1.length : Int) - 2)) : Int).toNat : List Int)).bind fun y266 => (if (wrap64 ((l1_1.length : Int) - 2)) < (l1_1.length : Int) then (if 0 ≤ (wrap64 ((l1_1.length : Int) - 1)) then (if (wrap64 ((l1_1.length : Int) - 1)) < (l1_1.length : Int) then ((spec_WrapCell.f (wrap64 ((rd l1_1 (wrap64 ((l1_1.length : Int) - 2))) * (rd l1_1 (wrap64 ((l1_1.length : Int) - 1)))))).bind fun t271 => (if y266.length < 17592186044416 then (some (wrap64 (a1_0 + 1), (y266 ++ [t271]), l1_2)) else (none))) else (none)) else (none)) else (none))) else (none)) else (none)) else (if a0_0 = 5 then (if 0 ≤ (wrap64 ((l1_1.length : Int) - 1)) then (if (wrap64 ((l1_1.length : Int) - 1)) < (l1_1.length : Int) then (some (wrap64 (a1_0 + 1), (l1_1.set ((wrap64 ((l1_1.length : Int) - 1)) : Int).toNat (wrap64 (-(rd l1_1 (wrap64 ((l1_1.length : Int) - 1)))))), l1_2)) else (none)) else (none)) else (if a0_0 = 6 then (if 0 ≤ (wrap64 ((l1_1.length : Int) - 1)) then (if (wrap64 ((l1_1.length : Int) - 1)) < (l1_1.length : Int) then ((spec_SignOf.f (rd l1_1 (wrap64 ((l1_1.length : Int) - 1)))).bind fun t278 => (some (wrap64 (a1_0 + 1), (l1_1.set ((wrap64 ((l1_1.length : Int) - 1)) : Int).toNat t278), l1_2))) else (none)) else (none)) else (if a0_0 = 7 then (if 0 ≤ (wrap64 ((l1_1.length : Int) - 1)) then (if (wrap64 ((l1_1.length : Int) - 1)) < (l1_1.length : Int) then (if l1_1.length < 17592186044416 then (some (wrap64 (a1_0 + 1), (l1_1 ++ [rd l1_1 (wrap64 ((l1_1.length : Int) - 1))]), l1_2)) else (none)) else (none)) else (none)) else (if a0_0 = 8 then (if 0 ≤ (wrap64 ((l1_1.length : Int) - 1)) then (if (wrap64 ((l1_1.length : Int) - 1)) < (l1_1.length : Int) then (if 0 ≤ (wrap64 ((l1_1.length : Int) - 2)) then (if (wrap64 ((l1_1.length : Int) - 2)) < (l1_1.length : Int) then (some (wrap64 (a1_0 + 1), ((l1_1.set ((wrap64 ((l1_1.length : Int) - 1)) : Int).toNat (rd l1_1 (wrap64 ((l1_1.length : Int) - 2)))).set ((wrap64 ((l1_1.length : Int) - 2)) : Int).toNat (rd l1_1 (wrap64 ((l1_1.length : Int) - 1)))), l1_2)) else (none)) else (none)) else (none)) else (none)) else (if a0_0 = 9 then (if 0 ≤ (wrap64 ((l1_1.length : Int) - 1)) then (if (wrap64 ((l1_1.length : Int) - 1)) ≤ (l1_1.length : Int) then (some (wrap64 (a1_0 + 1), (l1_1.take ((wrap64 ((l1_1.length : Int) - 1)) : Int).toNat), l1_2)) else (none)) else (none)) else (if a0_0 = 10 then (if 0 ≤ (wrap64 ((l1_1.length : Int) - 1)) then (if (wrap64 ((l1_1.length : Int) - 1)) < (l1_1.length : Int) then ((spec_l7Shift.f k (rd l1_1 (wrap64 ((l1_1.length : Int) - 1))) a0_1).bind fun t292 => (some (wrap64 (a1_0 + 1), (l1_1.set ((wrap64 ((l1_1.length : Int) - 1)) : Int).toNat t292), l1_2))) else (none)) else (none)) else (if a0_0 = 11 then (if 0 ≤ (wrap64 ((l1_1.length : Int) - 1)) then (if (wrap64 ((l1_1.length : Int) - 1)) < (l1_1.length : Int) then (if 0 ≤ (wrap64 ((rd l1_1 (wrap64 ((l1_1.length : Int) - 1))) + 13)) then (if (wrap64 ((rd l1_1 (wrap64 ((l1_1.length : Int) - 1))) + 13)) < (l1_2.length : Int) then (some (wrap64 (a1_0 + 1), (l1_1.set ((wrap64 ((l1_1.length : Int) - 1)) : Int).toNat (rd l1_2 (wrap64 ((rd l1_1 (wrap64 ((l1_1.length : Int) - 1))) + 13)))), l1_2)) else (none)) else (none)) else (none)) else (none)) else (if a0_0 = 12 then (if 0 ≤ (wrap64 ((l1_1.length : Int) - 1)) then (if (wrap64 ((l1_1.length : Int) - 1)) < (l1_1.length : Int) then (if 0 ≤ (wrap64 ((l1_1.length : Int) - 2)) then (if (wrap64 ((l1_1.length : Int) - 2)) < (l1_1.length : Int) then (if 0 ≤ (wrap64 ((rd l1_1 (wrap64 ((l1_1.length : Int) - 1))) + 13)) then (if (wrap64 ((rd l1_1 (wrap64 ((l1_1.length : Int) - 1))) + 13)) < (l1_2.length : Int) then (if (wrap64 ((l1_1.length : Int) - 2)) ≤ (l1_1.length : Int) then (some (wrap64 (a1_0 + 1), (l1_1.take ((wrap64 ((l1_1.length : Int) - 2)) : Int).toNat), (l1_2.set ((wrap64 ((rd l1_1 (wrap64 ((l1_1.length : Int) - 1))) + 13)) : Int).toNat (rd l1_1 (wrap64 ((l1_1.length : Int) - 2)))))) else (none)) else (none)) else (none)) else (none)) else (none)) else (none)) else (none)) else (if a0_0 = 13 then (some (a0_1, l1_1, l1_2)) else (if a0_0 = 14 then ((some (([a0_1, a0_2, a0_3] : List Int) : List Int)).bind fun y303 => (if 0 ≤ (wrap64 ((l1_1.length : Int) - 1)) then (if (wrap64 ((l1_1.length : Int) - 1)) < (l1_1.length : Int) then ((spec_SignOf.f (rd l1_1 (wrap64 ((l1_1.length : Int) - 1)))).bind fun t307 => (if 0 ≤ (wrap64 (t307 + 1)) then (if (wrap64 (t307 + 1)) < (y303.length : Int) then (if (wrap64 ((l1_1.length : Int) - 1)) ≤ (l1_1.length : Int) then (some (rd y303 (wrap64 (t307 + 1)), (l1_1.take ((wrap64 ((l1_1.length : Int) - 1)) : Int).toNat), l1_2)) else (none)) else (none)) else (none))) else (none)) else (none))) else (some (wrap64 (a1_0 + 1), l1_1, l1_2)))))))))))))))) = some (r1, r2, r3) := h
 clear h
 by_cases c3 : a0_0 = 1
 ·rw [if_pos c3] at H
  have c3b0 : (a0_0 == 1) = true := beq_iff_eq.mpr c3
  have c3b1 : (a0_0 != 1) = false := bne_eq_false_iff_eq.mpr c3
  clear c3
  by_cases c4 : l1_1.length < 17592186044416
  ·rw [if_pos c4] at H
   have LMc4 := Ak c4
   clear c4
   obtain ⟨y245, hy245⟩ : ∃ y_ : List Int, y_ = (l1_1 ++ [a0_1]) := ⟨_, rfl⟩
   replace H : (some (wrap64 (a1_0 + 1), y245, l1_2)) = some (r1, r2, r3) := by first | (rw [hy245]; with_reducible exact H) | (have H2_ := (Option.bind_some _ _).symm.trans H; rw [hy245]; with_reducible exact H2_) | (have H2_ := (Option.bind_some _ _).symm.trans H; with_reducible exact H2_) | with_reducible exact H | (rw [hy245]; exact H) | exact H
   have Ny245 := Ak hy245
   clear hy245
   simp only [Option.some.injEq, Prod.mk.injEq] at H
   obtain ⟨rfl, rfl, rfl⟩ := H
   go_enter Try.func38, Try.ntmps38
   go_wp2_with (first | ((with_reducible refine gate_dst (N := 2) rfl ?_); refine Qk 2 #[.int .i64 a0_0, .int .i64 a0_1, .int .i64 a0_2, .int .i64 a0_3] 48 ?_; intro gb242 hg w5 hbox hb; have n0_ := Ak (Kd.R_below (Qc HO1_1.out) hb); have n1_ := Ak (Kd.R_below (Qc HO1_2.out) hb); have n2_ := Ak (Kept.below (S := (fun k_ => P1_1_ k_ ∨ P1_2_ k_)) (Qd HK.out) hb); have n3_ := Ak (below_step (Qb HB.out) hb); have n4_ := Ak (hbox); have n5_ := Ak ((by rw [hg]; exact (Qo HK.out) : w.heap.size ≤ gb242)); have n6_ := Ak ((Qp hg HB.out : w0.heap.size ≤ gb242)); clear HO1_1 HO1_2 HK HB; have HO1_1 := n0_; have HO1_2 := n1_; have HK := n2_; have HB := n3_; have BK242 := n4_; have GW242 := n5_; have GE242 := n6_; clear n0_ n1_ n2_ n3_ n4_ n5_ n6_; clear hb hbox hg; obtain ⟨Ao6, co6, eo6⟩ := Kd.R_slice HO1_1.out; subst eo6; obtain ⟨Ao7, co7, eo7⟩ := Kd.R_slice HO1_2.out; subst eo7) | ((with_reducible refine gate_dst (N := 3) rfl ?_); refine Qk 3 #[.int .i64 a1_0, .slice Ao6 l1_1.length co6, .slice Ao7 l1_2.length co7] 28 ?_; intro gb243 hg w8 hbox hb; have n0_ := Ak (Kd.R_below (Qc HO1_1.out) hb); have n1_ := Ak (Kd.R_below (Qc HO1_2.out) hb); have n2_ := Ak (Qm BK242.out hb); have n3_ := Ak (Kept.below (S := (fun k_ => P1_1_ k_ ∨ P1_2_ k_)) (Qd HK.out) hb); have n4_ := Ak (below_step (Qb HB.out) hb); have n5_ := Ak (hbox); have n6_ := Ak ((by rw [hg]; exact (Qo HK.out) : w.heap.size ≤ gb243)); have n7_ := Ak ((Qp hg HB.out : w0.heap.size ≤ gb243)); have n8_ := Ak ((by rw [hg]; exact Nat.ne_of_lt (Qn BK242.out) : gb242 ≠ gb243)); have n9_ := Ak ((by rw [hg]; exact Nat.ne_of_gt (Qn BK242.out) : gb243 ≠ gb242)); clear HO1_1 HO1_2 BK242 HK HB; have HO1_1 := n0_; have HO1_2 := n1_; have BK242 := n2_; have HK := n3_; have HB := n4_; have BK243 := n5_; have GW243 := n6_; have GE243 := n7_; have NB242_243 := n8_; have NB243_242 := n9_; clear n0_ n1_ n2_ n3_ n4_ n5_ n6_ n7_ n8_ n9_; clear hb hbox hg) | ((with_reducible refine gate_dst (N := 4) rfl ?_); refine Qk 4 #[.int .i64 0, .slice none 0 0, .slice none 0 0] 28 ?_; intro gb244 hg w9 hbox hb; have n0_ := Ak (Kd.R_below (Qc HO1_1.out) hb); have n1_ := Ak (Kd.R_below (Qc HO1_2.out) hb); have n2_ := Ak (Qm BK242.out hb); have n3_ := Ak (Qm BK243.out hb); have n4_ := Ak (Kept.below (S := (fun k_ => P1_1_ k_ ∨ P1_2_ k_)) (Qd HK.out) hb); have n5_ := Ak (below_step (Qb HB.out) hb); have n6_ := Ak (hbox); have n7_ := Ak ((by rw [hg]; exact (Qo HK.out) : w.heap.size ≤ gb244)); have n8_ := Ak ((Qp hg HB.out : w0.heap.size ≤ gb244)); have n9_ := Ak ((by rw [hg]; exact Nat.ne_of_lt (Qn BK242.out) : gb242 ≠ gb244)); have n10_ := Ak ((by rw [hg]; exact Nat.ne_of_gt (Qn BK242.out) : gb244 ≠ gb242)); have n11_ := Ak ((by rw [hg]; exact Nat.ne_of_lt (Qn BK243.out) : gb243 ≠ gb244)); have n12_ := Ak ((by rw [hg]; exact Nat.ne_of_gt (Qn BK243.out) : gb244 ≠ gb243)); clear HO1_1 HO1_2 BK242 BK243 HK HB; have HO1_1 := n0_; have HO1_2 := n1_; have BK242 := n2_; have BK243 := n3_; have HK := n4_; have HB := n5_; have BK244 := n6_; have GW244 := n7_; have GE244 := n8_; have NB242_244 := n9_; have NB244_242 := n10_; have NB243_244 := n11_; have NB244_243 := n12_; clear n0_ n1_ n2_ n3_ n4_ n5_ n6_ n7_ n8_ n9_ n10_ n11_ n12_; clear hb hbox hg; have hnb10 := NB243_242.out; have hnc10 := NB242_243.out; have hnb11 := NB243_244.out; have hnc11 := NB244_243.out; obtain ⟨hcz12_0, hcz12_1, hcz12_2, hfz12_0, hfz12_1, hfz12_2⟩ := Qv3 BK243.out; have hnb13 := NB242_244.out; have hnc13 := NB244_242.out; obtain ⟨hcz14_0, hcz14_1, hcz14_2, hcz14_3⟩ := Qu4 BK242.out; have hfz14_0 := blk_frozen BK242.out 0; have hfz14_1 := blk_frozen BK242.out 1; have hfz14_2 := blk_frozen BK242.out 2; have hfz14_3 := blk_frozen BK242.out 3) | ((with_reducible refine gate_builtin (b := .append) (xs := #[.tmp 19, .tmp 22]) rfl ?_); at_builtin; refine Kd.R_append (Kd.int .i64) (w0 := w0) w0.heap.size rfl (.tmp 19) (.tmp 22) 23 3 (.int .i64 0) 8 rfl Try.underlying23 info3 rfl (by decide) (by omega) (.slice Ao6 l1_1.length co6) l1_1 a0_1 [.int .i64 a0_1] (fun k_ => ((P1_1_ k_ ∨ P1_2_ k_) ∨ w.heap.size ≤ k_) ∧ some k_ ≠ (.slice Ao7 l1_2.length co7 : Value).ownBlock) (fun _ => False) rfl (by first | (go_simp; done) | (go_simp; rfl)) ?aP (fun _ hk => hk.elim) ?aF ?aO ?aB ?aS ?aL ?_; (case aP => exact rfl); (case aB => exact (Qb HB.out)); (case aF => exact (fun k_ hk => ⟨(.inr (Nat.le_trans (show Kept w _ (fun k_ => P1_1_ k_ ∨ P1_2_ k_) from Qd HK.out).1 hk)), Kd.fresh' (Kd.R_lt (by refine Qf ?_; exact (Kd.R_mono (Kd.R_far (p := ⟨gb243, 0, none⟩) (Kd.R_types HO1_2.out BK243.out (by decide)) (fun _ hk => hk.2) (.int .i64 (wrap64 (a1_0 + 1)))) (fun _ h_ => h_.1)))) k_ hk⟩)); (case aO => exact (by refine Qf ?_; exact Kd.R_mono (Kd.R_far (p := ⟨gb243, 0, none⟩) (Kd.R_types HO1_1.out BK243.out (by decide)) (fun _ hk => hk.2) (.int .i64 (wrap64 (a1_0 + 1)))) (fun _ hk => ⟨hk.1.1, hk.1.2⟩))); (case aS => exact (below_size (Qb HB.out))); (case aL => have := LMc4.out; omega); intro v246 w15 ho hb hg hat; rw [← Ny245.out] at ho; have n0_ := Ak (Kd.R_after (ok := (fun k_ => ((P1_1_ k_ ∨ P1_2_ k_) ∨ w.heap.size ≤ k_))) (by refine Qf ?_; exact Kd.R_mono (Kd.R_far (p := ⟨gb243, 0, none⟩) (Kd.R_types HO1_2.out BK243.out (by decide)) (fun _ hk => hk.2) (.int .i64 (wrap64 (a1_0 + 1)))) (fun _ hk => ⟨hk.1.1, hk.1.2⟩)) hg hat); have n1_ := Ak (blk_grown (g := gb242) (o := .cells #[.int .i64 a0_0, .int .i64 a0_1, .int .i64 a0_2, .int .i64 a0_3] 48 (0, 0)) (by refine Qe ?_; refine blk_far ?_ NB242_243.out _; exact Qa BK242.out) hg (Kd.R_ne HO1_1.out BK242.out (by decide))); have n2_ := Ak (blk_grown (g := gb243) (o := .cells #[.int .i64 (wrap64 (a1_0 + 1)), .slice Ao6 l1_1.length co6, .slice Ao7 l1_2.length co7] 28 (0, 0)) (by refine Qe ?_; refine blk_put (cs := #[.int .i64 a1_0, .slice Ao6 l1_1.length co6, .slice Ao7 l1_2.length co7]) ?_ 0 _ rfl; exact Qa BK243.out) hg (Kd.R_ne HO1_1.out BK243.out (by decide))); have n3_ := Ak (blk_grown (g := gb244) (o := .cells #[.int .i64 0, .slice none 0 0, .slice none 0 0] 28 (0, 0)) (by refine Qe ?_; refine blk_far ?_ NB244_243.out _; exact Qa BK244.out) hg (Kd.R_ne HO1_1.out BK244.out (by decide))); have n4_ := Ak (hb); have n5_ := Ak (Kept.of_grown (S := (fun k_ => P1_1_ k_ ∨ P1_2_ k_)) hg (Qd HK.out) (fun k_ e_ => (HO1_1.out.1 k_ e_).1)); have n6_ := Ak (ho); clear HO1_2 BK242 BK243 BK244 HB HK HO1_1; have HO1_2 := n0_; have BK242 := n1_; have BK243 := n2_; have BK244 := n3_; have HB := n4_; have HK := n5_; have HO247 := n6_; clear n0_ n1_ n2_ n3_ n4_ n5_ n6_; clear ho hb hg hat; obtain ⟨Ao16, co16, eo16⟩ := Kd.R_slice HO247.out; subst eo16; obtain ⟨hcz17_0, hcz17_1, hcz17_2, hfz17_0, hfz17_1, hfz17_2⟩ := Qv3 BK243.out; obtain ⟨hcz18_0, hcz18_1, hcz18_2⟩ := Qu3 BK244.out; have hfz18_0 := blk_frozen BK244.out 0; have hfz18_1 := blk_frozen BK244.out 1; have hfz18_2 := blk_frozen BK244.out 2))
   refine bodyPost_ret (results_cell_row rfl _ _ gb244 28 #[.int .i64 (wrap64 (a1_0 + 1)), .slice Ao16 y245.length co16, .slice Ao7 l1_2.length co7] (0, 0) _ rfl (by refine Qe ?_; refine blk_put (cs := #[.int .i64 (wrap64 (a1_0 + 1)), .slice Ao16 y245.length co16, .slice none 0 0]) ?_ 2 _ rfl; refine Qe ?_; refine blk_put (cs := #[.int .i64 (wrap64 (a1_0 + 1)), .slice none 0 0, .slice none 0 0]) ?_ 1 _ rfl; refine Qe ?_; refine blk_put (cs := #[.int .i64 0, .slice none 0 0, .slice none 0 0]) ?_ 0 _ rfl; refine Qe ?_; refine blk_far ?_ NB244_243.out _; exact Qa BK244.out) Try.underlying28 rfl (by kernel_rfl)) rfl ?_
   exact ⟨_, _, Qh, by refine Qf ?_; exact Kd.R_mono (Kd.R_far (p := ⟨gb244, 2, none⟩) (Kd.R_far (p := ⟨gb244, 1, none⟩) (Kd.R_far (p := ⟨gb244, 0, none⟩) (Kd.R_far (p := ⟨gb243, 1, none⟩) (Kd.R_types (Kd.R_types HO247.out BK243.out (by decide)) BK244.out (by decide)) (fun _ hk => hk.1.2) (.slice Ao16 y245.length co16)) (fun _ hk => hk.2) (.int .i64 (wrap64 (a1_0 + 1)))) (fun _ hk => hk.2) (.slice Ao16 y245.length co16)) (fun _ hk => hk.2) (.slice Ao7 l1_2.length co7)) (fun _ hk => by first | exact ⟨hk.1.1.1, hk.1.1.2⟩ | exact ⟨hk.1.1.1, fun e_ => hk.1.1.2 (e_.trans (ownlen_ _ _ _ _ _))⟩), by refine Qf ?_; exact Kd.R_mono (Kd.R_far (p := ⟨gb244, 2, none⟩) (Kd.R_far (p := ⟨gb244, 1, none⟩) (Kd.R_far (p := ⟨gb244, 0, none⟩) (Kd.R_far (p := ⟨gb243, 1, none⟩) (Kd.R_types (Kd.R_types HO1_2.out BK243.out (by decide)) BK244.out (by decide)) (fun _ hk => hk.1.2) (.slice Ao16 y245.length co16)) (fun _ hk => hk.2) (.int .i64 (wrap64 (a1_0 + 1)))) (fun _ hk => hk.2) (.slice Ao16 y245.length co16)) (fun _ hk => hk.2) (.slice Ao7 l1_2.length co7)) (fun _ hk => by first | exact ⟨hk.1.1.1, hk.1.1.2⟩ | exact ⟨hk.1.1.1, fun e_ => hk.1.1.2 (e_.trans (ownlen_ _ _ _ _ _))⟩), Qb HB.out, Qd HK.out⟩
  ·rw [if_neg c4] at H
   exact absurd H (by simp)
 ·rw [if_neg c3] at H
  have c3b0 : (a0_0 == 1) = false := beq_eq_false_iff_ne.mpr c3
  have c3b1 : (a0_0 != 1) = true := bne_iff_ne.mpr c3
  by_cases c19 : a0_0 = 2
  ·rw [if_pos c19] at H
   have c19b0 : (a0_0 == 2) = true := beq_iff_eq.mpr c19
   have c19b1 : (a0_0 != 2) = false := bne_eq_false_iff_eq.mpr c19
   clear c19
   obtain ⟨ji20, hji20⟩ : ∃ j_ : Int, (wrap64 ((l1_1.length : Int) - 2)) = j_ := ⟨_, rfl⟩
   replace H : (if 0 ≤ (ji20) then (if (ji20) ≤ (l1_1.length : Int) then ((some (l1_1.take ((ji20) : Int).toNat : List Int)).bind fun y248 => (if (ji20) < (l1_1.length : Int) then (if 0 ≤ (wrap64 ((l1_1.length : Int) - 1)) then (if (wrap64 ((l1_1.length : Int) - 1)) < (l1_1.length : Int) then ((spec_WrapCell.f (wrap64 ((rd l1_1 (ji20)) + (rd l1_1 (wrap64 ((l1_1.length : Int) - 1)))))).bind fun t253 => (if y248.length < 17592186044416 then (some (wrap64 (a1_0 + 1), (y248 ++ [t253]), l1_2)) else (none))) else (none)) else (none)) else (none))) else (none)) else (none)) = some (r1, r2, r3) := by first | (rw [hji20] at H; exact H) | (simp only [hji20] at H ⊢; exact H)
   have hji20w : (IntKind.i64.wrap ((l1_1.length : Int) - 2)) = ji20 := (i64_w _).trans hji20
   by_cases c21 : 0 ≤ (ji20)
   ·rw [if_pos c21] at H
    have c21b0 := eq_true c21
    have c21b1 : decide (0 ≤ (ji20)) = true := decide_eq_true c21
    clear c21
    by_cases c22 : (ji20) ≤ (l1_1.length : Int)
    ·rw [if_pos c22] at H
     have c22b0 := eq_true c22
     have c22b1 : decide ((ji20) ≤ (l1_1.length : Int)) = true := decide_eq_true c22
     clear c22
     obtain ⟨y248, hy248⟩ : ∃ y_ : List Int, y_ = (l1_1.take ((ji20) : Int).toNat) := ⟨_, rfl⟩
     replace H : (if (ji20) < (l1_1.length : Int) then (if 0 ≤ (wrap64 ((l1_1.length : Int) - 1)) then (if (wrap64 ((l1_1.length : Int) - 1)) < (l1_1.length : Int) then ((spec_WrapCell.f (wrap64 ((rd l1_1 (ji20)) + (rd l1_1 (wrap64 ((l1_1.length : Int) - 1)))))).bind fun t253 => (if y248.length < 17592186044416 then (some (wrap64 (a1_0 + 1), (y248 ++ [t253]), l1_2)) else (none))) else (none)) else (none)) else (none)) = some (r1, r2, r3) := by first | (rw [hy248]; with_reducible exact H) | (have H2_ := (Option.bind_some _ _).symm.trans H; rw [hy248]; with_reducible exact H2_) | (have H2_ := (Option.bind_some _ _).symm.trans H; with_reducible exact H2_) | with_reducible exact H | (rw [hy248]; exact H) | exact H
     have Ny248 := Ak hy248
     clear hy248
     by_cases c23 : (ji20) < (l1_1.length : Int)
     ·rw [if_pos c23] at H
      have c23b0 : decide ((ji20) < (l1_1.length : Int)) = true := decide_eq_true c23
      clear c23
      obtain ⟨ji24, hji24⟩ : ∃ j_ : Int, (wrap64 ((l1_1.length : Int) - 1)) = j_ := ⟨_, rfl⟩
      replace H : (if 0 ≤ (ji24) then (if (ji24) < (l1_1.length : Int) then ((spec_WrapCell.f (wrap64 ((rd l1_1 (ji20)) + (rd l1_1 (ji24))))).bind fun t253 => (if y248.length < 17592186044416 then (some (wrap64 (a1_0 + 1), (y248 ++ [t253]), l1_2)) else (none))) else (none)) else (none)) = some (r1, r2, r3) := by first | (rw [hji24] at H; exact H) | (simp only [hji24] at H ⊢; exact H)
      have hji24w : (IntKind.i64.wrap ((l1_1.length : Int) - 1)) = ji24 := (i64_w _).trans hji24
      by_cases c25 : 0 ≤ (ji24)
      ·rw [if_pos c25] at H
       have c25b0 : decide (0 ≤ (ji24)) = true := decide_eq_true c25
       clear c25
       by_cases c26 : (ji24) < (l1_1.length : Int)
       ·rw [if_pos c26] at H
        have c26b0 : decide ((ji24) < (l1_1.length : Int)) = true := decide_eq_true c26
        clear c26
        replace H := Option.bind_eq_some_iff.mp H
        obtain ⟨t253, A270, H⟩ := H
        replace H : (if y248.length < 17592186044416 then (some (wrap64 (a1_0 + 1), (y248 ++ [t253]), l1_2)) else (none)) = some (r1, r2, r3) := H
        have A27 := Ak A270
        clear A270
        by_cases c28 : y248.length < 17592186044416
        ·rw [if_pos c28] at H
         have LMc28 := Ak c28
         clear c28
         obtain ⟨y254, hy254⟩ : ∃ y_ : List Int, y_ = (y248 ++ [t253]) := ⟨_, rfl⟩
         replace H : (some (wrap64 (a1_0 + 1), y254, l1_2)) = some (r1, r2, r3) := by first | (rw [hy254]; with_reducible exact H) | (have H2_ := (Option.bind_some _ _).symm.trans H; rw [hy254]; with_reducible exact H2_) | (have H2_ := (Option.bind_some _ _).symm.trans H; with_reducible exact H2_) | with_reducible exact H | (rw [hy254]; exact H) | exact H
         have Ny254 := Ak hy254
         clear hy254
         simp only [Option.some.injEq, Prod.mk.injEq] at H
         obtain ⟨rfl, rfl, rfl⟩ := H
         go_enter Try.func38, Try.ntmps38
         try go_wp2_with (first | ((with_reducible refine gate_dst (N := 2) rfl ?_); refine Qk 2 #[.int .i64 a0_0, .int .i64 a0_1, .int .i64 a0_2, .int .i64 a0_3] 48 ?_; intro gb242 hg w29 hbox hb; have n0_ := Ak (Kd.R_below (Qc HO1_1.out) hb); have n1_ := Ak (Kd.R_below (Qc HO1_2.out) hb); have n2_ := Ak (Kept.below (S := (fun k_ => P1_1_ k_ ∨ P1_2_ k_)) (Qd HK.out) hb); have n3_ := Ak (below_step (Qb HB.out) hb); have n4_ := Ak (hbox); have n5_ := Ak ((by rw [hg]; exact (Qo HK.out) : w.heap.size ≤ gb242)); have n6_ := Ak ((Qp hg HB.out : w0.heap.size ≤ gb242)); clear HO1_1 HO1_2 HK HB; have HO1_1 := n0_; have HO1_2 := n1_; have HK := n2_; have HB := n3_; have BK242 := n4_; have GW242 := n5_; have GE242 := n6_; clear n0_ n1_ n2_ n3_ n4_ n5_ n6_; clear hb hbox hg; obtain ⟨Ao30, co30, eo30⟩ := Kd.R_slice HO1_1.out; subst eo30; obtain ⟨Ao31, co31, eo31⟩ := Kd.R_slice HO1_2.out; subst eo31) | ((with_reducible refine gate_dst (N := 3) rfl ?_); refine Qk 3 #[.int .i64 a1_0, .slice Ao30 l1_1.length co30, .slice Ao31 l1_2.length co31] 28 ?_; intro gb243 hg w32 hbox hb; have n0_ := Ak (Kd.R_below (Qc HO1_1.out) hb); have n1_ := Ak (Kd.R_below (Qc HO1_2.out) hb); have n2_ := Ak (Qm BK242.out hb); have n3_ := Ak (Kept.below (S := (fun k_ => P1_1_ k_ ∨ P1_2_ k_)) (Qd HK.out) hb); have n4_ := Ak (below_step (Qb HB.out) hb); have n5_ := Ak (hbox); have n6_ := Ak ((by rw [hg]; exact (Qo HK.out) : w.heap.size ≤ gb243)); have n7_ := Ak ((Qp hg HB.out : w0.heap.size ≤ gb243)); have n8_ := Ak ((by rw [hg]; exact Nat.ne_of_lt (Qn BK242.out) : gb242 ≠ gb243)); have n9_ := Ak ((by rw [hg]; exact Nat.ne_of_gt (Qn BK242.out) : gb243 ≠ gb242)); clear HO1_1 HO1_2 BK242 HK HB; have HO1_1 := n0_; have HO1_2 := n1_; have BK242 := n2_; have HK := n3_; have HB := n4_; have BK243 := n5_; have GW243 := n6_; have GE243 := n7_; have NB242_243 := n8_; have NB243_242 := n9_; clear n0_ n1_ n2_ n3_ n4_ n5_ n6_ n7_ n8_ n9_; clear hb hbox hg) | ((with_reducible refine gate_dst (N := 4) rfl ?_); refine Qk 4 #[.int .i64 0, .slice none 0 0, .slice none 0 0] 28 ?_; intro gb244 hg w33 hbox hb; have n0_ := Ak (Kd.R_below (Qc HO1_1.out) hb); have n1_ := Ak (Kd.R_below (Qc HO1_2.out) hb); have n2_ := Ak (Qm BK242.out hb); have n3_ := Ak (Qm BK243.out hb); have n4_ := Ak (Kept.below (S := (fun k_ => P1_1_ k_ ∨ P1_2_ k_)) (Qd HK.out) hb); have n5_ := Ak (below_step (Qb HB.out) hb); have n6_ := Ak (hbox); have n7_ := Ak ((by rw [hg]; exact (Qo HK.out) : w.heap.size ≤ gb244)); have n8_ := Ak ((Qp hg HB.out : w0.heap.size ≤ gb244)); have n9_ := Ak ((by rw [hg]; exact Nat.ne_of_lt (Qn BK242.out) : gb242 ≠ gb244)); have n10_ := Ak ((by rw [hg]; exact Nat.ne_of_gt (Qn BK242.out) : gb244 ≠ gb242)); have n11_ := Ak ((by rw [hg]; exact Nat.ne_of_lt (Qn BK243.out) : gb243 ≠ gb244)); have n12_ := Ak ((by rw [hg]; exact Nat.ne_of_gt (Qn BK243.out) : gb244 ≠ gb243)); clear HO1_1 HO1_2 BK242 BK243 HK HB; have HO1_1 := n0_; have HO1_2 := n1_; have BK242 := n2_; have BK243 := n3_; have HK := n4_; have HB := n5_; have BK244 := n6_; have GW244 := n7_; have GE244 := n8_; have NB242_244 := n9_; have NB244_242 := n10_; have NB243_244 := n11_; have NB244_243 := n12_; clear n0_ n1_ n2_ n3_ n4_ n5_ n6_ n7_ n8_ n9_ n10_ n11_ n12_; clear hb hbox hg; have hnb34 := NB243_242.out; have hnc34 := NB242_243.out; have hnb35 := NB243_244.out; have hnc35 := NB244_243.out; obtain ⟨hcz36_0, hcz36_1, hcz36_2, hfz36_0, hfz36_1, hfz36_2⟩ := Qv3 BK243.out; have hnb37 := NB242_244.out; have hnc37 := NB244_242.out; obtain ⟨hcz38_0, hcz38_1, hcz38_2, hcz38_3⟩ := Qu4 BK242.out; have hfz38_0 := blk_frozen BK242.out 0; have hfz38_1 := blk_frozen BK242.out 1; have hfz38_2 := blk_frozen BK242.out 2; have hfz38_3 := blk_frozen BK242.out 3))
         have n0_ : Aside0 (Kd.R (Kd.int .i64) 3 (w33.setCell ⟨gb243, 0, none⟩ (.int .i64 (wrap64 (a1_0 + 1)))) w0.heap.size (fun k_ => ((P1_1_ k_ ∨ P1_2_ k_) ∨ w.heap.size ≤ k_) ∧ some k_ ≠ (.slice Ao31 l1_2.length co31 : Value).ownBlock) (.slice Ao30 l1_1.length co30) l1_1) := ⟨by refine Qf ?_; exact Kd.R_mono (Kd.R_far (p := ⟨gb243, 0, none⟩) (Kd.R_types HO1_1.out BK243.out (by decide)) (fun _ hk => hk.2) (.int .i64 (wrap64 (a1_0 + 1)))) (fun _ hk => ⟨hk.1.1, hk.1.2⟩)⟩
         have n1_ : Aside0 (Kd.R (Kd.int .i64) 3 (w33.setCell ⟨gb243, 0, none⟩ (.int .i64 (wrap64 (a1_0 + 1)))) w0.heap.size (fun k_ => ((P1_1_ k_ ∨ P1_2_ k_) ∨ w.heap.size ≤ k_) ∧ some k_ ≠ (.slice Ao30 l1_1.length co30 : Value).ownBlock) (.slice Ao31 l1_2.length co31) l1_2) := ⟨by refine Qf ?_; exact Kd.R_mono (Kd.R_far (p := ⟨gb243, 0, none⟩) (Kd.R_types HO1_2.out BK243.out (by decide)) (fun _ hk => hk.2) (.int .i64 (wrap64 (a1_0 + 1)))) (fun _ hk => ⟨hk.1.1, hk.1.2⟩)⟩
         have n2_ : Aside0 ((w33.setCell ⟨gb243, 0, none⟩ (.int .i64 (wrap64 (a1_0 + 1)))).heap[gb242]? = some (.cells #[.int .i64 a0_0, .int .i64 a0_1, .int .i64 a0_2, .int .i64 a0_3] 48 (0, 0))) := ⟨by refine Qe ?_; refine blk_far ?_ NB242_243.out _; refine Qe ?_; exact BK242.out⟩
         have n3_ : Aside0 ((w33.setCell ⟨gb243, 0, none⟩ (.int .i64 (wrap64 (a1_0 + 1)))).heap[gb243]? = some (.cells #[.int .i64 (wrap64 (a1_0 + 1)), .slice Ao30 l1_1.length co30, .slice Ao31 l1_2.length co31] 28 (0, 0))) := ⟨by refine Qe ?_; refine blk_put (cs := #[.int .i64 a1_0, .slice Ao30 l1_1.length co30, .slice Ao31 l1_2.length co31]) ?_ 0 _ rfl; refine Qe ?_; exact BK243.out⟩
         have n4_ : Aside0 ((w33.setCell ⟨gb243, 0, none⟩ (.int .i64 (wrap64 (a1_0 + 1)))).heap[gb244]? = some (.cells #[.int .i64 0, .slice none 0 0, .slice none 0 0] 28 (0, 0))) := ⟨by refine Qe ?_; refine blk_far ?_ NB244_243.out _; refine Qe ?_; exact BK244.out⟩
         have n5_ : Aside0 (Kept w (w33.setCell ⟨gb243, 0, none⟩ (.int .i64 (wrap64 (a1_0 + 1)))) (fun k_ => P1_1_ k_ ∨ P1_2_ k_)) := ⟨Qd HK.out⟩
         have n6_ : Aside0 (Below w0.heap.size w0 (w33.setCell ⟨gb243, 0, none⟩ (.int .i64 (wrap64 (a1_0 + 1))))) := ⟨Qb HB.out⟩
         (try clear HO1_1); (try clear HO1_2); (try clear BK242); (try clear BK243); (try clear BK244); (try clear HK); (try clear HB)
         generalize (w33.setCell ⟨gb243, 0, none⟩ (.int .i64 (wrap64 (a1_0 + 1)))) = w39 at n0_ n1_ n2_ n3_ n4_ n5_ n6_ ⊢
         have HO1_1 := n0_
         have HO1_2 := n1_
         have BK242 := n2_
         have BK243 := n3_
         have BK244 := n4_
         have HK := n5_
         have HB := n6_
         clear n0_ n1_ n2_ n3_ n4_ n5_ n6_
         have n0_ := Ak (Kd.R_drew HO1_1.out)
         have n1_ := Ak (Kd.R_drew HO1_2.out)
         have n2_ := Ak (blk_drew BK242.out)
         have n3_ := Ak (blk_drew BK243.out)
         have n4_ := Ak (blk_drew BK244.out)
         have n5_ := Ak (Kept.drew HK.out)
         have n6_ := Ak (below_drew1 HB.out)
         clear HO1_1 HO1_2 BK242 BK243 BK244 HK HB
         have HO1_1 := n0_
         have HO1_2 := n1_
         have BK242 := n2_
         have BK243 := n3_
         have BK244 := n4_
         have HK := n5_
         have HB := n6_
         clear n0_ n1_ n2_ n3_ n4_ n5_ n6_
         have q41 : ((ji20) : Int) ≤ ((l1_1.length : Int) : Int) := Qg
         obtain ⟨i041, hi041, _, hsz41, _⟩ := info_parts info3
         have hcut41 := cut_to (P := Try.prog) 23 3 .i64 Try.underlying23 hi041 Ao30 l1_1.length co30 (ji20) (Qg) q41 (Kd.R_reads' HO1_1.out).2.1
         have hr41 := Kd.R_take (m := ((ji20) : Int).toNat) HO1_1.out (by omega)
         have hy41 : y248.length = ((ji20) : Int).toNat := (by rw [Ny248.out, List.length_take]; omega)
         rw [← Ny248.out] at hr41
         rw [← hy41] at hr41 hcut41
         clear hy41 hi041 hsz41
         have HO250 := Ak hr41
         clear hr41
         replace q41 := eq_true q41
         have p251 : 0 ≤ ((ji20) : Int) := Qg
         have q251 : (ji20) < (l1_1.length : Int) := Qg
         obtain ⟨ad251, e251, hx251_0⟩ := Kd.at_int (Kd.R_reads' HO1_1.out).2.2 (ji20) p251 q251
         cases e251
         replace p251 := eq_true p251
         replace q251 := eq_true q251
         have p252 : 0 ≤ ((ji24) : Int) := Qg
         have q252 : (ji24) < (l1_1.length : Int) := Qg
         obtain ⟨ad252, e252, hx252_0⟩ := Kd.at_int (Kd.R_reads' HO1_1.out).2.2 (ji24) p252 q252
         obtain rfl : ad251 = ad252 := (by injection e252)
         replace p252 := eq_true p252
         replace q252 := eq_true q252
         refine start_ (n := 23) (S := fun w' => w'.cell? ⟨gb243, 0, none⟩ = some (.int .i64 (wrap64 (a1_0 + 1))) ∧ w'.cell? ⟨gb243, 1, none⟩ = some (.slice (some ad251) l1_1.length co30) ∧ w'.cell? ⟨gb243, 2, none⟩ = some (.slice Ao31 l1_2.length co31) ∧ w'.cell? (ad251.add ((ji20)).toNat) = some (.int .i64 (rd l1_1 (ji20))) ∧ w'.cell? (ad251.add ((ji24)).toNat) = some (.int .i64 (rd l1_1 (ji24)))) (ds := [20, 22]) #[false, false, false, false, false, false, false, false, false, false, false, false, false, false, false, false, false, false, false, false, false, false, false] (by kernel_rfl) rfl rfl ⟨(blk_cell BK243.out 0).trans rfl, (blk_cell BK243.out 1).trans rfl, (blk_cell BK243.out 2).trans rfl, hx251_0, hx252_0⟩ (fun hHeld => ?_); refine with_tabW spec_l7Change.tab7 spec_l7Change.bits7 (fun HT_ HW_ => ?_)
         generalize w39.drew = w40 at HO1_1 HO1_2 BK242 BK243 BK244 HK HB HO250 hx251_0 hx252_0 hHeld ⊢
         refine Qq 0 (some 27) ?_
         refine Qq 2 (some 29) ?_
         refine Qq 3 (some 30) ?_
         refine Qq 5 (some 32) ?_
         refine Qq 7 (some 34) ?_
         refine Qq 8 (some 35) ?_
         refine Qq 11 (some 38) ?_
         refine Qq 13 (some 40) ?_
         refine Qq 14 (some 41) ?_
         refine Qr 1 (some 28) hHeld ?_
         refine Qq 4 (some 31) ?_
         refine Qr 6 (some 33) hHeld ?_
         refine Qq 9 (some 36) ?_
         refine Qr 10 (some 37) hHeld ?_
         refine Qr 12 (some 39) hHeld ?_
         refine Qq 15 (some 42) ?_
         refine Qr 16 (some 43) hHeld ?_
         refine Qq 17 (some 44) ?_
         refine Qs 18 (some 45) (fun K hK => ?_)
         refine goes_ Try.func68 (by kernel_rfl) rfl #[.int .i64 (wrap64 ((rd l1_1 (ji20)) + (rd l1_1 (ji24))))] (by rfl) rfl rfl (by (try simp only [List.map_toArray, List.map_cons, List.map_nil]); first | done | (simp only [hji20, hji24]; rfl) | rfl | (simp only [List.length_drop, List.length_take]; rfl)) ?_
         with_reducible refine (spec_WrapCell.calls (wrap64 ((rd l1_1 (ji20)) + (rd l1_1 (ji24)))) t253 _ A27.out).mono ?_
         rintro e w' ⟨rfl, ⟨nd, rfl⟩⟩
         refine ⟨_, rfl, ?_⟩
         refine hK.out _ _ ⟨(blk_cell BK243.out 0).trans rfl, (blk_cell BK243.out 1).trans rfl, (blk_cell BK243.out 2).trans rfl, hHeld.2.2.2.1, hHeld.2.2.2.2⟩ (fun hHeld => ?_)
         clear hK K
         refine norm_ (a' := ?_) ?_ ?_
         rotate_left
         ·show Act.put _ (some 45) _ = _
          simp only [Act.put, List.setIfInBounds_toArray, List.set_cons_zero, List.set_cons_succ, i64_w, i32_w]
          rfl
         refine Qs 19 (some 46) (fun K hK => ?_)
         refine value_ (w1 := ?_) (v := ?_) (by rfl) rfl ?_ ?_
         rotate_left 2
         ·go_simp
          constructor
          ·rfl
          ·rfl
         refine hK.out _ _ ⟨(blk_cell (blk_alloc BK243.out _) 0).trans rfl, (blk_cell (blk_alloc BK243.out _) 1).trans rfl, (blk_cell (blk_alloc BK243.out _) 2).trans rfl, (World.cell?_alloc_lt _ _ _ (World.block_lt_of_cell? _ _ (hHeld.2.2.2.1))).trans (hHeld.2.2.2.1), (World.cell?_alloc_lt _ _ _ (World.block_lt_of_cell? _ _ (hHeld.2.2.2.2))).trans (hHeld.2.2.2.2)⟩ (fun hHeld => ?_)
         clear hK K
         refine norm_ (a' := ?_) ?_ ?_
         rotate_left
         ·show Act.put _ (some 46) _ = _
          simp only [Act.put, List.setIfInBounds_toArray, List.set_cons_zero, List.set_cons_succ, i64_w, i32_w]
          rfl
         refine Qt 20 (some 47) (fun K hK => ?_)
         refine Kd.R_append_step (Kd.int .i64) (w0 := w0) w0.heap.size (by rfl) (.tmp 31) (.tmp 46) 23 3 (.int .i64 0) 8 rfl Try.underlying23 info3 rfl (by decide) (by omega) (.slice (some ad251) y248.length co30) y248 t253 [.int .i64 t253] (fun k_ => ((P1_1_ k_ ∨ P1_2_ k_) ∨ w.heap.size ≤ k_) ∧ some k_ ≠ (.slice Ao31 l1_2.length co31 : Value).ownBlock) (fun _ => False) rfl rfl ?aP (fun _ hk => hk.elim) ?aF ?aO ?aB ?aS ?aL ?_
         (case aP => exact rfl)
         (case aB => exact (Qb HB.out))
         (case aF => exact (fun k_ hk => ⟨(.inr (Nat.le_trans (Qo HK.out) hk)), Kd.fresh' (Kd.R_lt (Qc HO1_2.out)) k_ hk⟩))
         (case aO => exact (Qc HO250.out))
         (case aS => exact (below_size (Qb HB.out)))
         (case aL => have := LMc28.out; omega)
         intro v255 w42 ho hb hg hat
         rw [← Ny254.out] at ho
         have n0_ := Ak (Kd.R_after (ok := (fun k_ => ((P1_1_ k_ ∨ P1_2_ k_) ∨ w.heap.size ≤ k_))) (Qc HO1_2.out) hg hat)
         have n1_ := Ak (blk_grown (g := gb242) (o := .cells #[.int .i64 a0_0, .int .i64 a0_1, .int .i64 a0_2, .int .i64 a0_3] 48 (0, 0)) (Qa BK242.out) hg (Kd.R_ne HO250.out BK242.out (by decide)))
         have n2_ := Ak (blk_grown (g := gb243) (o := .cells #[.int .i64 (wrap64 (a1_0 + 1)), .slice (some ad251) l1_1.length co30, .slice Ao31 l1_2.length co31] 28 (0, 0)) (Qa BK243.out) hg (Kd.R_ne HO250.out BK243.out (by decide)))
         have n3_ := Ak (blk_grown (g := gb244) (o := .cells #[.int .i64 0, .slice none 0 0, .slice none 0 0] 28 (0, 0)) (Qa BK244.out) hg (Kd.R_ne HO250.out BK244.out (by decide)))
         have n4_ := Ak (hb)
         have n5_ := Ak (Kept.of_grown (S := (fun k_ => P1_1_ k_ ∨ P1_2_ k_)) hg (Qd HK.out) (fun k_ e_ => (HO250.out.1 k_ e_).1))
         have n6_ := Ak (ho)
         clear HO1_2 BK242 BK243 BK244 HB HK HO250
         have HO1_2 := n0_
         have BK242 := n1_
         have BK243 := n2_
         have BK244 := n3_
         have HB := n4_
         have HK := n5_
         have HO256 := n6_
         clear n0_ n1_ n2_ n3_ n4_ n5_ n6_
         clear ho hb hg hat
         obtain ⟨Ao43, co43, eo43⟩ := Kd.R_slice HO256.out
         (first | subst eo43 | (injection eo43 with f1_ f2_ f3_; have f4_ := f1_.symm; have f5_ := f3_.symm; clear f1_ f2_ f3_; subst f4_; subst f5_))
         refine hK.out _ _ ?_
         clear hK K
         refine norm_ (a' := ?_) ?_ ?_
         rotate_left
         ·show Act.put _ (some 47) _ = _
          simp only [Act.put, List.setIfInBounds_toArray, List.set_cons_zero, List.set_cons_succ, i64_w, i32_w]
          rfl
         refine Qq 21 (some 48) ?_
         refine Qt 22 none (fun K hK => ?_)
         have hs44 : w42.cell? ⟨gb243, 1, none⟩ = some (.slice (some ad251) l1_1.length co30) := (blk_cell BK243.out 1).trans rfl
         have hfs44 := blk_frozen BK243.out 1
         have hns44_0 := NB242_243.out
         have hns44_2 := NB244_243.out
         have hms44_0 := NB243_242.out
         have hms44_2 := NB243_244.out
         refine skip_ (w1 := ?_) (by rfl) rfl ?_ ?_
         rotate_left
         ·go_simp
          rfl
         refine hK.out _ _ ?_
         clear hK K
         refine done_ (done_of HT_.out (by kernel_rfl)) ?_
         obtain ⟨hcz45_0, hcz45_1, hcz45_2, hfz45_0, hfz45_1, hfz45_2⟩ := Qv3 BK243.out
         obtain ⟨hcz46_0, hcz46_1, hcz46_2, hfz46_0, hfz46_1, hfz46_2⟩ := Qv3 BK244.out
         try go_wp2
         refine bodyPost_ret (results_cell_row rfl _ _ gb244 28 #[.int .i64 (wrap64 (a1_0 + 1)), .slice Ao43 y254.length co43, .slice Ao31 l1_2.length co31] (0, 0) _ rfl (by refine Qe ?_; refine blk_put (cs := #[.int .i64 (wrap64 (a1_0 + 1)), .slice Ao43 y254.length co43, .slice none 0 0]) ?_ 2 _ rfl; refine Qe ?_; refine blk_put (cs := #[.int .i64 (wrap64 (a1_0 + 1)), .slice none 0 0, .slice none 0 0]) ?_ 1 _ rfl; refine Qe ?_; refine blk_put (cs := #[.int .i64 0, .slice none 0 0, .slice none 0 0]) ?_ 0 _ rfl; refine Qe ?_; refine blk_far ?_ NB244_243.out _; exact Qa BK244.out) Try.underlying28 rfl (by kernel_rfl)) rfl ?_
         exact ⟨_, _, by first | rfl | (simp [errW_none, errW_some] <;> rfl) | (simp only [← hji20, ← hji24]; first | rfl | (simp [errW_none, errW_some] <;> rfl)) | (simp [*, errW_none, errW_some] <;> rfl), by refine Qf ?_; exact Kd.R_mono (Kd.R_far (p := ⟨gb244, 2, none⟩) (Kd.R_far (p := ⟨gb244, 1, none⟩) (Kd.R_far (p := ⟨gb244, 0, none⟩) (Kd.R_far (p := ⟨gb243, 1, none⟩) (Kd.R_types (Kd.R_types HO256.out BK243.out (by decide)) BK244.out (by decide)) (fun _ hk => hk.1.2) (.slice Ao43 y254.length co43)) (fun _ hk => hk.2) (.int .i64 (wrap64 (a1_0 + 1)))) (fun _ hk => hk.2) (.slice Ao43 y254.length co43)) (fun _ hk => hk.2) (.slice Ao31 l1_2.length co31)) (fun _ hk => by first | exact ⟨hk.1.1.1, hk.1.1.2⟩ | exact ⟨hk.1.1.1, fun e_ => hk.1.1.2 (e_.trans (ownlen_ _ _ _ _ _))⟩), by refine Qf ?_; exact Kd.R_mono (Kd.R_far (p := ⟨gb244, 2, none⟩) (Kd.R_far (p := ⟨gb244, 1, none⟩) (Kd.R_far (p := ⟨gb244, 0, none⟩) (Kd.R_far (p := ⟨gb243, 1, none⟩) (Kd.R_types (Kd.R_types HO1_2.out BK243.out (by decide)) BK244.out (by decide)) (fun _ hk => hk.1.2) (.slice Ao43 y254.length co43)) (fun _ hk => hk.2) (.int .i64 (wrap64 (a1_0 + 1)))) (fun _ hk => hk.2) (.slice Ao43 y254.length co43)) (fun _ hk => hk.2) (.slice Ao31 l1_2.length co31)) (fun _ hk => by first | exact ⟨hk.1.1.1, hk.1.1.2⟩ | exact ⟨hk.1.1.1, fun e_ => hk.1.1.2 (e_.trans (ownlen_ _ _ _ _ _))⟩), Qb HB.out, Qd HK.out⟩
        ·rw [if_neg c28] at H
         exact absurd H (by simp)
       ·rw [if_neg c26] at H
        exact absurd H (by simp)
      ·rw [if_neg c25] at H
       exact absurd H (by simp)
     ·rw [if_neg c23] at H
      exact absurd H (by simp)
    ·rw [if_neg c22] at H
     exact absurd H (by simp)
   ·rw [if_neg c21] at H
    exact absurd H (by simp)
  ·rw [if_neg c19] at H
   have c19b0 : (a0_0 == 2) = false := beq_eq_false_iff_ne.mpr c19
   have c19b1 : (a0_0 != 2) = true := bne_iff_ne.mpr c19
   by_cases c47 : a0_0 = 3
   ·rw [if_pos c47] at H
    have c47b0 : (a0_0 == 3) = true := beq_iff_eq.mpr c47
    have c47b1 : (a0_0 != 3) = false := bne_eq_false_iff_eq.mpr c47
    clear c47
    obtain ⟨ji48, hji48⟩ : ∃ j_ : Int, (wrap64 ((l1_1.length : Int) - 2)) = j_ := ⟨_, rfl⟩
    replace H : (if 0 ≤ (ji48) then (if (ji48) ≤ (l1_1.length : Int) then ((some (l1_1.take ((ji48) : Int).toNat : List Int)).bind fun y257 => (if (ji48) < (l1_1.length : Int) then (if 0 ≤ (wrap64 ((l1_1.length : Int) - 1)) then (if (wrap64 ((l1_1.length : Int) - 1)) < (l1_1.length : Int) then ((spec_WrapCell.f (wrap64 ((rd l1_1 (ji48)) - (rd l1_1 (wrap64 ((l1_1.length : Int) - 1)))))).bind fun t262 => (if y257.length < 17592186044416 then (some (wrap64 (a1_0 + 1), (y257 ++ [t262]), l1_2)) else (none))) else (none)) else (none)) else (none))) else (none)) else (none)) = some (r1, r2, r3) := by first | (rw [hji48] at H; exact H) | (simp only [hji48] at H ⊢; exact H)
    have hji48w : (IntKind.i64.wrap ((l1_1.length : Int) - 2)) = ji48 := (i64_w _).trans hji48
    by_cases c49 : 0 ≤ (ji48)
    ·rw [if_pos c49] at H
     have c49b0 := eq_true c49
     have c49b1 : decide (0 ≤ (ji48)) = true := decide_eq_true c49
     clear c49
     by_cases c50 : (ji48) ≤ (l1_1.length : Int)
     ·rw [if_pos c50] at H
      have c50b0 := eq_true c50
      have c50b1 : decide ((ji48) ≤ (l1_1.length : Int)) = true := decide_eq_true c50
      clear c50
      obtain ⟨y257, hy257⟩ : ∃ y_ : List Int, y_ = (l1_1.take ((ji48) : Int).toNat) := ⟨_, rfl⟩
      replace H : (if (ji48) < (l1_1.length : Int) then (if 0 ≤ (wrap64 ((l1_1.length : Int) - 1)) then (if (wrap64 ((l1_1.length : Int) - 1)) < (l1_1.length : Int) then ((spec_WrapCell.f (wrap64 ((rd l1_1 (ji48)) - (rd l1_1 (wrap64 ((l1_1.length : Int) - 1)))))).bind fun t262 => (if y257.length < 17592186044416 then (some (wrap64 (a1_0 + 1), (y257 ++ [t262]), l1_2)) else (none))) else (none)) else (none)) else (none)) = some (r1, r2, r3) := by first | (rw [hy257]; with_reducible exact H) | (have H2_ := (Option.bind_some _ _).symm.trans H; rw [hy257]; with_reducible exact H2_) | (have H2_ := (Option.bind_some _ _).symm.trans H; with_reducible exact H2_) | with_reducible exact H | (rw [hy257]; exact H) | exact H
      have Ny257 := Ak hy257
      clear hy257
      by_cases c51 : (ji48) < (l1_1.length : Int)
      ·rw [if_pos c51] at H
       have c51b0 : decide ((ji48) < (l1_1.length : Int)) = true := decide_eq_true c51
       clear c51
       obtain ⟨ji52, hji52⟩ : ∃ j_ : Int, (wrap64 ((l1_1.length : Int) - 1)) = j_ := ⟨_, rfl⟩
       replace H : (if 0 ≤ (ji52) then (if (ji52) < (l1_1.length : Int) then ((spec_WrapCell.f (wrap64 ((rd l1_1 (ji48)) - (rd l1_1 (ji52))))).bind fun t262 => (if y257.length < 17592186044416 then (some (wrap64 (a1_0 + 1), (y257 ++ [t262]), l1_2)) else (none))) else (none)) else (none)) = some (r1, r2, r3) := by first | (rw [hji52] at H; exact H) | (simp only [hji52] at H ⊢; exact H)
       have hji52w : (IntKind.i64.wrap ((l1_1.length : Int) - 1)) = ji52 := (i64_w _).trans hji52
       by_cases c53 : 0 ≤ (ji52)
       ·rw [if_pos c53] at H
        have c53b0 : decide (0 ≤ (ji52)) = true := decide_eq_true c53
        clear c53
        by_cases c54 : (ji52) < (l1_1.length : Int)
        ·rw [if_pos c54] at H
         have c54b0 : decide ((ji52) < (l1_1.length : Int)) = true := decide_eq_true c54
         clear c54
         replace H := Option.bind_eq_some_iff.mp H
         obtain ⟨t262, A550, H⟩ := H
         replace H : (if y257.length < 17592186044416 then (some (wrap64 (a1_0 + 1), (y257 ++ [t262]), l1_2)) else (none)) = some (r1, r2, r3) := H
         have A55 := Ak A550
         clear A550
         by_cases c56 : y257.length < 17592186044416
         ·rw [if_pos c56] at H
          have LMc56 := Ak c56
          clear c56
          obtain ⟨y263, hy263⟩ : ∃ y_ : List Int, y_ = (y257 ++ [t262]) := ⟨_, rfl⟩
          replace H : (some (wrap64 (a1_0 + 1), y263, l1_2)) = some (r1, r2, r3) := by first | (rw [hy263]; with_reducible exact H) | (have H2_ := (Option.bind_some _ _).symm.trans H; rw [hy263]; with_reducible exact H2_) | (have H2_ := (Option.bind_some _ _).symm.trans H; with_reducible exact H2_) | with_reducible exact H | (rw [hy263]; exact H) | exact H
          have Ny263 := Ak hy263
          clear hy263
          simp only [Option.some.injEq, Prod.mk.injEq] at H
          obtain ⟨rfl, rfl, rfl⟩ := H
          go_enter Try.func38, Try.ntmps38
          try go_wp2_with (first | ((with_reducible refine gate_dst (N := 2) rfl ?_); refine Qk 2 #[.int .i64 a0_0, .int .i64 a0_1, .int .i64 a0_2, .int .i64 a0_3] 48 ?_; intro gb242 hg w57 hbox hb; have n0_ := Ak (Kd.R_below (Qc HO1_1.out) hb); have n1_ := Ak (Kd.R_below (Qc HO1_2.out) hb); have n2_ := Ak (Kept.below (S := (fun k_ => P1_1_ k_ ∨ P1_2_ k_)) (Qd HK.out) hb); have n3_ := Ak (below_step (Qb HB.out) hb); have n4_ := Ak (hbox); have n5_ := Ak ((by rw [hg]; exact (Qo HK.out) : w.heap.size ≤ gb242)); have n6_ := Ak ((Qp hg HB.out : w0.heap.size ≤ gb242)); clear HO1_1 HO1_2 HK HB; have HO1_1 := n0_; have HO1_2 := n1_; have HK := n2_; have HB := n3_; have BK242 := n4_; have GW242 := n5_; have GE242 := n6_; clear n0_ n1_ n2_ n3_ n4_ n5_ n6_; clear hb hbox hg; obtain ⟨Ao58, co58, eo58⟩ := Kd.R_slice HO1_1.out; subst eo58; obtain ⟨Ao59, co59, eo59⟩ := Kd.R_slice HO1_2.out; subst eo59) | ((with_reducible refine gate_dst (N := 3) rfl ?_); refine Qk 3 #[.int .i64 a1_0, .slice Ao58 l1_1.length co58, .slice Ao59 l1_2.length co59] 28 ?_; intro gb243 hg w60 hbox hb; have n0_ := Ak (Kd.R_below (Qc HO1_1.out) hb); have n1_ := Ak (Kd.R_below (Qc HO1_2.out) hb); have n2_ := Ak (Qm BK242.out hb); have n3_ := Ak (Kept.below (S := (fun k_ => P1_1_ k_ ∨ P1_2_ k_)) (Qd HK.out) hb); have n4_ := Ak (below_step (Qb HB.out) hb); have n5_ := Ak (hbox); have n6_ := Ak ((by rw [hg]; exact (Qo HK.out) : w.heap.size ≤ gb243)); have n7_ := Ak ((Qp hg HB.out : w0.heap.size ≤ gb243)); have n8_ := Ak ((by rw [hg]; exact Nat.ne_of_lt (Qn BK242.out) : gb242 ≠ gb243)); have n9_ := Ak ((by rw [hg]; exact Nat.ne_of_gt (Qn BK242.out) : gb243 ≠ gb242)); clear HO1_1 HO1_2 BK242 HK HB; have HO1_1 := n0_; have HO1_2 := n1_; have BK242 := n2_; have HK := n3_; have HB := n4_; have BK243 := n5_; have GW243 := n6_; have GE243 := n7_; have NB242_243 := n8_; have NB243_242 := n9_; clear n0_ n1_ n2_ n3_ n4_ n5_ n6_ n7_ n8_ n9_; clear hb hbox hg) | ((with_reducible refine gate_dst (N := 4) rfl ?_); refine Qk 4 #[.int .i64 0, .slice none 0 0, .slice none 0 0] 28 ?_; intro gb244 hg w61 hbox hb; have n0_ := Ak (Kd.R_below (Qc HO1_1.out) hb); have n1_ := Ak (Kd.R_below (Qc HO1_2.out) hb); have n2_ := Ak (Qm BK242.out hb); have n3_ := Ak (Qm BK243.out hb); have n4_ := Ak (Kept.below (S := (fun k_ => P1_1_ k_ ∨ P1_2_ k_)) (Qd HK.out) hb); have n5_ := Ak (below_step (Qb HB.out) hb); have n6_ := Ak (hbox); have n7_ := Ak ((by rw [hg]; exact (Qo HK.out) : w.heap.size ≤ gb244)); have n8_ := Ak ((Qp hg HB.out : w0.heap.size ≤ gb244)); have n9_ := Ak ((by rw [hg]; exact Nat.ne_of_lt (Qn BK242.out) : gb242 ≠ gb244)); have n10_ := Ak ((by rw [hg]; exact Nat.ne_of_gt (Qn BK242.out) : gb244 ≠ gb242)); have n11_ := Ak ((by rw [hg]; exact Nat.ne_of_lt (Qn BK243.out) : gb243 ≠ gb244)); have n12_ := Ak ((by rw [hg]; exact Nat.ne_of_gt (Qn BK243.out) : gb244 ≠ gb243)); clear HO1_1 HO1_2 BK242 BK243 HK HB; have HO1_1 := n0_; have HO1_2 := n1_; have BK242 := n2_; have BK243 := n3_; have HK := n4_; have HB := n5_; have BK244 := n6_; have GW244 := n7_; have GE244 := n8_; have NB242_244 := n9_; have NB244_242 := n10_; have NB243_244 := n11_; have NB244_243 := n12_; clear n0_ n1_ n2_ n3_ n4_ n5_ n6_ n7_ n8_ n9_ n10_ n11_ n12_; clear hb hbox hg; have hnb62 := NB243_242.out; have hnc62 := NB242_243.out; have hnb63 := NB243_244.out; have hnc63 := NB244_243.out; obtain ⟨hcz64_0, hcz64_1, hcz64_2, hfz64_0, hfz64_1, hfz64_2⟩ := Qv3 BK243.out; have hnb65 := NB242_244.out; have hnc65 := NB244_242.out; obtain ⟨hcz66_0, hcz66_1, hcz66_2, hcz66_3⟩ := Qu4 BK242.out; have hfz66_0 := blk_frozen BK242.out 0; have hfz66_1 := blk_frozen BK242.out 1; have hfz66_2 := blk_frozen BK242.out 2; have hfz66_3 := blk_frozen BK242.out 3))
          have n0_ : Aside0 (Kd.R (Kd.int .i64) 3 (w61.setCell ⟨gb243, 0, none⟩ (.int .i64 (wrap64 (a1_0 + 1)))) w0.heap.size (fun k_ => ((P1_1_ k_ ∨ P1_2_ k_) ∨ w.heap.size ≤ k_) ∧ some k_ ≠ (.slice Ao59 l1_2.length co59 : Value).ownBlock) (.slice Ao58 l1_1.length co58) l1_1) := ⟨by refine Qf ?_; exact Kd.R_mono (Kd.R_far (p := ⟨gb243, 0, none⟩) (Kd.R_types HO1_1.out BK243.out (by decide)) (fun _ hk => hk.2) (.int .i64 (wrap64 (a1_0 + 1)))) (fun _ hk => ⟨hk.1.1, hk.1.2⟩)⟩
          have n1_ : Aside0 (Kd.R (Kd.int .i64) 3 (w61.setCell ⟨gb243, 0, none⟩ (.int .i64 (wrap64 (a1_0 + 1)))) w0.heap.size (fun k_ => ((P1_1_ k_ ∨ P1_2_ k_) ∨ w.heap.size ≤ k_) ∧ some k_ ≠ (.slice Ao58 l1_1.length co58 : Value).ownBlock) (.slice Ao59 l1_2.length co59) l1_2) := ⟨by refine Qf ?_; exact Kd.R_mono (Kd.R_far (p := ⟨gb243, 0, none⟩) (Kd.R_types HO1_2.out BK243.out (by decide)) (fun _ hk => hk.2) (.int .i64 (wrap64 (a1_0 + 1)))) (fun _ hk => ⟨hk.1.1, hk.1.2⟩)⟩
          have n2_ : Aside0 ((w61.setCell ⟨gb243, 0, none⟩ (.int .i64 (wrap64 (a1_0 + 1)))).heap[gb242]? = some (.cells #[.int .i64 a0_0, .int .i64 a0_1, .int .i64 a0_2, .int .i64 a0_3] 48 (0, 0))) := ⟨by refine Qe ?_; refine blk_far ?_ NB242_243.out _; refine Qe ?_; exact BK242.out⟩
          have n3_ : Aside0 ((w61.setCell ⟨gb243, 0, none⟩ (.int .i64 (wrap64 (a1_0 + 1)))).heap[gb243]? = some (.cells #[.int .i64 (wrap64 (a1_0 + 1)), .slice Ao58 l1_1.length co58, .slice Ao59 l1_2.length co59] 28 (0, 0))) := ⟨by refine Qe ?_; refine blk_put (cs := #[.int .i64 a1_0, .slice Ao58 l1_1.length co58, .slice Ao59 l1_2.length co59]) ?_ 0 _ rfl; refine Qe ?_; exact BK243.out⟩
          have n4_ : Aside0 ((w61.setCell ⟨gb243, 0, none⟩ (.int .i64 (wrap64 (a1_0 + 1)))).heap[gb244]? = some (.cells #[.int .i64 0, .slice none 0 0, .slice none 0 0] 28 (0, 0))) := ⟨by refine Qe ?_; refine blk_far ?_ NB244_243.out _; refine Qe ?_; exact BK244.out⟩
          have n5_ : Aside0 (Kept w (w61.setCell ⟨gb243, 0, none⟩ (.int .i64 (wrap64 (a1_0 + 1)))) (fun k_ => P1_1_ k_ ∨ P1_2_ k_)) := ⟨Qd HK.out⟩
          have n6_ : Aside0 (Below w0.heap.size w0 (w61.setCell ⟨gb243, 0, none⟩ (.int .i64 (wrap64 (a1_0 + 1))))) := ⟨Qb HB.out⟩
          (try clear HO1_1); (try clear HO1_2); (try clear BK242); (try clear BK243); (try clear BK244); (try clear HK); (try clear HB)
          generalize (w61.setCell ⟨gb243, 0, none⟩ (.int .i64 (wrap64 (a1_0 + 1)))) = w67 at n0_ n1_ n2_ n3_ n4_ n5_ n6_ ⊢
          have HO1_1 := n0_
          have HO1_2 := n1_
          have BK242 := n2_
          have BK243 := n3_
          have BK244 := n4_
          have HK := n5_
          have HB := n6_
          clear n0_ n1_ n2_ n3_ n4_ n5_ n6_
          have n0_ := Ak (Kd.R_drew HO1_1.out)
          have n1_ := Ak (Kd.R_drew HO1_2.out)
          have n2_ := Ak (blk_drew BK242.out)
          have n3_ := Ak (blk_drew BK243.out)
          have n4_ := Ak (blk_drew BK244.out)
          have n5_ := Ak (Kept.drew HK.out)
          have n6_ := Ak (below_drew1 HB.out)
          clear HO1_1 HO1_2 BK242 BK243 BK244 HK HB
          have HO1_1 := n0_
          have HO1_2 := n1_
          have BK242 := n2_
          have BK243 := n3_
          have BK244 := n4_
          have HK := n5_
          have HB := n6_
          clear n0_ n1_ n2_ n3_ n4_ n5_ n6_
          have q69 : ((ji48) : Int) ≤ ((l1_1.length : Int) : Int) := Qg
          obtain ⟨i069, hi069, _, hsz69, _⟩ := info_parts info3
          have hcut69 := cut_to (P := Try.prog) 23 3 .i64 Try.underlying23 hi069 Ao58 l1_1.length co58 (ji48) (Qg) q69 (Kd.R_reads' HO1_1.out).2.1
          have hr69 := Kd.R_take (m := ((ji48) : Int).toNat) HO1_1.out (by omega)
          have hy69 : y257.length = ((ji48) : Int).toNat := (by rw [Ny257.out, List.length_take]; omega)
          rw [← Ny257.out] at hr69
          rw [← hy69] at hr69 hcut69
          clear hy69 hi069 hsz69
          have HO259 := Ak hr69
          clear hr69
          replace q69 := eq_true q69
          have p260 : 0 ≤ ((ji48) : Int) := Qg
          have q260 : (ji48) < (l1_1.length : Int) := Qg
          obtain ⟨ad260, e260, hx260_0⟩ := Kd.at_int (Kd.R_reads' HO1_1.out).2.2 (ji48) p260 q260
          cases e260
          replace p260 := eq_true p260
          replace q260 := eq_true q260
          have p261 : 0 ≤ ((ji52) : Int) := Qg
          have q261 : (ji52) < (l1_1.length : Int) := Qg
          obtain ⟨ad261, e261, hx261_0⟩ := Kd.at_int (Kd.R_reads' HO1_1.out).2.2 (ji52) p261 q261
          obtain rfl : ad260 = ad261 := (by injection e261)
          replace p261 := eq_true p261
          replace q261 := eq_true q261
          refine start_ (n := 23) (S := fun w' => w'.cell? ⟨gb243, 0, none⟩ = some (.int .i64 (wrap64 (a1_0 + 1))) ∧ w'.cell? ⟨gb243, 1, none⟩ = some (.slice (some ad260) l1_1.length co58) ∧ w'.cell? ⟨gb243, 2, none⟩ = some (.slice Ao59 l1_2.length co59) ∧ w'.cell? (ad260.add ((ji48)).toNat) = some (.int .i64 (rd l1_1 (ji48))) ∧ w'.cell? (ad260.add ((ji52)).toNat) = some (.int .i64 (rd l1_1 (ji52)))) (ds := [20, 22]) #[false, false, false, false, false, false, false, false, false, false, false, false, false, false, false, false, false, false, false, false, false, false, false] (by kernel_rfl) rfl rfl ⟨(blk_cell BK243.out 0).trans rfl, (blk_cell BK243.out 1).trans rfl, (blk_cell BK243.out 2).trans rfl, hx260_0, hx261_0⟩ (fun hHeld => ?_); refine with_tabW spec_l7Change.tab9 spec_l7Change.bits9 (fun HT_ HW_ => ?_)
          generalize w67.drew = w68 at HO1_1 HO1_2 BK242 BK243 BK244 HK HB HO259 hx260_0 hx261_0 hHeld ⊢
          refine Qq 0 (some 51) ?_
          refine Qq 2 (some 53) ?_
          refine Qq 3 (some 54) ?_
          refine Qq 5 (some 56) ?_
          refine Qq 7 (some 58) ?_
          refine Qq 8 (some 59) ?_
          refine Qq 11 (some 62) ?_
          refine Qq 13 (some 64) ?_
          refine Qq 14 (some 65) ?_
          refine Qr 1 (some 52) hHeld ?_
          refine Qq 4 (some 55) ?_
          refine Qr 6 (some 57) hHeld ?_
          refine Qq 9 (some 60) ?_
          refine Qr 10 (some 61) hHeld ?_
          refine Qr 12 (some 63) hHeld ?_
          refine Qq 15 (some 66) ?_
          refine Qr 16 (some 67) hHeld ?_
          refine Qq 17 (some 68) ?_
          refine Qs 18 (some 69) (fun K hK => ?_)
          refine goes_ Try.func68 (by kernel_rfl) rfl #[.int .i64 (wrap64 ((rd l1_1 (ji48)) - (rd l1_1 (ji52))))] (by rfl) rfl rfl (by (try simp only [List.map_toArray, List.map_cons, List.map_nil]); first | done | (simp only [hji48, hji52]; rfl) | rfl | (simp only [List.length_drop, List.length_take]; rfl)) ?_
          with_reducible refine (spec_WrapCell.calls (wrap64 ((rd l1_1 (ji48)) - (rd l1_1 (ji52)))) t262 _ A55.out).mono ?_
          rintro e w' ⟨rfl, ⟨nd, rfl⟩⟩
          refine ⟨_, rfl, ?_⟩
          refine hK.out _ _ ⟨(blk_cell BK243.out 0).trans rfl, (blk_cell BK243.out 1).trans rfl, (blk_cell BK243.out 2).trans rfl, hHeld.2.2.2.1, hHeld.2.2.2.2⟩ (fun hHeld => ?_)
          clear hK K
          refine norm_ (a' := ?_) ?_ ?_
          rotate_left
          ·show Act.put _ (some 69) _ = _
           simp only [Act.put, List.setIfInBounds_toArray, List.set_cons_zero, List.set_cons_succ, i64_w, i32_w]
           rfl
          refine Qs 19 (some 70) (fun K hK => ?_)
          refine value_ (w1 := ?_) (v := ?_) (by rfl) rfl ?_ ?_
          rotate_left 2
          ·go_simp
           constructor
           ·rfl
           ·rfl
          refine hK.out _ _ ⟨(blk_cell (blk_alloc BK243.out _) 0).trans rfl, (blk_cell (blk_alloc BK243.out _) 1).trans rfl, (blk_cell (blk_alloc BK243.out _) 2).trans rfl, (World.cell?_alloc_lt _ _ _ (World.block_lt_of_cell? _ _ (hHeld.2.2.2.1))).trans (hHeld.2.2.2.1), (World.cell?_alloc_lt _ _ _ (World.block_lt_of_cell? _ _ (hHeld.2.2.2.2))).trans (hHeld.2.2.2.2)⟩ (fun hHeld => ?_)
          clear hK K
          refine norm_ (a' := ?_) ?_ ?_
          rotate_left
          ·show Act.put _ (some 70) _ = _
           simp only [Act.put, List.setIfInBounds_toArray, List.set_cons_zero, List.set_cons_succ, i64_w, i32_w]
           rfl
          refine Qt 20 (some 71) (fun K hK => ?_)
          refine Kd.R_append_step (Kd.int .i64) (w0 := w0) w0.heap.size (by rfl) (.tmp 55) (.tmp 70) 23 3 (.int .i64 0) 8 rfl Try.underlying23 info3 rfl (by decide) (by omega) (.slice (some ad260) y257.length co58) y257 t262 [.int .i64 t262] (fun k_ => ((P1_1_ k_ ∨ P1_2_ k_) ∨ w.heap.size ≤ k_) ∧ some k_ ≠ (.slice Ao59 l1_2.length co59 : Value).ownBlock) (fun _ => False) rfl rfl ?aP (fun _ hk => hk.elim) ?aF ?aO ?aB ?aS ?aL ?_
          (case aP => exact rfl)
          (case aB => exact (Qb HB.out))
          (case aF => exact (fun k_ hk => ⟨(.inr (Nat.le_trans (Qo HK.out) hk)), Kd.fresh' (Kd.R_lt (Qc HO1_2.out)) k_ hk⟩))
          (case aO => exact (Qc HO259.out))
          (case aS => exact (below_size (Qb HB.out)))
          (case aL => have := LMc56.out; omega)
          intro v264 w70 ho hb hg hat
          rw [← Ny263.out] at ho
          have n0_ := Ak (Kd.R_after (ok := (fun k_ => ((P1_1_ k_ ∨ P1_2_ k_) ∨ w.heap.size ≤ k_))) (Qc HO1_2.out) hg hat)
          have n1_ := Ak (blk_grown (g := gb242) (o := .cells #[.int .i64 a0_0, .int .i64 a0_1, .int .i64 a0_2, .int .i64 a0_3] 48 (0, 0)) (Qa BK242.out) hg (Kd.R_ne HO259.out BK242.out (by decide)))
          have n2_ := Ak (blk_grown (g := gb243) (o := .cells #[.int .i64 (wrap64 (a1_0 + 1)), .slice (some ad260) l1_1.length co58, .slice Ao59 l1_2.length co59] 28 (0, 0)) (Qa BK243.out) hg (Kd.R_ne HO259.out BK243.out (by decide)))
          have n3_ := Ak (blk_grown (g := gb244) (o := .cells #[.int .i64 0, .slice none 0 0, .slice none 0 0] 28 (0, 0)) (Qa BK244.out) hg (Kd.R_ne HO259.out BK244.out (by decide)))
          have n4_ := Ak (hb)
          have n5_ := Ak (Kept.of_grown (S := (fun k_ => P1_1_ k_ ∨ P1_2_ k_)) hg (Qd HK.out) (fun k_ e_ => (HO259.out.1 k_ e_).1))
          have n6_ := Ak (ho)
          clear HO1_2 BK242 BK243 BK244 HB HK HO259
          have HO1_2 := n0_
          have BK242 := n1_
          have BK243 := n2_
          have BK244 := n3_
          have HB := n4_
          have HK := n5_
          have HO265 := n6_
          clear n0_ n1_ n2_ n3_ n4_ n5_ n6_
          clear ho hb hg hat
          obtain ⟨Ao71, co71, eo71⟩ := Kd.R_slice HO265.out
          (first | subst eo71 | (injection eo71 with f1_ f2_ f3_; have f4_ := f1_.symm; have f5_ := f3_.symm; clear f1_ f2_ f3_; subst f4_; subst f5_))
          refine hK.out _ _ ?_
          clear hK K
          refine norm_ (a' := ?_) ?_ ?_
          rotate_left
          ·show Act.put _ (some 71) _ = _
           simp only [Act.put, List.setIfInBounds_toArray, List.set_cons_zero, List.set_cons_succ, i64_w, i32_w]
           rfl
          refine Qq 21 (some 72) ?_
          refine Qt 22 none (fun K hK => ?_)
          have hs72 : w70.cell? ⟨gb243, 1, none⟩ = some (.slice (some ad260) l1_1.length co58) := (blk_cell BK243.out 1).trans rfl
          have hfs72 := blk_frozen BK243.out 1
          have hns72_0 := NB242_243.out
          have hns72_2 := NB244_243.out
          have hms72_0 := NB243_242.out
          have hms72_2 := NB243_244.out
          refine skip_ (w1 := ?_) (by rfl) rfl ?_ ?_
          rotate_left
          ·go_simp
           rfl
          refine hK.out _ _ ?_
          clear hK K
          refine done_ (done_of HT_.out (by kernel_rfl)) ?_
          obtain ⟨hcz73_0, hcz73_1, hcz73_2, hfz73_0, hfz73_1, hfz73_2⟩ := Qv3 BK243.out
          obtain ⟨hcz74_0, hcz74_1, hcz74_2, hfz74_0, hfz74_1, hfz74_2⟩ := Qv3 BK244.out
          try go_wp2
          refine bodyPost_ret (results_cell_row rfl _ _ gb244 28 #[.int .i64 (wrap64 (a1_0 + 1)), .slice Ao71 y263.length co71, .slice Ao59 l1_2.length co59] (0, 0) _ rfl (by refine Qe ?_; refine blk_put (cs := #[.int .i64 (wrap64 (a1_0 + 1)), .slice Ao71 y263.length co71, .slice none 0 0]) ?_ 2 _ rfl; refine Qe ?_; refine blk_put (cs := #[.int .i64 (wrap64 (a1_0 + 1)), .slice none 0 0, .slice none 0 0]) ?_ 1 _ rfl; refine Qe ?_; refine blk_put (cs := #[.int .i64 0, .slice none 0 0, .slice none 0 0]) ?_ 0 _ rfl; refine Qe ?_; refine blk_far ?_ NB244_243.out _; exact Qa BK244.out) Try.underlying28 rfl (by kernel_rfl)) rfl ?_
          exact ⟨_, _, by first | rfl | (simp [errW_none, errW_some] <;> rfl) | (simp only [← hji48, ← hji52]; first | rfl | (simp [errW_none, errW_some] <;> rfl)) | (simp [*, errW_none, errW_some] <;> rfl), by refine Qf ?_; exact Kd.R_mono (Kd.R_far (p := ⟨gb244, 2, none⟩) (Kd.R_far (p := ⟨gb244, 1, none⟩) (Kd.R_far (p := ⟨gb244, 0, none⟩) (Kd.R_far (p := ⟨gb243, 1, none⟩) (Kd.R_types (Kd.R_types HO265.out BK243.out (by decide)) BK244.out (by decide)) (fun _ hk => hk.1.2) (.slice Ao71 y263.length co71)) (fun _ hk => hk.2) (.int .i64 (wrap64 (a1_0 + 1)))) (fun _ hk => hk.2) (.slice Ao71 y263.length co71)) (fun _ hk => hk.2) (.slice Ao59 l1_2.length co59)) (fun _ hk => by first | exact ⟨hk.1.1.1, hk.1.1.2⟩ | exact ⟨hk.1.1.1, fun e_ => hk.1.1.2 (e_.trans (ownlen_ _ _ _ _ _))⟩), by refine Qf ?_; exact Kd.R_mono (Kd.R_far (p := ⟨gb244, 2, none⟩) (Kd.R_far (p := ⟨gb244, 1, none⟩) (Kd.R_far (p := ⟨gb244, 0, none⟩) (Kd.R_far (p := ⟨gb243, 1, none⟩) (Kd.R_types (Kd.R_types HO1_2.out BK243.out (by decide)) BK244.out (by decide)) (fun _ hk => hk.1.2) (.slice Ao71 y263.length co71)) (fun _ hk => hk.2) (.int .i64 (wrap64 (a1_0 + 1)))) (fun _ hk => hk.2) (.slice Ao71 y263.length co71)) (fun _ hk => hk.2) (.slice Ao59 l1_2.length co59)) (fun _ hk => by first | exact ⟨hk.1.1.1, hk.1.1.2⟩ | exact ⟨hk.1.1.1, fun e_ => hk.1.1.2 (e_.trans (ownlen_ _ _ _ _ _))⟩), Qb HB.out, Qd HK.out⟩
         ·rw [if_neg c56] at H
          exact absurd H (by simp)
        ·rw [if_neg c54] at H
         exact absurd H (by simp)
       ·rw [if_neg c53] at H
        exact absurd H (by simp)
      ·rw [if_neg c51] at H
       exact absurd H (by simp)
     ·rw [if_neg c50] at H
      exact absurd H (by simp)
    ·rw [if_neg c49] at H
     exact absurd H (by simp)
   ·rw [if_neg c47] at H
    have c47b0 : (a0_0 == 3) = false := beq_eq_false_iff_ne.mpr c47
    have c47b1 : (a0_0 != 3) = true := bne_iff_ne.mpr c47
    by_cases c75 : a0_0 = 4
    ·rw [if_pos c75] at H
     have c75b0 : (a0_0 == 4) = true := beq_iff_eq.mpr c75
     have c75b1 : (a0_0 != 4) = false := bne_eq_false_iff_eq.mpr c75
     clear c75
     obtain ⟨ji76, hji76⟩ : ∃ j_ : Int, (wrap64 ((l1_1.length : Int) - 2)) = j_ := ⟨_, rfl⟩
     replace H : (if 0 ≤ (ji76) then (if (ji76) ≤ (l1_1.length : Int) then ((some (l1_1.take ((ji76) : Int).toNat : List Int)).bind fun y266 => (if (ji76) < (l1_1.length : Int) then (if 0 ≤ (wrap64 ((l1_1.length : Int) - 1)) then (if (wrap64 ((l1_1.length : Int) - 1)) < (l1_1.length : Int) then ((spec_WrapCell.f (wrap64 ((rd l1_1 (ji76)) * (rd l1_1 (wrap64 ((l1_1.length : Int) - 1)))))).bind fun t271 => (if y266.length < 17592186044416 then (some (wrap64 (a1_0 + 1), (y266 ++ [t271]), l1_2)) else (none))) else (none)) else (none)) else (none))) else (none)) else (none)) = some (r1, r2, r3) := by first | (rw [hji76] at H; exact H) | (simp only [hji76] at H ⊢; exact H)
     have hji76w : (IntKind.i64.wrap ((l1_1.length : Int) - 2)) = ji76 := (i64_w _).trans hji76
     by_cases c77 : 0 ≤ (ji76)
     ·rw [if_pos c77] at H
      have c77b0 := eq_true c77
      have c77b1 : decide (0 ≤ (ji76)) = true := decide_eq_true c77
      clear c77
      by_cases c78 : (ji76) ≤ (l1_1.length : Int)
      ·rw [if_pos c78] at H
       have c78b0 := eq_true c78
       have c78b1 : decide ((ji76) ≤ (l1_1.length : Int)) = true := decide_eq_true c78
       clear c78
       obtain ⟨y266, hy266⟩ : ∃ y_ : List Int, y_ = (l1_1.take ((ji76) : Int).toNat) := ⟨_, rfl⟩
       replace H : (if (ji76) < (l1_1.length : Int) then (if 0 ≤ (wrap64 ((l1_1.length : Int) - 1)) then (if (wrap64 ((l1_1.length : Int) - 1)) < (l1_1.length : Int) then ((spec_WrapCell.f (wrap64 ((rd l1_1 (ji76)) * (rd l1_1 (wrap64 ((l1_1.length : Int) - 1)))))).bind fun t271 => (if y266.length < 17592186044416 then (some (wrap64 (a1_0 + 1), (y266 ++ [t271]), l1_2)) else (none))) else (none)) else (none)) else (none)) = some (r1, r2, r3) := by first | (rw [hy266]; with_reducible exact H) | (have H2_ := (Option.bind_some _ _).symm.trans H; rw [hy266]; with_reducible exact H2_) | (have H2_ := (Option.bind_some _ _).symm.trans H; with_reducible exact H2_) | with_reducible exact H | (rw [hy266]; exact H) | exact H
       have Ny266 := Ak hy266
       clear hy266
       by_cases c79 : (ji76) < (l1_1.length : Int)
       ·rw [if_pos c79] at H
        have c79b0 : decide ((ji76) < (l1_1.length : Int)) = true := decide_eq_true c79
        clear c79
        obtain ⟨ji80, hji80⟩ : ∃ j_ : Int, (wrap64 ((l1_1.length : Int) - 1)) = j_ := ⟨_, rfl⟩
        replace H : (if 0 ≤ (ji80) then (if (ji80) < (l1_1.length : Int) then ((spec_WrapCell.f (wrap64 ((rd l1_1 (ji76)) * (rd l1_1 (ji80))))).bind fun t271 => (if y266.length < 17592186044416 then (some (wrap64 (a1_0 + 1), (y266 ++ [t271]), l1_2)) else (none))) else (none)) else (none)) = some (r1, r2, r3) := by first | (rw [hji80] at H; exact H) | (simp only [hji80] at H ⊢; exact H)
        have hji80w : (IntKind.i64.wrap ((l1_1.length : Int) - 1)) = ji80 := (i64_w _).trans hji80
        by_cases c81 : 0 ≤ (ji80)
        ·rw [if_pos c81] at H
         have c81b0 : decide (0 ≤ (ji80)) = true := decide_eq_true c81
         clear c81
         by_cases c82 : (ji80) < (l1_1.length : Int)
         ·rw [if_pos c82] at H
          have c82b0 : decide ((ji80) < (l1_1.length : Int)) = true := decide_eq_true c82
          clear c82
          replace H := Option.bind_eq_some_iff.mp H
          obtain ⟨t271, A830, H⟩ := H
          replace H : (if y266.length < 17592186044416 then (some (wrap64 (a1_0 + 1), (y266 ++ [t271]), l1_2)) else (none)) = some (r1, r2, r3) := H
          have A83 := Ak A830
          clear A830
          by_cases c84 : y266.length < 17592186044416
          ·rw [if_pos c84] at H
           have LMc84 := Ak c84
           clear c84
           obtain ⟨y272, hy272⟩ : ∃ y_ : List Int, y_ = (y266 ++ [t271]) := ⟨_, rfl⟩
           replace H : (some (wrap64 (a1_0 + 1), y272, l1_2)) = some (r1, r2, r3) := by first | (rw [hy272]; with_reducible exact H) | (have H2_ := (Option.bind_some _ _).symm.trans H; rw [hy272]; with_reducible exact H2_) | (have H2_ := (Option.bind_some _ _).symm.trans H; with_reducible exact H2_) | with_reducible exact H | (rw [hy272]; exact H) | exact H
           have Ny272 := Ak hy272
           clear hy272
           simp only [Option.some.injEq, Prod.mk.injEq] at H
           obtain ⟨rfl, rfl, rfl⟩ := H
           go_enter Try.func38, Try.ntmps38
           try go_wp2_with (first | ((with_reducible refine gate_dst (N := 2) rfl ?_); refine Qk 2 #[.int .i64 a0_0, .int .i64 a0_1, .int .i64 a0_2, .int .i64 a0_3] 48 ?_; intro gb242 hg w85 hbox hb; have n0_ := Ak (Kd.R_below (Qc HO1_1.out) hb); have n1_ := Ak (Kd.R_below (Qc HO1_2.out) hb); have n2_ := Ak (Kept.below (S := (fun k_ => P1_1_ k_ ∨ P1_2_ k_)) (Qd HK.out) hb); have n3_ := Ak (below_step (Qb HB.out) hb); have n4_ := Ak (hbox); have n5_ := Ak ((by rw [hg]; exact (Qo HK.out) : w.heap.size ≤ gb242)); have n6_ := Ak ((Qp hg HB.out : w0.heap.size ≤ gb242)); clear HO1_1 HO1_2 HK HB; have HO1_1 := n0_; have HO1_2 := n1_; have HK := n2_; have HB := n3_; have BK242 := n4_; have GW242 := n5_; have GE242 := n6_; clear n0_ n1_ n2_ n3_ n4_ n5_ n6_; clear hb hbox hg; obtain ⟨Ao86, co86, eo86⟩ := Kd.R_slice HO1_1.out; subst eo86; obtain ⟨Ao87, co87, eo87⟩ := Kd.R_slice HO1_2.out; subst eo87) | ((with_reducible refine gate_dst (N := 3) rfl ?_); refine Qk 3 #[.int .i64 a1_0, .slice Ao86 l1_1.length co86, .slice Ao87 l1_2.length co87] 28 ?_; intro gb243 hg w88 hbox hb; have n0_ := Ak (Kd.R_below (Qc HO1_1.out) hb); have n1_ := Ak (Kd.R_below (Qc HO1_2.out) hb); have n2_ := Ak (Qm BK242.out hb); have n3_ := Ak (Kept.below (S := (fun k_ => P1_1_ k_ ∨ P1_2_ k_)) (Qd HK.out) hb); have n4_ := Ak (below_step (Qb HB.out) hb); have n5_ := Ak (hbox); have n6_ := Ak ((by rw [hg]; exact (Qo HK.out) : w.heap.size ≤ gb243)); have n7_ := Ak ((Qp hg HB.out : w0.heap.size ≤ gb243)); have n8_ := Ak ((by rw [hg]; exact Nat.ne_of_lt (Qn BK242.out) : gb242 ≠ gb243)); have n9_ := Ak ((by rw [hg]; exact Nat.ne_of_gt (Qn BK242.out) : gb243 ≠ gb242)); clear HO1_1 HO1_2 BK242 HK HB; have HO1_1 := n0_; have HO1_2 := n1_; have BK242 := n2_; have HK := n3_; have HB := n4_; have BK243 := n5_; have GW243 := n6_; have GE243 := n7_; have NB242_243 := n8_; have NB243_242 := n9_; clear n0_ n1_ n2_ n3_ n4_ n5_ n6_ n7_ n8_ n9_; clear hb hbox hg) | ((with_reducible refine gate_dst (N := 4) rfl ?_); refine Qk 4 #[.int .i64 0, .slice none 0 0, .slice none 0 0] 28 ?_; intro gb244 hg w89 hbox hb; have n0_ := Ak (Kd.R_below (Qc HO1_1.out) hb); have n1_ := Ak (Kd.R_below (Qc HO1_2.out) hb); have n2_ := Ak (Qm BK242.out hb); have n3_ := Ak (Qm BK243.out hb); have n4_ := Ak (Kept.below (S := (fun k_ => P1_1_ k_ ∨ P1_2_ k_)) (Qd HK.out) hb); have n5_ := Ak (below_step (Qb HB.out) hb); have n6_ := Ak (hbox); have n7_ := Ak ((by rw [hg]; exact (Qo HK.out) : w.heap.size ≤ gb244)); have n8_ := Ak ((Qp hg HB.out : w0.heap.size ≤ gb244)); have n9_ := Ak ((by rw [hg]; exact Nat.ne_of_lt (Qn BK242.out) : gb242 ≠ gb244)); have n10_ := Ak ((by rw [hg]; exact Nat.ne_of_gt (Qn BK242.out) : gb244 ≠ gb242)); have n11_ := Ak ((by rw [hg]; exact Nat.ne_of_lt (Qn BK243.out) : gb243 ≠ gb244)); have n12_ := Ak ((by rw [hg]; exact Nat.ne_of_gt (Qn BK243.out) : gb244 ≠ gb243)); clear HO1_1 HO1_2 BK242 BK243 HK HB; have HO1_1 := n0_; have HO1_2 := n1_; have BK242 := n2_; have BK243 := n3_; have HK := n4_; have HB := n5_; have BK244 := n6_; have GW244 := n7_; have GE244 := n8_; have NB242_244 := n9_; have NB244_242 := n10_; have NB243_244 := n11_; have NB244_243 := n12_; clear n0_ n1_ n2_ n3_ n4_ n5_ n6_ n7_ n8_ n9_ n10_ n11_ n12_; clear hb hbox hg; have hnb90 := NB243_242.out; have hnc90 := NB242_243.out; have hnb91 := NB243_244.out; have hnc91 := NB244_243.out; obtain ⟨hcz92_0, hcz92_1, hcz92_2, hfz92_0, hfz92_1, hfz92_2⟩ := Qv3 BK243.out; have hnb93 := NB242_244.out; have hnc93 := NB244_242.out; obtain ⟨hcz94_0, hcz94_1, hcz94_2, hcz94_3⟩ := Qu4 BK242.out; have hfz94_0 := blk_frozen BK242.out 0; have hfz94_1 := blk_frozen BK242.out 1; have hfz94_2 := blk_frozen BK242.out 2; have hfz94_3 := blk_frozen BK242.out 3))
           have n0_ : Aside0 (Kd.R (Kd.int .i64) 3 (w89.setCell ⟨gb243, 0, none⟩ (.int .i64 (wrap64 (a1_0 + 1)))) w0.heap.size (fun k_ => ((P1_1_ k_ ∨ P1_2_ k_) ∨ w.heap.size ≤ k_) ∧ some k_ ≠ (.slice Ao87 l1_2.length co87 : Value).ownBlock) (.slice Ao86 l1_1.length co86) l1_1) := ⟨by refine Qf ?_; exact Kd.R_mono (Kd.R_far (p := ⟨gb243, 0, none⟩) (Kd.R_types HO1_1.out BK243.out (by decide)) (fun _ hk => hk.2) (.int .i64 (wrap64 (a1_0 + 1)))) (fun _ hk => ⟨hk.1.1, hk.1.2⟩)⟩
           have n1_ : Aside0 (Kd.R (Kd.int .i64) 3 (w89.setCell ⟨gb243, 0, none⟩ (.int .i64 (wrap64 (a1_0 + 1)))) w0.heap.size (fun k_ => ((P1_1_ k_ ∨ P1_2_ k_) ∨ w.heap.size ≤ k_) ∧ some k_ ≠ (.slice Ao86 l1_1.length co86 : Value).ownBlock) (.slice Ao87 l1_2.length co87) l1_2) := ⟨by refine Qf ?_; exact Kd.R_mono (Kd.R_far (p := ⟨gb243, 0, none⟩) (Kd.R_types HO1_2.out BK243.out (by decide)) (fun _ hk => hk.2) (.int .i64 (wrap64 (a1_0 + 1)))) (fun _ hk => ⟨hk.1.1, hk.1.2⟩)⟩
           have n2_ : Aside0 ((w89.setCell ⟨gb243, 0, none⟩ (.int .i64 (wrap64 (a1_0 + 1)))).heap[gb242]? = some (.cells #[.int .i64 a0_0, .int .i64 a0_1, .int .i64 a0_2, .int .i64 a0_3] 48 (0, 0))) := ⟨by refine Qe ?_; refine blk_far ?_ NB242_243.out _; refine Qe ?_; exact BK242.out⟩
           have n3_ : Aside0 ((w89.setCell ⟨gb243, 0, none⟩ (.int .i64 (wrap64 (a1_0 + 1)))).heap[gb243]? = some (.cells #[.int .i64 (wrap64 (a1_0 + 1)), .slice Ao86 l1_1.length co86, .slice Ao87 l1_2.length co87] 28 (0, 0))) := ⟨by refine Qe ?_; refine blk_put (cs := #[.int .i64 a1_0, .slice Ao86 l1_1.length co86, .slice Ao87 l1_2.length co87]) ?_ 0 _ rfl; refine Qe ?_; exact BK243.out⟩
           have n4_ : Aside0 ((w89.setCell ⟨gb243, 0, none⟩ (.int .i64 (wrap64 (a1_0 + 1)))).heap[gb244]? = some (.cells #[.int .i64 0, .slice none 0 0, .slice none 0 0] 28 (0, 0))) := ⟨by refine Qe ?_; refine blk_far ?_ NB244_243.out _; refine Qe ?_; exact BK244.out⟩
           have n5_ : Aside0 (Kept w (w89.setCell ⟨gb243, 0, none⟩ (.int .i64 (wrap64 (a1_0 + 1)))) (fun k_ => P1_1_ k_ ∨ P1_2_ k_)) := ⟨Qd HK.out⟩
           have n6_ : Aside0 (Below w0.heap.size w0 (w89.setCell ⟨gb243, 0, none⟩ (.int .i64 (wrap64 (a1_0 + 1))))) := ⟨Qb HB.out⟩
           (try clear HO1_1); (try clear HO1_2); (try clear BK242); (try clear BK243); (try clear BK244); (try clear HK); (try clear HB)
           generalize (w89.setCell ⟨gb243, 0, none⟩ (.int .i64 (wrap64 (a1_0 + 1)))) = w95 at n0_ n1_ n2_ n3_ n4_ n5_ n6_ ⊢
           have HO1_1 := n0_
           have HO1_2 := n1_
           have BK242 := n2_
           have BK243 := n3_
           have BK244 := n4_
           have HK := n5_
           have HB := n6_
           clear n0_ n1_ n2_ n3_ n4_ n5_ n6_
           have n0_ := Ak (Kd.R_drew HO1_1.out)
           have n1_ := Ak (Kd.R_drew HO1_2.out)
           have n2_ := Ak (blk_drew BK242.out)
           have n3_ := Ak (blk_drew BK243.out)
           have n4_ := Ak (blk_drew BK244.out)
           have n5_ := Ak (Kept.drew HK.out)
           have n6_ := Ak (below_drew1 HB.out)
           clear HO1_1 HO1_2 BK242 BK243 BK244 HK HB
           have HO1_1 := n0_
           have HO1_2 := n1_
           have BK242 := n2_
           have BK243 := n3_
           have BK244 := n4_
           have HK := n5_
           have HB := n6_
           clear n0_ n1_ n2_ n3_ n4_ n5_ n6_
           have q97 : ((ji76) : Int) ≤ ((l1_1.length : Int) : Int) := Qg
           obtain ⟨i097, hi097, _, hsz97, _⟩ := info_parts info3
           have hcut97 := cut_to (P := Try.prog) 23 3 .i64 Try.underlying23 hi097 Ao86 l1_1.length co86 (ji76) (Qg) q97 (Kd.R_reads' HO1_1.out).2.1
           have hr97 := Kd.R_take (m := ((ji76) : Int).toNat) HO1_1.out (by omega)
           have hy97 : y266.length = ((ji76) : Int).toNat := (by rw [Ny266.out, List.length_take]; omega)
           rw [← Ny266.out] at hr97
           rw [← hy97] at hr97 hcut97
           clear hy97 hi097 hsz97
           have HO268 := Ak hr97
           clear hr97
           replace q97 := eq_true q97
           have p269 : 0 ≤ ((ji76) : Int) := Qg
           have q269 : (ji76) < (l1_1.length : Int) := Qg
           obtain ⟨ad269, e269, hx269_0⟩ := Kd.at_int (Kd.R_reads' HO1_1.out).2.2 (ji76) p269 q269
           cases e269
           replace p269 := eq_true p269
           replace q269 := eq_true q269
           have p270 : 0 ≤ ((ji80) : Int) := Qg
           have q270 : (ji80) < (l1_1.length : Int) := Qg
           obtain ⟨ad270, e270, hx270_0⟩ := Kd.at_int (Kd.R_reads' HO1_1.out).2.2 (ji80) p270 q270
           obtain rfl : ad269 = ad270 := (by injection e270)
           replace p270 := eq_true p270
           replace q270 := eq_true q270
           refine start_ (n := 23) (S := fun w' => w'.cell? ⟨gb243, 0, none⟩ = some (.int .i64 (wrap64 (a1_0 + 1))) ∧ w'.cell? ⟨gb243, 1, none⟩ = some (.slice (some ad269) l1_1.length co86) ∧ w'.cell? ⟨gb243, 2, none⟩ = some (.slice Ao87 l1_2.length co87) ∧ w'.cell? (ad269.add ((ji76)).toNat) = some (.int .i64 (rd l1_1 (ji76))) ∧ w'.cell? (ad269.add ((ji80)).toNat) = some (.int .i64 (rd l1_1 (ji80)))) (ds := [20, 22]) #[false, false, false, false, false, false, false, false, false, false, false, false, false, false, false, false, false, false, false, false, false, false, false] (by kernel_rfl) rfl rfl ⟨(blk_cell BK243.out 0).trans rfl, (blk_cell BK243.out 1).trans rfl, (blk_cell BK243.out 2).trans rfl, hx269_0, hx270_0⟩ (fun hHeld => ?_); refine with_tabW spec_l7Change.tab11 spec_l7Change.bits11 (fun HT_ HW_ => ?_)
           generalize w95.drew = w96 at HO1_1 HO1_2 BK242 BK243 BK244 HK HB HO268 hx269_0 hx270_0 hHeld ⊢
           refine Qq 0 (some 75) ?_
           refine Qq 2 (some 77) ?_
           refine Qq 3 (some 78) ?_
           refine Qq 5 (some 80) ?_
           refine Qq 7 (some 82) ?_
           refine Qq 8 (some 83) ?_
           refine Qq 11 (some 86) ?_
           refine Qq 13 (some 88) ?_
           refine Qq 14 (some 89) ?_
           refine Qr 1 (some 76) hHeld ?_
           refine Qq 4 (some 79) ?_
           refine Qr 6 (some 81) hHeld ?_
           refine Qq 9 (some 84) ?_
           refine Qr 10 (some 85) hHeld ?_
           refine Qr 12 (some 87) hHeld ?_
           refine Qq 15 (some 90) ?_
           refine Qr 16 (some 91) hHeld ?_
           refine Qq 17 (some 92) ?_
           refine Qs 18 (some 93) (fun K hK => ?_)
           refine goes_ Try.func68 (by kernel_rfl) rfl #[.int .i64 (wrap64 ((rd l1_1 (ji76)) * (rd l1_1 (ji80))))] (by rfl) rfl rfl (by (try simp only [List.map_toArray, List.map_cons, List.map_nil]); first | done | (simp only [hji76, hji80]; rfl) | rfl | (simp only [List.length_drop, List.length_take]; rfl)) ?_
           with_reducible refine (spec_WrapCell.calls (wrap64 ((rd l1_1 (ji76)) * (rd l1_1 (ji80)))) t271 _ A83.out).mono ?_
           rintro e w' ⟨rfl, ⟨nd, rfl⟩⟩
           refine ⟨_, rfl, ?_⟩
           refine hK.out _ _ ⟨(blk_cell BK243.out 0).trans rfl, (blk_cell BK243.out 1).trans rfl, (blk_cell BK243.out 2).trans rfl, hHeld.2.2.2.1, hHeld.2.2.2.2⟩ (fun hHeld => ?_)
           clear hK K
           refine norm_ (a' := ?_) ?_ ?_
           rotate_left
           ·show Act.put _ (some 93) _ = _
            simp only [Act.put, List.setIfInBounds_toArray, List.set_cons_zero, List.set_cons_succ, i64_w, i32_w]
            rfl
           refine Qs 19 (some 94) (fun K hK => ?_)
           refine value_ (w1 := ?_) (v := ?_) (by rfl) rfl ?_ ?_
           rotate_left 2
           ·go_simp
            constructor
            ·rfl
            ·rfl
           refine hK.out _ _ ⟨(blk_cell (blk_alloc BK243.out _) 0).trans rfl, (blk_cell (blk_alloc BK243.out _) 1).trans rfl, (blk_cell (blk_alloc BK243.out _) 2).trans rfl, (World.cell?_alloc_lt _ _ _ (World.block_lt_of_cell? _ _ (hHeld.2.2.2.1))).trans (hHeld.2.2.2.1), (World.cell?_alloc_lt _ _ _ (World.block_lt_of_cell? _ _ (hHeld.2.2.2.2))).trans (hHeld.2.2.2.2)⟩ (fun hHeld => ?_)
           clear hK K
           refine norm_ (a' := ?_) ?_ ?_
           rotate_left
           ·show Act.put _ (some 94) _ = _
            simp only [Act.put, List.setIfInBounds_toArray, List.set_cons_zero, List.set_cons_succ, i64_w, i32_w]
            rfl
           refine Qt 20 (some 95) (fun K hK => ?_)
           refine Kd.R_append_step (Kd.int .i64) (w0 := w0) w0.heap.size (by rfl) (.tmp 79) (.tmp 94) 23 3 (.int .i64 0) 8 rfl Try.underlying23 info3 rfl (by decide) (by omega) (.slice (some ad269) y266.length co86) y266 t271 [.int .i64 t271] (fun k_ => ((P1_1_ k_ ∨ P1_2_ k_) ∨ w.heap.size ≤ k_) ∧ some k_ ≠ (.slice Ao87 l1_2.length co87 : Value).ownBlock) (fun _ => False) rfl rfl ?aP (fun _ hk => hk.elim) ?aF ?aO ?aB ?aS ?aL ?_
           (case aP => exact rfl)
           (case aB => exact (Qb HB.out))
           (case aF => exact (fun k_ hk => ⟨(.inr (Nat.le_trans (Qo HK.out) hk)), Kd.fresh' (Kd.R_lt (Qc HO1_2.out)) k_ hk⟩))
           (case aO => exact (Qc HO268.out))
           (case aS => exact (below_size (Qb HB.out)))
           (case aL => have := LMc84.out; omega)
           intro v273 w98 ho hb hg hat
           rw [← Ny272.out] at ho
           have n0_ := Ak (Kd.R_after (ok := (fun k_ => ((P1_1_ k_ ∨ P1_2_ k_) ∨ w.heap.size ≤ k_))) (Qc HO1_2.out) hg hat)
           have n1_ := Ak (blk_grown (g := gb242) (o := .cells #[.int .i64 a0_0, .int .i64 a0_1, .int .i64 a0_2, .int .i64 a0_3] 48 (0, 0)) (Qa BK242.out) hg (Kd.R_ne HO268.out BK242.out (by decide)))
           have n2_ := Ak (blk_grown (g := gb243) (o := .cells #[.int .i64 (wrap64 (a1_0 + 1)), .slice (some ad269) l1_1.length co86, .slice Ao87 l1_2.length co87] 28 (0, 0)) (Qa BK243.out) hg (Kd.R_ne HO268.out BK243.out (by decide)))
           have n3_ := Ak (blk_grown (g := gb244) (o := .cells #[.int .i64 0, .slice none 0 0, .slice none 0 0] 28 (0, 0)) (Qa BK244.out) hg (Kd.R_ne HO268.out BK244.out (by decide)))
           have n4_ := Ak (hb)
           have n5_ := Ak (Kept.of_grown (S := (fun k_ => P1_1_ k_ ∨ P1_2_ k_)) hg (Qd HK.out) (fun k_ e_ => (HO268.out.1 k_ e_).1))
           have n6_ := Ak (ho)
           clear HO1_2 BK242 BK243 BK244 HB HK HO268
           have HO1_2 := n0_
           have BK242 := n1_
           have BK243 := n2_
           have BK244 := n3_
           have HB := n4_
           have HK := n5_
           have HO274 := n6_
           clear n0_ n1_ n2_ n3_ n4_ n5_ n6_
           clear ho hb hg hat
           obtain ⟨Ao99, co99, eo99⟩ := Kd.R_slice HO274.out
           (first | subst eo99 | (injection eo99 with f1_ f2_ f3_; have f4_ := f1_.symm; have f5_ := f3_.symm; clear f1_ f2_ f3_; subst f4_; subst f5_))
           refine hK.out _ _ ?_
           clear hK K
           refine norm_ (a' := ?_) ?_ ?_
           rotate_left
           ·show Act.put _ (some 95) _ = _
            simp only [Act.put, List.setIfInBounds_toArray, List.set_cons_zero, List.set_cons_succ, i64_w, i32_w]
            rfl
           refine Qq 21 (some 96) ?_
           refine Qt 22 none (fun K hK => ?_)
           have hs100 : w98.cell? ⟨gb243, 1, none⟩ = some (.slice (some ad269) l1_1.length co86) := (blk_cell BK243.out 1).trans rfl
           have hfs100 := blk_frozen BK243.out 1
           have hns100_0 := NB242_243.out
           have hns100_2 := NB244_243.out
           have hms100_0 := NB243_242.out
           have hms100_2 := NB243_244.out
           refine skip_ (w1 := ?_) (by rfl) rfl ?_ ?_
           rotate_left
           ·go_simp
            rfl
           refine hK.out _ _ ?_
           clear hK K
           refine done_ (done_of HT_.out (by kernel_rfl)) ?_
           obtain ⟨hcz101_0, hcz101_1, hcz101_2, hfz101_0, hfz101_1, hfz101_2⟩ := Qv3 BK243.out
           obtain ⟨hcz102_0, hcz102_1, hcz102_2, hfz102_0, hfz102_1, hfz102_2⟩ := Qv3 BK244.out
           try go_wp2
           refine bodyPost_ret (results_cell_row rfl _ _ gb244 28 #[.int .i64 (wrap64 (a1_0 + 1)), .slice Ao99 y272.length co99, .slice Ao87 l1_2.length co87] (0, 0) _ rfl (by refine Qe ?_; refine blk_put (cs := #[.int .i64 (wrap64 (a1_0 + 1)), .slice Ao99 y272.length co99, .slice none 0 0]) ?_ 2 _ rfl; refine Qe ?_; refine blk_put (cs := #[.int .i64 (wrap64 (a1_0 + 1)), .slice none 0 0, .slice none 0 0]) ?_ 1 _ rfl; refine Qe ?_; refine blk_put (cs := #[.int .i64 0, .slice none 0 0, .slice none 0 0]) ?_ 0 _ rfl; refine Qe ?_; refine blk_far ?_ NB244_243.out _; exact Qa BK244.out) Try.underlying28 rfl (by kernel_rfl)) rfl ?_
           exact ⟨_, _, by first | rfl | (simp [errW_none, errW_some] <;> rfl) | (simp only [← hji76, ← hji80]; first | rfl | (simp [errW_none, errW_some] <;> rfl)) | (simp [*, errW_none, errW_some] <;> rfl), by refine Qf ?_; exact Kd.R_mono (Kd.R_far (p := ⟨gb244, 2, none⟩) (Kd.R_far (p := ⟨gb244, 1, none⟩) (Kd.R_far (p := ⟨gb244, 0, none⟩) (Kd.R_far (p := ⟨gb243, 1, none⟩) (Kd.R_types (Kd.R_types HO274.out BK243.out (by decide)) BK244.out (by decide)) (fun _ hk => hk.1.2) (.slice Ao99 y272.length co99)) (fun _ hk => hk.2) (.int .i64 (wrap64 (a1_0 + 1)))) (fun _ hk => hk.2) (.slice Ao99 y272.length co99)) (fun _ hk => hk.2) (.slice Ao87 l1_2.length co87)) (fun _ hk => by first | exact ⟨hk.1.1.1, hk.1.1.2⟩ | exact ⟨hk.1.1.1, fun e_ => hk.1.1.2 (e_.trans (ownlen_ _ _ _ _ _))⟩), by refine Qf ?_; exact Kd.R_mono (Kd.R_far (p := ⟨gb244, 2, none⟩) (Kd.R_far (p := ⟨gb244, 1, none⟩) (Kd.R_far (p := ⟨gb244, 0, none⟩) (Kd.R_far (p := ⟨gb243, 1, none⟩) (Kd.R_types (Kd.R_types HO1_2.out BK243.out (by decide)) BK244.out (by decide)) (fun _ hk => hk.1.2) (.slice Ao99 y272.length co99)) (fun _ hk => hk.2) (.int .i64 (wrap64 (a1_0 + 1)))) (fun _ hk => hk.2) (.slice Ao99 y272.length co99)) (fun _ hk => hk.2) (.slice Ao87 l1_2.length co87)) (fun _ hk => by first | exact ⟨hk.1.1.1, hk.1.1.2⟩ | exact ⟨hk.1.1.1, fun e_ => hk.1.1.2 (e_.trans (ownlen_ _ _ _ _ _))⟩), Qb HB.out, Qd HK.out⟩
          ·rw [if_neg c84] at H
           exact absurd H (by simp)
         ·rw [if_neg c82] at H
          exact absurd H (by simp)
        ·rw [if_neg c81] at H
         exact absurd H (by simp)
       ·rw [if_neg c79] at H
        exact absurd H (by simp)
      ·rw [if_neg c78] at H
       exact absurd H (by simp)
     ·rw [if_neg c77] at H
      exact absurd H (by simp)
    ·rw [if_neg c75] at H
     have c75b0 : (a0_0 == 4) = false := beq_eq_false_iff_ne.mpr c75
     have c75b1 : (a0_0 != 4) = true := bne_iff_ne.mpr c75
     exact spec_l7Change.calls_5 k a0_0 a0_1 a0_2 a0_3 a1_0 P1_1_ u9000_ l1_1 P1_2_ u9001_ l1_2 r1 r2 r3 w0 w HB.out ho1_1 hp1_1_1_2 ho1_2 hp1_2_1_1 c3 c19 c47 c75 H
end Go.Proofs.Ytlmiankjbffboaa.HFnExactRunMachine


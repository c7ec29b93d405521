/- Text for FnExactRunMachine: written by a program of this session on the pattern of the kit's print. -/
import Derived.Test.YtlmiankjbffboaaHFnExactRunMachinexs7p3
import Derived.Test.YtlmiankjbffboaaHFnExactRunMachinex0
import Derived.Test.YtlmiankjbffboaaHFnExactRunMachinex5
import Derived.Test.YtlmiankjbffboaaHFnExactRunMachinex6
namespace Go.Proofs.Ytlmiankjbffboaa.HFnExactRunMachine
open Go.RowKit Go.Proofs.YtlmiankjbffboaaW.PrintWords Go.Proofs.YtlmiankjbffboaaW.PrintLast Go.Proofs.YtlmiankjbffboaaW.PrintMore
attribute [local go_sem] max2_int min2_int max_two min_two max_three min_three max_four min_four
set_option linter.unusedVariables false
set_option linter.unusedSimpArgs false

/-! ### part of spec_l7Change -/
set_option maxHeartbeats 8000000 in
set_option maxRecDepth 100000 in
theorem spec_l7Change.calls_8 (k : Nat) (a0_0 : Int) (a0_1 : Int) (a0_2 : Int) (a0_3 : Int) (a1_0 : Int) (P1_1_ : Nat → Prop) (u9000_ : Value) (l1_1 : List Int) (P1_2_ : Nat → Prop) (u9001_ : Value) (l1_2 : List Int) (r1 : Int) (r2 : List Int) (r3 : List Int) (w0 w : World) (hB : Below w0.heap.size w0 w) (ho1_1 : Kd.R (Kd.int .i64) 3 w w0.heap.size P1_1_ u9000_ l1_1) (hp1_1_1_2 : ∀ k_, P1_1_ k_ → ¬ P1_2_ k_) (ho1_2 : Kd.R (Kd.int .i64) 3 w w0.heap.size P1_2_ u9001_ l1_2) (hp1_2_1_1 : ∀ k_, P1_2_ k_ → ¬ P1_1_ k_) (c3 : ¬ a0_0 = 1) (c19 : ¬ a0_0 = 2) (c47 : ¬ a0_0 = 3) (c75 : ¬ a0_0 = 4) (c103 : ¬ a0_0 = 5) (c124 : ¬ a0_0 = 6) (c147 : ¬ a0_0 = 7) (h : (if a0_0 = 8 then (if 0 ≤ (wrap64 ((l1_1.length : Int) - 1)) then (if (wrap64 ((l1_1.length : Int) - 1)) < (l1_1.length : Int) then (if 0 ≤ (wrap64 ((l1_1.length : Int) - 2)) then (if (wrap64 ((l1_1.length : Int) - 2)) < (l1_1.length : Int) then (some (wrap64 (a1_0 + 1), ((l1_1.set ((wrap64 ((l1_1.length : Int) - 1)) : Int).toNat (rd l1_1 (wrap64 ((l1_1.length : Int) - 2)))).set ((wrap64 ((l1_1.length : Int) - 2)) : Int).toNat (rd l1_1 (wrap64 ((l1_1.length : Int) - 1)))), l1_2)) else (none)) else (none)) else (none)) else (none)) else (if a0_0 = 9 then (if 0 ≤ (wrap64 ((l1_1.length : Int) - 1)) then (if (wrap64 ((l1_1.length : Int) - 1)) ≤ (l1_1.length : Int) then (some (wrap64 (a1_0 + 1), (l1_1.take ((wrap64 ((l1_1.length : Int) - 1)) : Int).toNat), l1_2)) else (none)) else (none)) else (if a0_0 = 10 then (if 0 ≤ (wrap64 ((l1_1.length : Int) - 1)) then (if (wrap64 ((l1_1.length : Int) - 1)) < (l1_1.length : Int) then ((spec_l7Shift.f k (rd l1_1 (wrap64 ((l1_1.length : Int) - 1))) a0_1).bind fun t292 => (some (wrap64 (a1_0 + 1), (l1_1.set ((wrap64 ((l1_1.length : Int) - 1)) : Int).toNat t292), l1_2))) else (none)) else (none)) else (if a0_0 = 11 then (if 0 ≤ (wrap64 ((l1_1.length : Int) - 1)) then (if (wrap64 ((l1_1.length : Int) - 1)) < (l1_1.length : Int) then (if 0 ≤ (wrap64 ((rd l1_1 (wrap64 ((l1_1.length : Int) - 1))) + 13)) then (if (wrap64 ((rd l1_1 (wrap64 ((l1_1.length : Int) - 1))) + 13)) < (l1_2.length : Int) then (some (wrap64 (a1_0 + 1), (l1_1.set ((wrap64 ((l1_1.length : Int) - 1)) : Int).toNat (rd l1_2 (wrap64 ((rd l1_1 (wrap64 ((l1_1.length : Int) - 1))) + 13)))), l1_2)) else (none)) else (none)) else (none)) else (none)) else (if a0_0 = 12 then (if 0 ≤ (wrap64 ((l1_1.length : Int) - 1)) then (if (wrap64 ((l1_1.length : Int) - 1)) < (l1_1.length : Int) then (if 0 ≤ (wrap64 ((l1_1.length : Int) - 2)) then (if (wrap64 ((l1_1.length : Int) - 2)) < (l1_1.length : Int) then (if 0 ≤ (wrap64 ((rd l1_1 (wrap64 ((l1_1.length : Int) - 1))) + 13)) then (if (wrap64 ((rd l1_1 (wrap64 ((l1_1.length : Int) - 1))) + 13)) < (l1_2.length : Int) then (if (wrap64 ((l1_1.length : Int) - 2)) ≤ (l1_1.length : Int) then (some (wrap64 (a1_0 + 1), (l1_1.take ((wrap64 ((l1_1.length : Int) - 2)) : Int).toNat), (l1_2.set ((wrap64 ((rd l1_1 (wrap64 ((l1_1.length : Int) - 1))) + 13)) : Int).toNat (rd l1_1 (wrap64 ((l1_1.length : Int) - 2)))))) else (none)) else (none)) else (none)) else (none)) else (none)) else (none)) else (none)) else (if a0_0 = 13 then (some (a0_1, l1_1, l1_2)) else (if a0_0 = 14 then ((some (([a0_1, a0_2, a0_3] : List Int) : List Int)).bind fun y303 => (if 0 ≤ (wrap64 ((l1_1.length : Int) - 1)) then (if (wrap64 ((l1_1.length : Int) - 1)) < (l1_1.length : Int) then ((spec_SignOf.f (rd l1_1 (wrap64 ((l1_1.length : Int) - 1)))).bind fun t307 => (if 0 ≤ (wrap64 (t307 + 1)) then (if (wrap64 (t307 + 1)) < (y303.length : Int) then (if (wrap64 ((l1_1.length : Int) - 1)) ≤ (l1_1.length : Int) then (some (rd y303 (wrap64 (t307 + 1)), (l1_1.take ((wrap64 ((l1_1.length : Int) - 1)) : Int).toNat), l1_2)) else (none)) else (none)) else (none))) else (none)) else (none))) else (some (wrap64 (a1_0 + 1), l1_1, l1_2))))))))) = some (r1, r2, r3)) :
  Calls Try.prog 38 #[.agg #[.int .i64 a0_0, .int .i64 a0_1, .int .i64 a0_2, .int .i64 a0_3], .agg #[.int .i64 a1_0, u9000_, u9001_]] w fun e w' => ∃ v1_ v2_ : Value, e = .returned (.agg #[.int .i64 r1, v1_, v2_]) ∧ Kd.R (Kd.int .i64) 3 w' w0.heap.size (fun k_ => ((P1_1_ k_ ∨ P1_2_ k_) ∨ w.heap.size ≤ k_) ∧ some k_ ≠ (v2_ : Value).ownBlock) v1_ r2 ∧ Kd.R (Kd.int .i64) 3 w' w0.heap.size (fun k_ => ((P1_1_ k_ ∨ P1_2_ k_) ∨ w.heap.size ≤ k_) ∧ some k_ ≠ (v1_ : Value).ownBlock) v2_ r3 ∧ Below w0.heap.size w0 w' ∧ Kept w w' (fun k_ => P1_1_ k_ ∨ P1_2_ k_) := by
 have hu48 := Try.underlying48
 have hu28 := Try.underlying28
 have HO1_1 := Ak (show Kd.R (Kd.int .i64) 3 w w0.heap.size (fun k_ => ((P1_1_ k_ ∨ P1_2_ k_) ∨ w.heap.size ≤ k_) ∧ some k_ ≠ (u9001_ : Value).ownBlock) u9000_ l1_1 from Kd.R_mono ho1_1 (fun k_ hk => ⟨(.inl (.inl hk)), fun e_ => hp1_1_1_2 k_ hk (ho1_2.1 k_ e_.symm)⟩))
 have HO1_2 := Ak (show Kd.R (Kd.int .i64) 3 w w0.heap.size (fun k_ => ((P1_1_ k_ ∨ P1_2_ k_) ∨ w.heap.size ≤ k_) ∧ some k_ ≠ (u9000_ : Value).ownBlock) u9001_ l1_2 from Kd.R_mono ho1_2 (fun k_ hk => ⟨(.inl (.inr hk)), fun e_ => hp1_2_1_1 k_ hk (ho1_1.1 k_ e_.symm)⟩))
 have HK := Ak (Kept.refl w (fun k_ => P1_1_ k_ ∨ P1_2_ k_))
 have HW0 := Ak hB.size
 have HB := Ak hB
 clear hB
 have H := h
 clear h
 have c3b0 : (a0_0 == 1) = false := beq_eq_false_iff_ne.mpr c3
 have c3b1 : (a0_0 != 1) = true := bne_iff_ne.mpr c3
 have c19b0 : (a0_0 == 2) = false := beq_eq_false_iff_ne.mpr c19
 have c19b1 : (a0_0 != 2) = true := bne_iff_ne.mpr c19
 have c47b0 : (a0_0 == 3) = false := beq_eq_false_iff_ne.mpr c47
 have c47b1 : (a0_0 != 3) = true := bne_iff_ne.mpr c47
 have c75b0 : (a0_0 == 4) = false := beq_eq_false_iff_ne.mpr c75
 have c75b1 : (a0_0 != 4) = true := bne_iff_ne.mpr c75
 have c103b0 : (a0_0 == 5) = false := beq_eq_false_iff_ne.mpr c103
 have c103b1 : (a0_0 != 5) = true := bne_iff_ne.mpr c103
 have c124b0 : (a0_0 == 6) = false := beq_eq_false_iff_ne.mpr c124
 have c124b1 : (a0_0 != 6) = true := bne_iff_ne.mpr c124
 have c147b0 : (a0_0 == 7) = false := beq_eq_false_iff_ne.mpr c147
 have c147b1 : (a0_0 != 7) = true := bne_iff_ne.mpr c147
 by_cases c169 : a0_0 = 8
 ·rw [if_pos c169] at H
  have c169b0 : (a0_0 == 8) = true := beq_iff_eq.mpr c169
  have c169b1 : (a0_0 != 8) = false := bne_eq_false_iff_eq.mpr c169
  clear c169
  obtain ⟨ji170, hji170⟩ : ∃ j_ : Int, (wrap64 ((l1_1.length : Int) - 1)) = j_ := ⟨_, rfl⟩
  replace H : (if 0 ≤ (ji170) then (if (ji170) < (l1_1.length : Int) then (if 0 ≤ (wrap64 ((l1_1.length : Int) - 2)) then (if (wrap64 ((l1_1.length : Int) - 2)) < (l1_1.length : Int) then (some (wrap64 (a1_0 + 1), ((l1_1.set ((ji170) : Int).toNat (rd l1_1 (wrap64 ((l1_1.length : Int) - 2)))).set ((wrap64 ((l1_1.length : Int) - 2)) : Int).toNat (rd l1_1 (ji170))), l1_2)) else (none)) else (none)) else (none)) else (none)) = some (r1, r2, r3) := by first | (rw [hji170] at H; exact H) | (simp only [hji170] at H ⊢; exact H)
  have hji170w : (IntKind.i64.wrap ((l1_1.length : Int) - 1)) = ji170 := (i64_w _).trans hji170
  by_cases c171 : 0 ≤ (ji170)
  ·rw [if_pos c171] at H
   have c171b0 : decide (0 ≤ (ji170)) = true := decide_eq_true c171
   clear c171
   by_cases c172 : (ji170) < (l1_1.length : Int)
   ·rw [if_pos c172] at H
    have c172b0 : decide ((ji170) < (l1_1.length : Int)) = true := decide_eq_true c172
    clear c172
    obtain ⟨ji173, hji173⟩ : ∃ j_ : Int, (wrap64 ((l1_1.length : Int) - 2)) = j_ := ⟨_, rfl⟩
    replace H : (if 0 ≤ (ji173) then (if (ji173) < (l1_1.length : Int) then (some (wrap64 (a1_0 + 1), ((l1_1.set ((ji170) : Int).toNat (rd l1_1 (ji173))).set ((ji173) : Int).toNat (rd l1_1 (ji170))), l1_2)) else (none)) else (none)) = some (r1, r2, r3) := by first | (rw [hji173] at H; exact H) | (simp only [hji173] at H ⊢; exact H)
    have hji173w : (IntKind.i64.wrap ((l1_1.length : Int) - 2)) = ji173 := (i64_w _).trans hji173
    by_cases c174 : 0 ≤ (ji173)
    ·rw [if_pos c174] at H
     have c174b0 : decide (0 ≤ (ji173)) = true := decide_eq_true c174
     clear c174
     by_cases c175 : (ji173) < (l1_1.length : Int)
     ·rw [if_pos c175] at H
      have c175b0 : decide ((ji173) < (l1_1.length : Int)) = true := decide_eq_true c175
      clear c175
      obtain ⟨y286, hy286⟩ : ∃ y_ : List Int, y_ = (l1_1.set ((ji170) : Int).toNat (rd l1_1 (ji173))) := ⟨_, rfl⟩
      replace H : (some (wrap64 (a1_0 + 1), (y286.set ((ji173) : Int).toNat (rd l1_1 (ji170))), l1_2)) = some (r1, r2, r3) := by first | (rw [hy286]; with_reducible exact H) | (have H2_ := (Option.bind_some _ _).symm.trans H; rw [hy286]; with_reducible exact H2_) | (have H2_ := (Option.bind_some _ _).symm.trans H; with_reducible exact H2_) | with_reducible exact H | (rw [hy286]; exact H) | exact H
      have Ny286 := Ak hy286
      clear hy286
      obtain ⟨y287, hy287⟩ : ∃ y_ : List Int, y_ = (y286.set ((ji173) : Int).toNat (rd l1_1 (ji170))) := ⟨_, rfl⟩
      replace H : (some (wrap64 (a1_0 + 1), y287, l1_2)) = some (r1, r2, r3) := by first | (rw [hy287]; with_reducible exact H) | (have H2_ := (Option.bind_some _ _).symm.trans H; rw [hy287]; with_reducible exact H2_) | (have H2_ := (Option.bind_some _ _).symm.trans H; with_reducible exact H2_) | with_reducible exact H | (rw [hy287]; exact H) | exact H
      have Ny287 := Ak hy287
      clear hy287
      simp only [Option.some.injEq, Prod.mk.injEq] at H
      obtain ⟨rfl, rfl, rfl⟩ := H
      go_enter Try.func38, Try.ntmps38
      try go_wp2_with (first | ((with_reducible refine gate_dst (N := 2) rfl ?_); refine Qk 2 #[.int .i64 a0_0, .int .i64 a0_1, .int .i64 a0_2, .int .i64 a0_3] 48 ?_; intro gb242 hg w178 hbox hb; have n0_ := Ak (Kd.R_below (Qc HO1_1.out) hb); have n1_ := Ak (Kd.R_below (Qc HO1_2.out) hb); have n2_ := Ak (Kept.below (S := (fun k_ => P1_1_ k_ ∨ P1_2_ k_)) (Qd HK.out) hb); have n3_ := Ak (below_step (Qb HB.out) hb); have n4_ := Ak (hbox); have n5_ := Ak ((by rw [hg]; exact (Qo HK.out) : w.heap.size ≤ gb242)); have n6_ := Ak ((Qp hg HB.out : w0.heap.size ≤ gb242)); clear HO1_1 HO1_2 HK HB; have HO1_1 := n0_; have HO1_2 := n1_; have HK := n2_; have HB := n3_; have BK242 := n4_; have GW242 := n5_; have GE242 := n6_; clear n0_ n1_ n2_ n3_ n4_ n5_ n6_; clear hb hbox hg; obtain ⟨Ao179, co179, eo179⟩ := Kd.R_slice HO1_1.out; subst eo179; obtain ⟨Ao180, co180, eo180⟩ := Kd.R_slice HO1_2.out; subst eo180) | ((with_reducible refine gate_dst (N := 3) rfl ?_); refine Qk 3 #[.int .i64 a1_0, .slice Ao179 l1_1.length co179, .slice Ao180 l1_2.length co180] 28 ?_; intro gb243 hg w181 hbox hb; have n0_ := Ak (Kd.R_below (Qc HO1_1.out) hb); have n1_ := Ak (Kd.R_below (Qc HO1_2.out) hb); have n2_ := Ak (Qm BK242.out hb); have n3_ := Ak (Kept.below (S := (fun k_ => P1_1_ k_ ∨ P1_2_ k_)) (Qd HK.out) hb); have n4_ := Ak (below_step (Qb HB.out) hb); have n5_ := Ak (hbox); have n6_ := Ak ((by rw [hg]; exact (Qo HK.out) : w.heap.size ≤ gb243)); have n7_ := Ak ((Qp hg HB.out : w0.heap.size ≤ gb243)); have n8_ := Ak ((by rw [hg]; exact Nat.ne_of_lt (Qn BK242.out) : gb242 ≠ gb243)); have n9_ := Ak ((by rw [hg]; exact Nat.ne_of_gt (Qn BK242.out) : gb243 ≠ gb242)); clear HO1_1 HO1_2 BK242 HK HB; have HO1_1 := n0_; have HO1_2 := n1_; have BK242 := n2_; have HK := n3_; have HB := n4_; have BK243 := n5_; have GW243 := n6_; have GE243 := n7_; have NB242_243 := n8_; have NB243_242 := n9_; clear n0_ n1_ n2_ n3_ n4_ n5_ n6_ n7_ n8_ n9_; clear hb hbox hg) | ((with_reducible refine gate_dst (N := 4) rfl ?_); refine Qk 4 #[.int .i64 0, .slice none 0 0, .slice none 0 0] 28 ?_; intro gb244 hg w182 hbox hb; have n0_ := Ak (Kd.R_below (Qc HO1_1.out) hb); have n1_ := Ak (Kd.R_below (Qc HO1_2.out) hb); have n2_ := Ak (Qm BK242.out hb); have n3_ := Ak (Qm BK243.out hb); have n4_ := Ak (Kept.below (S := (fun k_ => P1_1_ k_ ∨ P1_2_ k_)) (Qd HK.out) hb); have n5_ := Ak (below_step (Qb HB.out) hb); have n6_ := Ak (hbox); have n7_ := Ak ((by rw [hg]; exact (Qo HK.out) : w.heap.size ≤ gb244)); have n8_ := Ak ((Qp hg HB.out : w0.heap.size ≤ gb244)); have n9_ := Ak ((by rw [hg]; exact Nat.ne_of_lt (Qn BK242.out) : gb242 ≠ gb244)); have n10_ := Ak ((by rw [hg]; exact Nat.ne_of_gt (Qn BK242.out) : gb244 ≠ gb242)); have n11_ := Ak ((by rw [hg]; exact Nat.ne_of_lt (Qn BK243.out) : gb243 ≠ gb244)); have n12_ := Ak ((by rw [hg]; exact Nat.ne_of_gt (Qn BK243.out) : gb244 ≠ gb243)); clear HO1_1 HO1_2 BK242 BK243 HK HB; have HO1_1 := n0_; have HO1_2 := n1_; have BK242 := n2_; have BK243 := n3_; have HK := n4_; have HB := n5_; have BK244 := n6_; have GW244 := n7_; have GE244 := n8_; have NB242_244 := n9_; have NB244_242 := n10_; have NB243_244 := n11_; have NB244_243 := n12_; clear n0_ n1_ n2_ n3_ n4_ n5_ n6_ n7_ n8_ n9_ n10_ n11_ n12_; clear hb hbox hg; have hnb183 := NB243_242.out; have hnc183 := NB242_243.out; have hnb184 := NB243_244.out; have hnc184 := NB244_243.out; obtain ⟨hcz185_0, hcz185_1, hcz185_2, hfz185_0, hfz185_1, hfz185_2⟩ := Qv3 BK243.out; have hnb186 := NB242_244.out; have hnc186 := NB244_242.out; obtain ⟨hcz187_0, hcz187_1, hcz187_2, hcz187_3, hfz187_0, hfz187_1, hfz187_2, hfz187_3⟩ := Qv4 BK242.out; have p284 : 0 ≤ ((ji170) : Int) := Qg; have q284 : (ji170) < (l1_1.length : Int) := Qg; obtain ⟨ad284, e284, hx284_0⟩ := Kd.at_int (Kd.R_reads' HO1_1.out).2.2 (ji170) p284 q284; cases e284; have hn284_0 : ad284.block ≠ gb243 := Kd.own_blk (Kd.R_ne HO1_1.out BK243.out (by decide)); replace hx284_0 := (cell_far (p := ⟨gb243, 0, none⟩) (by first | (rw [add_block]; exact hn284_0) | (show (Addr.add _ _).block ≠ _; rw [add_block]; exact hn284_0) | exact hn284_0) (.int .i64 (wrap64 (a1_0 + 1)))).trans hx284_0; clear hn284_0; replace p284 := eq_true p284; replace q284 := eq_true q284))
      have n0_ : Aside0 (Kd.R (Kd.int .i64) 3 (w182.setCell ⟨gb243, 0, none⟩ (.int .i64 (wrap64 (a1_0 + 1)))) w0.heap.size (fun k_ => ((P1_1_ k_ ∨ P1_2_ k_) ∨ w.heap.size ≤ k_) ∧ some k_ ≠ (.slice Ao180 l1_2.length co180 : Value).ownBlock) (.slice (some ad284) l1_1.length co179) l1_1) := ⟨by refine Qf ?_; exact Kd.R_mono (Kd.R_far (p := ⟨gb243, 0, none⟩) (Kd.R_types HO1_1.out BK243.out (by decide)) (fun _ hk => hk.2) (.int .i64 (wrap64 (a1_0 + 1)))) (fun _ hk => ⟨hk.1.1, hk.1.2⟩)⟩
      have n1_ : Aside0 (Kd.R (Kd.int .i64) 3 (w182.setCell ⟨gb243, 0, none⟩ (.int .i64 (wrap64 (a1_0 + 1)))) w0.heap.size (fun k_ => ((P1_1_ k_ ∨ P1_2_ k_) ∨ w.heap.size ≤ k_) ∧ some k_ ≠ (.slice (some ad284) l1_1.length co179 : Value).ownBlock) (.slice Ao180 l1_2.length co180) l1_2) := ⟨by refine Qf ?_; exact Kd.R_mono (Kd.R_far (p := ⟨gb243, 0, none⟩) (Kd.R_types HO1_2.out BK243.out (by decide)) (fun _ hk => hk.2) (.int .i64 (wrap64 (a1_0 + 1)))) (fun _ hk => ⟨hk.1.1, hk.1.2⟩)⟩
      have n2_ : Aside0 ((w182.setCell ⟨gb243, 0, none⟩ (.int .i64 (wrap64 (a1_0 + 1)))).heap[gb242]? = some (.cells #[.int .i64 a0_0, .int .i64 a0_1, .int .i64 a0_2, .int .i64 a0_3] 48 (0, 0))) := ⟨by refine Qe ?_; refine blk_far ?_ NB242_243.out _; refine Qe ?_; exact BK242.out⟩
      have n3_ : Aside0 ((w182.setCell ⟨gb243, 0, none⟩ (.int .i64 (wrap64 (a1_0 + 1)))).heap[gb243]? = some (.cells #[.int .i64 (wrap64 (a1_0 + 1)), .slice (some ad284) l1_1.length co179, .slice Ao180 l1_2.length co180] 28 (0, 0))) := ⟨by refine Qe ?_; refine blk_put (cs := #[.int .i64 a1_0, .slice (some ad284) l1_1.length co179, .slice Ao180 l1_2.length co180]) ?_ 0 _ rfl; refine Qe ?_; exact BK243.out⟩
      have n4_ : Aside0 ((w182.setCell ⟨gb243, 0, none⟩ (.int .i64 (wrap64 (a1_0 + 1)))).heap[gb244]? = some (.cells #[.int .i64 0, .slice none 0 0, .slice none 0 0] 28 (0, 0))) := ⟨by refine Qe ?_; refine blk_far ?_ NB244_243.out _; refine Qe ?_; exact BK244.out⟩
      have n5_ : Aside0 (Kept w (w182.setCell ⟨gb243, 0, none⟩ (.int .i64 (wrap64 (a1_0 + 1)))) (fun k_ => P1_1_ k_ ∨ P1_2_ k_)) := ⟨Qd HK.out⟩
      have n6_ : Aside0 (Below w0.heap.size w0 (w182.setCell ⟨gb243, 0, none⟩ (.int .i64 (wrap64 (a1_0 + 1))))) := ⟨Qb HB.out⟩
      (try clear HO1_1); (try clear HO1_2); (try clear BK242); (try clear BK243); (try clear BK244); (try clear HK); (try clear HB)
      generalize (w182.setCell ⟨gb243, 0, none⟩ (.int .i64 (wrap64 (a1_0 + 1)))) = w188 at n0_ n1_ n2_ n3_ n4_ n5_ n6_ ⊢
      have HO1_1 := n0_
      have HO1_2 := n1_
      have BK242 := n2_
      have BK243 := n3_
      have BK244 := n4_
      have HK := n5_
      have HB := n6_
      clear n0_ n1_ n2_ n3_ n4_ n5_ n6_
      have n0_ := Ak (Kd.R_drew HO1_1.out)
      have n1_ := Ak (Kd.R_drew HO1_2.out)
      have n2_ := Ak (blk_drew BK242.out)
      have n3_ := Ak (blk_drew BK243.out)
      have n4_ := Ak (blk_drew BK244.out)
      have n5_ := Ak (Kept.drew HK.out)
      have n6_ := Ak (below_drew1 HB.out)
      clear HO1_1 HO1_2 BK242 BK243 BK244 HK HB
      have HO1_1 := n0_
      have HO1_2 := n1_
      have BK242 := n2_
      have BK243 := n3_
      have BK244 := n4_
      have HK := n5_
      have HB := n6_
      clear n0_ n1_ n2_ n3_ n4_ n5_ n6_
      have p285 : 0 ≤ ((ji173) : Int) := Qg
      have q285 : (ji173) < (l1_1.length : Int) := Qg
      obtain ⟨ad285, e285, hx285_0⟩ := Kd.at_int (Kd.R_reads' HO1_1.out).2.2 (ji173) p285 q285
      obtain rfl : ad284 = ad285 := (by injection e285)
      replace p285 := eq_true p285
      replace q285 := eq_true q285
      have p176 : 0 ≤ ((ji170) : Int) := Qg
      have q176 : ((ji170) : Int) < ((l1_1.length : Int) : Int) := Qg
      obtain ⟨go176, co176, eo176, gb176, gl176, cl176, HG176⟩ := Kd.R_form HO1_1.out (by omega)
      (first | cases eo176 | (injection eo176 with ea_ en_ ec_; (first | subst ea_ | (injection ea_ with ea_; subst ea_)); subst ec_; clear en_))
      have GB176 := Ak gb176
      have GG176 := Ak HG176
      clear gb176 gl176 HG176
      have HMgo176 := Ak (show ((P1_1_ go176 ∨ P1_2_ go176) ∨ w.heap.size ≤ go176) from (HO1_1.out.1 _ rfl).1)
      (first | simp only [add_plain] at hx284_0 | skip)
      (first | simp only [add_plain] at hx285_0 | skip)
      obtain ⟨hx176_0, hf176_0⟩ := Kd.R_celln 0 HO1_1.out ((ji170) : Int) p176 q176
      replace p176 := eq_true p176
      replace q176 := eq_true q176
      have HP190 := Kd.R_putn HO1_1.out ((ji170) : Int) (rd l1_1 (ji173))
      rw [← Ny286.out] at HP190
      have HQ190 := Ak HP190
      clear HP190
      refine start_ (n := 12) (S := fun w' => w'.cell? ⟨gb243, 0, none⟩ = some (.int .i64 (wrap64 (a1_0 + 1))) ∧ w'.cell? ⟨gb243, 1, none⟩ = some (.slice (some ⟨go176, 0, none⟩) l1_1.length co179) ∧ w'.cell? ⟨gb243, 2, none⟩ = some (.slice Ao180 l1_2.length co180) ∧ w'.cell? ⟨go176, ((ji173)).toNat, none⟩ = some (.int .i64 (rd l1_1 (ji173)))) (ds := [11]) #[false, false, false, false, false, false, false, false, false, false, false, false] (by kernel_rfl) rfl rfl ⟨(blk_cell BK243.out 0).trans rfl, (blk_cell BK243.out 1).trans rfl, (blk_cell BK243.out 2).trans rfl, hx285_0⟩ (fun hHeld => ?_); refine with_tabW spec_l7Change.tab20 spec_l7Change.bits20 (fun HT_ HW_ => ?_)
      generalize w188.drew = w189 at HO1_1 HO1_2 BK242 BK243 BK244 HK HB GG176 HQ190 hf176_0 hx176_0 hx284_0 hx285_0 hHeld ⊢
      refine Qq 0 (some 146) ?_
      refine Qq 2 (some 148) ?_
      refine Qq 3 (some 149) ?_
      refine Qq 4 (some 150) ?_
      refine Qq 6 (some 152) ?_
      refine Qq 7 (some 153) ?_
      refine Qr 1 (some 147) hHeld ?_
      refine Qr 5 (some 151) hHeld ?_
      refine Qq 8 (some 154) ?_
      refine Qr 9 (some 155) hHeld ?_
      refine Qq 10 (some 156) ?_
      refine Qt 11 none (fun K hK => ?_)
      refine skip_ (w1 := ?_) (by rfl) rfl ?_ ?_
      rotate_left
      ·go_simp
       rfl
      refine hK.out _ _ ?_
      clear hK K
      refine done_ (done_of HT_.out (by kernel_rfl)) ?_
      have n0_ : Aside0 (Kd.R (Kd.int .i64) 3 (w189.setCell ⟨go176, ((ji170) : Int).toNat, none⟩ (.int .i64 (rd l1_1 (ji173)))) w0.heap.size (fun k_ => ((P1_1_ k_ ∨ P1_2_ k_) ∨ w.heap.size ≤ k_) ∧ some k_ ≠ (.slice Ao180 l1_2.length co180 : Value).ownBlock) (.slice (some ⟨go176, 0, none⟩) l1_1.length co179) y286) := ⟨by refine Qf ?_; exact HQ190.out⟩
      have n1_ : Aside0 (Kd.R (Kd.int .i64) 3 (w189.setCell ⟨go176, ((ji170) : Int).toNat, none⟩ (.int .i64 (rd l1_1 (ji173)))) w0.heap.size (fun k_ => ((P1_1_ k_ ∨ P1_2_ k_) ∨ w.heap.size ≤ k_) ∧ some k_ ≠ (.slice (some ⟨go176, 0, none⟩) l1_1.length co179 : Value).ownBlock) (.slice Ao180 l1_2.length co180) l1_2) := ⟨by refine Qf ?_; exact Kd.R_mono (Kd.R_far (p := ⟨go176, ((ji170) : Int).toNat, none⟩) (Kd.R_mono HO1_2.out (fun k_ hk => (⟨hk, fun e_ => hk.2 (by rw [e_]; rfl)⟩ : _ ∧ k_ ≠ go176))) (fun _ hk => hk.2) (.int .i64 (rd l1_1 (ji173)))) (fun _ hk => ⟨hk.1.1, hk.1.2⟩)⟩
      have n2_ : Aside0 ((w189.setCell ⟨go176, ((ji170) : Int).toNat, none⟩ (.int .i64 (rd l1_1 (ji173)))).heap[gb242]? = some (.cells #[.int .i64 a0_0, .int .i64 a0_1, .int .i64 a0_2, .int .i64 a0_3] 48 (0, 0))) := ⟨by refine Qe ?_; refine blk_far ?_ T_2 _; refine Qe ?_; exact BK242.out⟩
      have n3_ : Aside0 ((w189.setCell ⟨go176, ((ji170) : Int).toNat, none⟩ (.int .i64 (rd l1_1 (ji173)))).heap[gb243]? = some (.cells #[.int .i64 (wrap64 (a1_0 + 1)), .slice (some ⟨go176, 0, none⟩) l1_1.length co179, .slice Ao180 l1_2.length co180] 28 (0, 0))) := ⟨by refine Qe ?_; refine blk_far ?_ T_3 _; refine Qe ?_; exact BK243.out⟩
      have n4_ : Aside0 ((w189.setCell ⟨go176, ((ji170) : Int).toNat, none⟩ (.int .i64 (rd l1_1 (ji173)))).heap[gb244]? = some (.cells #[.int .i64 0, .slice none 0 0, .slice none 0 0] 28 (0, 0))) := ⟨by refine Qe ?_; refine blk_far ?_ T_4 _; refine Qe ?_; exact BK244.out⟩
      have n5_ : Aside0 (Kept w (w189.setCell ⟨go176, ((ji170) : Int).toNat, none⟩ (.int .i64 (rd l1_1 (ji173)))) (fun k_ => P1_1_ k_ ∨ P1_2_ k_)) := ⟨Qd HK.out⟩
      have n6_ : Aside0 (Below w0.heap.size w0 (w189.setCell ⟨go176, ((ji170) : Int).toNat, none⟩ (.int .i64 (rd l1_1 (ji173))))) := ⟨Qb HB.out⟩
      (try clear HO1_1); (try clear HO1_2); (try clear BK242); (try clear BK243); (try clear BK244); (try clear HK); (try clear HB)
      generalize (w189.setCell ⟨go176, ((ji170) : Int).toNat, none⟩ (.int .i64 (rd l1_1 (ji173)))) = w191 at n0_ n1_ n2_ n3_ n4_ n5_ n6_ ⊢
      have HO1_1 := n0_
      have HO1_2 := n1_
      have BK242 := n2_
      have BK243 := n3_
      have BK244 := n4_
      have HK := n5_
      have HB := n6_
      clear n0_ n1_ n2_ n3_ n4_ n5_ n6_
      obtain ⟨hcz192_0, hcz192_1, hcz192_2, hfz192_0, hfz192_1, hfz192_2⟩ := Qv3 BK243.out
      have p177 : 0 ≤ ((ji173) : Int) := Qg
      have q177 : ((ji173) : Int) < ((l1_1.length : Int) : Int) := Qg
      obtain ⟨hx177_0, hf177_0⟩ := Kd.R_celln 0 HO1_1.out ((ji173) : Int) p177 q177
      replace p177 := eq_true p177
      replace q177 := eq_true q177
      obtain ⟨hy193_, hz193_⟩ := Kd.R_celln 0 HO1_1.out ((ji173) : Int) (Qg) (Qg)
      have HP193 := Kd.R_putg HO1_1.out ((ji173) : Int) (rd l1_1 (ji170))
      try go_wp2_with (first | ((with_reducible refine gate_store (t := 3) (p := 162) rfl ?_); refine store_event (t := 3) (p := 162) (v := ?vo_w194) (w1 := (w191.setCell ⟨go176, ((ji173) : Int).toNat, none⟩ (.int .i64 (rd l1_1 (ji170))))) ?hg ?ho ?hn ?hr ?_; (case ho => rfl); (case hg => rfl); (case hn => rfl); (case hr => first | (go_simp; done) | (go_simp; rfl)); intro w194 hw; have hg : w191.grownBy w194 (some go176) := (by rw [hw]; exact HP193.2); have hp_ : Kd.R (Kd.int .i64) 3 w194 w0.heap.size (fun k_ => ((P1_1_ k_ ∨ P1_2_ k_) ∨ w.heap.size ≤ k_) ∧ some k_ ≠ (.slice Ao180 l1_2.length co180 : Value).ownBlock) (.slice (some ⟨go176, 0, none⟩) l1_1.length co179) y287 := (by rw [hw, Ny287.out]; exact HP193.1); clear HP193; have n0_ := Ak (hp_); have n1_ := Ak (Kd.R_after (v := (.slice (some ⟨go176, 0, none⟩) l1_1.length co179)) (v1 := (.slice (some ⟨go176, 0, none⟩) l1_1.length co179)) (ok := (fun k_ => ((P1_1_ k_ ∨ P1_2_ k_) ∨ w.heap.size ≤ k_))) (Qc HO1_2.out) hg (.inl rfl)); have n2_ := Ak (blk_grown (g := gb242) (o := .cells #[.int .i64 a0_0, .int .i64 a0_1, .int .i64 a0_2, .int .i64 a0_3] 48 (0, 0)) (Qa BK242.out) hg (Kd.R_ne HO1_1.out BK242.out (by decide))); have n3_ := Ak (blk_grown (g := gb243) (o := .cells #[.int .i64 (wrap64 (a1_0 + 1)), .slice (some ⟨go176, 0, none⟩) l1_1.length co179, .slice Ao180 l1_2.length co180] 28 (0, 0)) (Qa BK243.out) hg (Kd.R_ne HO1_1.out BK243.out (by decide))); have n4_ := Ak (blk_grown (g := gb244) (o := .cells #[.int .i64 0, .slice none 0 0, .slice none 0 0] 28 (0, 0)) (Qa BK244.out) hg (Kd.R_ne HO1_1.out BK244.out (by decide))); have n5_ := Ak ((by rw [hw]; exact below_set (HB.out) GB176.out : Below w0.heap.size w0 w194)); have n6_ := Ak (Kept.of_grown (S := (fun k_ => P1_1_ k_ ∨ P1_2_ k_)) hg (Qd HK.out) (fun k_ e_ => (HO1_1.out.1 k_ e_).1)); clear HO1_1 HO1_2 BK242 BK243 BK244 HB HK; have HO1_1 := n0_; have HO1_2 := n1_; have BK242 := n2_; have BK243 := n3_; have BK244 := n4_; have HB := n5_; have HK := n6_; clear n0_ n1_ n2_ n3_ n4_ n5_ n6_; clear hg hw hp_; obtain ⟨hcz195_0, hcz195_1, hcz195_2, hfz195_0, hfz195_1, hfz195_2⟩ := Qv3 BK243.out; obtain ⟨hcz196_0, hcz196_1, hcz196_2⟩ := Qu3 BK244.out; have hfz196_0 := blk_frozen BK244.out 0; have hfz196_1 := blk_frozen BK244.out 1; have hfz196_2 := blk_frozen BK244.out 2))
      refine bodyPost_ret (results_cell_row rfl _ _ gb244 28 #[.int .i64 (wrap64 (a1_0 + 1)), .slice (some ⟨go176, 0, none⟩) l1_1.length co179, .slice Ao180 l1_2.length co180] (0, 0) _ rfl (by refine Qe ?_; refine blk_put (cs := #[.int .i64 (wrap64 (a1_0 + 1)), .slice (some ⟨go176, 0, none⟩) l1_1.length co179, .slice none 0 0]) ?_ 2 _ rfl; refine Qe ?_; refine blk_put (cs := #[.int .i64 (wrap64 (a1_0 + 1)), .slice none 0 0, .slice none 0 0]) ?_ 1 _ rfl; refine Qe ?_; refine blk_put (cs := #[.int .i64 0, .slice none 0 0, .slice none 0 0]) ?_ 0 _ rfl; exact Qa BK244.out) Try.underlying28 rfl (by kernel_rfl)) rfl ?_
      exact ⟨_, _, by first | rfl | (simp [errW_none, errW_some] <;> rfl) | (simp only [← hji170, ← hji173]; first | rfl | (simp [errW_none, errW_some] <;> rfl)) | (simp [*, errW_none, errW_some] <;> rfl), by refine Qf ?_; exact Kd.R_mono (Kd.R_far (p := ⟨gb244, 2, none⟩) (Kd.R_far (p := ⟨gb244, 1, none⟩) (Kd.R_far (p := ⟨gb244, 0, none⟩) (Kd.R_types HO1_1.out BK244.out (by decide)) (fun _ hk => hk.2) (.int .i64 (wrap64 (a1_0 + 1)))) (fun _ hk => hk.2) (.slice (some ⟨go176, 0, none⟩) l1_1.length co179)) (fun _ hk => hk.2) (.slice Ao180 l1_2.length co180)) (fun _ hk => ⟨hk.1.1, hk.1.2⟩), by refine Qf ?_; exact Kd.R_mono (Kd.R_far (p := ⟨gb244, 2, none⟩) (Kd.R_far (p := ⟨gb244, 1, none⟩) (Kd.R_far (p := ⟨gb244, 0, none⟩) (Kd.R_types HO1_2.out BK244.out (by decide)) (fun _ hk => hk.2) (.int .i64 (wrap64 (a1_0 + 1)))) (fun _ hk => hk.2) (.slice (some ⟨go176, 0, none⟩) l1_1.length co179)) (fun _ hk => hk.2) (.slice Ao180 l1_2.length co180)) (fun _ hk => ⟨hk.1.1, hk.1.2⟩), Qb HB.out, Qd HK.out⟩
     ·rw [if_neg c175] at H
      exact absurd H (by simp)
    ·rw [if_neg c174] at H
     exact absurd H (by simp)
   ·rw [if_neg c172] at H
    exact absurd H (by simp)
  ·rw [if_neg c171] at H
   exact absurd H (by simp)
 ·rw [if_neg c169] at H
  have c169b0 : (a0_0 == 8) = false := beq_eq_false_iff_ne.mpr c169
  have c169b1 : (a0_0 != 8) = true := bne_iff_ne.mpr c169
  by_cases c197 : a0_0 = 9
  ·rw [if_pos c197] at H
   have c197b0 : (a0_0 == 9) = true := beq_iff_eq.mpr c197
   have c197b1 : (a0_0 != 9) = false := bne_eq_false_iff_eq.mpr c197
   clear c197
   obtain ⟨ji198, hji198⟩ : ∃ j_ : Int, (wrap64 ((l1_1.length : Int) - 1)) = j_ := ⟨_, rfl⟩
   replace H : (if 0 ≤ (ji198) then (if (ji198) ≤ (l1_1.length : Int) then (some (wrap64 (a1_0 + 1), (l1_1.take ((ji198) : Int).toNat), l1_2)) else (none)) else (none)) = some (r1, r2, r3) := by first | (rw [hji198] at H; exact H) | (simp only [hji198] at H ⊢; exact H)
   have hji198w : (IntKind.i64.wrap ((l1_1.length : Int) - 1)) = ji198 := (i64_w _).trans hji198
   by_cases c199 : 0 ≤ (ji198)
   ·rw [if_pos c199] at H
    have c199b0 := eq_true c199
    have c199b1 : decide (0 ≤ (ji198)) = true := decide_eq_true c199
    clear c199
    by_cases c200 : (ji198) ≤ (l1_1.length : Int)
    ·rw [if_pos c200] at H
     have c200b0 := eq_true c200
     have c200b1 : decide ((ji198) ≤ (l1_1.length : Int)) = true := decide_eq_true c200
     clear c200
     obtain ⟨y288, hy288⟩ : ∃ y_ : List Int, y_ = (l1_1.take ((ji198) : Int).toNat) := ⟨_, rfl⟩
     replace H : (some (wrap64 (a1_0 + 1), y288, l1_2)) = some (r1, r2, r3) := by first | (rw [hy288]; with_reducible exact H) | (have H2_ := (Option.bind_some _ _).symm.trans H; rw [hy288]; with_reducible exact H2_) | (have H2_ := (Option.bind_some _ _).symm.trans H; with_reducible exact H2_) | with_reducible exact H | (rw [hy288]; exact H) | exact H
     have Ny288 := Ak hy288
     clear hy288
     simp only [Option.some.injEq, Prod.mk.injEq] at H
     obtain ⟨rfl, rfl, rfl⟩ := H
     go_enter Try.func38, Try.ntmps38
     go_wp2_with (first | ((with_reducible refine gate_dst (N := 2) rfl ?_); refine Qk 2 #[.int .i64 a0_0, .int .i64 a0_1, .int .i64 a0_2, .int .i64 a0_3] 48 ?_; intro gb242 hg w201 hbox hb; have n0_ := Ak (Kd.R_below (Qc HO1_1.out) hb); have n1_ := Ak (Kd.R_below (Qc HO1_2.out) hb); have n2_ := Ak (Kept.below (S := (fun k_ => P1_1_ k_ ∨ P1_2_ k_)) (Qd HK.out) hb); have n3_ := Ak (below_step (Qb HB.out) hb); have n4_ := Ak (hbox); have n5_ := Ak ((by rw [hg]; exact (Qo HK.out) : w.heap.size ≤ gb242)); have n6_ := Ak ((Qp hg HB.out : w0.heap.size ≤ gb242)); clear HO1_1 HO1_2 HK HB; have HO1_1 := n0_; have HO1_2 := n1_; have HK := n2_; have HB := n3_; have BK242 := n4_; have GW242 := n5_; have GE242 := n6_; clear n0_ n1_ n2_ n3_ n4_ n5_ n6_; clear hb hbox hg; obtain ⟨Ao202, co202, eo202⟩ := Kd.R_slice HO1_1.out; subst eo202; obtain ⟨Ao203, co203, eo203⟩ := Kd.R_slice HO1_2.out; subst eo203) | ((with_reducible refine gate_dst (N := 3) rfl ?_); refine Qk 3 #[.int .i64 a1_0, .slice Ao202 l1_1.length co202, .slice Ao203 l1_2.length co203] 28 ?_; intro gb243 hg w204 hbox hb; have n0_ := Ak (Kd.R_below (Qc HO1_1.out) hb); have n1_ := Ak (Kd.R_below (Qc HO1_2.out) hb); have n2_ := Ak (Qm BK242.out hb); have n3_ := Ak (Kept.below (S := (fun k_ => P1_1_ k_ ∨ P1_2_ k_)) (Qd HK.out) hb); have n4_ := Ak (below_step (Qb HB.out) hb); have n5_ := Ak (hbox); have n6_ := Ak ((by rw [hg]; exact (Qo HK.out) : w.heap.size ≤ gb243)); have n7_ := Ak ((Qp hg HB.out : w0.heap.size ≤ gb243)); have n8_ := Ak ((by rw [hg]; exact Nat.ne_of_lt (Qn BK242.out) : gb242 ≠ gb243)); have n9_ := Ak ((by rw [hg]; exact Nat.ne_of_gt (Qn BK242.out) : gb243 ≠ gb242)); clear HO1_1 HO1_2 BK242 HK HB; have HO1_1 := n0_; have HO1_2 := n1_; have BK242 := n2_; have HK := n3_; have HB := n4_; have BK243 := n5_; have GW243 := n6_; have GE243 := n7_; have NB242_243 := n8_; have NB243_242 := n9_; clear n0_ n1_ n2_ n3_ n4_ n5_ n6_ n7_ n8_ n9_; clear hb hbox hg) | ((with_reducible refine gate_dst (N := 4) rfl ?_); refine Qk 4 #[.int .i64 0, .slice none 0 0, .slice none 0 0] 28 ?_; intro gb244 hg w205 hbox hb; have n0_ := Ak (Kd.R_below (Qc HO1_1.out) hb); have n1_ := Ak (Kd.R_below (Qc HO1_2.out) hb); have n2_ := Ak (Qm BK242.out hb); have n3_ := Ak (Qm BK243.out hb); have n4_ := Ak (Kept.below (S := (fun k_ => P1_1_ k_ ∨ P1_2_ k_)) (Qd HK.out) hb); have n5_ := Ak (below_step (Qb HB.out) hb); have n6_ := Ak (hbox); have n7_ := Ak ((by rw [hg]; exact (Qo HK.out) : w.heap.size ≤ gb244)); have n8_ := Ak ((Qp hg HB.out : w0.heap.size ≤ gb244)); have n9_ := Ak ((by rw [hg]; exact Nat.ne_of_lt (Qn BK242.out) : gb242 ≠ gb244)); have n10_ := Ak ((by rw [hg]; exact Nat.ne_of_gt (Qn BK242.out) : gb244 ≠ gb242)); have n11_ := Ak ((by rw [hg]; exact Nat.ne_of_lt (Qn BK243.out) : gb243 ≠ gb244)); have n12_ := Ak ((by rw [hg]; exact Nat.ne_of_gt (Qn BK243.out) : gb244 ≠ gb243)); clear HO1_1 HO1_2 BK242 BK243 HK HB; have HO1_1 := n0_; have HO1_2 := n1_; have BK242 := n2_; have BK243 := n3_; have HK := n4_; have HB := n5_; have BK244 := n6_; have GW244 := n7_; have GE244 := n8_; have NB242_244 := n9_; have NB244_242 := n10_; have NB243_244 := n11_; have NB244_243 := n12_; clear n0_ n1_ n2_ n3_ n4_ n5_ n6_ n7_ n8_ n9_ n10_ n11_ n12_; clear hb hbox hg; have hnb206 := NB243_242.out; have hnc206 := NB242_243.out; have hnb207 := NB243_244.out; have hnc207 := NB244_243.out; obtain ⟨hcz208_0, hcz208_1, hcz208_2⟩ := Qu3 BK243.out; have hfz208_0 := blk_frozen BK243.out 0; have hfz208_1 := blk_frozen BK243.out 1; have hfz208_2 := blk_frozen BK243.out 2) | ((with_reducible refine gate_store (t := 3) (p := 13) rfl ?_); refine store_event (t := 3) (p := 13) (v := ?vo_w209) (w1 := (w205.setCell ⟨gb243, 0, none⟩ (.int .i64 (wrap64 (a1_0 + 1))))) ?hg ?ho ?hn ?hr ?_; (case ho => rfl); (case hg => rfl); (case hn => rfl); (case hr => first | (go_simp; done) | (go_simp; rfl)); intro w209 hw; have n0_ : Aside0 (Kd.R (Kd.int .i64) 3 w209 w0.heap.size (fun k_ => ((P1_1_ k_ ∨ P1_2_ k_) ∨ w.heap.size ≤ k_) ∧ some k_ ≠ (.slice Ao203 l1_2.length co203 : Value).ownBlock) (.slice Ao202 l1_1.length co202) l1_1) := ⟨(by rw [hw]; exact (by refine Qf ?_; exact Kd.R_mono (Kd.R_far (p := ⟨gb243, 0, none⟩) (Kd.R_types HO1_1.out BK243.out (by decide)) (fun _ hk => hk.2) (.int .i64 (wrap64 (a1_0 + 1)))) (fun _ hk => ⟨hk.1.1, hk.1.2⟩)))⟩; have n1_ : Aside0 (Kd.R (Kd.int .i64) 3 w209 w0.heap.size (fun k_ => ((P1_1_ k_ ∨ P1_2_ k_) ∨ w.heap.size ≤ k_) ∧ some k_ ≠ (.slice Ao202 l1_1.length co202 : Value).ownBlock) (.slice Ao203 l1_2.length co203) l1_2) := ⟨(by rw [hw]; exact (by refine Qf ?_; exact Kd.R_mono (Kd.R_far (p := ⟨gb243, 0, none⟩) (Kd.R_types HO1_2.out BK243.out (by decide)) (fun _ hk => hk.2) (.int .i64 (wrap64 (a1_0 + 1)))) (fun _ hk => ⟨hk.1.1, hk.1.2⟩)))⟩; have n2_ : Aside0 (w209.heap[gb242]? = some (.cells #[.int .i64 a0_0, .int .i64 a0_1, .int .i64 a0_2, .int .i64 a0_3] 48 (0, 0))) := ⟨(by rw [hw]; exact (by refine Qe ?_; refine blk_far ?_ NB242_243.out _; exact Qa BK242.out))⟩; have n3_ : Aside0 (w209.heap[gb243]? = some (.cells #[.int .i64 (wrap64 (a1_0 + 1)), .slice Ao202 l1_1.length co202, .slice Ao203 l1_2.length co203] 28 (0, 0))) := ⟨(by rw [hw]; exact (by refine Qe ?_; refine blk_put (cs := #[.int .i64 a1_0, .slice Ao202 l1_1.length co202, .slice Ao203 l1_2.length co203]) ?_ 0 _ rfl; exact Qa BK243.out))⟩; have n4_ : Aside0 (w209.heap[gb244]? = some (.cells #[.int .i64 0, .slice none 0 0, .slice none 0 0] 28 (0, 0))) := ⟨(by rw [hw]; exact (by refine Qe ?_; refine blk_far ?_ NB244_243.out _; exact Qa BK244.out))⟩; have n5_ : Aside0 (Kept w w209 (fun k_ => P1_1_ k_ ∨ P1_2_ k_)) := ⟨(by rw [hw]; exact (Qd HK.out))⟩; have n6_ : Aside0 (Below w0.heap.size w0 w209) := ⟨(by rw [hw]; exact (Qb HB.out))⟩; clear hw HO1_1 HO1_2 BK242 BK243 BK244 HK HB; have HO1_1 := n0_; have HO1_2 := n1_; have BK242 := n2_; have BK243 := n3_; have BK244 := n4_; have HK := n5_; have HB := n6_; clear n0_ n1_ n2_ n3_ n4_ n5_ n6_; have hnb210 := NB242_244.out; have hnc210 := NB244_242.out; obtain ⟨hcz211_0, hcz211_1, hcz211_2, hcz211_3, hfz211_0, hfz211_1, hfz211_2, hfz211_3⟩ := Qv4 BK242.out; obtain ⟨hcz212_0, hcz212_1, hcz212_2, hfz212_0, hfz212_1, hfz212_2⟩ := Qv3 BK243.out; have q213 : ((ji198) : Int) ≤ ((l1_1.length : Int) : Int) := Qg; obtain ⟨i0213, hi0213, _, hsz213, _⟩ := info_parts info3; have hcut213 := cut_to (P := Try.prog) 23 3 .i64 Try.underlying23 hi0213 Ao202 l1_1.length co202 (ji198) (Qg) q213 (Kd.R_reads' HO1_1.out).2.1; have hr213 := Kd.R_take (m := ((ji198) : Int).toNat) HO1_1.out (by omega); have hy213 : y288.length = ((ji198) : Int).toNat := (by rw [Ny288.out, List.length_take]; omega); rw [← Ny288.out] at hr213; rw [← hy213] at hr213 hcut213; clear hy213 hi0213 hsz213 HO1_1; have HO290 := Ak hr213; clear hr213; replace q213 := eq_true q213; obtain ⟨hcz214_0, hcz214_1, hcz214_2⟩ := Qu3 BK244.out; have hfz214_0 := blk_frozen BK244.out 0; have hfz214_1 := blk_frozen BK244.out 1; have hfz214_2 := blk_frozen BK244.out 2))
     refine bodyPost_ret (results_cell_row rfl _ _ gb244 28 #[.int .i64 (wrap64 (a1_0 + 1)), .slice Ao202 y288.length co202, .slice Ao203 l1_2.length co203] (0, 0) _ rfl (by refine Qe ?_; refine blk_put (cs := #[.int .i64 (wrap64 (a1_0 + 1)), .slice Ao202 y288.length co202, .slice none 0 0]) ?_ 2 _ rfl; refine Qe ?_; refine blk_put (cs := #[.int .i64 (wrap64 (a1_0 + 1)), .slice none 0 0, .slice none 0 0]) ?_ 1 _ rfl; refine Qe ?_; refine blk_put (cs := #[.int .i64 0, .slice none 0 0, .slice none 0 0]) ?_ 0 _ rfl; refine Qe ?_; refine blk_far ?_ NB244_243.out _; exact Qa BK244.out) Try.underlying28 rfl (by kernel_rfl)) rfl ?_
     exact ⟨_, _, by first | rfl | (simp [errW_none, errW_some] <;> rfl) | (simp only [← hji198]; first | rfl | (simp [errW_none, errW_some] <;> rfl)) | (simp [*, errW_none, errW_some] <;> rfl), by refine Qf ?_; exact Kd.R_mono (Kd.R_far (p := ⟨gb244, 2, none⟩) (Kd.R_far (p := ⟨gb244, 1, none⟩) (Kd.R_far (p := ⟨gb244, 0, none⟩) (Kd.R_far (p := ⟨gb243, 1, none⟩) (Kd.R_types (Kd.R_types HO290.out BK243.out (by decide)) BK244.out (by decide)) (fun _ hk => hk.1.2) (.slice Ao202 y288.length co202)) (fun _ hk => hk.2) (.int .i64 (wrap64 (a1_0 + 1)))) (fun _ hk => hk.2) (.slice Ao202 y288.length co202)) (fun _ hk => hk.2) (.slice Ao203 l1_2.length co203)) (fun _ hk => by first | exact ⟨hk.1.1.1, hk.1.1.2⟩ | exact ⟨hk.1.1.1, fun e_ => hk.1.1.2 (e_.trans (ownlen_ _ _ _ _ _))⟩), by refine Qf ?_; exact Kd.R_mono (Kd.R_far (p := ⟨gb244, 2, none⟩) (Kd.R_far (p := ⟨gb244, 1, none⟩) (Kd.R_far (p := ⟨gb244, 0, none⟩) (Kd.R_far (p := ⟨gb243, 1, none⟩) (Kd.R_types (Kd.R_types HO1_2.out BK243.out (by decide)) BK244.out (by decide)) (fun _ hk => hk.1.2) (.slice Ao202 y288.length co202)) (fun _ hk => hk.2) (.int .i64 (wrap64 (a1_0 + 1)))) (fun _ hk => hk.2) (.slice Ao202 y288.length co202)) (fun _ hk => hk.2) (.slice Ao203 l1_2.length co203)) (fun _ hk => by first | exact ⟨hk.1.1.1, hk.1.1.2⟩ | exact ⟨hk.1.1.1, fun e_ => hk.1.1.2 (e_.trans (ownlen_ _ _ _ _ _))⟩), Qb HB.out, Qd HK.out⟩
    ·rw [if_neg c200] at H
     exact absurd H (by simp)
   ·rw [if_neg c199] at H
    exact absurd H (by simp)
  ·rw [if_neg c197] at H
   have c197b0 : (a0_0 == 9) = false := beq_eq_false_iff_ne.mpr c197
   have c197b1 : (a0_0 != 9) = true := bne_iff_ne.mpr c197
   by_cases c215 : a0_0 = 10
   ·rw [if_pos c215] at H
    have c215b0 : (a0_0 == 10) = true := beq_iff_eq.mpr c215
    have c215b1 : (a0_0 != 10) = false := bne_eq_false_iff_eq.mpr c215
    clear c215
    obtain ⟨ji216, hji216⟩ : ∃ j_ : Int, (wrap64 ((l1_1.length : Int) - 1)) = j_ := ⟨_, rfl⟩
    replace H : (if 0 ≤ (ji216) then (if (ji216) < (l1_1.length : Int) then ((spec_l7Shift.f k (rd l1_1 (ji216)) a0_1).bind fun t292 => (some (wrap64 (a1_0 + 1), (l1_1.set ((ji216) : Int).toNat t292), l1_2))) else (none)) else (none)) = some (r1, r2, r3) := by first | (rw [hji216] at H; exact H) | (simp only [hji216] at H ⊢; exact H)
    have hji216w : (IntKind.i64.wrap ((l1_1.length : Int) - 1)) = ji216 := (i64_w _).trans hji216
    by_cases c217 : 0 ≤ (ji216)
    ·rw [if_pos c217] at H
     have c217b0 : decide (0 ≤ (ji216)) = true := decide_eq_true c217
     clear c217
     by_cases c218 : (ji216) < (l1_1.length : Int)
     ·rw [if_pos c218] at H
      have c218b0 : decide ((ji216) < (l1_1.length : Int)) = true := decide_eq_true c218
      clear c218
      replace H := Option.bind_eq_some_iff.mp H
      obtain ⟨t292, A2190, H⟩ := H
      replace H : (some (wrap64 (a1_0 + 1), (l1_1.set ((ji216) : Int).toNat t292), l1_2)) = some (r1, r2, r3) := H
      have A219 := Ak A2190
      clear A2190
      obtain ⟨y293, hy293⟩ : ∃ y_ : List Int, y_ = (l1_1.set ((ji216) : Int).toNat t292) := ⟨_, rfl⟩
      replace H : (some (wrap64 (a1_0 + 1), y293, l1_2)) = some (r1, r2, r3) := by first | (rw [hy293]; with_reducible exact H) | (have H2_ := (Option.bind_some _ _).symm.trans H; rw [hy293]; with_reducible exact H2_) | (have H2_ := (Option.bind_some _ _).symm.trans H; with_reducible exact H2_) | with_reducible exact H | (rw [hy293]; exact H) | exact H
      have Ny293 := Ak hy293
      clear hy293
      simp only [Option.some.injEq, Prod.mk.injEq] at H
      obtain ⟨rfl, rfl, rfl⟩ := H
      go_enter Try.func38, Try.ntmps38
      try go_wp2_with (first | ((with_reducible refine gate_dst (N := 2) rfl ?_); refine Qk 2 #[.int .i64 a0_0, .int .i64 a0_1, .int .i64 a0_2, .int .i64 a0_3] 48 ?_; intro gb242 hg w221 hbox hb; have n0_ := Ak (Kd.R_below (Qc HO1_1.out) hb); have n1_ := Ak (Kd.R_below (Qc HO1_2.out) hb); have n2_ := Ak (Kept.below (S := (fun k_ => P1_1_ k_ ∨ P1_2_ k_)) (Qd HK.out) hb); have n3_ := Ak (below_step (Qb HB.out) hb); have n4_ := Ak (hbox); have n5_ := Ak ((by rw [hg]; exact (Qo HK.out) : w.heap.size ≤ gb242)); have n6_ := Ak ((Qp hg HB.out : w0.heap.size ≤ gb242)); clear HO1_1 HO1_2 HK HB; have HO1_1 := n0_; have HO1_2 := n1_; have HK := n2_; have HB := n3_; have BK242 := n4_; have GW242 := n5_; have GE242 := n6_; clear n0_ n1_ n2_ n3_ n4_ n5_ n6_; clear hb hbox hg; obtain ⟨Ao222, co222, eo222⟩ := Kd.R_slice HO1_1.out; subst eo222; obtain ⟨Ao223, co223, eo223⟩ := Kd.R_slice HO1_2.out; subst eo223) | ((with_reducible refine gate_dst (N := 3) rfl ?_); refine Qk 3 #[.int .i64 a1_0, .slice Ao222 l1_1.length co222, .slice Ao223 l1_2.length co223] 28 ?_; intro gb243 hg w224 hbox hb; have n0_ := Ak (Kd.R_below (Qc HO1_1.out) hb); have n1_ := Ak (Kd.R_below (Qc HO1_2.out) hb); have n2_ := Ak (Qm BK242.out hb); have n3_ := Ak (Kept.below (S := (fun k_ => P1_1_ k_ ∨ P1_2_ k_)) (Qd HK.out) hb); have n4_ := Ak (below_step (Qb HB.out) hb); have n5_ := Ak (hbox); have n6_ := Ak ((by rw [hg]; exact (Qo HK.out) : w.heap.size ≤ gb243)); have n7_ := Ak ((Qp hg HB.out : w0.heap.size ≤ gb243)); have n8_ := Ak ((by rw [hg]; exact Nat.ne_of_lt (Qn BK242.out) : gb242 ≠ gb243)); have n9_ := Ak ((by rw [hg]; exact Nat.ne_of_gt (Qn BK242.out) : gb243 ≠ gb242)); clear HO1_1 HO1_2 BK242 HK HB; have HO1_1 := n0_; have HO1_2 := n1_; have BK242 := n2_; have HK := n3_; have HB := n4_; have BK243 := n5_; have GW243 := n6_; have GE243 := n7_; have NB242_243 := n8_; have NB243_242 := n9_; clear n0_ n1_ n2_ n3_ n4_ n5_ n6_ n7_ n8_ n9_; clear hb hbox hg) | ((with_reducible refine gate_dst (N := 4) rfl ?_); refine Qk 4 #[.int .i64 0, .slice none 0 0, .slice none 0 0] 28 ?_; intro gb244 hg w225 hbox hb; have n0_ := Ak (Kd.R_below (Qc HO1_1.out) hb); have n1_ := Ak (Kd.R_below (Qc HO1_2.out) hb); have n2_ := Ak (Qm BK242.out hb); have n3_ := Ak (Qm BK243.out hb); have n4_ := Ak (Kept.below (S := (fun k_ => P1_1_ k_ ∨ P1_2_ k_)) (Qd HK.out) hb); have n5_ := Ak (below_step (Qb HB.out) hb); have n6_ := Ak (hbox); have n7_ := Ak ((by rw [hg]; exact (Qo HK.out) : w.heap.size ≤ gb244)); have n8_ := Ak ((Qp hg HB.out : w0.heap.size ≤ gb244)); have n9_ := Ak ((by rw [hg]; exact Nat.ne_of_lt (Qn BK242.out) : gb242 ≠ gb244)); have n10_ := Ak ((by rw [hg]; exact Nat.ne_of_gt (Qn BK242.out) : gb244 ≠ gb242)); have n11_ := Ak ((by rw [hg]; exact Nat.ne_of_lt (Qn BK243.out) : gb243 ≠ gb244)); have n12_ := Ak ((by rw [hg]; exact Nat.ne_of_gt (Qn BK243.out) : gb244 ≠ gb243)); clear HO1_1 HO1_2 BK242 BK243 HK HB; have HO1_1 := n0_; have HO1_2 := n1_; have BK242 := n2_; have BK243 := n3_; have HK := n4_; have HB := n5_; have BK244 := n6_; have GW244 := n7_; have GE244 := n8_; have NB242_244 := n9_; have NB244_242 := n10_; have NB243_244 := n11_; have NB244_243 := n12_; clear n0_ n1_ n2_ n3_ n4_ n5_ n6_ n7_ n8_ n9_ n10_ n11_ n12_; clear hb hbox hg; have hnb226 := NB243_242.out; have hnc226 := NB242_243.out; have hnb227 := NB243_244.out; have hnc227 := NB244_243.out; obtain ⟨hcz228_0, hcz228_1, hcz228_2, hfz228_0, hfz228_1, hfz228_2⟩ := Qv3 BK243.out; have hnb229 := NB242_244.out; have hnc229 := NB244_242.out; obtain ⟨hcz230_0, hcz230_1, hcz230_2, hcz230_3⟩ := Qu4 BK242.out; have hfz230_0 := blk_frozen BK242.out 0; have hfz230_1 := blk_frozen BK242.out 1; have hfz230_2 := blk_frozen BK242.out 2; have hfz230_3 := blk_frozen BK242.out 3))
      have n0_ : Aside0 (Kd.R (Kd.int .i64) 3 (w225.setCell ⟨gb243, 0, none⟩ (.int .i64 (wrap64 (a1_0 + 1)))) w0.heap.size (fun k_ => ((P1_1_ k_ ∨ P1_2_ k_) ∨ w.heap.size ≤ k_) ∧ some k_ ≠ (.slice Ao223 l1_2.length co223 : Value).ownBlock) (.slice Ao222 l1_1.length co222) l1_1) := ⟨by refine Qf ?_; exact Kd.R_mono (Kd.R_far (p := ⟨gb243, 0, none⟩) (Kd.R_types HO1_1.out BK243.out (by decide)) (fun _ hk => hk.2) (.int .i64 (wrap64 (a1_0 + 1)))) (fun _ hk => ⟨hk.1.1, hk.1.2⟩)⟩
      have n1_ : Aside0 (Kd.R (Kd.int .i64) 3 (w225.setCell ⟨gb243, 0, none⟩ (.int .i64 (wrap64 (a1_0 + 1)))) w0.heap.size (fun k_ => ((P1_1_ k_ ∨ P1_2_ k_) ∨ w.heap.size ≤ k_) ∧ some k_ ≠ (.slice Ao222 l1_1.length co222 : Value).ownBlock) (.slice Ao223 l1_2.length co223) l1_2) := ⟨by refine Qf ?_; exact Kd.R_mono (Kd.R_far (p := ⟨gb243, 0, none⟩) (Kd.R_types HO1_2.out BK243.out (by decide)) (fun _ hk => hk.2) (.int .i64 (wrap64 (a1_0 + 1)))) (fun _ hk => ⟨hk.1.1, hk.1.2⟩)⟩
      have n2_ : Aside0 ((w225.setCell ⟨gb243, 0, none⟩ (.int .i64 (wrap64 (a1_0 + 1)))).heap[gb242]? = some (.cells #[.int .i64 a0_0, .int .i64 a0_1, .int .i64 a0_2, .int .i64 a0_3] 48 (0, 0))) := ⟨by refine Qe ?_; refine blk_far ?_ NB242_243.out _; refine Qe ?_; exact BK242.out⟩
      have n3_ : Aside0 ((w225.setCell ⟨gb243, 0, none⟩ (.int .i64 (wrap64 (a1_0 + 1)))).heap[gb243]? = some (.cells #[.int .i64 (wrap64 (a1_0 + 1)), .slice Ao222 l1_1.length co222, .slice Ao223 l1_2.length co223] 28 (0, 0))) := ⟨by refine Qe ?_; refine blk_put (cs := #[.int .i64 a1_0, .slice Ao222 l1_1.length co222, .slice Ao223 l1_2.length co223]) ?_ 0 _ rfl; refine Qe ?_; exact BK243.out⟩
      have n4_ : Aside0 ((w225.setCell ⟨gb243, 0, none⟩ (.int .i64 (wrap64 (a1_0 + 1)))).heap[gb244]? = some (.cells #[.int .i64 0, .slice none 0 0, .slice none 0 0] 28 (0, 0))) := ⟨by refine Qe ?_; refine blk_far ?_ NB244_243.out _; refine Qe ?_; exact BK244.out⟩
      have n5_ : Aside0 (Kept w (w225.setCell ⟨gb243, 0, none⟩ (.int .i64 (wrap64 (a1_0 + 1)))) (fun k_ => P1_1_ k_ ∨ P1_2_ k_)) := ⟨Qd HK.out⟩
      have n6_ : Aside0 (Below w0.heap.size w0 (w225.setCell ⟨gb243, 0, none⟩ (.int .i64 (wrap64 (a1_0 + 1))))) := ⟨Qb HB.out⟩
      (try clear HO1_1); (try clear HO1_2); (try clear BK242); (try clear BK243); (try clear BK244); (try clear HK); (try clear HB)
      generalize (w225.setCell ⟨gb243, 0, none⟩ (.int .i64 (wrap64 (a1_0 + 1)))) = w231 at n0_ n1_ n2_ n3_ n4_ n5_ n6_ ⊢
      have HO1_1 := n0_
      have HO1_2 := n1_
      have BK242 := n2_
      have BK243 := n3_
      have BK244 := n4_
      have HK := n5_
      have HB := n6_
      clear n0_ n1_ n2_ n3_ n4_ n5_ n6_
      have n0_ := Ak (Kd.R_drew HO1_1.out)
      have n1_ := Ak (Kd.R_drew HO1_2.out)
      have n2_ := Ak (blk_drew BK242.out)
      have n3_ := Ak (blk_drew BK243.out)
      have n4_ := Ak (blk_drew BK244.out)
      have n5_ := Ak (Kept.drew HK.out)
      have n6_ := Ak (below_drew1 HB.out)
      clear HO1_1 HO1_2 BK242 BK243 BK244 HK HB
      have HO1_1 := n0_
      have HO1_2 := n1_
      have BK242 := n2_
      have BK243 := n3_
      have BK244 := n4_
      have HK := n5_
      have HB := n6_
      clear n0_ n1_ n2_ n3_ n4_ n5_ n6_
      have p291 : 0 ≤ ((ji216) : Int) := Qg
      have q291 : (ji216) < (l1_1.length : Int) := Qg
      obtain ⟨ad291, e291, hx291_0⟩ := Kd.at_int (Kd.R_reads' HO1_1.out).2.2 (ji216) p291 q291
      cases e291
      replace p291 := eq_true p291
      replace q291 := eq_true q291
      refine start_ (n := 15) (S := fun w' => w'.cell? ⟨gb243, 0, none⟩ = some (.int .i64 (wrap64 (a1_0 + 1))) ∧ w'.cell? ⟨gb243, 1, none⟩ = some (.slice (some ad291) l1_1.length co222) ∧ w'.cell? ⟨gb243, 2, none⟩ = some (.slice Ao223 l1_2.length co223) ∧ w'.cell? ⟨gb242, 0, none⟩ = some (.int .i64 a0_0) ∧ w'.cell? ⟨gb242, 1, none⟩ = some (.int .i64 a0_1) ∧ w'.cell? ⟨gb242, 2, none⟩ = some (.int .i64 a0_2) ∧ w'.cell? ⟨gb242, 3, none⟩ = some (.int .i64 a0_3) ∧ w'.cell? (ad291.add ((ji216)).toNat) = some (.int .i64 (rd l1_1 (ji216)))) (ds := [14]) #[false, false, false, false, false, false, false, false, false, false, false, false, false, false, false] (by kernel_rfl) rfl rfl ⟨(blk_cell BK243.out 0).trans rfl, (blk_cell BK243.out 1).trans rfl, (blk_cell BK243.out 2).trans rfl, (blk_cell BK242.out 0).trans rfl, (blk_cell BK242.out 1).trans rfl, (blk_cell BK242.out 2).trans rfl, (blk_cell BK242.out 3).trans rfl, hx291_0⟩ (fun hHeld => ?_); refine with_tabW spec_l7Change.tab25 spec_l7Change.bits25 (fun HT_ HW_ => ?_)
      generalize w231.drew = w232 at HO1_1 HO1_2 BK242 BK243 BK244 HK HB hx291_0 hHeld ⊢
      refine Qq 0 (some 173) ?_
      refine Qq 2 (some 175) ?_
      refine Qq 3 (some 176) ?_
      refine Qq 4 (some 177) ?_
      refine Qq 6 (some 179) ?_
      refine Qq 7 (some 180) ?_
      refine Qq 10 (some 183) ?_
      refine Qr 1 (some 174) hHeld ?_
      refine Qr 5 (some 178) hHeld ?_
      refine Qq 8 (some 181) ?_
      refine Qr 9 (some 182) hHeld ?_
      refine Qr 11 (some 184) hHeld ?_
      refine Qs 12 (some 185) (fun K hK => ?_)
      refine goes_ Try.func70 (by kernel_rfl) rfl #[.int .i64 (rd l1_1 (ji216)), .int .i64 a0_1] (by rfl) rfl rfl (by (try simp only [List.map_toArray, List.map_cons, List.map_nil]); first | done | (simp only [hji216]; rfl) | rfl | (simp only [List.length_drop, List.length_take]; rfl)) ?_
      with_reducible refine (spec_l7Shift.calls k (rd l1_1 (ji216)) a0_1 t292 _ A219.out).mono ?_
      rintro e w233 ⟨rfl, hb⟩
      have HS7_ := (hb.cell (World.block_lt_of_cell? _ _ (hHeld.2.2.2.2.2.2.2))).trans (hHeld.2.2.2.2.2.2.2)
      refine ⟨_, rfl, ?_⟩
      have n0_ := Ak (Kd.R_below (Qc HO1_1.out) hb)
      have n1_ := Ak (Kd.R_below (Qc HO1_2.out) hb)
      have n2_ := Ak (Qm BK242.out hb)
      have n3_ := Ak (Qm BK243.out hb)
      have n4_ := Ak (Qm BK244.out hb)
      have n5_ := Ak (Kept.below (S := (fun k_ => P1_1_ k_ ∨ P1_2_ k_)) (Qd HK.out) hb)
      have n6_ := Ak (below_step (Qb HB.out) hb)
      clear HO1_1 HO1_2 BK242 BK243 BK244 HK HB
      have HO1_1 := n0_
      have HO1_2 := n1_
      have BK242 := n2_
      have BK243 := n3_
      have BK244 := n4_
      have HK := n5_
      have HB := n6_
      clear n0_ n1_ n2_ n3_ n4_ n5_ n6_
      (try clear hb); (try clear hb2); (try clear hk); (try clear hi)
      have p220 : 0 ≤ ((ji216) : Int) := Qg
      have q220 : ((ji216) : Int) < ((l1_1.length : Int) : Int) := Qg
      obtain ⟨go220, co220, eo220, gb220, gl220, cl220, HG220⟩ := Kd.R_form HO1_1.out (by omega)
      (first | cases eo220 | (injection eo220 with ea_ en_ ec_; (first | subst ea_ | (injection ea_ with ea_; subst ea_)); subst ec_; clear en_))
      have GB220 := Ak gb220
      have GG220 := Ak HG220
      clear gb220 gl220 HG220
      have HMgo220 := Ak (show ((P1_1_ go220 ∨ P1_2_ go220) ∨ w.heap.size ≤ go220) from (HO1_1.out.1 _ rfl).1)
      (first | simp only [add_plain] at hx291_0 | skip)
      obtain ⟨hx220_0, hf220_0⟩ := Kd.R_celln 0 HO1_1.out ((ji216) : Int) p220 q220
      replace p220 := eq_true p220
      replace q220 := eq_true q220
      have HP234 := Kd.R_putn HO1_1.out ((ji216) : Int) t292
      rw [← Ny293.out] at HP234
      have HQ234 := Ak HP234
      clear HP234
      refine hK.out _ _ ⟨(blk_cell BK243.out 0).trans rfl, (blk_cell BK243.out 1).trans rfl, (blk_cell BK243.out 2).trans rfl, (blk_cell BK242.out 0).trans rfl, (blk_cell BK242.out 1).trans rfl, (blk_cell BK242.out 2).trans rfl, (blk_cell BK242.out 3).trans rfl, HS7_⟩ (fun hHeld => ?_)
      clear hK K
      refine norm_ (a' := ?_) ?_ ?_
      rotate_left
      ·show Act.put _ (some 185) _ = _
       simp only [Act.put, List.setIfInBounds_toArray, List.set_cons_zero, List.set_cons_succ, i64_w, i32_w]
       rfl
      refine Qq 13 (some 186) ?_
      refine Qt 14 none (fun K hK => ?_)
      refine skip_ (w1 := ?_) (by rfl) rfl ?_ ?_
      rotate_left
      ·go_simp
       rfl
      refine hK.out _ _ ?_
      clear hK K
      refine done_ (done_of HT_.out (by kernel_rfl)) ?_
      have n0_ : Aside0 (Kd.R (Kd.int .i64) 3 (w233.setCell ⟨go220, ((ji216) : Int).toNat, none⟩ (.int .i64 t292)) w0.heap.size (fun k_ => ((P1_1_ k_ ∨ P1_2_ k_) ∨ w.heap.size ≤ k_) ∧ some k_ ≠ (.slice Ao223 l1_2.length co223 : Value).ownBlock) (.slice (some ⟨go220, 0, none⟩) l1_1.length co222) y293) := ⟨by refine Qf ?_; exact HQ234.out⟩
      have n1_ : Aside0 (Kd.R (Kd.int .i64) 3 (w233.setCell ⟨go220, ((ji216) : Int).toNat, none⟩ (.int .i64 t292)) w0.heap.size (fun k_ => ((P1_1_ k_ ∨ P1_2_ k_) ∨ w.heap.size ≤ k_) ∧ some k_ ≠ (.slice (some ⟨go220, 0, none⟩) l1_1.length co222 : Value).ownBlock) (.slice Ao223 l1_2.length co223) l1_2) := ⟨by refine Qf ?_; exact Kd.R_mono (Kd.R_far (p := ⟨go220, ((ji216) : Int).toNat, none⟩) (Kd.R_mono HO1_2.out (fun k_ hk => (⟨hk, fun e_ => hk.2 (by rw [e_]; rfl)⟩ : _ ∧ k_ ≠ go220))) (fun _ hk => hk.2) (.int .i64 t292)) (fun _ hk => ⟨hk.1.1, hk.1.2⟩)⟩
      have n2_ : Aside0 ((w233.setCell ⟨go220, ((ji216) : Int).toNat, none⟩ (.int .i64 t292)).heap[gb242]? = some (.cells #[.int .i64 a0_0, .int .i64 a0_1, .int .i64 a0_2, .int .i64 a0_3] 48 (0, 0))) := ⟨by refine Qe ?_; refine blk_far ?_ T_2 _; refine Qe ?_; exact BK242.out⟩
      have n3_ : Aside0 ((w233.setCell ⟨go220, ((ji216) : Int).toNat, none⟩ (.int .i64 t292)).heap[gb243]? = some (.cells #[.int .i64 (wrap64 (a1_0 + 1)), .slice (some ⟨go220, 0, none⟩) l1_1.length co222, .slice Ao223 l1_2.length co223] 28 (0, 0))) := ⟨by refine Qe ?_; refine blk_far ?_ T_3 _; refine Qe ?_; exact BK243.out⟩
      have n4_ : Aside0 ((w233.setCell ⟨go220, ((ji216) : Int).toNat, none⟩ (.int .i64 t292)).heap[gb244]? = some (.cells #[.int .i64 0, .slice none 0 0, .slice none 0 0] 28 (0, 0))) := ⟨by refine Qe ?_; refine blk_far ?_ T_4 _; refine Qe ?_; exact BK244.out⟩
      have n5_ : Aside0 (Kept w (w233.setCell ⟨go220, ((ji216) : Int).toNat, none⟩ (.int .i64 t292)) (fun k_ => P1_1_ k_ ∨ P1_2_ k_)) := ⟨Qd HK.out⟩
      have n6_ : Aside0 (Below w0.heap.size w0 (w233.setCell ⟨go220, ((ji216) : Int).toNat, none⟩ (.int .i64 t292))) := ⟨Qb HB.out⟩
      (try clear HO1_1); (try clear HO1_2); (try clear BK242); (try clear BK243); (try clear BK244); (try clear HK); (try clear HB)
      generalize (w233.setCell ⟨go220, ((ji216) : Int).toNat, none⟩ (.int .i64 t292)) = w235 at n0_ n1_ n2_ n3_ n4_ n5_ n6_ ⊢
      have HO1_1 := n0_
      have HO1_2 := n1_
      have BK242 := n2_
      have BK243 := n3_
      have BK244 := n4_
      have HK := n5_
      have HB := n6_
      clear n0_ n1_ n2_ n3_ n4_ n5_ n6_
      obtain ⟨hcz236_0, hcz236_1, hcz236_2, hfz236_0, hfz236_1, hfz236_2⟩ := Qv3 BK243.out
      obtain ⟨hcz237_0, hcz237_1, hcz237_2, hfz237_0, hfz237_1, hfz237_2⟩ := Qv3 BK244.out
      try go_wp2
      refine bodyPost_ret (results_cell_row rfl _ _ gb244 28 #[.int .i64 (wrap64 (a1_0 + 1)), .slice (some ⟨go220, 0, none⟩) l1_1.length co222, .slice Ao223 l1_2.length co223] (0, 0) _ rfl (by refine Qe ?_; refine blk_put (cs := #[.int .i64 (wrap64 (a1_0 + 1)), .slice (some ⟨go220, 0, none⟩) l1_1.length co222, .slice none 0 0]) ?_ 2 _ rfl; refine Qe ?_; refine blk_put (cs := #[.int .i64 (wrap64 (a1_0 + 1)), .slice none 0 0, .slice none 0 0]) ?_ 1 _ rfl; refine Qe ?_; refine blk_put (cs := #[.int .i64 0, .slice none 0 0, .slice none 0 0]) ?_ 0 _ rfl; exact Qa BK244.out) Try.underlying28 rfl (by kernel_rfl)) rfl ?_
      exact ⟨_, _, by first | rfl | (simp [errW_none, errW_some] <;> rfl) | (simp only [← hji216]; first | rfl | (simp [errW_none, errW_some] <;> rfl)) | (simp [*, errW_none, errW_some] <;> rfl), by refine Qf ?_; exact Kd.R_mono (Kd.R_far (p := ⟨gb244, 2, none⟩) (Kd.R_far (p := ⟨gb244, 1, none⟩) (Kd.R_far (p := ⟨gb244, 0, none⟩) (Kd.R_types HO1_1.out BK244.out (by decide)) (fun _ hk => hk.2) (.int .i64 (wrap64 (a1_0 + 1)))) (fun _ hk => hk.2) (.slice (some ⟨go220, 0, none⟩) l1_1.length co222)) (fun _ hk => hk.2) (.slice Ao223 l1_2.length co223)) (fun _ hk => ⟨hk.1.1, hk.1.2⟩), by refine Qf ?_; exact Kd.R_mono (Kd.R_far (p := ⟨gb244, 2, none⟩) (Kd.R_far (p := ⟨gb244, 1, none⟩) (Kd.R_far (p := ⟨gb244, 0, none⟩) (Kd.R_types HO1_2.out BK244.out (by decide)) (fun _ hk => hk.2) (.int .i64 (wrap64 (a1_0 + 1)))) (fun _ hk => hk.2) (.slice (some ⟨go220, 0, none⟩) l1_1.length co222)) (fun _ hk => hk.2) (.slice Ao223 l1_2.length co223)) (fun _ hk => ⟨hk.1.1, hk.1.2⟩), Qb HB.out, Qd HK.out⟩
     ·rw [if_neg c218] at H
      exact absurd H (by simp)
    ·rw [if_neg c217] at H
     exact absurd H (by simp)
   ·rw [if_neg c215] at H
    have c215b0 : (a0_0 == 10) = false := beq_eq_false_iff_ne.mpr c215
    have c215b1 : (a0_0 != 10) = true := bne_iff_ne.mpr c215
    exact spec_l7Change.calls_11 k a0_0 a0_1 a0_2 a0_3 a1_0 P1_1_ u9000_ l1_1 P1_2_ u9001_ l1_2 r1 r2 r3 w0 w HB.out ho1_1 hp1_1_1_2 ho1_2 hp1_2_1_1 c3 c19 c47 c75 c103 c124 c147 c169 c197 c215 H
end Go.Proofs.Ytlmiankjbffboaa.HFnExactRunMachine

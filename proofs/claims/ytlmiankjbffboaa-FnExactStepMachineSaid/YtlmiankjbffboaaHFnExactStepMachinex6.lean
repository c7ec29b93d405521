/- Text for FnExactStepMachine: written by a program of this session on the pattern of the kit's print. -/
import Derived.Test.YtlmiankjbffboaaHFnExactStepMachinex0
import Derived.Test.YtlmiankjbffboaaHFnExactStepMachinex2
import Derived.Test.YtlmiankjbffboaaHFnExactStepMachinex3
import Derived.Test.YtlmiankjbffboaaHFnExactStepMachinex5
namespace Go.Proofs.Ytlmiankjbffboaa.HFnExactStepMachine
set_option maxHeartbeats 8000000
set_option maxRecDepth 100000
open Go.RowKit Go.Proofs.YtlmiankjbffboaaW.PrintWords Go.Proofs.YtlmiankjbffboaaW.PrintLast Go.Proofs.YtlmiankjbffboaaW.PrintMore
attribute [local go_sem] max2_int min2_int max_two min_two max_three min_three max_four min_four   -- for this text's walks alone
set_option linter.unusedVariables false
set_option linter.unusedSimpArgs false

/-! ### spec_StepMachine: function 10 -/
def spec_StepMachine.f (k : Nat) (l0 : List (S48)) (a1_0 : Int) (l1_1 : List Int) (l1_2 : List Int) : Option (Int × List Int × List Int × Int) := (spec_IsMachine.f k l0 a1_0 l1_1 l1_2).bind fun t263 => (if t263 = true then ((spec_l7Why.f k l0 a1_0 l1_1 l1_2).bind fun t264 => (if t264 = 0 then (if 0 ≤ a1_0 then (if a1_0 < (l0.length : Int) then ((spec_l7Copy.f a1_0 l1_1 l1_2).bind fun bt266 => ((spec_l7Change.f k ((rd_T48 l0 a1_0).f0) ((rd_T48 l0 a1_0).f1) ((rd_T48 l0 a1_0).f2) ((rd_T48 l0 a1_0).f3) bt266.1 bt266.2.1 bt266.2.2).bind fun bt273 => (some (bt273.1, bt273.2.1, bt273.2.2, 0)))) else (none)) else (none)) else ((spec_l7Copy.f a1_0 l1_1 l1_2).bind fun bt280 => (some (bt280.1, bt280.2.1, bt280.2.2, t264))))) else (some (0, ([] : List Int), ([] : List Int), 0)))
theorem spec_StepMachine.mono : ∀ a0 a1 a2 a3 k, LeO (spec_StepMachine.f k a0 a1 a2 a3) (spec_StepMachine.f (k + 1) a0 a1 a2 a3) := by
 intro a0 a1 a2 a3 k
 unfold spec_StepMachine.f
 repeat' first
   | (with_reducible exact spec_IsMachine.mono _ _ _ _ _)
   | (with_reducible exact spec_l7Change.mono _ _ _ _ _ _ _ _)
   | (with_reducible exact spec_l7Why.mono _ _ _ _ _)
   | (with_reducible exact LeO.refl _)
   | (with_reducible exact LeO.none _)
   | (with_reducible refine LeO.ite ?_ ?_)
   | (with_reducible refine LeO.bind ?_ (fun _ => ?_))
   | exact spec_IsMachine.mono _ _ _ _ _
   | exact spec_l7Change.mono _ _ _ _ _ _ _ _
   | exact spec_l7Why.mono _ _ _ _ _
   | exact LeO.none _
   | refine LeO.ite ?_ ?_
   | refine LeO.bind ?_ (fun _ => ?_)
def spec_StepMachine.T6 : Bool × List (List Nat × List Nat) := (true, [([], []), ([], []), ([1], [1]), ([0, 2], [0, 2]), ([3], [3]), ([], []), ([5], [5]), ([4, 6, 6], [4, 6]), ([7, 7, 0, 1, 2, 3, 4, 5, 6, 7], [7]), ([8, 0, 1, 2, 3, 4, 5, 6, 7, 8], [])])
def spec_StepMachine.B6 : List Nat := [0, 0, 2, 7, 15, 0, 32, 127, 255, 511]
theorem spec_StepMachine.tab6 : rtab .any (opsOf Try.f10 6) = spec_StepMachine.T6 := by kernel_rfl
theorem spec_StepMachine.bits6 : waitsOk spec_StepMachine.T6.2 spec_StepMachine.B6 = true := by kernel_rfl
theorem spec_StepMachine.calls (k : Nat) (A0 : Option Addr) (c0 : Nat) (l0 : List (S48)) (a1_0 : Int) (A1_1 : Option Addr) (c1_1 : Nat) (l1_1 : List Int) (A1_2 : Option Addr) (c1_2 : Nat) (l1_2 : List Int) (r1 : Int) (r2 : List Int) (r3 : List Int) (r4 : Int) (w : World) (hr0 : Kd.C k48 w A0 l0.length l0) (hc0 : l0.length ≤ c0) (hr1_1 : Kd.C (Kd.int .i64) w A1_1 l1_1.length l1_1) (hc1_1 : l1_1.length ≤ c1_1) (hr1_2 : Kd.C (Kd.int .i64) w A1_2 l1_2.length l1_2) (hc1_2 : l1_2.length ≤ c1_2) (h : spec_StepMachine.f k l0 a1_0 l1_1 l1_2 = some (r1, r2, r3, r4)) :
  Calls Try.prog 10 #[.slice A0 l0.length c0, .agg #[.int .i64 a1_0, .slice A1_1 l1_1.length c1_1, .slice A1_2 l1_2.length c1_2]] w fun e w' => ∃ v1_ v2_ : Value, e = .returned (.tuple #[.agg #[.int .i64 r1, v1_, v2_], .int .i64 r4]) ∧ Kd.R (Kd.int .i64) 3 w' w.heap.size (fun k_ => some k_ ≠ (v2_ : Value).ownBlock) v1_ r2 ∧ Kd.R (Kd.int .i64) 3 w' w.heap.size (fun k_ => some k_ ≠ (v1_ : Value).ownBlock) v2_ r3 ∧ Below w.heap.size w w' := by
 have hu28 := Try.underlying28
 have hu48 := Try.underlying48
 have HR0 := Ak hr0
 have HC0 := Ak hc0
 clear hr0 hc0
 have HR1_1 := Ak hr1_1
 have HC1_1 := Ak hc1_1
 clear hr1_1 hc1_1
 have HR1_2 := Ak hr1_2
 have HC1_2 := Ak hc1_2
 clear hr1_2 hc1_2
 have HB := Ak (Below.refl w.heap.size w)
 have H : ((spec_IsMachine.f k l0 a1_0 l1_1 l1_2).bind fun t263 => (if t263 = true then ((spec_l7Why.f k l0 a1_0 l1_1 l1_2).bind fun t264 => (if t264 = 0 then (if 0 ≤ a1_0 then (if a1_0 < (l0.length : Int) then ((spec_l7Copy.f a1_0 l1_1 l1_2).bind fun bt266 => ((spec_l7Change.f k ((rd_T48 l0 a1_0).f0) ((rd_T48 l0 a1_0).f1) ((rd_T48 l0 a1_0).f2) ((rd_T48 l0 a1_0).f3) bt266.1 bt266.2.1 bt266.2.2).bind fun bt273 => (some (bt273.1, bt273.2.1, bt273.2.2, 0)))) else (none)) else (none)) else ((spec_l7Copy.f a1_0 l1_1 l1_2).bind fun bt280 => (some (bt280.1, bt280.2.1, bt280.2.2, t264))))) else (some (0, ([] : List Int), ([] : List Int), 0)))) = some (r1, r2, r3, r4) := h
 clear h
 replace H := Option.bind_eq_some_iff.mp H
 obtain ⟨t263, A30, H⟩ := H
 replace H : (if t263 = true then ((spec_l7Why.f k l0 a1_0 l1_1 l1_2).bind fun t264 => (if t264 = 0 then (if 0 ≤ a1_0 then (if a1_0 < (l0.length : Int) then ((spec_l7Copy.f a1_0 l1_1 l1_2).bind fun bt266 => ((spec_l7Change.f k ((rd_T48 l0 a1_0).f0) ((rd_T48 l0 a1_0).f1) ((rd_T48 l0 a1_0).f2) ((rd_T48 l0 a1_0).f3) bt266.1 bt266.2.1 bt266.2.2).bind fun bt273 => (some (bt273.1, bt273.2.1, bt273.2.2, 0)))) else (none)) else (none)) else ((spec_l7Copy.f a1_0 l1_1 l1_2).bind fun bt280 => (some (bt280.1, bt280.2.1, bt280.2.2, t264))))) else (some (0, ([] : List Int), ([] : List Int), 0))) = some (r1, r2, r3, r4) := H
 have A3 := Ak A30
 clear A30
 by_cases c4 : t263 = true
 ·(try subst c4)
  have H1 : ((spec_l7Why.f k l0 a1_0 l1_1 l1_2).bind fun t264 => (if t264 = 0 then (if 0 ≤ a1_0 then (if a1_0 < (l0.length : Int) then ((spec_l7Copy.f a1_0 l1_1 l1_2).bind fun bt266 => ((spec_l7Change.f k ((rd_T48 l0 a1_0).f0) ((rd_T48 l0 a1_0).f1) ((rd_T48 l0 a1_0).f2) ((rd_T48 l0 a1_0).f3) bt266.1 bt266.2.1 bt266.2.2).bind fun bt273 => (some (bt273.1, bt273.2.1, bt273.2.2, 0)))) else (none)) else (none)) else ((spec_l7Copy.f a1_0 l1_1 l1_2).bind fun bt280 => (some (bt280.1, bt280.2.1, bt280.2.2, t264))))) = some (r1, r2, r3, r4) := by rw [if_pos rfl] at H; exact H
  clear H
  have H := H1
  clear H1
  replace H := Option.bind_eq_some_iff.mp H
  obtain ⟨t264, A50, H⟩ := H
  replace H : (if t264 = 0 then (if 0 ≤ a1_0 then (if a1_0 < (l0.length : Int) then ((spec_l7Copy.f a1_0 l1_1 l1_2).bind fun bt266 => ((spec_l7Change.f k ((rd_T48 l0 a1_0).f0) ((rd_T48 l0 a1_0).f1) ((rd_T48 l0 a1_0).f2) ((rd_T48 l0 a1_0).f3) bt266.1 bt266.2.1 bt266.2.2).bind fun bt273 => (some (bt273.1, bt273.2.1, bt273.2.2, 0)))) else (none)) else (none)) else ((spec_l7Copy.f a1_0 l1_1 l1_2).bind fun bt280 => (some (bt280.1, bt280.2.1, bt280.2.2, t264)))) = some (r1, r2, r3, r4) := H
  have A5 := Ak A50
  clear A50
  by_cases c6 : t264 = 0
  ·rw [if_pos c6] at H
   have c6b0 : (t264 == 0) = true := beq_iff_eq.mpr c6
   have c6b1 : (t264 != 0) = false := bne_eq_false_iff_eq.mpr c6
   clear c6
   by_cases c7 : 0 ≤ a1_0
   ·rw [if_pos c7] at H
    have c7b0 : decide (0 ≤ a1_0) = true := decide_eq_true c7
    clear c7
    by_cases c8 : a1_0 < (l0.length : Int)
    ·rw [if_pos c8] at H
     have c8b0 : decide (a1_0 < (l0.length : Int)) = true := decide_eq_true c8
     clear c8
     replace H := Option.bind_eq_some_iff.mp H
     obtain ⟨⟨t266, t267, t270⟩, A90, H⟩ := H
     replace H : ((spec_l7Change.f k ((rd_T48 l0 a1_0).f0) ((rd_T48 l0 a1_0).f1) ((rd_T48 l0 a1_0).f2) ((rd_T48 l0 a1_0).f3) t266 t267 t270).bind fun bt273 => (some (bt273.1, bt273.2.1, bt273.2.2, 0))) = some (r1, r2, r3, r4) := H
     have A9 := Ak A90
     clear A90
     replace H := Option.bind_eq_some_iff.mp H
     obtain ⟨⟨t273, t274, t277⟩, A100, H⟩ := H
     replace H : (some (t273, t274, t277, 0)) = some (r1, r2, r3, r4) := H
     have A10 := Ak A100
     clear A100
     simp only [Option.some.injEq, Prod.mk.injEq] at H
     obtain ⟨rfl, rfl, rfl, rfl⟩ := H
     go_enter Try.func10, Try.ntmps10
     try go_wp2_with (first | ((with_reducible refine gate_dst (N := 3) rfl ?_); refine Qk 3 #[.int .i64 a1_0, .slice A1_1 l1_1.length c1_1, .slice A1_2 l1_2.length c1_2] 28 ?_; intro gb261 hg w11 hbox hb; have n0_ := Ak (below_step (Qb HB.out) hb); have n1_ := Ak (hbox); have n2_ := Ak ((Qp hg HB.out : w.heap.size ≤ gb261)); have n3_ := Ak ((Qp hg HB.out : w.heap.size ≤ gb261)); clear HB; have HB := n0_; have BK261 := n1_; have GW261 := n2_; have GE261 := n3_; clear n0_ n1_ n2_ n3_; clear hb hbox hg) | ((with_reducible refine gate_dst (N := 4) rfl ?_); refine Qk 4 #[.int .i64 0, .slice none 0 0, .slice none 0 0] 28 ?_; intro gb262 hg w12 hbox hb; have n0_ := Ak (Qm BK261.out hb); have n1_ := Ak (below_step (Qb HB.out) hb); have n2_ := Ak (hbox); have n3_ := Ak ((Qp hg HB.out : w.heap.size ≤ gb262)); have n4_ := Ak ((Qp hg HB.out : w.heap.size ≤ gb262)); have n5_ := Ak ((by rw [hg]; exact Nat.ne_of_lt (Qn BK261.out) : gb261 ≠ gb262)); have n6_ := Ak ((by rw [hg]; exact Nat.ne_of_gt (Qn BK261.out) : gb262 ≠ gb261)); clear BK261; clear HB; have BK261 := n0_; have HB := n1_; have BK262 := n2_; have GW262 := n3_; have GE262 := n4_; have NB261_262 := n5_; have NB262_261 := n6_; clear n0_ n1_ n2_ n3_ n4_ n5_ n6_; clear hb hbox hg; have hnb13 := NB261_262.out; have hnc13 := NB262_261.out; obtain ⟨hcz14_0, hcz14_1, hcz14_2⟩ := Qu3 BK261.out; have hfz14_0 := blk_frozen BK261.out 0; have hfz14_1 := blk_frozen BK261.out 1; have hfz14_2 := blk_frozen BK261.out 2) | ((with_reducible refine gate_callee (f := 24) rfl ?_); refine Qj (some 9) Try.func24 #[.slice A0 l0.length c0, .agg #[.int .i64 a1_0, .slice A1_1 l1_1.length c1_1, .slice A1_2 l1_2.length c1_2]] ?_; (with_reducible refine (spec_IsMachine.calls k _ _ l0 a1_0 _ _ l1_1 _ _ l1_2 true _ ?side1 ?side2 ?side3 ?side4 ?side5 ?side6 A3.out).mono ?_); (case side1 => repeat (first | exact (Kd.C_below HR0.out HB.out) | (with_reducible refine Kd.C_alloc ?_ _) | (with_reducible refine Kd.C_drewN ?_ _) | (with_reducible refine Kd.C_drew ?_))); (case side2 => exact HC0.out); (case side3 => repeat (first | exact (Kd.C_below HR1_1.out HB.out) | (with_reducible refine Kd.C_alloc ?_ _) | (with_reducible refine Kd.C_drewN ?_ _) | (with_reducible refine Kd.C_drew ?_))); (case side4 => exact HC1_1.out); (case side5 => repeat (first | exact (Kd.C_below HR1_2.out HB.out) | (with_reducible refine Kd.C_alloc ?_ _) | (with_reducible refine Kd.C_drewN ?_ _) | (with_reducible refine Kd.C_drew ?_))); (case side6 => exact HC1_2.out); rintro e w15 ⟨rfl, hb⟩; refine ⟨_, rfl, ?_⟩; have n0_ := Ak (Qm BK261.out hb); have n1_ := Ak (Qm BK262.out hb); have n2_ := Ak (below_step (Qb HB.out) hb); clear BK261; clear BK262; clear HB; have BK261 := n0_; have BK262 := n1_; have HB := n2_; clear n0_ n1_ n2_; (try clear hb); (try clear hb2); (try clear hk); (try clear hi); obtain ⟨hcz16_0, hcz16_1, hcz16_2⟩ := Qu3 BK261.out; have hfz16_0 := blk_frozen BK261.out 0; have hfz16_1 := blk_frozen BK261.out 1; have hfz16_2 := blk_frozen BK261.out 2) | ((with_reducible refine gate_callee (f := 36) rfl ?_); refine Qj (some 14) Try.func36 #[.slice A0 l0.length c0, .agg #[.int .i64 a1_0, .slice A1_1 l1_1.length c1_1, .slice A1_2 l1_2.length c1_2]] ?_; (with_reducible refine (spec_l7Why.calls k _ _ l0 a1_0 _ _ l1_1 _ _ l1_2 t264 _ ?side1 ?side2 ?side3 ?side4 ?side5 ?side6 A5.out).mono ?_); (case side1 => repeat (first | exact (Kd.C_below HR0.out HB.out) | (with_reducible refine Kd.C_alloc ?_ _) | (with_reducible refine Kd.C_drewN ?_ _) | (with_reducible refine Kd.C_drew ?_))); (case side2 => exact HC0.out); (case side3 => repeat (first | exact (Kd.C_below HR1_1.out HB.out) | (with_reducible refine Kd.C_alloc ?_ _) | (with_reducible refine Kd.C_drewN ?_ _) | (with_reducible refine Kd.C_drew ?_))); (case side4 => exact HC1_1.out); (case side5 => repeat (first | exact (Kd.C_below HR1_2.out HB.out) | (with_reducible refine Kd.C_alloc ?_ _) | (with_reducible refine Kd.C_drewN ?_ _) | (with_reducible refine Kd.C_drew ?_))); (case side6 => exact HC1_2.out); rintro e w17 ⟨rfl, hb⟩; refine ⟨_, rfl, ?_⟩; have n0_ := Ak (Qm BK261.out hb); have n1_ := Ak (Qm BK262.out hb); have n2_ := Ak (below_step (Qb HB.out) hb); clear BK261; clear BK262; clear HB; have BK261 := n0_; have BK262 := n1_; have HB := n2_; clear n0_ n1_ n2_; (try clear hb); (try clear hb2); (try clear hk); (try clear hi)))
     have n0_ := Ak (blk_drew BK261.out)
     have n1_ := Ak (blk_drew BK262.out)
     have n2_ := Ak (below_drew1 HB.out)
     clear BK261
     clear BK262
     clear HB
     have BK261 := n0_
     have BK262 := n1_
     have HB := n2_
     clear n0_ n1_ n2_
     have p265 : 0 ≤ (a1_0 : Int) := Qg
     have q265 : a1_0 < (l0.length : Int) := Qg
     obtain ⟨ad265, e265, hx265_0, hx265_1, hx265_2, hx265_3⟩ := at_T48 HR0.out a1_0 p265 q265
     have hw265_3 := hx265_3
     have hw265_2 := hx265_2
     have hw265_1 := hx265_1
     have hw265_0 := hx265_0
     cases e265
     (try replace hx265_0 := (HB.out.cell (World.block_lt_of_cell? w _ hx265_0)).trans hx265_0)
     (try replace hx265_1 := (HB.out.cell (World.block_lt_of_cell? w _ hx265_1)).trans hx265_1)
     (try replace hx265_2 := (HB.out.cell (World.block_lt_of_cell? w _ hx265_2)).trans hx265_2)
     (try replace hx265_3 := (HB.out.cell (World.block_lt_of_cell? w _ hx265_3)).trans hx265_3)
     replace p265 := eq_true p265
     replace q265 := eq_true q265
     refine start_ (n := 10) (S := fun w' => w'.cell? ⟨gb261, 0, none⟩ = some (.int .i64 a1_0) ∧ w'.cell? ⟨gb261, 1, none⟩ = some (.slice A1_1 l1_1.length c1_1) ∧ w'.cell? ⟨gb261, 2, none⟩ = some (.slice A1_2 l1_2.length c1_2) ∧ w'.cell? (ad265.add ((a1_0).toNat * 4)) = some (.int .i64 ((rd_T48 l0 a1_0).f0)) ∧ w'.cell? ⟨(ad265.add ((a1_0).toNat * 4)).block, (ad265.add ((a1_0).toNat * 4)).off + 1, none⟩ = some (.int .i64 ((rd_T48 l0 a1_0).f1)) ∧ w'.cell? ⟨(ad265.add ((a1_0).toNat * 4)).block, (ad265.add ((a1_0).toNat * 4)).off + 2, none⟩ = some (.int .i64 ((rd_T48 l0 a1_0).f2)) ∧ w'.cell? ⟨(ad265.add ((a1_0).toNat * 4)).block, (ad265.add ((a1_0).toNat * 4)).off + 3, none⟩ = some (.int .i64 ((rd_T48 l0 a1_0).f3))) (ds := []) #[false, false, false, false, false, false, false, false, false, false] (by kernel_rfl) rfl rfl ⟨(blk_cell BK261.out 0).trans rfl, (blk_cell BK261.out 1).trans rfl, (blk_cell BK261.out 2).trans rfl, ((HB.out.cell (World.block_lt_of_cell? w _ hw265_0)).trans hw265_0), ((HB.out.cell (World.block_lt_of_cell? w _ hw265_1)).trans hw265_1), ((HB.out.cell (World.block_lt_of_cell? w _ hw265_2)).trans hw265_2), ((HB.out.cell (World.block_lt_of_cell? w _ hw265_3)).trans hw265_3)⟩ (fun hHeld => ?_); refine with_tabW spec_StepMachine.tab6 spec_StepMachine.bits6 (fun HT_ HW_ => ?_)
     generalize w17.drew = w18 at BK261 BK262 HB hx265_0 hx265_1 hx265_2 hx265_3 hHeld ⊢
     refine Qq 0 (some 20) ?_
     refine Qq 1 (some 21) ?_
     refine Qr 2 (some 22) hHeld ?_
     refine Qq 3 (some 23) ?_
     refine Qr 4 (some 24) hHeld ?_
     refine Qr 5 (some 25) hHeld ?_
     refine Qs 6 (some 26) (fun K hK => ?_)
     refine goes_ Try.func37 (by kernel_rfl) rfl #[.agg #[.int .i64 a1_0, .slice A1_1 l1_1.length c1_1, .slice A1_2 l1_2.length c1_2]] (by rfl) rfl rfl (by (try simp only [List.map_toArray, List.map_cons, List.map_nil]); first | done | rfl | (simp only [List.length_drop, List.length_take]; rfl)) ?_
     with_reducible refine (spec_l7Copy.calls a1_0 _ _ l1_1 _ _ l1_2 t266 t267 t270 _ ?side1 ?side2 ?side3 ?side4 A9.out).mono ?_
     (case side1 => repeat (first | exact (Kd.C_below HR1_1.out HB.out) | (with_reducible refine Kd.C_alloc ?_ _) | (with_reducible refine Kd.C_drewN ?_ _) | (with_reducible refine Kd.C_drew ?_)))
     (case side2 => exact HC1_1.out)
     (case side3 => repeat (first | exact (Kd.C_below HR1_2.out HB.out) | (with_reducible refine Kd.C_alloc ?_ _) | (with_reducible refine Kd.C_drewN ?_ _) | (with_reducible refine Kd.C_drew ?_)))
     (case side4 => exact HC1_2.out)
     rintro e w19 ⟨v268, v271, rfl, ho0, ho1, hb⟩
     refine ⟨_, rfl, ?_⟩
     have n0_ := Ak (Kd.R_lower ho0 (below_size (Qb HB.out)))
     have n1_ := Ak (Kd.R_lower ho1 (below_size (Qb HB.out)))
     have n2_ := Ak (Qm BK261.out hb)
     have n3_ := Ak (Qm BK262.out hb)
     have n4_ := Ak (below_step (Qb HB.out) hb)
     clear BK261
     clear BK262
     clear HB
     have HO269 := n0_
     have HO272 := n1_
     have BK261 := n2_
     have BK262 := n3_
     have HB := n4_
     clear n0_ n1_ n2_ n3_ n4_
     (try clear hb)
     (try clear hb2)
     (try clear hk)
     (try clear hi)
     (try clear ho0)
     (try clear ho1)
     obtain ⟨Ao20, co20, eo20⟩ := Kd.R_slice HO269.out
     (first | subst eo20 | (injection eo20 with f1_ f2_ f3_; have f4_ := f1_.symm; have f5_ := f3_.symm; clear f1_ f2_ f3_; subst f4_; subst f5_))
     obtain ⟨Ao21, co21, eo21⟩ := Kd.R_slice HO272.out
     (first | subst eo21 | (injection eo21 with f1_ f2_ f3_; have f4_ := f1_.symm; have f5_ := f3_.symm; clear f1_ f2_ f3_; subst f4_; subst f5_))
     refine hK.out _ _ ⟨(blk_cell BK261.out 0).trans rfl, (blk_cell BK261.out 1).trans rfl, (blk_cell BK261.out 2).trans rfl, ((HB.out.cell (World.block_lt_of_cell? w _ hw265_0)).trans hw265_0), ((HB.out.cell (World.block_lt_of_cell? w _ hw265_1)).trans hw265_1), ((HB.out.cell (World.block_lt_of_cell? w _ hw265_2)).trans hw265_2), ((HB.out.cell (World.block_lt_of_cell? w _ hw265_3)).trans hw265_3)⟩ (fun hHeld => ?_)
     clear hK K
     refine norm_ (a' := ?_) ?_ ?_
     rotate_left
     ·show Act.put _ (some 26) _ = _
      simp only [Act.put, List.setIfInBounds_toArray, List.set_cons_zero, List.set_cons_succ, i64_w, i32_w]
      rfl
     refine Qs 7 (some 27) (fun K hK => ?_)
     refine goes_ Try.func38 (by kernel_rfl) rfl #[.agg #[.int .i64 ((rd_T48 l0 a1_0).f0), .int .i64 ((rd_T48 l0 a1_0).f1), .int .i64 ((rd_T48 l0 a1_0).f2), .int .i64 ((rd_T48 l0 a1_0).f3)], .agg #[.int .i64 t266, .slice Ao20 t267.length co20, .slice Ao21 t270.length co21]] (by rfl) rfl rfl (by (try simp only [List.map_toArray, List.map_cons, List.map_nil]); first | done | rfl | (simp only [List.length_drop, List.length_take]; rfl)) ?_
     with_reducible refine (spec_l7Change.calls k ((rd_T48 l0 a1_0).f0) ((rd_T48 l0 a1_0).f1) ((rd_T48 l0 a1_0).f2) ((rd_T48 l0 a1_0).f3) t266 (fun k_ => some k_ = (.slice Ao20 t267.length co20 : Value).ownBlock) (.slice Ao20 t267.length co20) t267 (fun k_ => some k_ = (.slice Ao21 t270.length co21 : Value).ownBlock) (.slice Ao21 t270.length co21) t270 t273 t274 t277 w _ ?side1 ?side2 ?side3 ?side4 ?side5 A10.out).mono ?_
     (case side1 => repeat (first | (with_reducible first | exact HB.out | apply below_alloc | apply pw_below_drewN | apply below_drew1 | refine below_set ?_ GE261.out | refine below_set ?_ GE262.out) | exact HB.out))
     (case side2 => exact Kd.R_tight rfl HO269.out)
     (case side3 => exact fun k_ e_ => (HO269.out.1 k_ e_.symm))
     (case side4 => exact Kd.R_tight rfl HO272.out)
     (case side5 => exact fun k_ e_ => (HO272.out.1 k_ e_.symm))
     rintro e w22 ⟨v275, v278, rfl, ho0, ho1, hb, hkp⟩
     refine ⟨_, rfl, ?_⟩
     have n0_ := Ak (blk_kept (Qa BK261.out) hkp (fun hs_ => Or.elim hs_ (fun e_ => (fun e_ => (Kd.R_ne HO269.out BK261.out (by decide)) e_) e_) (fun e_ => (fun e_ => (Kd.R_ne HO272.out BK261.out (by decide)) e_) e_)))
     have n1_ := Ak (blk_kept (Qa BK262.out) hkp (fun hs_ => Or.elim hs_ (fun e_ => (fun e_ => (Kd.R_ne HO269.out BK262.out (by decide)) e_) e_) (fun e_ => (fun e_ => (Kd.R_ne HO272.out BK262.out (by decide)) e_) e_)))
     have n2_ := Ak (Kd.R_mono (ok' := fun k_ => some k_ ≠ (v278 : Value).ownBlock) ho0 (fun k_ hk_ => hk_.2))
     have n3_ := Ak (Kd.R_mono (ok' := fun k_ => some k_ ≠ (v275 : Value).ownBlock) ho1 (fun k_ hk_ => hk_.2))
     have n4_ := Ak (hb)
     clear BK261
     clear BK262
     clear HB
     clear HO269
     clear HO272
     have BK261 := n0_
     have BK262 := n1_
     have HO276 := n2_
     have HO279 := n3_
     have HB := n4_
     clear n0_ n1_ n2_ n3_ n4_
     (try clear hb)
     (try clear hkp)
     (try clear ho0)
     (try clear ho1)
     obtain ⟨Ao24, co24, eo24⟩ := Kd.R_slice HO276.out
     (first | subst eo24 | (injection eo24 with f1_ f2_ f3_; have f4_ := f1_.symm; have f5_ := f3_.symm; clear f1_ f2_ f3_; subst f4_; subst f5_))
     obtain ⟨Ao26, co26, eo26⟩ := Kd.R_slice HO279.out
     (first | subst eo26 | (injection eo26 with f1_ f2_ f3_; have f4_ := f1_.symm; have f5_ := f3_.symm; clear f1_ f2_ f3_; subst f4_; subst f5_))
     refine hK.out _ _ ⟨(blk_cell BK261.out 0).trans rfl, (blk_cell BK261.out 1).trans rfl, (blk_cell BK261.out 2).trans rfl, ((HB.out.cell (World.block_lt_of_cell? w _ hw265_0)).trans hw265_0), ((HB.out.cell (World.block_lt_of_cell? w _ hw265_1)).trans hw265_1), ((HB.out.cell (World.block_lt_of_cell? w _ hw265_2)).trans hw265_2), ((HB.out.cell (World.block_lt_of_cell? w _ hw265_3)).trans hw265_3)⟩ (fun hHeld => ?_)
     clear hK K
     refine norm_ (a' := ?_) ?_ ?_
     rotate_left
     ·show Act.put _ (some 27) _ = _
      simp only [Act.put, List.setIfInBounds_toArray, List.set_cons_zero, List.set_cons_succ, i64_w, i32_w]
      rfl
     refine Qs 8 none (fun K hK => ?_)
     have hs23 : w22.cell? ⟨gb262, 0, none⟩ = some (.int .i64 0) := (blk_cell BK262.out 0).trans rfl
     have hfs23 := blk_frozen BK262.out 0
     have hns23_0 := NB261_262.out
     have hms23_0 := NB262_261.out
     have hs25 : w22.cell? ⟨gb262, 1, none⟩ = some (.slice none 0 0) := (blk_cell BK262.out 1).trans rfl
     have hfs25 := blk_frozen BK262.out 1
     have hns25_0 := NB261_262.out
     have hms25_0 := NB262_261.out
     have hs27 : w22.cell? ⟨gb262, 2, none⟩ = some (.slice none 0 0) := (blk_cell BK262.out 2).trans rfl
     have hfs27 := blk_frozen BK262.out 2
     have hns27_0 := NB261_262.out
     have hms27_0 := NB262_261.out
     refine skip_ (w1 := ?_) (by rfl) rfl ?_ ?_
     rotate_left
     ·go_simp
      rfl
     refine hK.out _ _ ⟨((cell_far (p := ⟨gb262, _, none⟩) NB261_262.out _).trans (((cell_far (p := ⟨gb262, _, none⟩) NB261_262.out _).trans (((cell_far (p := ⟨gb262, _, none⟩) NB261_262.out _).trans (hHeld.1)))))), ((cell_far (p := ⟨gb262, _, none⟩) NB261_262.out _).trans (((cell_far (p := ⟨gb262, _, none⟩) NB261_262.out _).trans (((cell_far (p := ⟨gb262, _, none⟩) NB261_262.out _).trans (hHeld.2.1)))))), ((cell_far (p := ⟨gb262, _, none⟩) NB261_262.out _).trans (((cell_far (p := ⟨gb262, _, none⟩) NB261_262.out _).trans (((cell_far (p := ⟨gb262, _, none⟩) NB261_262.out _).trans (hHeld.2.2.1)))))), ((cell_far (p := ⟨gb262, _, none⟩) (by first | exact Nat.ne_of_lt (Nat.lt_of_lt_of_le (by have := World.block_lt_of_cell? _ _ hw265_0; first | rwa [add_block] at this | exact this) GW262.out) | (rw [add_block]; exact Nat.ne_of_lt (Nat.lt_of_lt_of_le (by have := World.block_lt_of_cell? _ _ hw265_0; first | rwa [add_block] at this | exact this) GW262.out)) | (show (Addr.add _ _).block ≠ _; rw [add_block]; exact Nat.ne_of_lt (Nat.lt_of_lt_of_le (by have := World.block_lt_of_cell? _ _ hw265_0; first | rwa [add_block] at this | exact this) GW262.out)) | (dsimp only; exact Nat.ne_of_lt (Nat.lt_of_lt_of_le (by have := World.block_lt_of_cell? _ _ hw265_0; first | rwa [add_block] at this | exact this) GW262.out))) _).trans (((cell_far (p := ⟨gb262, _, none⟩) (by first | exact Nat.ne_of_lt (Nat.lt_of_lt_of_le (by have := World.block_lt_of_cell? _ _ hw265_0; first | rwa [add_block] at this | exact this) GW262.out) | (rw [add_block]; exact Nat.ne_of_lt (Nat.lt_of_lt_of_le (by have := World.block_lt_of_cell? _ _ hw265_0; first | rwa [add_block] at this | exact this) GW262.out)) | (show (Addr.add _ _).block ≠ _; rw [add_block]; exact Nat.ne_of_lt (Nat.lt_of_lt_of_le (by have := World.block_lt_of_cell? _ _ hw265_0; first | rwa [add_block] at this | exact this) GW262.out)) | (dsimp only; exact Nat.ne_of_lt (Nat.lt_of_lt_of_le (by have := World.block_lt_of_cell? _ _ hw265_0; first | rwa [add_block] at this | exact this) GW262.out))) _).trans (((cell_far (p := ⟨gb262, _, none⟩) (by first | exact Nat.ne_of_lt (Nat.lt_of_lt_of_le (by have := World.block_lt_of_cell? _ _ hw265_0; first | rwa [add_block] at this | exact this) GW262.out) | (rw [add_block]; exact Nat.ne_of_lt (Nat.lt_of_lt_of_le (by have := World.block_lt_of_cell? _ _ hw265_0; first | rwa [add_block] at this | exact this) GW262.out)) | (show (Addr.add _ _).block ≠ _; rw [add_block]; exact Nat.ne_of_lt (Nat.lt_of_lt_of_le (by have := World.block_lt_of_cell? _ _ hw265_0; first | rwa [add_block] at this | exact this) GW262.out)) | (dsimp only; exact Nat.ne_of_lt (Nat.lt_of_lt_of_le (by have := World.block_lt_of_cell? _ _ hw265_0; first | rwa [add_block] at this | exact this) GW262.out))) _).trans (hHeld.2.2.2.1)))))), ((cell_far (p := ⟨gb262, _, none⟩) (by first | exact Nat.ne_of_lt (Nat.lt_of_lt_of_le (by have := World.block_lt_of_cell? _ _ hw265_1; first | rwa [add_block] at this | exact this) GW262.out) | (rw [add_block]; exact Nat.ne_of_lt (Nat.lt_of_lt_of_le (by have := World.block_lt_of_cell? _ _ hw265_1; first | rwa [add_block] at this | exact this) GW262.out)) | (show (Addr.add _ _).block ≠ _; rw [add_block]; exact Nat.ne_of_lt (Nat.lt_of_lt_of_le (by have := World.block_lt_of_cell? _ _ hw265_1; first | rwa [add_block] at this | exact this) GW262.out)) | (dsimp only; exact Nat.ne_of_lt (Nat.lt_of_lt_of_le (by have := World.block_lt_of_cell? _ _ hw265_1; first | rwa [add_block] at this | exact this) GW262.out))) _).trans (((cell_far (p := ⟨gb262, _, none⟩) (by first | exact Nat.ne_of_lt (Nat.lt_of_lt_of_le (by have := World.block_lt_of_cell? _ _ hw265_1; first | rwa [add_block] at this | exact this) GW262.out) | (rw [add_block]; exact Nat.ne_of_lt (Nat.lt_of_lt_of_le (by have := World.block_lt_of_cell? _ _ hw265_1; first | rwa [add_block] at this | exact this) GW262.out)) | (show (Addr.add _ _).block ≠ _; rw [add_block]; exact Nat.ne_of_lt (Nat.lt_of_lt_of_le (by have := World.block_lt_of_cell? _ _ hw265_1; first | rwa [add_block] at this | exact this) GW262.out)) | (dsimp only; exact Nat.ne_of_lt (Nat.lt_of_lt_of_le (by have := World.block_lt_of_cell? _ _ hw265_1; first | rwa [add_block] at this | exact this) GW262.out))) _).trans (((cell_far (p := ⟨gb262, _, none⟩) (by first | exact Nat.ne_of_lt (Nat.lt_of_lt_of_le (by have := World.block_lt_of_cell? _ _ hw265_1; first | rwa [add_block] at this | exact this) GW262.out) | (rw [add_block]; exact Nat.ne_of_lt (Nat.lt_of_lt_of_le (by have := World.block_lt_of_cell? _ _ hw265_1; first | rwa [add_block] at this | exact this) GW262.out)) | (show (Addr.add _ _).block ≠ _; rw [add_block]; exact Nat.ne_of_lt (Nat.lt_of_lt_of_le (by have := World.block_lt_of_cell? _ _ hw265_1; first | rwa [add_block] at this | exact this) GW262.out)) | (dsimp only; exact Nat.ne_of_lt (Nat.lt_of_lt_of_le (by have := World.block_lt_of_cell? _ _ hw265_1; first | rwa [add_block] at this | exact this) GW262.out))) _).trans (hHeld.2.2.2.2.1)))))), ((cell_far (p := ⟨gb262, _, none⟩) (by first | exact Nat.ne_of_lt (Nat.lt_of_lt_of_le (by have := World.block_lt_of_cell? _ _ hw265_2; first | rwa [add_block] at this | exact this) GW262.out) | (rw [add_block]; exact Nat.ne_of_lt (Nat.lt_of_lt_of_le (by have := World.block_lt_of_cell? _ _ hw265_2; first | rwa [add_block] at this | exact this) GW262.out)) | (show (Addr.add _ _).block ≠ _; rw [add_block]; exact Nat.ne_of_lt (Nat.lt_of_lt_of_le (by have := World.block_lt_of_cell? _ _ hw265_2; first | rwa [add_block] at this | exact this) GW262.out)) | (dsimp only; exact Nat.ne_of_lt (Nat.lt_of_lt_of_le (by have := World.block_lt_of_cell? _ _ hw265_2; first | rwa [add_block] at this | exact this) GW262.out))) _).trans (((cell_far (p := ⟨gb262, _, none⟩) (by first | exact Nat.ne_of_lt (Nat.lt_of_lt_of_le (by have := World.block_lt_of_cell? _ _ hw265_2; first | rwa [add_block] at this | exact this) GW262.out) | (rw [add_block]; exact Nat.ne_of_lt (Nat.lt_of_lt_of_le (by have := World.block_lt_of_cell? _ _ hw265_2; first | rwa [add_block] at this | exact this) GW262.out)) | (show (Addr.add _ _).block ≠ _; rw [add_block]; exact Nat.ne_of_lt (Nat.lt_of_lt_of_le (by have := World.block_lt_of_cell? _ _ hw265_2; first | rwa [add_block] at this | exact this) GW262.out)) | (dsimp only; exact Nat.ne_of_lt (Nat.lt_of_lt_of_le (by have := World.block_lt_of_cell? _ _ hw265_2; first | rwa [add_block] at this | exact this) GW262.out))) _).trans (((cell_far (p := ⟨gb262, _, none⟩) (by first | exact Nat.ne_of_lt (Nat.lt_of_lt_of_le (by have := World.block_lt_of_cell? _ _ hw265_2; first | rwa [add_block] at this | exact this) GW262.out) | (rw [add_block]; exact Nat.ne_of_lt (Nat.lt_of_lt_of_le (by have := World.block_lt_of_cell? _ _ hw265_2; first | rwa [add_block] at this | exact this) GW262.out)) | (show (Addr.add _ _).block ≠ _; rw [add_block]; exact Nat.ne_of_lt (Nat.lt_of_lt_of_le (by have := World.block_lt_of_cell? _ _ hw265_2; first | rwa [add_block] at this | exact this) GW262.out)) | (dsimp only; exact Nat.ne_of_lt (Nat.lt_of_lt_of_le (by have := World.block_lt_of_cell? _ _ hw265_2; first | rwa [add_block] at this | exact this) GW262.out))) _).trans (hHeld.2.2.2.2.2.1)))))), ((cell_far (p := ⟨gb262, _, none⟩) (by first | exact Nat.ne_of_lt (Nat.lt_of_lt_of_le (by have := World.block_lt_of_cell? _ _ hw265_3; first | rwa [add_block] at this | exact this) GW262.out) | (rw [add_block]; exact Nat.ne_of_lt (Nat.lt_of_lt_of_le (by have := World.block_lt_of_cell? _ _ hw265_3; first | rwa [add_block] at this | exact this) GW262.out)) | (show (Addr.add _ _).block ≠ _; rw [add_block]; exact Nat.ne_of_lt (Nat.lt_of_lt_of_le (by have := World.block_lt_of_cell? _ _ hw265_3; first | rwa [add_block] at this | exact this) GW262.out)) | (dsimp only; exact Nat.ne_of_lt (Nat.lt_of_lt_of_le (by have := World.block_lt_of_cell? _ _ hw265_3; first | rwa [add_block] at this | exact this) GW262.out))) _).trans (((cell_far (p := ⟨gb262, _, none⟩) (by first | exact Nat.ne_of_lt (Nat.lt_of_lt_of_le (by have := World.block_lt_of_cell? _ _ hw265_3; first | rwa [add_block] at this | exact this) GW262.out) | (rw [add_block]; exact Nat.ne_of_lt (Nat.lt_of_lt_of_le (by have := World.block_lt_of_cell? _ _ hw265_3; first | rwa [add_block] at this | exact this) GW262.out)) | (show (Addr.add _ _).block ≠ _; rw [add_block]; exact Nat.ne_of_lt (Nat.lt_of_lt_of_le (by have := World.block_lt_of_cell? _ _ hw265_3; first | rwa [add_block] at this | exact this) GW262.out)) | (dsimp only; exact Nat.ne_of_lt (Nat.lt_of_lt_of_le (by have := World.block_lt_of_cell? _ _ hw265_3; first | rwa [add_block] at this | exact this) GW262.out))) _).trans (((cell_far (p := ⟨gb262, _, none⟩) (by first | exact Nat.ne_of_lt (Nat.lt_of_lt_of_le (by have := World.block_lt_of_cell? _ _ hw265_3; first | rwa [add_block] at this | exact this) GW262.out) | (rw [add_block]; exact Nat.ne_of_lt (Nat.lt_of_lt_of_le (by have := World.block_lt_of_cell? _ _ hw265_3; first | rwa [add_block] at this | exact this) GW262.out)) | (show (Addr.add _ _).block ≠ _; rw [add_block]; exact Nat.ne_of_lt (Nat.lt_of_lt_of_le (by have := World.block_lt_of_cell? _ _ hw265_3; first | rwa [add_block] at this | exact this) GW262.out)) | (dsimp only; exact Nat.ne_of_lt (Nat.lt_of_lt_of_le (by have := World.block_lt_of_cell? _ _ hw265_3; first | rwa [add_block] at this | exact this) GW262.out))) _).trans (hHeld.2.2.2.2.2.2))))))⟩ (fun hHeld => ?_)
     clear hK K
     refine Qq 9 (some 5) ?_
     refine done_ (done_of HT_.out (by kernel_rfl)) ?_
     try go_wp2
     refine bodyPost_ret (results_ct rfl _ _ gb262 28 #[.int .i64 t273, .slice Ao24 t274.length co24, .slice Ao26 t277.length co26] (0, 0) _ rfl (by refine Qe ?_; refine blk_put (cs := #[.int .i64 t273, .slice Ao24 t274.length co24, .slice none 0 0]) ?_ 2 _ rfl; refine Qe ?_; refine blk_put (cs := #[.int .i64 t273, .slice none 0 0, .slice none 0 0]) ?_ 1 _ rfl; refine Qe ?_; refine blk_put (cs := #[.int .i64 0, .slice none 0 0, .slice none 0 0]) ?_ 0 _ rfl; exact Qa BK262.out) Try.underlying28 rfl (by kernel_rfl)) rfl ?_
     exact ⟨_, _, Qh, by refine Qf ?_; exact Kd.R_mono (Kd.R_far (p := ⟨gb262, 2, none⟩) (Kd.R_far (p := ⟨gb262, 1, none⟩) (Kd.R_far (p := ⟨gb262, 0, none⟩) (Kd.R_types HO276.out BK262.out (by decide)) (fun _ hk => hk.2) (.int .i64 t273)) (fun _ hk => hk.2) (.slice Ao24 t274.length co24)) (fun _ hk => hk.2) (.slice Ao26 t277.length co26)) (fun _ hk => hk.1), by refine Qf ?_; exact Kd.R_mono (Kd.R_far (p := ⟨gb262, 2, none⟩) (Kd.R_far (p := ⟨gb262, 1, none⟩) (Kd.R_far (p := ⟨gb262, 0, none⟩) (Kd.R_types HO279.out BK262.out (by decide)) (fun _ hk => hk.2) (.int .i64 t273)) (fun _ hk => hk.2) (.slice Ao24 t274.length co24)) (fun _ hk => hk.2) (.slice Ao26 t277.length co26)) (fun _ hk => hk.1), Qb HB.out⟩
    ·rw [if_neg c8] at H
     exact absurd H (by simp)
   ·rw [if_neg c7] at H
    exact absurd H (by simp)
  ·rw [if_neg c6] at H
   have c6b0 : (t264 == 0) = false := beq_eq_false_iff_ne.mpr c6
   have c6b1 : (t264 != 0) = true := bne_iff_ne.mpr c6
   replace H := Option.bind_eq_some_iff.mp H
   obtain ⟨⟨t280, t281, t284⟩, A280, H⟩ := H
   replace H : (some (t280, t281, t284, t264)) = some (r1, r2, r3, r4) := H
   have A28 := Ak A280
   clear A280
   simp only [Option.some.injEq, Prod.mk.injEq] at H
   obtain ⟨rfl, rfl, rfl, rfl⟩ := H
   go_enter Try.func10, Try.ntmps10
   go_wp2_with (first | ((with_reducible refine gate_dst (N := 3) rfl ?_); refine Qk 3 #[.int .i64 a1_0, .slice A1_1 l1_1.length c1_1, .slice A1_2 l1_2.length c1_2] 28 ?_; intro gb261 hg w29 hbox hb; have n0_ := Ak (below_step (Qb HB.out) hb); have n1_ := Ak (hbox); have n2_ := Ak ((Qp hg HB.out : w.heap.size ≤ gb261)); have n3_ := Ak ((Qp hg HB.out : w.heap.size ≤ gb261)); clear HB; have HB := n0_; have BK261 := n1_; have GW261 := n2_; have GE261 := n3_; clear n0_ n1_ n2_ n3_; clear hb hbox hg) | ((with_reducible refine gate_dst (N := 4) rfl ?_); refine Qk 4 #[.int .i64 0, .slice none 0 0, .slice none 0 0] 28 ?_; intro gb262 hg w30 hbox hb; have n0_ := Ak (Qm BK261.out hb); have n1_ := Ak (below_step (Qb HB.out) hb); have n2_ := Ak (hbox); have n3_ := Ak ((Qp hg HB.out : w.heap.size ≤ gb262)); have n4_ := Ak ((Qp hg HB.out : w.heap.size ≤ gb262)); have n5_ := Ak ((by rw [hg]; exact Nat.ne_of_lt (Qn BK261.out) : gb261 ≠ gb262)); have n6_ := Ak ((by rw [hg]; exact Nat.ne_of_gt (Qn BK261.out) : gb262 ≠ gb261)); clear BK261; clear HB; have BK261 := n0_; have HB := n1_; have BK262 := n2_; have GW262 := n3_; have GE262 := n4_; have NB261_262 := n5_; have NB262_261 := n6_; clear n0_ n1_ n2_ n3_ n4_ n5_ n6_; clear hb hbox hg; have hnb31 := NB261_262.out; have hnc31 := NB262_261.out; obtain ⟨hcz32_0, hcz32_1, hcz32_2⟩ := Qu3 BK261.out; have hfz32_0 := blk_frozen BK261.out 0; have hfz32_1 := blk_frozen BK261.out 1; have hfz32_2 := blk_frozen BK261.out 2) | ((with_reducible refine gate_callee (f := 24) rfl ?_); refine Qj (some 9) Try.func24 #[.slice A0 l0.length c0, .agg #[.int .i64 a1_0, .slice A1_1 l1_1.length c1_1, .slice A1_2 l1_2.length c1_2]] ?_; (with_reducible refine (spec_IsMachine.calls k _ _ l0 a1_0 _ _ l1_1 _ _ l1_2 true _ ?side1 ?side2 ?side3 ?side4 ?side5 ?side6 A3.out).mono ?_); (case side1 => repeat (first | exact (Kd.C_below HR0.out HB.out) | (with_reducible refine Kd.C_alloc ?_ _) | (with_reducible refine Kd.C_drewN ?_ _) | (with_reducible refine Kd.C_drew ?_))); (case side2 => exact HC0.out); (case side3 => repeat (first | exact (Kd.C_below HR1_1.out HB.out) | (with_reducible refine Kd.C_alloc ?_ _) | (with_reducible refine Kd.C_drewN ?_ _) | (with_reducible refine Kd.C_drew ?_))); (case side4 => exact HC1_1.out); (case side5 => repeat (first | exact (Kd.C_below HR1_2.out HB.out) | (with_reducible refine Kd.C_alloc ?_ _) | (with_reducible refine Kd.C_drewN ?_ _) | (with_reducible refine Kd.C_drew ?_))); (case side6 => exact HC1_2.out); rintro e w33 ⟨rfl, hb⟩; refine ⟨_, rfl, ?_⟩; have n0_ := Ak (Qm BK261.out hb); have n1_ := Ak (Qm BK262.out hb); have n2_ := Ak (below_step (Qb HB.out) hb); clear BK261; clear BK262; clear HB; have BK261 := n0_; have BK262 := n1_; have HB := n2_; clear n0_ n1_ n2_; (try clear hb); (try clear hb2); (try clear hk); (try clear hi); obtain ⟨hcz34_0, hcz34_1, hcz34_2⟩ := Qu3 BK261.out; have hfz34_0 := blk_frozen BK261.out 0; have hfz34_1 := blk_frozen BK261.out 1; have hfz34_2 := blk_frozen BK261.out 2) | ((with_reducible refine gate_callee (f := 36) rfl ?_); refine Qj (some 14) Try.func36 #[.slice A0 l0.length c0, .agg #[.int .i64 a1_0, .slice A1_1 l1_1.length c1_1, .slice A1_2 l1_2.length c1_2]] ?_; (with_reducible refine (spec_l7Why.calls k _ _ l0 a1_0 _ _ l1_1 _ _ l1_2 t264 _ ?side1 ?side2 ?side3 ?side4 ?side5 ?side6 A5.out).mono ?_); (case side1 => repeat (first | exact (Kd.C_below HR0.out HB.out) | (with_reducible refine Kd.C_alloc ?_ _) | (with_reducible refine Kd.C_drewN ?_ _) | (with_reducible refine Kd.C_drew ?_))); (case side2 => exact HC0.out); (case side3 => repeat (first | exact (Kd.C_below HR1_1.out HB.out) | (with_reducible refine Kd.C_alloc ?_ _) | (with_reducible refine Kd.C_drewN ?_ _) | (with_reducible refine Kd.C_drew ?_))); (case side4 => exact HC1_1.out); (case side5 => repeat (first | exact (Kd.C_below HR1_2.out HB.out) | (with_reducible refine Kd.C_alloc ?_ _) | (with_reducible refine Kd.C_drewN ?_ _) | (with_reducible refine Kd.C_drew ?_))); (case side6 => exact HC1_2.out); rintro e w35 ⟨rfl, hb⟩; refine ⟨_, rfl, ?_⟩; have n0_ := Ak (Qm BK261.out hb); have n1_ := Ak (Qm BK262.out hb); have n2_ := Ak (below_step (Qb HB.out) hb); clear BK261; clear BK262; clear HB; have BK261 := n0_; have BK262 := n1_; have HB := n2_; clear n0_ n1_ n2_; (try clear hb); (try clear hb2); (try clear hk); (try clear hi); obtain ⟨hcz36_0, hcz36_1, hcz36_2⟩ := Qu3 BK261.out; have hfz36_0 := blk_frozen BK261.out 0; have hfz36_1 := blk_frozen BK261.out 1; have hfz36_2 := blk_frozen BK261.out 2) | ((with_reducible refine gate_callee (f := 37) rfl ?_); refine Qj (some 18) Try.func37 #[.agg #[.int .i64 a1_0, .slice A1_1 l1_1.length c1_1, .slice A1_2 l1_2.length c1_2]] ?_; (with_reducible refine (spec_l7Copy.calls a1_0 _ _ l1_1 _ _ l1_2 t280 t281 t284 _ ?side1 ?side2 ?side3 ?side4 A28.out).mono ?_); (case side1 => repeat (first | exact (Kd.C_below HR1_1.out HB.out) | (with_reducible refine Kd.C_alloc ?_ _) | (with_reducible refine Kd.C_drewN ?_ _) | (with_reducible refine Kd.C_drew ?_))); (case side2 => exact HC1_1.out); (case side3 => repeat (first | exact (Kd.C_below HR1_2.out HB.out) | (with_reducible refine Kd.C_alloc ?_ _) | (with_reducible refine Kd.C_drewN ?_ _) | (with_reducible refine Kd.C_drew ?_))); (case side4 => exact HC1_2.out); rintro e w37 ⟨v282, v285, rfl, ho0, ho1, hb⟩; refine ⟨_, rfl, ?_⟩; have n0_ := Ak (Kd.R_lower ho0 (below_size (Qb HB.out))); have n1_ := Ak (Kd.R_lower ho1 (below_size (Qb HB.out))); have n2_ := Ak (Qm BK261.out hb); have n3_ := Ak (Qm BK262.out hb); have n4_ := Ak (below_step (Qb HB.out) hb); clear BK261; clear BK262; clear HB; have HO283 := n0_; have HO286 := n1_; have BK261 := n2_; have BK262 := n3_; have HB := n4_; clear n0_ n1_ n2_ n3_ n4_; (try clear hb); (try clear hb2); (try clear hk); (try clear hi); (try clear ho0); (try clear ho1); obtain ⟨hcz38_0, hcz38_1, hcz38_2, hfz38_0, hfz38_1, hfz38_2⟩ := Qv3 BK262.out; obtain ⟨Ao39, co39, eo39⟩ := Kd.R_slice HO283.out; subst eo39; obtain ⟨Ao40, co40, eo40⟩ := Kd.R_slice HO286.out; subst eo40))
   refine bodyPost_ret (results_ct rfl _ _ gb262 28 #[.int .i64 t280, .slice Ao39 t281.length co39, .slice Ao40 t284.length co40] (0, 0) _ rfl (by refine Qe ?_; refine blk_put (cs := #[.int .i64 t280, .slice Ao39 t281.length co39, .slice none 0 0]) ?_ 2 _ rfl; refine Qe ?_; refine blk_put (cs := #[.int .i64 t280, .slice none 0 0, .slice none 0 0]) ?_ 1 _ rfl; refine Qe ?_; refine blk_put (cs := #[.int .i64 0, .slice none 0 0, .slice none 0 0]) ?_ 0 _ rfl; exact Qa BK262.out) Try.underlying28 rfl (by kernel_rfl)) rfl ?_
   exact ⟨_, _, Qh, by refine Qf ?_; exact Kd.R_mono (Kd.R_far (p := ⟨gb262, 2, none⟩) (Kd.R_far (p := ⟨gb262, 1, none⟩) (Kd.R_far (p := ⟨gb262, 0, none⟩) (Kd.R_types HO283.out BK262.out (by decide)) (fun _ hk => hk.2) (.int .i64 t280)) (fun _ hk => hk.2) (.slice Ao39 t281.length co39)) (fun _ hk => hk.2) (.slice Ao40 t284.length co40)) (fun _ hk => hk.1), by refine Qf ?_; exact Kd.R_mono (Kd.R_far (p := ⟨gb262, 2, none⟩) (Kd.R_far (p := ⟨gb262, 1, none⟩) (Kd.R_far (p := ⟨gb262, 0, none⟩) (Kd.R_types HO286.out BK262.out (by decide)) (fun _ hk => hk.2) (.int .i64 t280)) (fun _ hk => hk.2) (.slice Ao39 t281.length co39)) (fun _ hk => hk.2) (.slice Ao40 t284.length co40)) (fun _ hk => hk.1), Qb HB.out⟩
 ·replace c4 := Bool.eq_false_iff.mpr c4
  (try subst c4)
  have H1 : (some (0, ([] : List Int), ([] : List Int), 0)) = some (r1, r2, r3, r4) := by rw [if_neg (show ¬ (false = true) by decide)] at H; exact H
  clear H
  have H := H1
  clear H1
  simp only [Option.some.injEq, Prod.mk.injEq] at H
  obtain ⟨rfl, rfl, rfl, rfl⟩ := H
  go_enter Try.func10, Try.ntmps10
  go_wp2_with (first | ((with_reducible refine gate_dst (N := 3) rfl ?_); refine Qk 3 #[.int .i64 a1_0, .slice A1_1 l1_1.length c1_1, .slice A1_2 l1_2.length c1_2] 28 ?_; intro gb261 hg w41 hbox hb; have n0_ := Ak (below_step (Qb HB.out) hb); have n1_ := Ak (hbox); have n2_ := Ak ((Qp hg HB.out : w.heap.size ≤ gb261)); have n3_ := Ak ((Qp hg HB.out : w.heap.size ≤ gb261)); clear HB; have HB := n0_; have BK261 := n1_; have GW261 := n2_; have GE261 := n3_; clear n0_ n1_ n2_ n3_; clear hb hbox hg) | ((with_reducible refine gate_dst (N := 4) rfl ?_); refine Qk 4 #[.int .i64 0, .slice none 0 0, .slice none 0 0] 28 ?_; intro gb262 hg w42 hbox hb; have n0_ := Ak (Qm BK261.out hb); have n1_ := Ak (below_step (Qb HB.out) hb); have n2_ := Ak (hbox); have n3_ := Ak ((Qp hg HB.out : w.heap.size ≤ gb262)); have n4_ := Ak ((Qp hg HB.out : w.heap.size ≤ gb262)); have n5_ := Ak ((by rw [hg]; exact Nat.ne_of_lt (Qn BK261.out) : gb261 ≠ gb262)); have n6_ := Ak ((by rw [hg]; exact Nat.ne_of_gt (Qn BK261.out) : gb262 ≠ gb261)); clear BK261; clear HB; have BK261 := n0_; have HB := n1_; have BK262 := n2_; have GW262 := n3_; have GE262 := n4_; have NB261_262 := n5_; have NB262_261 := n6_; clear n0_ n1_ n2_ n3_ n4_ n5_ n6_; clear hb hbox hg; have hnb43 := NB261_262.out; have hnc43 := NB262_261.out; obtain ⟨hcz44_0, hcz44_1, hcz44_2⟩ := Qu3 BK261.out; have hfz44_0 := blk_frozen BK261.out 0; have hfz44_1 := blk_frozen BK261.out 1; have hfz44_2 := blk_frozen BK261.out 2) | ((with_reducible refine gate_callee (f := 24) rfl ?_); refine Qj (some 9) Try.func24 #[.slice A0 l0.length c0, .agg #[.int .i64 a1_0, .slice A1_1 l1_1.length c1_1, .slice A1_2 l1_2.length c1_2]] ?_; (with_reducible refine (spec_IsMachine.calls k _ _ l0 a1_0 _ _ l1_1 _ _ l1_2 false _ ?side1 ?side2 ?side3 ?side4 ?side5 ?side6 A3.out).mono ?_); (case side1 => repeat (first | exact (Kd.C_below HR0.out HB.out) | (with_reducible refine Kd.C_alloc ?_ _) | (with_reducible refine Kd.C_drewN ?_ _) | (with_reducible refine Kd.C_drew ?_))); (case side2 => exact HC0.out); (case side3 => repeat (first | exact (Kd.C_below HR1_1.out HB.out) | (with_reducible refine Kd.C_alloc ?_ _) | (with_reducible refine Kd.C_drewN ?_ _) | (with_reducible refine Kd.C_drew ?_))); (case side4 => exact HC1_1.out); (case side5 => repeat (first | exact (Kd.C_below HR1_2.out HB.out) | (with_reducible refine Kd.C_alloc ?_ _) | (with_reducible refine Kd.C_drewN ?_ _) | (with_reducible refine Kd.C_drew ?_))); (case side6 => exact HC1_2.out); rintro e w45 ⟨rfl, hb⟩; refine ⟨_, rfl, ?_⟩; have n0_ := Ak (Qm BK261.out hb); have n1_ := Ak (Qm BK262.out hb); have n2_ := Ak (below_step (Qb HB.out) hb); clear BK261; clear BK262; clear HB; have BK261 := n0_; have BK262 := n1_; have HB := n2_; clear n0_ n1_ n2_; (try clear hb); (try clear hb2); (try clear hk); (try clear hi); obtain ⟨hcz46_0, hcz46_1, hcz46_2⟩ := Qu3 BK262.out; have hfz46_0 := blk_frozen BK262.out 0; have hfz46_1 := blk_frozen BK262.out 1; have hfz46_2 := blk_frozen BK262.out 2))
  refine bodyPost_ret (results_ct rfl _ _ gb262 28 #[.int .i64 0, .slice none 0 0, .slice none 0 0] (0, 0) _ rfl (by refine Qe ?_; refine blk_put (cs := #[.int .i64 0, .slice none 0 0, .slice none 0 0]) ?_ 2 _ rfl; refine Qe ?_; refine blk_put (cs := #[.int .i64 0, .slice none 0 0, .slice none 0 0]) ?_ 1 _ rfl; refine Qe ?_; refine blk_put (cs := #[.int .i64 0, .slice none 0 0, .slice none 0 0]) ?_ 0 _ rfl; exact Qa BK262.out) Try.underlying28 rfl (by kernel_rfl)) rfl ?_
  exact ⟨_, _, Qh, by first | exact Kd.R_nil _ _ _ _ _ | exact Kd.N_nil _ _ _ _ _ | exact Kd.V_nil _ _ _ _ _ | exact Kd.Q_nil _ _ _ _ _ | exact Kd.S_nil _ _ _ _ _, by first | exact Kd.R_nil _ _ _ _ _ | exact Kd.N_nil _ _ _ _ _ | exact Kd.V_nil _ _ _ _ _ | exact Kd.Q_nil _ _ _ _ _ | exact Kd.S_nil _ _ _ _ _, Qb HB.out⟩

/-! ### laws_toOp: function 39 -/
def laws_toOp.f (a0_0 : Int) (a0_1 : Int) (a0_2 : Int) (a0_3 : Int) : Option (Int × Int × Int × Int) := some (a0_0, a0_1, a0_2, a0_3)
theorem laws_toOp.calls (a0_0 : Int) (a0_1 : Int) (a0_2 : Int) (a0_3 : Int) (r1 : Int) (r2 : Int) (r3 : Int) (r4 : Int) (w : World) (h : laws_toOp.f a0_0 a0_1 a0_2 a0_3 = some (r1, r2, r3, r4)) :
  Calls Try.prog 39 #[.agg #[.int .i64 a0_0, .int .i64 a0_1, .int .i64 a0_2, .int .i64 a0_3]] w fun e w' => e = .returned (.agg #[.int .i64 r1, .int .i64 r2, .int .i64 r3, .int .i64 r4]) ∧ Below w.heap.size w w' := by
 have hu65 := Try.underlying65
 have hu48 := Try.underlying48
 have HB := Ak (Below.refl w.heap.size w)
 have H : (some (a0_0, a0_1, a0_2, a0_3)) = some (r1, r2, r3, r4) := h
 clear h
 simp only [Option.some.injEq, Prod.mk.injEq] at H
 obtain ⟨rfl, rfl, rfl, rfl⟩ := H
 go_enter Try.func39, Try.ntmps39
 go_wp2_with (first | ((with_reducible refine gate_dst (N := 1) rfl ?_); refine Qk 1 #[.int .i64 a0_0, .int .i64 a0_1, .int .i64 a0_2, .int .i64 a0_3] 65 ?_; intro gb287 hg w2 hbox hb; have n0_ := Ak (below_step (Qb HB.out) hb); have n1_ := Ak (hbox); have n2_ := Ak ((Qp hg HB.out : w.heap.size ≤ gb287)); have n3_ := Ak ((Qp hg HB.out : w.heap.size ≤ gb287)); clear HB; have HB := n0_; have BK287 := n1_; have GW287 := n2_; have GE287 := n3_; clear n0_ n1_ n2_ n3_; clear hb hbox hg) | ((with_reducible refine gate_dst (N := 2) rfl ?_); refine Qk 2 #[.int .i64 0, .int .i64 0, .int .i64 0, .int .i64 0] 48 ?_; intro gb288 hg w3 hbox hb; have n0_ := Ak (Qm BK287.out hb); have n1_ := Ak (below_step (Qb HB.out) hb); have n2_ := Ak (hbox); have n3_ := Ak ((Qp hg HB.out : w.heap.size ≤ gb288)); have n4_ := Ak ((Qp hg HB.out : w.heap.size ≤ gb288)); have n5_ := Ak ((by rw [hg]; exact Nat.ne_of_lt (Qn BK287.out) : gb287 ≠ gb288)); have n6_ := Ak ((by rw [hg]; exact Nat.ne_of_gt (Qn BK287.out) : gb288 ≠ gb287)); clear BK287; clear HB; have BK287 := n0_; have HB := n1_; have BK288 := n2_; have GW288 := n3_; have GE288 := n4_; have NB287_288 := n5_; have NB288_287 := n6_; clear n0_ n1_ n2_ n3_ n4_ n5_ n6_; clear hb hbox hg) | ((with_reducible refine gate_dst (N := 3) rfl ?_); refine Qk 3 #[.int .i64 0, .int .i64 0, .int .i64 0, .int .i64 0] 48 ?_; intro gb289 hg w4 hbox hb; have n0_ := Ak (Qm BK287.out hb); have n1_ := Ak (Qm BK288.out hb); have n2_ := Ak (below_step (Qb HB.out) hb); have n3_ := Ak (hbox); have n4_ := Ak ((Qp hg HB.out : w.heap.size ≤ gb289)); have n5_ := Ak ((Qp hg HB.out : w.heap.size ≤ gb289)); have n6_ := Ak ((by rw [hg]; exact Nat.ne_of_lt (Qn BK287.out) : gb287 ≠ gb289)); have n7_ := Ak ((by rw [hg]; exact Nat.ne_of_gt (Qn BK287.out) : gb289 ≠ gb287)); have n8_ := Ak ((by rw [hg]; exact Nat.ne_of_lt (Qn BK288.out) : gb288 ≠ gb289)); have n9_ := Ak ((by rw [hg]; exact Nat.ne_of_gt (Qn BK288.out) : gb289 ≠ gb288)); clear BK287; clear BK288; clear HB; have BK287 := n0_; have BK288 := n1_; have HB := n2_; have BK289 := n3_; have GW289 := n4_; have GE289 := n5_; have NB287_289 := n6_; have NB289_287 := n7_; have NB288_289 := n8_; have NB289_288 := n9_; clear n0_ n1_ n2_ n3_ n4_ n5_ n6_ n7_ n8_ n9_; clear hb hbox hg; have hnb5 := NB287_288.out; have hnc5 := NB288_287.out; have hnb6 := NB287_289.out; have hnc6 := NB289_287.out; obtain ⟨hcz7_0, hcz7_1, hcz7_2, hcz7_3, hfz7_0, hfz7_1, hfz7_2, hfz7_3⟩ := Qv4 BK287.out; have hnb8 := NB289_288.out; have hnc8 := NB288_289.out; obtain ⟨hcz9_0, hcz9_1, hcz9_2, hcz9_3, hfz9_0, hfz9_1, hfz9_2, hfz9_3⟩ := Qv4 BK289.out; obtain ⟨hcz10_0, hcz10_1, hcz10_2, hcz10_3⟩ := Qu4 BK288.out; have hfz10_0 := blk_frozen BK288.out 0; have hfz10_1 := blk_frozen BK288.out 1; have hfz10_2 := blk_frozen BK288.out 2; have hfz10_3 := blk_frozen BK288.out 3))
 refine bodyPost_ret (results_cell_row rfl _ _ gb288 48 #[.int .i64 a0_0, .int .i64 a0_1, .int .i64 a0_2, .int .i64 a0_3] (0, 0) _ rfl (by refine Qe ?_; refine blk_put (cs := #[.int .i64 a0_0, .int .i64 a0_1, .int .i64 a0_2, .int .i64 0]) ?_ 3 _ rfl; refine Qe ?_; refine blk_put (cs := #[.int .i64 a0_0, .int .i64 a0_1, .int .i64 0, .int .i64 0]) ?_ 2 _ rfl; refine Qe ?_; refine blk_put (cs := #[.int .i64 a0_0, .int .i64 0, .int .i64 0, .int .i64 0]) ?_ 1 _ rfl; refine Qe ?_; refine blk_put (cs := #[.int .i64 0, .int .i64 0, .int .i64 0, .int .i64 0]) ?_ 0 _ rfl; refine Qe ?_; refine blk_far ?_ NB288_289.out _; refine Qe ?_; refine blk_far ?_ NB288_289.out _; refine Qe ?_; refine blk_far ?_ NB288_289.out _; refine Qe ?_; refine blk_far ?_ NB288_289.out _; exact Qa BK288.out) Try.underlying48 rfl (by kernel_rfl)) rfl ?_
 exact ⟨Qh, Qb HB.out⟩

/-! ### laws_toOpS: function 11 -/
def laws_toOpS.l0 : Nat → List (S65) → List (S48) → Int → Option ((List (S48)))
 | 0, _, _, _ => none
 | k + 1, x0, x3, x4 => if x4 < (x0.length : Int) then (if 0 ≤ x4 then ((laws_toOp.f ((rd_T65 x0 x4).f0) ((rd_T65 x0 x4).f1) ((rd_T65 x0 x4).f2) ((rd_T65 x0 x4).f3)).bind fun bt294 => (if x4 < (x3.length : Int) then (laws_toOpS.l0 k x0 (x3.set (x4 : Int).toNat (⟨bt294.1, bt294.2.1, bt294.2.2.1, bt294.2.2.2⟩ : S48)) (wrap64 (x4 + 1))) else (none))) else (none)) else (some x3)
def laws_toOpS.f (k : Nat) (l0 : List (S65)) : Option ((List (S48))) := if 0 ≤ (l0.length : Int) then (if ((l0.length : Int) : Int).toNat ≤ 8796093022208 then (laws_toOpS.l0 k l0 (List.replicate ((l0.length : Int) : Int).toNat z48) 0) else (none)) else (none)
theorem laws_toOpS.mono_l : ∀ k, (∀ y0 y1 y2, LeO (laws_toOpS.l0 k y0 y1 y2) (laws_toOpS.l0 (k + 1) y0 y1 y2))
 | 0 => fun _ _ _ r h => by simp [laws_toOpS.l0] at h
 | k + 1 => by
  have ih0 := laws_toOpS.mono_l k
  ·intro y0 y1 y2
   unfold laws_toOpS.l0
   repeat' first
   | (with_reducible exact ih0 _ _ _)
   | (with_reducible exact LeO.refl _)
   | (with_reducible exact LeO.none _)
   | (with_reducible refine LeO.ite ?_ ?_)
   | (with_reducible refine LeO.bind ?_ (fun _ => ?_))
   | exact ih0 _ _ _
   | exact LeO.none _
   | refine LeO.ite ?_ ?_
   | refine LeO.bind ?_ (fun _ => ?_)
theorem laws_toOpS.mono : ∀ a0 k, LeO (laws_toOpS.f k a0) (laws_toOpS.f (k + 1) a0) := by
 intro a0 k
 have ih0 := laws_toOpS.mono_l k
 unfold laws_toOpS.f
 repeat' first
   | (with_reducible exact ih0 _ _ _)
   | (with_reducible exact LeO.refl _)
   | (with_reducible exact LeO.none _)
   | (with_reducible refine LeO.ite ?_ ?_)
   | (with_reducible refine LeO.bind ?_ (fun _ => ?_))
   | exact ih0 _ _ _
   | exact LeO.none _
   | refine LeO.ite ?_ ?_
   | refine LeO.bind ?_ (fun _ => ?_)
theorem laws_toOpS.calls (k : Nat) (A0 : Option Addr) (c0 : Nat) (l0 : List (S65)) (r : List (S48)) (w : World) (hr0 : Kd.C k65 w A0 l0.length l0) (hc0 : l0.length ≤ c0) (h : laws_toOpS.f k l0 = some r) :
  Calls Try.prog 11 #[.slice A0 l0.length c0] w fun e w' => ∃ v0_ : Value, e = .returned (v0_) ∧ Kd.R k48 48 w' w.heap.size (fun _ => True) v0_ r ∧ Below w.heap.size w w' := by
 have hu65 := Try.underlying65
 have hu48 := Try.underlying48
 have HR0 := Ak hr0
 have HC0 := Ak hc0
 clear hr0 hc0
 have HB := Ak (Below.refl w.heap.size w)
 have H : (if 0 ≤ (l0.length : Int) then (if ((l0.length : Int) : Int).toNat ≤ 8796093022208 then (laws_toOpS.l0 k l0 (List.replicate ((l0.length : Int) : Int).toNat z48) 0) else (none)) else (none)) = some r := h
 clear h
 by_cases c2 : 0 ≤ (l0.length : Int)
 ·rw [if_pos c2] at H
  have c2b0 := eq_true c2
  have c2b1 : decide (0 ≤ (l0.length : Int)) = true := decide_eq_true c2
  clear c2
  by_cases c3 : ((l0.length : Int) : Int).toNat ≤ 8796093022208
  ·rw [if_pos c3] at H
   have c3b0 := eq_true c3
   have c3b1 : decide (((l0.length : Int) : Int).toNat ≤ 8796093022208) = true := decide_eq_true c3
   clear c3
   obtain ⟨y290, hy290⟩ : ∃ y_ : List (S48), y_ = (List.replicate ((l0.length : Int) : Int).toNat z48) := ⟨_, rfl⟩
   replace H : (laws_toOpS.l0 k l0 y290 0) = some r := by first | (rw [hy290]; with_reducible exact H) | (have H2_ := (Option.bind_some _ _).symm.trans H; rw [hy290]; with_reducible exact H2_) | (have H2_ := (Option.bind_some _ _).symm.trans H; with_reducible exact H2_) | with_reducible exact H | (rw [hy290]; exact H) | exact H
   have Ny290 := Ak hy290
   clear hy290
   have H' := Ak H
   clear H
   go_enter Try.func11, Try.ntmps11
   go_wp2_with (first | ((with_reducible refine gate_dst (N := 7) rfl ?_); refine Kd.R_make k48 _ 48 rfl (N := 7) rfl 31 _ _ rfl (l0.length : Int) rfl rfl Try.underlying31 (.agg #[(.int .i64 0), (.int .i64 0), (.int .i64 0), (.int .i64 0)]) 32 info48 rfl (by decide) (by omega) z48 (ok := fun _ => True) (okp := fun _ => True) (k48_mkM _ _ _ z48 ) (fun _ hk => hk) trivial (Qg) (Nat.le_trans (Nat.mul_le_mul_right _ (Qg : (l0.length : Int).toNat ≤ 8796093022208)) (by omega)) (Below.refl _ _) (Nat.le_refl _) ?_; intro v291 w4 ho5 hb hg_ hnew_; clear hg_ hnew_; (first | rw [← Ny290.out] at ho5 | (simp only [Int.reduceToNat] at ho5; rw [← Ny290.out] at ho5)); have n0_ := Ak (Kd.R_lower ho5 (below_size (Qb HB.out))); have n1_ := Ak (below_step (Qb HB.out) hb); clear HB; have HO292 := n0_; have HB := n1_; clear n0_ n1_; clear hb ho5))
   go_loopg [4] k (fun kq v4 w' => ∃ (x3_1 : List (S48)) (x4_1 : Int), v4 = .int .i64 x4_1 ∧ Aside0 (laws_toOpS.l0 kq l0 x3_1 x4_1 = some r) ∧ Aside0 (kq ≤ k) ∧ Aside0 (Kd.R k48 48 w' w.heap.size (fun _ => True) v291 x3_1) ∧ Aside0 (Below w.heap.size w w'))
   case atStart => exact ⟨(y290), (0), Qi, H', ⟨Nat.le_refl _⟩, ⟨by refine Qf ?_; exact HO292.out⟩, ⟨Qb HB.out⟩⟩
   case round =>
    clear H'
    try clear c1
    try clear c2
    try clear c2b0
    try clear c2b1
    try clear p2
    try clear c3
    try clear c3b0
    try clear c3b1
    obtain ⟨x3_1, x4_1, rfl, HA, HK1, HO_3, HB⟩ := hrel
    cases gk with
    | zero => exact absurd HA.out (by simp [laws_toOpS.l0])
    | succ k1 =>
     have H := HA.out
     clear HA
     simp only [laws_toOpS.l0] at H
     by_cases c6 : x4_1 < (l0.length : Int)
     ·rw [if_pos c6] at H
      have c6b0 : decide (x4_1 < (l0.length : Int)) = true := decide_eq_true c6
      clear c6
      by_cases c7 : 0 ≤ x4_1
      ·rw [if_pos c7] at H
       have c7b0 : decide (0 ≤ x4_1) = true := decide_eq_true c7
       clear c7
       replace H := Option.bind_eq_some_iff.mp H
       obtain ⟨⟨t294, t295, t296, t297⟩, A80, H⟩ := H
       replace H : (if x4_1 < (x3_1.length : Int) then (laws_toOpS.l0 k1 l0 (x3_1.set (x4_1 : Int).toNat (⟨t294, t295, t296, t297⟩ : S48)) (wrap64 (x4_1 + 1))) else (none)) = some r := H
       have A8 := Ak A80
       clear A80
       by_cases c9 : x4_1 < (x3_1.length : Int)
       ·rw [if_pos c9] at H
        have c9b0 : decide (x4_1 < (x3_1.length : Int)) = true := decide_eq_true c9
        clear c9
        obtain ⟨y298, hy298⟩ : ∃ y_ : List (S48), y_ = (x3_1.set (x4_1 : Int).toNat (⟨t294, t295, t296, t297⟩ : S48)) := ⟨_, rfl⟩
        replace H : (laws_toOpS.l0 k1 l0 y298 (wrap64 (x4_1 + 1))) = some r := by first | (rw [hy298]; with_reducible exact H) | (have H2_ := (Option.bind_some _ _).symm.trans H; rw [hy298]; with_reducible exact H2_) | (have H2_ := (Option.bind_some _ _).symm.trans H; with_reducible exact H2_) | with_reducible exact H | (rw [hy298]; exact H) | exact H
        have Ny298 := Ak hy298
        clear hy298
        have H' := Ak H
        clear H
        have p293 : 0 ≤ (x4_1 : Int) := Qg
        have q293 : x4_1 < (l0.length : Int) := Qg
        obtain ⟨ad293, e293, hx293_0, hx293_1, hx293_2, hx293_3⟩ := at_T65 HR0.out x4_1 p293 q293
        cases e293
        (try replace hx293_0 := (HB.out.cell (World.block_lt_of_cell? w _ hx293_0)).trans hx293_0)
        (try replace hx293_1 := (HB.out.cell (World.block_lt_of_cell? w _ hx293_1)).trans hx293_1)
        (try replace hx293_2 := (HB.out.cell (World.block_lt_of_cell? w _ hx293_2)).trans hx293_2)
        (try replace hx293_3 := (HB.out.cell (World.block_lt_of_cell? w _ hx293_3)).trans hx293_3)
        replace p293 := eq_true p293
        replace q293 := eq_true q293
        go_wp2_with (first | ((with_reducible refine gate_callee (f := 39) rfl ?_); refine Qj (some 20) Try.func39 #[.agg #[.int .i64 ((rd_T65 l0 x4_1).f0), .int .i64 ((rd_T65 l0 x4_1).f1), .int .i64 ((rd_T65 l0 x4_1).f2), .int .i64 ((rd_T65 l0 x4_1).f3)]] ?_; (with_reducible refine (laws_toOp.calls ((rd_T65 l0 x4_1).f0) ((rd_T65 l0 x4_1).f1) ((rd_T65 l0 x4_1).f2) ((rd_T65 l0 x4_1).f3) t294 t295 t296 t297 _ A8.out).mono ?_); rintro e w11 ⟨rfl, hb⟩; refine ⟨_, rfl, ?_⟩; have n0_ := Ak (Kd.R_below (Qc HO_3.out) hb); have n1_ := Ak (below_step (Qb HB.out) hb); clear HO_3; clear HB; have HO_3 := n0_; have HB := n1_; clear n0_ n1_; (try clear hb); (try clear hb2); (try clear hk); (try clear hi); have p10 : 0 ≤ (x4_1 : Int) := Qg; have q10 : (x4_1 : Int) < ((x3_1.length : Int) : Int) := Qg; obtain ⟨go10, co10, eo10, gb10, gl10, cl10, HG10⟩ := Kd.R_form HO_3.out (by omega); (first | cases eo10 | (injection eo10 with ea_ en_ ec_; (first | subst ea_ | (injection ea_ with ea_; subst ea_)); subst ec_; clear en_)); have GB10 := Ak gb10; have GG10 := Ak HG10; clear gb10 gl10 HG10; obtain ⟨ce10, hcl10, hM10, hcc10, hfr10⟩ := Kd.R_elem HO_3.out z48 (x4_1 : Int) p10 q10; obtain rfl := k48_openM hM10; have hx10_0 : w11.cell? ⟨go10, (x4_1 : Int).toNat * 4, none⟩ = some (.int .i64 ((rd_T48 x3_1 x4_1).f0)) := hcc10 0 _ rfl; have hx10_1 : w11.cell? ⟨go10, (x4_1 : Int).toNat * 4 + 1, none⟩ = some (.int .i64 ((rd_T48 x3_1 x4_1).f1)) := hcc10 1 _ rfl; have hx10_2 : w11.cell? ⟨go10, (x4_1 : Int).toNat * 4 + 2, none⟩ = some (.int .i64 ((rd_T48 x3_1 x4_1).f2)) := hcc10 2 _ rfl; have hx10_3 : w11.cell? ⟨go10, (x4_1 : Int).toNat * 4 + 3, none⟩ = some (.int .i64 ((rd_T48 x3_1 x4_1).f3)) := hcc10 3 _ rfl; have hf10_0 : w11.frozen? ⟨go10, (x4_1 : Int).toNat * 4, none⟩ = false := hfr10 0; have hf10_1 : w11.frozen? ⟨go10, (x4_1 : Int).toNat * 4 + 1, none⟩ = false := hfr10 1; have hf10_2 : w11.frozen? ⟨go10, (x4_1 : Int).toNat * 4 + 2, none⟩ = false := hfr10 2; have hf10_3 : w11.frozen? ⟨go10, (x4_1 : Int).toNat * 4 + 3, none⟩ = false := hfr10 3; (try clear hcl10); (try clear hcc10); (try clear hfr10); (try clear hM10); replace p10 := eq_true p10; replace q10 := eq_true q10; have HX12 := Ak (show Kd.R k48 48 w11 w.heap.size (fun _ => True) (.slice (some ⟨go10, 0, none⟩) x3_1.length co10) x3_1 from (Qc HO_3.out)); obtain ⟨ce12, hcl12, hM12, hcc12, hfr12⟩ := Kd.R_elem HX12.out z48 (x4_1 : Int) (Qg) (by have h_ : (x4_1 : Int) < ((x3_1.length : Int) : Int) := Qg; first | exact h_ | (have e_ := (Kd.R_reads' HO_3.out).1; omega) | simpa using h_); obtain rfl := k48_openM hM12; have HP12 := Kd.R_seg HX12.out (x4_1 : Int) (Qg) (by have h_ : (x4_1 : Int) < ((x3_1.length : Int) : Int) := Qg; first | exact h_ | (have e_ := (Kd.R_reads' HO_3.out).1; omega) | simpa using h_) (seg := [.int .i64 t294, .int .i64 t295, .int .i64 t296, .int .i64 t297]) (j := 0) hcl12 hcc12 (show 4 ≤ 4 from by decide) (x' := (⟨t294, t295, t296, t297⟩ : S48)) (k48_mkM _ _ _ (⟨t294, t295, t296, t297⟩ : S48) ) (fun _ hk => hk); have hx12_0 := hcc12 0 _ rfl; (try simp only [show (k48).sz = 4 from rfl, Nat.mul_one, Nat.add_zero] at hx12_0); have hf12_0 := hfr12 0; (try simp only [show (k48).sz = 4 from rfl, Nat.mul_one, Nat.add_zero] at hf12_0); have hx12_1 := hcc12 1 _ rfl; (try simp only [show (k48).sz = 4 from rfl, Nat.mul_one, Nat.add_zero] at hx12_1); have hf12_1 := hfr12 1; (try simp only [show (k48).sz = 4 from rfl, Nat.mul_one, Nat.add_zero] at hf12_1); have hx12_2 := hcc12 2 _ rfl; (try simp only [show (k48).sz = 4 from rfl, Nat.mul_one, Nat.add_zero] at hx12_2); have hf12_2 := hfr12 2; (try simp only [show (k48).sz = 4 from rfl, Nat.mul_one, Nat.add_zero] at hf12_2); have hx12_3 := hcc12 3 _ rfl; (try simp only [show (k48).sz = 4 from rfl, Nat.mul_one, Nat.add_zero] at hx12_3); have hf12_3 := hfr12 3; (try simp only [show (k48).sz = 4 from rfl, Nat.mul_one, Nat.add_zero] at hf12_3); (try clear hcl12); (try clear hcc12); (try clear hfr12); (try clear hM12)) | ((with_reducible refine gate_store (t := 48) (p := 21) rfl ?_); refine store_event (t := 48) (p := 21) (v := ?vo_w13) (w1 := ((((w11.setCell ⟨go10, (x4_1 : Int).toNat * 4, none⟩ (.int .i64 t294)).setCell ⟨go10, (x4_1 : Int).toNat * 4 + 1, none⟩ (.int .i64 t295)).setCell ⟨go10, (x4_1 : Int).toNat * 4 + 2, none⟩ (.int .i64 t296)).setCell ⟨go10, (x4_1 : Int).toNat * 4 + 3, none⟩ (.int .i64 t297))) ?hg ?ho ?hn ?hr ?_; (case ho => rfl); (case hg => rfl); (case hn => rfl); (case hr => first | (go_simp; done) | (go_simp; rfl)); intro w13 hw; have hg : w11.grownBy w13 (some go10) := (by rw [hw]; exact HP12.2); have hp_ : Kd.R k48 48 w13 w.heap.size (fun _ => True) (.slice (some ⟨go10, 0, none⟩) x3_1.length co10) y298 := (by rw [hw, Ny298.out]; exact HP12.1); clear HP12; have n0_ := Ak (hp_); have n1_ := Ak ((by rw [hw]; exact below_set (below_set (below_set (below_set (HB.out) GB10.out) GB10.out) GB10.out) GB10.out : Below w.heap.size w w13)); clear HO_3; clear HB; have HO_3 := n0_; have HB := n1_; clear n0_ n1_; clear hg hw hp_))
        go_roundg k1
        case measure => have := HK1.out; omega
        case rel => exact ⟨(y298), (wrap64 (x4_1 + 1)), Qi, H', ⟨by have := HK1.out; omega⟩, ⟨by refine Qf ?_; exact HO_3.out⟩, ⟨Qb HB.out⟩⟩
       ·rw [if_neg c9] at H
        exact absurd H (by simp)
      ·rw [if_neg c7] at H
       exact absurd H (by simp)
     ·rw [if_neg c6] at H
      have c6b0 : decide (x4_1 < (l0.length : Int)) = false := decide_eq_false c6
      clear c6
      obtain rfl := Option.some.inj H
      go_wp2
      go_ret
      exact ⟨_, Qh, by refine Qf ?_; exact HO_3.out, Qb HB.out⟩
  ·rw [if_neg c3] at H
   exact absurd H (by simp)
 ·rw [if_neg c2] at H
  exact absurd H (by simp)

/-! ### laws_toIntS: function 40 -/
def laws_toIntS.l0 : Nat → List Int → List Int → Int → Option (List Int)
 | 0, _, _, _ => none
 | k + 1, x0, x3, x4 => if x4 < (x0.length : Int) then (if 0 ≤ x4 then (if x4 < (x3.length : Int) then (laws_toIntS.l0 k x0 (x3.set (x4 : Int).toNat (rd x0 x4)) (wrap64 (x4 + 1))) else (none)) else (none)) else (some x3)
def laws_toIntS.f (k : Nat) (l0 : List Int) : Option (List Int) := if 0 ≤ (l0.length : Int) then (if ((l0.length : Int) : Int).toNat ≤ 35184372088832 then (laws_toIntS.l0 k l0 (List.replicate ((l0.length : Int) : Int).toNat 0) 0) else (none)) else (none)
theorem laws_toIntS.mono_l : ∀ k, (∀ y0 y1 y2, LeO (laws_toIntS.l0 k y0 y1 y2) (laws_toIntS.l0 (k + 1) y0 y1 y2))
 | 0 => fun _ _ _ r h => by simp [laws_toIntS.l0] at h
 | k + 1 => by
  have ih0 := laws_toIntS.mono_l k
  ·intro y0 y1 y2
   unfold laws_toIntS.l0
   repeat' first
   | (with_reducible exact ih0 _ _ _)
   | (with_reducible exact LeO.refl _)
   | (with_reducible exact LeO.none _)
   | (with_reducible refine LeO.ite ?_ ?_)
   | (with_reducible refine LeO.bind ?_ (fun _ => ?_))
   | exact ih0 _ _ _
   | exact LeO.none _
   | refine LeO.ite ?_ ?_
   | refine LeO.bind ?_ (fun _ => ?_)
theorem laws_toIntS.mono : ∀ a0 k, LeO (laws_toIntS.f k a0) (laws_toIntS.f (k + 1) a0) := by
 intro a0 k
 have ih0 := laws_toIntS.mono_l k
 unfold laws_toIntS.f
 repeat' first
   | (with_reducible exact ih0 _ _ _)
   | (with_reducible exact LeO.refl _)
   | (with_reducible exact LeO.none _)
   | (with_reducible refine LeO.ite ?_ ?_)
   | (with_reducible refine LeO.bind ?_ (fun _ => ?_))
   | exact ih0 _ _ _
   | exact LeO.none _
   | refine LeO.ite ?_ ?_
   | refine LeO.bind ?_ (fun _ => ?_)
theorem laws_toIntS.calls (k : Nat) (A0 : Option Addr) (c0 : Nat) (l0 : List Int) (r : List Int) (w : World) (hr0 : Kd.C (Kd.int .i64) w A0 l0.length l0) (hc0 : l0.length ≤ c0) (h : laws_toIntS.f k l0 = some r) :
  Calls Try.prog 40 #[.slice A0 l0.length c0] w fun e w' => ∃ v0_ : Value, e = .returned (v0_) ∧ Kd.R (Kd.int .i64) 3 w' w.heap.size (fun _ => True) v0_ r ∧ Below w.heap.size w w' := by
 have HR0 := Ak hr0
 have HC0 := Ak hc0
 clear hr0 hc0
 have HB := Ak (Below.refl w.heap.size w)
 have H : (if 0 ≤ (l0.length : Int) then (if ((l0.length : Int) : Int).toNat ≤ 35184372088832 then (laws_toIntS.l0 k l0 (List.replicate ((l0.length : Int) : Int).toNat 0) 0) else (none)) else (none)) = some r := h
 clear h
 by_cases c2 : 0 ≤ (l0.length : Int)
 ·rw [if_pos c2] at H
  have c2b0 := eq_true c2
  have c2b1 : decide (0 ≤ (l0.length : Int)) = true := decide_eq_true c2
  clear c2
  by_cases c3 : ((l0.length : Int) : Int).toNat ≤ 35184372088832
  ·rw [if_pos c3] at H
   have c3b0 := eq_true c3
   have c3b1 : decide (((l0.length : Int) : Int).toNat ≤ 35184372088832) = true := decide_eq_true c3
   clear c3
   obtain ⟨y299, hy299⟩ : ∃ y_ : List Int, y_ = (List.replicate ((l0.length : Int) : Int).toNat 0) := ⟨_, rfl⟩
   replace H : (laws_toIntS.l0 k l0 y299 0) = some r := by first | (rw [hy299]; with_reducible exact H) | (have H2_ := (Option.bind_some _ _).symm.trans H; rw [hy299]; with_reducible exact H2_) | (have H2_ := (Option.bind_some _ _).symm.trans H; with_reducible exact H2_) | with_reducible exact H | (rw [hy299]; exact H) | exact H
   have Ny299 := Ak hy299
   clear hy299
   have H' := Ak H
   clear H
   go_enter Try.func40, Try.ntmps40
   go_wp2_with (first | ((with_reducible refine gate_dst (N := 7) rfl ?_); refine Kd.R_make (Kd.int .i64) _ 3 rfl (N := 7) rfl 23 _ _ rfl (l0.length : Int) rfl rfl Try.underlying23 (.int .i64 0) 8 info3 rfl (by decide) (by omega) 0 (ok := fun _ => True) (okp := fun _ => True) rfl (fun _ hk => hk) trivial (Qg) (Nat.le_trans (Nat.mul_le_mul_right _ (Qg : (l0.length : Int).toNat ≤ 35184372088832)) (by omega)) (Below.refl _ _) (Nat.le_refl _) ?_; intro v300 w4 ho5 hb hg_ hnew_; clear hg_ hnew_; (first | rw [← Ny299.out] at ho5 | (simp only [Int.reduceToNat] at ho5; rw [← Ny299.out] at ho5)); have n0_ := Ak (Kd.R_lower ho5 (below_size (Qb HB.out))); have n1_ := Ak (below_step (Qb HB.out) hb); clear HB; have HO301 := n0_; have HB := n1_; clear n0_ n1_; clear hb ho5))
   go_loopg [4] k (fun kq v4 w' => ∃ (x3_1 : List Int) (x4_1 : Int), v4 = .int .i64 x4_1 ∧ Aside0 (laws_toIntS.l0 kq l0 x3_1 x4_1 = some r) ∧ Aside0 (kq ≤ k) ∧ Aside0 (Kd.R (Kd.int .i64) 3 w' w.heap.size (fun _ => True) v300 x3_1) ∧ Aside0 (Below w.heap.size w w'))
   case atStart => exact ⟨(y299), (0), Qi, H', ⟨Nat.le_refl _⟩, ⟨by refine Qf ?_; exact HO301.out⟩, ⟨Qb HB.out⟩⟩
   case round =>
    clear H'
    try clear c2
    try clear c2b0
    try clear c2b1
    try clear p2
    try clear c3
    try clear c3b0
    try clear c3b1
    try clear c4
    obtain ⟨x3_1, x4_1, rfl, HA, HK1, HO_3, HB⟩ := hrel
    cases gk with
    | zero => exact absurd HA.out (by simp [laws_toIntS.l0])
    | succ k1 =>
     have H := HA.out
     clear HA
     simp only [laws_toIntS.l0] at H
     by_cases c6 : x4_1 < (l0.length : Int)
     ·rw [if_pos c6] at H
      have c6b0 : decide (x4_1 < (l0.length : Int)) = true := decide_eq_true c6
      clear c6
      by_cases c7 : 0 ≤ x4_1
      ·rw [if_pos c7] at H
       have c7b0 : decide (0 ≤ x4_1) = true := decide_eq_true c7
       clear c7
       by_cases c8 : x4_1 < (x3_1.length : Int)
       ·rw [if_pos c8] at H
        have c8b0 : decide (x4_1 < (x3_1.length : Int)) = true := decide_eq_true c8
        clear c8
        obtain ⟨y303, hy303⟩ : ∃ y_ : List Int, y_ = (x3_1.set (x4_1 : Int).toNat (rd l0 x4_1)) := ⟨_, rfl⟩
        replace H : (laws_toIntS.l0 k1 l0 y303 (wrap64 (x4_1 + 1))) = some r := by first | (rw [hy303]; with_reducible exact H) | (have H2_ := (Option.bind_some _ _).symm.trans H; rw [hy303]; with_reducible exact H2_) | (have H2_ := (Option.bind_some _ _).symm.trans H; with_reducible exact H2_) | with_reducible exact H | (rw [hy303]; exact H) | exact H
        have Ny303 := Ak hy303
        clear hy303
        have H' := Ak H
        clear H
        have p302 : 0 ≤ (x4_1 : Int) := Qg
        have q302 : x4_1 < (l0.length : Int) := Qg
        obtain ⟨ad302, e302, hx302_0⟩ := Kd.at_int HR0.out x4_1 p302 q302
        cases e302
        (try replace hx302_0 := (HB.out.cell (World.block_lt_of_cell? w _ hx302_0)).trans hx302_0)
        replace p302 := eq_true p302
        replace q302 := eq_true q302
        have p9 : 0 ≤ (x4_1 : Int) := Qg
        have q9 : (x4_1 : Int) < ((x3_1.length : Int) : Int) := Qg
        obtain ⟨go9, co9, eo9, gb9, gl9, cl9, HG9⟩ := Kd.R_form HO_3.out (by omega)
        (first | cases eo9 | (injection eo9 with ea_ en_ ec_; (first | subst ea_ | (injection ea_ with ea_; subst ea_)); subst ec_; clear en_))
        have GB9 := Ak gb9
        have GG9 := Ak HG9
        clear gb9 gl9 HG9
        obtain ⟨hx9_0, hf9_0⟩ := Kd.R_celln 0 HO_3.out (x4_1 : Int) p9 q9
        replace p9 := eq_true p9
        replace q9 := eq_true q9
        have HP10 := Kd.R_putg HO_3.out (x4_1 : Int) (rd l0 x4_1)
        go_wp2_with (first | ((with_reducible refine gate_store (t := 3) (p := 20) rfl ?_); refine store_event (t := 3) (p := 20) (v := ?vo_w11) (w1 := (wr.setCell ⟨go9, (x4_1 : Int).toNat, none⟩ (.int .i64 (rd l0 x4_1)))) ?hg ?ho ?hn ?hr ?_; (case ho => rfl); (case hg => rfl); (case hn => rfl); (case hr => first | (go_simp; done) | (go_simp; rfl)); intro w11 hw; have hg : wr.grownBy w11 (some go9) := (by rw [hw]; exact HP10.2); have hp_ : Kd.R (Kd.int .i64) 3 w11 w.heap.size (fun _ => True) (.slice (some ⟨go9, 0, none⟩) x3_1.length co9) y303 := (by rw [hw, Ny303.out]; exact HP10.1); clear HP10; have n0_ := Ak (hp_); have n1_ := Ak ((by rw [hw]; exact below_set (HB.out) GB9.out : Below w.heap.size w w11)); clear HO_3; clear HB; have HO_3 := n0_; have HB := n1_; clear n0_ n1_; clear hg hw hp_))
        go_roundg k1
        case measure => have := HK1.out; omega
        case rel => exact ⟨(y303), (wrap64 (x4_1 + 1)), Qi, H', ⟨by have := HK1.out; omega⟩, ⟨by refine Qf ?_; exact HO_3.out⟩, ⟨Qb HB.out⟩⟩
       ·rw [if_neg c8] at H
        exact absurd H (by simp)
      ·rw [if_neg c7] at H
       exact absurd H (by simp)
     ·rw [if_neg c6] at H
      have c6b0 : decide (x4_1 < (l0.length : Int)) = false := decide_eq_false c6
      clear c6
      obtain rfl := Option.some.inj H
      go_wp2
      go_ret
      exact ⟨_, Qh, by refine Qf ?_; exact HO_3.out, Qb HB.out⟩
  ·rw [if_neg c3] at H
   exact absurd H (by simp)
 ·rw [if_neg c2] at H
  exact absurd H (by simp)

/-! ### laws_toMachine: function 12 -/
def laws_toMachine.f (k : Nat) (a0_0 : Int) (l0_1 : List Int) (l0_2 : List Int) : Option (Int × List Int × List Int) := (laws_toIntS.f k l0_1).bind fun t307 => ((laws_toIntS.f k l0_2).bind fun t310 => (some (a0_0, t307, t310)))
theorem laws_toMachine.mono : ∀ a0 a1 a2 k, LeO (laws_toMachine.f k a0 a1 a2) (laws_toMachine.f (k + 1) a0 a1 a2) := by
 intro a0 a1 a2 k
 unfold laws_toMachine.f
 repeat' first
   | (with_reducible exact laws_toIntS.mono _ _)
   | (with_reducible exact LeO.refl _)
   | (with_reducible exact LeO.none _)
   | (with_reducible refine LeO.ite ?_ ?_)
   | (with_reducible refine LeO.bind ?_ (fun _ => ?_))
   | exact laws_toIntS.mono _ _
   | exact LeO.none _
   | refine LeO.ite ?_ ?_
   | refine LeO.bind ?_ (fun _ => ?_)
theorem laws_toMachine.calls (k : Nat) (a0_0 : Int) (A0_1 : Option Addr) (c0_1 : Nat) (l0_1 : List Int) (A0_2 : Option Addr) (c0_2 : Nat) (l0_2 : List Int) (r1 : Int) (r2 : List Int) (r3 : List Int) (w : World) (hr0_1 : Kd.C (Kd.int .i64) w A0_1 l0_1.length l0_1) (hc0_1 : l0_1.length ≤ c0_1) (hr0_2 : Kd.C (Kd.int .i64) w A0_2 l0_2.length l0_2) (hc0_2 : l0_2.length ≤ c0_2) (h : laws_toMachine.f k a0_0 l0_1 l0_2 = some (r1, r2, r3)) :
  Calls Try.prog 12 #[.agg #[.int .i64 a0_0, .slice A0_1 l0_1.length c0_1, .slice A0_2 l0_2.length c0_2]] w fun e w' => ∃ v1_ v2_ : Value, e = .returned (.agg #[.int .i64 r1, v1_, v2_]) ∧ Kd.R (Kd.int .i64) 3 w' w.heap.size (fun k_ => some k_ ≠ (v2_ : Value).ownBlock) v1_ r2 ∧ Kd.R (Kd.int .i64) 3 w' w.heap.size (fun k_ => some k_ ≠ (v1_ : Value).ownBlock) v2_ r3 ∧ Below w.heap.size w w' := by
 have hu25 := Try.underlying25
 have hu28 := Try.underlying28
 have HR0_1 := Ak hr0_1
 have HC0_1 := Ak hc0_1
 clear hr0_1 hc0_1
 have HR0_2 := Ak hr0_2
 have HC0_2 := Ak hc0_2
 clear hr0_2 hc0_2
 have HB := Ak (Below.refl w.heap.size w)
 have H : ((laws_toIntS.f k l0_1).bind fun t307 => ((laws_toIntS.f k l0_2).bind fun t310 => (some (a0_0, t307, t310)))) = some (r1, r2, r3) := h
 clear h
 replace H := Option.bind_eq_some_iff.mp H
 obtain ⟨t307, A20, H⟩ := H
 replace H : ((laws_toIntS.f k l0_2).bind fun t310 => (some (a0_0, t307, t310))) = some (r1, r2, r3) := H
 have A2 := Ak A20
 clear A20
 replace H := Option.bind_eq_some_iff.mp H
 obtain ⟨t310, A30, H⟩ := H
 replace H : (some (a0_0, t307, t310)) = some (r1, r2, r3) := H
 have A3 := Ak A30
 clear A30
 simp only [Option.some.injEq, Prod.mk.injEq] at H
 obtain ⟨rfl, rfl, rfl⟩ := H
 go_enter Try.func12, Try.ntmps12
 go_wp2_with (first | ((with_reducible refine gate_dst (N := 1) rfl ?_); refine Qk 1 #[.int .i64 a0_0, .slice A0_1 l0_1.length c0_1, .slice A0_2 l0_2.length c0_2] 25 ?_; intro gb304 hg w4 hbox hb; have n0_ := Ak (below_step (Qb HB.out) hb); have n1_ := Ak (hbox); have n2_ := Ak ((Qp hg HB.out : w.heap.size ≤ gb304)); have n3_ := Ak ((Qp hg HB.out : w.heap.size ≤ gb304)); clear HB; have HB := n0_; have BK304 := n1_; have GW304 := n2_; have GE304 := n3_; clear n0_ n1_ n2_ n3_; clear hb hbox hg) | ((with_reducible refine gate_dst (N := 2) rfl ?_); refine Qk 2 #[.int .i64 0, .slice none 0 0, .slice none 0 0] 28 ?_; intro gb305 hg w5 hbox hb; have n0_ := Ak (Qm BK304.out hb); have n1_ := Ak (below_step (Qb HB.out) hb); have n2_ := Ak (hbox); have n3_ := Ak ((Qp hg HB.out : w.heap.size ≤ gb305)); have n4_ := Ak ((Qp hg HB.out : w.heap.size ≤ gb305)); have n5_ := Ak ((by rw [hg]; exact Nat.ne_of_lt (Qn BK304.out) : gb304 ≠ gb305)); have n6_ := Ak ((by rw [hg]; exact Nat.ne_of_gt (Qn BK304.out) : gb305 ≠ gb304)); clear BK304; clear HB; have BK304 := n0_; have HB := n1_; have BK305 := n2_; have GW305 := n3_; have GE305 := n4_; have NB304_305 := n5_; have NB305_304 := n6_; clear n0_ n1_ n2_ n3_ n4_ n5_ n6_; clear hb hbox hg) | ((with_reducible refine gate_dst (N := 3) rfl ?_); refine Qk 3 #[.int .i64 0, .slice none 0 0, .slice none 0 0] 28 ?_; intro gb306 hg w6 hbox hb; have n0_ := Ak (Qm BK304.out hb); have n1_ := Ak (Qm BK305.out hb); have n2_ := Ak (below_step (Qb HB.out) hb); have n3_ := Ak (hbox); have n4_ := Ak ((Qp hg HB.out : w.heap.size ≤ gb306)); have n5_ := Ak ((Qp hg HB.out : w.heap.size ≤ gb306)); have n6_ := Ak ((by rw [hg]; exact Nat.ne_of_lt (Qn BK304.out) : gb304 ≠ gb306)); have n7_ := Ak ((by rw [hg]; exact Nat.ne_of_gt (Qn BK304.out) : gb306 ≠ gb304)); have n8_ := Ak ((by rw [hg]; exact Nat.ne_of_lt (Qn BK305.out) : gb305 ≠ gb306)); have n9_ := Ak ((by rw [hg]; exact Nat.ne_of_gt (Qn BK305.out) : gb306 ≠ gb305)); clear BK304; clear BK305; clear HB; have BK304 := n0_; have BK305 := n1_; have HB := n2_; have BK306 := n3_; have GW306 := n4_; have GE306 := n5_; have NB304_306 := n6_; have NB306_304 := n7_; have NB305_306 := n8_; have NB306_305 := n9_; clear n0_ n1_ n2_ n3_ n4_ n5_ n6_ n7_ n8_ n9_; clear hb hbox hg; have hnb7 := NB304_305.out; have hnc7 := NB305_304.out; have hnb8 := NB304_306.out; have hnc8 := NB306_304.out; obtain ⟨hcz9_0, hcz9_1, hcz9_2, hfz9_0, hfz9_1, hfz9_2⟩ := Qv3 BK304.out; have hnb10 := NB306_305.out; have hnc10 := NB305_306.out; obtain ⟨hcz11_0, hcz11_1, hcz11_2⟩ := Qu3 BK306.out; have hfz11_0 := blk_frozen BK306.out 0; have hfz11_1 := blk_frozen BK306.out 1; have hfz11_2 := blk_frozen BK306.out 2) | ((with_reducible refine gate_callee (f := 40) rfl ?_); refine Qj (some 9) Try.func40 #[.slice A0_1 l0_1.length c0_1] ?_; (with_reducible refine (laws_toIntS.calls k _ _ l0_1 t307 _ ?side1 ?side2 A2.out).mono ?_); (case side1 => exact Kd.C_below HR0_1.out (Qb HB.out)); (case side2 => exact HC0_1.out); rintro e w12 ⟨v308, rfl, ho0, hb⟩; refine ⟨_, rfl, ?_⟩; have n0_ := Ak (Kd.R_lower ho0 (below_size (Qb HB.out))); have n1_ := Ak (blk_below (g := gb304) (o := .cells #[.int .i64 a0_0, .slice A0_1 l0_1.length c0_1, .slice A0_2 l0_2.length c0_2] 25 (0, 0)) (by refine Qe ?_; refine blk_far ?_ NB304_306.out _; exact Qa BK304.out) hb); have n2_ := Ak (blk_below (g := gb305) (o := .cells #[.int .i64 0, .slice none 0 0, .slice none 0 0] 28 (0, 0)) (by refine Qe ?_; refine blk_far ?_ NB305_306.out _; exact Qa BK305.out) hb); have n3_ := Ak (blk_below (g := gb306) (o := .cells #[.int .i64 a0_0, .slice none 0 0, .slice none 0 0] 28 (0, 0)) (by refine Qe ?_; refine blk_put (cs := #[.int .i64 0, .slice none 0 0, .slice none 0 0]) ?_ 0 _ rfl; exact Qa BK306.out) hb); have n4_ := Ak (below_step (Qb HB.out) hb); clear BK304; clear BK305; clear BK306; clear HB; have HO309 := n0_; have BK304 := n1_; have BK305 := n2_; have BK306 := n3_; have HB := n4_; clear n0_ n1_ n2_ n3_ n4_; (try clear hb); (try clear hb2); (try clear hk); (try clear hi); (try clear ho0); obtain ⟨Ao13, co13, eo13⟩ := Kd.R_slice HO309.out; subst eo13; obtain ⟨hcz14_0, hcz14_1, hcz14_2, hfz14_0, hfz14_1, hfz14_2⟩ := Qv3 BK306.out; obtain ⟨hcz15_0, hcz15_1, hcz15_2⟩ := Qu3 BK304.out; have hfz15_0 := blk_frozen BK304.out 0; have hfz15_1 := blk_frozen BK304.out 1; have hfz15_2 := blk_frozen BK304.out 2) | ((with_reducible refine gate_callee (f := 40) rfl ?_); refine Qj (some 13) Try.func40 #[.slice A0_2 l0_2.length c0_2] ?_; (with_reducible refine (laws_toIntS.calls k _ _ l0_2 t310 _ ?side1 ?side2 A3.out).mono ?_); (case side1 => exact Kd.C_below HR0_2.out (Qb HB.out)); (case side2 => exact HC0_2.out); rintro e w16 ⟨v311, rfl, ho0, hb⟩; refine ⟨_, rfl, ?_⟩; have n0_ := Ak (Kd.R_elder' (by refine Qf ?_; exact (Kd.R_mono (Kd.R_far (p := ⟨gb306, 1, none⟩) (Kd.R_types HO309.out BK306.out (by decide)) (fun _ hk => hk.2) (.slice Ao13 t307.length co13)) (fun _ h_ => h_.1))) (Kd.R_base ho0) hb); have n1_ := Ak (Kd.R_lower (Kd.R_new' ho0 (Kd.R_lt (by refine Qf ?_; exact (Kd.R_mono (Kd.R_far (p := ⟨gb306, 1, none⟩) (Kd.R_types HO309.out BK306.out (by decide)) (fun _ hk => hk.2) (.slice Ao13 t307.length co13)) (fun _ h_ => h_.1))))) (below_size (Qb HB.out))); have n2_ := Ak (blk_below (g := gb304) (o := .cells #[.int .i64 a0_0, .slice A0_1 l0_1.length c0_1, .slice A0_2 l0_2.length c0_2] 25 (0, 0)) (by refine Qe ?_; refine blk_far ?_ NB304_306.out _; exact Qa BK304.out) hb); have n3_ := Ak (blk_below (g := gb305) (o := .cells #[.int .i64 0, .slice none 0 0, .slice none 0 0] 28 (0, 0)) (by refine Qe ?_; refine blk_far ?_ NB305_306.out _; exact Qa BK305.out) hb); have n4_ := Ak (blk_below (g := gb306) (o := .cells #[.int .i64 a0_0, .slice Ao13 t307.length co13, .slice none 0 0] 28 (0, 0)) (by refine Qe ?_; refine blk_put (cs := #[.int .i64 a0_0, .slice none 0 0, .slice none 0 0]) ?_ 1 _ rfl; exact Qa BK306.out) hb); have n5_ := Ak (below_step (Qb HB.out) hb); clear HO309; clear BK304; clear BK305; clear BK306; clear HB; have HO309 := n0_; have HO312 := n1_; have BK304 := n2_; have BK305 := n3_; have BK306 := n4_; have HB := n5_; clear n0_ n1_ n2_ n3_ n4_ n5_; (try clear hb); (try clear hb2); (try clear hk); (try clear hi); (try clear ho0); obtain ⟨Ao17, co17, eo17⟩ := Kd.R_slice HO312.out; subst eo17; obtain ⟨hcz18_0, hcz18_1, hcz18_2, hfz18_0, hfz18_1, hfz18_2⟩ := Qv3 BK306.out; obtain ⟨hcz19_0, hcz19_1, hcz19_2⟩ := Qu3 BK305.out; have hfz19_0 := blk_frozen BK305.out 0; have hfz19_1 := blk_frozen BK305.out 1; have hfz19_2 := blk_frozen BK305.out 2))
 refine bodyPost_ret (results_cell_row rfl _ _ gb305 28 #[.int .i64 a0_0, .slice Ao13 t307.length co13, .slice Ao17 t310.length co17] (0, 0) _ rfl (by refine Qe ?_; refine blk_put (cs := #[.int .i64 a0_0, .slice Ao13 t307.length co13, .slice none 0 0]) ?_ 2 _ rfl; refine Qe ?_; refine blk_put (cs := #[.int .i64 a0_0, .slice none 0 0, .slice none 0 0]) ?_ 1 _ rfl; refine Qe ?_; refine blk_put (cs := #[.int .i64 0, .slice none 0 0, .slice none 0 0]) ?_ 0 _ rfl; refine Qe ?_; refine blk_far ?_ NB305_306.out _; exact Qa BK305.out) Try.underlying28 rfl (by kernel_rfl)) rfl ?_
 exact ⟨_, _, Qh, by refine Qf ?_; exact Kd.R_mono (Kd.R_far (p := ⟨gb305, 2, none⟩) (Kd.R_far (p := ⟨gb305, 1, none⟩) (Kd.R_far (p := ⟨gb305, 0, none⟩) (Kd.R_far (p := ⟨gb306, 2, none⟩) (Kd.R_types (Kd.R_types HO309.out BK306.out (by decide)) BK305.out (by decide)) (fun _ hk => hk.1.2) (.slice Ao17 t310.length co17)) (fun _ hk => hk.2) (.int .i64 a0_0)) (fun _ hk => hk.2) (.slice Ao13 t307.length co13)) (fun _ hk => hk.2) (.slice Ao17 t310.length co17)) (fun _ hk => hk.1.1.2), by refine Qf ?_; exact Kd.R_mono (Kd.R_far (p := ⟨gb305, 2, none⟩) (Kd.R_far (p := ⟨gb305, 1, none⟩) (Kd.R_far (p := ⟨gb305, 0, none⟩) (Kd.R_far (p := ⟨gb306, 2, none⟩) (Kd.R_types (Kd.R_types HO312.out BK306.out (by decide)) BK305.out (by decide)) (fun _ hk => hk.1.2) (.slice Ao17 t310.length co17)) (fun _ hk => hk.2) (.int .i64 a0_0)) (fun _ hk => hk.2) (.slice Ao13 t307.length co13)) (fun _ hk => hk.2) (.slice Ao17 t310.length co17)) (fun _ hk => hk.1.1.2), Qb HB.out⟩

/-! ### impl_Op_96: function 96 -/
set_option maxHeartbeats 2000000 in
theorem index96 (g : Nat) (lb : Array Value) (p : Nat → Bool) (x0 x1 x2 x3 : Nat → Value) (eg : ∀ args w, (callFunc g args).run Try.prog w = .ok (.enter g args) w) (A : Option Addr) (n c : Nat) (w : World)
  (hn : n ≤ 9223372036854775807) (hv : ∀ W, Below w.heap.size w W → ∀ j, j < n → ∃ ad, A = some ad ∧ W.cell? (ad.add (j * 4)) = some (x0 j) ∧ W.cell? ⟨(ad.add (j * 4)).block, (ad.add (j * 4)).off + 1, none⟩ = some (x1 j) ∧ W.cell? ⟨(ad.add (j * 4)).block, (ad.add (j * 4)).off + 2, none⟩ = some (x2 j) ∧ W.cell? ⟨(ad.add (j * 4)).block, (ad.add (j * 4)).off + 3, none⟩ = some (x3 j))
  (hp : ∀ (W : World) (j : Nat), Below w.heap.size w W → j < n → Calls Try.prog g (#[.agg #[x0 j, x1 j, x2 j, x3 j]] ++ lb) W fun e w' => e = .returned (.bool (p j)) ∧ Below w.heap.size w w') :
  Calls Try.prog 96 #[.slice A n c, .func (.func g) #[] lb] w fun e w' => e = .returned (.int .i64 (Go.Proofs.Ytlmiankjbffboaa.Any.fstP p 0 n)) ∧ Below w.heap.size w w' := by
 go_enter Try.func96, Try.ntmps96
 go_wp2
 go_loopg [5, 8] n (fun gg _ s8 wr => ∃ kk : Nat, kk ≤ n ∧ n - kk ≤ gg ∧ s8 = .int .i64 kk ∧ Aside (Below w.heap.size w wr) ∧ Aside (∀ j, j < kk → p j = false))
 case atStart => exact ⟨0, Nat.zero_le _, by omega, rfl, Below.refl _ w, fun j hj => absurd hj (Nat.not_lt_zero _)⟩
 case round =>
  obtain ⟨kk, hkk, hg, rfl, BW, A0⟩ := hrel
  by_cases hlt : kk < n
  ·have hltz : (kk : Int) < (n : Int) := by omega
   obtain ⟨ad, rfl, l2, l3, l4, l5⟩ := hv wr BW.out kk hlt
   have hcall := hp wr kk BW.out hlt
   clear hv hp
   have hq : ∃ y, p kk = y := ⟨_, rfl⟩
   obtain ⟨y, hy⟩ := hq
   have B : Aside (p kk = y) := hy
   rw [hy] at hcall
   clear hy
   cases y with
   | true =>
    go_wp2
    refine hcall.mono ?_
    rintro e w' ⟨rfl, hb'⟩
    go_wp2
    go_ret
    refine ⟨?_, hb'⟩
    rw [Go.Proofs.Ytlmiankjbffboaa.Any.fstP_hit B.out n 0 (by omega) (by omega) (fun m _ hm => A0.out m hm)]
    rfl
   | false =>
    go_wp2
    refine hcall.mono ?_
    rintro e w' ⟨rfl, hb'⟩
    go_wp2
    go_roundg (n - (kk + 1))
    case measure => omega
    case rel =>
     refine ⟨kk + 1, by omega, by omega, by go_num, hb', (show Aside _ from fun j hj => ?_)⟩
     by_cases e : j = kk
     ·subst e
      exact B.out
     ·exact A0.out j (by omega)
  ·have hltz : ¬ (kk : Int) < (n : Int) := by omega
   have : kk = n := by omega
   subst this
   go_wp2
   go_ret
   refine ⟨?_, BW.out⟩
   rw [Go.Proofs.Ytlmiankjbffboaa.Any.fstP_miss kk 0 (fun m _ hm => A0.out m (by omega))]
   rfl

/-! ### impl_Op_84: function 84 -/
set_option maxHeartbeats 2000000 in
theorem contains84 (g : Nat) (lb : Array Value) (p : Nat → Bool) (x0 x1 x2 x3 : Nat → Value) (eg : ∀ args w, (callFunc g args).run Try.prog w = .ok (.enter g args) w) (A : Option Addr) (n c : Nat) (r : Bool) (w : World)
  (hn : n ≤ 9223372036854775807) (hv : ∀ W, Below w.heap.size w W → ∀ j, j < n → ∃ ad, A = some ad ∧ W.cell? (ad.add (j * 4)) = some (x0 j) ∧ W.cell? ⟨(ad.add (j * 4)).block, (ad.add (j * 4)).off + 1, none⟩ = some (x1 j) ∧ W.cell? ⟨(ad.add (j * 4)).block, (ad.add (j * 4)).off + 2, none⟩ = some (x2 j) ∧ W.cell? ⟨(ad.add (j * 4)).block, (ad.add (j * 4)).off + 3, none⟩ = some (x3 j))
  (hp : ∀ (W : World) (j : Nat), Below w.heap.size w W → j < n → Calls Try.prog g (#[.agg #[x0 j, x1 j, x2 j, x3 j]] ++ lb) W fun e w' => e = .returned (.bool (p j)) ∧ Below w.heap.size w w')
  (hr : decide (0 ≤ Go.Proofs.Ytlmiankjbffboaa.Any.fstP p 0 n) = r) :
  Calls Try.prog 84 #[.slice A n c, .func (.func g) #[] lb] w fun e w' => e = .returned (.bool r) ∧ Below w.heap.size w w' := by
 have h := index96 g lb p x0 x1 x2 x3 eg A n c w hn hv hp
 generalize Go.Proofs.Ytlmiankjbffboaa.Any.fstP p 0 n = i at h hr
 subst hr
 clear hv hp
 go_enter Try.func84, Try.ntmps84
 go_wp2_with (go_at_call 96; refine h.mono ?_; rintro e w' ⟨rfl, hb'⟩)
 go_ret
 exact ⟨rfl, hb'⟩

/-! ### impl_power: function 55 -/
def impl_power.l0 : Nat → Int → Int → Int → Option (Int)
 | 0, _, _, _ => none
 | k + 1, x3, x4, x5 => if x5 < x4 then (impl_power.l0 k (wrap64 (x3 * 3)) x4 (wrap64 (x5 + 1))) else (some x3)
def impl_power.f (k : Nat) (a0 : Int) : Option (Int) := impl_power.l0 k 1 a0 0
theorem impl_power.mono_l : ∀ k, (∀ y0 y1 y2, LeO (impl_power.l0 k y0 y1 y2) (impl_power.l0 (k + 1) y0 y1 y2))
 | 0 => fun _ _ _ r h => by simp [impl_power.l0] at h
 | k + 1 => by
  have ih0 := impl_power.mono_l k
  ·intro y0 y1 y2
   unfold impl_power.l0
   repeat' first
   | (with_reducible exact ih0 _ _ _)
   | (with_reducible exact LeO.refl _)
   | (with_reducible exact LeO.none _)
   | (with_reducible refine LeO.ite ?_ ?_)
   | (with_reducible refine LeO.bind ?_ (fun _ => ?_))
   | exact ih0 _ _ _
   | exact LeO.none _
   | refine LeO.ite ?_ ?_
   | refine LeO.bind ?_ (fun _ => ?_)
theorem impl_power.mono : ∀ a0 k, LeO (impl_power.f k a0) (impl_power.f (k + 1) a0) := by
 intro a0 k
 have ih0 := impl_power.mono_l k
 unfold impl_power.f
 repeat' first
   | (with_reducible exact ih0 _ _ _)
   | (with_reducible exact LeO.refl _)
   | (with_reducible exact LeO.none _)
   | (with_reducible refine LeO.ite ?_ ?_)
   | (with_reducible refine LeO.bind ?_ (fun _ => ?_))
   | exact ih0 _ _ _
   | exact LeO.none _
   | refine LeO.ite ?_ ?_
   | refine LeO.bind ?_ (fun _ => ?_)
theorem impl_power.calls (k : Nat) (a0 : Int) (r : Int) (w : World) (h : impl_power.f k a0 = some r) :
  Calls Try.prog 55 #[.int .i64 a0] w fun e w' => e = .returned (.int .i64 r) ∧ Drawn0 w w' := by
 have H : (impl_power.l0 k 1 a0 0) = some r := h
 clear h
 have H' := Ak H
 clear H
 go_enter Try.func55, Try.ntmps55
 go_wp2
 go_loopg [3, 5] k (fun kq v3 v5 w' => ∃ (x3_1 : Int) (x5_1 : Int), v3 = .int .i64 x3_1 ∧ v5 = .int .i64 x5_1 ∧ Aside0 (impl_power.l0 kq x3_1 a0 x5_1 = some r) ∧ Aside0 (kq ≤ k) ∧ Drawn0 w w')
 case atStart => exact ⟨(1), (0), Qi, Qi, H', ⟨Nat.le_refl _⟩, Ql⟩
 case round =>
  clear H'
  obtain ⟨x3_1, x5_1, rfl, rfl, HA, HK1, ⟨m1, rfl⟩⟩ := hrel
  cases gk with
  | zero => exact absurd HA.out (by simp [impl_power.l0])
  | succ k1 =>
   have H := HA.out
   clear HA
   simp only [impl_power.l0] at H
   by_cases c2 : x5_1 < a0
   ·rw [if_pos c2] at H
    have c2b0 : decide (x5_1 < a0) = true := decide_eq_true c2
    clear c2
    have H' := Ak H
    clear H
    go_wp2
    go_roundg k1
    case measure => have := HK1.out; omega
    case rel => exact ⟨(wrap64 (x3_1 * 3)), (wrap64 (x5_1 + 1)), Qi, Qi, H', ⟨by have := HK1.out; omega⟩, Ql⟩
   ·rw [if_neg c2] at H
    have c2b0 : decide (x5_1 < a0) = false := decide_eq_false c2
    clear c2
    obtain rfl := Option.some.inj H
    go_wp2
    go_ret
    exact ⟨Qi, Ql⟩

/-! ### impl_LimitOf: function 99 -/
def impl_LimitOf.f (k : Nat) (a0 : Int) : Option (Int) := if a0 < 1 then (some 0) else (if a0 > 30 then (some 0) else ((impl_power.f k a0).bind fun t313 => (some (wrap64 (Int.tdiv (wrap64 (t313 - 1)) 2)))))
theorem impl_LimitOf.mono : ∀ a0 k, LeO (impl_LimitOf.f k a0) (impl_LimitOf.f (k + 1) a0) := by
 intro a0 k
 unfold impl_LimitOf.f
 repeat' first
   | (with_reducible exact impl_power.mono _ _)
   | (with_reducible exact LeO.refl _)
   | (with_reducible exact LeO.none _)
   | (with_reducible refine LeO.ite ?_ ?_)
   | (with_reducible refine LeO.bind ?_ (fun _ => ?_))
   | exact impl_power.mono _ _
   | exact LeO.none _
   | refine LeO.ite ?_ ?_
   | refine LeO.bind ?_ (fun _ => ?_)
theorem impl_LimitOf.calls (k : Nat) (a0 : Int) (r : Int) (w : World) (h : impl_LimitOf.f k a0 = some r) :
  Calls Try.prog 99 #[.int .i64 a0] w fun e w' => e = .returned (.int .i64 r) ∧ Drawn0 w w' := by
 have H : (if a0 < 1 then (some 0) else (if a0 > 30 then (some 0) else ((impl_power.f k a0).bind fun t313 => (some (wrap64 (Int.tdiv (wrap64 (t313 - 1)) 2)))))) = some r := h
 clear h
 by_cases c2 : a0 < 1
 ·rw [if_pos c2] at H
  have c2b0 : decide (a0 < 1) = true := decide_eq_true c2
  clear c2
  obtain rfl := Option.some.inj H
  go_enter Try.func99, Try.ntmps99
  go_wp2
  go_ret
  exact ⟨Qi, Ql⟩
 ·rw [if_neg c2] at H
  have c2b0 : decide (a0 < 1) = false := decide_eq_false c2
  clear c2
  by_cases c3 : a0 > 30
  ·rw [if_pos c3] at H
   have c3b0 : decide (30 < a0) = true := decide_eq_true c3
   clear c3
   obtain rfl := Option.some.inj H
   go_enter Try.func99, Try.ntmps99
   go_wp2
   go_ret
   exact ⟨Qi, Ql⟩
  ·rw [if_neg c3] at H
   have c3b0 : decide (30 < a0) = false := decide_eq_false c3
   clear c3
   replace H := Option.bind_eq_some_iff.mp H
   obtain ⟨t313, A40, H⟩ := H
   replace H : (some (wrap64 (Int.tdiv (wrap64 (t313 - 1)) 2))) = some r := H
   have A4 := Ak A40
   clear A40
   obtain rfl := Option.some.inj H
   go_enter Try.func99, Try.ntmps99
   go_wp2_with (first | ((with_reducible refine gate_callee (f := 55) rfl ?_); refine Qj (some 10) Try.func55 #[.int .i64 a0] ?_; (with_reducible refine (impl_power.calls k a0 t313 _ A4.out).mono ?_); rintro e w' ⟨rfl, ⟨nd, rfl⟩⟩; refine ⟨_, rfl, ?_⟩))
   go_ret
   exact ⟨Qi, Ql⟩

/-! ### impl_fits: function 89 -/
def impl_fits.f (k : Nat) (a0 : Int) (a1 : Int) : Option (Bool) := (impl_LimitOf.f k a1).bind fun t314 => (if a0 ≥ (wrap64 (-t314)) then ((impl_LimitOf.f k a1).bind fun t315 => (some (decide (a0 ≤ t315)))) else (some false))
theorem impl_fits.mono : ∀ a0 a1 k, LeO (impl_fits.f k a0 a1) (impl_fits.f (k + 1) a0 a1) := by
 intro a0 a1 k
 unfold impl_fits.f
 repeat' first
   | (with_reducible exact impl_LimitOf.mono _ _)
   | (with_reducible exact LeO.refl _)
   | (with_reducible exact LeO.none _)
   | (with_reducible refine LeO.ite ?_ ?_)
   | (with_reducible refine LeO.bind ?_ (fun _ => ?_))
   | exact impl_LimitOf.mono _ _
   | exact LeO.none _
   | refine LeO.ite ?_ ?_
   | refine LeO.bind ?_ (fun _ => ?_)
theorem impl_fits.calls (k : Nat) (a0 : Int) (a1 : Int) (r : Bool) (w : World) (h : impl_fits.f k a0 a1 = some r) :
  Calls Try.prog 89 #[.int .i64 a0, .int .i64 a1] w fun e w' => e = .returned (.bool r) ∧ Drawn0 w w' := by
 have H : ((impl_LimitOf.f k a1).bind fun t314 => (if a0 ≥ (wrap64 (-t314)) then ((impl_LimitOf.f k a1).bind fun t315 => (some (decide (a0 ≤ t315)))) else (some false))) = some r := h
 clear h
 replace H := Option.bind_eq_some_iff.mp H
 obtain ⟨t314, A30, H⟩ := H
 replace H : (if a0 ≥ (wrap64 (-t314)) then ((impl_LimitOf.f k a1).bind fun t315 => (some (decide (a0 ≤ t315)))) else (some false)) = some r := H
 have A3 := Ak A30
 clear A30
 by_cases c4 : a0 ≥ (wrap64 (-t314))
 ·rw [if_pos c4] at H
  have c4b0 : decide ((wrap64 (-t314)) ≤ a0) = true := decide_eq_true c4
  clear c4
  replace H := Option.bind_eq_some_iff.mp H
  obtain ⟨t315, A50, H⟩ := H
  replace H : (some (decide (a0 ≤ t315))) = some r := H
  have A5 := Ak A50
  clear A50
  obtain rfl := Option.some.inj H
  go_enter Try.func89, Try.ntmps89
  go_wp2_with (first | ((with_reducible refine gate_callee (f := 99) rfl ?_); refine Qj (some 7) Try.func99 #[.int .i64 a1] ?_; (with_reducible refine (impl_LimitOf.calls k a1 t314 _ A3.out).mono ?_); rintro e w' ⟨rfl, ⟨nd, rfl⟩⟩; refine ⟨_, rfl, ?_⟩) | (go_at_call 99; (with_reducible refine (impl_LimitOf.calls k a1 t315 _ A5.out).mono ?_); rintro e w' ⟨rfl, ⟨nd, rfl⟩⟩))
  go_ret
  exact ⟨Qi, Ql⟩
 ·rw [if_neg c4] at H
  have c4b0 : decide ((wrap64 (-t314)) ≤ a0) = false := decide_eq_false c4
  clear c4
  obtain rfl := Option.some.inj H
  go_enter Try.func89, Try.ntmps89
  go_wp2_with (first | ((with_reducible refine gate_callee (f := 99) rfl ?_); refine Qj (some 7) Try.func99 #[.int .i64 a1] ?_; (with_reducible refine (impl_LimitOf.calls k a1 t314 _ A3.out).mono ?_); rintro e w' ⟨rfl, ⟨nd, rfl⟩⟩; refine ⟨_, rfl, ?_⟩))
  go_ret
  exact ⟨Qi, Ql⟩

/-! ### impl_isOp_1: function 97 -/
set_option maxHeartbeats 2000000 in
theorem place97 (n size : Int) (b : Nat) (r : Bool) (w : World) (hr : (decide (0 ≤ n) && decide (n ≤ size)) = r) (hc : w.cell? ⟨b, 0, none⟩ = some (.int .i64 size)) :
  Calls Try.prog 97 #[.int .i64 n, .pointer (some ⟨b, 0, none⟩)] w fun e w' => e = .returned (.bool r) ∧ Drawn0 w w' := by
 subst hr
 cases h1 : decide (0 ≤ n) <;> cases h2 : decide (n ≤ size) <;>
 ·go_enter Try.func97, Try.ntmps97
  go_wp2
  go_ret
  exact ⟨by first | rfl | simp [*], Ql⟩

end Go.Proofs.Ytlmiankjbffboaa.HFnExactStepMachine

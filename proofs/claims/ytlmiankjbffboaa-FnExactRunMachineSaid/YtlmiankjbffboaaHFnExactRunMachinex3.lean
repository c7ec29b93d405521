/- Text for FnExactRunMachine: written by a program of this session on the pattern of the kit's print. -/
import Derived.Test.YtlmiankjbffboaaHFnExactRunMachinex0
import Derived.Test.YtlmiankjbffboaaHFnExactRunMachinex2
namespace Go.Proofs.Ytlmiankjbffboaa.HFnExactRunMachine
set_option maxHeartbeats 8000000
set_option maxRecDepth 100000
open Go.RowKit Go.Proofs.YtlmiankjbffboaaW.PrintWords Go.Proofs.YtlmiankjbffboaaW.PrintLast Go.Proofs.YtlmiankjbffboaaW.PrintMore
attribute [local go_sem] max2_int min2_int max_two min_two max_three min_three max_four min_four
set_option linter.unusedVariables false
set_option linter.unusedSimpArgs false

/-! ### spec_l7Cell: function 53 -/
def spec_l7Cell.f (a0 : Int) : Option (Bool) := (spec_l1In.f a0 (-9841) 9841).bind fun t155 => (some t155)
theorem spec_l7Cell.calls (a0 : Int) (r : Bool) (w : World) (h : spec_l7Cell.f a0 = some r) :
  Calls Try.prog 53 #[.int .i64 a0] w fun e w' => e = .returned (.bool r) ∧ Drawn0 w w' := by
 have H : ((spec_l1In.f a0 (-9841) 9841).bind fun t155 => (some t155)) = some r := h
 clear h
 replace H := Option.bind_eq_some_iff.mp H
 obtain ⟨t155, A20, H⟩ := H
 replace H : (some t155) = some r := H
 have A2 := Ak A20
 clear A20
 obtain rfl := Option.some.inj H
 go_enter Try.func53, Try.ntmps53
 go_wp2_with (first | ((with_reducible refine gate_callee (f := 48) rfl ?_); refine Qj (some 4) Try.func48 #[.int .i64 a0, .int .i64 (-9841), .int .i64 9841] ?_; (with_reducible refine (spec_l1In.calls a0 (-9841) 9841 t155 _ A2.out).mono ?_); rintro e w' ⟨rfl, ⟨nd, rfl⟩⟩; refine ⟨_, rfl, ?_⟩))
 go_ret
 exact ⟨Qi, Ql⟩

/-! ### spec_IsCode: function 32 -/
mutual
def spec_IsCode.l0 : Nat → Int → List (S48) → Int → Int → Option (Bool)
 | 0, _, _, _, _ => none
 | k + 1, x3, x12, x13, x14 => if x14 < x13 then (if 0 ≤ x14 then (if x14 < (x12.length : Int) then (if ((rd_T48 x12 x14).f2) = 0 then (spec_IsCode.j1 k x3 (((rd_T48 x12 x14).f3) == 0) x12 x13 x14 ((rd_T48 x12 x14).f0) ((rd_T48 x12 x14).f1) ((rd_T48 x12 x14).f2) ((rd_T48 x12 x14).f3)) else (spec_IsCode.j1 k x3 false x12 x13 x14 ((rd_T48 x12 x14).f0) ((rd_T48 x12 x14).f1) ((rd_T48 x12 x14).f2) ((rd_T48 x12 x14).f3))) else (none)) else (none)) else (some true)
def spec_IsCode.j1 : Nat → Int → Bool → List (S48) → Int → Int → Int → Int → Int → Int → Option (Bool)
 | 0, _, _, _, _, _, _, _, _, _ => none
 | k + 1, x3, x6, x12, x13, x14, x159000, x159001, x159002, x159003 => if x159000 = 1 then ((spec_l7Cell.f x159001).bind fun t159 => (if t159 = true then (if x6 = true then (spec_IsCode.l0 k x3 x12 x13 (wrap64 (x14 + 1))) else (some false)) else (some false))) else (if x159000 = 10 then ((spec_l1In.f x159001 (-9) 9).bind fun t160 => (if t160 = true then (if x6 = true then (spec_IsCode.l0 k x3 x12 x13 (wrap64 (x14 + 1))) else (some false)) else (some false))) else (if x159000 = 13 then ((spec_l1In.f x159001 0 x3).bind fun t161 => (if t161 = true then (if x6 = true then (spec_IsCode.l0 k x3 x12 x13 (wrap64 (x14 + 1))) else (some false)) else (some false))) else (if x159000 = 14 then ((spec_l1In.f x159001 0 x3).bind fun t162 => (if t162 = true then ((spec_l1In.f x159002 0 x3).bind fun t163 => (if t163 = true then ((spec_l1In.f x159003 0 x3).bind fun t164 => (if t164 = true then (spec_IsCode.l0 k x3 x12 x13 (wrap64 (x14 + 1))) else (some false))) else (some false))) else (some false))) else ((spec_l1In.f x159000 1 15).bind fun t165 => (if t165 = true then (if x159001 = 0 then (if x6 = true then (spec_IsCode.l0 k x3 x12 x13 (wrap64 (x14 + 1))) else (some false)) else (some false)) else (some false))))))
end
def spec_IsCode.f (k : Nat) (l0 : List (S48)) : Option (Bool) := (spec_l1In.f (l0.length : Int) 1 80).bind fun t156 => (if t156 = true then (spec_IsCode.l0 k (l0.length : Int) l0 (l0.length : Int) 0) else (some false))
theorem spec_IsCode.mono_l : ∀ k, (∀ y0 y1 y2 y3, LeO (spec_IsCode.l0 k y0 y1 y2 y3) (spec_IsCode.l0 (k + 1) y0 y1 y2 y3)) ∧ (∀ y0 y1 y2 y3 y4 y5 y6 y7 y8, LeO (spec_IsCode.j1 k y0 y1 y2 y3 y4 y5 y6 y7 y8) (spec_IsCode.j1 (k + 1) y0 y1 y2 y3 y4 y5 y6 y7 y8))
 | 0 => ⟨fun _ _ _ _ r h => by simp [spec_IsCode.l0] at h, fun _ _ _ _ _ _ _ _ _ r h => by simp [spec_IsCode.j1] at h⟩
 | k + 1 => by
  obtain ⟨ih0, ih1⟩ := spec_IsCode.mono_l k
  refine ⟨?_, ?_⟩
  ·intro y0 y1 y2 y3
   unfold spec_IsCode.l0
   repeat' first
   | (with_reducible exact ih0 _ _ _ _)
   | (with_reducible exact ih1 _ _ _ _ _ _ _ _ _)
   | (with_reducible exact LeO.refl _)
   | (with_reducible exact LeO.none _)
   | (with_reducible refine LeO.ite ?_ ?_)
   | (with_reducible refine LeO.bind ?_ (fun _ => ?_))
   | exact ih0 _ _ _ _
   | exact ih1 _ _ _ _ _ _ _ _ _
   | exact LeO.none _
   | refine LeO.ite ?_ ?_
   | refine LeO.bind ?_ (fun _ => ?_)
  ·intro y0 y1 y2 y3 y4 y5 y6 y7 y8
   unfold spec_IsCode.j1
   repeat' first
   | (with_reducible exact ih0 _ _ _ _)
   | (with_reducible exact ih1 _ _ _ _ _ _ _ _ _)
   | (with_reducible exact LeO.refl _)
   | (with_reducible exact LeO.none _)
   | (with_reducible refine LeO.ite ?_ ?_)
   | (with_reducible refine LeO.bind ?_ (fun _ => ?_))
   | exact ih0 _ _ _ _
   | exact ih1 _ _ _ _ _ _ _ _ _
   | exact LeO.none _
   | refine LeO.ite ?_ ?_
   | refine LeO.bind ?_ (fun _ => ?_)
theorem spec_IsCode.mono : ∀ a0 k, LeO (spec_IsCode.f k a0) (spec_IsCode.f (k + 1) a0) := by
 intro a0 k
 obtain ⟨ih0, ih1⟩ := spec_IsCode.mono_l k
 unfold spec_IsCode.f
 repeat' first
   | (with_reducible exact ih0 _ _ _ _)
   | (with_reducible exact ih1 _ _ _ _ _ _ _ _ _)
   | (with_reducible exact LeO.refl _)
   | (with_reducible exact LeO.none _)
   | (with_reducible refine LeO.ite ?_ ?_)
   | (with_reducible refine LeO.bind ?_ (fun _ => ?_))
   | exact ih0 _ _ _ _
   | exact ih1 _ _ _ _ _ _ _ _ _
   | exact LeO.none _
   | refine LeO.ite ?_ ?_
   | refine LeO.bind ?_ (fun _ => ?_)
theorem spec_IsCode.calls (k : Nat) (A0 : Option Addr) (c0 : Nat) (l0 : List (S48)) (r : Bool) (w : World) (hr0 : Kd.C k48 w A0 l0.length l0) (hc0 : l0.length ≤ c0) (h : spec_IsCode.f k l0 = some r) :
  Calls Try.prog 32 #[.slice A0 l0.length c0] w fun e w' => e = .returned (.bool r) ∧ Below w.heap.size w w' := by
 have hu48 := Try.underlying48
 have HR0 := Ak hr0
 have HC0 := Ak hc0
 clear hr0 hc0
 have HB := Ak (Below.refl w.heap.size w)
 have H : ((spec_l1In.f (l0.length : Int) 1 80).bind fun t156 => (if t156 = true then (spec_IsCode.l0 k (l0.length : Int) l0 (l0.length : Int) 0) else (some false))) = some r := h
 clear h
 replace H := Option.bind_eq_some_iff.mp H
 obtain ⟨t156, A20, H⟩ := H
 replace H : (if t156 = true then (spec_IsCode.l0 k (l0.length : Int) l0 (l0.length : Int) 0) else (some false)) = some r := H
 have A2 := Ak A20
 clear A20
 by_cases c3 : t156 = true
 ·(try subst c3)
  have H1 : (spec_IsCode.l0 k (l0.length : Int) l0 (l0.length : Int) 0) = some r := by rw [if_pos rfl] at H; exact H
  clear H
  have H := H1
  clear H1
  have H' := Ak H
  clear H
  go_enter Try.func32, Try.ntmps32
  go_wp2_with (first | ((with_reducible refine gate_callee (f := 48) rfl ?_); refine Qj (some 10) Try.func48 #[.int .i64 (l0.length : Int), .int .i64 1, .int .i64 80] ?_; (with_reducible refine (spec_l1In.calls (l0.length : Int) 1 80 true _ A2.out).mono ?_); rintro e w' ⟨rfl, ⟨nd, rfl⟩⟩; refine ⟨_, rfl, ?_⟩))
  go_loopg [14] k (fun kq v14 w' => ∃ (x14_1 : Int), v14 = .int .i64 x14_1 ∧ Aside0 (spec_IsCode.l0 kq (l0.length : Int) l0 (l0.length : Int) x14_1 = some r) ∧ Aside0 (kq ≤ k) ∧ Aside0 (Below w.heap.size w w'))
  case atStart => exact ⟨(0), Qi, H', ⟨Nat.le_refl _⟩, ⟨Qb HB.out⟩⟩
  case round =>
   clear H'
   (try clear p2); (try clear c3)
   obtain ⟨x14_1, rfl, HA, HK1, HB⟩ := hrel
   cases gk with
   | zero => exact absurd HA.out (by simp [spec_IsCode.l0])
   | succ k1 =>
    have H := HA.out
    clear HA
    simp only [spec_IsCode.l0] at H
    by_cases c4 : x14_1 < (l0.length : Int)
    ·rw [if_pos c4] at H
     have c4b0 : decide (x14_1 < (l0.length : Int)) = true := decide_eq_true c4
     clear c4
     by_cases c5 : 0 ≤ x14_1
     ·rw [if_pos c5] at H
      have c5b0 : decide (0 ≤ x14_1) = true := decide_eq_true c5
      clear c5
      by_cases c6 : x14_1 < (l0.length : Int)
      ·rw [if_pos c6] at H
       have c6b0 : decide (x14_1 < (l0.length : Int)) = true := decide_eq_true c6
       clear c6
       have HC7 := Ak H
       clear H
       have p157 : 0 ≤ (x14_1 : Int) := Qg
       have q157 : x14_1 < (l0.length : Int) := Qg
       obtain ⟨ad157, e157, hx157_0, hx157_1, hx157_2, hx157_3⟩ := at_T48 HR0.out x14_1 p157 q157
       cases e157
       (try replace hx157_0 := (HB.out.cell (World.block_lt_of_cell? w _ hx157_0)).trans hx157_0)
       (try replace hx157_1 := (HB.out.cell (World.block_lt_of_cell? w _ hx157_1)).trans hx157_1)
       (try replace hx157_2 := (HB.out.cell (World.block_lt_of_cell? w _ hx157_2)).trans hx157_2)
       (try replace hx157_3 := (HB.out.cell (World.block_lt_of_cell? w _ hx157_3)).trans hx157_3)
       replace p157 := eq_true p157
       replace q157 := eq_true q157
       go_upto_region 7 with (first | ((with_reducible refine gate_dst (N := 5) rfl ?_); refine Qk 5 #[.int .i64 0, .int .i64 0, .int .i64 0, .int .i64 0] 48 ?_; intro gb158 hg w8 hbox hb; have n0_ := Ak (below_step (Qb HB.out) hb); have n1_ := Ak (hbox); have n2_ := Ak ((Qp hg HB.out : w.heap.size ≤ gb158)); have n3_ := Ak ((Qp hg HB.out : w.heap.size ≤ gb158)); clear HB; have HB := n0_; have BK158 := n1_; have GW158 := n2_; have GE158 := n3_; clear n0_ n1_ n2_ n3_; clear hb hbox hg; obtain ⟨hcz9_0, hcz9_1, hcz9_2, hcz9_3⟩ := Qu4 BK158.out; have hfz9_0 := blk_frozen BK158.out 0; have hfz9_1 := blk_frozen BK158.out 1; have hfz9_2 := blk_frozen BK158.out 2; have hfz9_3 := blk_frozen BK158.out 3))
       (try simp only [Act.put, List.setIfInBounds_toArray, List.set_cons_zero, List.set_cons_succ])
       go_cut [6] (fun v6 wc => ∃ (kq : Nat) (x6_6 : Bool), v6 = .bool x6_6 ∧ Aside0 (spec_IsCode.j1 kq (l0.length : Int) x6_6 l0 (l0.length : Int) x14_1 ((rd_T48 l0 x14_1).f0) ((rd_T48 l0 x14_1).f1) ((rd_T48 l0 x14_1).f2) ((rd_T48 l0 x14_1).f3) = some r) ∧ Aside0 (kq ≤ k1) ∧ Aside0 (wc.heap[gb158]? = some (.cells #[.int .i64 ((rd_T48 l0 x14_1).f0), .int .i64 ((rd_T48 l0 x14_1).f1), .int .i64 ((rd_T48 l0 x14_1).f2), .int .i64 ((rd_T48 l0 x14_1).f3)] 48 (0, 0))) ∧ Aside0 (Below w.heap.size w wc))
       case first =>
        have H := HC7.out
        clear HC7
        by_cases c10 : ((rd_T48 l0 x14_1).f2) = 0
        ·rw [if_pos c10] at H
         have c10b0 : (((rd_T48 l0 x14_1).f2) == 0) = true := beq_iff_eq.mpr c10
         have c10b1 : (((rd_T48 l0 x14_1).f2) != 0) = false := bne_eq_false_iff_eq.mpr c10
         clear c10
         (first | rw [c10b0] | (simp only [i64_w, i32_w]; rw [c10b0]) | skip)
         have H' := Ak H
         clear H
         obtain ⟨hcz11_0, hcz11_1, hcz11_2, hcz11_3, hfz11_0, hfz11_1, hfz11_2, hfz11_3⟩ := Qv4 BK158.out
         go_wp2
         go_meet
         case rel => exact ⟨_, ((((rd_T48 l0 x14_1).f3) == 0)), Qi, H', ⟨by have := HK1.out; first | omega | exact Nat.le_refl _⟩, ⟨by refine Qe ?_; refine blk_put (cs := #[.int .i64 ((rd_T48 l0 x14_1).f0), .int .i64 ((rd_T48 l0 x14_1).f1), .int .i64 ((rd_T48 l0 x14_1).f2), .int .i64 0]) ?_ 3 _ rfl; refine Qe ?_; refine blk_put (cs := #[.int .i64 ((rd_T48 l0 x14_1).f0), .int .i64 ((rd_T48 l0 x14_1).f1), .int .i64 0, .int .i64 0]) ?_ 2 _ rfl; refine Qe ?_; refine blk_put (cs := #[.int .i64 ((rd_T48 l0 x14_1).f0), .int .i64 0, .int .i64 0, .int .i64 0]) ?_ 1 _ rfl; refine Qe ?_; refine blk_put (cs := #[.int .i64 0, .int .i64 0, .int .i64 0, .int .i64 0]) ?_ 0 _ rfl; refine Qe ?_; exact BK158.out⟩, ⟨Qb HB.out⟩⟩
        ·rw [if_neg c10] at H
         have c10b0 : (((rd_T48 l0 x14_1).f2) == 0) = false := beq_eq_false_iff_ne.mpr c10
         have c10b1 : (((rd_T48 l0 x14_1).f2) != 0) = true := bne_iff_ne.mpr c10
         (first | rw [c10b0] | (simp only [i64_w, i32_w]; rw [c10b0]) | skip)
         have H' := Ak H
         clear H
         obtain ⟨hcz12_0, hcz12_1, hcz12_2, hcz12_3, hfz12_0, hfz12_1, hfz12_2, hfz12_3⟩ := Qv4 BK158.out
         go_wp2
         go_meet
         case rel => exact ⟨_, (false), Qi, H', ⟨by have := HK1.out; first | omega | exact Nat.le_refl _⟩, ⟨by refine Qe ?_; refine blk_put (cs := #[.int .i64 ((rd_T48 l0 x14_1).f0), .int .i64 ((rd_T48 l0 x14_1).f1), .int .i64 ((rd_T48 l0 x14_1).f2), .int .i64 0]) ?_ 3 _ rfl; refine Qe ?_; refine blk_put (cs := #[.int .i64 ((rd_T48 l0 x14_1).f0), .int .i64 ((rd_T48 l0 x14_1).f1), .int .i64 0, .int .i64 0]) ?_ 2 _ rfl; refine Qe ?_; refine blk_put (cs := #[.int .i64 ((rd_T48 l0 x14_1).f0), .int .i64 0, .int .i64 0, .int .i64 0]) ?_ 1 _ rfl; refine Qe ?_; refine blk_put (cs := #[.int .i64 0, .int .i64 0, .int .i64 0, .int .i64 0]) ?_ 0 _ rfl; refine Qe ?_; exact BK158.out⟩, ⟨Qb HB.out⟩⟩
       case rest =>
        clear HC7
        (try clear c1); (try clear p1); (try clear q1); (try clear hx1); (try clear p2); (try clear c3); (try clear c4); (try clear c4b0); (try clear c5); (try clear c5b0); (try clear c6); (try clear c6b0); (try clear c10); (try clear c10b0); (try clear c10b1); (try clear hcz11_0); (try clear hcz11_1); (try clear hcz11_2); (try clear hcz11_3); (try clear hcz12_0); (try clear hcz12_1); (try clear hcz12_2); (try clear hcz12_3); (try clear hcz9_0); (try clear hcz9_1); (try clear hcz9_2); (try clear hcz9_3); (try clear hfz11_0); (try clear hfz11_1); (try clear hfz11_2); (try clear hfz11_3); (try clear hfz12_0); (try clear hfz12_1); (try clear hfz12_2); (try clear hfz12_3); (try clear hfz9_0); (try clear hfz9_1); (try clear hfz9_2); (try clear hfz9_3); (try clear hx157_0); (try clear hx157_1); (try clear hx157_2); (try clear hx157_3); (try clear p157); (try clear p2); (try clear q157)
        obtain ⟨kq, x6_6, rfl, HA, HJ6, BK158, HB⟩ := hcut
        cases kq with
        | zero => exact absurd HA.out (by simp [spec_IsCode.j1])
        | succ kj6 =>
         have H := HA.out
         clear HA
         simp only [spec_IsCode.j1] at H
         by_cases c13 : ((rd_T48 l0 x14_1).f0) = 1
         ·rw [if_pos c13] at H
          have c13b0 : (((rd_T48 l0 x14_1).f0) == 1) = true := beq_iff_eq.mpr c13
          have c13b1 : (((rd_T48 l0 x14_1).f0) != 1) = false := bne_eq_false_iff_eq.mpr c13
          clear c13
          replace H := Option.bind_eq_some_iff.mp H
          obtain ⟨t159, A140, H⟩ := H
          replace H : (if t159 = true then (if x6_6 = true then (spec_IsCode.l0 kj6 (l0.length : Int) l0 (l0.length : Int) (wrap64 (x14_1 + 1))) else (some false)) else (some false)) = some r := H
          have A14 := Ak A140
          clear A140
          by_cases c15 : t159 = true
          ·(try subst c15)
           have H1 : (if x6_6 = true then (spec_IsCode.l0 kj6 (l0.length : Int) l0 (l0.length : Int) (wrap64 (x14_1 + 1))) else (some false)) = some r := by rw [if_pos rfl] at H; exact H
           clear H
           have H := H1
           clear H1
           by_cases c16 : x6_6 = true
           ·(try subst c16)
            have H1 : (spec_IsCode.l0 kj6 (l0.length : Int) l0 (l0.length : Int) (wrap64 (x14_1 + 1))) = some r := by rw [if_pos rfl] at H; exact H
            clear H
            have H := H1
            clear H1
            have H' := Ak H
            clear H
            obtain ⟨hcz17_0, hcz17_1, hcz17_2, hcz17_3, hfz17_0, hfz17_1, hfz17_2, hfz17_3⟩ := Qv4 BK158.out
            go_wp2_with (first | ((with_reducible refine gate_callee (f := 53) rfl ?_); refine Qj (some 45) Try.func53 #[.int .i64 ((rd_T48 l0 x14_1).f1)] ?_; (with_reducible refine (spec_l7Cell.calls ((rd_T48 l0 x14_1).f1) true _ A14.out).mono ?_); rintro e w' ⟨rfl, ⟨nd, rfl⟩⟩; refine ⟨_, rfl, ?_⟩))
            go_roundg kj6
            case measure => have := HK1.out; have := HJ6.out; omega
            case rel => exact ⟨(wrap64 (x14_1 + 1)), Qi, H', ⟨by have := HK1.out; have := HJ6.out; omega⟩, ⟨Qb HB.out⟩⟩
           ·replace c16 := Bool.eq_false_iff.mpr c16
            (try subst c16)
            have H1 : (some false) = some r := by rw [if_neg (show ¬ (false = true) by decide)] at H; exact H
            clear H
            have H := H1
            clear H1
            obtain rfl := Option.some.inj H
            obtain ⟨hcz18_0, hcz18_1, hcz18_2, hcz18_3, hfz18_0, hfz18_1, hfz18_2, hfz18_3⟩ := Qv4 BK158.out
            go_wp2_with (first | ((with_reducible refine gate_callee (f := 53) rfl ?_); refine Qj (some 45) Try.func53 #[.int .i64 ((rd_T48 l0 x14_1).f1)] ?_; (with_reducible refine (spec_l7Cell.calls ((rd_T48 l0 x14_1).f1) true _ A14.out).mono ?_); rintro e w' ⟨rfl, ⟨nd, rfl⟩⟩; refine ⟨_, rfl, ?_⟩))
            go_ret
            exact ⟨Qh, Qb HB.out⟩
          ·replace c15 := Bool.eq_false_iff.mpr c15
           (try subst c15)
           have H1 : (some false) = some r := by rw [if_neg (show ¬ (false = true) by decide)] at H; exact H
           clear H
           have H := H1
           clear H1
           obtain rfl := Option.some.inj H
           obtain ⟨hcz19_0, hcz19_1, hcz19_2, hcz19_3, hfz19_0, hfz19_1, hfz19_2, hfz19_3⟩ := Qv4 BK158.out
           go_wp2_with (first | ((with_reducible refine gate_callee (f := 53) rfl ?_); refine Qj (some 45) Try.func53 #[.int .i64 ((rd_T48 l0 x14_1).f1)] ?_; (with_reducible refine (spec_l7Cell.calls ((rd_T48 l0 x14_1).f1) false _ A14.out).mono ?_); rintro e w' ⟨rfl, ⟨nd, rfl⟩⟩; refine ⟨_, rfl, ?_⟩))
           go_ret
           exact ⟨Qh, Qb HB.out⟩
         ·rw [if_neg c13] at H
          have c13b0 : (((rd_T48 l0 x14_1).f0) == 1) = false := beq_eq_false_iff_ne.mpr c13
          have c13b1 : (((rd_T48 l0 x14_1).f0) != 1) = true := bne_iff_ne.mpr c13
          by_cases c20 : ((rd_T48 l0 x14_1).f0) = 10
          ·rw [if_pos c20] at H
           have c20b0 : (((rd_T48 l0 x14_1).f0) == 10) = true := beq_iff_eq.mpr c20
           have c20b1 : (((rd_T48 l0 x14_1).f0) != 10) = false := bne_eq_false_iff_eq.mpr c20
           clear c20
           replace H := Option.bind_eq_some_iff.mp H
           obtain ⟨t160, A210, H⟩ := H
           replace H : (if t160 = true then (if x6_6 = true then (spec_IsCode.l0 kj6 (l0.length : Int) l0 (l0.length : Int) (wrap64 (x14_1 + 1))) else (some false)) else (some false)) = some r := H
           have A21 := Ak A210
           clear A210
           by_cases c22 : t160 = true
           ·(try subst c22)
            have H1 : (if x6_6 = true then (spec_IsCode.l0 kj6 (l0.length : Int) l0 (l0.length : Int) (wrap64 (x14_1 + 1))) else (some false)) = some r := by rw [if_pos rfl] at H; exact H
            clear H
            have H := H1
            clear H1
            by_cases c23 : x6_6 = true
            ·(try subst c23)
             have H1 : (spec_IsCode.l0 kj6 (l0.length : Int) l0 (l0.length : Int) (wrap64 (x14_1 + 1))) = some r := by rw [if_pos rfl] at H; exact H
             clear H
             have H := H1
             clear H1
             have H' := Ak H
             clear H
             obtain ⟨hcz24_0, hcz24_1, hcz24_2, hcz24_3, hfz24_0, hfz24_1, hfz24_2, hfz24_3⟩ := Qv4 BK158.out
             go_wp2_with (first | ((with_reducible refine gate_callee (f := 48) rfl ?_); refine Qj (some 55) Try.func48 #[.int .i64 ((rd_T48 l0 x14_1).f1), .int .i64 (-9), .int .i64 9] ?_; (with_reducible refine (spec_l1In.calls ((rd_T48 l0 x14_1).f1) (-9) 9 true _ A21.out).mono ?_); rintro e w' ⟨rfl, ⟨nd, rfl⟩⟩; refine ⟨_, rfl, ?_⟩))
             go_roundg kj6
             case measure => have := HK1.out; have := HJ6.out; omega
             case rel => exact ⟨(wrap64 (x14_1 + 1)), Qi, H', ⟨by have := HK1.out; have := HJ6.out; omega⟩, ⟨Qb HB.out⟩⟩
            ·replace c23 := Bool.eq_false_iff.mpr c23
             (try subst c23)
             have H1 : (some false) = some r := by rw [if_neg (show ¬ (false = true) by decide)] at H; exact H
             clear H
             have H := H1
             clear H1
             obtain rfl := Option.some.inj H
             obtain ⟨hcz25_0, hcz25_1, hcz25_2, hcz25_3, hfz25_0, hfz25_1, hfz25_2, hfz25_3⟩ := Qv4 BK158.out
             go_wp2_with (first | ((with_reducible refine gate_callee (f := 48) rfl ?_); refine Qj (some 55) Try.func48 #[.int .i64 ((rd_T48 l0 x14_1).f1), .int .i64 (-9), .int .i64 9] ?_; (with_reducible refine (spec_l1In.calls ((rd_T48 l0 x14_1).f1) (-9) 9 true _ A21.out).mono ?_); rintro e w' ⟨rfl, ⟨nd, rfl⟩⟩; refine ⟨_, rfl, ?_⟩))
             go_ret
             exact ⟨Qh, Qb HB.out⟩
           ·replace c22 := Bool.eq_false_iff.mpr c22
            (try subst c22)
            have H1 : (some false) = some r := by rw [if_neg (show ¬ (false = true) by decide)] at H; exact H
            clear H
            have H := H1
            clear H1
            obtain rfl := Option.some.inj H
            obtain ⟨hcz26_0, hcz26_1, hcz26_2, hcz26_3, hfz26_0, hfz26_1, hfz26_2, hfz26_3⟩ := Qv4 BK158.out
            go_wp2_with (first | ((with_reducible refine gate_callee (f := 48) rfl ?_); refine Qj (some 55) Try.func48 #[.int .i64 ((rd_T48 l0 x14_1).f1), .int .i64 (-9), .int .i64 9] ?_; (with_reducible refine (spec_l1In.calls ((rd_T48 l0 x14_1).f1) (-9) 9 false _ A21.out).mono ?_); rintro e w' ⟨rfl, ⟨nd, rfl⟩⟩; refine ⟨_, rfl, ?_⟩))
            go_ret
            exact ⟨Qh, Qb HB.out⟩
          ·rw [if_neg c20] at H
           have c20b0 : (((rd_T48 l0 x14_1).f0) == 10) = false := beq_eq_false_iff_ne.mpr c20
           have c20b1 : (((rd_T48 l0 x14_1).f0) != 10) = true := bne_iff_ne.mpr c20
           by_cases c27 : ((rd_T48 l0 x14_1).f0) = 13
           ·rw [if_pos c27] at H
            have c27b0 : (((rd_T48 l0 x14_1).f0) == 13) = true := beq_iff_eq.mpr c27
            have c27b1 : (((rd_T48 l0 x14_1).f0) != 13) = false := bne_eq_false_iff_eq.mpr c27
            clear c27
            replace H := Option.bind_eq_some_iff.mp H
            obtain ⟨t161, A280, H⟩ := H
            replace H : (if t161 = true then (if x6_6 = true then (spec_IsCode.l0 kj6 (l0.length : Int) l0 (l0.length : Int) (wrap64 (x14_1 + 1))) else (some false)) else (some false)) = some r := H
            have A28 := Ak A280
            clear A280
            by_cases c29 : t161 = true
            ·(try subst c29)
             have H1 : (if x6_6 = true then (spec_IsCode.l0 kj6 (l0.length : Int) l0 (l0.length : Int) (wrap64 (x14_1 + 1))) else (some false)) = some r := by rw [if_pos rfl] at H; exact H
             clear H
             have H := H1
             clear H1
             by_cases c30 : x6_6 = true
             ·(try subst c30)
              have H1 : (spec_IsCode.l0 kj6 (l0.length : Int) l0 (l0.length : Int) (wrap64 (x14_1 + 1))) = some r := by rw [if_pos rfl] at H; exact H
              clear H
              have H := H1
              clear H1
              have H' := Ak H
              clear H
              obtain ⟨hcz31_0, hcz31_1, hcz31_2, hcz31_3, hfz31_0, hfz31_1, hfz31_2, hfz31_3⟩ := Qv4 BK158.out
              go_wp2_with (first | ((with_reducible refine gate_callee (f := 48) rfl ?_); refine Qj (some 66) Try.func48 #[.int .i64 ((rd_T48 l0 x14_1).f1), .int .i64 0, .int .i64 (l0.length : Int)] ?_; (with_reducible refine (spec_l1In.calls ((rd_T48 l0 x14_1).f1) 0 (l0.length : Int) true _ A28.out).mono ?_); rintro e w' ⟨rfl, ⟨nd, rfl⟩⟩; refine ⟨_, rfl, ?_⟩))
              go_roundg kj6
              case measure => have := HK1.out; have := HJ6.out; omega
              case rel => exact ⟨(wrap64 (x14_1 + 1)), Qi, H', ⟨by have := HK1.out; have := HJ6.out; omega⟩, ⟨Qb HB.out⟩⟩
             ·replace c30 := Bool.eq_false_iff.mpr c30
              (try subst c30)
              have H1 : (some false) = some r := by rw [if_neg (show ¬ (false = true) by decide)] at H; exact H
              clear H
              have H := H1
              clear H1
              obtain rfl := Option.some.inj H
              obtain ⟨hcz32_0, hcz32_1, hcz32_2, hcz32_3, hfz32_0, hfz32_1, hfz32_2, hfz32_3⟩ := Qv4 BK158.out
              go_wp2_with (first | ((with_reducible refine gate_callee (f := 48) rfl ?_); refine Qj (some 66) Try.func48 #[.int .i64 ((rd_T48 l0 x14_1).f1), .int .i64 0, .int .i64 (l0.length : Int)] ?_; (with_reducible refine (spec_l1In.calls ((rd_T48 l0 x14_1).f1) 0 (l0.length : Int) true _ A28.out).mono ?_); rintro e w' ⟨rfl, ⟨nd, rfl⟩⟩; refine ⟨_, rfl, ?_⟩))
              go_ret
              exact ⟨Qh, Qb HB.out⟩
            ·replace c29 := Bool.eq_false_iff.mpr c29
             (try subst c29)
             have H1 : (some false) = some r := by rw [if_neg (show ¬ (false = true) by decide)] at H; exact H
             clear H
             have H := H1
             clear H1
             obtain rfl := Option.some.inj H
             obtain ⟨hcz33_0, hcz33_1, hcz33_2, hcz33_3, hfz33_0, hfz33_1, hfz33_2, hfz33_3⟩ := Qv4 BK158.out
             go_wp2_with (first | ((with_reducible refine gate_callee (f := 48) rfl ?_); refine Qj (some 66) Try.func48 #[.int .i64 ((rd_T48 l0 x14_1).f1), .int .i64 0, .int .i64 (l0.length : Int)] ?_; (with_reducible refine (spec_l1In.calls ((rd_T48 l0 x14_1).f1) 0 (l0.length : Int) false _ A28.out).mono ?_); rintro e w' ⟨rfl, ⟨nd, rfl⟩⟩; refine ⟨_, rfl, ?_⟩))
             go_ret
             exact ⟨Qh, Qb HB.out⟩
           ·rw [if_neg c27] at H
            have c27b0 : (((rd_T48 l0 x14_1).f0) == 13) = false := beq_eq_false_iff_ne.mpr c27
            have c27b1 : (((rd_T48 l0 x14_1).f0) != 13) = true := bne_iff_ne.mpr c27
            by_cases c34 : ((rd_T48 l0 x14_1).f0) = 14
            ·rw [if_pos c34] at H
             have c34b0 : (((rd_T48 l0 x14_1).f0) == 14) = true := beq_iff_eq.mpr c34
             have c34b1 : (((rd_T48 l0 x14_1).f0) != 14) = false := bne_eq_false_iff_eq.mpr c34
             clear c34
             replace H := Option.bind_eq_some_iff.mp H
             obtain ⟨t162, A350, H⟩ := H
             replace H : (if t162 = true then ((spec_l1In.f ((rd_T48 l0 x14_1).f2) 0 (l0.length : Int)).bind fun t163 => (if t163 = true then ((spec_l1In.f ((rd_T48 l0 x14_1).f3) 0 (l0.length : Int)).bind fun t164 => (if t164 = true then (spec_IsCode.l0 kj6 (l0.length : Int) l0 (l0.length : Int) (wrap64 (x14_1 + 1))) else (some false))) else (some false))) else (some false)) = some r := H
             have A35 := Ak A350
             clear A350
             by_cases c36 : t162 = true
             ·(try subst c36)
              have H1 : ((spec_l1In.f ((rd_T48 l0 x14_1).f2) 0 (l0.length : Int)).bind fun t163 => (if t163 = true then ((spec_l1In.f ((rd_T48 l0 x14_1).f3) 0 (l0.length : Int)).bind fun t164 => (if t164 = true then (spec_IsCode.l0 kj6 (l0.length : Int) l0 (l0.length : Int) (wrap64 (x14_1 + 1))) else (some false))) else (some false))) = some r := by rw [if_pos rfl] at H; exact H
              clear H
              have H := H1
              clear H1
              replace H := Option.bind_eq_some_iff.mp H
              obtain ⟨t163, A370, H⟩ := H
              replace H : (if t163 = true then ((spec_l1In.f ((rd_T48 l0 x14_1).f3) 0 (l0.length : Int)).bind fun t164 => (if t164 = true then (spec_IsCode.l0 kj6 (l0.length : Int) l0 (l0.length : Int) (wrap64 (x14_1 + 1))) else (some false))) else (some false)) = some r := H
              have A37 := Ak A370
              clear A370
              by_cases c38 : t163 = true
              ·(try subst c38)
               have H1 : ((spec_l1In.f ((rd_T48 l0 x14_1).f3) 0 (l0.length : Int)).bind fun t164 => (if t164 = true then (spec_IsCode.l0 kj6 (l0.length : Int) l0 (l0.length : Int) (wrap64 (x14_1 + 1))) else (some false))) = some r := by rw [if_pos rfl] at H; exact H
               clear H
               have H := H1
               clear H1
               replace H := Option.bind_eq_some_iff.mp H
               obtain ⟨t164, A390, H⟩ := H
               replace H : (if t164 = true then (spec_IsCode.l0 kj6 (l0.length : Int) l0 (l0.length : Int) (wrap64 (x14_1 + 1))) else (some false)) = some r := H
               have A39 := Ak A390
               clear A390
               by_cases c40 : t164 = true
               ·(try subst c40)
                have H1 : (spec_IsCode.l0 kj6 (l0.length : Int) l0 (l0.length : Int) (wrap64 (x14_1 + 1))) = some r := by rw [if_pos rfl] at H; exact H
                clear H
                have H := H1
                clear H1
                have H' := Ak H
                clear H
                obtain ⟨hcz41_0, hcz41_1, hcz41_2, hcz41_3, hfz41_0, hfz41_1, hfz41_2, hfz41_3⟩ := Qv4 BK158.out
                go_wp2_with (first | ((with_reducible refine gate_callee (f := 48) rfl ?_); refine Qj (some 77) Try.func48 #[.int .i64 ((rd_T48 l0 x14_1).f1), .int .i64 0, .int .i64 (l0.length : Int)] ?_; (with_reducible refine (spec_l1In.calls ((rd_T48 l0 x14_1).f1) 0 (l0.length : Int) true _ A35.out).mono ?_); rintro e w' ⟨rfl, ⟨nd, rfl⟩⟩; refine ⟨_, rfl, ?_⟩) | (go_at_call 48; (with_reducible refine (spec_l1In.calls ((rd_T48 l0 x14_1).f2) 0 (l0.length : Int) true _ A37.out).mono ?_); rintro e w' ⟨rfl, ⟨nd, rfl⟩⟩) | (go_at_call 48; (with_reducible refine (spec_l1In.calls ((rd_T48 l0 x14_1).f3) 0 (l0.length : Int) true _ A39.out).mono ?_); rintro e w' ⟨rfl, ⟨nd, rfl⟩⟩))
                go_roundg kj6
                case measure => have := HK1.out; have := HJ6.out; omega
                case rel => exact ⟨(wrap64 (x14_1 + 1)), Qi, H', ⟨by have := HK1.out; have := HJ6.out; omega⟩, ⟨Qb HB.out⟩⟩
               ·replace c40 := Bool.eq_false_iff.mpr c40
                (try subst c40)
                have H1 : (some false) = some r := by rw [if_neg (show ¬ (false = true) by decide)] at H; exact H
                clear H
                have H := H1
                clear H1
                obtain rfl := Option.some.inj H
                obtain ⟨hcz42_0, hcz42_1, hcz42_2, hcz42_3, hfz42_0, hfz42_1, hfz42_2, hfz42_3⟩ := Qv4 BK158.out
                go_wp2_with (first | ((with_reducible refine gate_callee (f := 48) rfl ?_); refine Qj (some 77) Try.func48 #[.int .i64 ((rd_T48 l0 x14_1).f1), .int .i64 0, .int .i64 (l0.length : Int)] ?_; (with_reducible refine (spec_l1In.calls ((rd_T48 l0 x14_1).f1) 0 (l0.length : Int) true _ A35.out).mono ?_); rintro e w' ⟨rfl, ⟨nd, rfl⟩⟩; refine ⟨_, rfl, ?_⟩) | (go_at_call 48; (with_reducible refine (spec_l1In.calls ((rd_T48 l0 x14_1).f2) 0 (l0.length : Int) true _ A37.out).mono ?_); rintro e w' ⟨rfl, ⟨nd, rfl⟩⟩) | (go_at_call 48; (with_reducible refine (spec_l1In.calls ((rd_T48 l0 x14_1).f3) 0 (l0.length : Int) false _ A39.out).mono ?_); rintro e w' ⟨rfl, ⟨nd, rfl⟩⟩))
                go_ret
                exact ⟨Qh, Qb HB.out⟩
              ·replace c38 := Bool.eq_false_iff.mpr c38
               (try subst c38)
               have H1 : (some false) = some r := by rw [if_neg (show ¬ (false = true) by decide)] at H; exact H
               clear H
               have H := H1
               clear H1
               obtain rfl := Option.some.inj H
               obtain ⟨hcz43_0, hcz43_1, hcz43_2, hcz43_3, hfz43_0, hfz43_1, hfz43_2, hfz43_3⟩ := Qv4 BK158.out
               go_wp2_with (first | ((with_reducible refine gate_callee (f := 48) rfl ?_); refine Qj (some 77) Try.func48 #[.int .i64 ((rd_T48 l0 x14_1).f1), .int .i64 0, .int .i64 (l0.length : Int)] ?_; (with_reducible refine (spec_l1In.calls ((rd_T48 l0 x14_1).f1) 0 (l0.length : Int) true _ A35.out).mono ?_); rintro e w' ⟨rfl, ⟨nd, rfl⟩⟩; refine ⟨_, rfl, ?_⟩) | (go_at_call 48; (with_reducible refine (spec_l1In.calls ((rd_T48 l0 x14_1).f2) 0 (l0.length : Int) false _ A37.out).mono ?_); rintro e w' ⟨rfl, ⟨nd, rfl⟩⟩))
               go_ret
               exact ⟨Qh, Qb HB.out⟩
             ·replace c36 := Bool.eq_false_iff.mpr c36
              (try subst c36)
              have H1 : (some false) = some r := by rw [if_neg (show ¬ (false = true) by decide)] at H; exact H
              clear H
              have H := H1
              clear H1
              obtain rfl := Option.some.inj H
              obtain ⟨hcz44_0, hcz44_1, hcz44_2, hcz44_3, hfz44_0, hfz44_1, hfz44_2, hfz44_3⟩ := Qv4 BK158.out
              go_wp2_with (first | ((with_reducible refine gate_callee (f := 48) rfl ?_); refine Qj (some 77) Try.func48 #[.int .i64 ((rd_T48 l0 x14_1).f1), .int .i64 0, .int .i64 (l0.length : Int)] ?_; (with_reducible refine (spec_l1In.calls ((rd_T48 l0 x14_1).f1) 0 (l0.length : Int) false _ A35.out).mono ?_); rintro e w' ⟨rfl, ⟨nd, rfl⟩⟩; refine ⟨_, rfl, ?_⟩))
              go_ret
              exact ⟨Qh, Qb HB.out⟩
            ·rw [if_neg c34] at H
             have c34b0 : (((rd_T48 l0 x14_1).f0) == 14) = false := beq_eq_false_iff_ne.mpr c34
             have c34b1 : (((rd_T48 l0 x14_1).f0) != 14) = true := bne_iff_ne.mpr c34
             replace H := Option.bind_eq_some_iff.mp H
             obtain ⟨t165, A450, H⟩ := H
             replace H : (if t165 = true then (if ((rd_T48 l0 x14_1).f1) = 0 then (if x6_6 = true then (spec_IsCode.l0 kj6 (l0.length : Int) l0 (l0.length : Int) (wrap64 (x14_1 + 1))) else (some false)) else (some false)) else (some false)) = some r := H
             have A45 := Ak A450
             clear A450
             by_cases c46 : t165 = true
             ·(try subst c46)
              have H1 : (if ((rd_T48 l0 x14_1).f1) = 0 then (if x6_6 = true then (spec_IsCode.l0 kj6 (l0.length : Int) l0 (l0.length : Int) (wrap64 (x14_1 + 1))) else (some false)) else (some false)) = some r := by rw [if_pos rfl] at H; exact H
              clear H
              have H := H1
              clear H1
              by_cases c47 : ((rd_T48 l0 x14_1).f1) = 0
              ·rw [if_pos c47] at H
               have c47b0 : (((rd_T48 l0 x14_1).f1) == 0) = true := beq_iff_eq.mpr c47
               have c47b1 : (((rd_T48 l0 x14_1).f1) != 0) = false := bne_eq_false_iff_eq.mpr c47
               clear c47
               by_cases c48 : x6_6 = true
               ·(try subst c48)
                have H1 : (spec_IsCode.l0 kj6 (l0.length : Int) l0 (l0.length : Int) (wrap64 (x14_1 + 1))) = some r := by rw [if_pos rfl] at H; exact H
                clear H
                have H := H1
                clear H1
                have H' := Ak H
                clear H
                obtain ⟨hcz49_0, hcz49_1, hcz49_2, hcz49_3, hfz49_0, hfz49_1, hfz49_2, hfz49_3⟩ := Qv4 BK158.out
                go_wp2_with (first | ((with_reducible refine gate_callee (f := 48) rfl ?_); refine Qj (some 30) Try.func48 #[.int .i64 ((rd_T48 l0 x14_1).f0), .int .i64 1, .int .i64 15] ?_; (with_reducible refine (spec_l1In.calls ((rd_T48 l0 x14_1).f0) 1 15 true _ A45.out).mono ?_); rintro e w' ⟨rfl, ⟨nd, rfl⟩⟩; refine ⟨_, rfl, ?_⟩))
                go_roundg kj6
                case measure => have := HK1.out; have := HJ6.out; omega
                case rel => exact ⟨(wrap64 (x14_1 + 1)), Qi, H', ⟨by have := HK1.out; have := HJ6.out; omega⟩, ⟨Qb HB.out⟩⟩
               ·replace c48 := Bool.eq_false_iff.mpr c48
                (try subst c48)
                have H1 : (some false) = some r := by rw [if_neg (show ¬ (false = true) by decide)] at H; exact H
                clear H
                have H := H1
                clear H1
                obtain rfl := Option.some.inj H
                obtain ⟨hcz50_0, hcz50_1, hcz50_2, hcz50_3, hfz50_0, hfz50_1, hfz50_2, hfz50_3⟩ := Qv4 BK158.out
                go_wp2_with (first | ((with_reducible refine gate_callee (f := 48) rfl ?_); refine Qj (some 30) Try.func48 #[.int .i64 ((rd_T48 l0 x14_1).f0), .int .i64 1, .int .i64 15] ?_; (with_reducible refine (spec_l1In.calls ((rd_T48 l0 x14_1).f0) 1 15 true _ A45.out).mono ?_); rintro e w' ⟨rfl, ⟨nd, rfl⟩⟩; refine ⟨_, rfl, ?_⟩))
                go_ret
                exact ⟨Qh, Qb HB.out⟩
              ·rw [if_neg c47] at H
               have c47b0 : (((rd_T48 l0 x14_1).f1) == 0) = false := beq_eq_false_iff_ne.mpr c47
               have c47b1 : (((rd_T48 l0 x14_1).f1) != 0) = true := bne_iff_ne.mpr c47
               obtain rfl := Option.some.inj H
               obtain ⟨hcz51_0, hcz51_1, hcz51_2, hcz51_3, hfz51_0, hfz51_1, hfz51_2, hfz51_3⟩ := Qv4 BK158.out
               go_wp2_with (first | ((with_reducible refine gate_callee (f := 48) rfl ?_); refine Qj (some 30) Try.func48 #[.int .i64 ((rd_T48 l0 x14_1).f0), .int .i64 1, .int .i64 15] ?_; (with_reducible refine (spec_l1In.calls ((rd_T48 l0 x14_1).f0) 1 15 true _ A45.out).mono ?_); rintro e w' ⟨rfl, ⟨nd, rfl⟩⟩; refine ⟨_, rfl, ?_⟩))
               go_ret
               exact ⟨Qh, Qb HB.out⟩
             ·replace c46 := Bool.eq_false_iff.mpr c46
              (try subst c46)
              have H1 : (some false) = some r := by rw [if_neg (show ¬ (false = true) by decide)] at H; exact H
              clear H
              have H := H1
              clear H1
              obtain rfl := Option.some.inj H
              obtain ⟨hcz52_0, hcz52_1, hcz52_2, hcz52_3, hfz52_0, hfz52_1, hfz52_2, hfz52_3⟩ := Qv4 BK158.out
              go_wp2_with (first | ((with_reducible refine gate_callee (f := 48) rfl ?_); refine Qj (some 30) Try.func48 #[.int .i64 ((rd_T48 l0 x14_1).f0), .int .i64 1, .int .i64 15] ?_; (with_reducible refine (spec_l1In.calls ((rd_T48 l0 x14_1).f0) 1 15 false _ A45.out).mono ?_); rintro e w' ⟨rfl, ⟨nd, rfl⟩⟩; refine ⟨_, rfl, ?_⟩))
              go_ret
              exact ⟨Qh, Qb HB.out⟩
      ·rw [if_neg c6] at H
       exact absurd H (by simp)
     ·rw [if_neg c5] at H
      exact absurd H (by simp)
    ·rw [if_neg c4] at H
     have c4b0 : decide (x14_1 < (l0.length : Int)) = false := decide_eq_false c4
     clear c4
     obtain rfl := Option.some.inj H
     go_wp2
     go_ret
     exact ⟨Qh, Qb HB.out⟩
 ·replace c3 := Bool.eq_false_iff.mpr c3
  (try subst c3)
  have H1 : (some false) = some r := by rw [if_neg (show ¬ (false = true) by decide)] at H; exact H
  clear H
  have H := H1
  clear H1
  obtain rfl := Option.some.inj H
  go_enter Try.func32, Try.ntmps32
  go_wp2_with (first | ((with_reducible refine gate_callee (f := 48) rfl ?_); refine Qj (some 10) Try.func48 #[.int .i64 (l0.length : Int), .int .i64 1, .int .i64 80] ?_; (with_reducible refine (spec_l1In.calls (l0.length : Int) 1 80 false _ A2.out).mono ?_); rintro e w' ⟨rfl, ⟨nd, rfl⟩⟩; refine ⟨_, rfl, ?_⟩))
  go_ret
  exact ⟨Qh, Qb HB.out⟩

end Go.Proofs.Ytlmiankjbffboaa.HFnExactRunMachine

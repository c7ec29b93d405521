/- Text for FnExactCompileExpr: written by a program of this session on the pattern of the kit's print. -/
import Derived.Test.YthlagaopjmeaaaaHFnExactCompileExprx0
import Derived.Test.YthlagaopjmeaaaaHFnExactCompileExprx3
import Derived.Test.YthlagaopjmeaaaaHFnExactCompileExprx4
namespace Go.Proofs.Ythlagaopjmeaaaa.HFnExactCompileExpr
set_option maxHeartbeats 8000000
set_option maxRecDepth 100000
open Go.RowKit Go.Proofs.YthlagaopjmeaaaaW.PrintWords Go.Proofs.YthlagaopjmeaaaaW.PrintLast Go.Proofs.YthlagaopjmeaaaaW.PrintMore
attribute [local go_sem] max2_int min2_int max_two min_two max_three min_three max_four min_four
set_option linter.unusedVariables false
set_option linter.unusedSimpArgs false

/-! ### spec_IsCode: function 28 -/
mutual
def spec_IsCode.l0 : Nat → Int → List (S50) → Int → Int → Option (Bool)
 | 0, _, _, _, _ => none
 | k + 1, x3, x12, x13, x14 => if x14 < x13 then (if 0 ≤ x14 then (if x14 < (x12.length : Int) then (if ((rd_T50 x12 x14).f2) = 0 then (spec_IsCode.j1 k x3 (((rd_T50 x12 x14).f3) == 0) x12 x13 x14 ((rd_T50 x12 x14).f0) ((rd_T50 x12 x14).f1) ((rd_T50 x12 x14).f2) ((rd_T50 x12 x14).f3)) else (spec_IsCode.j1 k x3 false x12 x13 x14 ((rd_T50 x12 x14).f0) ((rd_T50 x12 x14).f1) ((rd_T50 x12 x14).f2) ((rd_T50 x12 x14).f3))) else (none)) else (none)) else (some true)
def spec_IsCode.j1 : Nat → Int → Bool → List (S50) → Int → Int → Int → Int → Int → Int → Option (Bool)
 | 0, _, _, _, _, _, _, _, _, _ => none
 | k + 1, x3, x6, x12, x13, x14, x150000, x150001, x150002, x150003 => if x150000 = 1 then ((spec_l7Cell.f x150001).bind fun t150 => (if t150 = true then (if x6 = true then (spec_IsCode.l0 k x3 x12 x13 (wrap64 (x14 + 1))) else (some false)) else (some false))) else (if x150000 = 10 then ((spec_l1In.f x150001 (-9) 9).bind fun t151 => (if t151 = true then (if x6 = true then (spec_IsCode.l0 k x3 x12 x13 (wrap64 (x14 + 1))) else (some false)) else (some false))) else (if x150000 = 13 then ((spec_l1In.f x150001 0 x3).bind fun t152 => (if t152 = true then (if x6 = true then (spec_IsCode.l0 k x3 x12 x13 (wrap64 (x14 + 1))) else (some false)) else (some false))) else (if x150000 = 14 then ((spec_l1In.f x150001 0 x3).bind fun t153 => (if t153 = true then ((spec_l1In.f x150002 0 x3).bind fun t154 => (if t154 = true then ((spec_l1In.f x150003 0 x3).bind fun t155 => (if t155 = true then (spec_IsCode.l0 k x3 x12 x13 (wrap64 (x14 + 1))) else (some false))) else (some false))) else (some false))) else ((spec_l1In.f x150000 1 15).bind fun t156 => (if t156 = true then (if x150001 = 0 then (if x6 = true then (spec_IsCode.l0 k x3 x12 x13 (wrap64 (x14 + 1))) else (some false)) else (some false)) else (some false))))))
end
def spec_IsCode.f (k : Nat) (l0 : List (S50)) : Option (Bool) := (spec_l1In.f (l0.length : Int) 1 80).bind fun t147 => (if t147 = true then (spec_IsCode.l0 k (l0.length : Int) l0 (l0.length : Int) 0) else (some false))
theorem spec_IsCode.mono_l : ∀ k, (∀ y0 y1 y2 y3, LeO (spec_IsCode.l0 k y0 y1 y2 y3) (spec_IsCode.l0 (k + 1) y0 y1 y2 y3)) ∧ (∀ y0 y1 y2 y3 y4 y5 y6 y7 y8, LeO (spec_IsCode.j1 k y0 y1 y2 y3 y4 y5 y6 y7 y8) (spec_IsCode.j1 (k + 1) y0 y1 y2 y3 y4 y5 y6 y7 y8))
 | 0 => ⟨fun _ _ _ _ r h => by simp [spec_IsCode.l0] at h, fun _ _ _ _ _ _ _ _ _ r h => by simp [spec_IsCode.j1] at h⟩
 | k + 1 => by
  obtain ⟨ih0, ih1⟩ := spec_IsCode.mono_l k
  refine ⟨?_, ?_⟩
  ·intro y0 y1 y2 y3
   unfold spec_IsCode.l0
   repeat' first
   | (with_reducible exact ih0 _ _ _ _)
   | (with_reducible exact ih1 _ _ _ _ _ _ _ _ _)
   | (with_reducible exact LeO.refl _)
   | (with_reducible exact LeO.none _)
   | (with_reducible refine LeO.ite ?_ ?_)
   | (with_reducible refine LeO.bind ?_ (fun _ => ?_))
   | exact ih0 _ _ _ _
   | exact ih1 _ _ _ _ _ _ _ _ _
   | exact LeO.none _
   | refine LeO.ite ?_ ?_
   | refine LeO.bind ?_ (fun _ => ?_)
  ·intro y0 y1 y2 y3 y4 y5 y6 y7 y8
   unfold spec_IsCode.j1
   repeat' first
   | (with_reducible exact ih0 _ _ _ _)
   | (with_reducible exact ih1 _ _ _ _ _ _ _ _ _)
   | (with_reducible exact LeO.refl _)
   | (with_reducible exact LeO.none _)
   | (with_reducible refine LeO.ite ?_ ?_)
   | (with_reducible refine LeO.bind ?_ (fun _ => ?_))
   | exact ih0 _ _ _ _
   | exact ih1 _ _ _ _ _ _ _ _ _
   | exact LeO.none _
   | refine LeO.ite ?_ ?_
   | refine LeO.bind ?_ (fun _ => ?_)
theorem spec_IsCode.mono : ∀ a0 k, LeO (spec_IsCode.f k a0) (spec_IsCode.f (k + 1) a0) := by
 intro a0 k
 obtain ⟨ih0, ih1⟩ := spec_IsCode.mono_l k
 unfold spec_IsCode.f
 repeat' first
   | (with_reducible exact ih0 _ _ _ _)
   | (with_reducible exact ih1 _ _ _ _ _ _ _ _ _)
   | (with_reducible exact LeO.refl _)
   | (with_reducible exact LeO.none _)
   | (with_reducible refine LeO.ite ?_ ?_)
   | (with_reducible refine LeO.bind ?_ (fun _ => ?_))
   | exact ih0 _ _ _ _
   | exact ih1 _ _ _ _ _ _ _ _ _
   | exact LeO.none _
   | refine LeO.ite ?_ ?_
   | refine LeO.bind ?_ (fun _ => ?_)
theorem spec_IsCode.calls (k : Nat) (A0 : Option Addr) (c0 : Nat) (l0 : List (S50)) (r : Bool) (w : World) (hr0 : Kd.C k50 w A0 l0.length l0) (hc0 : l0.length ≤ c0) (h : spec_IsCode.f k l0 = some r) :
  Calls Try.prog 28 #[.slice A0 l0.length c0] w fun e w' => e = .returned (.bool r) ∧ Below w.heap.size w w' := by
 have hu50 := Try.underlying50
 have HR0 := Ak hr0
 have HC0 := Ak hc0
 clear hr0 hc0
 have HB := Ak (Below.refl w.heap.size w)
 have H : ((spec_l1In.f (l0.length : Int) 1 80).bind fun t147 => (if t147 = true then (spec_IsCode.l0 k (l0.length : Int) l0 (l0.length : Int) 0) else (some false))) = some r := h
 clear h
 replace H := Option.bind_eq_some_iff.mp H
 obtain ⟨t147, A20, H⟩ := H
 replace H : (if t147 = true then (spec_IsCode.l0 k (l0.length : Int) l0 (l0.length : Int) 0) else (some false)) = some r := H
 have A2 := Ak A20
 clear A20
 by_cases c3 : t147 = true
 ·(try subst c3)
  have H1 : (spec_IsCode.l0 k (l0.length : Int) l0 (l0.length : Int) 0) = some r := by rw [if_pos rfl] at H; exact H
  clear H
  have H := H1
  clear H1
  have H' := Ak H
  clear H
  go_enter Try.func28, Try.ntmps28
  go_wp2_with (first | ((with_reducible refine gate_callee (f := 37) rfl ?_); refine Qj (some 10) Try.func37 #[.int .i64 (l0.length : Int), .int .i64 1, .int .i64 80] ?_; (with_reducible refine (spec_l1In.calls (l0.length : Int) 1 80 true _ A2.out).mono ?_); rintro e w' ⟨rfl, ⟨nd, rfl⟩⟩; refine ⟨_, rfl, ?_⟩))
  go_loopg [14] k (fun kq v14 w' => ∃ (x14_1 : Int), v14 = .int .i64 x14_1 ∧ Aside0 (spec_IsCode.l0 kq (l0.length : Int) l0 (l0.length : Int) x14_1 = some r) ∧ Aside0 (kq ≤ k) ∧ Aside0 (Below w.heap.size w w'))
  case atStart => exact ⟨(0), Qi, H', ⟨Nat.le_refl _⟩, ⟨Qb HB.out⟩⟩
  case round =>
   clear H'
   (try clear c2); (try clear p2); (try clear c3)
   obtain ⟨x14_1, rfl, HA, HK1, HB⟩ := hrel
   cases gk with
   | zero => exact absurd HA.out (by simp [spec_IsCode.l0])
   | succ k1 =>
    have H := HA.out
    clear HA
    simp only [spec_IsCode.l0] at H
    by_cases c4 : x14_1 < (l0.length : Int)
    ·rw [if_pos c4] at H
     have c4b0 : decide (x14_1 < (l0.length : Int)) = true := decide_eq_true c4
     clear c4
     by_cases c5 : 0 ≤ x14_1
     ·rw [if_pos c5] at H
      have c5b0 : decide (0 ≤ x14_1) = true := decide_eq_true c5
      clear c5
      by_cases c6 : x14_1 < (l0.length : Int)
      ·rw [if_pos c6] at H
       have c6b0 : decide (x14_1 < (l0.length : Int)) = true := decide_eq_true c6
       clear c6
       have HC7 := Ak H
       clear H
       have p148 : 0 ≤ (x14_1 : Int) := Qg
       have q148 : x14_1 < (l0.length : Int) := Qg
       obtain ⟨ad148, e148, hx148_0, hx148_1, hx148_2, hx148_3⟩ := at_T50 HR0.out x14_1 p148 q148
       cases e148
       (try replace hx148_0 := (HB.out.cell (World.block_lt_of_cell? w _ hx148_0)).trans hx148_0)
       (try replace hx148_1 := (HB.out.cell (World.block_lt_of_cell? w _ hx148_1)).trans hx148_1)
       (try replace hx148_2 := (HB.out.cell (World.block_lt_of_cell? w _ hx148_2)).trans hx148_2)
       (try replace hx148_3 := (HB.out.cell (World.block_lt_of_cell? w _ hx148_3)).trans hx148_3)
       replace p148 := eq_true p148
       replace q148 := eq_true q148
       go_upto_region 7 with (first | ((with_reducible refine gate_dst (N := 5) rfl ?_); refine Qk 5 #[.int .i64 0, .int .i64 0, .int .i64 0, .int .i64 0] 50 ?_; intro gb149 hg w8 hbox hb; have n0_ := Ak (below_step (Qb HB.out) hb); have n1_ := Ak (hbox); have n2_ := Ak ((Qp hg HB.out : w.heap.size ≤ gb149)); have n3_ := Ak ((Qp hg HB.out : w.heap.size ≤ gb149)); clear HB; have HB := n0_; have BK149 := n1_; have GW149 := n2_; have GE149 := n3_; clear n0_ n1_ n2_ n3_; clear hb hbox hg; obtain ⟨hcz9_0, hcz9_1, hcz9_2, hcz9_3⟩ := Qu4 BK149.out; have hfz9_0 := blk_frozen BK149.out 0; have hfz9_1 := blk_frozen BK149.out 1; have hfz9_2 := blk_frozen BK149.out 2; have hfz9_3 := blk_frozen BK149.out 3))
       (try simp only [Act.put, List.setIfInBounds_toArray, List.set_cons_zero, List.set_cons_succ])
       go_cut [6] (fun v6 wc => ∃ (kq : Nat) (x6_6 : Bool), v6 = .bool x6_6 ∧ Aside0 (spec_IsCode.j1 kq (l0.length : Int) x6_6 l0 (l0.length : Int) x14_1 ((rd_T50 l0 x14_1).f0) ((rd_T50 l0 x14_1).f1) ((rd_T50 l0 x14_1).f2) ((rd_T50 l0 x14_1).f3) = some r) ∧ Aside0 (kq ≤ k1) ∧ Aside0 (wc.heap[gb149]? = some (.cells #[.int .i64 ((rd_T50 l0 x14_1).f0), .int .i64 ((rd_T50 l0 x14_1).f1), .int .i64 ((rd_T50 l0 x14_1).f2), .int .i64 ((rd_T50 l0 x14_1).f3)] 50 (0, 0))) ∧ Aside0 (Below w.heap.size w wc))
       case first =>
        have H := HC7.out
        clear HC7
        by_cases c10 : ((rd_T50 l0 x14_1).f2) = 0
        ·rw [if_pos c10] at H
         have c10b0 : (((rd_T50 l0 x14_1).f2) == 0) = true := beq_iff_eq.mpr c10
         have c10b1 : (((rd_T50 l0 x14_1).f2) != 0) = false := bne_eq_false_iff_eq.mpr c10
         clear c10
         (first | rw [c10b0] | (simp only [i64_w, i32_w]; rw [c10b0]) | skip)
         have H' := Ak H
         clear H
         obtain ⟨hcz11_0, hcz11_1, hcz11_2, hcz11_3, hfz11_0, hfz11_1, hfz11_2, hfz11_3⟩ := Qv4 BK149.out
         go_wp2
         go_meet
         case rel => exact ⟨_, ((((rd_T50 l0 x14_1).f3) == 0)), Qi, H', ⟨by have := HK1.out; first | omega | exact Nat.le_refl _⟩, ⟨by refine Qe ?_; refine blk_put (cs := #[.int .i64 ((rd_T50 l0 x14_1).f0), .int .i64 ((rd_T50 l0 x14_1).f1), .int .i64 ((rd_T50 l0 x14_1).f2), .int .i64 0]) ?_ 3 _ rfl; refine Qe ?_; refine blk_put (cs := #[.int .i64 ((rd_T50 l0 x14_1).f0), .int .i64 ((rd_T50 l0 x14_1).f1), .int .i64 0, .int .i64 0]) ?_ 2 _ rfl; refine Qe ?_; refine blk_put (cs := #[.int .i64 ((rd_T50 l0 x14_1).f0), .int .i64 0, .int .i64 0, .int .i64 0]) ?_ 1 _ rfl; refine Qe ?_; refine blk_put (cs := #[.int .i64 0, .int .i64 0, .int .i64 0, .int .i64 0]) ?_ 0 _ rfl; refine Qe ?_; exact BK149.out⟩, ⟨Qb HB.out⟩⟩
        ·rw [if_neg c10] at H
         have c10b0 : (((rd_T50 l0 x14_1).f2) == 0) = false := beq_eq_false_iff_ne.mpr c10
         have c10b1 : (((rd_T50 l0 x14_1).f2) != 0) = true := bne_iff_ne.mpr c10
         (first | rw [c10b0] | (simp only [i64_w, i32_w]; rw [c10b0]) | skip)
         have H' := Ak H
         clear H
         obtain ⟨hcz12_0, hcz12_1, hcz12_2, hcz12_3, hfz12_0, hfz12_1, hfz12_2, hfz12_3⟩ := Qv4 BK149.out
         go_wp2
         go_meet
         case rel => exact ⟨_, (false), Qi, H', ⟨by have := HK1.out; first | omega | exact Nat.le_refl _⟩, ⟨by refine Qe ?_; refine blk_put (cs := #[.int .i64 ((rd_T50 l0 x14_1).f0), .int .i64 ((rd_T50 l0 x14_1).f1), .int .i64 ((rd_T50 l0 x14_1).f2), .int .i64 0]) ?_ 3 _ rfl; refine Qe ?_; refine blk_put (cs := #[.int .i64 ((rd_T50 l0 x14_1).f0), .int .i64 ((rd_T50 l0 x14_1).f1), .int .i64 0, .int .i64 0]) ?_ 2 _ rfl; refine Qe ?_; refine blk_put (cs := #[.int .i64 ((rd_T50 l0 x14_1).f0), .int .i64 0, .int .i64 0, .int .i64 0]) ?_ 1 _ rfl; refine Qe ?_; refine blk_put (cs := #[.int .i64 0, .int .i64 0, .int .i64 0, .int .i64 0]) ?_ 0 _ rfl; refine Qe ?_; exact BK149.out⟩, ⟨Qb HB.out⟩⟩
       case rest =>
        clear HC7
        (try clear c1); (try clear p1); (try clear q1); (try clear hx1); (try clear c2); (try clear p2); (try clear c3); (try clear c4); (try clear c4b0); (try clear c5); (try clear c5b0); (try clear c6); (try clear c6b0); (try clear c10); (try clear c10b0); (try clear c10b1); (try clear hcz11_0); (try clear hcz11_1); (try clear hcz11_2); (try clear hcz11_3); (try clear hcz12_0); (try clear hcz12_1); (try clear hcz12_2); (try clear hcz12_3); (try clear hcz9_0); (try clear hcz9_1); (try clear hcz9_2); (try clear hcz9_3); (try clear hfz11_0); (try clear hfz11_1); (try clear hfz11_2); (try clear hfz11_3); (try clear hfz12_0); (try clear hfz12_1); (try clear hfz12_2); (try clear hfz12_3); (try clear hfz9_0); (try clear hfz9_1); (try clear hfz9_2); (try clear hfz9_3); (try clear hx148_0); (try clear hx148_1); (try clear hx148_2); (try clear hx148_3); (try clear p148); (try clear p2); (try clear q148)
        obtain ⟨kq, x6_6, rfl, HA, HJ6, BK149, HB⟩ := hcut
        cases kq with
        | zero => exact absurd HA.out (by simp [spec_IsCode.j1])
        | succ kj6 =>
         have H := HA.out
         clear HA
         simp only [spec_IsCode.j1] at H
         by_cases c13 : ((rd_T50 l0 x14_1).f0) = 1
         ·rw [if_pos c13] at H
          have c13b0 : (((rd_T50 l0 x14_1).f0) == 1) = true := beq_iff_eq.mpr c13
          have c13b1 : (((rd_T50 l0 x14_1).f0) != 1) = false := bne_eq_false_iff_eq.mpr c13
          clear c13
          replace H := Option.bind_eq_some_iff.mp H
          obtain ⟨t150, A140, H⟩ := H
          replace H : (if t150 = true then (if x6_6 = true then (spec_IsCode.l0 kj6 (l0.length : Int) l0 (l0.length : Int) (wrap64 (x14_1 + 1))) else (some false)) else (some false)) = some r := H
          have A14 := Ak A140
          clear A140
          by_cases c15 : t150 = true
          ·(try subst c15)
           have H1 : (if x6_6 = true then (spec_IsCode.l0 kj6 (l0.length : Int) l0 (l0.length : Int) (wrap64 (x14_1 + 1))) else (some false)) = some r := by rw [if_pos rfl] at H; exact H
           clear H
           have H := H1
           clear H1
           by_cases c16 : x6_6 = true
           ·(try subst c16)
            have H1 : (spec_IsCode.l0 kj6 (l0.length : Int) l0 (l0.length : Int) (wrap64 (x14_1 + 1))) = some r := by rw [if_pos rfl] at H; exact H
            clear H
            have H := H1
            clear H1
            have H' := Ak H
            clear H
            obtain ⟨hcz17_0, hcz17_1, hcz17_2, hcz17_3, hfz17_0, hfz17_1, hfz17_2, hfz17_3⟩ := Qv4 BK149.out
            go_wp2_with (first | ((with_reducible refine gate_callee (f := 38) rfl ?_); refine Qj (some 45) Try.func38 #[.int .i64 ((rd_T50 l0 x14_1).f1)] ?_; (with_reducible refine (spec_l7Cell.calls ((rd_T50 l0 x14_1).f1) true _ A14.out).mono ?_); rintro e w' ⟨rfl, ⟨nd, rfl⟩⟩; refine ⟨_, rfl, ?_⟩))
            go_roundg kj6
            case measure => have := HK1.out; have := HJ6.out; omega
            case rel => exact ⟨(wrap64 (x14_1 + 1)), Qi, H', ⟨by have := HK1.out; have := HJ6.out; omega⟩, ⟨Qb HB.out⟩⟩
           ·replace c16 := Bool.eq_false_iff.mpr c16
            (try subst c16)
            have H1 : (some false) = some r := by rw [if_neg (show ¬ (false = true) by decide)] at H; exact H
            clear H
            have H := H1
            clear H1
            obtain rfl := Option.some.inj H
            obtain ⟨hcz18_0, hcz18_1, hcz18_2, hcz18_3, hfz18_0, hfz18_1, hfz18_2, hfz18_3⟩ := Qv4 BK149.out
            go_wp2_with (first | ((with_reducible refine gate_callee (f := 38) rfl ?_); refine Qj (some 45) Try.func38 #[.int .i64 ((rd_T50 l0 x14_1).f1)] ?_; (with_reducible refine (spec_l7Cell.calls ((rd_T50 l0 x14_1).f1) true _ A14.out).mono ?_); rintro e w' ⟨rfl, ⟨nd, rfl⟩⟩; refine ⟨_, rfl, ?_⟩))
            go_ret
            exact ⟨Qh, Qb HB.out⟩
          ·replace c15 := Bool.eq_false_iff.mpr c15
           (try subst c15)
           have H1 : (some false) = some r := by rw [if_neg (show ¬ (false = true) by decide)] at H; exact H
           clear H
           have H := H1
           clear H1
           obtain rfl := Option.some.inj H
           obtain ⟨hcz19_0, hcz19_1, hcz19_2, hcz19_3, hfz19_0, hfz19_1, hfz19_2, hfz19_3⟩ := Qv4 BK149.out
           go_wp2_with (first | ((with_reducible refine gate_callee (f := 38) rfl ?_); refine Qj (some 45) Try.func38 #[.int .i64 ((rd_T50 l0 x14_1).f1)] ?_; (with_reducible refine (spec_l7Cell.calls ((rd_T50 l0 x14_1).f1) false _ A14.out).mono ?_); rintro e w' ⟨rfl, ⟨nd, rfl⟩⟩; refine ⟨_, rfl, ?_⟩))
           go_ret
           exact ⟨Qh, Qb HB.out⟩
         ·rw [if_neg c13] at H
          have c13b0 : (((rd_T50 l0 x14_1).f0) == 1) = false := beq_eq_false_iff_ne.mpr c13
          have c13b1 : (((rd_T50 l0 x14_1).f0) != 1) = true := bne_iff_ne.mpr c13
          by_cases c20 : ((rd_T50 l0 x14_1).f0) = 10
          ·rw [if_pos c20] at H
           have c20b0 : (((rd_T50 l0 x14_1).f0) == 10) = true := beq_iff_eq.mpr c20
           have c20b1 : (((rd_T50 l0 x14_1).f0) != 10) = false := bne_eq_false_iff_eq.mpr c20
           clear c20
           replace H := Option.bind_eq_some_iff.mp H
           obtain ⟨t151, A210, H⟩ := H
           replace H : (if t151 = true then (if x6_6 = true then (spec_IsCode.l0 kj6 (l0.length : Int) l0 (l0.length : Int) (wrap64 (x14_1 + 1))) else (some false)) else (some false)) = some r := H
           have A21 := Ak A210
           clear A210
           by_cases c22 : t151 = true
           ·(try subst c22)
            have H1 : (if x6_6 = true then (spec_IsCode.l0 kj6 (l0.length : Int) l0 (l0.length : Int) (wrap64 (x14_1 + 1))) else (some false)) = some r := by rw [if_pos rfl] at H; exact H
            clear H
            have H := H1
            clear H1
            by_cases c23 : x6_6 = true
            ·(try subst c23)
             have H1 : (spec_IsCode.l0 kj6 (l0.length : Int) l0 (l0.length : Int) (wrap64 (x14_1 + 1))) = some r := by rw [if_pos rfl] at H; exact H
             clear H
             have H := H1
             clear H1
             have H' := Ak H
             clear H
             obtain ⟨hcz24_0, hcz24_1, hcz24_2, hcz24_3, hfz24_0, hfz24_1, hfz24_2, hfz24_3⟩ := Qv4 BK149.out
             go_wp2_with (first | ((with_reducible refine gate_callee (f := 37) rfl ?_); refine Qj (some 55) Try.func37 #[.int .i64 ((rd_T50 l0 x14_1).f1), .int .i64 (-9), .int .i64 9] ?_; (with_reducible refine (spec_l1In.calls ((rd_T50 l0 x14_1).f1) (-9) 9 true _ A21.out).mono ?_); rintro e w' ⟨rfl, ⟨nd, rfl⟩⟩; refine ⟨_, rfl, ?_⟩))
             go_roundg kj6
             case measure => have := HK1.out; have := HJ6.out; omega
             case rel => exact ⟨(wrap64 (x14_1 + 1)), Qi, H', ⟨by have := HK1.out; have := HJ6.out; omega⟩, ⟨Qb HB.out⟩⟩
            ·replace c23 := Bool.eq_false_iff.mpr c23
             (try subst c23)
             have H1 : (some false) = some r := by rw [if_neg (show ¬ (false = true) by decide)] at H; exact H
             clear H
             have H := H1
             clear H1
             obtain rfl := Option.some.inj H
             obtain ⟨hcz25_0, hcz25_1, hcz25_2, hcz25_3, hfz25_0, hfz25_1, hfz25_2, hfz25_3⟩ := Qv4 BK149.out
             go_wp2_with (first | ((with_reducible refine gate_callee (f := 37) rfl ?_); refine Qj (some 55) Try.func37 #[.int .i64 ((rd_T50 l0 x14_1).f1), .int .i64 (-9), .int .i64 9] ?_; (with_reducible refine (spec_l1In.calls ((rd_T50 l0 x14_1).f1) (-9) 9 true _ A21.out).mono ?_); rintro e w' ⟨rfl, ⟨nd, rfl⟩⟩; refine ⟨_, rfl, ?_⟩))
             go_ret
             exact ⟨Qh, Qb HB.out⟩
           ·replace c22 := Bool.eq_false_iff.mpr c22
            (try subst c22)
            have H1 : (some false) = some r := by rw [if_neg (show ¬ (false = true) by decide)] at H; exact H
            clear H
            have H := H1
            clear H1
            obtain rfl := Option.some.inj H
            obtain ⟨hcz26_0, hcz26_1, hcz26_2, hcz26_3, hfz26_0, hfz26_1, hfz26_2, hfz26_3⟩ := Qv4 BK149.out
            go_wp2_with (first | ((with_reducible refine gate_callee (f := 37) rfl ?_); refine Qj (some 55) Try.func37 #[.int .i64 ((rd_T50 l0 x14_1).f1), .int .i64 (-9), .int .i64 9] ?_; (with_reducible refine (spec_l1In.calls ((rd_T50 l0 x14_1).f1) (-9) 9 false _ A21.out).mono ?_); rintro e w' ⟨rfl, ⟨nd, rfl⟩⟩; refine ⟨_, rfl, ?_⟩))
            go_ret
            exact ⟨Qh, Qb HB.out⟩
          ·rw [if_neg c20] at H
           have c20b0 : (((rd_T50 l0 x14_1).f0) == 10) = false := beq_eq_false_iff_ne.mpr c20
           have c20b1 : (((rd_T50 l0 x14_1).f0) != 10) = true := bne_iff_ne.mpr c20
           by_cases c27 : ((rd_T50 l0 x14_1).f0) = 13
           ·rw [if_pos c27] at H
            have c27b0 : (((rd_T50 l0 x14_1).f0) == 13) = true := beq_iff_eq.mpr c27
            have c27b1 : (((rd_T50 l0 x14_1).f0) != 13) = false := bne_eq_false_iff_eq.mpr c27
            clear c27
            replace H := Option.bind_eq_some_iff.mp H
            obtain ⟨t152, A280, H⟩ := H
            replace H : (if t152 = true then (if x6_6 = true then (spec_IsCode.l0 kj6 (l0.length : Int) l0 (l0.length : Int) (wrap64 (x14_1 + 1))) else (some false)) else (some false)) = some r := H
            have A28 := Ak A280
            clear A280
            by_cases c29 : t152 = true
            ·(try subst c29)
             have H1 : (if x6_6 = true then (spec_IsCode.l0 kj6 (l0.length : Int) l0 (l0.length : Int) (wrap64 (x14_1 + 1))) else (some false)) = some r := by rw [if_pos rfl] at H; exact H
             clear H
             have H := H1
             clear H1
             by_cases c30 : x6_6 = true
             ·(try subst c30)
              have H1 : (spec_IsCode.l0 kj6 (l0.length : Int) l0 (l0.length : Int) (wrap64 (x14_1 + 1))) = some r := by rw [if_pos rfl] at H; exact H
              clear H
              have H := H1
              clear H1
              have H' := Ak H
              clear H
              obtain ⟨hcz31_0, hcz31_1, hcz31_2, hcz31_3, hfz31_0, hfz31_1, hfz31_2, hfz31_3⟩ := Qv4 BK149.out
              go_wp2_with (first | ((with_reducible refine gate_callee (f := 37) rfl ?_); refine Qj (some 66) Try.func37 #[.int .i64 ((rd_T50 l0 x14_1).f1), .int .i64 0, .int .i64 (l0.length : Int)] ?_; (with_reducible refine (spec_l1In.calls ((rd_T50 l0 x14_1).f1) 0 (l0.length : Int) true _ A28.out).mono ?_); rintro e w' ⟨rfl, ⟨nd, rfl⟩⟩; refine ⟨_, rfl, ?_⟩))
              go_roundg kj6
              case measure => have := HK1.out; have := HJ6.out; omega
              case rel => exact ⟨(wrap64 (x14_1 + 1)), Qi, H', ⟨by have := HK1.out; have := HJ6.out; omega⟩, ⟨Qb HB.out⟩⟩
             ·replace c30 := Bool.eq_false_iff.mpr c30
              (try subst c30)
              have H1 : (some false) = some r := by rw [if_neg (show ¬ (false = true) by decide)] at H; exact H
              clear H
              have H := H1
              clear H1
              obtain rfl := Option.some.inj H
              obtain ⟨hcz32_0, hcz32_1, hcz32_2, hcz32_3, hfz32_0, hfz32_1, hfz32_2, hfz32_3⟩ := Qv4 BK149.out
              go_wp2_with (first | ((with_reducible refine gate_callee (f := 37) rfl ?_); refine Qj (some 66) Try.func37 #[.int .i64 ((rd_T50 l0 x14_1).f1), .int .i64 0, .int .i64 (l0.length : Int)] ?_; (with_reducible refine (spec_l1In.calls ((rd_T50 l0 x14_1).f1) 0 (l0.length : Int) true _ A28.out).mono ?_); rintro e w' ⟨rfl, ⟨nd, rfl⟩⟩; refine ⟨_, rfl, ?_⟩))
              go_ret
              exact ⟨Qh, Qb HB.out⟩
            ·replace c29 := Bool.eq_false_iff.mpr c29
             (try subst c29)
             have H1 : (some false) = some r := by rw [if_neg (show ¬ (false = true) by decide)] at H; exact H
             clear H
             have H := H1
             clear H1
             obtain rfl := Option.some.inj H
             obtain ⟨hcz33_0, hcz33_1, hcz33_2, hcz33_3, hfz33_0, hfz33_1, hfz33_2, hfz33_3⟩ := Qv4 BK149.out
             go_wp2_with (first | ((with_reducible refine gate_callee (f := 37) rfl ?_); refine Qj (some 66) Try.func37 #[.int .i64 ((rd_T50 l0 x14_1).f1), .int .i64 0, .int .i64 (l0.length : Int)] ?_; (with_reducible refine (spec_l1In.calls ((rd_T50 l0 x14_1).f1) 0 (l0.length : Int) false _ A28.out).mono ?_); rintro e w' ⟨rfl, ⟨nd, rfl⟩⟩; refine ⟨_, rfl, ?_⟩))
             go_ret
             exact ⟨Qh, Qb HB.out⟩
           ·rw [if_neg c27] at H
            have c27b0 : (((rd_T50 l0 x14_1).f0) == 13) = false := beq_eq_false_iff_ne.mpr c27
            have c27b1 : (((rd_T50 l0 x14_1).f0) != 13) = true := bne_iff_ne.mpr c27
            by_cases c34 : ((rd_T50 l0 x14_1).f0) = 14
            ·rw [if_pos c34] at H
             have c34b0 : (((rd_T50 l0 x14_1).f0) == 14) = true := beq_iff_eq.mpr c34
             have c34b1 : (((rd_T50 l0 x14_1).f0) != 14) = false := bne_eq_false_iff_eq.mpr c34
             clear c34
             replace H := Option.bind_eq_some_iff.mp H
             obtain ⟨t153, A350, H⟩ := H
             replace H : (if t153 = true then ((spec_l1In.f ((rd_T50 l0 x14_1).f2) 0 (l0.length : Int)).bind fun t154 => (if t154 = true then ((spec_l1In.f ((rd_T50 l0 x14_1).f3) 0 (l0.length : Int)).bind fun t155 => (if t155 = true then (spec_IsCode.l0 kj6 (l0.length : Int) l0 (l0.length : Int) (wrap64 (x14_1 + 1))) else (some false))) else (some false))) else (some false)) = some r := H
             have A35 := Ak A350
             clear A350
             by_cases c36 : t153 = true
             ·(try subst c36)
              have H1 : ((spec_l1In.f ((rd_T50 l0 x14_1).f2) 0 (l0.length : Int)).bind fun t154 => (if t154 = true then ((spec_l1In.f ((rd_T50 l0 x14_1).f3) 0 (l0.length : Int)).bind fun t155 => (if t155 = true then (spec_IsCode.l0 kj6 (l0.length : Int) l0 (l0.length : Int) (wrap64 (x14_1 + 1))) else (some false))) else (some false))) = some r := by rw [if_pos rfl] at H; exact H
              clear H
              have H := H1
              clear H1
              replace H := Option.bind_eq_some_iff.mp H
              obtain ⟨t154, A370, H⟩ := H
              replace H : (if t154 = true then ((spec_l1In.f ((rd_T50 l0 x14_1).f3) 0 (l0.length : Int)).bind fun t155 => (if t155 = true then (spec_IsCode.l0 kj6 (l0.length : Int) l0 (l0.length : Int) (wrap64 (x14_1 + 1))) else (some false))) else (some false)) = some r := H
              have A37 := Ak A370
              clear A370
              by_cases c38 : t154 = true
              ·(try subst c38)
               have H1 : ((spec_l1In.f ((rd_T50 l0 x14_1).f3) 0 (l0.length : Int)).bind fun t155 => (if t155 = true then (spec_IsCode.l0 kj6 (l0.length : Int) l0 (l0.length : Int) (wrap64 (x14_1 + 1))) else (some false))) = some r := by rw [if_pos rfl] at H; exact H
               clear H
               have H := H1
               clear H1
               replace H := Option.bind_eq_some_iff.mp H
               obtain ⟨t155, A390, H⟩ := H
               replace H : (if t155 = true then (spec_IsCode.l0 kj6 (l0.length : Int) l0 (l0.length : Int) (wrap64 (x14_1 + 1))) else (some false)) = some r := H
               have A39 := Ak A390
               clear A390
               by_cases c40 : t155 = true
               ·(try subst c40)
                have H1 : (spec_IsCode.l0 kj6 (l0.length : Int) l0 (l0.length : Int) (wrap64 (x14_1 + 1))) = some r := by rw [if_pos rfl] at H; exact H
                clear H
                have H := H1
                clear H1
                have H' := Ak H
                clear H
                obtain ⟨hcz41_0, hcz41_1, hcz41_2, hcz41_3, hfz41_0, hfz41_1, hfz41_2, hfz41_3⟩ := Qv4 BK149.out
                go_wp2_with (first | ((with_reducible refine gate_callee (f := 37) rfl ?_); refine Qj (some 77) Try.func37 #[.int .i64 ((rd_T50 l0 x14_1).f1), .int .i64 0, .int .i64 (l0.length : Int)] ?_; (with_reducible refine (spec_l1In.calls ((rd_T50 l0 x14_1).f1) 0 (l0.length : Int) true _ A35.out).mono ?_); rintro e w' ⟨rfl, ⟨nd, rfl⟩⟩; refine ⟨_, rfl, ?_⟩) | (go_at_call 37; (with_reducible refine (spec_l1In.calls ((rd_T50 l0 x14_1).f2) 0 (l0.length : Int) true _ A37.out).mono ?_); rintro e w' ⟨rfl, ⟨nd, rfl⟩⟩) | (go_at_call 37; (with_reducible refine (spec_l1In.calls ((rd_T50 l0 x14_1).f3) 0 (l0.length : Int) true _ A39.out).mono ?_); rintro e w' ⟨rfl, ⟨nd, rfl⟩⟩))
                go_roundg kj6
                case measure => have := HK1.out; have := HJ6.out; omega
                case rel => exact ⟨(wrap64 (x14_1 + 1)), Qi, H', ⟨by have := HK1.out; have := HJ6.out; omega⟩, ⟨Qb HB.out⟩⟩
               ·replace c40 := Bool.eq_false_iff.mpr c40
                (try subst c40)
                have H1 : (some false) = some r := by rw [if_neg (show ¬ (false = true) by decide)] at H; exact H
                clear H
                have H := H1
                clear H1
                obtain rfl := Option.some.inj H
                obtain ⟨hcz42_0, hcz42_1, hcz42_2, hcz42_3, hfz42_0, hfz42_1, hfz42_2, hfz42_3⟩ := Qv4 BK149.out
                go_wp2_with (first | ((with_reducible refine gate_callee (f := 37) rfl ?_); refine Qj (some 77) Try.func37 #[.int .i64 ((rd_T50 l0 x14_1).f1), .int .i64 0, .int .i64 (l0.length : Int)] ?_; (with_reducible refine (spec_l1In.calls ((rd_T50 l0 x14_1).f1) 0 (l0.length : Int) true _ A35.out).mono ?_); rintro e w' ⟨rfl, ⟨nd, rfl⟩⟩; refine ⟨_, rfl, ?_⟩) | (go_at_call 37; (with_reducible refine (spec_l1In.calls ((rd_T50 l0 x14_1).f2) 0 (l0.length : Int) true _ A37.out).mono ?_); rintro e w' ⟨rfl, ⟨nd, rfl⟩⟩) | (go_at_call 37; (with_reducible refine (spec_l1In.calls ((rd_T50 l0 x14_1).f3) 0 (l0.length : Int) false _ A39.out).mono ?_); rintro e w' ⟨rfl, ⟨nd, rfl⟩⟩))
                go_ret
                exact ⟨Qh, Qb HB.out⟩
              ·replace c38 := Bool.eq_false_iff.mpr c38
               (try subst c38)
               have H1 : (some false) = some r := by rw [if_neg (show ¬ (false = true) by decide)] at H; exact H
               clear H
               have H := H1
               clear H1
               obtain rfl := Option.some.inj H
               obtain ⟨hcz43_0, hcz43_1, hcz43_2, hcz43_3, hfz43_0, hfz43_1, hfz43_2, hfz43_3⟩ := Qv4 BK149.out
               go_wp2_with (first | ((with_reducible refine gate_callee (f := 37) rfl ?_); refine Qj (some 77) Try.func37 #[.int .i64 ((rd_T50 l0 x14_1).f1), .int .i64 0, .int .i64 (l0.length : Int)] ?_; (with_reducible refine (spec_l1In.calls ((rd_T50 l0 x14_1).f1) 0 (l0.length : Int) true _ A35.out).mono ?_); rintro e w' ⟨rfl, ⟨nd, rfl⟩⟩; refine ⟨_, rfl, ?_⟩) | (go_at_call 37; (with_reducible refine (spec_l1In.calls ((rd_T50 l0 x14_1).f2) 0 (l0.length : Int) false _ A37.out).mono ?_); rintro e w' ⟨rfl, ⟨nd, rfl⟩⟩))
               go_ret
               exact ⟨Qh, Qb HB.out⟩
             ·replace c36 := Bool.eq_false_iff.mpr c36
              (try subst c36)
              have H1 : (some false) = some r := by rw [if_neg (show ¬ (false = true) by decide)] at H; exact H
              clear H
              have H := H1
              clear H1
              obtain rfl := Option.some.inj H
              obtain ⟨hcz44_0, hcz44_1, hcz44_2, hcz44_3, hfz44_0, hfz44_1, hfz44_2, hfz44_3⟩ := Qv4 BK149.out
              go_wp2_with (first | ((with_reducible refine gate_callee (f := 37) rfl ?_); refine Qj (some 77) Try.func37 #[.int .i64 ((rd_T50 l0 x14_1).f1), .int .i64 0, .int .i64 (l0.length : Int)] ?_; (with_reducible refine (spec_l1In.calls ((rd_T50 l0 x14_1).f1) 0 (l0.length : Int) false _ A35.out).mono ?_); rintro e w' ⟨rfl, ⟨nd, rfl⟩⟩; refine ⟨_, rfl, ?_⟩))
              go_ret
              exact ⟨Qh, Qb HB.out⟩
            ·rw [if_neg c34] at H
             have c34b0 : (((rd_T50 l0 x14_1).f0) == 14) = false := beq_eq_false_iff_ne.mpr c34
             have c34b1 : (((rd_T50 l0 x14_1).f0) != 14) = true := bne_iff_ne.mpr c34
             replace H := Option.bind_eq_some_iff.mp H
             obtain ⟨t156, A450, H⟩ := H
             replace H : (if t156 = true then (if ((rd_T50 l0 x14_1).f1) = 0 then (if x6_6 = true then (spec_IsCode.l0 kj6 (l0.length : Int) l0 (l0.length : Int) (wrap64 (x14_1 + 1))) else (some false)) else (some false)) else (some false)) = some r := H
             have A45 := Ak A450
             clear A450
             by_cases c46 : t156 = true
             ·(try subst c46)
              have H1 : (if ((rd_T50 l0 x14_1).f1) = 0 then (if x6_6 = true then (spec_IsCode.l0 kj6 (l0.length : Int) l0 (l0.length : Int) (wrap64 (x14_1 + 1))) else (some false)) else (some false)) = some r := by rw [if_pos rfl] at H; exact H
              clear H
              have H := H1
              clear H1
              by_cases c47 : ((rd_T50 l0 x14_1).f1) = 0
              ·rw [if_pos c47] at H
               have c47b0 : (((rd_T50 l0 x14_1).f1) == 0) = true := beq_iff_eq.mpr c47
               have c47b1 : (((rd_T50 l0 x14_1).f1) != 0) = false := bne_eq_false_iff_eq.mpr c47
               clear c47
               by_cases c48 : x6_6 = true
               ·(try subst c48)
                have H1 : (spec_IsCode.l0 kj6 (l0.length : Int) l0 (l0.length : Int) (wrap64 (x14_1 + 1))) = some r := by rw [if_pos rfl] at H; exact H
                clear H
                have H := H1
                clear H1
                have H' := Ak H
                clear H
                obtain ⟨hcz49_0, hcz49_1, hcz49_2, hcz49_3, hfz49_0, hfz49_1, hfz49_2, hfz49_3⟩ := Qv4 BK149.out
                go_wp2_with (first | ((with_reducible refine gate_callee (f := 37) rfl ?_); refine Qj (some 30) Try.func37 #[.int .i64 ((rd_T50 l0 x14_1).f0), .int .i64 1, .int .i64 15] ?_; (with_reducible refine (spec_l1In.calls ((rd_T50 l0 x14_1).f0) 1 15 true _ A45.out).mono ?_); rintro e w' ⟨rfl, ⟨nd, rfl⟩⟩; refine ⟨_, rfl, ?_⟩))
                go_roundg kj6
                case measure => have := HK1.out; have := HJ6.out; omega
                case rel => exact ⟨(wrap64 (x14_1 + 1)), Qi, H', ⟨by have := HK1.out; have := HJ6.out; omega⟩, ⟨Qb HB.out⟩⟩
               ·replace c48 := Bool.eq_false_iff.mpr c48
                (try subst c48)
                have H1 : (some false) = some r := by rw [if_neg (show ¬ (false = true) by decide)] at H; exact H
                clear H
                have H := H1
                clear H1
                obtain rfl := Option.some.inj H
                obtain ⟨hcz50_0, hcz50_1, hcz50_2, hcz50_3, hfz50_0, hfz50_1, hfz50_2, hfz50_3⟩ := Qv4 BK149.out
                go_wp2_with (first | ((with_reducible refine gate_callee (f := 37) rfl ?_); refine Qj (some 30) Try.func37 #[.int .i64 ((rd_T50 l0 x14_1).f0), .int .i64 1, .int .i64 15] ?_; (with_reducible refine (spec_l1In.calls ((rd_T50 l0 x14_1).f0) 1 15 true _ A45.out).mono ?_); rintro e w' ⟨rfl, ⟨nd, rfl⟩⟩; refine ⟨_, rfl, ?_⟩))
                go_ret
                exact ⟨Qh, Qb HB.out⟩
              ·rw [if_neg c47] at H
               have c47b0 : (((rd_T50 l0 x14_1).f1) == 0) = false := beq_eq_false_iff_ne.mpr c47
               have c47b1 : (((rd_T50 l0 x14_1).f1) != 0) = true := bne_iff_ne.mpr c47
               obtain rfl := Option.some.inj H
               obtain ⟨hcz51_0, hcz51_1, hcz51_2, hcz51_3, hfz51_0, hfz51_1, hfz51_2, hfz51_3⟩ := Qv4 BK149.out
               go_wp2_with (first | ((with_reducible refine gate_callee (f := 37) rfl ?_); refine Qj (some 30) Try.func37 #[.int .i64 ((rd_T50 l0 x14_1).f0), .int .i64 1, .int .i64 15] ?_; (with_reducible refine (spec_l1In.calls ((rd_T50 l0 x14_1).f0) 1 15 true _ A45.out).mono ?_); rintro e w' ⟨rfl, ⟨nd, rfl⟩⟩; refine ⟨_, rfl, ?_⟩))
               go_ret
               exact ⟨Qh, Qb HB.out⟩
             ·replace c46 := Bool.eq_false_iff.mpr c46
              (try subst c46)
              have H1 : (some false) = some r := by rw [if_neg (show ¬ (false = true) by decide)] at H; exact H
              clear H
              have H := H1
              clear H1
              obtain rfl := Option.some.inj H
              obtain ⟨hcz52_0, hcz52_1, hcz52_2, hcz52_3, hfz52_0, hfz52_1, hfz52_2, hfz52_3⟩ := Qv4 BK149.out
              go_wp2_with (first | ((with_reducible refine gate_callee (f := 37) rfl ?_); refine Qj (some 30) Try.func37 #[.int .i64 ((rd_T50 l0 x14_1).f0), .int .i64 1, .int .i64 15] ?_; (with_reducible refine (spec_l1In.calls ((rd_T50 l0 x14_1).f0) 1 15 false _ A45.out).mono ?_); rintro e w' ⟨rfl, ⟨nd, rfl⟩⟩; refine ⟨_, rfl, ?_⟩))
              go_ret
              exact ⟨Qh, Qb HB.out⟩
      ·rw [if_neg c6] at H
       exact absurd H (by simp)
     ·rw [if_neg c5] at H
      exact absurd H (by simp)
    ·rw [if_neg c4] at H
     have c4b0 : decide (x14_1 < (l0.length : Int)) = false := decide_eq_false c4
     clear c4
     obtain rfl := Option.some.inj H
     go_wp2
     go_ret
     exact ⟨Qh, Qb HB.out⟩
 ·replace c3 := Bool.eq_false_iff.mpr c3
  (try subst c3)
  have H1 : (some false) = some r := by rw [if_neg (show ¬ (false = true) by decide)] at H; exact H
  clear H
  have H := H1
  clear H1
  obtain rfl := Option.some.inj H
  go_enter Try.func28, Try.ntmps28
  go_wp2_with (first | ((with_reducible refine gate_callee (f := 37) rfl ?_); refine Qj (some 10) Try.func37 #[.int .i64 (l0.length : Int), .int .i64 1, .int .i64 80] ?_; (with_reducible refine (spec_l1In.calls (l0.length : Int) 1 80 false _ A2.out).mono ?_); rintro e w' ⟨rfl, ⟨nd, rfl⟩⟩; refine ⟨_, rfl, ?_⟩))
  go_ret
  exact ⟨Qh, Qb HB.out⟩

/-! ### spec_CompileExpr: function 12 -/
def spec_CompileExpr.f (k : Nat) (a b : Int) (l : List S28) : Option (List S50 × Bool) := (spec_IsExpr.f k a b l).bind fun t => if t = true then (spec_l10Code.f k a b l []).bind fun o => if o.2 = true then (spec_IsCode.f k o.1).bind fun s => if s = true then some (o.1, true) else some ([], false) else some ([], false) else some ([], false)
theorem spec_CompileExpr.mono : ∀ a b l k, LeO (spec_CompileExpr.f k a b l) (spec_CompileExpr.f (k + 1) a b l) := fun a b l k => LeO.bind (spec_IsExpr.mono _ _ _ k) fun t => LeO.ite (LeO.bind (spec_l10Code.mono _ _ _ _ k) fun o => LeO.ite (LeO.bind (spec_IsCode.mono _ k) fun s => LeO.refl _) (LeO.refl _)) (LeO.refl _)
theorem spec_CompileExpr.calls (k : Nat) (a0_0 : Int) (a0_1 : Int) (A0_2 : Option Addr) (c0_2 : Nat) (l0_2 : List (S28)) (r1 : List (S50)) (r2 : Bool) (w : World) (hr0_2 : Kd.C k28 w A0_2 l0_2.length l0_2) (hc0_2 : l0_2.length ≤ c0_2) (h : spec_CompileExpr.f k a0_0 a0_1 l0_2 = some (r1, r2)) :
  Calls Try.prog 12 #[.agg #[.int .i64 a0_0, .int .i64 a0_1, .slice A0_2 l0_2.length c0_2]] w fun e w' => ∃ v0_ : Value, e = .returned (.tuple #[v0_, .bool r2]) ∧ Kd.R k50 50 w' w.heap.size (fun _ => True) v0_ r1 ∧ Below w.heap.size w w' := by
 unfold spec_CompileExpr.f at h
 have HR := Ak hr0_2
 have HC := Ak hc0_2
 clear hr0_2 hc0_2
 have al := below_alloc (Below.refl w.heap.size w) (.cells #[.int .i64 a0_0, .int .i64 a0_1, .slice A0_2 l0_2.length c0_2] 28)
 have K1 := Ak (blk_new w (.cells #[.int .i64 a0_0, .int .i64 a0_1, .slice A0_2 l0_2.length c0_2] 28))
 have HB := Ak al
 clear al
 replace h := Option.bind_eq_some_iff.1 h
 obtain ⟨t, Ht, h⟩ := h
 replace Ht := Ak Ht
 go_enter Try.func12, Try.ntmps12
 go_upto_region 1 with fail
 generalize w.alloc (.cells #[.int .i64 a0_0, .int .i64 a0_1, .slice A0_2 l0_2.length c0_2] 28) = W at HB K1 ⊢
 generalize hgg : w.heap.size = g1 at K1 ⊢
 clear hgg
 obtain ⟨m0, m1, m2⟩ := Qu3 K1.out
 cases t with
 | false =>
  rw [if_neg (by simp)] at h
  simp only [Option.some.injEq, Prod.mk.injEq] at h
  obtain ⟨rfl, rfl⟩ := h
  go_wp2_with ((go_at_call 18; with_reducible refine (spec_IsExpr.calls k a0_0 a0_1 A0_2 c0_2 l0_2 false _ (Kd.C_below HR.out HB.out) HC.out Ht.out).mono ?_; rintro e W ⟨rfl, hd⟩); replace HB := Ak (below_step HB.out hd); replace K1 := Ak (blk_below K1.out hd); clear m0 m1 m2; obtain ⟨m0, m1, m2⟩ := Qu3 K1.out; clear hd)
  go_ret2
  exact ⟨_, rfl, Kd.R_nil _ _ _ _ _, HB.out⟩
 | true =>
  rw [if_pos rfl] at h
  replace h := Option.bind_eq_some_iff.1 h
  obtain ⟨⟨o1, o2⟩, Ho, h⟩ := h
  (try dsimp only at h)
  replace Ho := Ak Ho
  cases o2 with
  | false =>
   rw [if_neg (by simp)] at h
   simp only [Option.some.injEq, Prod.mk.injEq] at h
   obtain ⟨rfl, rfl⟩ := h
   go_wp2_with (first | ((go_at_call 18; with_reducible refine (spec_IsExpr.calls k a0_0 a0_1 A0_2 c0_2 l0_2 true _ (Kd.C_below HR.out HB.out) HC.out Ht.out).mono ?_; rintro e W ⟨rfl, hd⟩); replace HB := Ak (below_step HB.out hd); replace K1 := Ak (blk_below K1.out hd); clear m0 m1 m2; obtain ⟨m0, m1, m2⟩ := Qu3 K1.out; clear hd) | ((with_reducible refine gate_dst (N := 11) rfl ?_); refine Kd.R_lit k50 _ 50 ?hg (N := 11) ?hd (xs := ([] : List S50)) (inner := []) (ok := fun _ => True) (okp := fun _ => True) ?hr ?hp (fun _ hk => hk) trivial (Below.refl _ _) (Nat.le_refl _) (by simp) ?_; (case hd => rfl); (case hg => rfl); (case hr => first | (go_simp; done) | (go_simp; rfl)); (case hp => exact (Reps.none _ _)); intro v1 w3 ho hd hg_ hnew_; clear hg_ hnew_; have HO := Ak (Kd.R_lower ho HB.out.size); clear ho; replace HB := Ak (below_step HB.out hd); replace K1 := Ak (blk_below K1.out hd); clear m0 m1 m2; obtain ⟨m0, m1, m2⟩ := Qu3 K1.out; clear hd) | ((go_at_call 27; with_reducible refine (spec_l10Code.callsR k (fun _ => True) a0_0 a0_1 A0_2 c0_2 l0_2 v1 [] o1 false w _ HB.out HR.out HC.out HO.out Ho.out).mono ?_; rintro e W ⟨v, rfl, ho, hb, hk⟩); obtain ⟨Av, cv, rfl⟩ := Kd.R_slice ho; have HO2 := Ak ho; replace HB := Ak hb; clear ho hb hk HO K1 m0 m1 m2))
   go_ret2
   exact ⟨_, rfl, Kd.R_nil _ _ _ _ _, HB.out⟩
  | true =>
   rw [if_pos rfl] at h
   replace h := Option.bind_eq_some_iff.1 h
   obtain ⟨s, Hs, h⟩ := h
   replace Hs := Ak Hs
   cases s with
   | false =>
    rw [if_neg (by simp)] at h
    simp only [Option.some.injEq, Prod.mk.injEq] at h
    obtain ⟨rfl, rfl⟩ := h
    go_wp2_with (first | ((go_at_call 18; with_reducible refine (spec_IsExpr.calls k a0_0 a0_1 A0_2 c0_2 l0_2 true _ (Kd.C_below HR.out HB.out) HC.out Ht.out).mono ?_; rintro e W ⟨rfl, hd⟩); replace HB := Ak (below_step HB.out hd); replace K1 := Ak (blk_below K1.out hd); clear m0 m1 m2; obtain ⟨m0, m1, m2⟩ := Qu3 K1.out; clear hd) | ((with_reducible refine gate_dst (N := 11) rfl ?_); refine Kd.R_lit k50 _ 50 ?hg (N := 11) ?hd (xs := ([] : List S50)) (inner := []) (ok := fun _ => True) (okp := fun _ => True) ?hr ?hp (fun _ hk => hk) trivial (Below.refl _ _) (Nat.le_refl _) (by simp) ?_; (case hd => rfl); (case hg => rfl); (case hr => first | (go_simp; done) | (go_simp; rfl)); (case hp => exact (Reps.none _ _)); intro v1 w3 ho hd hg_ hnew_; clear hg_ hnew_; have HO := Ak (Kd.R_lower ho HB.out.size); clear ho; replace HB := Ak (below_step HB.out hd); replace K1 := Ak (blk_below K1.out hd); clear m0 m1 m2; obtain ⟨m0, m1, m2⟩ := Qu3 K1.out; clear hd) | ((go_at_call 27; with_reducible refine (spec_l10Code.callsR k (fun _ => True) a0_0 a0_1 A0_2 c0_2 l0_2 v1 [] o1 true w _ HB.out HR.out HC.out HO.out Ho.out).mono ?_; rintro e W ⟨v, rfl, ho, hb, hk⟩); obtain ⟨Av, cv, rfl⟩ := Kd.R_slice ho; have HO2 := Ak ho; replace HB := Ak hb; clear ho hb hk HO K1 m0 m1 m2) | ((go_at_call 28; with_reducible refine (spec_IsCode.calls k Av cv o1 false _ (Kd.R_reads' HO2.out).2.2 (Kd.R_reads' HO2.out).2.1 Hs.out).mono ?_; rintro e W ⟨rfl, hd⟩); replace HB := Ak (below_step HB.out hd); replace HO2 := Ak (Kd.R_below HO2.out hd); clear hd))
    go_ret2
    exact ⟨_, rfl, Kd.R_nil _ _ _ _ _, HB.out⟩
   | true =>
    rw [if_pos rfl] at h
    simp only [Option.some.injEq, Prod.mk.injEq] at h
    obtain ⟨rfl, rfl⟩ := h
    go_wp2_with (first | ((go_at_call 18; with_reducible refine (spec_IsExpr.calls k a0_0 a0_1 A0_2 c0_2 l0_2 true _ (Kd.C_below HR.out HB.out) HC.out Ht.out).mono ?_; rintro e W ⟨rfl, hd⟩); replace HB := Ak (below_step HB.out hd); replace K1 := Ak (blk_below K1.out hd); clear m0 m1 m2; obtain ⟨m0, m1, m2⟩ := Qu3 K1.out; clear hd) | ((with_reducible refine gate_dst (N := 11) rfl ?_); refine Kd.R_lit k50 _ 50 ?hg (N := 11) ?hd (xs := ([] : List S50)) (inner := []) (ok := fun _ => True) (okp := fun _ => True) ?hr ?hp (fun _ hk => hk) trivial (Below.refl _ _) (Nat.le_refl _) (by simp) ?_; (case hd => rfl); (case hg => rfl); (case hr => first | (go_simp; done) | (go_simp; rfl)); (case hp => exact (Reps.none _ _)); intro v1 w3 ho hd hg_ hnew_; clear hg_ hnew_; have HO := Ak (Kd.R_lower ho HB.out.size); clear ho; replace HB := Ak (below_step HB.out hd); replace K1 := Ak (blk_below K1.out hd); clear m0 m1 m2; obtain ⟨m0, m1, m2⟩ := Qu3 K1.out; clear hd) | ((go_at_call 27; with_reducible refine (spec_l10Code.callsR k (fun _ => True) a0_0 a0_1 A0_2 c0_2 l0_2 v1 [] o1 true w _ HB.out HR.out HC.out HO.out Ho.out).mono ?_; rintro e W ⟨v, rfl, ho, hb, hk⟩); obtain ⟨Av, cv, rfl⟩ := Kd.R_slice ho; have HO2 := Ak ho; replace HB := Ak hb; clear ho hb hk HO K1 m0 m1 m2) | ((go_at_call 28; with_reducible refine (spec_IsCode.calls k Av cv o1 true _ (Kd.R_reads' HO2.out).2.2 (Kd.R_reads' HO2.out).2.1 Hs.out).mono ?_; rintro e W ⟨rfl, hd⟩); replace HB := Ak (below_step HB.out hd); replace HO2 := Ak (Kd.R_below HO2.out hd); clear hd))
    go_ret2
    exact ⟨_, rfl, Kd.R_mono HO2.out (fun _ _ => trivial), HB.out⟩

end Go.Proofs.Ythlagaopjmeaaaa.HFnExactCompileExpr

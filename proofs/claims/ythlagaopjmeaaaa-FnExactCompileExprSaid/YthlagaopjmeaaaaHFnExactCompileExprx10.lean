/- Text for FnExactCompileExpr: written by a program of this session on the pattern of the kit's print. -/
import Derived.Test.YthlagaopjmeaaaaHFnExactCompileExprx0
import Derived.Test.YthlagaopjmeaaaaHFnExactCompileExprx1
import Derived.Test.YthlagaopjmeaaaaHFnExactCompileExprx2
import Derived.Test.YthlagaopjmeaaaaHFnExactCompileExprx5
import Derived.Test.YthlagaopjmeaaaaHFnExactCompileExprx9
namespace Go.Proofs.Ythlagaopjmeaaaa.HFnExactCompileExpr
set_option maxHeartbeats 8000000
set_option maxRecDepth 100000
open Go.RowKit Go.Proofs.YthlagaopjmeaaaaW.PrintWords Go.Proofs.YthlagaopjmeaaaaW.PrintLast Go.Proofs.YthlagaopjmeaaaaW.PrintMore
attribute [local go_sem] max2_int min2_int max_two min_two max_three min_three max_four min_four
set_option linter.unusedVariables false
set_option linter.unusedSimpArgs false

/-! ### laws_heldOpS: function 16 -/
def laws_heldOpS.l0 : Nat → List (S50) → Int → Int → Option (Int)
 | 0, _, _, _ => none
 | k + 1, x0, x1, x5 => if x5 < (x0.length : Int) then (if 0 ≤ x5 then (if ((rd_T50 x0 x5).f0) = x1 then (if ((rd_T50 x0 x5).f1) = (wrap64 (x1 + 1)) then (if ((rd_T50 x0 x5).f2) = (wrap64 ((wrap64 (x1 + 1)) + 1)) then (if ((rd_T50 x0 x5).f3) = (wrap64 ((wrap64 ((wrap64 (x1 + 1)) + 1)) + 1)) then (laws_heldOpS.l0 k x0 (wrap64 ((wrap64 ((wrap64 ((wrap64 (x1 + 1)) + 1)) + 1)) + 1)) (wrap64 (x5 + 1))) else (some (-1))) else (some (-1))) else (some (-1))) else (some (-1))) else (none)) else (some x1)
def laws_heldOpS.f (k : Nat) (l0 : List (S50)) (a1 : Int) : Option (Int) := laws_heldOpS.l0 k l0 a1 0
theorem laws_heldOpS.mono_l : ∀ k, (∀ y0 y1 y2, LeO (laws_heldOpS.l0 k y0 y1 y2) (laws_heldOpS.l0 (k + 1) y0 y1 y2))
 | 0 => fun _ _ _ r h => by simp [laws_heldOpS.l0] at h
 | k + 1 => by
  have ih0 := laws_heldOpS.mono_l k
  ·intro y0 y1 y2
   unfold laws_heldOpS.l0
   repeat' first
   | (with_reducible exact ih0 _ _ _)
   | (with_reducible exact LeO.refl _)
   | (with_reducible exact LeO.none _)
   | (with_reducible refine LeO.ite ?_ ?_)
   | (with_reducible refine LeO.bind ?_ (fun _ => ?_))
   | exact ih0 _ _ _
   | exact LeO.none _
   | refine LeO.ite ?_ ?_
   | refine LeO.bind ?_ (fun _ => ?_)
theorem laws_heldOpS.mono : ∀ a0 a1 k, LeO (laws_heldOpS.f k a0 a1) (laws_heldOpS.f (k + 1) a0 a1) := by
 intro a0 a1 k
 have ih0 := laws_heldOpS.mono_l k
 unfold laws_heldOpS.f
 repeat' first
   | (with_reducible exact ih0 _ _ _)
   | (with_reducible exact LeO.refl _)
   | (with_reducible exact LeO.none _)
   | (with_reducible refine LeO.ite ?_ ?_)
   | (with_reducible refine LeO.bind ?_ (fun _ => ?_))
   | exact ih0 _ _ _
   | exact LeO.none _
   | refine LeO.ite ?_ ?_
   | refine LeO.bind ?_ (fun _ => ?_)
theorem laws_heldOpS.calls (k : Nat) (A0 : Option Addr) (c0 : Nat) (l0 : List (S50)) (a1 : Int) (r : Int) (w : World) (hr0 : Kd.C k50 w A0 l0.length l0) (hc0 : l0.length ≤ c0) (h : laws_heldOpS.f k l0 a1 = some r) :
  Calls Try.prog 16 #[.slice A0 l0.length c0, .int .i64 a1] w fun e w' => e = .returned (.int .i64 r) ∧ Drawn0 w w' := by
 have HR0 := Ak hr0
 have HC0 := Ak hc0
 clear hr0 hc0
 have H : (laws_heldOpS.l0 k l0 a1 0) = some r := h
 clear h
 have H' := Ak H
 clear H
 go_enter Try.func16, Try.ntmps16
 go_wp2
 go_loopg [1, 5] k (fun kq v1 v5 w' => ∃ (x1_1 : Int) (x5_1 : Int), v1 = .int .i64 x1_1 ∧ v5 = .int .i64 x5_1 ∧ Aside0 (laws_heldOpS.l0 kq l0 x1_1 x5_1 = some r) ∧ Aside0 (kq ≤ k) ∧ Drawn0 w w')
 case atStart => exact ⟨(a1), (0), Qi, Qi, H', ⟨Nat.le_refl _⟩, Ql⟩
 case round =>
  clear H'
  (try clear c1); (try clear p2)
  obtain ⟨x1_1, x5_1, rfl, rfl, HA, HK1, ⟨m1, rfl⟩⟩ := hrel
  cases gk with
  | zero => exact absurd HA.out (by simp [laws_heldOpS.l0])
  | succ k1 =>
   have H := HA.out
   clear HA
   simp only [laws_heldOpS.l0] at H
   by_cases c3 : x5_1 < (l0.length : Int)
   ·rw [if_pos c3] at H
    have c3b0 : decide (x5_1 < (l0.length : Int)) = true := decide_eq_true c3
    clear c3
    by_cases c4 : 0 ≤ x5_1
    ·rw [if_pos c4] at H
     have c4b0 : decide (0 ≤ x5_1) = true := decide_eq_true c4
     clear c4
     by_cases c5 : ((rd_T50 l0 x5_1).f0) = x1_1
     ·rw [if_pos c5] at H
      have c5b0 : (((rd_T50 l0 x5_1).f0) == x1_1) = true := beq_iff_eq.mpr c5
      have c5b1 : (((rd_T50 l0 x5_1).f0) != x1_1) = false := bne_eq_false_iff_eq.mpr c5
      clear c5
      by_cases c6 : ((rd_T50 l0 x5_1).f1) = (wrap64 (x1_1 + 1))
      ·rw [if_pos c6] at H
       have c6b0 : (((rd_T50 l0 x5_1).f1) == (wrap64 (x1_1 + 1))) = true := beq_iff_eq.mpr c6
       have c6b1 : (((rd_T50 l0 x5_1).f1) != (wrap64 (x1_1 + 1))) = false := bne_eq_false_iff_eq.mpr c6
       clear c6
       by_cases c7 : ((rd_T50 l0 x5_1).f2) = (wrap64 ((wrap64 (x1_1 + 1)) + 1))
       ·rw [if_pos c7] at H
        have c7b0 : (((rd_T50 l0 x5_1).f2) == (wrap64 ((wrap64 (x1_1 + 1)) + 1))) = true := beq_iff_eq.mpr c7
        have c7b1 : (((rd_T50 l0 x5_1).f2) != (wrap64 ((wrap64 (x1_1 + 1)) + 1))) = false := bne_eq_false_iff_eq.mpr c7
        clear c7
        by_cases c8 : ((rd_T50 l0 x5_1).f3) = (wrap64 ((wrap64 ((wrap64 (x1_1 + 1)) + 1)) + 1))
        ·rw [if_pos c8] at H
         have c8b0 : (((rd_T50 l0 x5_1).f3) == (wrap64 ((wrap64 ((wrap64 (x1_1 + 1)) + 1)) + 1))) = true := beq_iff_eq.mpr c8
         have c8b1 : (((rd_T50 l0 x5_1).f3) != (wrap64 ((wrap64 ((wrap64 (x1_1 + 1)) + 1)) + 1))) = false := bne_eq_false_iff_eq.mpr c8
         clear c8
         have H' := Ak H
         clear H
         have p217 : 0 ≤ (x5_1 : Int) := Qg
         have q217 : x5_1 < (l0.length : Int) := Qg
         obtain ⟨ad217, e217, hx217_0, hx217_1, hx217_2, hx217_3⟩ := at_T50 HR0.out x5_1 p217 q217
         cases e217
         replace p217 := eq_true p217
         replace q217 := eq_true q217
         have p218 : 0 ≤ (x5_1 : Int) := Qg
         have q218 : x5_1 < (l0.length : Int) := Qg
         obtain ⟨ad218, e218, hx218_0, hx218_1, hx218_2, hx218_3⟩ := at_T50 HR0.out x5_1 p218 q218
         obtain rfl : ad217 = ad218 := (by injection e218)
         replace p218 := eq_true p218
         replace q218 := eq_true q218
         have p219 : 0 ≤ (x5_1 : Int) := Qg
         have q219 : x5_1 < (l0.length : Int) := Qg
         obtain ⟨ad219, e219, hx219_0, hx219_1, hx219_2, hx219_3⟩ := at_T50 HR0.out x5_1 p219 q219
         obtain rfl : ad217 = ad219 := (by injection e219)
         replace p219 := eq_true p219
         replace q219 := eq_true q219
         have p220 : 0 ≤ (x5_1 : Int) := Qg
         have q220 : x5_1 < (l0.length : Int) := Qg
         obtain ⟨ad220, e220, hx220_0, hx220_1, hx220_2, hx220_3⟩ := at_T50 HR0.out x5_1 p220 q220
         obtain rfl : ad217 = ad220 := (by injection e220)
         replace p220 := eq_true p220
         replace q220 := eq_true q220
         go_wp2
         go_roundg k1
         case measure => have := HK1.out; omega
         case rel => exact ⟨(wrap64 ((wrap64 ((wrap64 ((wrap64 (x1_1 + 1)) + 1)) + 1)) + 1)), (wrap64 (x5_1 + 1)), Qi, Qi, H', ⟨by have := HK1.out; omega⟩, Ql⟩
        ·rw [if_neg c8] at H
         have c8b0 : (((rd_T50 l0 x5_1).f3) == (wrap64 ((wrap64 ((wrap64 (x1_1 + 1)) + 1)) + 1))) = false := beq_eq_false_iff_ne.mpr c8
         have c8b1 : (((rd_T50 l0 x5_1).f3) != (wrap64 ((wrap64 ((wrap64 (x1_1 + 1)) + 1)) + 1))) = true := bne_iff_ne.mpr c8
         obtain rfl := Option.some.inj H
         have p217 : 0 ≤ (x5_1 : Int) := Qg
         have q217 : x5_1 < (l0.length : Int) := Qg
         obtain ⟨ad217, e217, hx217_0, hx217_1, hx217_2, hx217_3⟩ := at_T50 HR0.out x5_1 p217 q217
         cases e217
         replace p217 := eq_true p217
         replace q217 := eq_true q217
         have p218 : 0 ≤ (x5_1 : Int) := Qg
         have q218 : x5_1 < (l0.length : Int) := Qg
         obtain ⟨ad218, e218, hx218_0, hx218_1, hx218_2, hx218_3⟩ := at_T50 HR0.out x5_1 p218 q218
         obtain rfl : ad217 = ad218 := (by injection e218)
         replace p218 := eq_true p218
         replace q218 := eq_true q218
         have p219 : 0 ≤ (x5_1 : Int) := Qg
         have q219 : x5_1 < (l0.length : Int) := Qg
         obtain ⟨ad219, e219, hx219_0, hx219_1, hx219_2, hx219_3⟩ := at_T50 HR0.out x5_1 p219 q219
         obtain rfl : ad217 = ad219 := (by injection e219)
         replace p219 := eq_true p219
         replace q219 := eq_true q219
         have p220 : 0 ≤ (x5_1 : Int) := Qg
         have q220 : x5_1 < (l0.length : Int) := Qg
         obtain ⟨ad220, e220, hx220_0, hx220_1, hx220_2, hx220_3⟩ := at_T50 HR0.out x5_1 p220 q220
         obtain rfl : ad217 = ad220 := (by injection e220)
         replace p220 := eq_true p220
         replace q220 := eq_true q220
         go_wp2
         go_ret
         exact ⟨Qi, Ql⟩
       ·rw [if_neg c7] at H
        have c7b0 : (((rd_T50 l0 x5_1).f2) == (wrap64 ((wrap64 (x1_1 + 1)) + 1))) = false := beq_eq_false_iff_ne.mpr c7
        have c7b1 : (((rd_T50 l0 x5_1).f2) != (wrap64 ((wrap64 (x1_1 + 1)) + 1))) = true := bne_iff_ne.mpr c7
        obtain rfl := Option.some.inj H
        have p217 : 0 ≤ (x5_1 : Int) := Qg
        have q217 : x5_1 < (l0.length : Int) := Qg
        obtain ⟨ad217, e217, hx217_0, hx217_1, hx217_2, hx217_3⟩ := at_T50 HR0.out x5_1 p217 q217
        cases e217
        replace p217 := eq_true p217
        replace q217 := eq_true q217
        have p218 : 0 ≤ (x5_1 : Int) := Qg
        have q218 : x5_1 < (l0.length : Int) := Qg
        obtain ⟨ad218, e218, hx218_0, hx218_1, hx218_2, hx218_3⟩ := at_T50 HR0.out x5_1 p218 q218
        obtain rfl : ad217 = ad218 := (by injection e218)
        replace p218 := eq_true p218
        replace q218 := eq_true q218
        have p219 : 0 ≤ (x5_1 : Int) := Qg
        have q219 : x5_1 < (l0.length : Int) := Qg
        obtain ⟨ad219, e219, hx219_0, hx219_1, hx219_2, hx219_3⟩ := at_T50 HR0.out x5_1 p219 q219
        obtain rfl : ad217 = ad219 := (by injection e219)
        replace p219 := eq_true p219
        replace q219 := eq_true q219
        go_wp2
        go_ret
        exact ⟨Qi, Ql⟩
      ·rw [if_neg c6] at H
       have c6b0 : (((rd_T50 l0 x5_1).f1) == (wrap64 (x1_1 + 1))) = false := beq_eq_false_iff_ne.mpr c6
       have c6b1 : (((rd_T50 l0 x5_1).f1) != (wrap64 (x1_1 + 1))) = true := bne_iff_ne.mpr c6
       obtain rfl := Option.some.inj H
       have p217 : 0 ≤ (x5_1 : Int) := Qg
       have q217 : x5_1 < (l0.length : Int) := Qg
       obtain ⟨ad217, e217, hx217_0, hx217_1, hx217_2, hx217_3⟩ := at_T50 HR0.out x5_1 p217 q217
       cases e217
       replace p217 := eq_true p217
       replace q217 := eq_true q217
       have p218 : 0 ≤ (x5_1 : Int) := Qg
       have q218 : x5_1 < (l0.length : Int) := Qg
       obtain ⟨ad218, e218, hx218_0, hx218_1, hx218_2, hx218_3⟩ := at_T50 HR0.out x5_1 p218 q218
       obtain rfl : ad217 = ad218 := (by injection e218)
       replace p218 := eq_true p218
       replace q218 := eq_true q218
       go_wp2
       go_ret
       exact ⟨Qi, Ql⟩
     ·rw [if_neg c5] at H
      have c5b0 : (((rd_T50 l0 x5_1).f0) == x1_1) = false := beq_eq_false_iff_ne.mpr c5
      have c5b1 : (((rd_T50 l0 x5_1).f0) != x1_1) = true := bne_iff_ne.mpr c5
      obtain rfl := Option.some.inj H
      have p217 : 0 ≤ (x5_1 : Int) := Qg
      have q217 : x5_1 < (l0.length : Int) := Qg
      obtain ⟨ad217, e217, hx217_0, hx217_1, hx217_2, hx217_3⟩ := at_T50 HR0.out x5_1 p217 q217
      cases e217
      replace p217 := eq_true p217
      replace q217 := eq_true q217
      go_wp2
      go_ret
      exact ⟨Qi, Ql⟩
    ·rw [if_neg c4] at H
     exact absurd H (by simp)
   ·rw [if_neg c3] at H
    have c3b0 : decide (x5_1 < (l0.length : Int)) = false := decide_eq_false c3
    clear c3
    obtain rfl := Option.some.inj H
    go_wp2
    go_ret
    exact ⟨Qi, Ql⟩

/-! ### laws_FnExactCompileExpr: function 4 -/
/-- What the law holds behind the first answer: the input (block g1), the answer by the specification, the tree that is given (g6), the answer by the program. -/
structure laws_FnExactCompileExpr.Cr (w W : World) (g1 g6 n2 n3 n4 n5 : Nat) (a b : Int) (A : Option Addr) (c : Nat) (l : List S24) (Aw : Option Addr) (cw : Nat) (w1 : List S50) (x1 x2 : Int) (vx : Value) (Ag : Option Addr) (cg : Nat) (y1 : List S50) : Prop where
 bel : Below w.heap.size w W
 k1 : W.heap[g1]? = some (.cells #[.int .i64 a, .int .i64 b, .slice A l.length c] 24 (0, 0))
 k6 : W.heap[g6]? = some (.cells #[.int .i64 x1, .int .i64 x2, vx] 28 (0, 0))
 fw : Kd.R k50 50 W w.heap.size (fun k => k < n2) (.slice Aw w1.length cw) w1
 sg : Kd.R k50 50 W w.heap.size (fun k => n4 ≤ k ∧ k < n5) (.slice Ag y1.length cg) y1
 o1 : g1 < n2
 o3 : n2 ≤ n3
 o6 : n3 ≤ g6
 o5 : g6 < n4
 o8 : n4 ≤ n5
structure laws_FnExactCompileExpr.Cs (w W : World) (g1 : Nat) (a b : Int) (A : Option Addr) (c : Nat) (l : List S24) (Aw : Option Addr) (cw : Nat) (w1 : List S50) (Ag : Option Addr) (cg : Nat) (y1 : List S50) : Prop where
 bel : Below w.heap.size w W
 k1 : W.heap[g1]? = some (.cells #[.int .i64 a, .int .i64 b, .slice A l.length c] 24 (0, 0))
 fw : Kd.R k50 50 W w.heap.size (fun _ => True) (.slice Aw w1.length cw) w1
 sg : Kd.C k50 W Ag y1.length y1
 gl : y1.length ≤ cg
section
variable {w W W' : World} {g1 g6 n2 n3 n4 n5 : Nat} {a b : Int} {A : Option Addr} {c : Nat} {l : List S24} {Aw : Option Addr} {cw : Nat} {w1 : List S50} {x1 x2 : Int} {vx : Value} {Ag : Option Addr} {cg : Nat} {y1 : List S50}
theorem laws_FnExactCompileExpr.Cr.rg (h : laws_FnExactCompileExpr.Cr w W g1 g6 n2 n3 n4 n5 a b A c l Aw cw w1 x1 x2 vx Ag cg y1) : Kd.C k50 W Ag y1.length y1 := (Kd.R_reads' h.sg).2.2
theorem laws_FnExactCompileExpr.Cr.rl (h : laws_FnExactCompileExpr.Cr w W g1 g6 n2 n3 n4 n5 a b A c l Aw cw w1 x1 x2 vx Ag cg y1) : y1.length ≤ cg := (Kd.R_reads' h.sg).2.1
theorem laws_FnExactCompileExpr.Cr.rw (h : laws_FnExactCompileExpr.Cr w W g1 g6 n2 n3 n4 n5 a b A c l Aw cw w1 x1 x2 vx Ag cg y1) : Kd.C k50 W Aw w1.length w1 := (Kd.R_reads' h.fw).2.2
theorem laws_FnExactCompileExpr.Cr.rwl (h : laws_FnExactCompileExpr.Cr w W g1 g6 n2 n3 n4 n5 a b A c l Aw cw w1 x1 x2 vx Ag cg y1) : w1.length ≤ cw := (Kd.R_reads' h.fw).2.1
theorem laws_FnExactCompileExpr.Cr.cells (h : laws_FnExactCompileExpr.Cr w W g1 g6 n2 n3 n4 n5 a b A c l Aw cw w1 x1 x2 vx Ag cg y1) : (W.cell? ⟨g1, 0, none⟩ = some (.int .i64 a) ∧ W.cell? ⟨g1, 1, none⟩ = some (.int .i64 b) ∧ W.cell? ⟨g1, 2, none⟩ = some (.slice A l.length c)) ∧ (W.cell? ⟨g6, 0, none⟩ = some (.int .i64 x1) ∧ W.cell? ⟨g6, 1, none⟩ = some (.int .i64 x2) ∧ W.cell? ⟨g6, 2, none⟩ = some vx) := ⟨Qu3 h.k1, Qu3 h.k6⟩
theorem laws_FnExactCompileExpr.Cr.below (h : laws_FnExactCompileExpr.Cr w W g1 g6 n2 n3 n4 n5 a b A c l Aw cw w1 x1 x2 vx Ag cg y1) (hb : Below W.heap.size W W') : laws_FnExactCompileExpr.Cr w W' g1 g6 n2 n3 n4 n5 a b A c l Aw cw w1 x1 x2 vx Ag cg y1 := ⟨below_step h.bel hb, blk_below h.k1 hb, blk_below h.k6 hb, Kd.R_below h.fw hb, Kd.R_below h.sg hb, h.o1, h.o3, h.o6, h.o5, h.o8⟩
theorem laws_FnExactCompileExpr.Cr.mark0 (h : laws_FnExactCompileExpr.Cr w W g1 g6 n2 n3 n4 n5 a b A c l Aw cw w1 x1 x2 vx Ag cg y1) (hb : Below w.heap.size w W') (hk : Kept W W' (fun k => n2 ≤ k ∧ k < n3)) : laws_FnExactCompileExpr.Cr w W' g1 g6 n2 n3 n4 n5 a b A c l Aw cw w1 x1 x2 vx Ag cg y1 := by
 obtain ⟨b0, k1, k6, fw, sg, o1, o3, o6, o5, o8⟩ := h
 exact ⟨hb, blk_kept k1 hk (by omega), blk_kept k6 hk (by omega), Kd.R_kept fw hk (fun k hp => by omega), Kd.R_kept sg hk (fun k hp => by omega), o1, o3, o6, o5, o8⟩
theorem laws_FnExactCompileExpr.Cs.rg (h : laws_FnExactCompileExpr.Cs w W g1 a b A c l Aw cw w1 Ag cg y1) : Kd.C k50 W Ag y1.length y1 := h.sg
theorem laws_FnExactCompileExpr.Cs.rl (h : laws_FnExactCompileExpr.Cs w W g1 a b A c l Aw cw w1 Ag cg y1) : y1.length ≤ cg := h.gl
theorem laws_FnExactCompileExpr.Cs.rw (h : laws_FnExactCompileExpr.Cs w W g1 a b A c l Aw cw w1 Ag cg y1) : Kd.C k50 W Aw w1.length w1 := (Kd.R_reads' h.fw).2.2
theorem laws_FnExactCompileExpr.Cs.rwl (h : laws_FnExactCompileExpr.Cs w W g1 a b A c l Aw cw w1 Ag cg y1) : w1.length ≤ cw := (Kd.R_reads' h.fw).2.1
theorem laws_FnExactCompileExpr.Cs.cells (h : laws_FnExactCompileExpr.Cs w W g1 a b A c l Aw cw w1 Ag cg y1) : (W.cell? ⟨g1, 0, none⟩ = some (.int .i64 a) ∧ W.cell? ⟨g1, 1, none⟩ = some (.int .i64 b) ∧ W.cell? ⟨g1, 2, none⟩ = some (.slice A l.length c)) := Qu3 h.k1
theorem laws_FnExactCompileExpr.Cs.below (h : laws_FnExactCompileExpr.Cs w W g1 a b A c l Aw cw w1 Ag cg y1) (hb : Below W.heap.size W W') : laws_FnExactCompileExpr.Cs w W' g1 a b A c l Aw cw w1 Ag cg y1 := ⟨below_step h.bel hb, blk_below h.k1 hb, Kd.R_below h.fw hb, Kd.C_below h.sg hb, h.gl⟩
theorem laws_FnExactCompileExpr.Cr.mark1 (h : laws_FnExactCompileExpr.Cr w W g1 g6 n2 n3 n4 n5 a b A c l Aw cw w1 x1 x2 vx Ag cg y1) (hb : Below w.heap.size w W') (hk : Kept W W' (fun k => n4 ≤ k ∧ k < n5)) {ok : Nat → Prop} {ym : List S50} (hs : Kd.R k50 50 W' w.heap.size ok (.slice Ag y1.length cg) ym) : laws_FnExactCompileExpr.Cs w W' g1 a b A c l Aw cw w1 Ag cg ym ∧ y1.length = ym.length := by
 obtain ⟨b0, k1, k6, fw, sg, o1, o3, o6, o5, o8⟩ := h
 obtain ⟨e, gl, gc⟩ := Kd.R_reads' hs
 rw [e] at gl
 exact ⟨⟨hb, blk_kept k1 hk (by omega), Kd.R_mono (Kd.R_kept fw hk (fun k hp => by omega)) (fun _ _ => trivial), gc, gl⟩, e⟩
end
def laws_FnExactCompileExpr.tail (k : Nat) (y1 : List S50) : Option Bool := (laws_markOpS.f k y1 1).bind fun m => (laws_heldOpS.f k m.2 1).bind fun q => if 0 ≤ q ∧ q = m.1 then some true else none
def laws_FnExactCompileExpr.f (k : Nat) (a b : Int) (l : List S24) : Option Bool := (laws_szExpr.f k a b l 1048576).bind fun z => if z < 0 then some true else
 (laws_toExpr.f k a b l).bind fun x => (spec_CompileExpr.f k x.1 x.2.1 x.2.2).bind fun v => (impl_CompileExpr.f k x.1 x.2.1 x.2.2).bind fun y => (laws_eqOpS.f k y.1 v.1).bind fun t1 => (laws_eqExpr.f k x.1 x.2.1 x.2.2 x.1 x.2.1 x.2.2).bind fun t2 => (laws_markExprS.s k x.2.2 1).bind fun m => if t1 = true ∧ t2 = true ∧ y.2 = v.2 ∧ 0 ≤ m.1 then laws_FnExactCompileExpr.tail k y.1 else none
theorem laws_FnExactCompileExpr.mono : ∀ a0 a1 a2 k, LeO (laws_FnExactCompileExpr.f k a0 a1 a2) (laws_FnExactCompileExpr.f (k + 1) a0 a1 a2) := fun a b l k => LeO.bind (laws_szExpr.mono _ _ _ _ k) fun z => LeO.ite (LeO.refl _) (LeO.bind (laws_toExpr.mono _ _ _ k) fun x => LeO.bind (spec_CompileExpr.mono _ _ _ k) fun v => LeO.bind (impl_CompileExpr.mono _ _ _ k) fun y => LeO.bind (laws_eqOpS.mono _ _ k) fun t1 => LeO.bind (laws_eqExpr.mono _ _ _ _ _ _ k) fun t2 => LeO.bind (laws_markExprS.s_mono k _ _) fun m => LeO.ite (LeO.bind (laws_markOpS.mono _ _ k) fun m => LeO.bind (laws_heldOpS.mono _ _ k) fun q => LeO.refl _) (LeO.refl _))
theorem laws_FnExactCompileExpr.calls (k : Nat) (a0_0 : Int) (a0_1 : Int) (A0_2 : Option Addr) (c0_2 : Nat) (l0_2 : List (S24)) (r : Bool) (w : World) (hr0_2 : Kd.C k24 w A0_2 l0_2.length l0_2) (hc0_2 : l0_2.length ≤ c0_2) (h : laws_FnExactCompileExpr.f k a0_0 a0_1 l0_2 = some r) :
  Calls Try.prog 4 #[.agg #[.int .i64 a0_0, .int .i64 a0_1, .slice A0_2 l0_2.length c0_2]] w fun e w' => e = .returned (.bool r) ∧ Below w.heap.size w w' := by
 unfold laws_FnExactCompileExpr.f at h
 have HR0 := Ak hr0_2
 have HC0 := Ak hc0_2
 clear hr0_2 hc0_2
 have hu24 := Try.underlying24
 have hu28 := Try.underlying28
 replace h := Option.bind_eq_some_iff.1 h
 obtain ⟨z, Hz, h⟩ := h
 (try dsimp only at h)
 replace Hz := Ak Hz
 have al := below_alloc (Below.refl w.heap.size w) (.cells #[.int .i64 a0_0, .int .i64 a0_1, .slice A0_2 l0_2.length c0_2] 24)
 have K1 := Ak (blk_new w (.cells #[.int .i64 a0_0, .int .i64 a0_1, .slice A0_2 l0_2.length c0_2] 24))
 have HB := Ak al
 clear al
 go_enter Try.func4, Try.ntmps4
 go_upto_region 1 with fail
 have hg1 : w.heap.size < (w.alloc (.cells #[.int .i64 a0_0, .int .i64 a0_1, .slice A0_2 l0_2.length c0_2] 24)).heap.size := by simp
 generalize w.alloc (.cells #[.int .i64 a0_0, .int .i64 a0_1, .slice A0_2 l0_2.length c0_2] 24) = W at HB K1 hg1 ⊢
 obtain ⟨g1, e1⟩ : ∃ g, g = w.heap.size := ⟨_, rfl⟩
 rw [← e1] at hg1
 have K1' : W.heap[g1]? = some (.cells #[.int .i64 a0_0, .int .i64 a0_1, .slice A0_2 l0_2.length c0_2] 24 (0, 0)) := by rw [e1]; exact K1.out
 clear K1
 have K1 := Ak K1'
 clear K1'
 replace hg1 := Ak hg1
 rw [← e1]
 replace e1 := Ak e1
 obtain ⟨c10, c11, c12⟩ := Qu3 K1.out
 by_cases cz : z < 0
 ·rw [if_pos cz] at h
  obtain rfl := Option.some.inj h
  have bz : decide (z < 0) = true := decide_eq_true cz
  clear h
  go_wp2_with ((go_at_call 5; with_reducible refine (laws_szExpr.calls k a0_0 a0_1 A0_2 c0_2 l0_2 1048576 z _ (Kd.C_below HR0.out HB.out) HC0.out Hz.out).mono ?_; rintro e W ⟨rfl, hd⟩); replace HB := Ak (below_step HB.out hd); replace K1 := Ak (blk_below K1.out hd); replace hg1 := Ak (Nat.lt_of_lt_of_le hg1.out hd.size); clear c10 c11 c12; obtain ⟨c10, c11, c12⟩ := Qu3 K1.out; clear hd)
  go_ret
  exact ⟨rfl, HB.out⟩
 rw [if_neg cz] at h
 have bz : decide (z < 0) = false := decide_eq_false cz
 clear cz
 replace h := Option.bind_eq_some_iff.1 h
 obtain ⟨⟨x1, x2, x3⟩, Hx, h⟩ := h
 (try dsimp only at h)
 replace Hx := Ak Hx
 replace h := Option.bind_eq_some_iff.1 h
 obtain ⟨⟨w1, w4⟩, Hw, h⟩ := h
 (try dsimp only at h)
 replace Hw := Ak Hw
 replace h := Option.bind_eq_some_iff.1 h
 obtain ⟨⟨y1, y4⟩, Hy, h⟩ := h
 (try dsimp only at h)
 replace Hy := Ak Hy
 replace h := Option.bind_eq_some_iff.1 h
 obtain ⟨t1, Ht1, h⟩ := h
 (try dsimp only at h)
 replace Ht1 := Ak Ht1
 replace h := Option.bind_eq_some_iff.1 h
 obtain ⟨t2, Ht2, h⟩ := h
 (try dsimp only at h)
 replace Ht2 := Ak Ht2
 replace h := Option.bind_eq_some_iff.1 h
 obtain ⟨⟨m1, m2⟩, Hm, h⟩ := h
 (try dsimp only at h)
 replace Hm := Ak Hm
 by_cases co : t1 = true ∧ t2 = true ∧ y4 = w4 ∧ 0 ≤ m1
 case neg => rw [if_neg co] at h; exact absurd h (by simp)
 rw [if_pos co] at h
 obtain ⟨rfl, rfl, rfl, hm0⟩ := co
 unfold laws_FnExactCompileExpr.tail at h
 replace h := Option.bind_eq_some_iff.1 h
 obtain ⟨⟨s1, s2⟩, Hs, h⟩ := h
 (try dsimp only at h)
 replace Hs := Ak Hs
 replace h := Option.bind_eq_some_iff.1 h
 obtain ⟨q, Hq, h⟩ := h
 (try dsimp only at h)
 replace Hq := Ak Hq
 by_cases co : 0 ≤ q ∧ q = s1
 case neg => rw [if_neg co] at h; exact absurd h (by simp)
 rw [if_pos co] at h
 obtain rfl := Option.some.inj h
 obtain ⟨hq0, rfl⟩ := co
 clear h
 have bm : decide (m1 < 0) = false := decide_eq_false (by omega)
 have bq : decide (q < 0) = false := decide_eq_false (by omega)
 clear hm0 hq0
 go_upto_region 5 with ((go_at_call 5; with_reducible refine (laws_szExpr.calls k a0_0 a0_1 A0_2 c0_2 l0_2 1048576 z _ (Kd.C_below HR0.out HB.out) HC0.out Hz.out).mono ?_; rintro e W ⟨rfl, hd⟩); replace HB := Ak (below_step HB.out hd); replace K1 := Ak (blk_below K1.out hd); replace hg1 := Ak (Nat.lt_of_lt_of_le hg1.out hd.size); clear c10 c11 c12; obtain ⟨c10, c11, c12⟩ := Qu3 K1.out; clear hd)
 obtain ⟨n0, hn0⟩ : ∃ n, n = W.heap.size := ⟨_, rfl⟩
 replace hn0 := Ak hn0
 go_upto_region 6 with (first | ((go_at_call 7; with_reducible refine (laws_toExpr.callsS k a0_0 a0_1 A0_2 c0_2 l0_2 x1 x2 x3 _ (Kd.C_below HR0.out HB.out) HC0.out Hx.out).mono ?_; rintro e W ⟨v0, rfl, hs, hd⟩); obtain ⟨Ax, cx, rfl⟩ := Kd.S_slice hs; replace HB := Ak (below_step HB.out hd); replace K1 := Ak (blk_below K1.out hd); replace hg1 := Ak (Nat.lt_of_lt_of_le hg1.out hd.size); clear c10 c11 c12; obtain ⟨c10, c11, c12⟩ := Qu3 K1.out; have HX := Ak hs; clear hd hs) | ((go_at_call 12; with_reducible refine (spec_CompileExpr.calls k x1 x2 Ax cx x3 w1 y4 _ (Kd.R_reads' (kT_R HX.out)).2.2 (Kd.R_reads' (kT_R HX.out)).2.1 Hw.out).mono ?_; rintro e W ⟨v0, rfl, h1, hd⟩); obtain ⟨Aw, cw, rfl⟩ := Kd.R_slice h1; have RW := Ak h1; have hle := Ak HB.out.size; replace HB := Ak (below_step HB.out hd); replace K1 := Ak (blk_below K1.out hd); replace hg1 := Ak (Nat.lt_of_lt_of_le hg1.out hd.size); clear c10 c11 c12; obtain ⟨c10, c11, c12⟩ := Qu3 K1.out; clear hd h1 HX))
 obtain ⟨n2, en2⟩ : ∃ n, n = W.heap.size := ⟨_, rfl⟩
 have FW := Ak (Kd.R_mono (Kd.R_lower (Kd.R_bound RW.out) hle.out) (ok' := fun k => k < n2) (fun k hk => by rw [en2]; exact hk.2.2.1))
 rw [← en2] at hg1
 have o1 := hg1
 clear hn0 RW hle
 replace en2 := Ak en2
 have hw2 : w.heap.size ≤ n2 := by rw [en2.out]; exact HB.out.size
 replace hw2 := Ak hw2
 go_upto_region 7 with ((go_at_call 7; with_reducible refine (laws_toExpr.callsS k a0_0 a0_1 A0_2 c0_2 l0_2 x1 x2 x3 _ (Kd.C_below HR0.out HB.out) HC0.out Hx.out).mono ?_; rintro e W ⟨v0, rfl, hs, hd⟩); obtain ⟨Ax, cx, rfl⟩ := Kd.S_slice hs; have HSX := Ak hs; have h26 := Ak hd.size; replace HB := Ak (below_step HB.out hd); replace K1 := Ak (blk_below K1.out hd); replace FW := Ak (Kd.R_below FW.out hd); clear c10 c11 c12; obtain ⟨c10, c11, c12⟩ := Qu3 K1.out; clear hd hs)
 have al := below_alloc (Below.refl W.heap.size W) (.cells #[.int .i64 x1, .int .i64 x2, .slice Ax x3.length cx] 28)
 have K6 := Ak (blk_new W (.cells #[.int .i64 x1, .int .i64 x2, .slice Ax x3.length cx] 28))
 have hz : W.heap.size < (W.alloc (.cells #[.int .i64 x1, .int .i64 x2, .slice Ax x3.length cx] 28)).heap.size := by simp
 replace HSX := Ak (Kd.S_below (Kd.S_mono (Kd.S_lower (Kd.S_bound HSX.out) (by rw [← en2.out]; exact hw2.out)) (ok' := fun k => n2 ≤ k ∧ k < W.heap.size) (fun k hk => ⟨by rw [en2.out]; exact hk.2.1, hk.2.2.1⟩)) al)
 replace HB := Ak (below_step HB.out al)
 replace K1 := Ak (blk_below K1.out al)
 replace FW := Ak (Kd.R_below FW.out al)
 clear al
 generalize W.alloc (.cells #[.int .i64 x1, .int .i64 x2, .slice Ax x3.length cx] 28) = W3 at HB hz K6 HSX K1 FW ⊢
 obtain ⟨g6, eg6⟩ : ∃ g, g = W.heap.size := ⟨_, rfl⟩
 rw [← eg6] at hz K6 HSX ⊢
 have o3 : n2 ≤ g6 := by rw [en2.out, eg6]; exact h26.out
 replace eg6 := Ak eg6
 obtain ⟨n4, en4⟩ : ∃ n, n = W3.heap.size := ⟨_, rfl⟩
 rw [← en4] at hz
 have o5 := Ak hz
 clear hz h26
 replace o3 := Ak o3
 replace en4 := Ak en4
 have hw4 : w.heap.size ≤ n4 := by rw [en4.out]; exact HB.out.size
 replace hw4 := Ak hw4
 clear c10 c11 c12
 obtain ⟨c10, c11, c12⟩ := Qu3 K1.out
 obtain ⟨cg60, cg61, cg62⟩ := Qu3 K6.out
 go_upto_region 8 with ((go_at_call 13; with_reducible refine (impl_CompileExpr.calls k x1 x2 Ax cx x3 y1 y4 _ (Kd.R_reads' (kT_R HSX.out)).2.2 (Kd.R_reads' (kT_R HSX.out)).2.1 Hy.out).mono ?_; rintro e W ⟨v0, rfl, hs, hd⟩); obtain ⟨Ag, cg, rfl⟩ := Kd.R_slice hs; have HSG := Ak hs; have h47 := Ak hd.size; replace HB := Ak (below_step HB.out hd); replace K1 := Ak (blk_below K1.out hd); replace K6 := Ak (blk_below K6.out hd); replace FW := Ak (Kd.R_below FW.out hd); replace HSX := Ak (Kd.S_below HSX.out hd); clear c10 c11 c12 cg60 cg61 cg62; obtain ⟨c10, c11, c12⟩ := Qu3 K1.out; obtain ⟨cg60, cg61, cg62⟩ := Qu3 K6.out; clear hd hs)
 obtain ⟨n5, en5⟩ : ∃ n, n = W.heap.size := ⟨_, rfl⟩
 replace HSG := Ak (Kd.R_mono (Kd.R_lower (Kd.R_bound HSG.out) (by rw [← en4.out]; exact hw4.out)) (ok' := fun k => n4 ≤ k ∧ k < n5) (fun k hk => ⟨by rw [en4.out]; exact hk.2.1, by rw [en5]; exact hk.2.2.1⟩))
 have o8 : n4 ≤ n5 := by rw [en4.out, en5]; exact h47.out
 have CR := Ak (⟨HB.out, K1.out, K6.out, FW.out, HSG.out, o1.out, o3.out, Nat.le_refl _, o5.out, o8⟩ : laws_FnExactCompileExpr.Cr w W g1 g6 n2 g6 n4 n5 a0_0 a0_1 A0_2 c0_2 l0_2 Aw cw w1 x1 x2 (.slice Ax x3.length cx) Ag cg y1)
 replace en5 := Ak en5
 clear HB K1 K6 FW HSG o8 h47 o1 o3 o5 c10 c11 c12 cg60 cg61 cg62
 obtain ⟨⟨c10, c11, c12⟩, ⟨cg60, cg61, cg62⟩⟩ := CR.out.cells
 go_upto_region 10 with ((go_at_call 14; with_reducible refine (laws_eqOpS.calls k Ag cg y1 Aw cw w1 true _ (laws_FnExactCompileExpr.Cr.rg CR.out) (laws_FnExactCompileExpr.Cr.rl CR.out) (laws_FnExactCompileExpr.Cr.rw CR.out) (laws_FnExactCompileExpr.Cr.rwl CR.out) Ht1.out).mono ?_; rintro e W ⟨rfl, hd⟩); replace CR := Ak (laws_FnExactCompileExpr.Cr.below CR.out hd); replace HSX := Ak (Kd.S_below HSX.out hd); clear c10 c11 c12 cg60 cg61 cg62; obtain ⟨⟨c10, c11, c12⟩, ⟨cg60, cg61, cg62⟩⟩ := laws_FnExactCompileExpr.Cr.cells CR.out; clear hd)
 go_region_held3 (fun w' => w'.cell? ⟨g6, 0, none⟩ = some (.int .i64 x1) ∧ w'.cell? ⟨g6, 1, none⟩ = some (.int .i64 x2) ∧ w'.cell? ⟨g6, 2, none⟩ = some (.slice Ax x3.length cx) ∧ w'.cell? ⟨g1, 0, none⟩ = some (.int .i64 a0_0) ∧ w'.cell? ⟨g1, 1, none⟩ = some (.int .i64 a0_1) ∧ w'.cell? ⟨g1, 2, none⟩ = some (.slice A0_2 l0_2.length c0_2)) (first | assumption | exact ⟨by assumption, by assumption, by assumption, by assumption, by assumption, by assumption⟩ | go_keep) (first | ((go_at_call 7; with_reducible refine (laws_toExpr.callsS k a0_0 a0_1 A0_2 c0_2 l0_2 x1 x2 x3 _ (Kd.C_below HR0.out (below_drew1 CR.out.bel)) HC0.out Hx.out).mono ?_; rintro e W ⟨v0, rfl, hs, hd0⟩); obtain ⟨Az, cz, rfl⟩ := Kd.S_slice hs; have CZ := Ak (Kd.R_reads' (kT_R hs)).2.2; have LZ := Ak (Kd.R_reads' (kT_R hs)).2.1; have hd := below_step (below_drew1 (Below.refl _ _)) hd0; replace CR := Ak (laws_FnExactCompileExpr.Cr.below CR.out hd); replace HSX := Ak (Kd.S_below HSX.out hd); clear c10 c11 c12 cg60 cg61 cg62; obtain ⟨⟨c10, c11, c12⟩, ⟨cg60, cg61, cg62⟩⟩ := laws_FnExactCompileExpr.Cr.cells CR.out; clear hd hd0 hs) | ((go_at_call 9; with_reducible refine (laws_eqExpr.calls k x1 x2 Ax cx x3 x1 x2 Az cz x3 true _ (Kd.R_reads' (kT_R HSX.out)).2.2 (Kd.R_reads' (kT_R HSX.out)).2.1 CZ.out LZ.out Ht2.out).mono ?_; rintro e W ⟨rfl, hd⟩); replace CR := Ak (laws_FnExactCompileExpr.Cr.below CR.out hd); replace HSX := Ak (Kd.S_below HSX.out hd); clear c10 c11 c12 cg60 cg61 cg62; obtain ⟨⟨c10, c11, c12⟩, ⟨cg60, cg61, cg62⟩⟩ := laws_FnExactCompileExpr.Cr.cells CR.out; clear hd))
 clear CZ LZ
 go_upto_region 16 with (first | ((go_at_call 10; with_reducible refine (laws_markExpr.callsS k (fun k_ => n2 ≤ k_ ∧ k_ < g6) x1 x2 Ax cx x3 1 m1 m2 w _ CR.out.bel HSX.out Hm.out).mono ?_; rintro e W ⟨rfl, hs, hb, hk⟩); replace CR := Ak (laws_FnExactCompileExpr.Cr.mark0 CR.out hb hk); clear c10 c11 c12 cg60 cg61 cg62; obtain ⟨⟨c10, c11, c12⟩, ⟨cg60, cg61, cg62⟩⟩ := laws_FnExactCompileExpr.Cr.cells CR.out; clear hs hb hk HSX) | ((go_at_call 14; with_reducible refine (laws_eqOpS.calls k Ag cg y1 Aw cw w1 true _ (laws_FnExactCompileExpr.Cr.rg CR.out) (laws_FnExactCompileExpr.Cr.rl CR.out) (laws_FnExactCompileExpr.Cr.rw CR.out) (laws_FnExactCompileExpr.Cr.rwl CR.out) Ht1.out).mono ?_; rintro e W ⟨rfl, hd⟩); replace CR := Ak (laws_FnExactCompileExpr.Cr.below CR.out hd); clear c10 c11 c12 cg60 cg61 cg62; obtain ⟨⟨c10, c11, c12⟩, ⟨cg60, cg61, cg62⟩⟩ := laws_FnExactCompileExpr.Cr.cells CR.out; clear hd))
 go_upto_region 18 with ((go_at_call 15; with_reducible refine (laws_markOpS.calls k (fun k_ => n4 ≤ k_ ∧ k_ < n5) (.slice Ag y1.length cg) y1 1 q s2 w _ CR.out.bel CR.out.sg Hs.out).mono ?_; rintro e W ⟨rfl, hs, hb, hk⟩); have CS2 := Ak (laws_FnExactCompileExpr.Cr.mark1 CR.out hb hk hs); clear hs hb hk CR c10 c11 c12 cg60 cg61 cg62)
 obtain ⟨CS, esl⟩ := CS2.out
 clear CS2
 rw [esl]
 clear esl
 replace CS := Ak CS
 obtain ⟨c10, c11, c12⟩ := laws_FnExactCompileExpr.Cs.cells CS.out
 go_upto_region 25 with (first | ((go_at_call 16; with_reducible refine (laws_heldOpS.calls k Ag cg s2 1 q _ (laws_FnExactCompileExpr.Cs.rg CS.out) (laws_FnExactCompileExpr.Cs.rl CS.out) Hq.out).mono ?_; rintro e W ⟨rfl, hd⟩); replace CS := Ak (laws_FnExactCompileExpr.Cs.below CS.out hd.below); clear c10 c11 c12; obtain ⟨c10, c11, c12⟩ := laws_FnExactCompileExpr.Cs.cells CS.out; clear hd) | ((go_at_call 7; with_reducible refine (laws_toExpr.callsS k a0_0 a0_1 A0_2 c0_2 l0_2 x1 x2 x3 _ (Kd.C_below HR0.out CS.out.bel) HC0.out Hx.out).mono ?_; rintro e W ⟨v0, rfl, hs, hd⟩); obtain ⟨Az, cz, rfl⟩ := Kd.S_slice hs; have CZ := Ak (Kd.R_reads' (kT_R hs)).2.2; have LZ := Ak (Kd.R_reads' (kT_R hs)).2.1; replace CS := Ak (laws_FnExactCompileExpr.Cs.below CS.out hd); clear c10 c11 c12; obtain ⟨c10, c11, c12⟩ := laws_FnExactCompileExpr.Cs.cells CS.out; clear hd hs) | ((go_at_call 13; with_reducible refine (impl_CompileExpr.calls k x1 x2 Az cz x3 y1 y4 _ CZ.out LZ.out Hy.out).mono ?_; rintro e W ⟨v0, rfl, hs, hd⟩); obtain ⟨Ah, ch, rfl⟩ := Kd.R_slice hs; have CH := Ak (Kd.R_reads' hs).2.2; have LH := Ak (Kd.R_reads' hs).2.1; replace CS := Ak (laws_FnExactCompileExpr.Cs.below CS.out hd); clear c10 c11 c12; obtain ⟨c10, c11, c12⟩ := laws_FnExactCompileExpr.Cs.cells CS.out; clear hd hs CZ LZ))
 go_wp2_with (first | ((go_at_call 14; with_reducible refine (laws_eqOpS.calls k Ah ch y1 Aw cw w1 true _ CH.out LH.out (laws_FnExactCompileExpr.Cs.rw CS.out) (laws_FnExactCompileExpr.Cs.rwl CS.out) Ht1.out).mono ?_; rintro e W ⟨rfl, hd⟩); replace CS := Ak (laws_FnExactCompileExpr.Cs.below CS.out hd); clear c10 c11 c12; obtain ⟨c10, c11, c12⟩ := laws_FnExactCompileExpr.Cs.cells CS.out; clear hd) | ((go_at_call 16; with_reducible refine (laws_heldOpS.calls k Ag cg s2 1 q _ (laws_FnExactCompileExpr.Cs.rg CS.out) (laws_FnExactCompileExpr.Cs.rl CS.out) Hq.out).mono ?_; rintro e W ⟨rfl, hd⟩); replace CS := Ak (laws_FnExactCompileExpr.Cs.below CS.out hd.below); clear c10 c11 c12; obtain ⟨c10, c11, c12⟩ := laws_FnExactCompileExpr.Cs.cells CS.out; clear hd))
 go_ret
 exact ⟨rfl, CS.out.bel⟩

end Go.Proofs.Ythlagaopjmeaaaa.HFnExactCompileExpr

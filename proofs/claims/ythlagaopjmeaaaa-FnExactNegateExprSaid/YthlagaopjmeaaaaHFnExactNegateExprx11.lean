/- Text for FnExactNegateExpr: written by a program of this session on the pattern of the kit's print. -/
import Derived.Test.YthlagaopjmeaaaaHFnExactNegateExprx0
import Derived.Test.YthlagaopjmeaaaaHFnExactNegateExprx1
import Derived.Test.YthlagaopjmeaaaaHFnExactNegateExprx5
import Derived.Test.YthlagaopjmeaaaaHFnExactNegateExprx9
import Derived.Test.YthlagaopjmeaaaaHFnExactNegateExprx10
namespace Go.Proofs.Ythlagaopjmeaaaa.HFnExactNegateExpr
set_option maxHeartbeats 8000000
set_option maxRecDepth 100000
open Go.RowKit Go.Proofs.YthlagaopjmeaaaaW.PrintWords Go.Proofs.YthlagaopjmeaaaaW.PrintLast Go.Proofs.YthlagaopjmeaaaaW.PrintMore
attribute [local go_sem] max2_int min2_int max_two min_two max_three min_three max_four min_four
set_option linter.unusedVariables false
set_option linter.unusedSimpArgs false

/-! ### laws_heldExprS: function 26 -/
mutual
def laws_heldExprS.l0 : Nat → List (S28) → Int → Int → Option (Int)
 | 0, _, _, _ => none
 | k + 1, x0, x1, x5 => if x5 < (x0.length : Int) then (if 0 ≤ x5 then (if ((rd_T28 x0 x5).f0) = x1 then (if ((rd_T28 x0 x5).f1) = (wrap64 (x1 + 1)) then ((laws_heldExprS.f k ((rd_T28 x0 x5).f2) (wrap64 ((wrap64 (x1 + 1)) + 1))).bind fun t253 => (if t253 < 0 then (some (-1)) else (laws_heldExprS.l0 k x0 t253 (wrap64 (x5 + 1))))) else (some (-1))) else (some (-1))) else (none)) else (some x1)
def laws_heldExprS.f : Nat → List (S28) → Int → Option (Int)
 | 0, _, _ => none
 | k + 1, l0, a1 => laws_heldExprS.l0 k l0 a1 0
end
theorem laws_heldExprS.mono_l : ∀ k, (∀ y0 y1, LeO (laws_heldExprS.f k y0 y1) (laws_heldExprS.f (k + 1) y0 y1)) ∧ (∀ y0 y1 y2, LeO (laws_heldExprS.l0 k y0 y1 y2) (laws_heldExprS.l0 (k + 1) y0 y1 y2))
 | 0 => ⟨fun _ _ r h => by simp [laws_heldExprS.f] at h, fun _ _ _ r h => by simp [laws_heldExprS.l0] at h⟩
 | k + 1 => by
  obtain ⟨ih0, ih1⟩ := laws_heldExprS.mono_l k
  refine ⟨?_, ?_⟩
  ·intro y0 y1
   unfold laws_heldExprS.f
   repeat' first
   | (with_reducible exact ih0 _ _)
   | (with_reducible exact ih1 _ _ _)
   | (with_reducible exact LeO.refl _)
   | (with_reducible exact LeO.none _)
   | (with_reducible refine LeO.ite ?_ ?_)
   | (with_reducible refine LeO.bind ?_ (fun _ => ?_))
   | exact ih0 _ _
   | exact ih1 _ _ _
   | exact LeO.none _
   | refine LeO.ite ?_ ?_
   | refine LeO.bind ?_ (fun _ => ?_)
  ·intro y0 y1 y2
   unfold laws_heldExprS.l0
   repeat' first
   | (with_reducible exact ih0 _ _)
   | (with_reducible exact ih1 _ _ _)
   | (with_reducible exact LeO.refl _)
   | (with_reducible exact LeO.none _)
   | (with_reducible refine LeO.ite ?_ ?_)
   | (with_reducible refine LeO.bind ?_ (fun _ => ?_))
   | exact ih0 _ _
   | exact ih1 _ _ _
   | exact LeO.none _
   | refine LeO.ite ?_ ?_
   | refine LeO.bind ?_ (fun _ => ?_)
theorem laws_heldExprS.mono : ∀ a0 a1 k, LeO (laws_heldExprS.f k a0 a1) (laws_heldExprS.f (k + 1) a0 a1) := by
 intro a0 a1 k
 obtain ⟨ih0, ih1⟩ := laws_heldExprS.mono_l k
 exact ih0 a0 a1
theorem laws_heldExprS.calls (k : Nat) : ∀ (A0 : Option Addr) (c0 : Nat) (l0 : List (S28)) (a1 : Int) (r : Int) (w : World) (hr0 : Kd.C k28 w A0 l0.length l0) (hc0 : l0.length ≤ c0) (h : laws_heldExprS.f k l0 a1 = some r),
  Calls Try.prog 26 #[.slice A0 l0.length c0, .int .i64 a1] w fun e w' => e = .returned (.int .i64 r) ∧ Drawn0 w w' := by
 induction k using Nat.strongRecOn with
 | _ k ih =>
 intro A0 c0 l0 a1 r w hr0 hc0 h
 cases k with
 | zero => exact absurd h (by simp [laws_heldExprS.f])
 | succ k =>
 simp only [laws_heldExprS.f] at h
 have HR0 := Ak hr0
 have HC0 := Ak hc0
 clear hr0 hc0
 have H : (laws_heldExprS.l0 k l0 a1 0) = some r := h
 clear h
 have H' := Ak H
 clear H
 go_enter Try.func26, Try.ntmps26
 go_wp2
 go_loopg [1, 5] k (fun kq v1 v5 w' => ∃ (x1_1 : Int) (x5_1 : Int), v1 = .int .i64 x1_1 ∧ v5 = .int .i64 x5_1 ∧ Aside0 (laws_heldExprS.l0 kq l0 x1_1 x5_1 = some r) ∧ Aside0 (kq ≤ k) ∧ Drawn0 w w')
 case atStart => exact ⟨(a1), (0), Qi, Qi, H', ⟨Nat.le_refl _⟩, Ql⟩
 case round =>
  clear H'
  (try clear c2); (try clear p2)
  obtain ⟨x1_1, x5_1, rfl, rfl, HA, HK1, ⟨m1, rfl⟩⟩ := hrel
  cases gk with
  | zero => exact absurd HA.out (by simp [laws_heldExprS.l0])
  | succ k1 =>
   have H := HA.out
   clear HA
   simp only [laws_heldExprS.l0] at H
   by_cases c3 : x5_1 < (l0.length : Int)
   ·rw [if_pos c3] at H
    have c3b0 : decide (x5_1 < (l0.length : Int)) = true := decide_eq_true c3
    clear c3
    by_cases c4 : 0 ≤ x5_1
    ·rw [if_pos c4] at H
     have c4b0 : decide (0 ≤ x5_1) = true := decide_eq_true c4
     clear c4
     by_cases c5 : ((rd_T28 l0 x5_1).f0) = x1_1
     ·rw [if_pos c5] at H
      have c5b0 : (((rd_T28 l0 x5_1).f0) == x1_1) = true := beq_iff_eq.mpr c5
      have c5b1 : (((rd_T28 l0 x5_1).f0) != x1_1) = false := bne_eq_false_iff_eq.mpr c5
      clear c5
      by_cases c6 : ((rd_T28 l0 x5_1).f1) = (wrap64 (x1_1 + 1))
      ·rw [if_pos c6] at H
       have c6b0 : (((rd_T28 l0 x5_1).f1) == (wrap64 (x1_1 + 1))) = true := beq_iff_eq.mpr c6
       have c6b1 : (((rd_T28 l0 x5_1).f1) != (wrap64 (x1_1 + 1))) = false := bne_eq_false_iff_eq.mpr c6
       clear c6
       replace H := Option.bind_eq_some_iff.mp H
       obtain ⟨t253, A70, H⟩ := H
       replace H : (if t253 < 0 then (some (-1)) else (laws_heldExprS.l0 k1 l0 t253 (wrap64 (x5_1 + 1)))) = some r := H
       have A7 := Ak A70
       clear A70
       by_cases c8 : t253 < 0
       ·rw [if_pos c8] at H
        have c8b0 : decide (t253 < 0) = true := decide_eq_true c8
        clear c8
        obtain rfl := Option.some.inj H
        have p250 : 0 ≤ (x5_1 : Int) := Qg
        have q250 : x5_1 < (l0.length : Int) := Qg
        obtain ⟨ad250, A250_2, c250_2, e250, hx250_0, hx250_1, hx250_2, hl250_2, hi250_2⟩ := at_T28 HR0.out x5_1 p250 q250
        cases e250
        have HR250_2 := Ak hi250_2
        have HC250_2 := Ak hl250_2
        clear hi250_2 hl250_2
        replace p250 := eq_true p250
        replace q250 := eq_true q250
        have p251 : 0 ≤ (x5_1 : Int) := Qg
        have q251 : x5_1 < (l0.length : Int) := Qg
        obtain ⟨ad251, A251_2, c251_2, e251, hx251_0, hx251_1, hx251_2, hl251_2, hi251_2⟩ := at_T28 HR0.out x5_1 p251 q251
        obtain rfl : ad250 = ad251 := (by injection e251)
        have HR251_2 := Ak hi251_2
        have HC251_2 := Ak hl251_2
        clear hi251_2 hl251_2
        replace p251 := eq_true p251
        replace q251 := eq_true q251
        have ea_ := Option.some.inj (hx250_2.symm.trans hx251_2)
        injection ea_ with ea_ en_ ec_
        subst ea_
        subst ec_
        clear en_
        have p252 : 0 ≤ (x5_1 : Int) := Qg
        have q252 : x5_1 < (l0.length : Int) := Qg
        obtain ⟨ad252, A252_2, c252_2, e252, hx252_0, hx252_1, hx252_2, hl252_2, hi252_2⟩ := at_T28 HR0.out x5_1 p252 q252
        obtain rfl : ad250 = ad252 := (by injection e252)
        have HR252_2 := Ak hi252_2
        have HC252_2 := Ak hl252_2
        clear hi252_2 hl252_2
        replace p252 := eq_true p252
        replace q252 := eq_true q252
        have ea_ := Option.some.inj (hx250_2.symm.trans hx252_2)
        injection ea_ with ea_ en_ ec_
        subst ea_
        subst ec_
        clear en_
        go_wp2_with (first | ((with_reducible refine gate_callee (f := 26) rfl ?_); refine Qj (some 36) Try.func26 #[.slice A250_2 ((rd_T28 l0 x5_1).f2).length c250_2, .int .i64 (wrap64 ((wrap64 (x1_1 + 1)) + 1))] ?_; (with_reducible refine (ih k1 (by have := HK1.out; omega) _ _ ((rd_T28 l0 x5_1).f2) (wrap64 ((wrap64 (x1_1 + 1)) + 1)) t253 _ ?side1 ?side2 A7.out).mono ?_); (case side1 => repeat (first | exact HR252_2.out | (with_reducible refine Kd.C_alloc ?_ _) | (with_reducible refine Kd.C_drewN ?_ _) | (with_reducible refine Kd.C_drew ?_))); (case side2 => exact HC252_2.out); rintro e w' ⟨rfl, ⟨nd, rfl⟩⟩; refine ⟨_, rfl, ?_⟩))
        go_ret
        exact ⟨Qi, Ql⟩
       ·rw [if_neg c8] at H
        have c8b0 : decide (t253 < 0) = false := decide_eq_false c8
        clear c8
        have H' := Ak H
        clear H
        have p250 : 0 ≤ (x5_1 : Int) := Qg
        have q250 : x5_1 < (l0.length : Int) := Qg
        obtain ⟨ad250, A250_2, c250_2, e250, hx250_0, hx250_1, hx250_2, hl250_2, hi250_2⟩ := at_T28 HR0.out x5_1 p250 q250
        cases e250
        have HR250_2 := Ak hi250_2
        have HC250_2 := Ak hl250_2
        clear hi250_2 hl250_2
        replace p250 := eq_true p250
        replace q250 := eq_true q250
        have p251 : 0 ≤ (x5_1 : Int) := Qg
        have q251 : x5_1 < (l0.length : Int) := Qg
        obtain ⟨ad251, A251_2, c251_2, e251, hx251_0, hx251_1, hx251_2, hl251_2, hi251_2⟩ := at_T28 HR0.out x5_1 p251 q251
        obtain rfl : ad250 = ad251 := (by injection e251)
        have HR251_2 := Ak hi251_2
        have HC251_2 := Ak hl251_2
        clear hi251_2 hl251_2
        replace p251 := eq_true p251
        replace q251 := eq_true q251
        have ea_ := Option.some.inj (hx250_2.symm.trans hx251_2)
        injection ea_ with ea_ en_ ec_
        subst ea_
        subst ec_
        clear en_
        have p252 : 0 ≤ (x5_1 : Int) := Qg
        have q252 : x5_1 < (l0.length : Int) := Qg
        obtain ⟨ad252, A252_2, c252_2, e252, hx252_0, hx252_1, hx252_2, hl252_2, hi252_2⟩ := at_T28 HR0.out x5_1 p252 q252
        obtain rfl : ad250 = ad252 := (by injection e252)
        have HR252_2 := Ak hi252_2
        have HC252_2 := Ak hl252_2
        clear hi252_2 hl252_2
        replace p252 := eq_true p252
        replace q252 := eq_true q252
        have ea_ := Option.some.inj (hx250_2.symm.trans hx252_2)
        injection ea_ with ea_ en_ ec_
        subst ea_
        subst ec_
        clear en_
        go_wp2_with (first | ((with_reducible refine gate_callee (f := 26) rfl ?_); refine Qj (some 36) Try.func26 #[.slice A250_2 ((rd_T28 l0 x5_1).f2).length c250_2, .int .i64 (wrap64 ((wrap64 (x1_1 + 1)) + 1))] ?_; (with_reducible refine (ih k1 (by have := HK1.out; omega) _ _ ((rd_T28 l0 x5_1).f2) (wrap64 ((wrap64 (x1_1 + 1)) + 1)) t253 _ ?side1 ?side2 A7.out).mono ?_); (case side1 => repeat (first | exact HR252_2.out | (with_reducible refine Kd.C_alloc ?_ _) | (with_reducible refine Kd.C_drewN ?_ _) | (with_reducible refine Kd.C_drew ?_))); (case side2 => exact HC252_2.out); rintro e w' ⟨rfl, ⟨nd, rfl⟩⟩; refine ⟨_, rfl, ?_⟩))
        go_roundg k1
        case measure => have := HK1.out; omega
        case rel => exact ⟨(t253), (wrap64 (x5_1 + 1)), Qi, Qi, H', ⟨by have := HK1.out; omega⟩, Ql⟩
      ·rw [if_neg c6] at H
       have c6b0 : (((rd_T28 l0 x5_1).f1) == (wrap64 (x1_1 + 1))) = false := beq_eq_false_iff_ne.mpr c6
       have c6b1 : (((rd_T28 l0 x5_1).f1) != (wrap64 (x1_1 + 1))) = true := bne_iff_ne.mpr c6
       obtain rfl := Option.some.inj H
       have p250 : 0 ≤ (x5_1 : Int) := Qg
       have q250 : x5_1 < (l0.length : Int) := Qg
       obtain ⟨ad250, A250_2, c250_2, e250, hx250_0, hx250_1, hx250_2, hl250_2, hi250_2⟩ := at_T28 HR0.out x5_1 p250 q250
       cases e250
       have HR250_2 := Ak hi250_2
       have HC250_2 := Ak hl250_2
       clear hi250_2 hl250_2
       replace p250 := eq_true p250
       replace q250 := eq_true q250
       have p251 : 0 ≤ (x5_1 : Int) := Qg
       have q251 : x5_1 < (l0.length : Int) := Qg
       obtain ⟨ad251, A251_2, c251_2, e251, hx251_0, hx251_1, hx251_2, hl251_2, hi251_2⟩ := at_T28 HR0.out x5_1 p251 q251
       obtain rfl : ad250 = ad251 := (by injection e251)
       have HR251_2 := Ak hi251_2
       have HC251_2 := Ak hl251_2
       clear hi251_2 hl251_2
       replace p251 := eq_true p251
       replace q251 := eq_true q251
       have ea_ := Option.some.inj (hx250_2.symm.trans hx251_2)
       injection ea_ with ea_ en_ ec_
       subst ea_
       subst ec_
       clear en_
       go_wp2
       go_ret
       exact ⟨Qi, Ql⟩
     ·rw [if_neg c5] at H
      have c5b0 : (((rd_T28 l0 x5_1).f0) == x1_1) = false := beq_eq_false_iff_ne.mpr c5
      have c5b1 : (((rd_T28 l0 x5_1).f0) != x1_1) = true := bne_iff_ne.mpr c5
      obtain rfl := Option.some.inj H
      have p250 : 0 ≤ (x5_1 : Int) := Qg
      have q250 : x5_1 < (l0.length : Int) := Qg
      obtain ⟨ad250, A250_2, c250_2, e250, hx250_0, hx250_1, hx250_2, hl250_2, hi250_2⟩ := at_T28 HR0.out x5_1 p250 q250
      cases e250
      have HR250_2 := Ak hi250_2
      have HC250_2 := Ak hl250_2
      clear hi250_2 hl250_2
      replace p250 := eq_true p250
      replace q250 := eq_true q250
      go_wp2
      go_ret
      exact ⟨Qi, Ql⟩
    ·rw [if_neg c4] at H
     exact absurd H (by simp)
   ·rw [if_neg c3] at H
    have c3b0 : decide (x5_1 < (l0.length : Int)) = false := decide_eq_false c3
    clear c3
    obtain rfl := Option.some.inj H
    go_wp2
    go_ret
    exact ⟨Qi, Ql⟩

/-! ### laws_heldExpr: function 11 -/
def laws_heldExpr.f (k : Nat) (a0_0 : Int) (a0_1 : Int) (l0_2 : List (S28)) (a1 : Int) : Option (Int) := (laws_heldExprS.f k l0_2 a1).bind fun t255 => (if t255 < 0 then (some (-1)) else (some t255))
theorem laws_heldExpr.mono : ∀ a0 a1 a2 a3 k, LeO (laws_heldExpr.f k a0 a1 a2 a3) (laws_heldExpr.f (k + 1) a0 a1 a2 a3) := by
 intro a0 a1 a2 a3 k
 unfold laws_heldExpr.f
 repeat' first
   | (with_reducible exact laws_heldExprS.mono _ _ _)
   | (with_reducible exact LeO.refl _)
   | (with_reducible exact LeO.none _)
   | (with_reducible refine LeO.ite ?_ ?_)
   | (with_reducible refine LeO.bind ?_ (fun _ => ?_))
   | exact laws_heldExprS.mono _ _ _
   | exact LeO.none _
   | refine LeO.ite ?_ ?_
   | refine LeO.bind ?_ (fun _ => ?_)
theorem laws_heldExpr.calls (k : Nat) (a0_0 : Int) (a0_1 : Int) (A0_2 : Option Addr) (c0_2 : Nat) (l0_2 : List (S28)) (a1 : Int) (r : Int) (w : World) (hr0_2 : Kd.C k28 w A0_2 l0_2.length l0_2) (hc0_2 : l0_2.length ≤ c0_2) (h : laws_heldExpr.f k a0_0 a0_1 l0_2 a1 = some r) :
  Calls Try.prog 11 #[.agg #[.int .i64 a0_0, .int .i64 a0_1, .slice A0_2 l0_2.length c0_2], .int .i64 a1] w fun e w' => e = .returned (.int .i64 r) ∧ Below w.heap.size w w' := by
 have hu28 := Try.underlying28
 have HR0_2 := Ak hr0_2
 have HC0_2 := Ak hc0_2
 clear hr0_2 hc0_2
 have HB := Ak (Below.refl w.heap.size w)
 have H : ((laws_heldExprS.f k l0_2 a1).bind fun t255 => (if t255 < 0 then (some (-1)) else (some t255))) = some r := h
 clear h
 replace H := Option.bind_eq_some_iff.mp H
 obtain ⟨t255, A30, H⟩ := H
 replace H : (if t255 < 0 then (some (-1)) else (some t255)) = some r := H
 have A3 := Ak A30
 clear A30
 by_cases c4 : t255 < 0
 ·rw [if_pos c4] at H
  have c4b0 : decide (t255 < 0) = true := decide_eq_true c4
  clear c4
  obtain rfl := Option.some.inj H
  go_enter Try.func11, Try.ntmps11
  go_wp2_with (first | ((with_reducible refine gate_dst (N := 2) rfl ?_); refine Qk 2 #[.int .i64 a0_0, .int .i64 a0_1, .slice A0_2 l0_2.length c0_2] 28 ?_; intro gb254 hg w5 hbox hb; have n0_ := Ak (below_step (Qb HB.out) hb); have n1_ := Ak (hbox); have n2_ := Ak ((Qp hg HB.out : w.heap.size ≤ gb254)); have n3_ := Ak ((Qp hg HB.out : w.heap.size ≤ gb254)); clear HB; have HB := n0_; have BK254 := n1_; have GW254 := n2_; have GE254 := n3_; clear n0_ n1_ n2_ n3_; clear hb hbox hg; obtain ⟨hcz6_0, hcz6_1, hcz6_2⟩ := Qu3 BK254.out; have hfz6_0 := blk_frozen BK254.out 0; have hfz6_1 := blk_frozen BK254.out 1; have hfz6_2 := blk_frozen BK254.out 2) | ((with_reducible refine gate_callee (f := 26) rfl ?_); refine Qj (some 8) Try.func26 #[.slice A0_2 l0_2.length c0_2, .int .i64 a1] ?_; (with_reducible refine (laws_heldExprS.calls k _ _ l0_2 a1 t255 _ ?side1 ?side2 A3.out).mono ?_); (case side1 => repeat (first | exact (Kd.C_below HR0_2.out HB.out) | (with_reducible refine Kd.C_alloc ?_ _) | (with_reducible refine Kd.C_drewN ?_ _) | (with_reducible refine Kd.C_drew ?_))); (case side2 => exact HC0_2.out); rintro e w' ⟨rfl, ⟨nd, rfl⟩⟩; refine ⟨_, rfl, ?_⟩))
  go_ret
  exact ⟨Qh, Qb HB.out⟩
 ·rw [if_neg c4] at H
  have c4b0 : decide (t255 < 0) = false := decide_eq_false c4
  clear c4
  obtain rfl := Option.some.inj H
  go_enter Try.func11, Try.ntmps11
  go_wp2_with (first | ((with_reducible refine gate_dst (N := 2) rfl ?_); refine Qk 2 #[.int .i64 a0_0, .int .i64 a0_1, .slice A0_2 l0_2.length c0_2] 28 ?_; intro gb254 hg w7 hbox hb; have n0_ := Ak (below_step (Qb HB.out) hb); have n1_ := Ak (hbox); have n2_ := Ak ((Qp hg HB.out : w.heap.size ≤ gb254)); have n3_ := Ak ((Qp hg HB.out : w.heap.size ≤ gb254)); clear HB; have HB := n0_; have BK254 := n1_; have GW254 := n2_; have GE254 := n3_; clear n0_ n1_ n2_ n3_; clear hb hbox hg; obtain ⟨hcz8_0, hcz8_1, hcz8_2⟩ := Qu3 BK254.out; have hfz8_0 := blk_frozen BK254.out 0; have hfz8_1 := blk_frozen BK254.out 1; have hfz8_2 := blk_frozen BK254.out 2) | ((with_reducible refine gate_callee (f := 26) rfl ?_); refine Qj (some 8) Try.func26 #[.slice A0_2 l0_2.length c0_2, .int .i64 a1] ?_; (with_reducible refine (laws_heldExprS.calls k _ _ l0_2 a1 t255 _ ?side1 ?side2 A3.out).mono ?_); (case side1 => repeat (first | exact (Kd.C_below HR0_2.out HB.out) | (with_reducible refine Kd.C_alloc ?_ _) | (with_reducible refine Kd.C_drewN ?_ _) | (with_reducible refine Kd.C_drew ?_))); (case side2 => exact HC0_2.out); rintro e w' ⟨rfl, ⟨nd, rfl⟩⟩; refine ⟨_, rfl, ?_⟩))
  go_ret
  exact ⟨Qh, Qb HB.out⟩

/-! ### laws_FnExactNegateExpr: function 3 -/
theorem laws_FnExactNegateExpr.F_kept {W W2 : World} {P S : Nat → Prop} {A : Option Addr} {n : Nat} {l : List S28} (h : Kd.F k28 W P A n l) (hk : Kept W W2 S) (hne : ∀ k, P k → ¬ S k) : Kd.F k28 W2 P A n l := fun W' hW => h W' (fun k hp hlt => (hW k hp (Nat.lt_of_lt_of_le hlt hk.1)).trans (hk.2 k hlt (hne k hp)))
/-- What the law holds behind the first answer: the input (block g1), the answer by the specification (g4), the tree that is given (g6), the answer by the program (g7). -/
structure laws_FnExactNegateExpr.Cr (w W : World) (g1 g4 g6 g7 n2 n3 n4 n5 : Nat) (a b : Int) (A : Option Addr) (c : Nat) (l : List S24) (w1 w2 : Int) (Aw : Option Addr) (cw : Nat) (w3 : List S28) (x1 x2 : Int) (vx : Value) (y1 y2 : Int) (Ag : Option Addr) (cg : Nat) (y3 : List S28) : Prop where
 bel : Below w.heap.size w W
 k1 : W.heap[g1]? = some (.cells #[.int .i64 a, .int .i64 b, .slice A l.length c] 24 (0, 0))
 k4 : W.heap[g4]? = some (.cells #[.int .i64 w1, .int .i64 w2, .slice Aw w3.length cw] 28 (0, 0))
 k6 : W.heap[g6]? = some (.cells #[.int .i64 x1, .int .i64 x2, vx] 28 (0, 0))
 k7 : W.heap[g7]? = some (.cells #[.int .i64 y1, .int .i64 y2, .slice Ag y3.length cg] 28 (0, 0))
 fw : Kd.F k28 W (fun k => k < n2) Aw w3.length w3
 cl : w3.length ≤ cw
 sg : Kd.S kT 28 W w.heap.size (fun k => n4 ≤ k ∧ k < n5) (.slice Ag y3.length cg) y3
 o1 : g1 < n2
 o4 : g4 < n2
 o3 : n2 ≤ n3
 o6 : n3 ≤ g6
 o5 : g6 < n4
 o7 : n5 ≤ g7
 o8 : n4 ≤ n5
section
variable {w W W' : World} {g1 g4 g6 g7 n2 n3 n4 n5 : Nat} {a b : Int} {A : Option Addr} {c : Nat} {l : List S24} {w1 w2 : Int} {Aw : Option Addr} {cw : Nat} {w3 : List S28} {x1 x2 : Int} {vx : Value} {y1 y2 : Int} {Ag : Option Addr} {cg : Nat} {y3 : List S28}
theorem laws_FnExactNegateExpr.Cr.rg (h : laws_FnExactNegateExpr.Cr w W g1 g4 g6 g7 n2 n3 n4 n5 a b A c l w1 w2 Aw cw w3 x1 x2 vx y1 y2 Ag cg y3) : Kd.C k28 W Ag y3.length y3 := (Kd.R_reads' (kT_R h.sg)).2.2
theorem laws_FnExactNegateExpr.Cr.rl (h : laws_FnExactNegateExpr.Cr w W g1 g4 g6 g7 n2 n3 n4 n5 a b A c l w1 w2 Aw cw w3 x1 x2 vx y1 y2 Ag cg y3) : y3.length ≤ cg := (Kd.R_reads' (kT_R h.sg)).2.1
theorem laws_FnExactNegateExpr.Cr.rw (h : laws_FnExactNegateExpr.Cr w W g1 g4 g6 g7 n2 n3 n4 n5 a b A c l w1 w2 Aw cw w3 x1 x2 vx y1 y2 Ag cg y3) : Kd.C k28 W Aw w3.length w3 := Kd.F_now h.fw
theorem laws_FnExactNegateExpr.Cr.cells (h : laws_FnExactNegateExpr.Cr w W g1 g4 g6 g7 n2 n3 n4 n5 a b A c l w1 w2 Aw cw w3 x1 x2 vx y1 y2 Ag cg y3) : (W.cell? ⟨g1, 0, none⟩ = some (.int .i64 a) ∧ W.cell? ⟨g1, 1, none⟩ = some (.int .i64 b) ∧ W.cell? ⟨g1, 2, none⟩ = some (.slice A l.length c)) ∧ (W.cell? ⟨g4, 0, none⟩ = some (.int .i64 w1) ∧ W.cell? ⟨g4, 1, none⟩ = some (.int .i64 w2) ∧ W.cell? ⟨g4, 2, none⟩ = some (.slice Aw w3.length cw)) ∧ (W.cell? ⟨g6, 0, none⟩ = some (.int .i64 x1) ∧ W.cell? ⟨g6, 1, none⟩ = some (.int .i64 x2) ∧ W.cell? ⟨g6, 2, none⟩ = some vx) ∧ (W.cell? ⟨g7, 0, none⟩ = some (.int .i64 y1) ∧ W.cell? ⟨g7, 1, none⟩ = some (.int .i64 y2) ∧ W.cell? ⟨g7, 2, none⟩ = some (.slice Ag y3.length cg)) := ⟨Qu3 h.k1, Qu3 h.k4, Qu3 h.k6, Qu3 h.k7⟩
theorem laws_FnExactNegateExpr.Cr.below (h : laws_FnExactNegateExpr.Cr w W g1 g4 g6 g7 n2 n3 n4 n5 a b A c l w1 w2 Aw cw w3 x1 x2 vx y1 y2 Ag cg y3) (hb : Below W.heap.size W W') : laws_FnExactNegateExpr.Cr w W' g1 g4 g6 g7 n2 n3 n4 n5 a b A c l w1 w2 Aw cw w3 x1 x2 vx y1 y2 Ag cg y3 :=
 ⟨below_step h.bel hb, blk_below h.k1 hb, blk_below h.k4 hb, blk_below h.k6 hb, blk_below h.k7 hb, Kd.F_below h.fw hb, h.cl, Kd.S_below h.sg hb, h.o1, h.o4, h.o3, h.o6, h.o5, h.o7, h.o8⟩
theorem laws_FnExactNegateExpr.Cr.mark0 (h : laws_FnExactNegateExpr.Cr w W g1 g4 g6 g7 n2 n3 n4 n5 a b A c l w1 w2 Aw cw w3 x1 x2 vx y1 y2 Ag cg y3) (hb : Below w.heap.size w W') (hk : Kept W W' (fun k => n2 ≤ k ∧ k < n3)) : laws_FnExactNegateExpr.Cr w W' g1 g4 g6 g7 n2 n3 n4 n5 a b A c l w1 w2 Aw cw w3 x1 x2 vx y1 y2 Ag cg y3 := by
 obtain ⟨b0, k1, k4, k6, k7, fw, cl, sg, o1, o4, o3, o6, o5, o7, o8⟩ := h
 exact ⟨hb, blk_kept k1 hk (by omega), blk_kept k4 hk (by omega), blk_kept k6 hk (by omega), blk_kept k7 hk (by omega), laws_FnExactNegateExpr.F_kept fw hk (fun k hp => by omega), cl, Kd.S_kept sg hk (fun k hp => by omega), o1, o4, o3, o6, o5, o7, o8⟩
/-- What is read behind the second mark. -/
structure laws_FnExactNegateExpr.Cs (w W : World) (g1 g4 g7 : Nat) (a b : Int) (A : Option Addr) (c : Nat) (l : List S24) (w1 w2 : Int) (Aw : Option Addr) (cw : Nat) (w3 : List S28) (y1 y2 : Int) (Ag : Option Addr) (cg : Nat) (y3 : List S28) : Prop where
 bel : Below w.heap.size w W
 k1 : W.heap[g1]? = some (.cells #[.int .i64 a, .int .i64 b, .slice A l.length c] 24 (0, 0))
 k4 : W.heap[g4]? = some (.cells #[.int .i64 w1, .int .i64 w2, .slice Aw w3.length cw] 28 (0, 0))
 k7 : W.heap[g7]? = some (.cells #[.int .i64 y1, .int .i64 y2, .slice Ag y3.length cg] 28 (0, 0))
 fw : Kd.C k28 W Aw w3.length w3
 cl : w3.length ≤ cw
 sg : Kd.C k28 W Ag y3.length y3
 gl : y3.length ≤ cg
theorem laws_FnExactNegateExpr.Cs.rg (h : laws_FnExactNegateExpr.Cs w W g1 g4 g7 a b A c l w1 w2 Aw cw w3 y1 y2 Ag cg y3) : Kd.C k28 W Ag y3.length y3 := h.sg
theorem laws_FnExactNegateExpr.Cs.rl (h : laws_FnExactNegateExpr.Cs w W g1 g4 g7 a b A c l w1 w2 Aw cw w3 y1 y2 Ag cg y3) : y3.length ≤ cg := h.gl
theorem laws_FnExactNegateExpr.Cs.rw (h : laws_FnExactNegateExpr.Cs w W g1 g4 g7 a b A c l w1 w2 Aw cw w3 y1 y2 Ag cg y3) : Kd.C k28 W Aw w3.length w3 := h.fw
theorem laws_FnExactNegateExpr.Cs.cells (h : laws_FnExactNegateExpr.Cs w W g1 g4 g7 a b A c l w1 w2 Aw cw w3 y1 y2 Ag cg y3) : (W.cell? ⟨g1, 0, none⟩ = some (.int .i64 a) ∧ W.cell? ⟨g1, 1, none⟩ = some (.int .i64 b) ∧ W.cell? ⟨g1, 2, none⟩ = some (.slice A l.length c)) ∧ (W.cell? ⟨g4, 0, none⟩ = some (.int .i64 w1) ∧ W.cell? ⟨g4, 1, none⟩ = some (.int .i64 w2) ∧ W.cell? ⟨g4, 2, none⟩ = some (.slice Aw w3.length cw)) ∧ (W.cell? ⟨g7, 0, none⟩ = some (.int .i64 y1) ∧ W.cell? ⟨g7, 1, none⟩ = some (.int .i64 y2) ∧ W.cell? ⟨g7, 2, none⟩ = some (.slice Ag y3.length cg)) := ⟨Qu3 h.k1, Qu3 h.k4, Qu3 h.k7⟩
theorem laws_FnExactNegateExpr.Cs.below (h : laws_FnExactNegateExpr.Cs w W g1 g4 g7 a b A c l w1 w2 Aw cw w3 y1 y2 Ag cg y3) (hb : Below W.heap.size W W') : laws_FnExactNegateExpr.Cs w W' g1 g4 g7 a b A c l w1 w2 Aw cw w3 y1 y2 Ag cg y3 :=
 ⟨below_step h.bel hb, blk_below h.k1 hb, blk_below h.k4 hb, blk_below h.k7 hb, Kd.C_below h.fw hb, h.cl, Kd.C_below h.sg hb, h.gl⟩
theorem laws_FnExactNegateExpr.Cr.mark1 (h : laws_FnExactNegateExpr.Cr w W g1 g4 g6 g7 n2 n3 n4 n5 a b A c l w1 w2 Aw cw w3 x1 x2 vx y1 y2 Ag cg y3) (hb : Below w.heap.size w W') (hk : Kept W W' (fun k => n4 ≤ k ∧ k < n5)) {ok : Nat → Prop} {ym : List S28} (hs : Kd.S kT 28 W' w.heap.size ok (.slice Ag y3.length cg) ym) : laws_FnExactNegateExpr.Cs w W' g1 g4 g7 a b A c l w1 w2 Aw cw w3 y1 y2 Ag cg ym := by
 obtain ⟨b0, k1, k4, k6, k7, fw, cl, sg, o1, o4, o3, o6, o5, o7, o8⟩ := h
 obtain ⟨e, gl, gc⟩ := Kd.R_reads' (kT_R hs)
 have f7 := blk_kept k7 hk (by omega)
 rw [e] at f7 gl
 exact ⟨hb, blk_kept k1 hk (by omega), blk_kept k4 hk (by omega), f7, Kd.F_now (laws_FnExactNegateExpr.F_kept fw hk (fun k hp => by omega)), cl, gc, gl⟩
end
def laws_FnExactNegateExpr.tail (k : Nat) (y1 y2 : Int) (y3 : List S28) : Option Bool := (laws_markExprS.s k y3 1).bind fun m => (laws_heldExpr.f k y1 y2 m.2 1).bind fun q => if 0 ≤ q ∧ q = m.1 then some true else none
def laws_FnExactNegateExpr.f (k : Nat) (a b : Int) (l : List S24) : Option Bool := (laws_szExpr.f k a b l 1048576).bind fun z => if z < 0 then some true else
 (laws_toExpr.f k a b l).bind fun x => (spec_NegateExpr.f k x.1 x.2.1 x.2.2).bind fun v => (impl_NegateExpr.f k x.1 x.2.1 x.2.2).bind fun y => (laws_eqExpr.f k y.1 y.2.1 y.2.2.1 v.1 v.2.1 v.2.2.1).bind fun t1 => (laws_eqExpr.f k x.1 x.2.1 x.2.2 x.1 x.2.1 x.2.2).bind fun t2 => (laws_markExprS.s k x.2.2 1).bind fun m => if t1 = true ∧ t2 = true ∧ y.2.2.2 = v.2.2.2 ∧ 0 ≤ m.1 then laws_FnExactNegateExpr.tail k y.1 y.2.1 y.2.2.1 else none
theorem laws_FnExactNegateExpr.mono : ∀ a0 a1 a2 k, LeO (laws_FnExactNegateExpr.f k a0 a1 a2) (laws_FnExactNegateExpr.f (k + 1) a0 a1 a2) := fun a b l k => LeO.bind (laws_szExpr.mono _ _ _ _ k) fun z => LeO.ite (LeO.refl _) (LeO.bind (laws_toExpr.mono _ _ _ k) fun x => LeO.bind (spec_NegateExpr.mono _ _ _ k) fun v => LeO.bind (impl_NegateExpr.mono _ _ _ k) fun y => LeO.bind (laws_eqExpr.mono _ _ _ _ _ _ k) fun t1 => LeO.bind (laws_eqExpr.mono _ _ _ _ _ _ k) fun t2 => LeO.bind (laws_markExprS.s_mono k _ _) fun m => LeO.ite (LeO.bind (laws_markExprS.s_mono k _ _) fun m => LeO.bind (laws_heldExpr.mono _ _ _ _ k) fun q => LeO.refl _) (LeO.refl _))
theorem laws_FnExactNegateExpr.calls (k : Nat) (a0_0 : Int) (a0_1 : Int) (A0_2 : Option Addr) (c0_2 : Nat) (l0_2 : List (S24)) (r : Bool) (w : World) (hr0_2 : Kd.C k24 w A0_2 l0_2.length l0_2) (hc0_2 : l0_2.length ≤ c0_2) (h : laws_FnExactNegateExpr.f k a0_0 a0_1 l0_2 = some r) :
  Calls Try.prog 3 #[.agg #[.int .i64 a0_0, .int .i64 a0_1, .slice A0_2 l0_2.length c0_2]] w fun e w' => e = .returned (.bool r) ∧ Below w.heap.size w w' := by
 unfold laws_FnExactNegateExpr.f at h
 have HR0 := Ak hr0_2
 have HC0 := Ak hc0_2
 clear hr0_2 hc0_2
 have hu24 := Try.underlying24
 have hu28 := Try.underlying28
 replace h := Option.bind_eq_some_iff.1 h
 obtain ⟨z, Hz, h⟩ := h
 (try dsimp only at h)
 replace Hz := Ak Hz
 have al := below_alloc (Below.refl w.heap.size w) (.cells #[.int .i64 a0_0, .int .i64 a0_1, .slice A0_2 l0_2.length c0_2] 24)
 have K1 := Ak (blk_new w (.cells #[.int .i64 a0_0, .int .i64 a0_1, .slice A0_2 l0_2.length c0_2] 24))
 have HB := Ak al
 clear al
 go_enter Try.func3, Try.ntmps3
 go_upto_region 1 with fail
 have hg1 : w.heap.size < (w.alloc (.cells #[.int .i64 a0_0, .int .i64 a0_1, .slice A0_2 l0_2.length c0_2] 24)).heap.size := by simp
 generalize w.alloc (.cells #[.int .i64 a0_0, .int .i64 a0_1, .slice A0_2 l0_2.length c0_2] 24) = W at HB K1 hg1 ⊢
 obtain ⟨g1, e1⟩ : ∃ g, g = w.heap.size := ⟨_, rfl⟩
 rw [← e1] at hg1
 have K1' : W.heap[g1]? = some (.cells #[.int .i64 a0_0, .int .i64 a0_1, .slice A0_2 l0_2.length c0_2] 24 (0, 0)) := by rw [e1]; exact K1.out
 clear K1
 have K1 := Ak K1'
 clear K1'
 replace hg1 := Ak hg1
 rw [← e1]
 replace e1 := Ak e1
 obtain ⟨c10, c11, c12⟩ := Qu3 K1.out
 by_cases cz : z < 0
 ·rw [if_pos cz] at h
  obtain rfl := Option.some.inj h
  have bz : decide (z < 0) = true := decide_eq_true cz
  clear h
  go_wp2_with ((go_at_call 5; with_reducible refine (laws_szExpr.calls k a0_0 a0_1 A0_2 c0_2 l0_2 1048576 z _ (Kd.C_below HR0.out HB.out) HC0.out Hz.out).mono ?_; rintro e W ⟨rfl, hd⟩); replace HB := Ak (below_step HB.out hd); replace K1 := Ak (blk_below K1.out hd); replace hg1 := Ak (Nat.lt_of_lt_of_le hg1.out hd.size); clear c10 c11 c12; obtain ⟨c10, c11, c12⟩ := Qu3 K1.out; clear hd)
  go_ret
  exact ⟨rfl, HB.out⟩
 rw [if_neg cz] at h
 have bz : decide (z < 0) = false := decide_eq_false cz
 clear cz
 replace h := Option.bind_eq_some_iff.1 h
 obtain ⟨⟨x1, x2, x3⟩, Hx, h⟩ := h
 (try dsimp only at h)
 replace Hx := Ak Hx
 replace h := Option.bind_eq_some_iff.1 h
 obtain ⟨⟨w1, w2, w3, w4⟩, Hw, h⟩ := h
 (try dsimp only at h)
 replace Hw := Ak Hw
 replace h := Option.bind_eq_some_iff.1 h
 obtain ⟨⟨y1, y2, y3, y4⟩, Hy, h⟩ := h
 (try dsimp only at h)
 replace Hy := Ak Hy
 replace h := Option.bind_eq_some_iff.1 h
 obtain ⟨t1, Ht1, h⟩ := h
 (try dsimp only at h)
 replace Ht1 := Ak Ht1
 replace h := Option.bind_eq_some_iff.1 h
 obtain ⟨t2, Ht2, h⟩ := h
 (try dsimp only at h)
 replace Ht2 := Ak Ht2
 replace h := Option.bind_eq_some_iff.1 h
 obtain ⟨⟨m1, m2⟩, Hm, h⟩ := h
 (try dsimp only at h)
 replace Hm := Ak Hm
 by_cases co : t1 = true ∧ t2 = true ∧ y4 = w4 ∧ 0 ≤ m1
 case neg => rw [if_neg co] at h; exact absurd h (by simp)
 rw [if_pos co] at h
 obtain ⟨rfl, rfl, rfl, hm0⟩ := co
 unfold laws_FnExactNegateExpr.tail at h
 replace h := Option.bind_eq_some_iff.1 h
 obtain ⟨⟨s1, s2⟩, Hs, h⟩ := h
 (try dsimp only at h)
 replace Hs := Ak Hs
 replace h := Option.bind_eq_some_iff.1 h
 obtain ⟨q, Hq, h⟩ := h
 (try dsimp only at h)
 replace Hq := Ak Hq
 by_cases co : 0 ≤ q ∧ q = s1
 case neg => rw [if_neg co] at h; exact absurd h (by simp)
 rw [if_pos co] at h
 obtain rfl := Option.some.inj h
 obtain ⟨hq0, rfl⟩ := co
 clear h
 have bm : decide (m1 < 0) = false := decide_eq_false (by omega)
 have bq : decide (q < 0) = false := decide_eq_false (by omega)
 clear hm0 hq0
 go_upto_region 5 with ((go_at_call 5; with_reducible refine (laws_szExpr.calls k a0_0 a0_1 A0_2 c0_2 l0_2 1048576 z _ (Kd.C_below HR0.out HB.out) HC0.out Hz.out).mono ?_; rintro e W ⟨rfl, hd⟩); replace HB := Ak (below_step HB.out hd); replace K1 := Ak (blk_below K1.out hd); replace hg1 := Ak (Nat.lt_of_lt_of_le hg1.out hd.size); clear c10 c11 c12; obtain ⟨c10, c11, c12⟩ := Qu3 K1.out; clear hd)
 obtain ⟨n0, hn0⟩ : ∃ n, n = W.heap.size := ⟨_, rfl⟩
 replace hn0 := Ak hn0
 go_upto_region 6 with (first | ((go_at_call 7; with_reducible refine (laws_toExpr.callsS k a0_0 a0_1 A0_2 c0_2 l0_2 x1 x2 x3 _ (Kd.C_below HR0.out HB.out) HC0.out Hx.out).mono ?_; rintro e W ⟨v0, rfl, hs, hd⟩); obtain ⟨Ax, cx, rfl⟩ := Kd.S_slice hs; replace HB := Ak (below_step HB.out hd); replace K1 := Ak (blk_below K1.out hd); replace hg1 := Ak (Nat.lt_of_lt_of_le hg1.out hd.size); clear c10 c11 c12; obtain ⟨c10, c11, c12⟩ := Qu3 K1.out; have HX := Ak hs; clear hd hs) | ((go_at_call 6; with_reducible refine (spec_NegateExpr.calls k x1 x2 Ax cx x3 w1 w2 w3 y4 _ (Kd.R_reads' (kT_R HX.out)).2.2 (Kd.R_reads' (kT_R HX.out)).2.1 Hw.out).mono ?_; rintro e W ⟨v0, rfl, h1, hd⟩); obtain ⟨Aw, cw, rfl⟩ := Kd.N_slice h1; have CW := Ak (Kd.N_reads' h1).2.2; have LW := Ak (Kd.N_reads' h1).2.1; replace HB := Ak (below_step HB.out hd); replace K1 := Ak (blk_below K1.out hd); replace hg1 := Ak (Nat.lt_of_lt_of_le hg1.out hd.size); clear c10 c11 c12; obtain ⟨c10, c11, c12⟩ := Qu3 K1.out; clear hd h1 HX))
 have al := below_alloc (Below.refl W.heap.size W) (.cells #[.int .i64 w1, .int .i64 w2, .slice Aw w3.length cw] 28)
 have K4 := Ak (blk_new W (.cells #[.int .i64 w1, .int .i64 w2, .slice Aw w3.length cw] 28))
 have hz : W.heap.size < (W.alloc (.cells #[.int .i64 w1, .int .i64 w2, .slice Aw w3.length cw] 28)).heap.size := by simp
 replace HB := Ak (below_step HB.out al)
 replace K1 := Ak (blk_below K1.out al)
 replace hg1 := Ak (Nat.lt_trans hg1.out hz)
 replace CW := Ak (Kd.C_below CW.out al)
 clear al
 generalize W.alloc (.cells #[.int .i64 w1, .int .i64 w2, .slice Aw w3.length cw] 28) = W2 at HB K1 hg1 hz K4 CW ⊢
 obtain ⟨g4, eg4⟩ : ∃ g, g = W.heap.size := ⟨_, rfl⟩
 rw [← eg4] at hz K4 ⊢
 replace hz := Ak hz
 replace eg4 := Ak eg4
 clear c10 c11 c12
 obtain ⟨c10, c11, c12⟩ := Qu3 K1.out
 obtain ⟨cg40, cg41, cg42⟩ := Qu3 K4.out
 have FW := Ak (impl_NegateExpr.FC CW.out)
 obtain ⟨n2, en2⟩ : ∃ n, n = W2.heap.size := ⟨_, rfl⟩
 rw [← en2] at FW hz hg1
 have o1 := hg1
 have o4 := hz
 clear hz hn0
 replace en2 := Ak en2
 have hw2 : w.heap.size ≤ n2 := by rw [en2.out]; exact HB.out.size
 replace hw2 := Ak hw2
 go_upto_region 7 with ((go_at_call 7; with_reducible refine (laws_toExpr.callsS k a0_0 a0_1 A0_2 c0_2 l0_2 x1 x2 x3 _ (Kd.C_below HR0.out HB.out) HC0.out Hx.out).mono ?_; rintro e W ⟨v0, rfl, hs, hd⟩); obtain ⟨Ax, cx, rfl⟩ := Kd.S_slice hs; have HSX := Ak hs; have h26 := Ak hd.size; replace HB := Ak (below_step HB.out hd); replace K1 := Ak (blk_below K1.out hd); replace K4 := Ak (blk_below K4.out hd); replace FW := Ak (Kd.F_below FW.out hd); clear c10 c11 c12 cg40 cg41 cg42; obtain ⟨c10, c11, c12⟩ := Qu3 K1.out; obtain ⟨cg40, cg41, cg42⟩ := Qu3 K4.out; clear hd hs)
 have al := below_alloc (Below.refl W.heap.size W) (.cells #[.int .i64 x1, .int .i64 x2, .slice Ax x3.length cx] 28)
 have K6 := Ak (blk_new W (.cells #[.int .i64 x1, .int .i64 x2, .slice Ax x3.length cx] 28))
 have hz : W.heap.size < (W.alloc (.cells #[.int .i64 x1, .int .i64 x2, .slice Ax x3.length cx] 28)).heap.size := by simp
 replace HB := Ak (below_step HB.out al)
 replace HSX := Ak (Kd.S_mono (Kd.S_lower (Kd.S_bound HSX.out) (by rw [← en2.out]; exact hw2.out)) (ok' := fun k => n2 ≤ k ∧ k < W.heap.size) (fun k hk => ⟨by rw [en2.out]; exact hk.2.1, hk.2.2.1⟩))
 replace HSX := Ak (Kd.S_below HSX.out al)
 replace K1 := Ak (blk_below K1.out al)
 replace K4 := Ak (blk_below K4.out al)
 replace FW := Ak (Kd.F_below FW.out al)
 clear al
 generalize W.alloc (.cells #[.int .i64 x1, .int .i64 x2, .slice Ax x3.length cx] 28) = W3 at HB hz K6 HSX K1 K4 FW ⊢
 obtain ⟨g6, eg6⟩ : ∃ g, g = W.heap.size := ⟨_, rfl⟩
 rw [← eg6] at hz K6 HSX ⊢
 replace hz := Ak hz
 replace eg6 := Ak eg6
 clear c10 c11 c12 cg40 cg41 cg42
 obtain ⟨c10, c11, c12⟩ := Qu3 K1.out
 obtain ⟨cg40, cg41, cg42⟩ := Qu3 K4.out
 obtain ⟨cg60, cg61, cg62⟩ := Qu3 K6.out
 have o3 : n2 ≤ g6 := by rw [en2.out, eg6.out]; exact h26.out
 obtain ⟨n4, en4⟩ : ∃ n, n = W3.heap.size := ⟨_, rfl⟩
 rw [← en4] at hz
 have o5 := hz
 clear hz h26
 replace o3 := Ak o3
 replace en4 := Ak en4
 have hw4 : w.heap.size ≤ n4 := by rw [en4.out]; exact HB.out.size
 replace hw4 := Ak hw4
 go_upto_region 8 with ((go_at_call 8; with_reducible refine (impl_NegateExpr.callsS k x1 x2 Ax cx x3 y1 y2 y3 y4 _ (Kd.R_reads' (kT_R HSX.out)).2.2 (Kd.R_reads' (kT_R HSX.out)).2.1 Hy.out).mono ?_; rintro e W ⟨v0, rfl, hs, hd⟩); obtain ⟨Ag, cg, rfl⟩ := Kd.S_slice hs; have HSG := Ak hs; have h47 := Ak hd.size; replace HB := Ak (below_step HB.out hd); replace K1 := Ak (blk_below K1.out hd); replace K4 := Ak (blk_below K4.out hd); replace K6 := Ak (blk_below K6.out hd); replace FW := Ak (Kd.F_below FW.out hd); replace HSX := Ak (Kd.S_below HSX.out hd); clear cg60 cg61 cg62 c10 c11 c12 cg40 cg41 cg42; obtain ⟨c10, c11, c12⟩ := Qu3 K1.out; obtain ⟨cg40, cg41, cg42⟩ := Qu3 K4.out; obtain ⟨cg60, cg61, cg62⟩ := Qu3 K6.out; clear hd hs)
 have al := below_alloc (Below.refl W.heap.size W) (.cells #[.int .i64 y1, .int .i64 y2, .slice Ag y3.length cg] 28)
 have K7 := Ak (blk_new W (.cells #[.int .i64 y1, .int .i64 y2, .slice Ag y3.length cg] 28))
 have hz : W.heap.size < (W.alloc (.cells #[.int .i64 y1, .int .i64 y2, .slice Ag y3.length cg] 28)).heap.size := by simp
 replace HB := Ak (below_step HB.out al)
 replace HSG := Ak (Kd.S_mono (Kd.S_lower (Kd.S_bound HSG.out) (by rw [← en4.out]; exact hw4.out)) (ok' := fun k => n4 ≤ k ∧ k < W.heap.size) (fun k hk => ⟨by rw [en4.out]; exact hk.2.1, hk.2.2.1⟩))
 replace HSG := Ak (Kd.S_below HSG.out al)
 replace HSX := Ak (Kd.S_below HSX.out al)
 replace K6 := Ak (blk_below K6.out al)
 replace K1 := Ak (blk_below K1.out al)
 replace K4 := Ak (blk_below K4.out al)
 replace FW := Ak (Kd.F_below FW.out al)
 clear al
 generalize W.alloc (.cells #[.int .i64 y1, .int .i64 y2, .slice Ag y3.length cg] 28) = W4 at HB hz K7 HSG HSX K6 K1 K4 FW ⊢
 obtain ⟨g7, eg7⟩ : ∃ g, g = W.heap.size := ⟨_, rfl⟩
 rw [← eg7] at hz K7 HSG ⊢
 replace hz := Ak hz
 replace eg7 := Ak eg7
 have o8 : n4 ≤ g7 := by rw [en4.out, eg7.out]; exact h47.out
 have CR := Ak (⟨HB.out, K1.out, K4.out, K6.out, K7.out, FW.out, LW.out, HSG.out, o1.out, o4.out, o3.out, Nat.le_refl _, o5.out, Nat.le_refl _, o8⟩ : laws_FnExactNegateExpr.Cr w W4 g1 g4 g6 g7 n2 g6 n4 g7 a0_0 a0_1 A0_2 c0_2 l0_2 w1 w2 Aw cw w3 x1 x2 (.slice Ax x3.length cx) y1 y2 Ag cg y3)
 clear HB K1 K4 K6 K7 FW HSG o8 h47 hz o1 o4 o3 o5 c10 c11 c12 cg40 cg41 cg42 cg60 cg61 cg62
 obtain ⟨⟨c10, c11, c12⟩, ⟨cg40, cg41, cg42⟩, ⟨cg60, cg61, cg62⟩, ⟨cg70, cg71, cg72⟩⟩ := CR.out.cells
 go_upto_region 10 with ((go_at_call 9; with_reducible refine (laws_eqExpr.calls k y1 y2 Ag cg y3 w1 w2 Aw cw w3 true _ (laws_FnExactNegateExpr.Cr.rg CR.out) (laws_FnExactNegateExpr.Cr.rl CR.out) (laws_FnExactNegateExpr.Cr.rw CR.out) LW.out Ht1.out).mono ?_; rintro e W ⟨rfl, hd⟩); replace CR := Ak (laws_FnExactNegateExpr.Cr.below CR.out hd); replace HSX := Ak (Kd.S_below HSX.out hd); clear c10 c11 c12 cg40 cg41 cg42 cg60 cg61 cg62 cg70 cg71 cg72; obtain ⟨⟨c10, c11, c12⟩, ⟨cg40, cg41, cg42⟩, ⟨cg60, cg61, cg62⟩, ⟨cg70, cg71, cg72⟩⟩ := laws_FnExactNegateExpr.Cr.cells CR.out; clear hd)
 go_region_held3 (fun w' => w'.cell? ⟨g6, 0, none⟩ = some (.int .i64 x1) ∧ w'.cell? ⟨g6, 1, none⟩ = some (.int .i64 x2) ∧ w'.cell? ⟨g6, 2, none⟩ = some (.slice Ax x3.length cx) ∧ w'.cell? ⟨g1, 0, none⟩ = some (.int .i64 a0_0) ∧ w'.cell? ⟨g1, 1, none⟩ = some (.int .i64 a0_1) ∧ w'.cell? ⟨g1, 2, none⟩ = some (.slice A0_2 l0_2.length c0_2)) (first | assumption | exact ⟨by assumption, by assumption, by assumption, by assumption, by assumption, by assumption⟩ | go_keep) (first | ((go_at_call 7; with_reducible refine (laws_toExpr.callsS k a0_0 a0_1 A0_2 c0_2 l0_2 x1 x2 x3 _ (Kd.C_below HR0.out (below_drew1 CR.out.bel)) HC0.out Hx.out).mono ?_; rintro e W ⟨v0, rfl, hs, hd0⟩); obtain ⟨Az, cz, rfl⟩ := Kd.S_slice hs; have CZ := Ak (Kd.R_reads' (kT_R hs)).2.2; have LZ := Ak (Kd.R_reads' (kT_R hs)).2.1; have hd := below_step (below_drew1 (Below.refl _ _)) hd0; replace CR := Ak (laws_FnExactNegateExpr.Cr.below CR.out hd); replace HSX := Ak (Kd.S_below HSX.out hd); clear c10 c11 c12 cg40 cg41 cg42 cg60 cg61 cg62 cg70 cg71 cg72; obtain ⟨⟨c10, c11, c12⟩, ⟨cg40, cg41, cg42⟩, ⟨cg60, cg61, cg62⟩, ⟨cg70, cg71, cg72⟩⟩ := laws_FnExactNegateExpr.Cr.cells CR.out; clear hd hd0 hs) | ((go_at_call 9; with_reducible refine (laws_eqExpr.calls k x1 x2 Ax cx x3 x1 x2 Az cz x3 true _ (Kd.R_reads' (kT_R HSX.out)).2.2 (Kd.R_reads' (kT_R HSX.out)).2.1 CZ.out LZ.out Ht2.out).mono ?_; rintro e W ⟨rfl, hd⟩); replace CR := Ak (laws_FnExactNegateExpr.Cr.below CR.out hd); replace HSX := Ak (Kd.S_below HSX.out hd); clear c10 c11 c12 cg40 cg41 cg42 cg60 cg61 cg62 cg70 cg71 cg72; obtain ⟨⟨c10, c11, c12⟩, ⟨cg40, cg41, cg42⟩, ⟨cg60, cg61, cg62⟩, ⟨cg70, cg71, cg72⟩⟩ := laws_FnExactNegateExpr.Cr.cells CR.out; clear hd))
 clear CZ LZ
 go_upto_region 16 with (first | ((go_at_call 10; with_reducible refine (laws_markExpr.callsS k (fun k_ => n2 ≤ k_ ∧ k_ < g6) x1 x2 Ax cx x3 1 m1 m2 w _ CR.out.bel HSX.out Hm.out).mono ?_; rintro e W ⟨rfl, hs, hb, hk⟩); replace CR := Ak (laws_FnExactNegateExpr.Cr.mark0 CR.out hb hk); clear c10 c11 c12 cg40 cg41 cg42 cg60 cg61 cg62 cg70 cg71 cg72; obtain ⟨⟨c10, c11, c12⟩, ⟨cg40, cg41, cg42⟩, ⟨cg60, cg61, cg62⟩, ⟨cg70, cg71, cg72⟩⟩ := laws_FnExactNegateExpr.Cr.cells CR.out; clear hs hb hk HSX) | ((go_at_call 9; with_reducible refine (laws_eqExpr.calls k y1 y2 Ag cg y3 w1 w2 Aw cw w3 true _ (laws_FnExactNegateExpr.Cr.rg CR.out) (laws_FnExactNegateExpr.Cr.rl CR.out) (laws_FnExactNegateExpr.Cr.rw CR.out) LW.out Ht1.out).mono ?_; rintro e W ⟨rfl, hd⟩); replace CR := Ak (laws_FnExactNegateExpr.Cr.below CR.out hd); clear c10 c11 c12 cg40 cg41 cg42 cg60 cg61 cg62 cg70 cg71 cg72; obtain ⟨⟨c10, c11, c12⟩, ⟨cg40, cg41, cg42⟩, ⟨cg60, cg61, cg62⟩, ⟨cg70, cg71, cg72⟩⟩ := laws_FnExactNegateExpr.Cr.cells CR.out; clear hd))
 go_upto_region 18 with ((go_at_call 10; with_reducible refine (laws_markExpr.callsS k (fun k_ => n4 ≤ k_ ∧ k_ < g7) y1 y2 Ag cg y3 1 q s2 w _ CR.out.bel CR.out.sg Hs.out).mono ?_; rintro e W ⟨rfl, hs, hb, hk⟩); have CS := Ak (laws_FnExactNegateExpr.Cr.mark1 CR.out hb hk hs); clear hs hb hk CR c10 c11 c12 cg40 cg41 cg42 cg60 cg61 cg62 cg70 cg71 cg72; obtain ⟨⟨c10, c11, c12⟩, ⟨cg40, cg41, cg42⟩, ⟨cg70, cg71, cg72⟩⟩ := laws_FnExactNegateExpr.Cs.cells CS.out)
 go_upto_region 25 with (first | ((go_at_call 11; with_reducible refine (laws_heldExpr.calls k y1 y2 Ag cg s2 1 q _ (laws_FnExactNegateExpr.Cs.rg CS.out) (laws_FnExactNegateExpr.Cs.rl CS.out) Hq.out).mono ?_; rintro e W ⟨rfl, hd⟩); replace CS := Ak (laws_FnExactNegateExpr.Cs.below CS.out hd); clear c10 c11 c12 cg40 cg41 cg42 cg70 cg71 cg72; obtain ⟨⟨c10, c11, c12⟩, ⟨cg40, cg41, cg42⟩, ⟨cg70, cg71, cg72⟩⟩ := laws_FnExactNegateExpr.Cs.cells CS.out; clear hd) | ((go_at_call 7; with_reducible refine (laws_toExpr.callsS k a0_0 a0_1 A0_2 c0_2 l0_2 x1 x2 x3 _ (Kd.C_below HR0.out CS.out.bel) HC0.out Hx.out).mono ?_; rintro e W ⟨v0, rfl, hs, hd⟩); obtain ⟨Az, cz, rfl⟩ := Kd.S_slice hs; have CZ := Ak (Kd.R_reads' (kT_R hs)).2.2; have LZ := Ak (Kd.R_reads' (kT_R hs)).2.1; replace CS := Ak (laws_FnExactNegateExpr.Cs.below CS.out hd); clear c10 c11 c12 cg40 cg41 cg42 cg70 cg71 cg72; obtain ⟨⟨c10, c11, c12⟩, ⟨cg40, cg41, cg42⟩, ⟨cg70, cg71, cg72⟩⟩ := laws_FnExactNegateExpr.Cs.cells CS.out; clear hd hs) | ((go_at_call 8; with_reducible refine (impl_NegateExpr.callsS k x1 x2 Az cz x3 y1 y2 y3 y4 _ CZ.out LZ.out Hy.out).mono ?_; rintro e W ⟨v0, rfl, hs, hd⟩); obtain ⟨Ah, ch, rfl⟩ := Kd.S_slice hs; have CH := Ak (Kd.R_reads' (kT_R hs)).2.2; have LH := Ak (Kd.R_reads' (kT_R hs)).2.1; replace CS := Ak (laws_FnExactNegateExpr.Cs.below CS.out hd); clear c10 c11 c12 cg40 cg41 cg42 cg70 cg71 cg72; obtain ⟨⟨c10, c11, c12⟩, ⟨cg40, cg41, cg42⟩, ⟨cg70, cg71, cg72⟩⟩ := laws_FnExactNegateExpr.Cs.cells CS.out; clear hd hs CZ LZ))
 have al := below_alloc (Below.refl W.heap.size W) (.cells #[.int .i64 y1, .int .i64 y2, .slice Ah y3.length ch] 28)
 have K12 := Ak (blk_new W (.cells #[.int .i64 y1, .int .i64 y2, .slice Ah y3.length ch] 28))
 replace CS := Ak (laws_FnExactNegateExpr.Cs.below CS.out al)
 replace CH := Ak (Kd.C_below CH.out al)
 clear al c10 c11 c12 cg40 cg41 cg42 cg70 cg71 cg72
 generalize W.alloc (.cells #[.int .i64 y1, .int .i64 y2, .slice Ah y3.length ch] 28) = W5 at CS CH K12 ⊢
 generalize W.heap.size = g12 at K12 ⊢
 obtain ⟨⟨c10, c11, c12⟩, ⟨cg40, cg41, cg42⟩, ⟨cg70, cg71, cg72⟩⟩ := laws_FnExactNegateExpr.Cs.cells CS.out
 obtain ⟨ch0, ch1, ch2⟩ := Qu3 K12.out
 go_wp2_with (first | ((go_at_call 9; with_reducible refine (laws_eqExpr.calls k y1 y2 Ah ch y3 w1 w2 Aw cw w3 true _ CH.out LH.out (laws_FnExactNegateExpr.Cs.rw CS.out) LW.out Ht1.out).mono ?_; rintro e W ⟨rfl, hd⟩); replace CS := Ak (laws_FnExactNegateExpr.Cs.below CS.out hd); clear c10 c11 c12 cg40 cg41 cg42 cg70 cg71 cg72; obtain ⟨⟨c10, c11, c12⟩, ⟨cg40, cg41, cg42⟩, ⟨cg70, cg71, cg72⟩⟩ := laws_FnExactNegateExpr.Cs.cells CS.out; clear hd) | ((go_at_call 11; with_reducible refine (laws_heldExpr.calls k y1 y2 Ag cg s2 1 q _ (laws_FnExactNegateExpr.Cs.rg CS.out) (laws_FnExactNegateExpr.Cs.rl CS.out) Hq.out).mono ?_; rintro e W ⟨rfl, hd⟩); replace CS := Ak (laws_FnExactNegateExpr.Cs.below CS.out hd); clear c10 c11 c12 cg40 cg41 cg42 cg70 cg71 cg72; obtain ⟨⟨c10, c11, c12⟩, ⟨cg40, cg41, cg42⟩, ⟨cg70, cg71, cg72⟩⟩ := laws_FnExactNegateExpr.Cs.cells CS.out; clear hd))
 go_ret
 exact ⟨rfl, CS.out.bel⟩

end Go.Proofs.Ythlagaopjmeaaaa.HFnExactNegateExpr

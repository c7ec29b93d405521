/- Text for FnExactFormatCode: written by a program of this session on the pattern of the kit's print. -/
import Derived.Test.YtjfgcipbbcplmaaDoorHFnExactFormatCodex0
namespace Go.Proofs.YtjfgcipbbcplmaaDoor.HFnExactFormatCode
set_option maxHeartbeats 8000000
set_option maxRecDepth 100000
open Go.RowKit Go.Proofs.YtjfgcipbbcplmaaDoorW.PrintWords Go.Proofs.YtjfgcipbbcplmaaDoorW.PrintLast Go.Proofs.YtjfgcipbbcplmaaDoorW.PrintMore
attribute [local go_sem] max2_int min2_int max_two min_two max_three min_three max_four min_four
set_option linter.unusedVariables false
set_option linter.unusedSimpArgs false

/-! ### laws_szOpS: function 22 -/
def laws_szOpS.f (l0 : List (S81)) (a1 : Int) : Option (Int) := if (wrap64 (a1 - (l0.length : Int))) < 0 then (some (-1)) else (some (wrap64 (a1 - (l0.length : Int))))
theorem laws_szOpS.calls (A0 : Option Addr) (c0 : Nat) (l0 : List (S81)) (a1 : Int) (r : Int) (w : World) (hr0 : Kd.C k81 w A0 l0.length l0) (hc0 : l0.length ≤ c0) (h : laws_szOpS.f l0 a1 = some r) :
  Calls Tryd.prog 22 #[.slice A0 l0.length c0, .int .i64 a1] w fun e w' => e = .returned (.int .i64 r) ∧ Drawn0 w w' := by
 have HR0 := Ak hr0
 have HC0 := Ak hc0
 clear hr0 hc0
 have H : (if (wrap64 (a1 - (l0.length : Int))) < 0 then (some (-1)) else (some (wrap64 (a1 - (l0.length : Int))))) = some r := h
 clear h
 by_cases c3 : (wrap64 (a1 - (l0.length : Int))) < 0
 ·rw [if_pos c3] at H
  have c3b0 : decide ((wrap64 (a1 - (l0.length : Int))) < 0) = true := decide_eq_true c3
  clear c3
  obtain rfl := Option.some.inj H
  go_enter Tryd.func22, Tryd.ntmps22
  go_wp2
  go_ret
  exact ⟨Qi, Ql⟩
 ·rw [if_neg c3] at H
  have c3b0 : decide ((wrap64 (a1 - (l0.length : Int))) < 0) = false := decide_eq_false c3
  clear c3
  obtain rfl := Option.some.inj H
  go_enter Tryd.func22, Tryd.ntmps22
  go_wp2
  go_ret
  exact ⟨Qi, Ql⟩

/-! ### spec_l1In: function 98 -/
def spec_l1In.f (a0 : Int) (a1 : Int) (a2 : Int) : Option (Bool) := if a0 ≥ a1 then (some (decide (a0 ≤ a2))) else (some false)
theorem spec_l1In.calls (a0 : Int) (a1 : Int) (a2 : Int) (r : Bool) (w : World) (h : spec_l1In.f a0 a1 a2 = some r) :
  Calls Tryd.prog 98 #[.int .i64 a0, .int .i64 a1, .int .i64 a2] w fun e w' => e = .returned (.bool r) ∧ Drawn0 w w' := by
 have H : (if a0 ≥ a1 then (some (decide (a0 ≤ a2))) else (some false)) = some r := h
 clear h
 by_cases c4 : a0 ≥ a1
 ·rw [if_pos c4] at H
  have c4b0 : decide (a1 ≤ a0) = true := decide_eq_true c4
  clear c4
  obtain rfl := Option.some.inj H
  go_enter Tryd.func98, Tryd.ntmps98
  go_wp2
  go_ret
  exact ⟨Qi, Ql⟩
 ·rw [if_neg c4] at H
  have c4b0 : decide (a1 ≤ a0) = false := decide_eq_false c4
  clear c4
  obtain rfl := Option.some.inj H
  go_enter Tryd.func98, Tryd.ntmps98
  go_wp2
  go_ret
  exact ⟨Qi, Ql⟩

/-! ### spec_l7Cell: function 99 -/
def spec_l7Cell.f (a0 : Int) : Option (Bool) := (spec_l1In.f a0 (-9841) 9841).bind fun t101 => (some t101)
theorem spec_l7Cell.calls (a0 : Int) (r : Bool) (w : World) (h : spec_l7Cell.f a0 = some r) :
  Calls Tryd.prog 99 #[.int .i64 a0] w fun e w' => e = .returned (.bool r) ∧ Drawn0 w w' := by
 have H : ((spec_l1In.f a0 (-9841) 9841).bind fun t101 => (some t101)) = some r := h
 clear h
 replace H := Option.bind_eq_some_iff.mp H
 obtain ⟨t101, A20, H⟩ := H
 replace H : (some t101) = some r := H
 have A2 := Ak A20
 clear A20
 obtain rfl := Option.some.inj H
 go_enter Tryd.func99, Tryd.ntmps99
 go_wp2_with (first | ((with_reducible refine gate_callee (f := 98) rfl ?_); refine Qj (some 4) Tryd.func98 #[.int .i64 a0, .int .i64 (-9841), .int .i64 9841] ?_; (with_reducible refine (spec_l1In.calls a0 (-9841) 9841 t101 _ A2.out).mono ?_); rintro e w' ⟨rfl, ⟨nd, rfl⟩⟩; refine ⟨_, rfl, ?_⟩))
 go_ret
 exact ⟨Qi, Ql⟩

/-! ### spec_IsCode: function 57 -/
mutual
def spec_IsCode.l0 : Nat → Int → List (S54) → Int → Int → Option (Bool)
 | 0, _, _, _, _ => none
 | k + 1, x3, x12, x13, x14 => if x14 < x13 then (if 0 ≤ x14 then (if x14 < (x12.length : Int) then (if ((rd_T54 x12 x14).f2) = 0 then (spec_IsCode.j1 k x3 (((rd_T54 x12 x14).f3) == 0) x12 x13 x14 ((rd_T54 x12 x14).f0) ((rd_T54 x12 x14).f1) ((rd_T54 x12 x14).f2) ((rd_T54 x12 x14).f3)) else (spec_IsCode.j1 k x3 false x12 x13 x14 ((rd_T54 x12 x14).f0) ((rd_T54 x12 x14).f1) ((rd_T54 x12 x14).f2) ((rd_T54 x12 x14).f3))) else (none)) else (none)) else (some true)
def spec_IsCode.j1 : Nat → Int → Bool → List (S54) → Int → Int → Int → Int → Int → Int → Option (Bool)
 | 0, _, _, _, _, _, _, _, _, _ => none
 | k + 1, x3, x6, x12, x13, x14, x105000, x105001, x105002, x105003 => if x105000 = 1 then ((spec_l7Cell.f x105001).bind fun t105 => (if t105 = true then (if x6 = true then (spec_IsCode.l0 k x3 x12 x13 (wrap64 (x14 + 1))) else (some false)) else (some false))) else (if x105000 = 10 then ((spec_l1In.f x105001 (-9) 9).bind fun t106 => (if t106 = true then (if x6 = true then (spec_IsCode.l0 k x3 x12 x13 (wrap64 (x14 + 1))) else (some false)) else (some false))) else (if x105000 = 13 then ((spec_l1In.f x105001 0 x3).bind fun t107 => (if t107 = true then (if x6 = true then (spec_IsCode.l0 k x3 x12 x13 (wrap64 (x14 + 1))) else (some false)) else (some false))) else (if x105000 = 14 then ((spec_l1In.f x105001 0 x3).bind fun t108 => (if t108 = true then ((spec_l1In.f x105002 0 x3).bind fun t109 => (if t109 = true then ((spec_l1In.f x105003 0 x3).bind fun t110 => (if t110 = true then (spec_IsCode.l0 k x3 x12 x13 (wrap64 (x14 + 1))) else (some false))) else (some false))) else (some false))) else ((spec_l1In.f x105000 1 15).bind fun t111 => (if t111 = true then (if x105001 = 0 then (if x6 = true then (spec_IsCode.l0 k x3 x12 x13 (wrap64 (x14 + 1))) else (some false)) else (some false)) else (some false))))))
end
def spec_IsCode.f (k : Nat) (l0 : List (S54)) : Option (Bool) := (spec_l1In.f (l0.length : Int) 1 80).bind fun t102 => (if t102 = true then (spec_IsCode.l0 k (l0.length : Int) l0 (l0.length : Int) 0) else (some false))
theorem spec_IsCode.mono_l : ∀ k, (∀ y0 y1 y2 y3, LeO (spec_IsCode.l0 k y0 y1 y2 y3) (spec_IsCode.l0 (k + 1) y0 y1 y2 y3)) ∧ (∀ y0 y1 y2 y3 y4 y5 y6 y7 y8, LeO (spec_IsCode.j1 k y0 y1 y2 y3 y4 y5 y6 y7 y8) (spec_IsCode.j1 (k + 1) y0 y1 y2 y3 y4 y5 y6 y7 y8))
 | 0 => ⟨fun _ _ _ _ r h => by simp [spec_IsCode.l0] at h, fun _ _ _ _ _ _ _ _ _ r h => by simp [spec_IsCode.j1] at h⟩
 | k + 1 => by
  obtain ⟨ih0, ih1⟩ := spec_IsCode.mono_l k
  refine ⟨?_, ?_⟩
  ·intro y0 y1 y2 y3
   unfold spec_IsCode.l0
   repeat' first
   | (with_reducible exact ih0 _ _ _ _)
   | (with_reducible exact ih1 _ _ _ _ _ _ _ _ _)
   | (with_reducible exact LeO.refl _)
   | (with_reducible exact LeO.none _)
   | (with_reducible refine LeO.ite ?_ ?_)
   | (with_reducible refine LeO.bind ?_ (fun _ => ?_))
   | exact ih0 _ _ _ _
   | exact ih1 _ _ _ _ _ _ _ _ _
   | exact LeO.none _
   | refine LeO.ite ?_ ?_
   | refine LeO.bind ?_ (fun _ => ?_)
  ·intro y0 y1 y2 y3 y4 y5 y6 y7 y8
   unfold spec_IsCode.j1
   repeat' first
   | (with_reducible exact ih0 _ _ _ _)
   | (with_reducible exact ih1 _ _ _ _ _ _ _ _ _)
   | (with_reducible exact LeO.refl _)
   | (with_reducible exact LeO.none _)
   | (with_reducible refine LeO.ite ?_ ?_)
   | (with_reducible refine LeO.bind ?_ (fun _ => ?_))
   | exact ih0 _ _ _ _
   | exact ih1 _ _ _ _ _ _ _ _ _
   | exact LeO.none _
   | refine LeO.ite ?_ ?_
   | refine LeO.bind ?_ (fun _ => ?_)
theorem spec_IsCode.mono : ∀ a0 k, LeO (spec_IsCode.f k a0) (spec_IsCode.f (k + 1) a0) := by
 intro a0 k
 obtain ⟨ih0, ih1⟩ := spec_IsCode.mono_l k
 unfold spec_IsCode.f
 repeat' first
   | (with_reducible exact ih0 _ _ _ _)
   | (with_reducible exact ih1 _ _ _ _ _ _ _ _ _)
   | (with_reducible exact LeO.refl _)
   | (with_reducible exact LeO.none _)
   | (with_reducible refine LeO.ite ?_ ?_)
   | (with_reducible refine LeO.bind ?_ (fun _ => ?_))
   | exact ih0 _ _ _ _
   | exact ih1 _ _ _ _ _ _ _ _ _
   | exact LeO.none _
   | refine LeO.ite ?_ ?_
   | refine LeO.bind ?_ (fun _ => ?_)
theorem spec_IsCode.calls (k : Nat) (A0 : Option Addr) (c0 : Nat) (l0 : List (S54)) (r : Bool) (w : World) (hr0 : Kd.C k54 w A0 l0.length l0) (hc0 : l0.length ≤ c0) (h : spec_IsCode.f k l0 = some r) :
  Calls Tryd.prog 57 #[.slice A0 l0.length c0] w fun e w' => e = .returned (.bool r) ∧ Below w.heap.size w w' := by
 have hu54 := Tryd.underlying54
 have HR0 := Ak hr0
 have HC0 := Ak hc0
 clear hr0 hc0
 have HB := Ak (Below.refl w.heap.size w)
 have H : ((spec_l1In.f (l0.length : Int) 1 80).bind fun t102 => (if t102 = true then (spec_IsCode.l0 k (l0.length : Int) l0 (l0.length : Int) 0) else (some false))) = some r := h
 clear h
 replace H := Option.bind_eq_some_iff.mp H
 obtain ⟨t102, A20, H⟩ := H
 replace H : (if t102 = true then (spec_IsCode.l0 k (l0.length : Int) l0 (l0.length : Int) 0) else (some false)) = some r := H
 have A2 := Ak A20
 clear A20
 by_cases c3 : t102 = true
 ·(try subst c3)
  have H1 : (spec_IsCode.l0 k (l0.length : Int) l0 (l0.length : Int) 0) = some r := by rw [if_pos rfl] at H; exact H
  clear H
  have H := H1
  clear H1
  have H' := Ak H
  clear H
  go_enter Tryd.func57, Tryd.ntmps57
  go_wp2_with (first | ((with_reducible refine gate_callee (f := 98) rfl ?_); refine Qj (some 10) Tryd.func98 #[.int .i64 (l0.length : Int), .int .i64 1, .int .i64 80] ?_; (with_reducible refine (spec_l1In.calls (l0.length : Int) 1 80 true _ A2.out).mono ?_); rintro e w' ⟨rfl, ⟨nd, rfl⟩⟩; refine ⟨_, rfl, ?_⟩))
  go_loopg [14] k (fun kq v14 w' => ∃ (x14_1 : Int), v14 = .int .i64 x14_1 ∧ Aside0 (spec_IsCode.l0 kq (l0.length : Int) l0 (l0.length : Int) x14_1 = some r) ∧ Aside0 (kq ≤ k) ∧ Aside0 (Below w.heap.size w w'))
  case atStart => exact ⟨(0), Qi, H', ⟨Nat.le_refl _⟩, ⟨Qb HB.out⟩⟩
  case round =>
   clear H'
   (try clear p2); (try clear c3)
   obtain ⟨x14_1, rfl, HA, HK1, HB⟩ := hrel
   cases gk with
   | zero => exact absurd HA.out (by simp [spec_IsCode.l0])
   | succ k1 =>
    have H := HA.out
    clear HA
    simp only [spec_IsCode.l0] at H
    by_cases c4 : x14_1 < (l0.length : Int)
    ·rw [if_pos c4] at H
     have c4b0 : decide (x14_1 < (l0.length : Int)) = true := decide_eq_true c4
     clear c4
     by_cases c5 : 0 ≤ x14_1
     ·rw [if_pos c5] at H
      have c5b0 : decide (0 ≤ x14_1) = true := decide_eq_true c5
      clear c5
      by_cases c6 : x14_1 < (l0.length : Int)
      ·rw [if_pos c6] at H
       have c6b0 : decide (x14_1 < (l0.length : Int)) = true := decide_eq_true c6
       clear c6
       have HC7 := Ak H
       clear H
       have p103 : 0 ≤ (x14_1 : Int) := Qg
       have q103 : x14_1 < (l0.length : Int) := Qg
       obtain ⟨ad103, e103, hx103_0, hx103_1, hx103_2, hx103_3⟩ := at_T54 HR0.out x14_1 p103 q103
       cases e103
       (try replace hx103_0 := (HB.out.cell (World.block_lt_of_cell? w _ hx103_0)).trans hx103_0)
       (try replace hx103_1 := (HB.out.cell (World.block_lt_of_cell? w _ hx103_1)).trans hx103_1)
       (try replace hx103_2 := (HB.out.cell (World.block_lt_of_cell? w _ hx103_2)).trans hx103_2)
       (try replace hx103_3 := (HB.out.cell (World.block_lt_of_cell? w _ hx103_3)).trans hx103_3)
       replace p103 := eq_true p103
       replace q103 := eq_true q103
       go_upto_region 7 with (first | ((with_reducible refine gate_dst (N := 5) rfl ?_); refine Qk 5 #[.int .i64 0, .int .i64 0, .int .i64 0, .int .i64 0] 54 ?_; intro gb104 hg w8 hbox hb; have n0_ := Ak (below_step (Qb HB.out) hb); have n1_ := Ak (hbox); have n2_ := Ak ((Qp hg HB.out : w.heap.size ≤ gb104)); have n3_ := Ak ((Qp hg HB.out : w.heap.size ≤ gb104)); clear HB; have HB := n0_; have BK104 := n1_; have GW104 := n2_; have GE104 := n3_; clear n0_ n1_ n2_ n3_; clear hb hbox hg; obtain ⟨hcz9_0, hcz9_1, hcz9_2, hcz9_3⟩ := Qu4 BK104.out; have hfz9_0 := blk_frozen BK104.out 0; have hfz9_1 := blk_frozen BK104.out 1; have hfz9_2 := blk_frozen BK104.out 2; have hfz9_3 := blk_frozen BK104.out 3))
       (try simp only [Act.put, List.setIfInBounds_toArray, List.set_cons_zero, List.set_cons_succ])
       go_cut [6] (fun v6 wc => ∃ (kq : Nat) (x6_6 : Bool), v6 = .bool x6_6 ∧ Aside0 (spec_IsCode.j1 kq (l0.length : Int) x6_6 l0 (l0.length : Int) x14_1 ((rd_T54 l0 x14_1).f0) ((rd_T54 l0 x14_1).f1) ((rd_T54 l0 x14_1).f2) ((rd_T54 l0 x14_1).f3) = some r) ∧ Aside0 (kq ≤ k1) ∧ Aside0 (wc.heap[gb104]? = some (.cells #[.int .i64 ((rd_T54 l0 x14_1).f0), .int .i64 ((rd_T54 l0 x14_1).f1), .int .i64 ((rd_T54 l0 x14_1).f2), .int .i64 ((rd_T54 l0 x14_1).f3)] 54 (0, 0))) ∧ Aside0 (Below w.heap.size w wc))
       case first =>
        have H := HC7.out
        clear HC7
        by_cases c10 : ((rd_T54 l0 x14_1).f2) = 0
        ·rw [if_pos c10] at H
         have c10b0 : (((rd_T54 l0 x14_1).f2) == 0) = true := beq_iff_eq.mpr c10
         have c10b1 : (((rd_T54 l0 x14_1).f2) != 0) = false := bne_eq_false_iff_eq.mpr c10
         clear c10
         (first | rw [c10b0] | (simp only [i64_w, i32_w]; rw [c10b0]) | skip)
         have H' := Ak H
         clear H
         obtain ⟨hcz11_0, hcz11_1, hcz11_2, hcz11_3, hfz11_0, hfz11_1, hfz11_2, hfz11_3⟩ := Qv4 BK104.out
         go_wp2
         go_meet
         case rel => exact ⟨_, ((((rd_T54 l0 x14_1).f3) == 0)), Qi, H', ⟨by have := HK1.out; first | omega | exact Nat.le_refl _⟩, ⟨by refine Qe ?_; refine blk_put (cs := #[.int .i64 ((rd_T54 l0 x14_1).f0), .int .i64 ((rd_T54 l0 x14_1).f1), .int .i64 ((rd_T54 l0 x14_1).f2), .int .i64 0]) ?_ 3 _ rfl; refine Qe ?_; refine blk_put (cs := #[.int .i64 ((rd_T54 l0 x14_1).f0), .int .i64 ((rd_T54 l0 x14_1).f1), .int .i64 0, .int .i64 0]) ?_ 2 _ rfl; refine Qe ?_; refine blk_put (cs := #[.int .i64 ((rd_T54 l0 x14_1).f0), .int .i64 0, .int .i64 0, .int .i64 0]) ?_ 1 _ rfl; refine Qe ?_; refine blk_put (cs := #[.int .i64 0, .int .i64 0, .int .i64 0, .int .i64 0]) ?_ 0 _ rfl; refine Qe ?_; exact BK104.out⟩, ⟨Qb HB.out⟩⟩
        ·rw [if_neg c10] at H
         have c10b0 : (((rd_T54 l0 x14_1).f2) == 0) = false := beq_eq_false_iff_ne.mpr c10
         have c10b1 : (((rd_T54 l0 x14_1).f2) != 0) = true := bne_iff_ne.mpr c10
         (first | rw [c10b0] | (simp only [i64_w, i32_w]; rw [c10b0]) | skip)
         have H' := Ak H
         clear H
         obtain ⟨hcz12_0, hcz12_1, hcz12_2, hcz12_3, hfz12_0, hfz12_1, hfz12_2, hfz12_3⟩ := Qv4 BK104.out
         go_wp2
         go_meet
         case rel => exact ⟨_, (false), Qi, H', ⟨by have := HK1.out; first | omega | exact Nat.le_refl _⟩, ⟨by refine Qe ?_; refine blk_put (cs := #[.int .i64 ((rd_T54 l0 x14_1).f0), .int .i64 ((rd_T54 l0 x14_1).f1), .int .i64 ((rd_T54 l0 x14_1).f2), .int .i64 0]) ?_ 3 _ rfl; refine Qe ?_; refine blk_put (cs := #[.int .i64 ((rd_T54 l0 x14_1).f0), .int .i64 ((rd_T54 l0 x14_1).f1), .int .i64 0, .int .i64 0]) ?_ 2 _ rfl; refine Qe ?_; refine blk_put (cs := #[.int .i64 ((rd_T54 l0 x14_1).f0), .int .i64 0, .int .i64 0, .int .i64 0]) ?_ 1 _ rfl; refine Qe ?_; refine blk_put (cs := #[.int .i64 0, .int .i64 0, .int .i64 0, .int .i64 0]) ?_ 0 _ rfl; refine Qe ?_; exact BK104.out⟩, ⟨Qb HB.out⟩⟩
       case rest =>
        clear HC7
        (try clear c1); (try clear p1); (try clear q1); (try clear hx1); (try clear p2); (try clear c3); (try clear c4); (try clear c4b0); (try clear c5); (try clear c5b0); (try clear c6); (try clear c6b0); (try clear c9); (try clear c10); (try clear c10b0); (try clear c10b1); (try clear p10); (try clear q10); (try clear hx10); (try clear hcz11_0); (try clear hcz11_1); (try clear hcz11_2); (try clear hcz11_3); (try clear hcz12_0); (try clear hcz12_1); (try clear hcz12_2); (try clear hcz12_3); (try clear hcz9_0); (try clear hcz9_1); (try clear hcz9_2); (try clear hcz9_3); (try clear hfz11_0); (try clear hfz11_1); (try clear hfz11_2); (try clear hfz11_3); (try clear hfz12_0); (try clear hfz12_1); (try clear hfz12_2); (try clear hfz12_3); (try clear hfz9_0); (try clear hfz9_1); (try clear hfz9_2); (try clear hfz9_3); (try clear hx103_0); (try clear hx103_1); (try clear hx103_2); (try clear hx103_3); (try clear p103); (try clear p2); (try clear q103)
        obtain ⟨kq, x6_6, rfl, HA, HJ6, BK104, HB⟩ := hcut
        cases kq with
        | zero => exact absurd HA.out (by simp [spec_IsCode.j1])
        | succ kj6 =>
         have H := HA.out
         clear HA
         simp only [spec_IsCode.j1] at H
         by_cases c13 : ((rd_T54 l0 x14_1).f0) = 1
         ·rw [if_pos c13] at H
          have c13b0 : (((rd_T54 l0 x14_1).f0) == 1) = true := beq_iff_eq.mpr c13
          have c13b1 : (((rd_T54 l0 x14_1).f0) != 1) = false := bne_eq_false_iff_eq.mpr c13
          clear c13
          replace H := Option.bind_eq_some_iff.mp H
          obtain ⟨t105, A140, H⟩ := H
          replace H : (if t105 = true then (if x6_6 = true then (spec_IsCode.l0 kj6 (l0.length : Int) l0 (l0.length : Int) (wrap64 (x14_1 + 1))) else (some false)) else (some false)) = some r := H
          have A14 := Ak A140
          clear A140
          by_cases c15 : t105 = true
          ·(try subst c15)
           have H1 : (if x6_6 = true then (spec_IsCode.l0 kj6 (l0.length : Int) l0 (l0.length : Int) (wrap64 (x14_1 + 1))) else (some false)) = some r := by rw [if_pos rfl] at H; exact H
           clear H
           have H := H1
           clear H1
           by_cases c16 : x6_6 = true
           ·(try subst c16)
            have H1 : (spec_IsCode.l0 kj6 (l0.length : Int) l0 (l0.length : Int) (wrap64 (x14_1 + 1))) = some r := by rw [if_pos rfl] at H; exact H
            clear H
            have H := H1
            clear H1
            have H' := Ak H
            clear H
            obtain ⟨hcz17_0, hcz17_1, hcz17_2, hcz17_3, hfz17_0, hfz17_1, hfz17_2, hfz17_3⟩ := Qv4 BK104.out
            go_wp2_with (first | ((with_reducible refine gate_callee (f := 99) rfl ?_); refine Qj (some 45) Tryd.func99 #[.int .i64 ((rd_T54 l0 x14_1).f1)] ?_; (with_reducible refine (spec_l7Cell.calls ((rd_T54 l0 x14_1).f1) true _ A14.out).mono ?_); rintro e w' ⟨rfl, ⟨nd, rfl⟩⟩; refine ⟨_, rfl, ?_⟩))
            go_roundg kj6
            case measure => have := HK1.out; have := HJ6.out; omega
            case rel => exact ⟨(wrap64 (x14_1 + 1)), Qi, H', ⟨by have := HK1.out; have := HJ6.out; omega⟩, ⟨Qb HB.out⟩⟩
           ·replace c16 := Bool.eq_false_iff.mpr c16
            (try subst c16)
            have H1 : (some false) = some r := by rw [if_neg (show ¬ (false = true) by decide)] at H; exact H
            clear H
            have H := H1
            clear H1
            obtain rfl := Option.some.inj H
            obtain ⟨hcz18_0, hcz18_1, hcz18_2, hcz18_3, hfz18_0, hfz18_1, hfz18_2, hfz18_3⟩ := Qv4 BK104.out
            go_wp2_with (first | ((with_reducible refine gate_callee (f := 99) rfl ?_); refine Qj (some 45) Tryd.func99 #[.int .i64 ((rd_T54 l0 x14_1).f1)] ?_; (with_reducible refine (spec_l7Cell.calls ((rd_T54 l0 x14_1).f1) true _ A14.out).mono ?_); rintro e w' ⟨rfl, ⟨nd, rfl⟩⟩; refine ⟨_, rfl, ?_⟩))
            go_ret
            exact ⟨Qh, Qb HB.out⟩
          ·replace c15 := Bool.eq_false_iff.mpr c15
           (try subst c15)
           have H1 : (some false) = some r := by rw [if_neg (show ¬ (false = true) by decide)] at H; exact H
           clear H
           have H := H1
           clear H1
           obtain rfl := Option.some.inj H
           obtain ⟨hcz19_0, hcz19_1, hcz19_2, hcz19_3, hfz19_0, hfz19_1, hfz19_2, hfz19_3⟩ := Qv4 BK104.out
           go_wp2_with (first | ((with_reducible refine gate_callee (f := 99) rfl ?_); refine Qj (some 45) Tryd.func99 #[.int .i64 ((rd_T54 l0 x14_1).f1)] ?_; (with_reducible refine (spec_l7Cell.calls ((rd_T54 l0 x14_1).f1) false _ A14.out).mono ?_); rintro e w' ⟨rfl, ⟨nd, rfl⟩⟩; refine ⟨_, rfl, ?_⟩))
           go_ret
           exact ⟨Qh, Qb HB.out⟩
         ·rw [if_neg c13] at H
          have c13b0 : (((rd_T54 l0 x14_1).f0) == 1) = false := beq_eq_false_iff_ne.mpr c13
          have c13b1 : (((rd_T54 l0 x14_1).f0) != 1) = true := bne_iff_ne.mpr c13
          by_cases c20 : ((rd_T54 l0 x14_1).f0) = 10
          ·rw [if_pos c20] at H
           have c20b0 : (((rd_T54 l0 x14_1).f0) == 10) = true := beq_iff_eq.mpr c20
           have c20b1 : (((rd_T54 l0 x14_1).f0) != 10) = false := bne_eq_false_iff_eq.mpr c20
           clear c20
           replace H := Option.bind_eq_some_iff.mp H
           obtain ⟨t106, A210, H⟩ := H
           replace H : (if t106 = true then (if x6_6 = true then (spec_IsCode.l0 kj6 (l0.length : Int) l0 (l0.length : Int) (wrap64 (x14_1 + 1))) else (some false)) else (some false)) = some r := H
           have A21 := Ak A210
           clear A210
           by_cases c22 : t106 = true
           ·(try subst c22)
            have H1 : (if x6_6 = true then (spec_IsCode.l0 kj6 (l0.length : Int) l0 (l0.length : Int) (wrap64 (x14_1 + 1))) else (some false)) = some r := by rw [if_pos rfl] at H; exact H
            clear H
            have H := H1
            clear H1
            by_cases c23 : x6_6 = true
            ·(try subst c23)
             have H1 : (spec_IsCode.l0 kj6 (l0.length : Int) l0 (l0.length : Int) (wrap64 (x14_1 + 1))) = some r := by rw [if_pos rfl] at H; exact H
             clear H
             have H := H1
             clear H1
             have H' := Ak H
             clear H
             obtain ⟨hcz24_0, hcz24_1, hcz24_2, hcz24_3, hfz24_0, hfz24_1, hfz24_2, hfz24_3⟩ := Qv4 BK104.out
             go_wp2_with (first | ((with_reducible refine gate_callee (f := 98) rfl ?_); refine Qj (some 55) Tryd.func98 #[.int .i64 ((rd_T54 l0 x14_1).f1), .int .i64 (-9), .int .i64 9] ?_; (with_reducible refine (spec_l1In.calls ((rd_T54 l0 x14_1).f1) (-9) 9 true _ A21.out).mono ?_); rintro e w' ⟨rfl, ⟨nd, rfl⟩⟩; refine ⟨_, rfl, ?_⟩))
             go_roundg kj6
             case measure => have := HK1.out; have := HJ6.out; omega
             case rel => exact ⟨(wrap64 (x14_1 + 1)), Qi, H', ⟨by have := HK1.out; have := HJ6.out; omega⟩, ⟨Qb HB.out⟩⟩
            ·replace c23 := Bool.eq_false_iff.mpr c23
             (try subst c23)
             have H1 : (some false) = some r := by rw [if_neg (show ¬ (false = true) by decide)] at H; exact H
             clear H
             have H := H1
             clear H1
             obtain rfl := Option.some.inj H
             obtain ⟨hcz25_0, hcz25_1, hcz25_2, hcz25_3, hfz25_0, hfz25_1, hfz25_2, hfz25_3⟩ := Qv4 BK104.out
             go_wp2_with (first | ((with_reducible refine gate_callee (f := 98) rfl ?_); refine Qj (some 55) Tryd.func98 #[.int .i64 ((rd_T54 l0 x14_1).f1), .int .i64 (-9), .int .i64 9] ?_; (with_reducible refine (spec_l1In.calls ((rd_T54 l0 x14_1).f1) (-9) 9 true _ A21.out).mono ?_); rintro e w' ⟨rfl, ⟨nd, rfl⟩⟩; refine ⟨_, rfl, ?_⟩))
             go_ret
             exact ⟨Qh, Qb HB.out⟩
           ·replace c22 := Bool.eq_false_iff.mpr c22
            (try subst c22)
            have H1 : (some false) = some r := by rw [if_neg (show ¬ (false = true) by decide)] at H; exact H
            clear H
            have H := H1
            clear H1
            obtain rfl := Option.some.inj H
            obtain ⟨hcz26_0, hcz26_1, hcz26_2, hcz26_3, hfz26_0, hfz26_1, hfz26_2, hfz26_3⟩ := Qv4 BK104.out
            go_wp2_with (first | ((with_reducible refine gate_callee (f := 98) rfl ?_); refine Qj (some 55) Tryd.func98 #[.int .i64 ((rd_T54 l0 x14_1).f1), .int .i64 (-9), .int .i64 9] ?_; (with_reducible refine (spec_l1In.calls ((rd_T54 l0 x14_1).f1) (-9) 9 false _ A21.out).mono ?_); rintro e w' ⟨rfl, ⟨nd, rfl⟩⟩; refine ⟨_, rfl, ?_⟩))
            go_ret
            exact ⟨Qh, Qb HB.out⟩
          ·rw [if_neg c20] at H
           have c20b0 : (((rd_T54 l0 x14_1).f0) == 10) = false := beq_eq_false_iff_ne.mpr c20
           have c20b1 : (((rd_T54 l0 x14_1).f0) != 10) = true := bne_iff_ne.mpr c20
           by_cases c27 : ((rd_T54 l0 x14_1).f0) = 13
           ·rw [if_pos c27] at H
            have c27b0 : (((rd_T54 l0 x14_1).f0) == 13) = true := beq_iff_eq.mpr c27
            have c27b1 : (((rd_T54 l0 x14_1).f0) != 13) = false := bne_eq_false_iff_eq.mpr c27
            clear c27
            replace H := Option.bind_eq_some_iff.mp H
            obtain ⟨t107, A280, H⟩ := H
            replace H : (if t107 = true then (if x6_6 = true then (spec_IsCode.l0 kj6 (l0.length : Int) l0 (l0.length : Int) (wrap64 (x14_1 + 1))) else (some false)) else (some false)) = some r := H
            have A28 := Ak A280
            clear A280
            by_cases c29 : t107 = true
            ·(try subst c29)
             have H1 : (if x6_6 = true then (spec_IsCode.l0 kj6 (l0.length : Int) l0 (l0.length : Int) (wrap64 (x14_1 + 1))) else (some false)) = some r := by rw [if_pos rfl] at H; exact H
             clear H
             have H := H1
             clear H1
             by_cases c30 : x6_6 = true
             ·(try subst c30)
              have H1 : (spec_IsCode.l0 kj6 (l0.length : Int) l0 (l0.length : Int) (wrap64 (x14_1 + 1))) = some r := by rw [if_pos rfl] at H; exact H
              clear H
              have H := H1
              clear H1
              have H' := Ak H
              clear H
              obtain ⟨hcz31_0, hcz31_1, hcz31_2, hcz31_3, hfz31_0, hfz31_1, hfz31_2, hfz31_3⟩ := Qv4 BK104.out
              go_wp2_with (first | ((with_reducible refine gate_callee (f := 98) rfl ?_); refine Qj (some 66) Tryd.func98 #[.int .i64 ((rd_T54 l0 x14_1).f1), .int .i64 0, .int .i64 (l0.length : Int)] ?_; (with_reducible refine (spec_l1In.calls ((rd_T54 l0 x14_1).f1) 0 (l0.length : Int) true _ A28.out).mono ?_); rintro e w' ⟨rfl, ⟨nd, rfl⟩⟩; refine ⟨_, rfl, ?_⟩))
              go_roundg kj6
              case measure => have := HK1.out; have := HJ6.out; omega
              case rel => exact ⟨(wrap64 (x14_1 + 1)), Qi, H', ⟨by have := HK1.out; have := HJ6.out; omega⟩, ⟨Qb HB.out⟩⟩
             ·replace c30 := Bool.eq_false_iff.mpr c30
              (try subst c30)
              have H1 : (some false) = some r := by rw [if_neg (show ¬ (false = true) by decide)] at H; exact H
              clear H
              have H := H1
              clear H1
              obtain rfl := Option.some.inj H
              obtain ⟨hcz32_0, hcz32_1, hcz32_2, hcz32_3, hfz32_0, hfz32_1, hfz32_2, hfz32_3⟩ := Qv4 BK104.out
              go_wp2_with (first | ((with_reducible refine gate_callee (f := 98) rfl ?_); refine Qj (some 66) Tryd.func98 #[.int .i64 ((rd_T54 l0 x14_1).f1), .int .i64 0, .int .i64 (l0.length : Int)] ?_; (with_reducible refine (spec_l1In.calls ((rd_T54 l0 x14_1).f1) 0 (l0.length : Int) true _ A28.out).mono ?_); rintro e w' ⟨rfl, ⟨nd, rfl⟩⟩; refine ⟨_, rfl, ?_⟩))
              go_ret
              exact ⟨Qh, Qb HB.out⟩
            ·replace c29 := Bool.eq_false_iff.mpr c29
             (try subst c29)
             have H1 : (some false) = some r := by rw [if_neg (show ¬ (false = true) by decide)] at H; exact H
             clear H
             have H := H1
             clear H1
             obtain rfl := Option.some.inj H
             obtain ⟨hcz33_0, hcz33_1, hcz33_2, hcz33_3, hfz33_0, hfz33_1, hfz33_2, hfz33_3⟩ := Qv4 BK104.out
             go_wp2_with (first | ((with_reducible refine gate_callee (f := 98) rfl ?_); refine Qj (some 66) Tryd.func98 #[.int .i64 ((rd_T54 l0 x14_1).f1), .int .i64 0, .int .i64 (l0.length : Int)] ?_; (with_reducible refine (spec_l1In.calls ((rd_T54 l0 x14_1).f1) 0 (l0.length : Int) false _ A28.out).mono ?_); rintro e w' ⟨rfl, ⟨nd, rfl⟩⟩; refine ⟨_, rfl, ?_⟩))
             go_ret
             exact ⟨Qh, Qb HB.out⟩
           ·rw [if_neg c27] at H
            have c27b0 : (((rd_T54 l0 x14_1).f0) == 13) = false := beq_eq_false_iff_ne.mpr c27
            have c27b1 : (((rd_T54 l0 x14_1).f0) != 13) = true := bne_iff_ne.mpr c27
            by_cases c34 : ((rd_T54 l0 x14_1).f0) = 14
            ·rw [if_pos c34] at H
             have c34b0 : (((rd_T54 l0 x14_1).f0) == 14) = true := beq_iff_eq.mpr c34
             have c34b1 : (((rd_T54 l0 x14_1).f0) != 14) = false := bne_eq_false_iff_eq.mpr c34
             clear c34
             replace H := Option.bind_eq_some_iff.mp H
             obtain ⟨t108, A350, H⟩ := H
             replace H : (if t108 = true then ((spec_l1In.f ((rd_T54 l0 x14_1).f2) 0 (l0.length : Int)).bind fun t109 => (if t109 = true then ((spec_l1In.f ((rd_T54 l0 x14_1).f3) 0 (l0.length : Int)).bind fun t110 => (if t110 = true then (spec_IsCode.l0 kj6 (l0.length : Int) l0 (l0.length : Int) (wrap64 (x14_1 + 1))) else (some false))) else (some false))) else (some false)) = some r := H
             have A35 := Ak A350
             clear A350
             by_cases c36 : t108 = true
             ·(try subst c36)
              have H1 : ((spec_l1In.f ((rd_T54 l0 x14_1).f2) 0 (l0.length : Int)).bind fun t109 => (if t109 = true then ((spec_l1In.f ((rd_T54 l0 x14_1).f3) 0 (l0.length : Int)).bind fun t110 => (if t110 = true then (spec_IsCode.l0 kj6 (l0.length : Int) l0 (l0.length : Int) (wrap64 (x14_1 + 1))) else (some false))) else (some false))) = some r := by rw [if_pos rfl] at H; exact H
              clear H
              have H := H1
              clear H1
              replace H := Option.bind_eq_some_iff.mp H
              obtain ⟨t109, A370, H⟩ := H
              replace H : (if t109 = true then ((spec_l1In.f ((rd_T54 l0 x14_1).f3) 0 (l0.length : Int)).bind fun t110 => (if t110 = true then (spec_IsCode.l0 kj6 (l0.length : Int) l0 (l0.length : Int) (wrap64 (x14_1 + 1))) else (some false))) else (some false)) = some r := H
              have A37 := Ak A370
              clear A370
              by_cases c38 : t109 = true
              ·(try subst c38)
               have H1 : ((spec_l1In.f ((rd_T54 l0 x14_1).f3) 0 (l0.length : Int)).bind fun t110 => (if t110 = true then (spec_IsCode.l0 kj6 (l0.length : Int) l0 (l0.length : Int) (wrap64 (x14_1 + 1))) else (some false))) = some r := by rw [if_pos rfl] at H; exact H
               clear H
               have H := H1
               clear H1
               replace H := Option.bind_eq_some_iff.mp H
               obtain ⟨t110, A390, H⟩ := H
               replace H : (if t110 = true then (spec_IsCode.l0 kj6 (l0.length : Int) l0 (l0.length : Int) (wrap64 (x14_1 + 1))) else (some false)) = some r := H
               have A39 := Ak A390
               clear A390
               by_cases c40 : t110 = true
               ·(try subst c40)
                have H1 : (spec_IsCode.l0 kj6 (l0.length : Int) l0 (l0.length : Int) (wrap64 (x14_1 + 1))) = some r := by rw [if_pos rfl] at H; exact H
                clear H
                have H := H1
                clear H1
                have H' := Ak H
                clear H
                obtain ⟨hcz41_0, hcz41_1, hcz41_2, hcz41_3, hfz41_0, hfz41_1, hfz41_2, hfz41_3⟩ := Qv4 BK104.out
                go_wp2_with (first | ((with_reducible refine gate_callee (f := 98) rfl ?_); refine Qj (some 77) Tryd.func98 #[.int .i64 ((rd_T54 l0 x14_1).f1), .int .i64 0, .int .i64 (l0.length : Int)] ?_; (with_reducible refine (spec_l1In.calls ((rd_T54 l0 x14_1).f1) 0 (l0.length : Int) true _ A35.out).mono ?_); rintro e w' ⟨rfl, ⟨nd, rfl⟩⟩; refine ⟨_, rfl, ?_⟩) | (go_at_call 98; (with_reducible refine (spec_l1In.calls ((rd_T54 l0 x14_1).f2) 0 (l0.length : Int) true _ A37.out).mono ?_); rintro e w' ⟨rfl, ⟨nd, rfl⟩⟩) | (go_at_call 98; (with_reducible refine (spec_l1In.calls ((rd_T54 l0 x14_1).f3) 0 (l0.length : Int) true _ A39.out).mono ?_); rintro e w' ⟨rfl, ⟨nd, rfl⟩⟩))
                go_roundg kj6
                case measure => have := HK1.out; have := HJ6.out; omega
                case rel => exact ⟨(wrap64 (x14_1 + 1)), Qi, H', ⟨by have := HK1.out; have := HJ6.out; omega⟩, ⟨Qb HB.out⟩⟩
               ·replace c40 := Bool.eq_false_iff.mpr c40
                (try subst c40)
                have H1 : (some false) = some r := by rw [if_neg (show ¬ (false = true) by decide)] at H; exact H
                clear H
                have H := H1
                clear H1
                obtain rfl := Option.some.inj H
                obtain ⟨hcz42_0, hcz42_1, hcz42_2, hcz42_3, hfz42_0, hfz42_1, hfz42_2, hfz42_3⟩ := Qv4 BK104.out
                go_wp2_with (first | ((with_reducible refine gate_callee (f := 98) rfl ?_); refine Qj (some 77) Tryd.func98 #[.int .i64 ((rd_T54 l0 x14_1).f1), .int .i64 0, .int .i64 (l0.length : Int)] ?_; (with_reducible refine (spec_l1In.calls ((rd_T54 l0 x14_1).f1) 0 (l0.length : Int) true _ A35.out).mono ?_); rintro e w' ⟨rfl, ⟨nd, rfl⟩⟩; refine ⟨_, rfl, ?_⟩) | (go_at_call 98; (with_reducible refine (spec_l1In.calls ((rd_T54 l0 x14_1).f2) 0 (l0.length : Int) true _ A37.out).mono ?_); rintro e w' ⟨rfl, ⟨nd, rfl⟩⟩) | (go_at_call 98; (with_reducible refine (spec_l1In.calls ((rd_T54 l0 x14_1).f3) 0 (l0.length : Int) false _ A39.out).mono ?_); rintro e w' ⟨rfl, ⟨nd, rfl⟩⟩))
                go_ret
                exact ⟨Qh, Qb HB.out⟩
              ·replace c38 := Bool.eq_false_iff.mpr c38
               (try subst c38)
               have H1 : (some false) = some r := by rw [if_neg (show ¬ (false = true) by decide)] at H; exact H
               clear H
               have H := H1
               clear H1
               obtain rfl := Option.some.inj H
               obtain ⟨hcz43_0, hcz43_1, hcz43_2, hcz43_3, hfz43_0, hfz43_1, hfz43_2, hfz43_3⟩ := Qv4 BK104.out
               go_wp2_with (first | ((with_reducible refine gate_callee (f := 98) rfl ?_); refine Qj (some 77) Tryd.func98 #[.int .i64 ((rd_T54 l0 x14_1).f1), .int .i64 0, .int .i64 (l0.length : Int)] ?_; (with_reducible refine (spec_l1In.calls ((rd_T54 l0 x14_1).f1) 0 (l0.length : Int) true _ A35.out).mono ?_); rintro e w' ⟨rfl, ⟨nd, rfl⟩⟩; refine ⟨_, rfl, ?_⟩) | (go_at_call 98; (with_reducible refine (spec_l1In.calls ((rd_T54 l0 x14_1).f2) 0 (l0.length : Int) false _ A37.out).mono ?_); rintro e w' ⟨rfl, ⟨nd, rfl⟩⟩))
               go_ret
               exact ⟨Qh, Qb HB.out⟩
             ·replace c36 := Bool.eq_false_iff.mpr c36
              (try subst c36)
              have H1 : (some false) = some r := by rw [if_neg (show ¬ (false = true) by decide)] at H; exact H
              clear H
              have H := H1
              clear H1
              obtain rfl := Option.some.inj H
              obtain ⟨hcz44_0, hcz44_1, hcz44_2, hcz44_3, hfz44_0, hfz44_1, hfz44_2, hfz44_3⟩ := Qv4 BK104.out
              go_wp2_with (first | ((with_reducible refine gate_callee (f := 98) rfl ?_); refine Qj (some 77) Tryd.func98 #[.int .i64 ((rd_T54 l0 x14_1).f1), .int .i64 0, .int .i64 (l0.length : Int)] ?_; (with_reducible refine (spec_l1In.calls ((rd_T54 l0 x14_1).f1) 0 (l0.length : Int) false _ A35.out).mono ?_); rintro e w' ⟨rfl, ⟨nd, rfl⟩⟩; refine ⟨_, rfl, ?_⟩))
              go_ret
              exact ⟨Qh, Qb HB.out⟩
            ·rw [if_neg c34] at H
             have c34b0 : (((rd_T54 l0 x14_1).f0) == 14) = false := beq_eq_false_iff_ne.mpr c34
             have c34b1 : (((rd_T54 l0 x14_1).f0) != 14) = true := bne_iff_ne.mpr c34
             replace H := Option.bind_eq_some_iff.mp H
             obtain ⟨t111, A450, H⟩ := H
             replace H : (if t111 = true then (if ((rd_T54 l0 x14_1).f1) = 0 then (if x6_6 = true then (spec_IsCode.l0 kj6 (l0.length : Int) l0 (l0.length : Int) (wrap64 (x14_1 + 1))) else (some false)) else (some false)) else (some false)) = some r := H
             have A45 := Ak A450
             clear A450
             by_cases c46 : t111 = true
             ·(try subst c46)
              have H1 : (if ((rd_T54 l0 x14_1).f1) = 0 then (if x6_6 = true then (spec_IsCode.l0 kj6 (l0.length : Int) l0 (l0.length : Int) (wrap64 (x14_1 + 1))) else (some false)) else (some false)) = some r := by rw [if_pos rfl] at H; exact H
              clear H
              have H := H1
              clear H1
              by_cases c47 : ((rd_T54 l0 x14_1).f1) = 0
              ·rw [if_pos c47] at H
               have c47b0 : (((rd_T54 l0 x14_1).f1) == 0) = true := beq_iff_eq.mpr c47
               have c47b1 : (((rd_T54 l0 x14_1).f1) != 0) = false := bne_eq_false_iff_eq.mpr c47
               clear c47
               by_cases c48 : x6_6 = true
               ·(try subst c48)
                have H1 : (spec_IsCode.l0 kj6 (l0.length : Int) l0 (l0.length : Int) (wrap64 (x14_1 + 1))) = some r := by rw [if_pos rfl] at H; exact H
                clear H
                have H := H1
                clear H1
                have H' := Ak H
                clear H
                obtain ⟨hcz49_0, hcz49_1, hcz49_2, hcz49_3, hfz49_0, hfz49_1, hfz49_2, hfz49_3⟩ := Qv4 BK104.out
                go_wp2_with (first | ((with_reducible refine gate_callee (f := 98) rfl ?_); refine Qj (some 30) Tryd.func98 #[.int .i64 ((rd_T54 l0 x14_1).f0), .int .i64 1, .int .i64 15] ?_; (with_reducible refine (spec_l1In.calls ((rd_T54 l0 x14_1).f0) 1 15 true _ A45.out).mono ?_); rintro e w' ⟨rfl, ⟨nd, rfl⟩⟩; refine ⟨_, rfl, ?_⟩))
                go_roundg kj6
                case measure => have := HK1.out; have := HJ6.out; omega
                case rel => exact ⟨(wrap64 (x14_1 + 1)), Qi, H', ⟨by have := HK1.out; have := HJ6.out; omega⟩, ⟨Qb HB.out⟩⟩
               ·replace c48 := Bool.eq_false_iff.mpr c48
                (try subst c48)
                have H1 : (some false) = some r := by rw [if_neg (show ¬ (false = true) by decide)] at H; exact H
                clear H
                have H := H1
                clear H1
                obtain rfl := Option.some.inj H
                obtain ⟨hcz50_0, hcz50_1, hcz50_2, hcz50_3, hfz50_0, hfz50_1, hfz50_2, hfz50_3⟩ := Qv4 BK104.out
                go_wp2_with (first | ((with_reducible refine gate_callee (f := 98) rfl ?_); refine Qj (some 30) Tryd.func98 #[.int .i64 ((rd_T54 l0 x14_1).f0), .int .i64 1, .int .i64 15] ?_; (with_reducible refine (spec_l1In.calls ((rd_T54 l0 x14_1).f0) 1 15 true _ A45.out).mono ?_); rintro e w' ⟨rfl, ⟨nd, rfl⟩⟩; refine ⟨_, rfl, ?_⟩))
                go_ret
                exact ⟨Qh, Qb HB.out⟩
              ·rw [if_neg c47] at H
               have c47b0 : (((rd_T54 l0 x14_1).f1) == 0) = false := beq_eq_false_iff_ne.mpr c47
               have c47b1 : (((rd_T54 l0 x14_1).f1) != 0) = true := bne_iff_ne.mpr c47
               obtain rfl := Option.some.inj H
               obtain ⟨hcz51_0, hcz51_1, hcz51_2, hcz51_3, hfz51_0, hfz51_1, hfz51_2, hfz51_3⟩ := Qv4 BK104.out
               go_wp2_with (first | ((with_reducible refine gate_callee (f := 98) rfl ?_); refine Qj (some 30) Tryd.func98 #[.int .i64 ((rd_T54 l0 x14_1).f0), .int .i64 1, .int .i64 15] ?_; (with_reducible refine (spec_l1In.calls ((rd_T54 l0 x14_1).f0) 1 15 true _ A45.out).mono ?_); rintro e w' ⟨rfl, ⟨nd, rfl⟩⟩; refine ⟨_, rfl, ?_⟩))
               go_ret
               exact ⟨Qh, Qb HB.out⟩
             ·replace c46 := Bool.eq_false_iff.mpr c46
              (try subst c46)
              have H1 : (some false) = some r := by rw [if_neg (show ¬ (false = true) by decide)] at H; exact H
              clear H
              have H := H1
              clear H1
              obtain rfl := Option.some.inj H
              obtain ⟨hcz52_0, hcz52_1, hcz52_2, hcz52_3, hfz52_0, hfz52_1, hfz52_2, hfz52_3⟩ := Qv4 BK104.out
              go_wp2_with (first | ((with_reducible refine gate_callee (f := 98) rfl ?_); refine Qj (some 30) Tryd.func98 #[.int .i64 ((rd_T54 l0 x14_1).f0), .int .i64 1, .int .i64 15] ?_; (with_reducible refine (spec_l1In.calls ((rd_T54 l0 x14_1).f0) 1 15 false _ A45.out).mono ?_); rintro e w' ⟨rfl, ⟨nd, rfl⟩⟩; refine ⟨_, rfl, ?_⟩))
              go_ret
              exact ⟨Qh, Qb HB.out⟩
      ·rw [if_neg c6] at H
       exact absurd H (by simp)
     ·rw [if_neg c5] at H
      exact absurd H (by simp)
    ·rw [if_neg c4] at H
     have c4b0 : decide (x14_1 < (l0.length : Int)) = false := decide_eq_false c4
     clear c4
     obtain rfl := Option.some.inj H
     go_wp2
     go_ret
     exact ⟨Qh, Qb HB.out⟩
 ·replace c3 := Bool.eq_false_iff.mpr c3
  (try subst c3)
  have H1 : (some false) = some r := by rw [if_neg (show ¬ (false = true) by decide)] at H; exact H
  clear H
  have H := H1
  clear H1
  obtain rfl := Option.some.inj H
  go_enter Tryd.func57, Tryd.ntmps57
  go_wp2_with (first | ((with_reducible refine gate_callee (f := 98) rfl ?_); refine Qj (some 10) Tryd.func98 #[.int .i64 (l0.length : Int), .int .i64 1, .int .i64 80] ?_; (with_reducible refine (spec_l1In.calls (l0.length : Int) 1 80 false _ A2.out).mono ?_); rintro e w' ⟨rfl, ⟨nd, rfl⟩⟩; refine ⟨_, rfl, ?_⟩))
  go_ret
  exact ⟨Qh, Qb HB.out⟩

/-! ### spec_l7Names: function 100 -/
def spec_l7Names.f  : Option (List ByteArray) := some (([(⟨#[]⟩ : ByteArray), (⟨#[112, 117, 115, 104]⟩ : ByteArray), (⟨#[97, 100, 100]⟩ : ByteArray), (⟨#[115, 117, 98]⟩ : ByteArray), (⟨#[109, 117, 108]⟩ : ByteArray), (⟨#[110, 101, 103, 97, 116, 101]⟩ : ByteArray), (⟨#[115, 105, 103, 110]⟩ : ByteArray), (⟨#[99, 111, 112, 121]⟩ : ByteArray), (⟨#[115, 119, 97, 112]⟩ : ByteArray), (⟨#[100, 114, 111, 112]⟩ : ByteArray), (⟨#[115, 104, 105, 102, 116]⟩ : ByteArray), (⟨#[108, 111, 97, 100]⟩ : ByteArray), (⟨#[115, 116, 111, 114, 101]⟩ : ByteArray), (⟨#[106, 117, 109, 112]⟩ : ByteArray), (⟨#[98, 114, 97, 110, 99, 104]⟩ : ByteArray), (⟨#[104, 97, 108, 116]⟩ : ByteArray)] : List ByteArray))
theorem spec_l7Names.calls  (r : List ByteArray) (w : World) (h : spec_l7Names.f  = some r) :
  Calls Tryd.prog 100 #[] w fun e w' => ∃ v0_ : Value, e = .returned (v0_) ∧ Kd.R Kd.string 9 w' w.heap.size (fun _ => True) v0_ r ∧ Below w.heap.size w w' := by
 have HB := Ak (Below.refl w.heap.size w)
 have H : (some (([(⟨#[]⟩ : ByteArray), (⟨#[112, 117, 115, 104]⟩ : ByteArray), (⟨#[97, 100, 100]⟩ : ByteArray), (⟨#[115, 117, 98]⟩ : ByteArray), (⟨#[109, 117, 108]⟩ : ByteArray), (⟨#[110, 101, 103, 97, 116, 101]⟩ : ByteArray), (⟨#[115, 105, 103, 110]⟩ : ByteArray), (⟨#[99, 111, 112, 121]⟩ : ByteArray), (⟨#[115, 119, 97, 112]⟩ : ByteArray), (⟨#[100, 114, 111, 112]⟩ : ByteArray), (⟨#[115, 104, 105, 102, 116]⟩ : ByteArray), (⟨#[108, 111, 97, 100]⟩ : ByteArray), (⟨#[115, 116, 111, 114, 101]⟩ : ByteArray), (⟨#[106, 117, 109, 112]⟩ : ByteArray), (⟨#[98, 114, 97, 110, 99, 104]⟩ : ByteArray), (⟨#[104, 97, 108, 116]⟩ : ByteArray)] : List ByteArray))) = some r := h
 clear h
 obtain ⟨y112, hy112⟩ : ∃ y_ : List ByteArray, y_ = (([(⟨#[]⟩ : ByteArray), (⟨#[112, 117, 115, 104]⟩ : ByteArray), (⟨#[97, 100, 100]⟩ : ByteArray), (⟨#[115, 117, 98]⟩ : ByteArray), (⟨#[109, 117, 108]⟩ : ByteArray), (⟨#[110, 101, 103, 97, 116, 101]⟩ : ByteArray), (⟨#[115, 105, 103, 110]⟩ : ByteArray), (⟨#[99, 111, 112, 121]⟩ : ByteArray), (⟨#[115, 119, 97, 112]⟩ : ByteArray), (⟨#[100, 114, 111, 112]⟩ : ByteArray), (⟨#[115, 104, 105, 102, 116]⟩ : ByteArray), (⟨#[108, 111, 97, 100]⟩ : ByteArray), (⟨#[115, 116, 111, 114, 101]⟩ : ByteArray), (⟨#[106, 117, 109, 112]⟩ : ByteArray), (⟨#[98, 114, 97, 110, 99, 104]⟩ : ByteArray), (⟨#[104, 97, 108, 116]⟩ : ByteArray)] : List ByteArray)) := ⟨_, rfl⟩
 replace H : (some y112) = some r := by first | (rw [hy112]; with_reducible exact H) | (have H2_ := (Option.bind_some _ _).symm.trans H; rw [hy112]; with_reducible exact H2_) | (have H2_ := (Option.bind_some _ _).symm.trans H; with_reducible exact H2_) | with_reducible exact H | (rw [hy112]; exact H) | exact H
 have Ny112 := Ak hy112
 clear hy112
 obtain rfl := Option.some.inj H
 go_enter Tryd.func100, Tryd.ntmps100
 go_wp2_with (first | ((with_reducible refine gate_dst (N := 1) rfl ?_); refine Kd.R_lit Kd.string _ 9 ?hg (N := 1) ?hd (xs := ([(⟨#[]⟩ : ByteArray), (⟨#[112, 117, 115, 104]⟩ : ByteArray), (⟨#[97, 100, 100]⟩ : ByteArray), (⟨#[115, 117, 98]⟩ : ByteArray), (⟨#[109, 117, 108]⟩ : ByteArray), (⟨#[110, 101, 103, 97, 116, 101]⟩ : ByteArray), (⟨#[115, 105, 103, 110]⟩ : ByteArray), (⟨#[99, 111, 112, 121]⟩ : ByteArray), (⟨#[115, 119, 97, 112]⟩ : ByteArray), (⟨#[100, 114, 111, 112]⟩ : ByteArray), (⟨#[115, 104, 105, 102, 116]⟩ : ByteArray), (⟨#[108, 111, 97, 100]⟩ : ByteArray), (⟨#[115, 116, 111, 114, 101]⟩ : ByteArray), (⟨#[106, 117, 109, 112]⟩ : ByteArray), (⟨#[98, 114, 97, 110, 99, 104]⟩ : ByteArray), (⟨#[104, 97, 108, 116]⟩ : ByteArray)] : List ByteArray)) (inner := [.string (⟨#[]⟩ : ByteArray), .string (⟨#[112, 117, 115, 104]⟩ : ByteArray), .string (⟨#[97, 100, 100]⟩ : ByteArray), .string (⟨#[115, 117, 98]⟩ : ByteArray), .string (⟨#[109, 117, 108]⟩ : ByteArray), .string (⟨#[110, 101, 103, 97, 116, 101]⟩ : ByteArray), .string (⟨#[115, 105, 103, 110]⟩ : ByteArray), .string (⟨#[99, 111, 112, 121]⟩ : ByteArray), .string (⟨#[115, 119, 97, 112]⟩ : ByteArray), .string (⟨#[100, 114, 111, 112]⟩ : ByteArray), .string (⟨#[115, 104, 105, 102, 116]⟩ : ByteArray), .string (⟨#[108, 111, 97, 100]⟩ : ByteArray), .string (⟨#[115, 116, 111, 114, 101]⟩ : ByteArray), .string (⟨#[106, 117, 109, 112]⟩ : ByteArray), .string (⟨#[98, 114, 97, 110, 99, 104]⟩ : ByteArray), .string (⟨#[104, 97, 108, 116]⟩ : ByteArray)]) (ok := fun _ => True) (okp := fun _ => True) ?hr ?hp (fun _ hk => hk) trivial (Below.refl _ _) (Nat.le_refl _) (by simp) ?_; (case hd => rfl); (case hg => rfl); (case hr => first | (go_simp; done) | (go_simp; rfl)); (case hp => exact (Reps.one (show Kd.M Kd.string _ _ _ (⟨#[]⟩ : ByteArray) [.string (⟨#[]⟩ : ByteArray)] from rfl) (Reps.one (show Kd.M Kd.string _ _ _ (⟨#[112, 117, 115, 104]⟩ : ByteArray) [.string (⟨#[112, 117, 115, 104]⟩ : ByteArray)] from rfl) (Reps.one (show Kd.M Kd.string _ _ _ (⟨#[97, 100, 100]⟩ : ByteArray) [.string (⟨#[97, 100, 100]⟩ : ByteArray)] from rfl) (Reps.one (show Kd.M Kd.string _ _ _ (⟨#[115, 117, 98]⟩ : ByteArray) [.string (⟨#[115, 117, 98]⟩ : ByteArray)] from rfl) (Reps.one (show Kd.M Kd.string _ _ _ (⟨#[109, 117, 108]⟩ : ByteArray) [.string (⟨#[109, 117, 108]⟩ : ByteArray)] from rfl) (Reps.one (show Kd.M Kd.string _ _ _ (⟨#[110, 101, 103, 97, 116, 101]⟩ : ByteArray) [.string (⟨#[110, 101, 103, 97, 116, 101]⟩ : ByteArray)] from rfl) (Reps.one (show Kd.M Kd.string _ _ _ (⟨#[115, 105, 103, 110]⟩ : ByteArray) [.string (⟨#[115, 105, 103, 110]⟩ : ByteArray)] from rfl) (Reps.one (show Kd.M Kd.string _ _ _ (⟨#[99, 111, 112, 121]⟩ : ByteArray) [.string (⟨#[99, 111, 112, 121]⟩ : ByteArray)] from rfl) (Reps.one (show Kd.M Kd.string _ _ _ (⟨#[115, 119, 97, 112]⟩ : ByteArray) [.string (⟨#[115, 119, 97, 112]⟩ : ByteArray)] from rfl) (Reps.one (show Kd.M Kd.string _ _ _ (⟨#[100, 114, 111, 112]⟩ : ByteArray) [.string (⟨#[100, 114, 111, 112]⟩ : ByteArray)] from rfl) (Reps.one (show Kd.M Kd.string _ _ _ (⟨#[115, 104, 105, 102, 116]⟩ : ByteArray) [.string (⟨#[115, 104, 105, 102, 116]⟩ : ByteArray)] from rfl) (Reps.one (show Kd.M Kd.string _ _ _ (⟨#[108, 111, 97, 100]⟩ : ByteArray) [.string (⟨#[108, 111, 97, 100]⟩ : ByteArray)] from rfl) (Reps.one (show Kd.M Kd.string _ _ _ (⟨#[115, 116, 111, 114, 101]⟩ : ByteArray) [.string (⟨#[115, 116, 111, 114, 101]⟩ : ByteArray)] from rfl) (Reps.one (show Kd.M Kd.string _ _ _ (⟨#[106, 117, 109, 112]⟩ : ByteArray) [.string (⟨#[106, 117, 109, 112]⟩ : ByteArray)] from rfl) (Reps.one (show Kd.M Kd.string _ _ _ (⟨#[98, 114, 97, 110, 99, 104]⟩ : ByteArray) [.string (⟨#[98, 114, 97, 110, 99, 104]⟩ : ByteArray)] from rfl) (Reps.one (show Kd.M Kd.string _ _ _ (⟨#[104, 97, 108, 116]⟩ : ByteArray) [.string (⟨#[104, 97, 108, 116]⟩ : ByteArray)] from rfl) (Reps.none _ _)))))))))))))))))); intro v113 w1 ho2 hb hg_ hnew_; clear hg_ hnew_; (first | rw [← Ny112.out] at ho2 | (simp only [Int.reduceToNat] at ho2; rw [← Ny112.out] at ho2)); have n0_ := Ak (Kd.R_lower ho2 (below_size (Qb HB.out))); have n1_ := Ak (below_step (Qb HB.out) hb); clear HB; have HO114 := n0_; have HB := n1_; clear n0_ n1_; clear hb ho2))
 go_ret
 exact ⟨_, Qh, by refine Qf ?_; exact HO114.out, Qb HB.out⟩

/-! ### spec_OpName: function 58 -/
def spec_OpName.f (a0 : Int) : Option (ByteArray) := (spec_l1In.f a0 1 15).bind fun t115 => (if t115 = true then ((spec_l7Names.f).bind fun t116 => (if 0 ≤ a0 then (if a0 < (t116.length : Int) then (some (rdOf ByteArray.empty t116 a0)) else (none)) else (none))) else (some (⟨#[]⟩ : ByteArray)))
theorem spec_OpName.calls (a0 : Int) (r : ByteArray) (w : World) (h : spec_OpName.f a0 = some r) :
  Calls Tryd.prog 58 #[.int .i64 a0] w fun e w' => e = .returned (.string r) ∧ Below w.heap.size w w' := by
 have HB := Ak (Below.refl w.heap.size w)
 have H : ((spec_l1In.f a0 1 15).bind fun t115 => (if t115 = true then ((spec_l7Names.f).bind fun t116 => (if 0 ≤ a0 then (if a0 < (t116.length : Int) then (some (rdOf ByteArray.empty t116 a0)) else (none)) else (none))) else (some (⟨#[]⟩ : ByteArray)))) = some r := h
 clear h
 replace H := Option.bind_eq_some_iff.mp H
 obtain ⟨t115, A20, H⟩ := H
 replace H : (if t115 = true then ((spec_l7Names.f).bind fun t116 => (if 0 ≤ a0 then (if a0 < (t116.length : Int) then (some (rdOf ByteArray.empty t116 a0)) else (none)) else (none))) else (some (⟨#[]⟩ : ByteArray))) = some r := H
 have A2 := Ak A20
 clear A20
 by_cases c3 : t115 = true
 ·(try subst c3)
  have H1 : ((spec_l7Names.f).bind fun t116 => (if 0 ≤ a0 then (if a0 < (t116.length : Int) then (some (rdOf ByteArray.empty t116 a0)) else (none)) else (none))) = some r := by rw [if_pos rfl] at H; exact H
  clear H
  have H := H1
  clear H1
  replace H := Option.bind_eq_some_iff.mp H
  obtain ⟨t116, A40, H⟩ := H
  replace H : (if 0 ≤ a0 then (if a0 < (t116.length : Int) then (some (rdOf ByteArray.empty t116 a0)) else (none)) else (none)) = some r := H
  have A4 := Ak A40
  clear A40
  by_cases c5 : 0 ≤ a0
  ·rw [if_pos c5] at H
   have c5b0 : decide (0 ≤ a0) = true := decide_eq_true c5
   clear c5
   by_cases c6 : a0 < (t116.length : Int)
   ·rw [if_pos c6] at H
    have c6b0 : decide (a0 < (t116.length : Int)) = true := decide_eq_true c6
    clear c6
    obtain rfl := Option.some.inj H
    go_enter Tryd.func58, Tryd.ntmps58
    go_wp2_with (first | ((with_reducible refine gate_callee (f := 98) rfl ?_); refine Qj (some 4) Tryd.func98 #[.int .i64 a0, .int .i64 1, .int .i64 15] ?_; (with_reducible refine (spec_l1In.calls a0 1 15 true _ A2.out).mono ?_); rintro e w' ⟨rfl, ⟨nd, rfl⟩⟩; refine ⟨_, rfl, ?_⟩) | ((with_reducible refine gate_callee (f := 100) rfl ?_); refine Qj (some 6) Tryd.func100 #[] ?_; (with_reducible refine (spec_l7Names.calls  t116 _ A4.out).mono ?_); rintro e w7 ⟨v117, rfl, ho0, hb⟩; refine ⟨_, rfl, ?_⟩; have n0_ := Ak (Kd.R_lower ho0 (below_size (Qb HB.out))); have n1_ := Ak (below_step (Qb HB.out) hb); clear HB; have HO118 := n0_; have HB := n1_; clear n0_ n1_; (try clear hb); (try clear hb2); (try clear hk); (try clear hi); (try clear ho0); obtain ⟨Ao8, co8, eo8⟩ := Kd.R_slice HO118.out; subst eo8; have p119 : 0 ≤ (a0 : Int) := Qg; have q119 : a0 < (t116.length : Int) := Qg; obtain ⟨ad119, e119, hx119_0⟩ := Kd.at_string (Kd.R_reads' HO118.out).2.2 a0 p119 q119; cases e119; replace p119 := eq_true p119; replace q119 := eq_true q119))
    go_ret
    exact ⟨Qh, Qb HB.out⟩
   ·rw [if_neg c6] at H
    exact absurd H (by simp)
  ·rw [if_neg c5] at H
   exact absurd H (by simp)
 ·replace c3 := Bool.eq_false_iff.mpr c3
  (try subst c3)
  have H1 : (some (⟨#[]⟩ : ByteArray)) = some r := by rw [if_neg (show ¬ (false = true) by decide)] at H; exact H
  clear H
  have H := H1
  clear H1
  obtain rfl := Option.some.inj H
  go_enter Tryd.func58, Tryd.ntmps58
  go_wp2_with (first | ((with_reducible refine gate_callee (f := 98) rfl ?_); refine Qj (some 4) Tryd.func98 #[.int .i64 a0, .int .i64 1, .int .i64 15] ?_; (with_reducible refine (spec_l1In.calls a0 1 15 false _ A2.out).mono ?_); rintro e w' ⟨rfl, ⟨nd, rfl⟩⟩; refine ⟨_, rfl, ?_⟩))
  go_ret
  exact ⟨Qh, Qb HB.out⟩

/-! ### spec_IsTrit: function 133 -/
def spec_IsTrit.f (a0 : Int) : Option (Bool) := (spec_l1In.f a0 (-1) 1).bind fun t120 => (some t120)
theorem spec_IsTrit.calls (a0 : Int) (r : Bool) (w : World) (h : spec_IsTrit.f a0 = some r) :
  Calls Tryd.prog 133 #[.int .i64 a0] w fun e w' => e = .returned (.bool r) ∧ Drawn0 w w' := by
 have H : ((spec_l1In.f a0 (-1) 1).bind fun t120 => (some t120)) = some r := h
 clear h
 replace H := Option.bind_eq_some_iff.mp H
 obtain ⟨t120, A20, H⟩ := H
 replace H : (some t120) = some r := H
 have A2 := Ak A20
 clear A20
 obtain rfl := Option.some.inj H
 go_enter Tryd.func133, Tryd.ntmps133
 go_wp2_with (first | ((with_reducible refine gate_callee (f := 98) rfl ?_); refine Qj (some 4) Tryd.func98 #[.int .i64 a0, .int .i64 (-1), .int .i64 1] ?_; (with_reducible refine (spec_l1In.calls a0 (-1) 1 t120 _ A2.out).mono ?_); rintro e w' ⟨rfl, ⟨nd, rfl⟩⟩; refine ⟨_, rfl, ?_⟩))
 go_ret
 exact ⟨Qi, Ql⟩

end Go.Proofs.YtjfgcipbbcplmaaDoor.HFnExactFormatCode

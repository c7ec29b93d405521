/- Text for FnExactRunMachine: written by a program of this session on the pattern of the kit's print. -/
import Derived.Test.YtlmiankjbffboaaHFnExactRunMachinex0
import Derived.Test.YtlmiankjbffboaaHFnExactRunMachinex2
import Derived.Test.YtlmiankjbffboaaHFnExactRunMachinex3
namespace Go.Proofs.Ytlmiankjbffboaa.HFnExactRunMachine
set_option maxHeartbeats 8000000
set_option maxRecDepth 100000
open Go.RowKit Go.Proofs.YtlmiankjbffboaaW.PrintWords Go.Proofs.YtlmiankjbffboaaW.PrintLast Go.Proofs.YtlmiankjbffboaaW.PrintMore
attribute [local go_sem] max2_int min2_int max_two min_two max_three min_three max_four min_four
set_option linter.unusedVariables false
set_option linter.unusedSimpArgs false

/-! ### spec_IsMachine: function 24 -/
mutual
def spec_IsMachine.l0 : Nat → List (S48) → List Int → Int → Int → Int → List Int → List Int → Option (Bool)
 | 0, _, _, _, _, _, _, _ => none
 | k + 1, x0, x10, x11, x12, x167000, x167001, x167002 => if x12 < x11 then (if 0 ≤ x12 then (if x12 < (x10.length : Int) then ((spec_l7Cell.f (rd x10 x12)).bind fun t168 => (if t168 = true then (spec_IsMachine.l0 k x0 x10 x11 (wrap64 (x12 + 1)) x167000 x167001 x167002) else (some false))) else (none)) else (none)) else (spec_IsMachine.l1 k x0 x167002 (x167002.length : Int) 0 x167000 x167001 x167002)
def spec_IsMachine.l1 : Nat → List (S48) → List Int → Int → Int → Int → List Int → List Int → Option (Bool)
 | 0, _, _, _, _, _, _, _ => none
 | k + 1, x0, x21, x22, x23, x167000, x167001, x167002 => if x23 < x22 then (if 0 ≤ x23 then (if x23 < (x21.length : Int) then ((spec_l7Cell.f (rd x21 x23)).bind fun t170 => (if t170 = true then (spec_IsMachine.l1 k x0 x21 x22 (wrap64 (x23 + 1)) x167000 x167001 x167002) else (some false))) else (none)) else (none)) else ((spec_IsCode.f k x0).bind fun t171 => (if t171 = true then ((spec_l1In.f x167000 0 (x0.length : Int)).bind fun t172 => (if t172 = true then (if (x167001.length : Int) ≤ 20 then (some ((x167002.length : Int) == 27)) else (some false)) else (some false))) else (some false)))
end
def spec_IsMachine.f (k : Nat) (l0 : List (S48)) (a1_0 : Int) (l1_1 : List Int) (l1_2 : List Int) : Option (Bool) := spec_IsMachine.l0 k l0 l1_1 (l1_1.length : Int) 0 a1_0 l1_1 l1_2
theorem spec_IsMachine.mono_l : ∀ k, (∀ y0 y1 y2 y3 y4 y5 y6, LeO (spec_IsMachine.l0 k y0 y1 y2 y3 y4 y5 y6) (spec_IsMachine.l0 (k + 1) y0 y1 y2 y3 y4 y5 y6)) ∧ (∀ y0 y1 y2 y3 y4 y5 y6, LeO (spec_IsMachine.l1 k y0 y1 y2 y3 y4 y5 y6) (spec_IsMachine.l1 (k + 1) y0 y1 y2 y3 y4 y5 y6))
 | 0 => ⟨fun _ _ _ _ _ _ _ r h => by simp [spec_IsMachine.l0] at h, fun _ _ _ _ _ _ _ r h => by simp [spec_IsMachine.l1] at h⟩
 | k + 1 => by
  obtain ⟨ih0, ih1⟩ := spec_IsMachine.mono_l k
  refine ⟨?_, ?_⟩
  ·intro y0 y1 y2 y3 y4 y5 y6
   unfold spec_IsMachine.l0
   repeat' first
   | (with_reducible exact ih0 _ _ _ _ _ _ _)
   | (with_reducible exact ih1 _ _ _ _ _ _ _)
   | (with_reducible exact spec_IsCode.mono _ _)
   | (with_reducible exact LeO.refl _)
   | (with_reducible exact LeO.none _)
   | (with_reducible refine LeO.ite ?_ ?_)
   | (with_reducible refine LeO.bind ?_ (fun _ => ?_))
   | exact ih0 _ _ _ _ _ _ _
   | exact ih1 _ _ _ _ _ _ _
   | exact spec_IsCode.mono _ _
   | exact LeO.none _
   | refine LeO.ite ?_ ?_
   | refine LeO.bind ?_ (fun _ => ?_)
  ·intro y0 y1 y2 y3 y4 y5 y6
   unfold spec_IsMachine.l1
   repeat' first
   | (with_reducible exact ih0 _ _ _ _ _ _ _)
   | (with_reducible exact ih1 _ _ _ _ _ _ _)
   | (with_reducible exact spec_IsCode.mono _ _)
   | (with_reducible exact LeO.refl _)
   | (with_reducible exact LeO.none _)
   | (with_reducible refine LeO.ite ?_ ?_)
   | (with_reducible refine LeO.bind ?_ (fun _ => ?_))
   | exact ih0 _ _ _ _ _ _ _
   | exact ih1 _ _ _ _ _ _ _
   | exact spec_IsCode.mono _ _
   | exact LeO.none _
   | refine LeO.ite ?_ ?_
   | refine LeO.bind ?_ (fun _ => ?_)
theorem spec_IsMachine.mono : ∀ a0 a1 a2 a3 k, LeO (spec_IsMachine.f k a0 a1 a2 a3) (spec_IsMachine.f (k + 1) a0 a1 a2 a3) := by
 intro a0 a1 a2 a3 k
 obtain ⟨ih0, ih1⟩ := spec_IsMachine.mono_l k
 unfold spec_IsMachine.f
 repeat' first
   | (with_reducible exact ih0 _ _ _ _ _ _ _)
   | (with_reducible exact ih1 _ _ _ _ _ _ _)
   | (with_reducible exact spec_IsCode.mono _ _)
   | (with_reducible exact LeO.refl _)
   | (with_reducible exact LeO.none _)
   | (with_reducible refine LeO.ite ?_ ?_)
   | (with_reducible refine LeO.bind ?_ (fun _ => ?_))
   | exact ih0 _ _ _ _ _ _ _
   | exact ih1 _ _ _ _ _ _ _
   | exact spec_IsCode.mono _ _
   | exact LeO.none _
   | refine LeO.ite ?_ ?_
   | refine LeO.bind ?_ (fun _ => ?_)
theorem spec_IsMachine.calls (k : Nat) (A0 : Option Addr) (c0 : Nat) (l0 : List (S48)) (a1_0 : Int) (A1_1 : Option Addr) (c1_1 : Nat) (l1_1 : List Int) (A1_2 : Option Addr) (c1_2 : Nat) (l1_2 : List Int) (r : Bool) (w : World) (hr0 : Kd.C k48 w A0 l0.length l0) (hc0 : l0.length ≤ c0) (hr1_1 : Kd.C (Kd.int .i64) w A1_1 l1_1.length l1_1) (hc1_1 : l1_1.length ≤ c1_1) (hr1_2 : Kd.C (Kd.int .i64) w A1_2 l1_2.length l1_2) (hc1_2 : l1_2.length ≤ c1_2) (h : spec_IsMachine.f k l0 a1_0 l1_1 l1_2 = some r) :
  Calls Try.prog 24 #[.slice A0 l0.length c0, .agg #[.int .i64 a1_0, .slice A1_1 l1_1.length c1_1, .slice A1_2 l1_2.length c1_2]] w fun e w' => e = .returned (.bool r) ∧ Below w.heap.size w w' := by
 have hu28 := Try.underlying28
 have HR0 := Ak hr0
 have HC0 := Ak hc0
 clear hr0 hc0
 have HR1_1 := Ak hr1_1
 have HC1_1 := Ak hc1_1
 clear hr1_1 hc1_1
 have HR1_2 := Ak hr1_2
 have HC1_2 := Ak hc1_2
 clear hr1_2 hc1_2
 have HB := Ak (Below.refl w.heap.size w)
 have H : (spec_IsMachine.l0 k l0 l1_1 (l1_1.length : Int) 0 a1_0 l1_1 l1_2) = some r := h
 clear h
 have H' := Ak H
 clear H
 go_enter Try.func24, Try.ntmps24
 go_wp2_with (first | ((with_reducible refine gate_dst (N := 3) rfl ?_); (try (refine gate_guard (by rfl) ?_; dsimp only)); refine Qk 3 #[.int .i64 a1_0, .slice A1_1 l1_1.length c1_1, .slice A1_2 l1_2.length c1_2] 28 ?_; intro gb166 hg w3 hbox hb; have n0_ := Ak (below_step (Qb HB.out) hb); have n1_ := Ak (hbox); have n2_ := Ak ((Qp hg HB.out : w.heap.size ≤ gb166)); have n3_ := Ak ((Qp hg HB.out : w.heap.size ≤ gb166)); clear HB; have HB := n0_; have BK166 := n1_; have GW166 := n2_; have GE166 := n3_; clear n0_ n1_ n2_ n3_; clear hb hbox hg; obtain ⟨hcz4_0, hcz4_1, hcz4_2⟩ := Qu3 BK166.out; have hfz4_0 := blk_frozen BK166.out 0; have hfz4_1 := blk_frozen BK166.out 1; have hfz4_2 := blk_frozen BK166.out 2))
 go_loopg [12] k (fun kq v12 w' => ∃ (x12_1 : Int), v12 = .int .i64 x12_1 ∧ Aside0 (spec_IsMachine.l0 kq l0 l1_1 (l1_1.length : Int) x12_1 a1_0 l1_1 l1_2 = some r) ∧ Aside0 (kq ≤ k) ∧ Aside0 (w'.heap[gb166]? = some (.cells #[.int .i64 a1_0, (.slice A1_1 l1_1.length c1_1), (.slice A1_2 l1_2.length c1_2)] 28 (0, 0))) ∧ Aside0 (Below w.heap.size w w'))
 case atStart => exact ⟨(0), Qi, H', ⟨Nat.le_refl _⟩, ⟨by refine Qe ?_; exact BK166.out⟩, ⟨Qb HB.out⟩⟩
 case round =>
  clear H'
  (try clear c1); (try clear c2); (try clear p2); (try clear hcz4_0); (try clear hcz4_1); (try clear hcz4_2); (try clear hfz4_0); (try clear hfz4_1); (try clear hfz4_2)
  obtain ⟨x12_1, rfl, HA, HK1, BK166, HB⟩ := hrel
  cases gk with
  | zero => exact absurd HA.out (by simp [spec_IsMachine.l0])
  | succ k1 =>
   have H := HA.out
   clear HA
   simp only [spec_IsMachine.l0] at H
   by_cases c5 : x12_1 < (l1_1.length : Int)
   ·rw [if_pos c5] at H
    have c5b0 : decide (x12_1 < (l1_1.length : Int)) = true := decide_eq_true c5
    clear c5
    by_cases c6 : 0 ≤ x12_1
    ·rw [if_pos c6] at H
     have c6b0 : decide (0 ≤ x12_1) = true := decide_eq_true c6
     clear c6
     by_cases c7 : x12_1 < (l1_1.length : Int)
     ·rw [if_pos c7] at H
      have c7b0 : decide (x12_1 < (l1_1.length : Int)) = true := decide_eq_true c7
      clear c7
      replace H := Option.bind_eq_some_iff.mp H
      obtain ⟨t168, A80, H⟩ := H
      replace H : (if t168 = true then (spec_IsMachine.l0 k1 l0 l1_1 (l1_1.length : Int) (wrap64 (x12_1 + 1)) a1_0 l1_1 l1_2) else (some false)) = some r := H
      have A8 := Ak A80
      clear A80
      by_cases c9 : t168 = true
      ·(try subst c9)
       have H1 : (spec_IsMachine.l0 k1 l0 l1_1 (l1_1.length : Int) (wrap64 (x12_1 + 1)) a1_0 l1_1 l1_2) = some r := by rw [if_pos rfl] at H; exact H
       clear H
       have H := H1
       clear H1
       have H' := Ak H
       clear H
       have p167 : 0 ≤ (x12_1 : Int) := Qg
       have q167 : x12_1 < (l1_1.length : Int) := Qg
       obtain ⟨ad167, e167, hx167_0⟩ := Kd.at_int HR1_1.out x12_1 p167 q167
       cases e167
       (try replace hx167_0 := (HB.out.cell (World.block_lt_of_cell? w _ hx167_0)).trans hx167_0)
       replace p167 := eq_true p167
       replace q167 := eq_true q167
       go_wp2_with (first | ((with_reducible refine gate_callee (f := 53) rfl ?_); refine Qj (some 17) Try.func53 #[.int .i64 (rd l1_1 x12_1)] ?_; (with_reducible refine (spec_l7Cell.calls (rd l1_1 x12_1) true _ A8.out).mono ?_); rintro e w' ⟨rfl, ⟨nd, rfl⟩⟩; refine ⟨_, rfl, ?_⟩))
       go_roundg k1
       case measure => have := HK1.out; omega
       case rel => exact ⟨(wrap64 (x12_1 + 1)), Qi, H', ⟨by have := HK1.out; omega⟩, ⟨by refine Qe ?_; exact BK166.out⟩, ⟨Qb HB.out⟩⟩
      ·replace c9 := Bool.eq_false_iff.mpr c9
       (try subst c9)
       have H1 : (some false) = some r := by rw [if_neg (show ¬ (false = true) by decide)] at H; exact H
       clear H
       have H := H1
       clear H1
       obtain rfl := Option.some.inj H
       have p167 : 0 ≤ (x12_1 : Int) := Qg
       have q167 : x12_1 < (l1_1.length : Int) := Qg
       obtain ⟨ad167, e167, hx167_0⟩ := Kd.at_int HR1_1.out x12_1 p167 q167
       cases e167
       (try replace hx167_0 := (HB.out.cell (World.block_lt_of_cell? w _ hx167_0)).trans hx167_0)
       replace p167 := eq_true p167
       replace q167 := eq_true q167
       go_wp2_with (first | ((with_reducible refine gate_callee (f := 53) rfl ?_); refine Qj (some 17) Try.func53 #[.int .i64 (rd l1_1 x12_1)] ?_; (with_reducible refine (spec_l7Cell.calls (rd l1_1 x12_1) false _ A8.out).mono ?_); rintro e w' ⟨rfl, ⟨nd, rfl⟩⟩; refine ⟨_, rfl, ?_⟩))
       go_ret
       exact ⟨Qh, Qb HB.out⟩
     ·rw [if_neg c7] at H
      exact absurd H (by simp)
    ·rw [if_neg c6] at H
     exact absurd H (by simp)
   ·rw [if_neg c5] at H
    have c5b0 : decide (x12_1 < (l1_1.length : Int)) = false := decide_eq_false c5
    clear c5
    have H' := Ak H
    clear H
    obtain ⟨hcz10_0, hcz10_1, hcz10_2, hfz10_0, hfz10_1, hfz10_2⟩ := Qv3 BK166.out
    go_wp2
    go_loopg [23] k1 (fun kq v23 w' => ∃ (x23_2 : Int), v23 = .int .i64 x23_2 ∧ Aside0 (spec_IsMachine.l1 kq l0 l1_2 (l1_2.length : Int) x23_2 a1_0 l1_1 l1_2 = some r) ∧ Aside0 (kq ≤ k1) ∧ Aside0 (w'.heap[gb166]? = some (.cells #[.int .i64 a1_0, (.slice A1_1 l1_1.length c1_1), (.slice A1_2 l1_2.length c1_2)] 28 (0, 0))) ∧ Aside0 (Below w.heap.size w w'))
    case atStart => exact ⟨(0), Qi, H', ⟨Nat.le_refl _⟩, ⟨by refine Qe ?_; exact BK166.out⟩, ⟨Qb HB.out⟩⟩
    case round =>
     clear H'
     (try clear c1); (try clear p1); (try clear q1); (try clear hx1); (try clear c2); (try clear p2); (try clear c5); (try clear c5b0); (try clear c6); (try clear c6b0); (try clear p6); (try clear c7); (try clear c7b0); (try clear c9); (try clear hcz10_0); (try clear hcz10_1); (try clear hcz10_2); (try clear hcz4_0); (try clear hcz4_1); (try clear hcz4_2); (try clear hfz10_0); (try clear hfz10_1); (try clear hfz10_2); (try clear hfz4_0); (try clear hfz4_1); (try clear hfz4_2); (try clear hx167_0); (try clear p167); (try clear p2); (try clear q167)
     obtain ⟨x23_2, rfl, HA, HK2, BK166, HB⟩ := hrel
     cases gk with
     | zero => exact absurd HA.out (by simp [spec_IsMachine.l1])
     | succ k2 =>
      have H := HA.out
      clear HA
      simp only [spec_IsMachine.l1] at H
      by_cases c11 : x23_2 < (l1_2.length : Int)
      ·rw [if_pos c11] at H
       have c11b0 : decide (x23_2 < (l1_2.length : Int)) = true := decide_eq_true c11
       clear c11
       by_cases c12 : 0 ≤ x23_2
       ·rw [if_pos c12] at H
        have c12b0 : decide (0 ≤ x23_2) = true := decide_eq_true c12
        clear c12
        by_cases c13 : x23_2 < (l1_2.length : Int)
        ·rw [if_pos c13] at H
         have c13b0 : decide (x23_2 < (l1_2.length : Int)) = true := decide_eq_true c13
         clear c13
         replace H := Option.bind_eq_some_iff.mp H
         obtain ⟨t170, A140, H⟩ := H
         replace H : (if t170 = true then (spec_IsMachine.l1 k2 l0 l1_2 (l1_2.length : Int) (wrap64 (x23_2 + 1)) a1_0 l1_1 l1_2) else (some false)) = some r := H
         have A14 := Ak A140
         clear A140
         by_cases c15 : t170 = true
         ·(try subst c15)
          have H1 : (spec_IsMachine.l1 k2 l0 l1_2 (l1_2.length : Int) (wrap64 (x23_2 + 1)) a1_0 l1_1 l1_2) = some r := by rw [if_pos rfl] at H; exact H
          clear H
          have H := H1
          clear H1
          have H' := Ak H
          clear H
          have p169 : 0 ≤ (x23_2 : Int) := Qg
          have q169 : x23_2 < (l1_2.length : Int) := Qg
          obtain ⟨ad169, e169, hx169_0⟩ := Kd.at_int HR1_2.out x23_2 p169 q169
          cases e169
          (try replace hx169_0 := (HB.out.cell (World.block_lt_of_cell? w _ hx169_0)).trans hx169_0)
          replace p169 := eq_true p169
          replace q169 := eq_true q169
          go_wp2_with (first | ((with_reducible refine gate_callee (f := 53) rfl ?_); refine Qj (some 28) Try.func53 #[.int .i64 (rd l1_2 x23_2)] ?_; (with_reducible refine (spec_l7Cell.calls (rd l1_2 x23_2) true _ A14.out).mono ?_); rintro e w' ⟨rfl, ⟨nd, rfl⟩⟩; refine ⟨_, rfl, ?_⟩))
          go_roundg k2
          case measure => have := HK1.out; have := HK2.out; omega
          case rel => exact ⟨(wrap64 (x23_2 + 1)), Qi, H', ⟨by have := HK1.out; have := HK2.out; omega⟩, ⟨by refine Qe ?_; exact BK166.out⟩, ⟨Qb HB.out⟩⟩
         ·replace c15 := Bool.eq_false_iff.mpr c15
          (try subst c15)
          have H1 : (some false) = some r := by rw [if_neg (show ¬ (false = true) by decide)] at H; exact H
          clear H
          have H := H1
          clear H1
          obtain rfl := Option.some.inj H
          have p169 : 0 ≤ (x23_2 : Int) := Qg
          have q169 : x23_2 < (l1_2.length : Int) := Qg
          obtain ⟨ad169, e169, hx169_0⟩ := Kd.at_int HR1_2.out x23_2 p169 q169
          cases e169
          (try replace hx169_0 := (HB.out.cell (World.block_lt_of_cell? w _ hx169_0)).trans hx169_0)
          replace p169 := eq_true p169
          replace q169 := eq_true q169
          go_wp2_with (first | ((with_reducible refine gate_callee (f := 53) rfl ?_); refine Qj (some 28) Try.func53 #[.int .i64 (rd l1_2 x23_2)] ?_; (with_reducible refine (spec_l7Cell.calls (rd l1_2 x23_2) false _ A14.out).mono ?_); rintro e w' ⟨rfl, ⟨nd, rfl⟩⟩; refine ⟨_, rfl, ?_⟩))
          go_ret
          exact ⟨Qh, Qb HB.out⟩
        ·rw [if_neg c13] at H
         exact absurd H (by simp)
       ·rw [if_neg c12] at H
        exact absurd H (by simp)
      ·rw [if_neg c11] at H
       have c11b0 : decide (x23_2 < (l1_2.length : Int)) = false := decide_eq_false c11
       clear c11
       replace H := Option.bind_eq_some_iff.mp H
       obtain ⟨t171, A160, H⟩ := H
       replace H : (if t171 = true then ((spec_l1In.f a1_0 0 (l0.length : Int)).bind fun t172 => (if t172 = true then (if (l1_1.length : Int) ≤ 20 then (some ((l1_2.length : Int) == 27)) else (some false)) else (some false))) else (some false)) = some r := H
       have A16 := Ak A160
       clear A160
       by_cases c17 : t171 = true
       ·(try subst c17)
        have H1 : ((spec_l1In.f a1_0 0 (l0.length : Int)).bind fun t172 => (if t172 = true then (if (l1_1.length : Int) ≤ 20 then (some ((l1_2.length : Int) == 27)) else (some false)) else (some false))) = some r := by rw [if_pos rfl] at H; exact H
        clear H
        have H := H1
        clear H1
        replace H := Option.bind_eq_some_iff.mp H
        obtain ⟨t172, A180, H⟩ := H
        replace H : (if t172 = true then (if (l1_1.length : Int) ≤ 20 then (some ((l1_2.length : Int) == 27)) else (some false)) else (some false)) = some r := H
        have A18 := Ak A180
        clear A180
        by_cases c19 : t172 = true
        ·(try subst c19)
         have H1 : (if (l1_1.length : Int) ≤ 20 then (some ((l1_2.length : Int) == 27)) else (some false)) = some r := by rw [if_pos rfl] at H; exact H
         clear H
         have H := H1
         clear H1
         by_cases c20 : (l1_1.length : Int) ≤ 20
         ·rw [if_pos c20] at H
          have c20b0 : decide ((l1_1.length : Int) ≤ 20) = true := decide_eq_true c20
          have c20b1 : decide (l1_1.length ≤ 20) = true := decide_eq_true (by omega)
          clear c20
          obtain rfl := Option.some.inj H
          go_wp2_with (first | ((with_reducible refine gate_callee (f := 32) rfl ?_); refine Qj (some 32) Try.func32 #[.slice A0 l0.length c0] ?_; (with_reducible refine (spec_IsCode.calls k2 _ _ l0 true _ ?side1 ?side2 A16.out).mono ?_); (case side1 => repeat (first | exact (Kd.C_below HR0.out HB.out) | (with_reducible refine Kd.C_alloc ?_ _) | (with_reducible refine Kd.C_drewN ?_ _) | (with_reducible refine Kd.C_drew ?_))); (case side2 => exact HC0.out); rintro e w21 ⟨rfl, hb⟩; refine ⟨_, rfl, ?_⟩; have n0_ := Ak (Qm BK166.out hb); have n1_ := Ak (below_step (Qb HB.out) hb); clear BK166 HB; have BK166 := n0_; have HB := n1_; clear n0_ n1_; (try clear hb); (try clear hb2); (try clear hk); (try clear hi); obtain ⟨hcz22_0, hcz22_1, hcz22_2⟩ := Qu3 BK166.out; have hfz22_0 := blk_frozen BK166.out 0; have hfz22_1 := blk_frozen BK166.out 1; have hfz22_2 := blk_frozen BK166.out 2) | (go_at_call 48; (with_reducible refine (spec_l1In.calls a1_0 0 (l0.length : Int) true _ A18.out).mono ?_); rintro e w' ⟨rfl, ⟨nd, rfl⟩⟩))
          go_ret
          exact ⟨Qh, Qb HB.out⟩
         ·rw [if_neg c20] at H
          have c20b0 : decide ((l1_1.length : Int) ≤ 20) = false := decide_eq_false c20
          have c20b1 : decide (l1_1.length ≤ 20) = false := decide_eq_false (by omega)
          clear c20
          obtain rfl := Option.some.inj H
          go_wp2_with (first | ((with_reducible refine gate_callee (f := 32) rfl ?_); refine Qj (some 32) Try.func32 #[.slice A0 l0.length c0] ?_; (with_reducible refine (spec_IsCode.calls k2 _ _ l0 true _ ?side1 ?side2 A16.out).mono ?_); (case side1 => repeat (first | exact (Kd.C_below HR0.out HB.out) | (with_reducible refine Kd.C_alloc ?_ _) | (with_reducible refine Kd.C_drewN ?_ _) | (with_reducible refine Kd.C_drew ?_))); (case side2 => exact HC0.out); rintro e w23 ⟨rfl, hb⟩; refine ⟨_, rfl, ?_⟩; have n0_ := Ak (Qm BK166.out hb); have n1_ := Ak (below_step (Qb HB.out) hb); clear BK166 HB; have BK166 := n0_; have HB := n1_; clear n0_ n1_; (try clear hb); (try clear hb2); (try clear hk); (try clear hi); obtain ⟨hcz24_0, hcz24_1, hcz24_2⟩ := Qu3 BK166.out; have hfz24_0 := blk_frozen BK166.out 0; have hfz24_1 := blk_frozen BK166.out 1; have hfz24_2 := blk_frozen BK166.out 2) | (go_at_call 48; (with_reducible refine (spec_l1In.calls a1_0 0 (l0.length : Int) true _ A18.out).mono ?_); rintro e w' ⟨rfl, ⟨nd, rfl⟩⟩))
          go_ret
          exact ⟨Qh, Qb HB.out⟩
        ·replace c19 := Bool.eq_false_iff.mpr c19
         (try subst c19)
         have H1 : (some false) = some r := by rw [if_neg (show ¬ (false = true) by decide)] at H; exact H
         clear H
         have H := H1
         clear H1
         obtain rfl := Option.some.inj H
         go_wp2_with (first | ((with_reducible refine gate_callee (f := 32) rfl ?_); refine Qj (some 32) Try.func32 #[.slice A0 l0.length c0] ?_; (with_reducible refine (spec_IsCode.calls k2 _ _ l0 true _ ?side1 ?side2 A16.out).mono ?_); (case side1 => repeat (first | exact (Kd.C_below HR0.out HB.out) | (with_reducible refine Kd.C_alloc ?_ _) | (with_reducible refine Kd.C_drewN ?_ _) | (with_reducible refine Kd.C_drew ?_))); (case side2 => exact HC0.out); rintro e w25 ⟨rfl, hb⟩; refine ⟨_, rfl, ?_⟩; have n0_ := Ak (Qm BK166.out hb); have n1_ := Ak (below_step (Qb HB.out) hb); clear BK166 HB; have BK166 := n0_; have HB := n1_; clear n0_ n1_; (try clear hb); (try clear hb2); (try clear hk); (try clear hi); obtain ⟨hcz26_0, hcz26_1, hcz26_2⟩ := Qu3 BK166.out; have hfz26_0 := blk_frozen BK166.out 0; have hfz26_1 := blk_frozen BK166.out 1; have hfz26_2 := blk_frozen BK166.out 2) | (go_at_call 48; (with_reducible refine (spec_l1In.calls a1_0 0 (l0.length : Int) false _ A18.out).mono ?_); rintro e w' ⟨rfl, ⟨nd, rfl⟩⟩))
         go_ret
         exact ⟨Qh, Qb HB.out⟩
       ·replace c17 := Bool.eq_false_iff.mpr c17
        (try subst c17)
        have H1 : (some false) = some r := by rw [if_neg (show ¬ (false = true) by decide)] at H; exact H
        clear H
        have H := H1
        clear H1
        obtain rfl := Option.some.inj H
        go_wp2_with (first | ((with_reducible refine gate_callee (f := 32) rfl ?_); refine Qj (some 32) Try.func32 #[.slice A0 l0.length c0] ?_; (with_reducible refine (spec_IsCode.calls k2 _ _ l0 false _ ?side1 ?side2 A16.out).mono ?_); (case side1 => repeat (first | exact (Kd.C_below HR0.out HB.out) | (with_reducible refine Kd.C_alloc ?_ _) | (with_reducible refine Kd.C_drewN ?_ _) | (with_reducible refine Kd.C_drew ?_))); (case side2 => exact HC0.out); rintro e w27 ⟨rfl, hb⟩; refine ⟨_, rfl, ?_⟩; have n0_ := Ak (Qm BK166.out hb); have n1_ := Ak (below_step (Qb HB.out) hb); clear BK166 HB; have BK166 := n0_; have HB := n1_; clear n0_ n1_; (try clear hb); (try clear hb2); (try clear hk); (try clear hi)))
        go_ret
        exact ⟨Qh, Qb HB.out⟩

/-! ### spec_l7Needs: function 66 -/
mutual
def spec_l7Needs.j0 : Nat → Int → Bool → Option (Int × Int)
 | 0, _, _ => none
 | k + 1, x4, x7 => if x7 = true then (some (2, (-1))) else (if x4 = 5 then (spec_l7Needs.j1 k x4 (x4 == 5)) else (if x4 = 6 then (spec_l7Needs.j1 k x4 (x4 == 6)) else (if x4 = 10 then (spec_l7Needs.j1 k x4 (x4 == 10)) else (spec_l7Needs.j1 k x4 (x4 == 11)))))
def spec_l7Needs.j1 : Nat → Int → Bool → Option (Int × Int)
 | 0, _, _ => none
 | k + 1, x4, x11 => if x11 = true then (some (1, 0)) else (if x4 = 7 then (some (1, 1)) else (if x4 = 8 then (some (2, 0)) else (if x4 = 9 then (spec_l7Needs.j2 k x4 (x4 == 9)) else (spec_l7Needs.j2 k x4 (x4 == 14)))))
def spec_l7Needs.j2 : Nat → Int → Bool → Option (Int × Int)
 | 0, _, _ => none
 | k + 1, x4, x20 => if x20 = true then (some (1, (-1))) else (if x4 = 12 then (some (2, (-2))) else (some (0, 0)))
end
def spec_l7Needs.f (k : Nat) (a0 : Int) : Option (Int × Int) := if a0 = 1 then (some (0, 1)) else (if a0 = 2 then (spec_l7Needs.j0 k a0 (a0 == 2)) else (if a0 = 3 then (spec_l7Needs.j0 k a0 (a0 == 3)) else (spec_l7Needs.j0 k a0 (a0 == 4))))
theorem spec_l7Needs.mono_l : ∀ k, (∀ y0 y1, LeO (spec_l7Needs.j0 k y0 y1) (spec_l7Needs.j0 (k + 1) y0 y1)) ∧ (∀ y0 y1, LeO (spec_l7Needs.j1 k y0 y1) (spec_l7Needs.j1 (k + 1) y0 y1)) ∧ (∀ y0 y1, LeO (spec_l7Needs.j2 k y0 y1) (spec_l7Needs.j2 (k + 1) y0 y1))
 | 0 => ⟨fun _ _ r h => by simp [spec_l7Needs.j0] at h, fun _ _ r h => by simp [spec_l7Needs.j1] at h, fun _ _ r h => by simp [spec_l7Needs.j2] at h⟩
 | k + 1 => by
  obtain ⟨ih0, ih1, ih2⟩ := spec_l7Needs.mono_l k
  refine ⟨?_, ?_, ?_⟩
  ·intro y0 y1
   unfold spec_l7Needs.j0
   repeat' first
   | (with_reducible exact ih0 _ _)
   | (with_reducible exact ih1 _ _)
   | (with_reducible exact ih2 _ _)
   | (with_reducible exact LeO.refl _)
   | (with_reducible exact LeO.none _)
   | (with_reducible refine LeO.ite ?_ ?_)
   | (with_reducible refine LeO.bind ?_ (fun _ => ?_))
   | exact ih0 _ _
   | exact ih1 _ _
   | exact ih2 _ _
   | exact LeO.none _
   | refine LeO.ite ?_ ?_
   | refine LeO.bind ?_ (fun _ => ?_)
  ·intro y0 y1
   unfold spec_l7Needs.j1
   repeat' first
   | (with_reducible exact ih0 _ _)
   | (with_reducible exact ih1 _ _)
   | (with_reducible exact ih2 _ _)
   | (with_reducible exact LeO.refl _)
   | (with_reducible exact LeO.none _)
   | (with_reducible refine LeO.ite ?_ ?_)
   | (with_reducible refine LeO.bind ?_ (fun _ => ?_))
   | exact ih0 _ _
   | exact ih1 _ _
   | exact ih2 _ _
   | exact LeO.none _
   | refine LeO.ite ?_ ?_
   | refine LeO.bind ?_ (fun _ => ?_)
  ·intro y0 y1
   unfold spec_l7Needs.j2
   repeat' first
   | (with_reducible exact ih0 _ _)
   | (with_reducible exact ih1 _ _)
   | (with_reducible exact ih2 _ _)
   | (with_reducible exact LeO.refl _)
   | (with_reducible exact LeO.none _)
   | (with_reducible refine LeO.ite ?_ ?_)
   | (with_reducible refine LeO.bind ?_ (fun _ => ?_))
   | exact ih0 _ _
   | exact ih1 _ _
   | exact ih2 _ _
   | exact LeO.none _
   | refine LeO.ite ?_ ?_
   | refine LeO.bind ?_ (fun _ => ?_)
theorem spec_l7Needs.mono : ∀ a0 k, LeO (spec_l7Needs.f k a0) (spec_l7Needs.f (k + 1) a0) := by
 intro a0 k
 obtain ⟨ih0, ih1, ih2⟩ := spec_l7Needs.mono_l k
 unfold spec_l7Needs.f
 repeat' first
   | (with_reducible exact ih0 _ _)
   | (with_reducible exact ih1 _ _)
   | (with_reducible exact ih2 _ _)
   | (with_reducible exact LeO.refl _)
   | (with_reducible exact LeO.none _)
   | (with_reducible refine LeO.ite ?_ ?_)
   | (with_reducible refine LeO.bind ?_ (fun _ => ?_))
   | exact ih0 _ _
   | exact ih1 _ _
   | exact ih2 _ _
   | exact LeO.none _
   | refine LeO.ite ?_ ?_
   | refine LeO.bind ?_ (fun _ => ?_)
theorem spec_l7Needs.calls (k : Nat) (a0 : Int) (r1 : Int) (r2 : Int) (w : World) (h : spec_l7Needs.f k a0 = some (r1, r2)) :
  Calls Try.prog 66 #[.int .i64 a0] w fun e w' => e = .returned (.tuple #[.int .i64 r1, .int .i64 r2]) ∧ Drawn0 w w' := by
 have H : (if a0 = 1 then (some (0, 1)) else (if a0 = 2 then (spec_l7Needs.j0 k a0 (a0 == 2)) else (if a0 = 3 then (spec_l7Needs.j0 k a0 (a0 == 3)) else (spec_l7Needs.j0 k a0 (a0 == 4))))) = some (r1, r2) := h
 clear h
 by_cases c2 : a0 = 1
 ·rw [if_pos c2] at H
  have c2b0 : (a0 == 1) = true := beq_iff_eq.mpr c2
  have c2b1 : (a0 != 1) = false := bne_eq_false_iff_eq.mpr c2
  clear c2
  simp only [Option.some.injEq, Prod.mk.injEq] at H
  obtain ⟨rfl, rfl⟩ := H
  go_enter Try.func66, Try.ntmps66
  go_wp2
  go_ret2
  exact ⟨Qi, Ql⟩
 ·rw [if_neg c2] at H
  have c2b0 : (a0 == 1) = false := beq_eq_false_iff_ne.mpr c2
  have c2b1 : (a0 != 1) = true := bne_iff_ne.mpr c2
  have HC3 := Ak H
  clear H
  go_enter Try.func66, Try.ntmps66
  go_upto_if 7 with (fail)
  go_cut [7] (fun v7 wc => ∃ (kq : Nat) (x7_2 : Bool), v7 = .bool x7_2 ∧ Aside0 (spec_l7Needs.j0 kq a0 x7_2 = some (r1, r2)) ∧ Aside0 (kq ≤ k) ∧ Drawn0 w wc)
  case first =>
   have H := HC3.out
   clear HC3
   by_cases c4 : a0 = 2
   ·rw [if_pos c4] at H
    have c4b0 : (a0 == 2) = true := beq_iff_eq.mpr c4
    have c4b1 : (a0 != 2) = false := bne_eq_false_iff_eq.mpr c4
    clear c4
    (first | rw [c4b0] | (simp only [i64_w, i32_w]; rw [c4b0]) | skip)
    have H' := Ak H
    clear H
    go_wp2
    go_meet
    case rel => exact ⟨_, ((a0 == 2)), Qi, H', ⟨by first | omega | exact Nat.le_refl _⟩, Ql⟩
   ·rw [if_neg c4] at H
    have c4b0 : (a0 == 2) = false := beq_eq_false_iff_ne.mpr c4
    have c4b1 : (a0 != 2) = true := bne_iff_ne.mpr c4
    (first | rw [c4b0] | (simp only [i64_w, i32_w]; rw [c4b0]) | skip)
    by_cases c5 : a0 = 3
    ·rw [if_pos c5] at H
     have c5b0 : (a0 == 3) = true := beq_iff_eq.mpr c5
     have c5b1 : (a0 != 3) = false := bne_eq_false_iff_eq.mpr c5
     clear c5
     have H' := Ak H
     clear H
     go_wp2
     go_meet
     case rel => exact ⟨_, ((a0 == 3)), Qi, H', ⟨by first | omega | exact Nat.le_refl _⟩, Ql⟩
    ·rw [if_neg c5] at H
     have c5b0 : (a0 == 3) = false := beq_eq_false_iff_ne.mpr c5
     have c5b1 : (a0 != 3) = true := bne_iff_ne.mpr c5
     have H' := Ak H
     clear H
     go_wp2
     go_meet
     case rel => exact ⟨_, ((a0 == 4)), Qi, H', ⟨by first | omega | exact Nat.le_refl _⟩, Ql⟩
  case rest =>
   clear HC3
   (try clear c2); (try clear c2b0); (try clear c2b1); (try clear p2); (try clear c4); (try clear c4b0); (try clear c4b1); (try clear c5); (try clear c5b0); (try clear c5b1)
   obtain ⟨kq, x7_2, rfl, HA, HJ2, ⟨mc2, rfl⟩⟩ := hcut
   cases kq with
   | zero => exact absurd HA.out (by simp [spec_l7Needs.j0])
   | succ kj2 =>
    have H := HA.out
    clear HA
    simp only [spec_l7Needs.j0] at H
    by_cases c6 : x7_2 = true
    ·(try subst c6)
     have H1 : (some (2, (-1))) = some (r1, r2) := by rw [if_pos rfl] at H; exact H
     clear H
     have H := H1
     clear H1
     simp only [Option.some.injEq, Prod.mk.injEq] at H
     obtain ⟨rfl, rfl⟩ := H
     go_wp2
     go_ret2
     exact ⟨Qi, Ql⟩
    ·replace c6 := Bool.eq_false_iff.mpr c6
     (try subst c6)
     have H1 : (if a0 = 5 then (spec_l7Needs.j1 kj2 a0 (a0 == 5)) else (if a0 = 6 then (spec_l7Needs.j1 kj2 a0 (a0 == 6)) else (if a0 = 10 then (spec_l7Needs.j1 kj2 a0 (a0 == 10)) else (spec_l7Needs.j1 kj2 a0 (a0 == 11))))) = some (r1, r2) := by rw [if_neg (show ¬ (false = true) by decide)] at H; exact H
     clear H
     have H := H1
     clear H1
     have HC7 := Ak H
     clear H
     go_upto_if 11 with (fail)
     go_cut [11] (fun v11 wc => ∃ (kq : Nat) (x11_6 : Bool), v11 = .bool x11_6 ∧ Aside0 (spec_l7Needs.j1 kq a0 x11_6 = some (r1, r2)) ∧ Aside0 (kq ≤ kj2) ∧ Drawn0 w wc)
     case first =>
      have H := HC7.out
      clear HC7
      by_cases c8 : a0 = 5
      ·rw [if_pos c8] at H
       have c8b0 : (a0 == 5) = true := beq_iff_eq.mpr c8
       have c8b1 : (a0 != 5) = false := bne_eq_false_iff_eq.mpr c8
       clear c8
       (first | rw [c8b0] | (simp only [i64_w, i32_w]; rw [c8b0]) | skip)
       have H' := Ak H
       clear H
       go_wp2
       go_meet
       case rel => exact ⟨_, ((a0 == 5)), Qi, H', ⟨by have := HJ2.out; first | omega | exact Nat.le_refl _⟩, Ql⟩
      ·rw [if_neg c8] at H
       have c8b0 : (a0 == 5) = false := beq_eq_false_iff_ne.mpr c8
       have c8b1 : (a0 != 5) = true := bne_iff_ne.mpr c8
       (first | rw [c8b0] | (simp only [i64_w, i32_w]; rw [c8b0]) | skip)
       by_cases c9 : a0 = 6
       ·rw [if_pos c9] at H
        have c9b0 : (a0 == 6) = true := beq_iff_eq.mpr c9
        have c9b1 : (a0 != 6) = false := bne_eq_false_iff_eq.mpr c9
        clear c9
        have H' := Ak H
        clear H
        go_wp2
        go_meet
        case rel => exact ⟨_, ((a0 == 6)), Qi, H', ⟨by have := HJ2.out; first | omega | exact Nat.le_refl _⟩, Ql⟩
       ·rw [if_neg c9] at H
        have c9b0 : (a0 == 6) = false := beq_eq_false_iff_ne.mpr c9
        have c9b1 : (a0 != 6) = true := bne_iff_ne.mpr c9
        by_cases c10 : a0 = 10
        ·rw [if_pos c10] at H
         have c10b0 : (a0 == 10) = true := beq_iff_eq.mpr c10
         have c10b1 : (a0 != 10) = false := bne_eq_false_iff_eq.mpr c10
         clear c10
         have H' := Ak H
         clear H
         go_wp2
         go_meet
         case rel => exact ⟨_, ((a0 == 10)), Qi, H', ⟨by have := HJ2.out; first | omega | exact Nat.le_refl _⟩, Ql⟩
        ·rw [if_neg c10] at H
         have c10b0 : (a0 == 10) = false := beq_eq_false_iff_ne.mpr c10
         have c10b1 : (a0 != 10) = true := bne_iff_ne.mpr c10
         have H' := Ak H
         clear H
         go_wp2
         go_meet
         case rel => exact ⟨_, ((a0 == 11)), Qi, H', ⟨by have := HJ2.out; first | omega | exact Nat.le_refl _⟩, Ql⟩
     case rest =>
      clear HC7
      (try clear c1); (try clear c2); (try clear c2b0); (try clear c2b1); (try clear p2); (try clear c4); (try clear c4b0); (try clear c4b1); (try clear c5); (try clear c5b0); (try clear c5b1); (try clear c6); (try clear c8); (try clear c8b0); (try clear c8b1); (try clear c9); (try clear c9b0); (try clear c9b1); (try clear c10); (try clear c10b0); (try clear c10b1); (try clear p2)
      obtain ⟨kq, x11_6, rfl, HA, HJ6, ⟨mc6, rfl⟩⟩ := hcut
      cases kq with
      | zero => exact absurd HA.out (by simp [spec_l7Needs.j1])
      | succ kj6 =>
       have H := HA.out
       clear HA
       simp only [spec_l7Needs.j1] at H
       by_cases c11 : x11_6 = true
       ·(try subst c11)
        have H1 : (some (1, 0)) = some (r1, r2) := by rw [if_pos rfl] at H; exact H
        clear H
        have H := H1
        clear H1
        simp only [Option.some.injEq, Prod.mk.injEq] at H
        obtain ⟨rfl, rfl⟩ := H
        go_wp2
        go_ret2
        exact ⟨Qi, Ql⟩
       ·replace c11 := Bool.eq_false_iff.mpr c11
        (try subst c11)
        have H1 : (if a0 = 7 then (some (1, 1)) else (if a0 = 8 then (some (2, 0)) else (if a0 = 9 then (spec_l7Needs.j2 kj6 a0 (a0 == 9)) else (spec_l7Needs.j2 kj6 a0 (a0 == 14))))) = some (r1, r2) := by rw [if_neg (show ¬ (false = true) by decide)] at H; exact H
        clear H
        have H := H1
        clear H1
        by_cases c12 : a0 = 7
        ·rw [if_pos c12] at H
         have c12b0 : (a0 == 7) = true := beq_iff_eq.mpr c12
         have c12b1 : (a0 != 7) = false := bne_eq_false_iff_eq.mpr c12
         clear c12
         simp only [Option.some.injEq, Prod.mk.injEq] at H
         obtain ⟨rfl, rfl⟩ := H
         go_wp2
         go_ret2
         exact ⟨Qi, Ql⟩
        ·rw [if_neg c12] at H
         have c12b0 : (a0 == 7) = false := beq_eq_false_iff_ne.mpr c12
         have c12b1 : (a0 != 7) = true := bne_iff_ne.mpr c12
         by_cases c13 : a0 = 8
         ·rw [if_pos c13] at H
          have c13b0 : (a0 == 8) = true := beq_iff_eq.mpr c13
          have c13b1 : (a0 != 8) = false := bne_eq_false_iff_eq.mpr c13
          clear c13
          simp only [Option.some.injEq, Prod.mk.injEq] at H
          obtain ⟨rfl, rfl⟩ := H
          go_wp2
          go_ret2
          exact ⟨Qi, Ql⟩
         ·rw [if_neg c13] at H
          have c13b0 : (a0 == 8) = false := beq_eq_false_iff_ne.mpr c13
          have c13b1 : (a0 != 8) = true := bne_iff_ne.mpr c13
          have HC14 := Ak H
          clear H
          go_upto_if 20 with (fail)
          go_cut [20] (fun v20 wc => ∃ (kq : Nat) (x20_13 : Bool), v20 = .bool x20_13 ∧ Aside0 (spec_l7Needs.j2 kq a0 x20_13 = some (r1, r2)) ∧ Aside0 (kq ≤ kj6) ∧ Drawn0 w wc)
          case first =>
           have H := HC14.out
           clear HC14
           by_cases c15 : a0 = 9
           ·rw [if_pos c15] at H
            have c15b0 : (a0 == 9) = true := beq_iff_eq.mpr c15
            have c15b1 : (a0 != 9) = false := bne_eq_false_iff_eq.mpr c15
            clear c15
            (first | rw [c15b0] | (simp only [i64_w, i32_w]; rw [c15b0]) | skip)
            have H' := Ak H
            clear H
            go_wp2
            go_meet
            case rel => exact ⟨_, ((a0 == 9)), Qi, H', ⟨by have := HJ2.out; have := HJ6.out; first | omega | exact Nat.le_refl _⟩, Ql⟩
           ·rw [if_neg c15] at H
            have c15b0 : (a0 == 9) = false := beq_eq_false_iff_ne.mpr c15
            have c15b1 : (a0 != 9) = true := bne_iff_ne.mpr c15
            (first | rw [c15b0] | (simp only [i64_w, i32_w]; rw [c15b0]) | skip)
            have H' := Ak H
            clear H
            go_wp2
            go_meet
            case rel => exact ⟨_, ((a0 == 14)), Qi, H', ⟨by have := HJ2.out; have := HJ6.out; first | omega | exact Nat.le_refl _⟩, Ql⟩
          case rest =>
           clear HC14
           (try clear c1); (try clear c2); (try clear c2b0); (try clear c2b1); (try clear p2); (try clear c4); (try clear c4b0); (try clear c4b1); (try clear c5); (try clear c5b0); (try clear c5b1); (try clear c6); (try clear c8); (try clear c8b0); (try clear c8b1); (try clear c9); (try clear c9b0); (try clear c9b1); (try clear c10); (try clear c10b0); (try clear c10b1); (try clear c11); (try clear c12); (try clear c12b0); (try clear c12b1); (try clear c13); (try clear c13b0); (try clear c13b1); (try clear c15); (try clear c15b0); (try clear c15b1); (try clear p2)
           obtain ⟨kq, x20_13, rfl, HA, HJ13, ⟨mc13, rfl⟩⟩ := hcut
           cases kq with
           | zero => exact absurd HA.out (by simp [spec_l7Needs.j2])
           | succ kj13 =>
            have H := HA.out
            clear HA
            simp only [spec_l7Needs.j2] at H
            by_cases c16 : x20_13 = true
            ·(try subst c16)
             have H1 : (some (1, (-1))) = some (r1, r2) := by rw [if_pos rfl] at H; exact H
             clear H
             have H := H1
             clear H1
             simp only [Option.some.injEq, Prod.mk.injEq] at H
             obtain ⟨rfl, rfl⟩ := H
             go_wp2
             go_ret2
             exact ⟨Qi, Ql⟩
            ·replace c16 := Bool.eq_false_iff.mpr c16
             (try subst c16)
             have H1 : (if a0 = 12 then (some (2, (-2))) else (some (0, 0))) = some (r1, r2) := by rw [if_neg (show ¬ (false = true) by decide)] at H; exact H
             clear H
             have H := H1
             clear H1
             by_cases c17 : a0 = 12
             ·rw [if_pos c17] at H
              have c17b0 : (a0 == 12) = true := beq_iff_eq.mpr c17
              have c17b1 : (a0 != 12) = false := bne_eq_false_iff_eq.mpr c17
              clear c17
              simp only [Option.some.injEq, Prod.mk.injEq] at H
              obtain ⟨rfl, rfl⟩ := H
              go_wp2
              go_ret2
              exact ⟨Qi, Ql⟩
             ·rw [if_neg c17] at H
              have c17b0 : (a0 == 12) = false := beq_eq_false_iff_ne.mpr c17
              have c17b1 : (a0 != 12) = true := bne_iff_ne.mpr c17
              simp only [Option.some.injEq, Prod.mk.injEq] at H
              obtain ⟨rfl, rfl⟩ := H
              go_wp2
              go_ret2
              exact ⟨Qi, Ql⟩

end Go.Proofs.Ytlmiankjbffboaa.HFnExactRunMachine

/- Text for FnExactCompileExpr: written by a program of this session on the pattern of the kit's print. -/
import Derived.Test.YthlagaopjmeaaaaHFnExactCompileExprx0
namespace Go.Proofs.Ythlagaopjmeaaaa.HFnExactCompileExpr
set_option maxHeartbeats 8000000
set_option maxRecDepth 100000
open Go.RowKit Go.Proofs.YthlagaopjmeaaaaW.PrintWords Go.Proofs.YthlagaopjmeaaaaW.PrintLast Go.Proofs.YthlagaopjmeaaaaW.PrintMore
attribute [local go_sem] max2_int min2_int max_two min_two max_three min_three max_four min_four
set_option linter.unusedVariables false
set_option linter.unusedSimpArgs false

/-! ### spec_l10Size: function 32 -/
mutual
def spec_l10Size.l0 : Nat → Int → Int → List (S28) → Int → Int → Option (Int × Int)
 | 0, _, _, _, _, _ => none
 | k + 1, x4, x5, x11, x12, x13 => if x13 < x12 then (if 0 ≤ x13 then (if x13 < (x11.length : Int) then ((spec_l10Size.f k ((rd_T28 x11 x13).f0) ((rd_T28 x11 x13).f1) ((rd_T28 x11 x13).f2)).bind fun bt130 => (spec_l10Size.l0 k (wrap64 (x4 + bt130.1)) (mx x5 bt130.2) x11 x12 (wrap64 (x13 + 1)))) else (none)) else (none)) else (some (x4, wrap64 (x5 + 1)))
def spec_l10Size.f : Nat → Int → Int → List (S28) → Option (Int × Int)
 | 0, _, _, _ => none
 | k + 1, a0_0, a0_1, l0_2 => spec_l10Size.l0 k 1 0 l0_2 (l0_2.length : Int) 0
end
theorem spec_l10Size.mono_l : ∀ k, (∀ y0 y1 y2, LeO (spec_l10Size.f k y0 y1 y2) (spec_l10Size.f (k + 1) y0 y1 y2)) ∧ (∀ y0 y1 y2 y3 y4, LeO (spec_l10Size.l0 k y0 y1 y2 y3 y4) (spec_l10Size.l0 (k + 1) y0 y1 y2 y3 y4))
 | 0 => ⟨fun _ _ _ r h => by simp [spec_l10Size.f] at h, fun _ _ _ _ _ r h => by simp [spec_l10Size.l0] at h⟩
 | k + 1 => by
  obtain ⟨ih0, ih1⟩ := spec_l10Size.mono_l k
  refine ⟨?_, ?_⟩
  ·intro y0 y1 y2
   unfold spec_l10Size.f
   repeat' first
   | (with_reducible exact ih0 _ _ _)
   | (with_reducible exact ih1 _ _ _ _ _)
   | (with_reducible exact LeO.refl _)
   | (with_reducible exact LeO.none _)
   | (with_reducible refine LeO.ite ?_ ?_)
   | (with_reducible refine LeO.bind ?_ (fun _ => ?_))
   | exact ih0 _ _ _
   | exact ih1 _ _ _ _ _
   | exact LeO.none _
   | refine LeO.ite ?_ ?_
   | refine LeO.bind ?_ (fun _ => ?_)
  ·intro y0 y1 y2 y3 y4
   unfold spec_l10Size.l0
   repeat' first
   | (with_reducible exact ih0 _ _ _)
   | (with_reducible exact ih1 _ _ _ _ _)
   | (with_reducible exact LeO.refl _)
   | (with_reducible exact LeO.none _)
   | (with_reducible refine LeO.ite ?_ ?_)
   | (with_reducible refine LeO.bind ?_ (fun _ => ?_))
   | exact ih0 _ _ _
   | exact ih1 _ _ _ _ _
   | exact LeO.none _
   | refine LeO.ite ?_ ?_
   | refine LeO.bind ?_ (fun _ => ?_)
theorem spec_l10Size.mono : ∀ a0 a1 a2 k, LeO (spec_l10Size.f k a0 a1 a2) (spec_l10Size.f (k + 1) a0 a1 a2) := by
 intro a0 a1 a2 k
 obtain ⟨ih0, ih1⟩ := spec_l10Size.mono_l k
 exact ih0 a0 a1 a2
theorem spec_l10Size.calls (k : Nat) : ∀ (a0_0 : Int) (a0_1 : Int) (A0_2 : Option Addr) (c0_2 : Nat) (l0_2 : List (S28)) (r1 : Int) (r2 : Int) (w : World) (hr0_2 : Kd.C k28 w A0_2 l0_2.length l0_2) (hc0_2 : l0_2.length ≤ c0_2) (h : spec_l10Size.f k a0_0 a0_1 l0_2 = some (r1, r2)),
  Calls Try.prog 32 #[.agg #[.int .i64 a0_0, .int .i64 a0_1, .slice A0_2 l0_2.length c0_2]] w fun e w' => e = .returned (.tuple #[.int .i64 r1, .int .i64 r2]) ∧ Below w.heap.size w w' := by
 induction k using Nat.strongRecOn with
 | _ k ih =>
 intro a0_0 a0_1 A0_2 c0_2 l0_2 r1 r2 w hr0_2 hc0_2 h
 cases k with
 | zero => exact absurd h (by simp [spec_l10Size.f])
 | succ k =>
 simp only [spec_l10Size.f] at h
 have hu28 := Try.underlying28
 have HR0_2 := Ak hr0_2
 have HC0_2 := Ak hc0_2
 clear hr0_2 hc0_2
 have HB := Ak (Below.refl w.heap.size w)
 have H : (spec_l10Size.l0 k 1 0 l0_2 (l0_2.length : Int) 0) = some (r1, r2) := h
 clear h
 have H' := Ak H
 clear H
 go_enter Try.func32, Try.ntmps32
 go_wp2_with (first | ((with_reducible refine gate_dst (N := 1) rfl ?_); refine Qk 1 #[.int .i64 a0_0, .int .i64 a0_1, .slice A0_2 l0_2.length c0_2] 28 ?_; intro gb127 hg w2 hbox hb; have n0_ := Ak (below_step (Qb HB.out) hb); have n1_ := Ak (hbox); have n2_ := Ak ((Qp hg HB.out : w.heap.size ≤ gb127)); have n3_ := Ak ((Qp hg HB.out : w.heap.size ≤ gb127)); clear HB; have HB := n0_; have BK127 := n1_; have GW127 := n2_; have GE127 := n3_; clear n0_ n1_ n2_ n3_; clear hb hbox hg; obtain ⟨hcz3_0, hcz3_1, hcz3_2⟩ := Qu3 BK127.out; have hfz3_0 := blk_frozen BK127.out 0; have hfz3_1 := blk_frozen BK127.out 1; have hfz3_2 := blk_frozen BK127.out 2))
 go_loopg [4, 5, 13] k (fun kq v4 v5 v13 w' => ∃ (x4_1 : Int) (x5_1 : Int) (x13_1 : Int), v4 = .int .i64 x4_1 ∧ v5 = .int .i64 x5_1 ∧ v13 = .int .i64 x13_1 ∧ Aside0 (spec_l10Size.l0 kq x4_1 x5_1 l0_2 (l0_2.length : Int) x13_1 = some (r1, r2)) ∧ Aside0 (kq ≤ k) ∧ Aside0 (w'.heap[gb127]? = some (.cells #[.int .i64 a0_0, .int .i64 a0_1, (.slice A0_2 l0_2.length c0_2)] 28 (0, 0))) ∧ Aside0 (Below w.heap.size w w'))
 case atStart => exact ⟨(1), (0), (0), Qi, Qi, Qi, H', ⟨Nat.le_refl _⟩, ⟨by refine Qe ?_; exact BK127.out⟩, ⟨Qb HB.out⟩⟩
 case round =>
  clear H'
  (try clear p2); (try clear c3); (try clear hcz3_0); (try clear hcz3_1); (try clear hcz3_2); (try clear hfz3_0); (try clear hfz3_1); (try clear hfz3_2)
  obtain ⟨x4_1, x5_1, x13_1, rfl, rfl, rfl, HA, HK1, BK127, HB⟩ := hrel
  cases gk with
  | zero => exact absurd HA.out (by simp [spec_l10Size.l0])
  | succ k1 =>
   have H := HA.out
   clear HA
   simp only [spec_l10Size.l0] at H
   by_cases c4 : x13_1 < (l0_2.length : Int)
   ·rw [if_pos c4] at H
    have c4b0 : decide (x13_1 < (l0_2.length : Int)) = true := decide_eq_true c4
    clear c4
    by_cases c5 : 0 ≤ x13_1
    ·rw [if_pos c5] at H
     have c5b0 : decide (0 ≤ x13_1) = true := decide_eq_true c5
     clear c5
     by_cases c6 : x13_1 < (l0_2.length : Int)
     ·rw [if_pos c6] at H
      have c6b0 : decide (x13_1 < (l0_2.length : Int)) = true := decide_eq_true c6
      clear c6
      replace H := Option.bind_eq_some_iff.mp H
      obtain ⟨⟨t130, t131⟩, A70, H⟩ := H
      replace H : (spec_l10Size.l0 k1 (wrap64 (x4_1 + t130)) (mx x5_1 t131) l0_2 (l0_2.length : Int) (wrap64 (x13_1 + 1))) = some (r1, r2) := H
      have A7 := Ak A70
      clear A70
      obtain ⟨ji8, hji8⟩ : ∃ j_ : Int, (mx x5_1 t131) = j_ := ⟨_, rfl⟩
      replace H : (spec_l10Size.l0 k1 (wrap64 (x4_1 + t130)) ji8 l0_2 (l0_2.length : Int) (wrap64 (x13_1 + 1))) = some (r1, r2) := by first | (rw [hji8] at H; exact H) | (simp only [hji8] at H ⊢; exact H)
      (try rw [hji8] at A7)
      have hji8_ : (if x5_1 < t131 then t131 else x5_1) = ji8 := hji8
      have H' := Ak H
      clear H
      have p128 : 0 ≤ (x13_1 : Int) := Qg
      have q128 : x13_1 < (l0_2.length : Int) := Qg
      obtain ⟨ad128, A128_2, c128_2, e128, hx128_0, hx128_1, hx128_2, hl128_2, hi128_2⟩ := at_T28 HR0_2.out x13_1 p128 q128
      cases e128
      (try replace hx128_0 := (HB.out.cell (World.block_lt_of_cell? w _ hx128_0)).trans hx128_0)
      (try replace hx128_1 := (HB.out.cell (World.block_lt_of_cell? w _ hx128_1)).trans hx128_1)
      (try replace hx128_2 := (HB.out.cell (World.block_lt_of_cell? w _ hx128_2)).trans hx128_2)
      have HR128_2 := Ak hi128_2
      have HC128_2 := Ak hl128_2
      clear hi128_2 hl128_2
      replace p128 := eq_true p128
      replace q128 := eq_true q128
      go_wp2_with (first | ((with_reducible refine gate_dst (N := 7) rfl ?_); refine Qk 7 #[.int .i64 0, .int .i64 0, .slice none 0 0] 28 ?_; intro gb129 hg w9 hbox hb; have n0_ := Ak (Qm BK127.out hb); have n1_ := Ak (below_step (Qb HB.out) hb); have n2_ := Ak (hbox); have n3_ := Ak ((Qp hg HB.out : w.heap.size ≤ gb129)); have n4_ := Ak ((Qp hg HB.out : w.heap.size ≤ gb129)); have n5_ := Ak ((by rw [hg]; exact Nat.ne_of_lt (Qn BK127.out) : gb127 ≠ gb129)); have n6_ := Ak ((by rw [hg]; exact Nat.ne_of_gt (Qn BK127.out) : gb129 ≠ gb127)); clear BK127 HB; have BK127 := n0_; have HB := n1_; have BK129 := n2_; have GW129 := n3_; have GE129 := n4_; have NB127_129 := n5_; have NB129_127 := n6_; clear n0_ n1_ n2_ n3_ n4_ n5_ n6_; clear hb hbox hg; have hnb10 := NB129_127.out; have hnc10 := NB127_129.out; obtain ⟨hcz11_0, hcz11_1, hcz11_2⟩ := Qu3 BK129.out; have hfz11_0 := blk_frozen BK129.out 0; have hfz11_1 := blk_frozen BK129.out 1; have hfz11_2 := blk_frozen BK129.out 2) | ((with_reducible refine gate_callee (f := 32) rfl ?_); refine Qj (some 19) Try.func32 #[.agg #[.int .i64 ((rd_T28 l0_2 x13_1).f0), .int .i64 ((rd_T28 l0_2 x13_1).f1), .slice A128_2 ((rd_T28 l0_2 x13_1).f2).length c128_2]] ?_; (with_reducible refine (ih k1 (by have := HK1.out; omega) ((rd_T28 l0_2 x13_1).f0) ((rd_T28 l0_2 x13_1).f1) _ _ ((rd_T28 l0_2 x13_1).f2) t130 t131 _ ?side1 ?side2 A7.out).mono ?_); (case side1 => exact Kd.C_below HR128_2.out (Qb HB.out)); (case side2 => exact HC128_2.out); rintro e w12 ⟨rfl, hb⟩; refine ⟨_, rfl, ?_⟩; have n0_ := Ak (blk_below (g := gb127) (o := .cells #[.int .i64 a0_0, .int .i64 a0_1, .slice (some ad128) l0_2.length c0_2] 28 (0, 0)) (by refine Qe ?_; refine blk_far ?_ NB127_129.out _; refine Qe ?_; refine blk_far ?_ NB127_129.out _; refine Qe ?_; refine blk_far ?_ NB127_129.out _; exact Qa BK127.out) hb); have n1_ := Ak (blk_below (g := gb129) (o := .cells #[.int .i64 ((rd_T28 l0_2 x13_1).f0), .int .i64 ((rd_T28 l0_2 x13_1).f1), .slice A128_2 ((rd_T28 l0_2 x13_1).f2).length c128_2] 28 (0, 0)) (by refine Qe ?_; refine blk_put (cs := #[.int .i64 ((rd_T28 l0_2 x13_1).f0), .int .i64 ((rd_T28 l0_2 x13_1).f1), .slice none 0 0]) ?_ 2 _ rfl; refine Qe ?_; refine blk_put (cs := #[.int .i64 ((rd_T28 l0_2 x13_1).f0), .int .i64 0, .slice none 0 0]) ?_ 1 _ rfl; refine Qe ?_; refine blk_put (cs := #[.int .i64 0, .int .i64 0, .slice none 0 0]) ?_ 0 _ rfl; exact Qa BK129.out) hb); have n2_ := Ak (below_step (Qb HB.out) hb); clear BK127 BK129 HB; have BK127 := n0_; have BK129 := n1_; have HB := n2_; clear n0_ n1_ n2_; (try clear hb); (try clear hb2); (try clear hk); (try clear hi)))
      go_roundg k1
      case measure => have := HK1.out; omega
      case rel => exact ⟨(wrap64 (x4_1 + t130)), (ji8), (wrap64 (x13_1 + 1)), Qi, (by first | rfl | (simp; done) | (simp only [← hji8] <;> (first | rfl | simp)) | (simp [*]; done)), Qi, H', ⟨by have := HK1.out; omega⟩, ⟨by refine Qe ?_; exact BK127.out⟩, ⟨Qb HB.out⟩⟩
     ·rw [if_neg c6] at H
      exact absurd H (by simp)
    ·rw [if_neg c5] at H
     exact absurd H (by simp)
   ·rw [if_neg c4] at H
    have c4b0 : decide (x13_1 < (l0_2.length : Int)) = false := decide_eq_false c4
    clear c4
    simp only [Option.some.injEq, Prod.mk.injEq] at H
    obtain ⟨rfl, rfl⟩ := H
    go_wp2
    go_ret2
    exact ⟨Qh, Qb HB.out⟩

/-! ### spec_l1In: function 37 -/
def spec_l1In.f (a0 : Int) (a1 : Int) (a2 : Int) : Option (Bool) := if a0 ≥ a1 then (some (decide (a0 ≤ a2))) else (some false)
theorem spec_l1In.calls (a0 : Int) (a1 : Int) (a2 : Int) (r : Bool) (w : World) (h : spec_l1In.f a0 a1 a2 = some r) :
  Calls Try.prog 37 #[.int .i64 a0, .int .i64 a1, .int .i64 a2] w fun e w' => e = .returned (.bool r) ∧ Drawn0 w w' := by
 have H : (if a0 ≥ a1 then (some (decide (a0 ≤ a2))) else (some false)) = some r := h
 clear h
 by_cases c4 : a0 ≥ a1
 ·rw [if_pos c4] at H
  have c4b0 : decide (a1 ≤ a0) = true := decide_eq_true c4
  clear c4
  obtain rfl := Option.some.inj H
  go_enter Try.func37, Try.ntmps37
  go_wp2
  go_ret
  exact ⟨Qi, Ql⟩
 ·rw [if_neg c4] at H
  have c4b0 : decide (a1 ≤ a0) = false := decide_eq_false c4
  clear c4
  obtain rfl := Option.some.inj H
  go_enter Try.func37, Try.ntmps37
  go_wp2
  go_ret
  exact ⟨Qi, Ql⟩

/-! ### spec_LimitOf: function 43 -/
def spec_LimitOf.l0 : Nat → Int → Int → Int → Option (Int)
 | 0, _, _, _ => none
 | k + 1, x0, x3, x4 => if x4 < x0 then (spec_LimitOf.l0 k x0 (wrap64 ((wrap64 (3 * x3)) + 1)) (wrap64 (x4 + 1))) else (some x3)
def spec_LimitOf.f (k : Nat) (a0 : Int) : Option (Int) := (spec_l1In.f a0 1 30).bind fun t132 => (if t132 = true then (spec_LimitOf.l0 k a0 0 0) else (some 0))
theorem spec_LimitOf.mono_l : ∀ k, (∀ y0 y1 y2, LeO (spec_LimitOf.l0 k y0 y1 y2) (spec_LimitOf.l0 (k + 1) y0 y1 y2))
 | 0 => fun _ _ _ r h => by simp [spec_LimitOf.l0] at h
 | k + 1 => by
  have ih0 := spec_LimitOf.mono_l k
  ·intro y0 y1 y2
   unfold spec_LimitOf.l0
   repeat' first
   | (with_reducible exact ih0 _ _ _)
   | (with_reducible exact LeO.refl _)
   | (with_reducible exact LeO.none _)
   | (with_reducible refine LeO.ite ?_ ?_)
   | (with_reducible refine LeO.bind ?_ (fun _ => ?_))
   | exact ih0 _ _ _
   | exact LeO.none _
   | refine LeO.ite ?_ ?_
   | refine LeO.bind ?_ (fun _ => ?_)
theorem spec_LimitOf.mono : ∀ a0 k, LeO (spec_LimitOf.f k a0) (spec_LimitOf.f (k + 1) a0) := by
 intro a0 k
 have ih0 := spec_LimitOf.mono_l k
 unfold spec_LimitOf.f
 repeat' first
   | (with_reducible exact ih0 _ _ _)
   | (with_reducible exact LeO.refl _)
   | (with_reducible exact LeO.none _)
   | (with_reducible refine LeO.ite ?_ ?_)
   | (with_reducible refine LeO.bind ?_ (fun _ => ?_))
   | exact ih0 _ _ _
   | exact LeO.none _
   | refine LeO.ite ?_ ?_
   | refine LeO.bind ?_ (fun _ => ?_)
theorem spec_LimitOf.calls (k : Nat) (a0 : Int) (r : Int) (w : World) (h : spec_LimitOf.f k a0 = some r) :
  Calls Try.prog 43 #[.int .i64 a0] w fun e w' => e = .returned (.int .i64 r) ∧ Drawn0 w w' := by
 have H : ((spec_l1In.f a0 1 30).bind fun t132 => (if t132 = true then (spec_LimitOf.l0 k a0 0 0) else (some 0))) = some r := h
 clear h
 replace H := Option.bind_eq_some_iff.mp H
 obtain ⟨t132, A20, H⟩ := H
 replace H : (if t132 = true then (spec_LimitOf.l0 k a0 0 0) else (some 0)) = some r := H
 have A2 := Ak A20
 clear A20
 by_cases c3 : t132 = true
 ·(try subst c3)
  have H1 : (spec_LimitOf.l0 k a0 0 0) = some r := by rw [if_pos rfl] at H; exact H
  clear H
  have H := H1
  clear H1
  have H' := Ak H
  clear H
  go_enter Try.func43, Try.ntmps43
  go_wp2_with (first | ((with_reducible refine gate_callee (f := 37) rfl ?_); refine Qj (some 6) Try.func37 #[.int .i64 a0, .int .i64 1, .int .i64 30] ?_; (with_reducible refine (spec_l1In.calls a0 1 30 true _ A2.out).mono ?_); rintro e w' ⟨rfl, ⟨nd, rfl⟩⟩; refine ⟨_, rfl, ?_⟩))
  go_loopg [3, 4] k (fun kq v3 v4 w' => ∃ (x3_1 : Int) (x4_1 : Int), v3 = .int .i64 x3_1 ∧ v4 = .int .i64 x4_1 ∧ Aside0 (spec_LimitOf.l0 kq a0 x3_1 x4_1 = some r) ∧ Aside0 (kq ≤ k) ∧ Drawn0 w w')
  case atStart => exact ⟨(0), (0), Qi, Qi, H', ⟨Nat.le_refl _⟩, Ql⟩
  case round =>
   clear H'
   (try clear p2); (try clear c3)
   obtain ⟨x3_1, x4_1, rfl, rfl, HA, HK1, ⟨m1, rfl⟩⟩ := hrel
   cases gk with
   | zero => exact absurd HA.out (by simp [spec_LimitOf.l0])
   | succ k1 =>
    have H := HA.out
    clear HA
    simp only [spec_LimitOf.l0] at H
    by_cases c4 : x4_1 < a0
    ·rw [if_pos c4] at H
     have c4b0 : decide (x4_1 < a0) = true := decide_eq_true c4
     clear c4
     have H' := Ak H
     clear H
     go_wp2
     go_roundg k1
     case measure => have := HK1.out; omega
     case rel => exact ⟨(wrap64 ((wrap64 (3 * x3_1)) + 1)), (wrap64 (x4_1 + 1)), Qi, Qi, H', ⟨by have := HK1.out; omega⟩, Ql⟩
    ·rw [if_neg c4] at H
     have c4b0 : decide (x4_1 < a0) = false := decide_eq_false c4
     clear c4
     obtain rfl := Option.some.inj H
     go_wp2
     go_ret
     exact ⟨Qi, Ql⟩
 ·replace c3 := Bool.eq_false_iff.mpr c3
  (try subst c3)
  have H1 : (some 0) = some r := by rw [if_neg (show ¬ (false = true) by decide)] at H; exact H
  clear H
  have H := H1
  clear H1
  obtain rfl := Option.some.inj H
  go_enter Try.func43, Try.ntmps43
  go_wp2_with (first | ((with_reducible refine gate_callee (f := 37) rfl ?_); refine Qj (some 6) Try.func37 #[.int .i64 a0, .int .i64 1, .int .i64 30] ?_; (with_reducible refine (spec_l1In.calls a0 1 30 false _ A2.out).mono ?_); rintro e w' ⟨rfl, ⟨nd, rfl⟩⟩; refine ⟨_, rfl, ?_⟩))
  go_ret
  exact ⟨Qi, Ql⟩

/-! ### spec_l10Shape: function 33 -/
mutual
def spec_l10Shape.j0 : Nat → Int → Int → Int → List (S28) → Option (Bool)
 | 0, _, _, _, _ => none
 | k + 1, x3, x134000, x134001, x134002 => (spec_l1In.f x134000 1 8).bind fun t134 => (if t134 = true then (if (x134002.length : Int) = x3 then (if x3 > 0 then (if x134001 = 0 then ((spec_LimitOf.f k 30).bind fun t135 => ((spec_l1In.f x134001 0 t135).bind fun t136 => (spec_l10Shape.j1 k (!t136) x134000 x134001 x134002))) else (spec_l10Shape.j1 k true x134000 x134001 x134002)) else ((spec_LimitOf.f k 30).bind fun t137 => ((spec_l1In.f x134001 0 t137).bind fun t138 => (spec_l10Shape.j1 k (!t138) x134000 x134001 x134002)))) else (spec_l10Shape.j1 k true x134000 x134001 x134002)) else (spec_l10Shape.j1 k true x134000 x134001 x134002))
def spec_l10Shape.j1 : Nat → Bool → Int → Int → List (S28) → Option (Bool)
 | 0, _, _, _, _ => none
 | k + 1, x39, x134000, x134001, x134002 => if x39 = true then (some false) else (spec_l10Shape.l0 k x134002 (x134002.length : Int) 0)
def spec_l10Shape.l0 : Nat → List (S28) → Int → Int → Option (Bool)
 | 0, _, _, _ => none
 | k + 1, x41, x42, x43 => if x43 < x42 then (if 0 ≤ x43 then (if x43 < (x41.length : Int) then ((spec_l10Shape.f k ((rd_T28 x41 x43).f0) ((rd_T28 x41 x43).f1) ((rd_T28 x41 x43).f2)).bind fun t141 => (if t141 = true then (spec_l10Shape.l0 k x41 x42 (wrap64 (x43 + 1))) else (some false))) else (none)) else (none)) else (some true)
def spec_l10Shape.f : Nat → Int → Int → List (S28) → Option (Bool)
 | 0, _, _, _ => none
 | k + 1, a0_0, a0_1, l0_2 => if a0_0 = 1 then (spec_l10Shape.j0 k 0 a0_0 a0_1 l0_2) else (if a0_0 = 2 then (spec_l10Shape.j0 k 1 a0_0 a0_1 l0_2) else (if a0_0 = 3 then (spec_l10Shape.j0 k 1 a0_0 a0_1 l0_2) else (spec_l10Shape.j0 k 2 a0_0 a0_1 l0_2)))
end
theorem spec_l10Shape.mono_l : ∀ k, (∀ y0 y1 y2, LeO (spec_l10Shape.f k y0 y1 y2) (spec_l10Shape.f (k + 1) y0 y1 y2)) ∧ (∀ y0 y1 y2 y3, LeO (spec_l10Shape.j0 k y0 y1 y2 y3) (spec_l10Shape.j0 (k + 1) y0 y1 y2 y3)) ∧ (∀ y0 y1 y2 y3, LeO (spec_l10Shape.j1 k y0 y1 y2 y3) (spec_l10Shape.j1 (k + 1) y0 y1 y2 y3)) ∧ (∀ y0 y1 y2, LeO (spec_l10Shape.l0 k y0 y1 y2) (spec_l10Shape.l0 (k + 1) y0 y1 y2))
 | 0 => ⟨fun _ _ _ r h => by simp [spec_l10Shape.f] at h, fun _ _ _ _ r h => by simp [spec_l10Shape.j0] at h, fun _ _ _ _ r h => by simp [spec_l10Shape.j1] at h, fun _ _ _ r h => by simp [spec_l10Shape.l0] at h⟩
 | k + 1 => by
  obtain ⟨ih0, ih1, ih2, ih3⟩ := spec_l10Shape.mono_l k
  refine ⟨?_, ?_, ?_, ?_⟩
  ·intro y0 y1 y2
   unfold spec_l10Shape.f
   repeat' first
   | (with_reducible exact ih0 _ _ _)
   | (with_reducible exact ih1 _ _ _ _)
   | (with_reducible exact ih2 _ _ _ _)
   | (with_reducible exact ih3 _ _ _)
   | (with_reducible exact spec_LimitOf.mono _ _)
   | (with_reducible exact LeO.refl _)
   | (with_reducible exact LeO.none _)
   | (with_reducible refine LeO.ite ?_ ?_)
   | (with_reducible refine LeO.bind ?_ (fun _ => ?_))
   | exact ih0 _ _ _
   | exact ih1 _ _ _ _
   | exact ih2 _ _ _ _
   | exact ih3 _ _ _
   | exact spec_LimitOf.mono _ _
   | exact LeO.none _
   | refine LeO.ite ?_ ?_
   | refine LeO.bind ?_ (fun _ => ?_)
  ·intro y0 y1 y2 y3
   unfold spec_l10Shape.j0
   repeat' first
   | (with_reducible exact ih0 _ _ _)
   | (with_reducible exact ih1 _ _ _ _)
   | (with_reducible exact ih2 _ _ _ _)
   | (with_reducible exact ih3 _ _ _)
   | (with_reducible exact spec_LimitOf.mono _ _)
   | (with_reducible exact LeO.refl _)
   | (with_reducible exact LeO.none _)
   | (with_reducible refine LeO.ite ?_ ?_)
   | (with_reducible refine LeO.bind ?_ (fun _ => ?_))
   | exact ih0 _ _ _
   | exact ih1 _ _ _ _
   | exact ih2 _ _ _ _
   | exact ih3 _ _ _
   | exact spec_LimitOf.mono _ _
   | exact LeO.none _
   | refine LeO.ite ?_ ?_
   | refine LeO.bind ?_ (fun _ => ?_)
  ·intro y0 y1 y2 y3
   unfold spec_l10Shape.j1
   repeat' first
   | (with_reducible exact ih0 _ _ _)
   | (with_reducible exact ih1 _ _ _ _)
   | (with_reducible exact ih2 _ _ _ _)
   | (with_reducible exact ih3 _ _ _)
   | (with_reducible exact spec_LimitOf.mono _ _)
   | (with_reducible exact LeO.refl _)
   | (with_reducible exact LeO.none _)
   | (with_reducible refine LeO.ite ?_ ?_)
   | (with_reducible refine LeO.bind ?_ (fun _ => ?_))
   | exact ih0 _ _ _
   | exact ih1 _ _ _ _
   | exact ih2 _ _ _ _
   | exact ih3 _ _ _
   | exact spec_LimitOf.mono _ _
   | exact LeO.none _
   | refine LeO.ite ?_ ?_
   | refine LeO.bind ?_ (fun _ => ?_)
  ·intro y0 y1 y2
   unfold spec_l10Shape.l0
   repeat' first
   | (with_reducible exact ih0 _ _ _)
   | (with_reducible exact ih1 _ _ _ _)
   | (with_reducible exact ih2 _ _ _ _)
   | (with_reducible exact ih3 _ _ _)
   | (with_reducible exact spec_LimitOf.mono _ _)
   | (with_reducible exact LeO.refl _)
   | (with_reducible exact LeO.none _)
   | (with_reducible refine LeO.ite ?_ ?_)
   | (with_reducible refine LeO.bind ?_ (fun _ => ?_))
   | exact ih0 _ _ _
   | exact ih1 _ _ _ _
   | exact ih2 _ _ _ _
   | exact ih3 _ _ _
   | exact spec_LimitOf.mono _ _
   | exact LeO.none _
   | refine LeO.ite ?_ ?_
   | refine LeO.bind ?_ (fun _ => ?_)
theorem spec_l10Shape.mono : ∀ a0 a1 a2 k, LeO (spec_l10Shape.f k a0 a1 a2) (spec_l10Shape.f (k + 1) a0 a1 a2) := by
 intro a0 a1 a2 k
 obtain ⟨ih0, ih1, ih2, ih3⟩ := spec_l10Shape.mono_l k
 exact ih0 a0 a1 a2
theorem spec_l10Shape.calls (k : Nat) : ∀ (a0_0 : Int) (a0_1 : Int) (A0_2 : Option Addr) (c0_2 : Nat) (l0_2 : List (S28)) (r : Bool) (w : World) (hr0_2 : Kd.C k28 w A0_2 l0_2.length l0_2) (hc0_2 : l0_2.length ≤ c0_2) (h : spec_l10Shape.f k a0_0 a0_1 l0_2 = some r),
  Calls Try.prog 33 #[.agg #[.int .i64 a0_0, .int .i64 a0_1, .slice A0_2 l0_2.length c0_2]] w fun e w' => e = .returned (.bool r) ∧ Below w.heap.size w w' := by
 induction k using Nat.strongRecOn with
 | _ k ih =>
 intro a0_0 a0_1 A0_2 c0_2 l0_2 r w hr0_2 hc0_2 h
 cases k with
 | zero => exact absurd h (by simp [spec_l10Shape.f])
 | succ k =>
 simp only [spec_l10Shape.f] at h
 have hu28 := Try.underlying28
 have HR0_2 := Ak hr0_2
 have HC0_2 := Ak hc0_2
 clear hr0_2 hc0_2
 have HB := Ak (Below.refl w.heap.size w)
 have H : (if a0_0 = 1 then (spec_l10Shape.j0 k 0 a0_0 a0_1 l0_2) else (if a0_0 = 2 then (spec_l10Shape.j0 k 1 a0_0 a0_1 l0_2) else (if a0_0 = 3 then (spec_l10Shape.j0 k 1 a0_0 a0_1 l0_2) else (spec_l10Shape.j0 k 2 a0_0 a0_1 l0_2)))) = some r := h
 clear h
 have HC2 := Ak H
 clear H
 go_enter Try.func33, Try.ntmps33
 go_upto_block 0 with (first | ((with_reducible refine gate_dst (N := 1) rfl ?_); (try (refine gate_guard (by rfl) ?_; dsimp only)); refine Qk 1 #[.int .i64 a0_0, .int .i64 a0_1, .slice A0_2 l0_2.length c0_2] 28 ?_; intro gb133 hg w3 hbox hb; have n0_ := Ak (below_step (Qb HB.out) hb); have n1_ := Ak (hbox); have n2_ := Ak ((Qp hg HB.out : w.heap.size ≤ gb133)); have n3_ := Ak ((Qp hg HB.out : w.heap.size ≤ gb133)); clear HB; have HB := n0_; have BK133 := n1_; have GW133 := n2_; have GE133 := n3_; clear n0_ n1_ n2_ n3_; clear hb hbox hg; obtain ⟨hcz4_0, hcz4_1, hcz4_2⟩ := Qu3 BK133.out; have hfz4_0 := blk_frozen BK133.out 0; have hfz4_1 := blk_frozen BK133.out 1; have hfz4_2 := blk_frozen BK133.out 2))
 repeat (go_quiet (first | ((with_reducible refine gate_dst (N := 1) rfl ?_); (try (refine gate_guard (by rfl) ?_; dsimp only)); refine Qk 1 #[.int .i64 a0_0, .int .i64 a0_1, .slice A0_2 l0_2.length c0_2] 28 ?_; intro gb133 hg w3 hbox hb; have n0_ := Ak (below_step (Qb HB.out) hb); have n1_ := Ak (hbox); have n2_ := Ak ((Qp hg HB.out : w.heap.size ≤ gb133)); have n3_ := Ak ((Qp hg HB.out : w.heap.size ≤ gb133)); clear HB; have HB := n0_; have BK133 := n1_; have GW133 := n2_; have GE133 := n3_; clear n0_ n1_ n2_ n3_; clear hb hbox hg; obtain ⟨hcz4_0, hcz4_1, hcz4_2⟩ := Qu3 BK133.out; have hfz4_0 := blk_frozen BK133.out 0; have hfz4_1 := blk_frozen BK133.out 1; have hfz4_2 := blk_frozen BK133.out 2)); go_upto_block 0 with (first | ((with_reducible refine gate_dst (N := 1) rfl ?_); (try (refine gate_guard (by rfl) ?_; dsimp only)); refine Qk 1 #[.int .i64 a0_0, .int .i64 a0_1, .slice A0_2 l0_2.length c0_2] 28 ?_; intro gb133 hg w3 hbox hb; have n0_ := Ak (below_step (Qb HB.out) hb); have n1_ := Ak (hbox); have n2_ := Ak ((Qp hg HB.out : w.heap.size ≤ gb133)); have n3_ := Ak ((Qp hg HB.out : w.heap.size ≤ gb133)); clear HB; have HB := n0_; have BK133 := n1_; have GW133 := n2_; have GE133 := n3_; clear n0_ n1_ n2_ n3_; clear hb hbox hg; obtain ⟨hcz4_0, hcz4_1, hcz4_2⟩ := Qu3 BK133.out; have hfz4_0 := blk_frozen BK133.out 0; have hfz4_1 := blk_frozen BK133.out 1; have hfz4_2 := blk_frozen BK133.out 2)))
 (try simp only [Act.put, List.setIfInBounds_toArray, List.set_cons_zero, List.set_cons_succ])
 go_cut [3] (fun v3 wc => ∃ (kq : Nat) (x3_1 : Int), v3 = .int .i64 x3_1 ∧ Aside0 (spec_l10Shape.j0 kq x3_1 a0_0 a0_1 l0_2 = some r) ∧ Aside0 (kq ≤ k) ∧ Aside0 (wc.heap[gb133]? = some (.cells #[.int .i64 a0_0, .int .i64 a0_1, (.slice A0_2 l0_2.length c0_2)] 28 (0, 0))) ∧ Aside0 (Below w.heap.size w wc))
 case first =>
  have H := HC2.out
  clear HC2
  by_cases c5 : a0_0 = 1
  ·rw [if_pos c5] at H
   have c5b0 : (a0_0 == 1) = true := beq_iff_eq.mpr c5
   have c5b1 : (a0_0 != 1) = false := bne_eq_false_iff_eq.mpr c5
   clear c5
   (first | rw [c5b0] | (simp only [i64_w, i32_w]; rw [c5b0]) | skip)
   have H' := Ak H
   clear H
   go_wp2
   repeat (go_quiet (fail); try go_wp2)
   go_meet
   case rel => exact ⟨_, (0), Qi, H', ⟨by first | omega | exact Nat.le_refl _⟩, ⟨by refine Qe ?_; exact BK133.out⟩, ⟨Qb HB.out⟩⟩
  ·rw [if_neg c5] at H
   have c5b0 : (a0_0 == 1) = false := beq_eq_false_iff_ne.mpr c5
   have c5b1 : (a0_0 != 1) = true := bne_iff_ne.mpr c5
   (first | rw [c5b0] | (simp only [i64_w, i32_w]; rw [c5b0]) | skip)
   by_cases c6 : a0_0 = 2
   ·rw [if_pos c6] at H
    have c6b0 : (a0_0 == 2) = true := beq_iff_eq.mpr c6
    have c6b1 : (a0_0 != 2) = false := bne_eq_false_iff_eq.mpr c6
    clear c6
    have H' := Ak H
    clear H
    go_wp2
    repeat (go_quiet (fail); try go_wp2)
    go_meet
    case rel => exact ⟨_, (1), Qi, H', ⟨by first | omega | exact Nat.le_refl _⟩, ⟨by refine Qe ?_; exact BK133.out⟩, ⟨Qb HB.out⟩⟩
   ·rw [if_neg c6] at H
    have c6b0 : (a0_0 == 2) = false := beq_eq_false_iff_ne.mpr c6
    have c6b1 : (a0_0 != 2) = true := bne_iff_ne.mpr c6
    by_cases c7 : a0_0 = 3
    ·rw [if_pos c7] at H
     have c7b0 : (a0_0 == 3) = true := beq_iff_eq.mpr c7
     have c7b1 : (a0_0 != 3) = false := bne_eq_false_iff_eq.mpr c7
     clear c7
     have H' := Ak H
     clear H
     go_wp2
     repeat (go_quiet (fail); try go_wp2)
     go_meet
     case rel => exact ⟨_, (1), Qi, H', ⟨by first | omega | exact Nat.le_refl _⟩, ⟨by refine Qe ?_; exact BK133.out⟩, ⟨Qb HB.out⟩⟩
    ·rw [if_neg c7] at H
     have c7b0 : (a0_0 == 3) = false := beq_eq_false_iff_ne.mpr c7
     have c7b1 : (a0_0 != 3) = true := bne_iff_ne.mpr c7
     have H' := Ak H
     clear H
     go_wp2
     repeat (go_quiet (fail); try go_wp2)
     go_meet
     case rel => exact ⟨_, (2), Qi, H', ⟨by first | omega | exact Nat.le_refl _⟩, ⟨by refine Qe ?_; exact BK133.out⟩, ⟨Qb HB.out⟩⟩
 case rest =>
  clear HC2
  (try clear p2); (try clear c3); (try clear c5); (try clear c5b0); (try clear c5b1); (try clear c6); (try clear c6b0); (try clear c6b1); (try clear c7); (try clear c7b0); (try clear c7b1); (try clear hcz4_0); (try clear hcz4_1); (try clear hcz4_2); (try clear hfz4_0); (try clear hfz4_1); (try clear hfz4_2)
  obtain ⟨kq, x3_1, rfl, HA, HJ1, BK133, HB⟩ := hcut
  cases kq with
  | zero => exact absurd HA.out (by simp [spec_l10Shape.j0])
  | succ kj1 =>
   have H := HA.out
   clear HA
   simp only [spec_l10Shape.j0] at H
   have HC8 := Ak H
   clear H
   go_upto_region 8 with (fail)
   repeat (go_quiet (fail); go_upto_region 8 with (fail))
   go_cut [39] (fun v39 wc => ∃ (kq : Nat) (x39_7 : Bool), v39 = .bool x39_7 ∧ Aside0 (spec_l10Shape.j1 kq x39_7 a0_0 a0_1 l0_2 = some r) ∧ Aside0 (kq ≤ kj1) ∧ Aside0 (wc.heap[gb133]? = some (.cells #[.int .i64 a0_0, .int .i64 a0_1, (.slice A0_2 l0_2.length c0_2)] 28 (0, 0))) ∧ Aside0 (Below w.heap.size w wc))
   case first =>
    have H := HC8.out
    clear HC8
    replace H := Option.bind_eq_some_iff.mp H
    obtain ⟨t134, A90, H⟩ := H
    replace H : (if t134 = true then (if (l0_2.length : Int) = x3_1 then (if x3_1 > 0 then (if a0_1 = 0 then ((spec_LimitOf.f kj1 30).bind fun t135 => ((spec_l1In.f a0_1 0 t135).bind fun t136 => (spec_l10Shape.j1 kj1 (!t136) a0_0 a0_1 l0_2))) else (spec_l10Shape.j1 kj1 true a0_0 a0_1 l0_2)) else ((spec_LimitOf.f kj1 30).bind fun t137 => ((spec_l1In.f a0_1 0 t137).bind fun t138 => (spec_l10Shape.j1 kj1 (!t138) a0_0 a0_1 l0_2)))) else (spec_l10Shape.j1 kj1 true a0_0 a0_1 l0_2)) else (spec_l10Shape.j1 kj1 true a0_0 a0_1 l0_2)) = some r := H
    have A9 := Ak A90
    clear A90
    by_cases c10 : t134 = true
    ·(try subst c10)
     have H1 : (if (l0_2.length : Int) = x3_1 then (if x3_1 > 0 then (if a0_1 = 0 then ((spec_LimitOf.f kj1 30).bind fun t135 => ((spec_l1In.f a0_1 0 t135).bind fun t136 => (spec_l10Shape.j1 kj1 (!t136) a0_0 a0_1 l0_2))) else (spec_l10Shape.j1 kj1 true a0_0 a0_1 l0_2)) else ((spec_LimitOf.f kj1 30).bind fun t137 => ((spec_l1In.f a0_1 0 t137).bind fun t138 => (spec_l10Shape.j1 kj1 (!t138) a0_0 a0_1 l0_2)))) else (spec_l10Shape.j1 kj1 true a0_0 a0_1 l0_2)) = some r := by rw [if_pos rfl] at H; exact H
     clear H
     have H := H1
     clear H1
     by_cases c11 : (l0_2.length : Int) = x3_1
     ·rw [if_pos c11] at H
      have c11b0 : ((l0_2.length : Int) == x3_1) = true := beq_iff_eq.mpr c11
      have c11b1 : ((l0_2.length : Int) != x3_1) = false := bne_eq_false_iff_eq.mpr c11
      clear c11
      (first | rw [c11b0] | (simp only [i64_w, i32_w]; rw [c11b0]) | skip)
      by_cases c12 : x3_1 > 0
      ·rw [if_pos c12] at H
       have c12b0 : decide (0 < x3_1) = true := decide_eq_true c12
       clear c12
       by_cases c13 : a0_1 = 0
       ·rw [if_pos c13] at H
        have c13b0 : (a0_1 == 0) = true := beq_iff_eq.mpr c13
        have c13b1 : (a0_1 != 0) = false := bne_eq_false_iff_eq.mpr c13
        clear c13
        replace H := Option.bind_eq_some_iff.mp H
        obtain ⟨t135, A140, H⟩ := H
        replace H : ((spec_l1In.f a0_1 0 t135).bind fun t136 => (spec_l10Shape.j1 kj1 (!t136) a0_0 a0_1 l0_2)) = some r := H
        have A14 := Ak A140
        clear A140
        replace H := Option.bind_eq_some_iff.mp H
        obtain ⟨t136, A150, H⟩ := H
        replace H : (spec_l10Shape.j1 kj1 (!t136) a0_0 a0_1 l0_2) = some r := H
        have A15 := Ak A150
        clear A150
        have H' := Ak H
        clear H
        obtain ⟨hcz16_0, hcz16_1, hcz16_2, hfz16_0, hfz16_1, hfz16_2⟩ := Qv3 BK133.out
        go_wp2_with (first | (go_at_call 37; (with_reducible refine (spec_l1In.calls a0_0 1 8 true _ A9.out).mono ?_); rintro e w' ⟨rfl, ⟨nd, rfl⟩⟩; (try first | exact ⟨rfl, _, World.drewN_drewN _ _ _⟩ | exact ⟨rfl, _, Eq.trans (World.drewN_drewN _ _ _) (congrArg (World.drewN _) (Nat.add_assoc _ _ _))⟩)) | (go_at_call 43; (with_reducible refine (spec_LimitOf.calls kj1 30 t135 _ A14.out).mono ?_); rintro e w' ⟨rfl, ⟨nd, rfl⟩⟩; (try first | exact ⟨rfl, _, World.drewN_drewN _ _ _⟩ | exact ⟨rfl, _, Eq.trans (World.drewN_drewN _ _ _) (congrArg (World.drewN _) (Nat.add_assoc _ _ _))⟩)) | (go_at_call 37; (with_reducible refine (spec_l1In.calls a0_1 0 t135 t136 _ A15.out).mono ?_); rintro e w' ⟨rfl, ⟨nd, rfl⟩⟩; (try first | exact ⟨rfl, _, World.drewN_drewN _ _ _⟩ | exact ⟨rfl, _, Eq.trans (World.drewN_drewN _ _ _) (congrArg (World.drewN _) (Nat.add_assoc _ _ _))⟩)))
        repeat (go_quiet (first | (go_at_call 37; (with_reducible refine (spec_l1In.calls a0_0 1 8 true _ A9.out).mono ?_); rintro e w' ⟨rfl, ⟨nd, rfl⟩⟩; (try first | exact ⟨rfl, _, World.drewN_drewN _ _ _⟩ | exact ⟨rfl, _, Eq.trans (World.drewN_drewN _ _ _) (congrArg (World.drewN _) (Nat.add_assoc _ _ _))⟩)) | (go_at_call 43; (with_reducible refine (spec_LimitOf.calls kj1 30 t135 _ A14.out).mono ?_); rintro e w' ⟨rfl, ⟨nd, rfl⟩⟩; (try first | exact ⟨rfl, _, World.drewN_drewN _ _ _⟩ | exact ⟨rfl, _, Eq.trans (World.drewN_drewN _ _ _) (congrArg (World.drewN _) (Nat.add_assoc _ _ _))⟩)) | (go_at_call 37; (with_reducible refine (spec_l1In.calls a0_1 0 t135 t136 _ A15.out).mono ?_); rintro e w' ⟨rfl, ⟨nd, rfl⟩⟩; (try first | exact ⟨rfl, _, World.drewN_drewN _ _ _⟩ | exact ⟨rfl, _, Eq.trans (World.drewN_drewN _ _ _) (congrArg (World.drewN _) (Nat.add_assoc _ _ _))⟩))); try go_wp2_with (first | (go_at_call 37; (with_reducible refine (spec_l1In.calls a0_0 1 8 true _ A9.out).mono ?_); rintro e w' ⟨rfl, ⟨nd, rfl⟩⟩; (try first | exact ⟨rfl, _, World.drewN_drewN _ _ _⟩ | exact ⟨rfl, _, Eq.trans (World.drewN_drewN _ _ _) (congrArg (World.drewN _) (Nat.add_assoc _ _ _))⟩)) | (go_at_call 43; (with_reducible refine (spec_LimitOf.calls kj1 30 t135 _ A14.out).mono ?_); rintro e w' ⟨rfl, ⟨nd, rfl⟩⟩; (try first | exact ⟨rfl, _, World.drewN_drewN _ _ _⟩ | exact ⟨rfl, _, Eq.trans (World.drewN_drewN _ _ _) (congrArg (World.drewN _) (Nat.add_assoc _ _ _))⟩)) | (go_at_call 37; (with_reducible refine (spec_l1In.calls a0_1 0 t135 t136 _ A15.out).mono ?_); rintro e w' ⟨rfl, ⟨nd, rfl⟩⟩; (try first | exact ⟨rfl, _, World.drewN_drewN _ _ _⟩ | exact ⟨rfl, _, Eq.trans (World.drewN_drewN _ _ _) (congrArg (World.drewN _) (Nat.add_assoc _ _ _))⟩))))
        go_meet
        case rel => exact ⟨_, (!t136), Qi, H', ⟨by have := HJ1.out; first | omega | exact Nat.le_refl _⟩, ⟨by refine Qe ?_; exact BK133.out⟩, ⟨Qb HB.out⟩⟩
       ·rw [if_neg c13] at H
        have c13b0 : (a0_1 == 0) = false := beq_eq_false_iff_ne.mpr c13
        have c13b1 : (a0_1 != 0) = true := bne_iff_ne.mpr c13
        have H' := Ak H
        clear H
        obtain ⟨hcz17_0, hcz17_1, hcz17_2, hfz17_0, hfz17_1, hfz17_2⟩ := Qv3 BK133.out
        go_wp2_with (first | (go_at_call 37; (with_reducible refine (spec_l1In.calls a0_0 1 8 true _ A9.out).mono ?_); rintro e w' ⟨rfl, ⟨nd, rfl⟩⟩; (try first | exact ⟨rfl, _, World.drewN_drewN _ _ _⟩ | exact ⟨rfl, _, Eq.trans (World.drewN_drewN _ _ _) (congrArg (World.drewN _) (Nat.add_assoc _ _ _))⟩)))
        repeat (go_quiet (first | (go_at_call 37; (with_reducible refine (spec_l1In.calls a0_0 1 8 true _ A9.out).mono ?_); rintro e w' ⟨rfl, ⟨nd, rfl⟩⟩; (try first | exact ⟨rfl, _, World.drewN_drewN _ _ _⟩ | exact ⟨rfl, _, Eq.trans (World.drewN_drewN _ _ _) (congrArg (World.drewN _) (Nat.add_assoc _ _ _))⟩))); try go_wp2_with (first | (go_at_call 37; (with_reducible refine (spec_l1In.calls a0_0 1 8 true _ A9.out).mono ?_); rintro e w' ⟨rfl, ⟨nd, rfl⟩⟩; (try first | exact ⟨rfl, _, World.drewN_drewN _ _ _⟩ | exact ⟨rfl, _, Eq.trans (World.drewN_drewN _ _ _) (congrArg (World.drewN _) (Nat.add_assoc _ _ _))⟩))))
        go_meet
        case rel => exact ⟨_, (true), Qi, H', ⟨by have := HJ1.out; first | omega | exact Nat.le_refl _⟩, ⟨by refine Qe ?_; exact BK133.out⟩, ⟨Qb HB.out⟩⟩
      ·rw [if_neg c12] at H
       have c12b0 : decide (0 < x3_1) = false := decide_eq_false c12
       clear c12
       replace H := Option.bind_eq_some_iff.mp H
       obtain ⟨t137, A180, H⟩ := H
       replace H : ((spec_l1In.f a0_1 0 t137).bind fun t138 => (spec_l10Shape.j1 kj1 (!t138) a0_0 a0_1 l0_2)) = some r := H
       have A18 := Ak A180
       clear A180
       replace H := Option.bind_eq_some_iff.mp H
       obtain ⟨t138, A190, H⟩ := H
       replace H : (spec_l10Shape.j1 kj1 (!t138) a0_0 a0_1 l0_2) = some r := H
       have A19 := Ak A190
       clear A190
       have H' := Ak H
       clear H
       obtain ⟨hcz20_0, hcz20_1, hcz20_2, hfz20_0, hfz20_1, hfz20_2⟩ := Qv3 BK133.out
       go_wp2_with (first | (go_at_call 37; (with_reducible refine (spec_l1In.calls a0_0 1 8 true _ A9.out).mono ?_); rintro e w' ⟨rfl, ⟨nd, rfl⟩⟩; (try first | exact ⟨rfl, _, World.drewN_drewN _ _ _⟩ | exact ⟨rfl, _, Eq.trans (World.drewN_drewN _ _ _) (congrArg (World.drewN _) (Nat.add_assoc _ _ _))⟩)) | (go_at_call 43; (with_reducible refine (spec_LimitOf.calls kj1 30 t137 _ A18.out).mono ?_); rintro e w' ⟨rfl, ⟨nd, rfl⟩⟩; (try first | exact ⟨rfl, _, World.drewN_drewN _ _ _⟩ | exact ⟨rfl, _, Eq.trans (World.drewN_drewN _ _ _) (congrArg (World.drewN _) (Nat.add_assoc _ _ _))⟩)) | (go_at_call 37; (with_reducible refine (spec_l1In.calls a0_1 0 t137 t138 _ A19.out).mono ?_); rintro e w' ⟨rfl, ⟨nd, rfl⟩⟩; (try first | exact ⟨rfl, _, World.drewN_drewN _ _ _⟩ | exact ⟨rfl, _, Eq.trans (World.drewN_drewN _ _ _) (congrArg (World.drewN _) (Nat.add_assoc _ _ _))⟩)))
       repeat (go_quiet (first | (go_at_call 37; (with_reducible refine (spec_l1In.calls a0_0 1 8 true _ A9.out).mono ?_); rintro e w' ⟨rfl, ⟨nd, rfl⟩⟩; (try first | exact ⟨rfl, _, World.drewN_drewN _ _ _⟩ | exact ⟨rfl, _, Eq.trans (World.drewN_drewN _ _ _) (congrArg (World.drewN _) (Nat.add_assoc _ _ _))⟩)) | (go_at_call 43; (with_reducible refine (spec_LimitOf.calls kj1 30 t137 _ A18.out).mono ?_); rintro e w' ⟨rfl, ⟨nd, rfl⟩⟩; (try first | exact ⟨rfl, _, World.drewN_drewN _ _ _⟩ | exact ⟨rfl, _, Eq.trans (World.drewN_drewN _ _ _) (congrArg (World.drewN _) (Nat.add_assoc _ _ _))⟩)) | (go_at_call 37; (with_reducible refine (spec_l1In.calls a0_1 0 t137 t138 _ A19.out).mono ?_); rintro e w' ⟨rfl, ⟨nd, rfl⟩⟩; (try first | exact ⟨rfl, _, World.drewN_drewN _ _ _⟩ | exact ⟨rfl, _, Eq.trans (World.drewN_drewN _ _ _) (congrArg (World.drewN _) (Nat.add_assoc _ _ _))⟩))); try go_wp2_with (first | (go_at_call 37; (with_reducible refine (spec_l1In.calls a0_0 1 8 true _ A9.out).mono ?_); rintro e w' ⟨rfl, ⟨nd, rfl⟩⟩; (try first | exact ⟨rfl, _, World.drewN_drewN _ _ _⟩ | exact ⟨rfl, _, Eq.trans (World.drewN_drewN _ _ _) (congrArg (World.drewN _) (Nat.add_assoc _ _ _))⟩)) | (go_at_call 43; (with_reducible refine (spec_LimitOf.calls kj1 30 t137 _ A18.out).mono ?_); rintro e w' ⟨rfl, ⟨nd, rfl⟩⟩; (try first | exact ⟨rfl, _, World.drewN_drewN _ _ _⟩ | exact ⟨rfl, _, Eq.trans (World.drewN_drewN _ _ _) (congrArg (World.drewN _) (Nat.add_assoc _ _ _))⟩)) | (go_at_call 37; (with_reducible refine (spec_l1In.calls a0_1 0 t137 t138 _ A19.out).mono ?_); rintro e w' ⟨rfl, ⟨nd, rfl⟩⟩; (try first | exact ⟨rfl, _, World.drewN_drewN _ _ _⟩ | exact ⟨rfl, _, Eq.trans (World.drewN_drewN _ _ _) (congrArg (World.drewN _) (Nat.add_assoc _ _ _))⟩))))
       go_meet
       case rel => exact ⟨_, (!t138), Qi, H', ⟨by have := HJ1.out; first | omega | exact Nat.le_refl _⟩, ⟨by refine Qe ?_; exact BK133.out⟩, ⟨Qb HB.out⟩⟩
     ·rw [if_neg c11] at H
      have c11b0 : ((l0_2.length : Int) == x3_1) = false := beq_eq_false_iff_ne.mpr c11
      have c11b1 : ((l0_2.length : Int) != x3_1) = true := bne_iff_ne.mpr c11
      (first | rw [c11b0] | (simp only [i64_w, i32_w]; rw [c11b0]) | skip)
      have H' := Ak H
      clear H
      obtain ⟨hcz21_0, hcz21_1, hcz21_2, hfz21_0, hfz21_1, hfz21_2⟩ := Qv3 BK133.out
      go_wp2_with (first | (go_at_call 37; (with_reducible refine (spec_l1In.calls a0_0 1 8 true _ A9.out).mono ?_); rintro e w' ⟨rfl, ⟨nd, rfl⟩⟩; (try first | exact ⟨rfl, _, World.drewN_drewN _ _ _⟩ | exact ⟨rfl, _, Eq.trans (World.drewN_drewN _ _ _) (congrArg (World.drewN _) (Nat.add_assoc _ _ _))⟩)))
      repeat (go_quiet (first | (go_at_call 37; (with_reducible refine (spec_l1In.calls a0_0 1 8 true _ A9.out).mono ?_); rintro e w' ⟨rfl, ⟨nd, rfl⟩⟩; (try first | exact ⟨rfl, _, World.drewN_drewN _ _ _⟩ | exact ⟨rfl, _, Eq.trans (World.drewN_drewN _ _ _) (congrArg (World.drewN _) (Nat.add_assoc _ _ _))⟩))); try go_wp2_with (first | (go_at_call 37; (with_reducible refine (spec_l1In.calls a0_0 1 8 true _ A9.out).mono ?_); rintro e w' ⟨rfl, ⟨nd, rfl⟩⟩; (try first | exact ⟨rfl, _, World.drewN_drewN _ _ _⟩ | exact ⟨rfl, _, Eq.trans (World.drewN_drewN _ _ _) (congrArg (World.drewN _) (Nat.add_assoc _ _ _))⟩))))
      go_meet
      case rel => exact ⟨_, (true), Qi, H', ⟨by have := HJ1.out; first | omega | exact Nat.le_refl _⟩, ⟨by refine Qe ?_; exact BK133.out⟩, ⟨Qb HB.out⟩⟩
    ·replace c10 := Bool.eq_false_iff.mpr c10
     (try subst c10)
     have H1 : (spec_l10Shape.j1 kj1 true a0_0 a0_1 l0_2) = some r := by rw [if_neg (show ¬ (false = true) by decide)] at H; exact H
     clear H
     have H := H1
     clear H1
     have H' := Ak H
     clear H
     obtain ⟨hcz22_0, hcz22_1, hcz22_2, hfz22_0, hfz22_1, hfz22_2⟩ := Qv3 BK133.out
     go_wp2_with (first | (go_at_call 37; (with_reducible refine (spec_l1In.calls a0_0 1 8 false _ A9.out).mono ?_); rintro e w' ⟨rfl, ⟨nd, rfl⟩⟩; (try first | exact ⟨rfl, _, World.drewN_drewN _ _ _⟩ | exact ⟨rfl, _, Eq.trans (World.drewN_drewN _ _ _) (congrArg (World.drewN _) (Nat.add_assoc _ _ _))⟩)))
     repeat (go_quiet (first | (go_at_call 37; (with_reducible refine (spec_l1In.calls a0_0 1 8 false _ A9.out).mono ?_); rintro e w' ⟨rfl, ⟨nd, rfl⟩⟩; (try first | exact ⟨rfl, _, World.drewN_drewN _ _ _⟩ | exact ⟨rfl, _, Eq.trans (World.drewN_drewN _ _ _) (congrArg (World.drewN _) (Nat.add_assoc _ _ _))⟩))); try go_wp2_with (first | (go_at_call 37; (with_reducible refine (spec_l1In.calls a0_0 1 8 false _ A9.out).mono ?_); rintro e w' ⟨rfl, ⟨nd, rfl⟩⟩; (try first | exact ⟨rfl, _, World.drewN_drewN _ _ _⟩ | exact ⟨rfl, _, Eq.trans (World.drewN_drewN _ _ _) (congrArg (World.drewN _) (Nat.add_assoc _ _ _))⟩))))
     go_meet
     case rel => exact ⟨_, (true), Qi, H', ⟨by have := HJ1.out; first | omega | exact Nat.le_refl _⟩, ⟨by refine Qe ?_; exact BK133.out⟩, ⟨Qb HB.out⟩⟩
   case rest =>
    clear HC8
    (try clear c1); (try clear p2); (try clear c3); (try clear c5); (try clear c5b0); (try clear c5b1); (try clear c6); (try clear c6b0); (try clear c6b1); (try clear c7); (try clear c7b0); (try clear c7b1); (try clear c10); (try clear c11); (try clear c11b0); (try clear c11b1); (try clear c12); (try clear c12b0); (try clear c13); (try clear c13b0); (try clear c13b1); (try clear hcz16_0); (try clear hcz16_1); (try clear hcz16_2); (try clear hcz17_0); (try clear hcz17_1); (try clear hcz17_2); (try clear hcz20_0); (try clear hcz20_1); (try clear hcz20_2); (try clear hcz21_0); (try clear hcz21_1); (try clear hcz21_2); (try clear hcz22_0); (try clear hcz22_1); (try clear hcz22_2); (try clear hcz4_0); (try clear hcz4_1); (try clear hcz4_2); (try clear hfz16_0); (try clear hfz16_1); (try clear hfz16_2); (try clear hfz17_0); (try clear hfz17_1); (try clear hfz17_2); (try clear hfz20_0); (try clear hfz20_1); (try clear hfz20_2); (try clear hfz21_0); (try clear hfz21_1); (try clear hfz21_2); (try clear hfz22_0); (try clear hfz22_1); (try clear hfz22_2); (try clear hfz4_0); (try clear hfz4_1); (try clear hfz4_2); (try clear p2)
    obtain ⟨kq, x39_7, rfl, HA, HJ7, BK133, HB⟩ := hcut
    cases kq with
    | zero => exact absurd HA.out (by simp [spec_l10Shape.j1])
    | succ kj7 =>
     have H := HA.out
     clear HA
     simp only [spec_l10Shape.j1] at H
     by_cases c23 : x39_7 = true
     ·(try subst c23)
      have H1 : (some false) = some r := by rw [if_pos rfl] at H; exact H
      clear H
      have H := H1
      clear H1
      obtain rfl := Option.some.inj H
      go_wp2
      repeat (go_quiet (fail); try go_wp2)
      go_ret
      exact ⟨Qh, Qb HB.out⟩
     ·replace c23 := Bool.eq_false_iff.mpr c23
      (try subst c23)
      have H1 : (spec_l10Shape.l0 kj7 l0_2 (l0_2.length : Int) 0) = some r := by rw [if_neg (show ¬ (false = true) by decide)] at H; exact H
      clear H
      have H := H1
      clear H1
      have H' := Ak H
      clear H
      obtain ⟨hcz24_0, hcz24_1, hcz24_2, hfz24_0, hfz24_1, hfz24_2⟩ := Qv3 BK133.out
      go_wp2
      repeat (go_quiet (fail); try go_wp2)
      go_loopg [43] kj7 (fun kq v43 w' => ∃ (x43_3 : Int), v43 = .int .i64 x43_3 ∧ Aside0 (spec_l10Shape.l0 kq l0_2 (l0_2.length : Int) x43_3 = some r) ∧ Aside0 (kq ≤ kj7) ∧ Aside0 (w'.heap[gb133]? = some (.cells #[.int .i64 a0_0, .int .i64 a0_1, (.slice A0_2 l0_2.length c0_2)] 28 (0, 0))) ∧ Aside0 (Below w.heap.size w w'))
      case atStart => exact ⟨(0), Qi, H', ⟨Nat.le_refl _⟩, ⟨by refine Qe ?_; exact BK133.out⟩, ⟨Qb HB.out⟩⟩
      case round =>
       clear H'
       (try clear c1); (try clear c2); (try clear p2); (try clear c3); (try clear c5); (try clear c5b0); (try clear c5b1); (try clear c6); (try clear c6b0); (try clear c6b1); (try clear c7); (try clear c7b0); (try clear c7b1); (try clear c10); (try clear c11); (try clear c11b0); (try clear c11b1); (try clear c12); (try clear c12b0); (try clear c13); (try clear c13b0); (try clear c13b1); (try clear c23); (try clear hcz16_0); (try clear hcz16_1); (try clear hcz16_2); (try clear hcz17_0); (try clear hcz17_1); (try clear hcz17_2); (try clear hcz20_0); (try clear hcz20_1); (try clear hcz20_2); (try clear hcz21_0); (try clear hcz21_1); (try clear hcz21_2); (try clear hcz22_0); (try clear hcz22_1); (try clear hcz22_2); (try clear hcz24_0); (try clear hcz24_1); (try clear hcz24_2); (try clear hcz4_0); (try clear hcz4_1); (try clear hcz4_2); (try clear hfz16_0); (try clear hfz16_1); (try clear hfz16_2); (try clear hfz17_0); (try clear hfz17_1); (try clear hfz17_2); (try clear hfz20_0); (try clear hfz20_1); (try clear hfz20_2); (try clear hfz21_0); (try clear hfz21_1); (try clear hfz21_2); (try clear hfz22_0); (try clear hfz22_1); (try clear hfz22_2); (try clear hfz24_0); (try clear hfz24_1); (try clear hfz24_2); (try clear hfz4_0); (try clear hfz4_1); (try clear hfz4_2); (try clear p2)
       obtain ⟨x43_3, rfl, HA, HK3, BK133, HB⟩ := hrel
       cases gk with
       | zero => exact absurd HA.out (by simp [spec_l10Shape.l0])
       | succ k3 =>
        have H := HA.out
        clear HA
        simp only [spec_l10Shape.l0] at H
        by_cases c25 : x43_3 < (l0_2.length : Int)
        ·rw [if_pos c25] at H
         have c25b0 : decide (x43_3 < (l0_2.length : Int)) = true := decide_eq_true c25
         clear c25
         by_cases c26 : 0 ≤ x43_3
         ·rw [if_pos c26] at H
          have c26b0 : decide (0 ≤ x43_3) = true := decide_eq_true c26
          clear c26
          by_cases c27 : x43_3 < (l0_2.length : Int)
          ·rw [if_pos c27] at H
           have c27b0 : decide (x43_3 < (l0_2.length : Int)) = true := decide_eq_true c27
           clear c27
           replace H := Option.bind_eq_some_iff.mp H
           obtain ⟨t141, A280, H⟩ := H
           replace H : (if t141 = true then (spec_l10Shape.l0 k3 l0_2 (l0_2.length : Int) (wrap64 (x43_3 + 1))) else (some false)) = some r := H
           have A28 := Ak A280
           clear A280
           by_cases c29 : t141 = true
           ·(try subst c29)
            have H1 : (spec_l10Shape.l0 k3 l0_2 (l0_2.length : Int) (wrap64 (x43_3 + 1))) = some r := by rw [if_pos rfl] at H; exact H
            clear H
            have H := H1
            clear H1
            have H' := Ak H
            clear H
            have p139 : 0 ≤ (x43_3 : Int) := Qg
            have q139 : x43_3 < (l0_2.length : Int) := Qg
            obtain ⟨ad139, A139_2, c139_2, e139, hx139_0, hx139_1, hx139_2, hl139_2, hi139_2⟩ := at_T28 HR0_2.out x43_3 p139 q139
            cases e139
            (try replace hx139_0 := (HB.out.cell (World.block_lt_of_cell? w _ hx139_0)).trans hx139_0)
            (try replace hx139_1 := (HB.out.cell (World.block_lt_of_cell? w _ hx139_1)).trans hx139_1)
            (try replace hx139_2 := (HB.out.cell (World.block_lt_of_cell? w _ hx139_2)).trans hx139_2)
            have HR139_2 := Ak hi139_2
            have HC139_2 := Ak hl139_2
            clear hi139_2 hl139_2
            replace p139 := eq_true p139
            replace q139 := eq_true q139
            go_wp2_with (first | ((with_reducible refine gate_dst (N := 5) rfl ?_); (try (refine gate_guard (by rfl) ?_; dsimp only)); refine Qk 5 #[.int .i64 0, .int .i64 0, .slice none 0 0] 28 ?_; intro gb140 hg w30 hbox hb; have n0_ := Ak (Qm BK133.out hb); have n1_ := Ak (below_step (Qb HB.out) hb); have n2_ := Ak (hbox); have n3_ := Ak ((Qp hg HB.out : w.heap.size ≤ gb140)); have n4_ := Ak ((Qp hg HB.out : w.heap.size ≤ gb140)); have n5_ := Ak ((by rw [hg]; exact Nat.ne_of_lt (Qn BK133.out) : gb133 ≠ gb140)); have n6_ := Ak ((by rw [hg]; exact Nat.ne_of_gt (Qn BK133.out) : gb140 ≠ gb133)); clear BK133 HB; have BK133 := n0_; have HB := n1_; have BK140 := n2_; have GW140 := n3_; have GE140 := n4_; have NB133_140 := n5_; have NB140_133 := n6_; clear n0_ n1_ n2_ n3_ n4_ n5_ n6_; clear hb hbox hg; have hnb31 := NB140_133.out; have hnc31 := NB133_140.out; obtain ⟨hcz32_0, hcz32_1, hcz32_2⟩ := Qu3 BK140.out; have hfz32_0 := blk_frozen BK140.out 0; have hfz32_1 := blk_frozen BK140.out 1; have hfz32_2 := blk_frozen BK140.out 2) | (go_at_call 33; (with_reducible refine (ih k3 (by have := HJ1.out; have := HJ7.out; have := HK3.out; omega) ((rd_T28 l0_2 x43_3).f0) ((rd_T28 l0_2 x43_3).f1) _ _ ((rd_T28 l0_2 x43_3).f2) true _ ?side1 ?side2 A28.out).mono ?_); (case side1 => exact Kd.C_below HR139_2.out (Qb HB.out)); (case side2 => exact HC139_2.out); rintro e w33 ⟨rfl, hb⟩; have n0_ := Ak (blk_below (g := gb133) (o := .cells #[.int .i64 a0_0, .int .i64 a0_1, .slice (some ad139) l0_2.length c0_2] 28 (0, 0)) (by refine Qe ?_; refine blk_far ?_ NB133_140.out _; refine Qe ?_; refine blk_far ?_ NB133_140.out _; refine Qe ?_; refine blk_far ?_ NB133_140.out _; exact Qa BK133.out) hb); have n1_ := Ak (blk_below (g := gb140) (o := .cells #[.int .i64 ((rd_T28 l0_2 x43_3).f0), .int .i64 ((rd_T28 l0_2 x43_3).f1), .slice A139_2 ((rd_T28 l0_2 x43_3).f2).length c139_2] 28 (0, 0)) (by refine Qe ?_; refine blk_put (cs := #[.int .i64 ((rd_T28 l0_2 x43_3).f0), .int .i64 ((rd_T28 l0_2 x43_3).f1), .slice none 0 0]) ?_ 2 _ rfl; refine Qe ?_; refine blk_put (cs := #[.int .i64 ((rd_T28 l0_2 x43_3).f0), .int .i64 0, .slice none 0 0]) ?_ 1 _ rfl; refine Qe ?_; refine blk_put (cs := #[.int .i64 0, .int .i64 0, .slice none 0 0]) ?_ 0 _ rfl; exact Qa BK140.out) hb); have n2_ := Ak (below_step (Qb HB.out) hb); clear BK133 BK140 HB; have BK133 := n0_; have BK140 := n1_; have HB := n2_; clear n0_ n1_ n2_; (try clear hb); (try clear hb2); (try clear hk); (try clear hi)))
            repeat (go_quiet (first | ((with_reducible refine gate_dst (N := 5) rfl ?_); (try (refine gate_guard (by rfl) ?_; dsimp only)); refine Qk 5 #[.int .i64 0, .int .i64 0, .slice none 0 0] 28 ?_; intro gb140 hg w30 hbox hb; have n0_ := Ak (Qm BK133.out hb); have n1_ := Ak (below_step (Qb HB.out) hb); have n2_ := Ak (hbox); have n3_ := Ak ((Qp hg HB.out : w.heap.size ≤ gb140)); have n4_ := Ak ((Qp hg HB.out : w.heap.size ≤ gb140)); have n5_ := Ak ((by rw [hg]; exact Nat.ne_of_lt (Qn BK133.out) : gb133 ≠ gb140)); have n6_ := Ak ((by rw [hg]; exact Nat.ne_of_gt (Qn BK133.out) : gb140 ≠ gb133)); clear BK133 HB; have BK133 := n0_; have HB := n1_; have BK140 := n2_; have GW140 := n3_; have GE140 := n4_; have NB133_140 := n5_; have NB140_133 := n6_; clear n0_ n1_ n2_ n3_ n4_ n5_ n6_; clear hb hbox hg; have hnb31 := NB140_133.out; have hnc31 := NB133_140.out; obtain ⟨hcz32_0, hcz32_1, hcz32_2⟩ := Qu3 BK140.out; have hfz32_0 := blk_frozen BK140.out 0; have hfz32_1 := blk_frozen BK140.out 1; have hfz32_2 := blk_frozen BK140.out 2) | (go_at_call 33; (with_reducible refine (ih k3 (by have := HJ1.out; have := HJ7.out; have := HK3.out; omega) ((rd_T28 l0_2 x43_3).f0) ((rd_T28 l0_2 x43_3).f1) _ _ ((rd_T28 l0_2 x43_3).f2) true _ ?side1 ?side2 A28.out).mono ?_); (case side1 => exact Kd.C_below HR139_2.out (Qb HB.out)); (case side2 => exact HC139_2.out); rintro e w33 ⟨rfl, hb⟩; have n0_ := Ak (blk_below (g := gb133) (o := .cells #[.int .i64 a0_0, .int .i64 a0_1, .slice (some ad139) l0_2.length c0_2] 28 (0, 0)) (by refine Qe ?_; refine blk_far ?_ NB133_140.out _; refine Qe ?_; refine blk_far ?_ NB133_140.out _; refine Qe ?_; refine blk_far ?_ NB133_140.out _; exact Qa BK133.out) hb); have n1_ := Ak (blk_below (g := gb140) (o := .cells #[.int .i64 ((rd_T28 l0_2 x43_3).f0), .int .i64 ((rd_T28 l0_2 x43_3).f1), .slice A139_2 ((rd_T28 l0_2 x43_3).f2).length c139_2] 28 (0, 0)) (by refine Qe ?_; refine blk_put (cs := #[.int .i64 ((rd_T28 l0_2 x43_3).f0), .int .i64 ((rd_T28 l0_2 x43_3).f1), .slice none 0 0]) ?_ 2 _ rfl; refine Qe ?_; refine blk_put (cs := #[.int .i64 ((rd_T28 l0_2 x43_3).f0), .int .i64 0, .slice none 0 0]) ?_ 1 _ rfl; refine Qe ?_; refine blk_put (cs := #[.int .i64 0, .int .i64 0, .slice none 0 0]) ?_ 0 _ rfl; exact Qa BK140.out) hb); have n2_ := Ak (below_step (Qb HB.out) hb); clear BK133 BK140 HB; have BK133 := n0_; have BK140 := n1_; have HB := n2_; clear n0_ n1_ n2_; (try clear hb); (try clear hb2); (try clear hk); (try clear hi))); try go_wp2_with (first | ((with_reducible refine gate_dst (N := 5) rfl ?_); (try (refine gate_guard (by rfl) ?_; dsimp only)); refine Qk 5 #[.int .i64 0, .int .i64 0, .slice none 0 0] 28 ?_; intro gb140 hg w30 hbox hb; have n0_ := Ak (Qm BK133.out hb); have n1_ := Ak (below_step (Qb HB.out) hb); have n2_ := Ak (hbox); have n3_ := Ak ((Qp hg HB.out : w.heap.size ≤ gb140)); have n4_ := Ak ((Qp hg HB.out : w.heap.size ≤ gb140)); have n5_ := Ak ((by rw [hg]; exact Nat.ne_of_lt (Qn BK133.out) : gb133 ≠ gb140)); have n6_ := Ak ((by rw [hg]; exact Nat.ne_of_gt (Qn BK133.out) : gb140 ≠ gb133)); clear BK133 HB; have BK133 := n0_; have HB := n1_; have BK140 := n2_; have GW140 := n3_; have GE140 := n4_; have NB133_140 := n5_; have NB140_133 := n6_; clear n0_ n1_ n2_ n3_ n4_ n5_ n6_; clear hb hbox hg; have hnb31 := NB140_133.out; have hnc31 := NB133_140.out; obtain ⟨hcz32_0, hcz32_1, hcz32_2⟩ := Qu3 BK140.out; have hfz32_0 := blk_frozen BK140.out 0; have hfz32_1 := blk_frozen BK140.out 1; have hfz32_2 := blk_frozen BK140.out 2) | (go_at_call 33; (with_reducible refine (ih k3 (by have := HJ1.out; have := HJ7.out; have := HK3.out; omega) ((rd_T28 l0_2 x43_3).f0) ((rd_T28 l0_2 x43_3).f1) _ _ ((rd_T28 l0_2 x43_3).f2) true _ ?side1 ?side2 A28.out).mono ?_); (case side1 => exact Kd.C_below HR139_2.out (Qb HB.out)); (case side2 => exact HC139_2.out); rintro e w33 ⟨rfl, hb⟩; have n0_ := Ak (blk_below (g := gb133) (o := .cells #[.int .i64 a0_0, .int .i64 a0_1, .slice (some ad139) l0_2.length c0_2] 28 (0, 0)) (by refine Qe ?_; refine blk_far ?_ NB133_140.out _; refine Qe ?_; refine blk_far ?_ NB133_140.out _; refine Qe ?_; refine blk_far ?_ NB133_140.out _; exact Qa BK133.out) hb); have n1_ := Ak (blk_below (g := gb140) (o := .cells #[.int .i64 ((rd_T28 l0_2 x43_3).f0), .int .i64 ((rd_T28 l0_2 x43_3).f1), .slice A139_2 ((rd_T28 l0_2 x43_3).f2).length c139_2] 28 (0, 0)) (by refine Qe ?_; refine blk_put (cs := #[.int .i64 ((rd_T28 l0_2 x43_3).f0), .int .i64 ((rd_T28 l0_2 x43_3).f1), .slice none 0 0]) ?_ 2 _ rfl; refine Qe ?_; refine blk_put (cs := #[.int .i64 ((rd_T28 l0_2 x43_3).f0), .int .i64 0, .slice none 0 0]) ?_ 1 _ rfl; refine Qe ?_; refine blk_put (cs := #[.int .i64 0, .int .i64 0, .slice none 0 0]) ?_ 0 _ rfl; exact Qa BK140.out) hb); have n2_ := Ak (below_step (Qb HB.out) hb); clear BK133 BK140 HB; have BK133 := n0_; have BK140 := n1_; have HB := n2_; clear n0_ n1_ n2_; (try clear hb); (try clear hb2); (try clear hk); (try clear hi))))
            go_roundg k3
            case measure => have := HJ1.out; have := HJ7.out; have := HK3.out; omega
            case rel => exact ⟨(wrap64 (x43_3 + 1)), Qi, H', ⟨by have := HJ1.out; have := HJ7.out; have := HK3.out; omega⟩, ⟨by refine Qe ?_; exact BK133.out⟩, ⟨Qb HB.out⟩⟩
           ·replace c29 := Bool.eq_false_iff.mpr c29
            (try subst c29)
            have H1 : (some false) = some r := by rw [if_neg (show ¬ (false = true) by decide)] at H; exact H
            clear H
            have H := H1
            clear H1
            obtain rfl := Option.some.inj H
            have p139 : 0 ≤ (x43_3 : Int) := Qg
            have q139 : x43_3 < (l0_2.length : Int) := Qg
            obtain ⟨ad139, A139_2, c139_2, e139, hx139_0, hx139_1, hx139_2, hl139_2, hi139_2⟩ := at_T28 HR0_2.out x43_3 p139 q139
            cases e139
            (try replace hx139_0 := (HB.out.cell (World.block_lt_of_cell? w _ hx139_0)).trans hx139_0)
            (try replace hx139_1 := (HB.out.cell (World.block_lt_of_cell? w _ hx139_1)).trans hx139_1)
            (try replace hx139_2 := (HB.out.cell (World.block_lt_of_cell? w _ hx139_2)).trans hx139_2)
            have HR139_2 := Ak hi139_2
            have HC139_2 := Ak hl139_2
            clear hi139_2 hl139_2
            replace p139 := eq_true p139
            replace q139 := eq_true q139
            go_wp2_with (first | ((with_reducible refine gate_dst (N := 5) rfl ?_); (try (refine gate_guard (by rfl) ?_; dsimp only)); refine Qk 5 #[.int .i64 0, .int .i64 0, .slice none 0 0] 28 ?_; intro gb140 hg w34 hbox hb; have n0_ := Ak (Qm BK133.out hb); have n1_ := Ak (below_step (Qb HB.out) hb); have n2_ := Ak (hbox); have n3_ := Ak ((Qp hg HB.out : w.heap.size ≤ gb140)); have n4_ := Ak ((Qp hg HB.out : w.heap.size ≤ gb140)); have n5_ := Ak ((by rw [hg]; exact Nat.ne_of_lt (Qn BK133.out) : gb133 ≠ gb140)); have n6_ := Ak ((by rw [hg]; exact Nat.ne_of_gt (Qn BK133.out) : gb140 ≠ gb133)); clear BK133 HB; have BK133 := n0_; have HB := n1_; have BK140 := n2_; have GW140 := n3_; have GE140 := n4_; have NB133_140 := n5_; have NB140_133 := n6_; clear n0_ n1_ n2_ n3_ n4_ n5_ n6_; clear hb hbox hg; have hnb35 := NB140_133.out; have hnc35 := NB133_140.out; obtain ⟨hcz36_0, hcz36_1, hcz36_2⟩ := Qu3 BK140.out; have hfz36_0 := blk_frozen BK140.out 0; have hfz36_1 := blk_frozen BK140.out 1; have hfz36_2 := blk_frozen BK140.out 2) | (go_at_call 33; (with_reducible refine (ih k3 (by have := HJ1.out; have := HJ7.out; have := HK3.out; omega) ((rd_T28 l0_2 x43_3).f0) ((rd_T28 l0_2 x43_3).f1) _ _ ((rd_T28 l0_2 x43_3).f2) false _ ?side1 ?side2 A28.out).mono ?_); (case side1 => exact Kd.C_below HR139_2.out (Qb HB.out)); (case side2 => exact HC139_2.out); rintro e w37 ⟨rfl, hb⟩; have n0_ := Ak (blk_below (g := gb133) (o := .cells #[.int .i64 a0_0, .int .i64 a0_1, .slice (some ad139) l0_2.length c0_2] 28 (0, 0)) (by refine Qe ?_; refine blk_far ?_ NB133_140.out _; refine Qe ?_; refine blk_far ?_ NB133_140.out _; refine Qe ?_; refine blk_far ?_ NB133_140.out _; exact Qa BK133.out) hb); have n1_ := Ak (blk_below (g := gb140) (o := .cells #[.int .i64 ((rd_T28 l0_2 x43_3).f0), .int .i64 ((rd_T28 l0_2 x43_3).f1), .slice A139_2 ((rd_T28 l0_2 x43_3).f2).length c139_2] 28 (0, 0)) (by refine Qe ?_; refine blk_put (cs := #[.int .i64 ((rd_T28 l0_2 x43_3).f0), .int .i64 ((rd_T28 l0_2 x43_3).f1), .slice none 0 0]) ?_ 2 _ rfl; refine Qe ?_; refine blk_put (cs := #[.int .i64 ((rd_T28 l0_2 x43_3).f0), .int .i64 0, .slice none 0 0]) ?_ 1 _ rfl; refine Qe ?_; refine blk_put (cs := #[.int .i64 0, .int .i64 0, .slice none 0 0]) ?_ 0 _ rfl; exact Qa BK140.out) hb); have n2_ := Ak (below_step (Qb HB.out) hb); clear BK133 BK140 HB; have BK133 := n0_; have BK140 := n1_; have HB := n2_; clear n0_ n1_ n2_; (try clear hb); (try clear hb2); (try clear hk); (try clear hi)))
            repeat (go_quiet (first | ((with_reducible refine gate_dst (N := 5) rfl ?_); (try (refine gate_guard (by rfl) ?_; dsimp only)); refine Qk 5 #[.int .i64 0, .int .i64 0, .slice none 0 0] 28 ?_; intro gb140 hg w34 hbox hb; have n0_ := Ak (Qm BK133.out hb); have n1_ := Ak (below_step (Qb HB.out) hb); have n2_ := Ak (hbox); have n3_ := Ak ((Qp hg HB.out : w.heap.size ≤ gb140)); have n4_ := Ak ((Qp hg HB.out : w.heap.size ≤ gb140)); have n5_ := Ak ((by rw [hg]; exact Nat.ne_of_lt (Qn BK133.out) : gb133 ≠ gb140)); have n6_ := Ak ((by rw [hg]; exact Nat.ne_of_gt (Qn BK133.out) : gb140 ≠ gb133)); clear BK133 HB; have BK133 := n0_; have HB := n1_; have BK140 := n2_; have GW140 := n3_; have GE140 := n4_; have NB133_140 := n5_; have NB140_133 := n6_; clear n0_ n1_ n2_ n3_ n4_ n5_ n6_; clear hb hbox hg; have hnb35 := NB140_133.out; have hnc35 := NB133_140.out; obtain ⟨hcz36_0, hcz36_1, hcz36_2⟩ := Qu3 BK140.out; have hfz36_0 := blk_frozen BK140.out 0; have hfz36_1 := blk_frozen BK140.out 1; have hfz36_2 := blk_frozen BK140.out 2) | (go_at_call 33; (with_reducible refine (ih k3 (by have := HJ1.out; have := HJ7.out; have := HK3.out; omega) ((rd_T28 l0_2 x43_3).f0) ((rd_T28 l0_2 x43_3).f1) _ _ ((rd_T28 l0_2 x43_3).f2) false _ ?side1 ?side2 A28.out).mono ?_); (case side1 => exact Kd.C_below HR139_2.out (Qb HB.out)); (case side2 => exact HC139_2.out); rintro e w37 ⟨rfl, hb⟩; have n0_ := Ak (blk_below (g := gb133) (o := .cells #[.int .i64 a0_0, .int .i64 a0_1, .slice (some ad139) l0_2.length c0_2] 28 (0, 0)) (by refine Qe ?_; refine blk_far ?_ NB133_140.out _; refine Qe ?_; refine blk_far ?_ NB133_140.out _; refine Qe ?_; refine blk_far ?_ NB133_140.out _; exact Qa BK133.out) hb); have n1_ := Ak (blk_below (g := gb140) (o := .cells #[.int .i64 ((rd_T28 l0_2 x43_3).f0), .int .i64 ((rd_T28 l0_2 x43_3).f1), .slice A139_2 ((rd_T28 l0_2 x43_3).f2).length c139_2] 28 (0, 0)) (by refine Qe ?_; refine blk_put (cs := #[.int .i64 ((rd_T28 l0_2 x43_3).f0), .int .i64 ((rd_T28 l0_2 x43_3).f1), .slice none 0 0]) ?_ 2 _ rfl; refine Qe ?_; refine blk_put (cs := #[.int .i64 ((rd_T28 l0_2 x43_3).f0), .int .i64 0, .slice none 0 0]) ?_ 1 _ rfl; refine Qe ?_; refine blk_put (cs := #[.int .i64 0, .int .i64 0, .slice none 0 0]) ?_ 0 _ rfl; exact Qa BK140.out) hb); have n2_ := Ak (below_step (Qb HB.out) hb); clear BK133 BK140 HB; have BK133 := n0_; have BK140 := n1_; have HB := n2_; clear n0_ n1_ n2_; (try clear hb); (try clear hb2); (try clear hk); (try clear hi))); try go_wp2_with (first | ((with_reducible refine gate_dst (N := 5) rfl ?_); (try (refine gate_guard (by rfl) ?_; dsimp only)); refine Qk 5 #[.int .i64 0, .int .i64 0, .slice none 0 0] 28 ?_; intro gb140 hg w34 hbox hb; have n0_ := Ak (Qm BK133.out hb); have n1_ := Ak (below_step (Qb HB.out) hb); have n2_ := Ak (hbox); have n3_ := Ak ((Qp hg HB.out : w.heap.size ≤ gb140)); have n4_ := Ak ((Qp hg HB.out : w.heap.size ≤ gb140)); have n5_ := Ak ((by rw [hg]; exact Nat.ne_of_lt (Qn BK133.out) : gb133 ≠ gb140)); have n6_ := Ak ((by rw [hg]; exact Nat.ne_of_gt (Qn BK133.out) : gb140 ≠ gb133)); clear BK133 HB; have BK133 := n0_; have HB := n1_; have BK140 := n2_; have GW140 := n3_; have GE140 := n4_; have NB133_140 := n5_; have NB140_133 := n6_; clear n0_ n1_ n2_ n3_ n4_ n5_ n6_; clear hb hbox hg; have hnb35 := NB140_133.out; have hnc35 := NB133_140.out; obtain ⟨hcz36_0, hcz36_1, hcz36_2⟩ := Qu3 BK140.out; have hfz36_0 := blk_frozen BK140.out 0; have hfz36_1 := blk_frozen BK140.out 1; have hfz36_2 := blk_frozen BK140.out 2) | (go_at_call 33; (with_reducible refine (ih k3 (by have := HJ1.out; have := HJ7.out; have := HK3.out; omega) ((rd_T28 l0_2 x43_3).f0) ((rd_T28 l0_2 x43_3).f1) _ _ ((rd_T28 l0_2 x43_3).f2) false _ ?side1 ?side2 A28.out).mono ?_); (case side1 => exact Kd.C_below HR139_2.out (Qb HB.out)); (case side2 => exact HC139_2.out); rintro e w37 ⟨rfl, hb⟩; have n0_ := Ak (blk_below (g := gb133) (o := .cells #[.int .i64 a0_0, .int .i64 a0_1, .slice (some ad139) l0_2.length c0_2] 28 (0, 0)) (by refine Qe ?_; refine blk_far ?_ NB133_140.out _; refine Qe ?_; refine blk_far ?_ NB133_140.out _; refine Qe ?_; refine blk_far ?_ NB133_140.out _; exact Qa BK133.out) hb); have n1_ := Ak (blk_below (g := gb140) (o := .cells #[.int .i64 ((rd_T28 l0_2 x43_3).f0), .int .i64 ((rd_T28 l0_2 x43_3).f1), .slice A139_2 ((rd_T28 l0_2 x43_3).f2).length c139_2] 28 (0, 0)) (by refine Qe ?_; refine blk_put (cs := #[.int .i64 ((rd_T28 l0_2 x43_3).f0), .int .i64 ((rd_T28 l0_2 x43_3).f1), .slice none 0 0]) ?_ 2 _ rfl; refine Qe ?_; refine blk_put (cs := #[.int .i64 ((rd_T28 l0_2 x43_3).f0), .int .i64 0, .slice none 0 0]) ?_ 1 _ rfl; refine Qe ?_; refine blk_put (cs := #[.int .i64 0, .int .i64 0, .slice none 0 0]) ?_ 0 _ rfl; exact Qa BK140.out) hb); have n2_ := Ak (below_step (Qb HB.out) hb); clear BK133 BK140 HB; have BK133 := n0_; have BK140 := n1_; have HB := n2_; clear n0_ n1_ n2_; (try clear hb); (try clear hb2); (try clear hk); (try clear hi))))
            go_ret
            exact ⟨Qh, Qb HB.out⟩
          ·rw [if_neg c27] at H
           exact absurd H (by simp)
         ·rw [if_neg c26] at H
          exact absurd H (by simp)
        ·rw [if_neg c25] at H
         have c25b0 : decide (x43_3 < (l0_2.length : Int)) = false := decide_eq_false c25
         clear c25
         obtain rfl := Option.some.inj H
         go_wp2
         repeat (go_quiet (fail); try go_wp2)
         go_ret
         exact ⟨Qh, Qb HB.out⟩

end Go.Proofs.Ythlagaopjmeaaaa.HFnExactCompileExpr

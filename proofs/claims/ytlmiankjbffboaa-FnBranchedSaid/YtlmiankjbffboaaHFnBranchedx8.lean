/- Text for FnBranched: written by a program of this session on the pattern of the kit's print. -/
import Derived.Test.YtlmiankjbffboaaHFnBranchedx0
import Derived.Test.YtlmiankjbffboaaHFnBranchedx2
import Derived.Test.YtlmiankjbffboaaHFnBranchedx5
import Derived.Test.YtlmiankjbffboaaHFnBranchedx6
import Derived.Test.YtlmiankjbffboaaHFnBranchedx7
namespace Go.Proofs.Ytlmiankjbffboaa.HFnBranched
set_option maxHeartbeats 8000000
set_option maxRecDepth 100000
open Go.RowKit Go.Proofs.YtlmiankjbffboaaW.PrintWords Go.Proofs.YtlmiankjbffboaaW.PrintLast Go.Proofs.YtlmiankjbffboaaW.PrintMore
attribute [local go_sem] max2_int min2_int max_two min_two max_three min_three max_four min_four
set_option linter.unusedVariables false
set_option linter.unusedSimpArgs false

/-! ### spec_l1Parts: function 95 -/
mutual
def spec_l1Parts.l0 : Nat → Int → Int → Option (Int × Int)
 | 0, _, _ => none
 | k + 1, x0, x4 => if x0 > 1 then (spec_l1Parts.l0 k (wrap64 (x0 - 3)) (wrap64 (x4 + 1))) else (spec_l1Parts.l1 k x0 x4)
def spec_l1Parts.l1 : Nat → Int → Int → Option (Int × Int)
 | 0, _, _ => none
 | k + 1, x0, x4 => if x0 < (-1) then (spec_l1Parts.l1 k (wrap64 (x0 + 3)) (wrap64 (x4 - 1))) else (some (x0, x4))
end
def spec_l1Parts.f (k : Nat) (a0 : Int) : Option (Int × Int) := spec_l1Parts.l0 k a0 0
theorem spec_l1Parts.mono_l : ∀ k, (∀ y0 y1, LeO (spec_l1Parts.l0 k y0 y1) (spec_l1Parts.l0 (k + 1) y0 y1)) ∧ (∀ y0 y1, LeO (spec_l1Parts.l1 k y0 y1) (spec_l1Parts.l1 (k + 1) y0 y1))
 | 0 => ⟨fun _ _ r h => by simp [spec_l1Parts.l0] at h, fun _ _ r h => by simp [spec_l1Parts.l1] at h⟩
 | k + 1 => by
  obtain ⟨ih0, ih1⟩ := spec_l1Parts.mono_l k
  refine ⟨?_, ?_⟩
  ·intro y0 y1
   unfold spec_l1Parts.l0
   repeat' first
   | (with_reducible exact ih0 _ _)
   | (with_reducible exact ih1 _ _)
   | (with_reducible exact LeO.refl _)
   | (with_reducible exact LeO.none _)
   | (with_reducible refine LeO.ite ?_ ?_)
   | (with_reducible refine LeO.bind ?_ (fun _ => ?_))
   | exact ih0 _ _
   | exact ih1 _ _
   | exact LeO.none _
   | refine LeO.ite ?_ ?_
   | refine LeO.bind ?_ (fun _ => ?_)
  ·intro y0 y1
   unfold spec_l1Parts.l1
   repeat' first
   | (with_reducible exact ih0 _ _)
   | (with_reducible exact ih1 _ _)
   | (with_reducible exact LeO.refl _)
   | (with_reducible exact LeO.none _)
   | (with_reducible refine LeO.ite ?_ ?_)
   | (with_reducible refine LeO.bind ?_ (fun _ => ?_))
   | exact ih0 _ _
   | exact ih1 _ _
   | exact LeO.none _
   | refine LeO.ite ?_ ?_
   | refine LeO.bind ?_ (fun _ => ?_)
theorem spec_l1Parts.mono : ∀ a0 k, LeO (spec_l1Parts.f k a0) (spec_l1Parts.f (k + 1) a0) := by
 intro a0 k
 obtain ⟨ih0, ih1⟩ := spec_l1Parts.mono_l k
 unfold spec_l1Parts.f
 repeat' first
   | (with_reducible exact ih0 _ _)
   | (with_reducible exact ih1 _ _)
   | (with_reducible exact LeO.refl _)
   | (with_reducible exact LeO.none _)
   | (with_reducible refine LeO.ite ?_ ?_)
   | (with_reducible refine LeO.bind ?_ (fun _ => ?_))
   | exact ih0 _ _
   | exact ih1 _ _
   | exact LeO.none _
   | refine LeO.ite ?_ ?_
   | refine LeO.bind ?_ (fun _ => ?_)
theorem spec_l1Parts.calls (k : Nat) (a0 : Int) (r1 : Int) (r2 : Int) (w : World) (h : spec_l1Parts.f k a0 = some (r1, r2)) :
  Calls Try.prog 95 #[.int .i64 a0] w fun e w' => e = .returned (.tuple #[.int .i64 r1, .int .i64 r2]) ∧ Drawn0 w w' := by
 have H : (spec_l1Parts.l0 k a0 0) = some (r1, r2) := h
 clear h
 have H' := Ak H
 clear H
 go_enter Try.func95, Try.ntmps95
 go_wp2
 go_loopg [0, 4] k (fun kq v0 v4 w' => ∃ (x0_1 : Int) (x4_1 : Int), v0 = .int .i64 x0_1 ∧ v4 = .int .i64 x4_1 ∧ Aside0 (spec_l1Parts.l0 kq x0_1 x4_1 = some (r1, r2)) ∧ Aside0 (kq ≤ k) ∧ Drawn0 w w')
 case atStart => exact ⟨(a0), (0), Qi, Qi, H', ⟨Nat.le_refl _⟩, Ql⟩
 case round =>
  clear H'
  obtain ⟨x0_1, x4_1, rfl, rfl, HA, HK1, ⟨m1, rfl⟩⟩ := hrel
  cases gk with
  | zero => exact absurd HA.out (by simp [spec_l1Parts.l0])
  | succ k1 =>
   have H := HA.out
   clear HA
   simp only [spec_l1Parts.l0] at H
   by_cases c2 : x0_1 > 1
   ·rw [if_pos c2] at H
    have c2b0 : decide (1 < x0_1) = true := decide_eq_true c2
    clear c2
    have H' := Ak H
    clear H
    go_wp2
    go_roundg k1
    case measure => have := HK1.out; omega
    case rel => exact ⟨(wrap64 (x0_1 - 3)), (wrap64 (x4_1 + 1)), Qi, Qi, H', ⟨by have := HK1.out; omega⟩, Ql⟩
   ·rw [if_neg c2] at H
    have c2b0 : decide (1 < x0_1) = false := decide_eq_false c2
    clear c2
    have H' := Ak H
    clear H
    go_wp2
    go_loopg [0, 4] k1 (fun kq v0 v4 w' => ∃ (x0_2 : Int) (x4_2 : Int), v0 = .int .i64 x0_2 ∧ v4 = .int .i64 x4_2 ∧ Aside0 (spec_l1Parts.l1 kq x0_2 x4_2 = some (r1, r2)) ∧ Aside0 (kq ≤ k1) ∧ Drawn0 w w')
    case atStart => exact ⟨(x0_1), (x4_1), Qi, Qi, H', ⟨Nat.le_refl _⟩, Ql⟩
    case round =>
     clear H'
     (try clear c2); (try clear c2b0); (try clear p2)
     obtain ⟨x0_2, x4_2, rfl, rfl, HA, HK2, ⟨m2, rfl⟩⟩ := hrel
     cases gk with
     | zero => exact absurd HA.out (by simp [spec_l1Parts.l1])
     | succ k2 =>
      have H := HA.out
      clear HA
      simp only [spec_l1Parts.l1] at H
      by_cases c3 : x0_2 < (-1)
      ·rw [if_pos c3] at H
       have c3b0 : decide (x0_2 < (-1)) = true := decide_eq_true c3
       clear c3
       have H' := Ak H
       clear H
       go_wp2
       go_roundg k2
       case measure => have := HK1.out; have := HK2.out; omega
       case rel => exact ⟨(wrap64 (x0_2 + 3)), (wrap64 (x4_2 - 1)), Qi, Qi, H', ⟨by have := HK1.out; have := HK2.out; omega⟩, Ql⟩
      ·rw [if_neg c3] at H
       have c3b0 : decide (x0_2 < (-1)) = false := decide_eq_false c3
       clear c3
       simp only [Option.some.injEq, Prod.mk.injEq] at H
       obtain ⟨rfl, rfl⟩ := H
       go_wp2
       go_ret2
       exact ⟨Qi, Ql⟩

/-! ### spec_FullAdd: function 82 -/
def spec_FullAdd.f (k : Nat) (a0 : Int) (a1 : Int) (a2 : Int) : Option (Int × Int) := (spec_l1Two.f a0 a1).bind fun t232 => (if t232 = true then ((spec_IsTrit.f a2).bind fun t233 => (if t233 = true then ((spec_l1Parts.f k (wrap64 ((wrap64 (a0 + a1)) + a2))).bind fun bt234 => (some (bt234.1, bt234.2))) else (some (0, 0)))) else (some (0, 0)))
theorem spec_FullAdd.mono : ∀ a0 a1 a2 k, LeO (spec_FullAdd.f k a0 a1 a2) (spec_FullAdd.f (k + 1) a0 a1 a2) := by
 intro a0 a1 a2 k
 unfold spec_FullAdd.f
 repeat' first
   | (with_reducible exact spec_l1Parts.mono _ _)
   | (with_reducible exact LeO.refl _)
   | (with_reducible exact LeO.none _)
   | (with_reducible refine LeO.ite ?_ ?_)
   | (with_reducible refine LeO.bind ?_ (fun _ => ?_))
   | exact spec_l1Parts.mono _ _
   | exact LeO.none _
   | refine LeO.ite ?_ ?_
   | refine LeO.bind ?_ (fun _ => ?_)
theorem spec_FullAdd.calls (k : Nat) (a0 : Int) (a1 : Int) (a2 : Int) (r1 : Int) (r2 : Int) (w : World) (h : spec_FullAdd.f k a0 a1 a2 = some (r1, r2)) :
  Calls Try.prog 82 #[.int .i64 a0, .int .i64 a1, .int .i64 a2] w fun e w' => e = .returned (.tuple #[.int .i64 r1, .int .i64 r2]) ∧ Drawn0 w w' := by
 have H : ((spec_l1Two.f a0 a1).bind fun t232 => (if t232 = true then ((spec_IsTrit.f a2).bind fun t233 => (if t233 = true then ((spec_l1Parts.f k (wrap64 ((wrap64 (a0 + a1)) + a2))).bind fun bt234 => (some (bt234.1, bt234.2))) else (some (0, 0)))) else (some (0, 0)))) = some (r1, r2) := h
 clear h
 replace H := Option.bind_eq_some_iff.mp H
 obtain ⟨t232, A40, H⟩ := H
 replace H : (if t232 = true then ((spec_IsTrit.f a2).bind fun t233 => (if t233 = true then ((spec_l1Parts.f k (wrap64 ((wrap64 (a0 + a1)) + a2))).bind fun bt234 => (some (bt234.1, bt234.2))) else (some (0, 0)))) else (some (0, 0))) = some (r1, r2) := H
 have A4 := Ak A40
 clear A40
 by_cases c5 : t232 = true
 ·(try subst c5)
  have H1 : ((spec_IsTrit.f a2).bind fun t233 => (if t233 = true then ((spec_l1Parts.f k (wrap64 ((wrap64 (a0 + a1)) + a2))).bind fun bt234 => (some (bt234.1, bt234.2))) else (some (0, 0)))) = some (r1, r2) := by rw [if_pos rfl] at H; exact H
  clear H
  have H := H1
  clear H1
  replace H := Option.bind_eq_some_iff.mp H
  obtain ⟨t233, A60, H⟩ := H
  replace H : (if t233 = true then ((spec_l1Parts.f k (wrap64 ((wrap64 (a0 + a1)) + a2))).bind fun bt234 => (some (bt234.1, bt234.2))) else (some (0, 0))) = some (r1, r2) := H
  have A6 := Ak A60
  clear A60
  by_cases c7 : t233 = true
  ·(try subst c7)
   have H1 : ((spec_l1Parts.f k (wrap64 ((wrap64 (a0 + a1)) + a2))).bind fun bt234 => (some (bt234.1, bt234.2))) = some (r1, r2) := by rw [if_pos rfl] at H; exact H
   clear H
   have H := H1
   clear H1
   replace H := Option.bind_eq_some_iff.mp H
   obtain ⟨⟨t234, t235⟩, A80, H⟩ := H
   replace H : (some (t234, t235)) = some (r1, r2) := H
   have A8 := Ak A80
   clear A80
   simp only [Option.some.injEq, Prod.mk.injEq] at H
   obtain ⟨rfl, rfl⟩ := H
   go_enter Try.func82, Try.ntmps82
   go_wp2_with (first | ((with_reducible refine gate_callee (f := 94) rfl ?_); refine Qj (some 10) Try.func94 #[.int .i64 a0, .int .i64 a1] ?_; (with_reducible refine (spec_l1Two.calls a0 a1 true _ A4.out).mono ?_); rintro e w' ⟨rfl, ⟨nd, rfl⟩⟩; refine ⟨_, rfl, ?_⟩) | (go_at_call 64; (with_reducible refine (spec_IsTrit.calls a2 true _ A6.out).mono ?_); rintro e w' ⟨rfl, ⟨nd, rfl⟩⟩) | ((with_reducible refine gate_callee (f := 95) rfl ?_); refine Qj (some 22) Try.func95 #[.int .i64 (wrap64 ((wrap64 (a0 + a1)) + a2))] ?_; (with_reducible refine (spec_l1Parts.calls k (wrap64 ((wrap64 (a0 + a1)) + a2)) t234 t235 _ A8.out).mono ?_); rintro e w' ⟨rfl, ⟨nd, rfl⟩⟩; refine ⟨_, rfl, ?_⟩))
   go_ret2
   exact ⟨Qi, Ql⟩
  ·replace c7 := Bool.eq_false_iff.mpr c7
   (try subst c7)
   have H1 : (some (0, 0)) = some (r1, r2) := by rw [if_neg (show ¬ (false = true) by decide)] at H; exact H
   clear H
   have H := H1
   clear H1
   simp only [Option.some.injEq, Prod.mk.injEq] at H
   obtain ⟨rfl, rfl⟩ := H
   go_enter Try.func82, Try.ntmps82
   go_wp2_with (first | ((with_reducible refine gate_callee (f := 94) rfl ?_); refine Qj (some 10) Try.func94 #[.int .i64 a0, .int .i64 a1] ?_; (with_reducible refine (spec_l1Two.calls a0 a1 true _ A4.out).mono ?_); rintro e w' ⟨rfl, ⟨nd, rfl⟩⟩; refine ⟨_, rfl, ?_⟩) | (go_at_call 64; (with_reducible refine (spec_IsTrit.calls a2 false _ A6.out).mono ?_); rintro e w' ⟨rfl, ⟨nd, rfl⟩⟩))
   go_ret2
   exact ⟨Qi, Ql⟩
 ·replace c5 := Bool.eq_false_iff.mpr c5
  (try subst c5)
  have H1 : (some (0, 0)) = some (r1, r2) := by rw [if_neg (show ¬ (false = true) by decide)] at H; exact H
  clear H
  have H := H1
  clear H1
  simp only [Option.some.injEq, Prod.mk.injEq] at H
  obtain ⟨rfl, rfl⟩ := H
  go_enter Try.func82, Try.ntmps82
  go_wp2_with (first | ((with_reducible refine gate_callee (f := 94) rfl ?_); refine Qj (some 10) Try.func94 #[.int .i64 a0, .int .i64 a1] ?_; (with_reducible refine (spec_l1Two.calls a0 a1 false _ A4.out).mono ?_); rintro e w' ⟨rfl, ⟨nd, rfl⟩⟩; refine ⟨_, rfl, ?_⟩))
  go_ret2
  exact ⟨Qi, Ql⟩

/-! ### spec_l3Add: function 65 -/
def spec_l3Add.l0 : Nat → List Int → Int → List Int → List Int → List Int → Int → Int → Option (List Int × List Int × Int)
 | 0, _, _, _, _, _, _, _ => none
 | k + 1, x1, x2, x9, x10, x17, x18, x19 => if x19 < x18 then (if 0 ≤ x19 then (if x19 < (x17.length : Int) then (if x10.length < 17592186044416 then (if x19 < (x1.length : Int) then ((spec_FullAdd.f k (rd x17 x19) (rd x1 x19) x2).bind fun bt247 => (if x9.length < 17592186044416 then (spec_l3Add.l0 k x1 bt247.2 (x9 ++ [bt247.1]) (x10 ++ [x2]) x17 x18 (wrap64 (x19 + 1))) else (none))) else (none)) else (none)) else (none)) else (none)) else (some (x9, x10, x2))
def spec_l3Add.f (k : Nat) (l0 : List Int) (l1 : List Int) (a2 : Int) : Option (List Int × List Int × Int) := spec_l3Add.l0 k l1 a2 (([] : List Int)) (([] : List Int)) l0 (l0.length : Int) 0
theorem spec_l3Add.mono_l : ∀ k, (∀ y0 y1 y2 y3 y4 y5 y6, LeO (spec_l3Add.l0 k y0 y1 y2 y3 y4 y5 y6) (spec_l3Add.l0 (k + 1) y0 y1 y2 y3 y4 y5 y6))
 | 0 => fun _ _ _ _ _ _ _ r h => by simp [spec_l3Add.l0] at h
 | k + 1 => by
  have ih0 := spec_l3Add.mono_l k
  ·intro y0 y1 y2 y3 y4 y5 y6
   unfold spec_l3Add.l0
   repeat' first
   | (with_reducible exact ih0 _ _ _ _ _ _ _)
   | (with_reducible exact spec_FullAdd.mono _ _ _ _)
   | (with_reducible exact LeO.refl _)
   | (with_reducible exact LeO.none _)
   | (with_reducible refine LeO.ite ?_ ?_)
   | (with_reducible refine LeO.bind ?_ (fun _ => ?_))
   | exact ih0 _ _ _ _ _ _ _
   | exact spec_FullAdd.mono _ _ _ _
   | exact LeO.none _
   | refine LeO.ite ?_ ?_
   | refine LeO.bind ?_ (fun _ => ?_)
theorem spec_l3Add.mono : ∀ a0 a1 a2 k, LeO (spec_l3Add.f k a0 a1 a2) (spec_l3Add.f (k + 1) a0 a1 a2) := by
 intro a0 a1 a2 k
 have ih0 := spec_l3Add.mono_l k
 unfold spec_l3Add.f
 repeat' first
   | (with_reducible exact ih0 _ _ _ _ _ _ _)
   | (with_reducible exact spec_FullAdd.mono _ _ _ _)
   | (with_reducible exact LeO.refl _)
   | (with_reducible exact LeO.none _)
   | (with_reducible refine LeO.ite ?_ ?_)
   | (with_reducible refine LeO.bind ?_ (fun _ => ?_))
   | exact ih0 _ _ _ _ _ _ _
   | exact spec_FullAdd.mono _ _ _ _
   | exact LeO.none _
   | refine LeO.ite ?_ ?_
   | refine LeO.bind ?_ (fun _ => ?_)
theorem spec_l3Add.calls (k : Nat) (A0 : Option Addr) (c0 : Nat) (l0 : List Int) (A1 : Option Addr) (c1 : Nat) (l1 : List Int) (a2 : Int) (r1 : List Int) (r2 : List Int) (r3 : Int) (w : World) (hr0 : Kd.C (Kd.int .i64) w A0 l0.length l0) (hc0 : l0.length ≤ c0) (hr1 : Kd.C (Kd.int .i64) w A1 l1.length l1) (hc1 : l1.length ≤ c1) (h : spec_l3Add.f k l0 l1 a2 = some (r1, r2, r3)) :
  Calls Try.prog 65 #[.slice A0 l0.length c0, .slice A1 l1.length c1, .int .i64 a2] w fun e w' => ∃ v0_ v1_ : Value, e = .returned (.tuple #[v0_, v1_, .int .i64 r3]) ∧ Kd.R (Kd.int .i64) 3 w' w.heap.size (fun k_ => some k_ ≠ (v1_ : Value).ownBlock) v0_ r1 ∧ Kd.R (Kd.int .i64) 3 w' w.heap.size (fun k_ => some k_ ≠ (v0_ : Value).ownBlock) v1_ r2 ∧ Below w.heap.size w w' := by
 have HR0 := Ak hr0
 have HC0 := Ak hc0
 clear hr0 hc0
 have HR1 := Ak hr1
 have HC1 := Ak hc1
 clear hr1 hc1
 have HB := Ak (Below.refl w.heap.size w)
 have H : (spec_l3Add.l0 k l1 a2 (([] : List Int)) (([] : List Int)) l0 (l0.length : Int) 0) = some (r1, r2, r3) := h
 clear h
 obtain ⟨y236, hy236⟩ : ∃ y_ : List Int, y_ = (([] : List Int)) := ⟨_, rfl⟩
 replace H : (spec_l3Add.l0 k l1 a2 y236 (([] : List Int)) l0 (l0.length : Int) 0) = some (r1, r2, r3) := by first | (rw [hy236]; with_reducible exact H) | (have H2_ := (Option.bind_some _ _).symm.trans H; rw [hy236]; with_reducible exact H2_) | (have H2_ := (Option.bind_some _ _).symm.trans H; with_reducible exact H2_) | with_reducible exact H | (rw [hy236]; exact H) | exact H
 have Ny236 := Ak hy236
 clear hy236
 obtain ⟨y239, hy239⟩ : ∃ y_ : List Int, y_ = (([] : List Int)) := ⟨_, rfl⟩
 replace H : (spec_l3Add.l0 k l1 a2 y236 y239 l0 (l0.length : Int) 0) = some (r1, r2, r3) := by first | (rw [hy239]; with_reducible exact H) | (have H2_ := (Option.bind_some _ _).symm.trans H; rw [hy239]; with_reducible exact H2_) | (have H2_ := (Option.bind_some _ _).symm.trans H; with_reducible exact H2_) | with_reducible exact H | (rw [hy239]; exact H) | exact H
 have Ny239 := Ak hy239
 clear hy239
 have H' := Ak H
 clear H
 go_enter Try.func65, Try.ntmps65
 go_wp2_with (first | ((with_reducible refine gate_dst (N := 15) rfl ?_); refine Kd.R_lit (Kd.int .i64) _ 3 ?hg (N := 15) ?hd (xs := ([] : List Int)) (inner := []) (ok := fun _ => True) (okp := fun _ => True) ?hr ?hp (fun _ hk => hk) trivial (Below.refl _ _) (Nat.le_refl _) (by simp) ?_; (case hd => rfl); (case hg => rfl); (case hr => first | (go_simp; done) | (go_simp; rfl)); (case hp => exact (Reps.none _ _)); intro v237 w4 ho5 hb hg_ hnew_; clear hg_ hnew_; (first | rw [← Ny236.out] at ho5 | (simp only [Int.reduceToNat] at ho5; rw [← Ny236.out] at ho5)); have n0_ := Ak (Kd.R_lower ho5 (below_size (Qb HB.out))); have n1_ := Ak (below_step (Qb HB.out) hb); clear HB; have HO238 := n0_; have HB := n1_; clear n0_ n1_; clear hb ho5) | ((with_reducible refine gate_dst (N := 16) rfl ?_); refine Kd.R_lit (Kd.int .i64) _ 3 ?hg (N := 16) ?hd (xs := ([] : List Int)) (inner := []) (ok := fun _ => True) (okp := fun _ => True) ?hr ?hp (fun _ hk => hk) trivial (Below.refl _ _) (Nat.le_refl _) (by simp) ?_; (case hd => rfl); (case hg => rfl); (case hr => first | (go_simp; done) | (go_simp; rfl)); (case hp => exact (Reps.none _ _)); intro v240 w6 ho7 hb hg_ hnew_; clear hg_ hnew_; (first | rw [← Ny239.out] at ho7 | (simp only [Int.reduceToNat] at ho7; rw [← Ny239.out] at ho7)); have n0_ := Ak (Kd.R_elder' (Qc HO238.out) (Kd.R_base ho7) hb); have n1_ := Ak (Kd.R_lower (Kd.R_new' ho7 (Kd.R_lt (Qc HO238.out))) (below_size (Qb HB.out))); have n2_ := Ak (below_step (Qb HB.out) hb); clear HO238 HB; have HO238 := n0_; have HO241 := n1_; have HB := n2_; clear n0_ n1_ n2_; clear hb ho7))
 go_loopg [2, 9, 10, 19] k (fun kq v2 v9 v10 v19 w' => ∃ (x2_1 : Int) (x9_1 : List Int) (x10_1 : List Int) (x19_1 : Int), v2 = .int .i64 x2_1 ∧ v19 = .int .i64 x19_1 ∧ Aside0 (spec_l3Add.l0 kq l1 x2_1 x9_1 x10_1 l0 (l0.length : Int) x19_1 = some (r1, r2, r3)) ∧ Aside0 (kq ≤ k) ∧ Aside0 (Kd.R (Kd.int .i64) 3 w' w.heap.size (fun k_ => some k_ ≠ (v10 : Value).ownBlock) v9 x9_1) ∧ Aside0 (Kd.R (Kd.int .i64) 3 w' w.heap.size (fun k_ => some k_ ≠ (v9 : Value).ownBlock) v10 x10_1) ∧ Aside0 (Below w.heap.size w w'))
 case atStart => exact ⟨(a2), (y236), (y239), (0), Qi, Qi, H', ⟨Nat.le_refl _⟩, ⟨by refine Qf ?_; exact Kd.R_mono HO238.out (fun _ hk => hk.2)⟩, ⟨by refine Qf ?_; exact Kd.R_mono HO241.out (fun _ hk => hk.2)⟩, ⟨Qb HB.out⟩⟩
 case round =>
  clear H'
  (try clear c1); (try clear p2); (try clear c6)
  obtain ⟨x2_1, x9_1, x10_1, x19_1, rfl, rfl, HA, HK1, HO_9, HO_10, HB⟩ := hrel
  cases gk with
  | zero => exact absurd HA.out (by simp [spec_l3Add.l0])
  | succ k1 =>
   have H := HA.out
   clear HA
   simp only [spec_l3Add.l0] at H
   by_cases c8 : x19_1 < (l0.length : Int)
   ·rw [if_pos c8] at H
    have c8b0 : decide (x19_1 < (l0.length : Int)) = true := decide_eq_true c8
    clear c8
    by_cases c9 : 0 ≤ x19_1
    ·rw [if_pos c9] at H
     have c9b0 : decide (0 ≤ x19_1) = true := decide_eq_true c9
     clear c9
     by_cases c10 : x19_1 < (l0.length : Int)
     ·rw [if_pos c10] at H
      have c10b0 : decide (x19_1 < (l0.length : Int)) = true := decide_eq_true c10
      clear c10
      by_cases c11 : x10_1.length < 17592186044416
      ·rw [if_pos c11] at H
       have LMc11 := Ak c11
       clear c11
       obtain ⟨y243, hy243⟩ : ∃ y_ : List Int, y_ = (x10_1 ++ [x2_1]) := ⟨_, rfl⟩
       replace H : (if x19_1 < (l1.length : Int) then ((spec_FullAdd.f k1 (rd l0 x19_1) (rd l1 x19_1) x2_1).bind fun bt247 => (if x9_1.length < 17592186044416 then (spec_l3Add.l0 k1 l1 bt247.2 (x9_1 ++ [bt247.1]) y243 l0 (l0.length : Int) (wrap64 (x19_1 + 1))) else (none))) else (none)) = some (r1, r2, r3) := by first | (rw [hy243]; with_reducible exact H) | (have H2_ := (Option.bind_some _ _).symm.trans H; rw [hy243]; with_reducible exact H2_) | (have H2_ := (Option.bind_some _ _).symm.trans H; with_reducible exact H2_) | with_reducible exact H | (rw [hy243]; exact H) | exact H
       have Ny243 := Ak hy243
       clear hy243
       by_cases c12 : x19_1 < (l1.length : Int)
       ·rw [if_pos c12] at H
        have c12b0 : decide (x19_1 < (l1.length : Int)) = true := decide_eq_true c12
        clear c12
        replace H := Option.bind_eq_some_iff.mp H
        obtain ⟨⟨t247, t248⟩, A130, H⟩ := H
        replace H : (if x9_1.length < 17592186044416 then (spec_l3Add.l0 k1 l1 t248 (x9_1 ++ [t247]) y243 l0 (l0.length : Int) (wrap64 (x19_1 + 1))) else (none)) = some (r1, r2, r3) := H
        have A13 := Ak A130
        clear A130
        by_cases c14 : x9_1.length < 17592186044416
        ·rw [if_pos c14] at H
         have LMc14 := Ak c14
         clear c14
         obtain ⟨y249, hy249⟩ : ∃ y_ : List Int, y_ = (x9_1 ++ [t247]) := ⟨_, rfl⟩
         replace H : (spec_l3Add.l0 k1 l1 t248 y249 y243 l0 (l0.length : Int) (wrap64 (x19_1 + 1))) = some (r1, r2, r3) := by first | (rw [hy249]; with_reducible exact H) | (have H2_ := (Option.bind_some _ _).symm.trans H; rw [hy249]; with_reducible exact H2_) | (have H2_ := (Option.bind_some _ _).symm.trans H; with_reducible exact H2_) | with_reducible exact H | (rw [hy249]; exact H) | exact H
         have Ny249 := Ak hy249
         clear hy249
         have H' := Ak H
         clear H
         have p242 : 0 ≤ (x19_1 : Int) := Qg
         have q242 : x19_1 < (l0.length : Int) := Qg
         obtain ⟨ad242, e242, hx242_0⟩ := Kd.at_int HR0.out x19_1 p242 q242
         cases e242
         (try replace hx242_0 := (HB.out.cell (World.block_lt_of_cell? w _ hx242_0)).trans hx242_0)
         replace p242 := eq_true p242
         replace q242 := eq_true q242
         go_wp2_with (first | ((with_reducible refine gate_builtin (b := .append) (xs := #[.tmp 24, .tmp 26]) rfl ?_); at_builtin; refine Kd.R_append (Kd.int .i64) (w0 := w) w.heap.size rfl (.tmp 24) (.tmp 26) 23 3 (.int .i64 0) 8 rfl Try.underlying23 info3 rfl (by decide) (by omega) u10 x10_1 x2_1 [.int .i64 x2_1] (fun k_ => some k_ ≠ (u9 : Value).ownBlock) (fun _ => False) rfl rfl ?aP (fun _ hk => hk.elim) ?aF ?aO ?aB ?aS ?aL ?_; (case aP => exact rfl); (case aB => exact (Qb HB.out)); (case aF => exact (fun k_ hk => Kd.fresh' (Kd.R_lt (Qc HO_9.out)) k_ hk)); (case aO => exact (Qc HO_10.out)); (case aS => exact (below_size (Qb HB.out))); (case aL => have := LMc11.out; omega); intro v244 w15 ho hb hg hat; rw [← Ny243.out] at ho; have n0_ := Ak (Kd.R_after (ok := (fun _ => True)) (by refine Qf ?_; exact Kd.R_mono HO_9.out (fun _ hk => ⟨trivial, hk⟩)) hg hat); have n1_ := Ak (hb); have n2_ := Ak (ho); clear HO_9 HB HO_10; have HO_9 := n0_; have HB := n1_; have HO245 := n2_; clear n0_ n1_ n2_; clear ho hb hg hat; have p246 : 0 ≤ (x19_1 : Int) := Qg; have q246 : x19_1 < (l1.length : Int) := Qg; obtain ⟨ad246, e246, hx246_0⟩ := Kd.at_int HR1.out x19_1 p246 q246; cases e246; replace hx246_0 := (HB.out.cell (World.block_lt_of_cell? w _ hx246_0)).trans hx246_0; replace p246 := eq_true p246; replace q246 := eq_true q246) | ((with_reducible refine gate_callee (f := 82) rfl ?_); refine Qj (some 35) Try.func82 #[.int .i64 (rd l0 x19_1), .int .i64 (rd l1 x19_1), .int .i64 x2_1] ?_; (with_reducible refine (spec_FullAdd.calls k1 (rd l0 x19_1) (rd l1 x19_1) x2_1 t247 t248 _ A13.out).mono ?_); rintro e w' ⟨rfl, ⟨nd, rfl⟩⟩; refine ⟨_, rfl, ?_⟩) | ((with_reducible refine gate_builtin (b := .append) (xs := #[.tmp 38, .tmp 40]) rfl ?_); at_builtin; refine Kd.R_append (Kd.int .i64) (w0 := w) w.heap.size rfl (.tmp 38) (.tmp 40) 23 3 (.int .i64 0) 8 rfl Try.underlying23 info3 rfl (by decide) (by omega) u9 x9_1 t247 [.int .i64 t247] (fun k_ => some k_ ≠ (v244 : Value).ownBlock) (fun _ => False) rfl rfl ?aP (fun _ hk => hk.elim) ?aF ?aO ?aB ?aS ?aL ?_; (case aP => exact rfl); (case aB => exact (Qb HB.out)); (case aF => exact (fun k_ hk => Kd.fresh' (Kd.R_lt (Qc HO245.out)) k_ hk)); (case aO => exact (by refine Qf ?_; exact Kd.R_mono HO_9.out (fun _ hk => hk.2))); (case aS => exact (below_size (Qb HB.out))); (case aL => have := LMc14.out; omega); intro v250 w16 ho hb hg hat; rw [← Ny249.out] at ho; have n0_ := Ak (Kd.R_after (ok := (fun _ => True)) (by refine Qf ?_; exact Kd.R_mono HO245.out (fun _ hk => ⟨trivial, hk⟩)) hg hat); have n1_ := Ak (hb); have n2_ := Ak (ho); clear HO245 HB HO_9; have HO245 := n0_; have HB := n1_; have HO251 := n2_; clear n0_ n1_ n2_; clear ho hb hg hat))
         go_roundg k1
         case measure => have := HK1.out; omega
         case rel => exact ⟨(t248), (y249), (y243), (wrap64 (x19_1 + 1)), Qi, Qi, H', ⟨by have := HK1.out; omega⟩, ⟨by refine Qf ?_; exact HO251.out⟩, ⟨by refine Qf ?_; exact Kd.R_mono HO245.out (fun _ hk => hk.2)⟩, ⟨Qb HB.out⟩⟩
        ·rw [if_neg c14] at H
         exact absurd H (by simp)
       ·rw [if_neg c12] at H
        exact absurd H (by simp)
      ·rw [if_neg c11] at H
       exact absurd H (by simp)
     ·rw [if_neg c10] at H
      exact absurd H (by simp)
    ·rw [if_neg c9] at H
     exact absurd H (by simp)
   ·rw [if_neg c8] at H
    have c8b0 : decide (x19_1 < (l0.length : Int)) = false := decide_eq_false c8
    clear c8
    simp only [Option.some.injEq, Prod.mk.injEq] at H
    obtain ⟨rfl, rfl, rfl⟩ := H
    go_wp2
    go_ret3
    exact ⟨_, _, Qh, by refine Qf ?_; exact HO_9.out, by refine Qf ?_; exact HO_10.out, Qb HB.out⟩

/-! ### spec_AddWords: function 33 -/
def spec_AddWords.f (k : Nat) (l0 : List Int) (l1 : List Int) (a2 : Int) : Option (List Int × Int × Bool) := (spec_l3Fit.f k l0 l1).bind fun t252 => (if t252 = true then ((spec_IsTrit.f a2).bind fun t253 => (if t253 = true then ((spec_l3Add.f k l0 l1 a2).bind fun bt254 => (some (bt254.1, bt254.2.2, true))) else (some (([] : List Int), 0, false)))) else (some (([] : List Int), 0, false)))
theorem spec_AddWords.mono : ∀ a0 a1 a2 k, LeO (spec_AddWords.f k a0 a1 a2) (spec_AddWords.f (k + 1) a0 a1 a2) := by
 intro a0 a1 a2 k
 unfold spec_AddWords.f
 repeat' first
   | (with_reducible exact spec_l3Add.mono _ _ _ _)
   | (with_reducible exact spec_l3Fit.mono _ _ _)
   | (with_reducible exact LeO.refl _)
   | (with_reducible exact LeO.none _)
   | (with_reducible refine LeO.ite ?_ ?_)
   | (with_reducible refine LeO.bind ?_ (fun _ => ?_))
   | exact spec_l3Add.mono _ _ _ _
   | exact spec_l3Fit.mono _ _ _
   | exact LeO.none _
   | refine LeO.ite ?_ ?_
   | refine LeO.bind ?_ (fun _ => ?_)
theorem spec_AddWords.calls (k : Nat) (A0 : Option Addr) (c0 : Nat) (l0 : List Int) (A1 : Option Addr) (c1 : Nat) (l1 : List Int) (a2 : Int) (r1 : List Int) (r2 : Int) (r3 : Bool) (w : World) (hr0 : Kd.C (Kd.int .i64) w A0 l0.length l0) (hc0 : l0.length ≤ c0) (hr1 : Kd.C (Kd.int .i64) w A1 l1.length l1) (hc1 : l1.length ≤ c1) (h : spec_AddWords.f k l0 l1 a2 = some (r1, r2, r3)) :
  Calls Try.prog 33 #[.slice A0 l0.length c0, .slice A1 l1.length c1, .int .i64 a2] w fun e w' => ∃ v0_ : Value, e = .returned (.tuple #[v0_, .int .i64 r2, .bool r3]) ∧ Kd.R (Kd.int .i64) 3 w' w.heap.size (fun _ => True) v0_ r1 ∧ Below w.heap.size w w' := by
 have HR0 := Ak hr0
 have HC0 := Ak hc0
 clear hr0 hc0
 have HR1 := Ak hr1
 have HC1 := Ak hc1
 clear hr1 hc1
 have HB := Ak (Below.refl w.heap.size w)
 have H : ((spec_l3Fit.f k l0 l1).bind fun t252 => (if t252 = true then ((spec_IsTrit.f a2).bind fun t253 => (if t253 = true then ((spec_l3Add.f k l0 l1 a2).bind fun bt254 => (some (bt254.1, bt254.2.2, true))) else (some (([] : List Int), 0, false)))) else (some (([] : List Int), 0, false)))) = some (r1, r2, r3) := h
 clear h
 replace H := Option.bind_eq_some_iff.mp H
 obtain ⟨t252, A40, H⟩ := H
 replace H : (if t252 = true then ((spec_IsTrit.f a2).bind fun t253 => (if t253 = true then ((spec_l3Add.f k l0 l1 a2).bind fun bt254 => (some (bt254.1, bt254.2.2, true))) else (some (([] : List Int), 0, false)))) else (some (([] : List Int), 0, false))) = some (r1, r2, r3) := H
 have A4 := Ak A40
 clear A40
 by_cases c5 : t252 = true
 ·(try subst c5)
  have H1 : ((spec_IsTrit.f a2).bind fun t253 => (if t253 = true then ((spec_l3Add.f k l0 l1 a2).bind fun bt254 => (some (bt254.1, bt254.2.2, true))) else (some (([] : List Int), 0, false)))) = some (r1, r2, r3) := by rw [if_pos rfl] at H; exact H
  clear H
  have H := H1
  clear H1
  replace H := Option.bind_eq_some_iff.mp H
  obtain ⟨t253, A60, H⟩ := H
  replace H : (if t253 = true then ((spec_l3Add.f k l0 l1 a2).bind fun bt254 => (some (bt254.1, bt254.2.2, true))) else (some (([] : List Int), 0, false))) = some (r1, r2, r3) := H
  have A6 := Ak A60
  clear A60
  by_cases c7 : t253 = true
  ·(try subst c7)
   have H1 : ((spec_l3Add.f k l0 l1 a2).bind fun bt254 => (some (bt254.1, bt254.2.2, true))) = some (r1, r2, r3) := by rw [if_pos rfl] at H; exact H
   clear H
   have H := H1
   clear H1
   replace H := Option.bind_eq_some_iff.mp H
   obtain ⟨⟨t254, t255, t256⟩, A80, H⟩ := H
   replace H : (some (t254, t256, true)) = some (r1, r2, r3) := H
   have A8 := Ak A80
   clear A80
   simp only [Option.some.injEq, Prod.mk.injEq] at H
   obtain ⟨rfl, rfl, rfl⟩ := H
   go_enter Try.func33, Try.ntmps33
   go_wp2_with (first | ((with_reducible refine gate_callee (f := 63) rfl ?_); refine Qj (some 14) Try.func63 #[.slice A0 l0.length c0, .slice A1 l1.length c1] ?_; (with_reducible refine (spec_l3Fit.calls k _ _ l0 _ _ l1 true _ ?side1 ?side2 ?side3 ?side4 A4.out).mono ?_); (case side1 => repeat (first | exact HR0.out | (with_reducible refine Kd.C_alloc ?_ _) | (with_reducible refine Kd.C_drewN ?_ _) | (with_reducible refine Kd.C_drew ?_))); (case side2 => exact HC0.out); (case side3 => repeat (first | exact HR1.out | (with_reducible refine Kd.C_alloc ?_ _) | (with_reducible refine Kd.C_drewN ?_ _) | (with_reducible refine Kd.C_drew ?_))); (case side4 => exact HC1.out); rintro e w' ⟨rfl, ⟨nd, rfl⟩⟩; refine ⟨_, rfl, ?_⟩) | (go_at_call 64; (with_reducible refine (spec_IsTrit.calls a2 true _ A6.out).mono ?_); rintro e w' ⟨rfl, ⟨nd, rfl⟩⟩) | ((with_reducible refine gate_callee (f := 65) rfl ?_); refine Qj (some 25) Try.func65 #[.slice A0 l0.length c0, .slice A1 l1.length c1, .int .i64 a2] ?_; (with_reducible refine (spec_l3Add.calls k _ _ l0 _ _ l1 a2 t254 t255 t256 _ ?side1 ?side2 ?side3 ?side4 A8.out).mono ?_); (case side1 => repeat (first | exact HR0.out | (with_reducible refine Kd.C_alloc ?_ _) | (with_reducible refine Kd.C_drewN ?_ _) | (with_reducible refine Kd.C_drew ?_))); (case side2 => exact HC0.out); (case side3 => repeat (first | exact HR1.out | (with_reducible refine Kd.C_alloc ?_ _) | (with_reducible refine Kd.C_drewN ?_ _) | (with_reducible refine Kd.C_drew ?_))); (case side4 => exact HC1.out); rintro e w9 ⟨v257, v259, rfl, ho0, ho1, hb⟩; refine ⟨_, rfl, ?_⟩; have n0_ := Ak (Kd.R_lower ho0 (below_size (Qb HB.out))); have n1_ := Ak (Kd.R_lower ho1 (below_size (Qb HB.out))); have n2_ := Ak (below_step (Qb HB.out) hb); clear HB; have HO258 := n0_; have HO260 := n1_; have HB := n2_; clear n0_ n1_ n2_; (try clear hb); (try clear hb2); (try clear hk); (try clear hi); (try clear ho0); (try clear ho1)))
   go_ret3
   exact ⟨_, Qh, by refine Qf ?_; exact Kd.R_mono HO258.out (fun _ hk => trivial), Qb HB.out⟩
  ·replace c7 := Bool.eq_false_iff.mpr c7
   (try subst c7)
   have H1 : (some (([] : List Int), 0, false)) = some (r1, r2, r3) := by rw [if_neg (show ¬ (false = true) by decide)] at H; exact H
   clear H
   have H := H1
   clear H1
   simp only [Option.some.injEq, Prod.mk.injEq] at H
   obtain ⟨rfl, rfl, rfl⟩ := H
   go_enter Try.func33, Try.ntmps33
   go_wp2_with (first | ((with_reducible refine gate_callee (f := 63) rfl ?_); refine Qj (some 14) Try.func63 #[.slice A0 l0.length c0, .slice A1 l1.length c1] ?_; (with_reducible refine (spec_l3Fit.calls k _ _ l0 _ _ l1 true _ ?side1 ?side2 ?side3 ?side4 A4.out).mono ?_); (case side1 => repeat (first | exact HR0.out | (with_reducible refine Kd.C_alloc ?_ _) | (with_reducible refine Kd.C_drewN ?_ _) | (with_reducible refine Kd.C_drew ?_))); (case side2 => exact HC0.out); (case side3 => repeat (first | exact HR1.out | (with_reducible refine Kd.C_alloc ?_ _) | (with_reducible refine Kd.C_drewN ?_ _) | (with_reducible refine Kd.C_drew ?_))); (case side4 => exact HC1.out); rintro e w' ⟨rfl, ⟨nd, rfl⟩⟩; refine ⟨_, rfl, ?_⟩) | (go_at_call 64; (with_reducible refine (spec_IsTrit.calls a2 false _ A6.out).mono ?_); rintro e w' ⟨rfl, ⟨nd, rfl⟩⟩))
   go_ret3
   exact ⟨_, Qh, by first | exact Kd.R_nil _ _ _ _ _ | exact Kd.N_nil _ _ _ _ _ | exact Kd.V_nil _ _ _ _ _ | exact Kd.Q_nil _ _ _ _ _ | exact Kd.S_nil _ _ _ _ _, Qb HB.out⟩
 ·replace c5 := Bool.eq_false_iff.mpr c5
  (try subst c5)
  have H1 : (some (([] : List Int), 0, false)) = some (r1, r2, r3) := by rw [if_neg (show ¬ (false = true) by decide)] at H; exact H
  clear H
  have H := H1
  clear H1
  simp only [Option.some.injEq, Prod.mk.injEq] at H
  obtain ⟨rfl, rfl, rfl⟩ := H
  go_enter Try.func33, Try.ntmps33
  go_wp2_with (first | ((with_reducible refine gate_callee (f := 63) rfl ?_); refine Qj (some 14) Try.func63 #[.slice A0 l0.length c0, .slice A1 l1.length c1] ?_; (with_reducible refine (spec_l3Fit.calls k _ _ l0 _ _ l1 false _ ?side1 ?side2 ?side3 ?side4 A4.out).mono ?_); (case side1 => repeat (first | exact HR0.out | (with_reducible refine Kd.C_alloc ?_ _) | (with_reducible refine Kd.C_drewN ?_ _) | (with_reducible refine Kd.C_drew ?_))); (case side2 => exact HC0.out); (case side3 => repeat (first | exact HR1.out | (with_reducible refine Kd.C_alloc ?_ _) | (with_reducible refine Kd.C_drewN ?_ _) | (with_reducible refine Kd.C_drew ?_))); (case side4 => exact HC1.out); rintro e w' ⟨rfl, ⟨nd, rfl⟩⟩; refine ⟨_, rfl, ?_⟩))
  go_ret3
  exact ⟨_, Qh, by first | exact Kd.R_nil _ _ _ _ _ | exact Kd.N_nil _ _ _ _ _ | exact Kd.V_nil _ _ _ _ _ | exact Kd.Q_nil _ _ _ _ _ | exact Kd.S_nil _ _ _ _ _, Qb HB.out⟩

/-! ### laws_FnBranched: function 7 -/
def laws_FnBranched.p1 (x : Int) : List S48 := [⟨1, x, 0, 0⟩, ⟨14, 2, 4, 6⟩, ⟨1, -1, 0, 0⟩, ⟨13, 7, 0, 0⟩, ⟨1, 0, 0, 0⟩, ⟨13, 7, 0, 0⟩, ⟨1, 1, 0, 0⟩]
def laws_FnBranched.p2 (x : Int) : List S48 := [⟨1, x, 0, 0⟩, ⟨6, 0, 0, 0⟩]
def laws_FnBranched.p3 (x y : Int) : List S48 := [⟨1, x, 0, 0⟩, ⟨1, y, 0, 0⟩, ⟨2, 0, 0, 0⟩]
def laws_FnBranched.c1 (x : Int) : List Value := [.int .i64 1, .int .i64 x, .int .i64 0, .int .i64 0, .int .i64 14, .int .i64 2, .int .i64 4, .int .i64 6, .int .i64 1, .int .i64 (-1), .int .i64 0, .int .i64 0, .int .i64 13, .int .i64 7, .int .i64 0, .int .i64 0, .int .i64 1, .int .i64 0, .int .i64 0, .int .i64 0, .int .i64 13, .int .i64 7, .int .i64 0, .int .i64 0, .int .i64 1, .int .i64 1, .int .i64 0, .int .i64 0]
def laws_FnBranched.c2 (x : Int) : List Value := [.int .i64 1, .int .i64 x, .int .i64 0, .int .i64 0, .int .i64 6, .int .i64 0, .int .i64 0, .int .i64 0]
def laws_FnBranched.c3 (x y : Int) : List Value := [.int .i64 1, .int .i64 x, .int .i64 0, .int .i64 0, .int .i64 1, .int .i64 y, .int .i64 0, .int .i64 0, .int .i64 2, .int .i64 0, .int .i64 0, .int .i64 0]
theorem laws_FnBranched.op (a b c d : Int) (w : World) (base : Nat) (ok : Nat → Prop) : Kd.M k48 w base ok (⟨a, b, c, d⟩ : S48) [.int .i64 a, .int .i64 b, .int .i64 c, .int .i64 d] := k48_mkM w base ok ⟨a, b, c, d⟩
theorem laws_FnBranched.lit (W : World) (xs : List S48) (inner : List Value) (hm : xs.length ≤ 100) (h : ∀ w base ok, Reps (Kd.M k48 w base ok) 4 xs inner) : Kd.C k48 (W.alloc (.cells inner.toArray 48)) (some ⟨W.heap.size, 0, none⟩) xs.length xs := by
 have hr := h (W.alloc (.cells inner.toArray 48)) W.heap.size (fun k => True ∧ some k ≠ (Value.slice (some ⟨W.heap.size, 0, none⟩) xs.length xs.length).ownBlock)
 have h2 := World.ownsRow_lit (base := W.heap.size) (e := 48) (size := 4) W inner.toArray xs.length (Nat.le_refl _) (by simp [maxLen]; omega) (by simpa using hr.1)
 have hR : Kd.R k48 48 (W.alloc (.cells inner.toArray 48)) W.heap.size (fun _ => True) (.slice (some ⟨W.heap.size, 0, none⟩) xs.length xs.length) xs := ⟨fun _ _ => trivial, inner, (show (W.alloc (.cells inner.toArray 48)).ownsRow W.heap.size 48 4 (.slice (some ⟨W.heap.size, 0, none⟩) xs.length xs.length) xs.length inner by simpa using h2), hr⟩
 exact (Kd.R_reads' hR).2.2
theorem laws_FnBranched.lit1 (W : World) (x : Int) : Kd.C k48 (W.alloc (.cells (laws_FnBranched.c1 x).toArray 48)) (some ⟨W.heap.size, 0, none⟩) 7 (laws_FnBranched.p1 x) :=
 laws_FnBranched.lit W (laws_FnBranched.p1 x) (laws_FnBranched.c1 x) (by simp [laws_FnBranched.p1]) (fun w base ok => Reps.c4 (laws_FnBranched.op _ _ _ _ w base ok) (Reps.c4 (laws_FnBranched.op _ _ _ _ w base ok) (Reps.c4 (laws_FnBranched.op _ _ _ _ w base ok) (Reps.c4 (laws_FnBranched.op _ _ _ _ w base ok) (Reps.c4 (laws_FnBranched.op _ _ _ _ w base ok) (Reps.c4 (laws_FnBranched.op _ _ _ _ w base ok) (Reps.c4 (laws_FnBranched.op _ _ _ _ w base ok) (Reps.none _ _))))))))
theorem laws_FnBranched.lit2 (W : World) (x : Int) : Kd.C k48 (W.alloc (.cells (laws_FnBranched.c2 x).toArray 48)) (some ⟨W.heap.size, 0, none⟩) 2 (laws_FnBranched.p2 x) :=
 laws_FnBranched.lit W (laws_FnBranched.p2 x) (laws_FnBranched.c2 x) (by simp [laws_FnBranched.p2]) (fun w base ok => Reps.c4 (laws_FnBranched.op _ _ _ _ w base ok) (Reps.c4 (laws_FnBranched.op _ _ _ _ w base ok) (Reps.none _ _)))
theorem laws_FnBranched.lit3 (W : World) (x y : Int) : Kd.C k48 (W.alloc (.cells (laws_FnBranched.c3 x y).toArray 48)) (some ⟨W.heap.size, 0, none⟩) 3 (laws_FnBranched.p3 x y) :=
 laws_FnBranched.lit W (laws_FnBranched.p3 x y) (laws_FnBranched.c3 x y) (by simp [laws_FnBranched.p3]) (fun w base ok => Reps.c4 (laws_FnBranched.op _ _ _ _ w base ok) (Reps.c4 (laws_FnBranched.op _ _ _ _ w base ok) (Reps.c4 (laws_FnBranched.op _ _ _ _ w base ok) (Reps.none _ _))))

theorem laws_FnBranched.isCode (k : Nat) (x : Int) (r : Bool) (W : World) (g : Nat) (hr : Kd.C k48 W (some ⟨g, 0, none⟩) 7 (laws_FnBranched.p1 x)) (h : spec_IsCode.f k (laws_FnBranched.p1 x) = some r) :
  Calls Try.prog 32 #[.slice (some ⟨g, 0, none⟩) 7 7] W fun e w' => e = .returned (.bool r) ∧ Below W.heap.size W w' := spec_IsCode.calls k (some ⟨g, 0, none⟩) 7 (laws_FnBranched.p1 x) r W hr (Nat.le_refl 7) h
theorem laws_FnBranched.run1 (k : Nat) (x : Int) (z0 : Int) (Z1 : Option Addr) (e1 : Nat) (zs : List Int) (Z2 : Option Addr) (e2 : Nat) (zc : List Int) (r1 : Int) (r2 r3 : List Int) (r4 : Int) (W : World) (g : Nat) (hr : Kd.C k48 W (some ⟨g, 0, none⟩) 7 (laws_FnBranched.p1 x)) (h1 : Kd.C (Kd.int .i64) W Z1 zs.length zs) (c1 : zs.length ≤ e1) (h2 : Kd.C (Kd.int .i64) W Z2 zc.length zc) (c2 : zc.length ≤ e2) (h : impl_RunMachine.f k (laws_FnBranched.p1 x) z0 zs zc 20 = some (r1, r2, r3, r4)) :
  Calls Try.prog 20 #[.slice (some ⟨g, 0, none⟩) 7 7, .agg #[.int .i64 z0, .slice Z1 zs.length e1, .slice Z2 zc.length e2], .int .i64 20] W fun e w' => ∃ v1_ v2_ : Value, e = .returned (.tuple #[.agg #[.int .i64 r1, v1_, v2_], .int .i64 r4]) ∧ Kd.R (Kd.int .i64) 3 w' W.heap.size (fun k_ => some k_ ≠ (v2_ : Value).ownBlock) v1_ r2 ∧ Kd.R (Kd.int .i64) 3 w' W.heap.size (fun k_ => some k_ ≠ (v1_ : Value).ownBlock) v2_ r3 ∧ Below W.heap.size W w' :=
 impl_RunMachine.calls k (some ⟨g, 0, none⟩) 7 (laws_FnBranched.p1 x) z0 Z1 e1 zs Z2 e2 zc 20 r1 r2 r3 r4 W hr (Nat.le_refl 7) h1 c1 h2 c2 h
theorem laws_FnBranched.run2 (k : Nat) (x : Int) (z0 : Int) (Z1 : Option Addr) (e1 : Nat) (zs : List Int) (Z2 : Option Addr) (e2 : Nat) (zc : List Int) (r1 : Int) (r2 r3 : List Int) (r4 : Int) (W : World) (g : Nat) (hr : Kd.C k48 W (some ⟨g, 0, none⟩) 2 (laws_FnBranched.p2 x)) (h1 : Kd.C (Kd.int .i64) W Z1 zs.length zs) (c1 : zs.length ≤ e1) (h2 : Kd.C (Kd.int .i64) W Z2 zc.length zc) (c2 : zc.length ≤ e2) (h : impl_RunMachine.f k (laws_FnBranched.p2 x) z0 zs zc 20 = some (r1, r2, r3, r4)) :
  Calls Try.prog 20 #[.slice (some ⟨g, 0, none⟩) 2 2, .agg #[.int .i64 z0, .slice Z1 zs.length e1, .slice Z2 zc.length e2], .int .i64 20] W fun e w' => ∃ v1_ v2_ : Value, e = .returned (.tuple #[.agg #[.int .i64 r1, v1_, v2_], .int .i64 r4]) ∧ Kd.R (Kd.int .i64) 3 w' W.heap.size (fun k_ => some k_ ≠ (v2_ : Value).ownBlock) v1_ r2 ∧ Kd.R (Kd.int .i64) 3 w' W.heap.size (fun k_ => some k_ ≠ (v1_ : Value).ownBlock) v2_ r3 ∧ Below W.heap.size W w' :=
 impl_RunMachine.calls k (some ⟨g, 0, none⟩) 2 (laws_FnBranched.p2 x) z0 Z1 e1 zs Z2 e2 zc 20 r1 r2 r3 r4 W hr (Nat.le_refl 2) h1 c1 h2 c2 h
theorem laws_FnBranched.run3 (k : Nat) (x y : Int) (z0 : Int) (Z1 : Option Addr) (e1 : Nat) (zs : List Int) (Z2 : Option Addr) (e2 : Nat) (zc : List Int) (r1 : Int) (r2 r3 : List Int) (r4 : Int) (W : World) (g : Nat) (hr : Kd.C k48 W (some ⟨g, 0, none⟩) 3 (laws_FnBranched.p3 x y)) (h1 : Kd.C (Kd.int .i64) W Z1 zs.length zs) (c1 : zs.length ≤ e1) (h2 : Kd.C (Kd.int .i64) W Z2 zc.length zc) (c2 : zc.length ≤ e2) (h : impl_RunMachine.f k (laws_FnBranched.p3 x y) z0 zs zc 20 = some (r1, r2, r3, r4)) :
  Calls Try.prog 20 #[.slice (some ⟨g, 0, none⟩) 3 3, .agg #[.int .i64 z0, .slice Z1 zs.length e1, .slice Z2 zc.length e2], .int .i64 20] W fun e w' => ∃ v1_ v2_ : Value, e = .returned (.tuple #[.agg #[.int .i64 r1, v1_, v2_], .int .i64 r4]) ∧ Kd.R (Kd.int .i64) 3 w' W.heap.size (fun k_ => some k_ ≠ (v2_ : Value).ownBlock) v1_ r2 ∧ Kd.R (Kd.int .i64) 3 w' W.heap.size (fun k_ => some k_ ≠ (v1_ : Value).ownBlock) v2_ r3 ∧ Below W.heap.size W w' :=
 impl_RunMachine.calls k (some ⟨g, 0, none⟩) 3 (laws_FnBranched.p3 x y) z0 Z1 e1 zs Z2 e2 zc 20 r1 r2 r3 r4 W hr (Nat.le_refl 3) h1 c1 h2 c2 h
theorem laws_FnBranched.one (W : World) (g : Nat) (s : Int) (hg : W.cell? ⟨g, 0, none⟩ = some (.int .i64 s)) : Kd.C (Kd.int .i64) W (some ⟨g, 0, none⟩) 1 [s] := by
 refine Kd.C_of_reads (d := (0 : Int)) ⟨rfl, by omega, fun _ => ⟨_, rfl, fun j hj => ?_⟩⟩
 obtain rfl : j = 0 := by omega
 rw [add_plain]
 exact hg
theorem laws_FnBranched.ints1 (k : Nat) (A : Option Addr) (c : Nat) (l : List Int) (s : Int) (r : Bool) (W : World) (g : Nat) (hr : Kd.C (Kd.int .i64) W A l.length l) (hc : l.length ≤ c) (hg : W.cell? ⟨g, 0, none⟩ = some (.int .i64 s)) (h : laws_ints.f k l [s] = some r) :
  Calls Try.prog 25 #[.slice A l.length c, .slice (some ⟨g, 0, none⟩) 1 1] W fun e w' => e = .returned (.bool r) ∧ Drawn0 W w' := laws_ints.calls k A c l (some ⟨g, 0, none⟩) 1 [s] r W hr hc (laws_FnBranched.one W g s hg) (Nat.le_refl 1) h
def laws_FnBranched.tail (k : Nat) (n x y : Int) (a b c : Int × List Int × List Int × Int) : Option Bool :=
 (spec_WordOf.f k x 9).bind fun u => (spec_WordOf.f k y 9).bind fun v => (spec_AddWords.f k u.1 v.1 0).bind fun W => if (u.2 = true ∧ v.2 = true ∧ Int.tmod (wrap64 (n - x)) 19683 = 0 ∧ a.2.2.2 = 2 ∧ b.2.2.2 = 2 ∧ c.2.2.2 = 2) then
 (impl_SignOf.f x).bind fun s => (laws_ints.f k a.2.1 [s]).bind fun t1 => (laws_ints.f k b.2.1 a.2.1).bind fun t2 => (spec_ValueOf.f k W.1).bind fun z => (laws_ints.f k c.2.1 [z]).bind fun t3 => if t1 = true ∧ t2 = true ∧ t3 = true then some true else none
 else none
def laws_FnBranched.f (k : Nat) (l0 : List Int) : Option Bool := if (l0.length : Int) > 1048576 then some true else
 (laws_at.f l0 1).bind fun a1 => (laws_at.f l0 2).bind fun a2 => (laws_at.f l0 3).bind fun a3 => (impl_WrapCell.f k (wrap64 (wrap64 (a1 * a2) - wrap64 (a3 * 100)))).bind fun x => (spec_IsCode.f k (laws_FnBranched.p1 x)).bind fun t => if t = true then
 (impl_NewMachine.f).bind fun z => (impl_RunMachine.f k (laws_FnBranched.p1 x) z.1 z.2.1 z.2.2 20).bind fun a => (impl_RunMachine.f k (laws_FnBranched.p2 x) z.1 z.2.1 z.2.2 20).bind fun b => (laws_at.f l0 4).bind fun a4 => (impl_WrapCell.f k (wrap64 (wrap64 (a4 * 41) - 5000))).bind fun y => (impl_RunMachine.f k (laws_FnBranched.p3 x y) z.1 z.2.1 z.2.2 20).bind fun c => laws_FnBranched.tail k (wrap64 (wrap64 (a1 * a2) - wrap64 (a3 * 100))) x y a b c
 else none
theorem laws_FnBranched.mono : ∀ l0 k, LeO (laws_FnBranched.f k l0) (laws_FnBranched.f (k + 1) l0) := fun l0 k => LeO.ite (LeO.refl _) (LeO.bind (LeO.refl _) fun a1 => LeO.bind (LeO.refl _) fun a2 => LeO.bind (LeO.refl _) fun a3 => LeO.bind (impl_WrapCell.mono _ k) fun x => LeO.bind (spec_IsCode.mono _ k) fun t => LeO.ite (LeO.bind (LeO.refl _) fun z => LeO.bind (impl_RunMachine.mono _ _ _ _ _ k) fun a => LeO.bind (impl_RunMachine.mono _ _ _ _ _ k) fun b => LeO.bind (LeO.refl _) fun a4 => LeO.bind (impl_WrapCell.mono _ k) fun y => LeO.bind (impl_RunMachine.mono _ _ _ _ _ k) fun c => LeO.bind (spec_WordOf.mono _ _ k) fun u => LeO.bind (spec_WordOf.mono _ _ k) fun v => LeO.bind (spec_AddWords.mono _ _ _ k) fun W => LeO.ite (LeO.bind (LeO.refl _) fun s => LeO.bind (laws_ints.mono _ _ k) fun t1 => LeO.bind (laws_ints.mono _ _ k) fun t2 => LeO.bind (spec_ValueOf.mono _ k) fun z => LeO.bind (laws_ints.mono _ _ k) fun t3 => LeO.refl _) (LeO.refl _)) (LeO.refl _))
theorem laws_FnBranched.calls (k : Nat) (A0 : Option Addr) (c0 : Nat) (l0 : List Int) (r : Bool) (w : World) (hr0 : Kd.C (Kd.int .u8) w A0 l0.length l0) (hc0 : l0.length ≤ c0) (h : laws_FnBranched.f k l0 = some r) :
  Calls Try.prog 7 #[.slice A0 l0.length c0] w fun e w' => e = .returned (.bool r) ∧ Below w.heap.size w w' := by
 unfold laws_FnBranched.f at h
 have HR0 := Ak hr0
 have HC0 := Ak hc0
 clear hr0 hc0
 have HB := Ak (Below.refl w.heap.size w)
 by_cases c1 : (l0.length : Int) > 1048576
 ·rw [if_pos c1] at h
  obtain rfl := Option.some.inj h
  have c2b0 : decide (1048576 < (l0.length : Int)) = true := decide_eq_true c1
  have c2b1 : decide (1048576 < l0.length) = true := decide_eq_true (by omega)
  clear c1 h
  go_enter Try.func7, Try.ntmps7
  go_wp2
  go_ret
  exact ⟨rfl, HB.out⟩
 rw [if_neg c1] at h
 have c2b0 : decide (1048576 < (l0.length : Int)) = false := decide_eq_false c1
 have c2b1 : decide (1048576 < l0.length) = false := decide_eq_false (by omega)
 clear c1
 replace h := Option.bind_eq_some_iff.1 h
 obtain ⟨a1, Ha1, h⟩ := h
 replace Ha1 := Ak Ha1
 replace h := Option.bind_eq_some_iff.1 h
 obtain ⟨a2, Ha2, h⟩ := h
 replace Ha2 := Ak Ha2
 replace h := Option.bind_eq_some_iff.1 h
 obtain ⟨a3, Ha3, h⟩ := h
 replace Ha3 := Ak Ha3
 replace h := Option.bind_eq_some_iff.1 h
 obtain ⟨x, Hx, h⟩ := h
 replace Hx := Ak Hx
 replace h := Option.bind_eq_some_iff.1 h
 obtain ⟨t, Ht, h⟩ := h
 replace Ht := Ak Ht
 by_cases ct : t = true
 case neg => rw [if_neg ct] at h; exact absurd h (by simp)
 rw [if_pos ct] at h
 subst ct
 replace h := Option.bind_eq_some_iff.1 h
 obtain ⟨⟨z0, zs, zc⟩, Hz, h⟩ := h
 (try dsimp only at h)
 replace Hz := Ak Hz
 replace h := Option.bind_eq_some_iff.1 h
 obtain ⟨⟨pa, sa, ca, ha⟩, Ha, h⟩ := h
 (try dsimp only at h)
 replace Ha := Ak Ha
 replace h := Option.bind_eq_some_iff.1 h
 obtain ⟨⟨pb, sb, cb, hb⟩, Hb, h⟩ := h
 (try dsimp only at h)
 replace Hb := Ak Hb
 replace h := Option.bind_eq_some_iff.1 h
 obtain ⟨a4, Ha4, h⟩ := h
 replace Ha4 := Ak Ha4
 replace h := Option.bind_eq_some_iff.1 h
 obtain ⟨y, Hy, h⟩ := h
 replace Hy := Ak Hy
 replace h := Option.bind_eq_some_iff.1 h
 obtain ⟨⟨pc, sc, cc, hc⟩, Hc, h⟩ := h
 (try dsimp only at h)
 replace Hc := Ak Hc
 unfold laws_FnBranched.tail at h
 (try dsimp only at h)
 replace h := Option.bind_eq_some_iff.1 h
 obtain ⟨⟨lu, bu⟩, Hu, h⟩ := h
 (try dsimp only at h)
 replace Hu := Ak Hu
 replace h := Option.bind_eq_some_iff.1 h
 obtain ⟨⟨lv, bv⟩, Hv, h⟩ := h
 (try dsimp only at h)
 replace Hv := Ak Hv
 replace h := Option.bind_eq_some_iff.1 h
 obtain ⟨⟨lw, kw, bw⟩, HW, h⟩ := h
 (try dsimp only at h)
 replace HW := Ak HW
 by_cases co : (bu = true ∧ bv = true ∧ Int.tmod (wrap64 (wrap64 (wrap64 (a1 * a2) - wrap64 (a3 * 100)) - x)) 19683 = 0 ∧ ha = 2 ∧ hb = 2 ∧ hc = 2)
 case neg => rw [if_neg co] at h; exact absurd h (by simp)
 rw [if_pos co] at h
 obtain ⟨rfl, rfl, hmod, rfl, rfl, rfl⟩ := co
 replace h := Option.bind_eq_some_iff.1 h
 obtain ⟨s, Hs, h⟩ := h
 replace Hs := Ak Hs
 replace h := Option.bind_eq_some_iff.1 h
 obtain ⟨t1, Ht1, h⟩ := h
 replace Ht1 := Ak Ht1
 replace h := Option.bind_eq_some_iff.1 h
 obtain ⟨t2, Ht2, h⟩ := h
 replace Ht2 := Ak Ht2
 replace h := Option.bind_eq_some_iff.1 h
 obtain ⟨q, Hq, h⟩ := h
 replace Hq := Ak Hq
 replace h := Option.bind_eq_some_iff.1 h
 obtain ⟨t3, Ht3, h⟩ := h
 replace Ht3 := Ak Ht3
 by_cases co : t1 = true ∧ t2 = true ∧ t3 = true
 case neg => rw [if_neg co] at h; exact absurd h (by simp)
 rw [if_pos co] at h
 obtain ⟨rfl, rfl, rfl⟩ := co
 obtain rfl := Option.some.inj h
 clear h
 replace hmod := Ak hmod
 go_enter Try.func7, Try.ntmps7
 go_upto_region 7 with (first | ((go_at_call 26; with_reducible refine (laws_at.calls A0 c0 l0 1 a1 _ (Kd.C_below HR0.out HB.out) HC0.out Ha1.out).mono ?_; rintro e W ⟨rfl, hd⟩); replace HB := Ak (below_step HB.out hd.below); clear hd) | ((go_at_call 26; with_reducible refine (laws_at.calls A0 c0 l0 2 a2 _ (Kd.C_below HR0.out HB.out) HC0.out Ha2.out).mono ?_; rintro e W ⟨rfl, hd⟩); replace HB := Ak (below_step HB.out hd.below); clear hd) | ((go_at_call 26; with_reducible refine (laws_at.calls A0 c0 l0 3 a3 _ (Kd.C_below HR0.out HB.out) HC0.out Ha3.out).mono ?_; rintro e W ⟨rfl, hd⟩); replace HB := Ak (below_step HB.out hd.below); clear hd) | ((go_at_call 27; with_reducible refine (impl_WrapCell.calls k (wrap64 (wrap64 (a1 * a2) - wrap64 (a3 * 100))) x _ Hx.out).mono ?_; rintro e W ⟨rfl, hd⟩); replace HB := Ak (below_step HB.out hd); clear hd))
 have al1 := below_alloc (Below.refl W.heap.size W) (.cells #[.int .i64 1, .int .i64 x, .int .i64 0, .int .i64 0, .int .i64 14, .int .i64 2, .int .i64 4, .int .i64 6, .int .i64 1, .int .i64 (-1), .int .i64 0, .int .i64 0, .int .i64 13, .int .i64 7, .int .i64 0, .int .i64 0, .int .i64 1, .int .i64 0, .int .i64 0, .int .i64 0, .int .i64 13, .int .i64 7, .int .i64 0, .int .i64 0, .int .i64 1, .int .i64 1, .int .i64 0, .int .i64 0] 48)
 have al2 := below_alloc (Below.refl (W.alloc (.cells #[.int .i64 1, .int .i64 x, .int .i64 0, .int .i64 0, .int .i64 14, .int .i64 2, .int .i64 4, .int .i64 6, .int .i64 1, .int .i64 (-1), .int .i64 0, .int .i64 0, .int .i64 13, .int .i64 7, .int .i64 0, .int .i64 0, .int .i64 1, .int .i64 0, .int .i64 0, .int .i64 0, .int .i64 13, .int .i64 7, .int .i64 0, .int .i64 0, .int .i64 1, .int .i64 1, .int .i64 0, .int .i64 0] 48)).heap.size (W.alloc (.cells #[.int .i64 1, .int .i64 x, .int .i64 0, .int .i64 0, .int .i64 14, .int .i64 2, .int .i64 4, .int .i64 6, .int .i64 1, .int .i64 (-1), .int .i64 0, .int .i64 0, .int .i64 13, .int .i64 7, .int .i64 0, .int .i64 0, .int .i64 1, .int .i64 0, .int .i64 0, .int .i64 0, .int .i64 13, .int .i64 7, .int .i64 0, .int .i64 0, .int .i64 1, .int .i64 1, .int .i64 0, .int .i64 0] 48))) (.cells #[.int .i64 1, .int .i64 x, .int .i64 0, .int .i64 0, .int .i64 6, .int .i64 0, .int .i64 0, .int .i64 0] 48)
 have L1 := Ak (Kd.C_below (show Kd.C k48 (W.alloc (.cells #[.int .i64 1, .int .i64 x, .int .i64 0, .int .i64 0, .int .i64 14, .int .i64 2, .int .i64 4, .int .i64 6, .int .i64 1, .int .i64 (-1), .int .i64 0, .int .i64 0, .int .i64 13, .int .i64 7, .int .i64 0, .int .i64 0, .int .i64 1, .int .i64 0, .int .i64 0, .int .i64 0, .int .i64 13, .int .i64 7, .int .i64 0, .int .i64 0, .int .i64 1, .int .i64 1, .int .i64 0, .int .i64 0] 48)) (some ⟨W.heap.size, 0, none⟩) 7 (laws_FnBranched.p1 x) from laws_FnBranched.lit1 W x) al2)
 have hs : (W.alloc (.cells #[.int .i64 1, .int .i64 x, .int .i64 0, .int .i64 0, .int .i64 14, .int .i64 2, .int .i64 4, .int .i64 6, .int .i64 1, .int .i64 (-1), .int .i64 0, .int .i64 0, .int .i64 13, .int .i64 7, .int .i64 0, .int .i64 0, .int .i64 1, .int .i64 0, .int .i64 0, .int .i64 0, .int .i64 13, .int .i64 7, .int .i64 0, .int .i64 0, .int .i64 1, .int .i64 1, .int .i64 0, .int .i64 0] 48)).heap.size = W.heap.size + 1 := by simp
 have L2 := Ak (show Kd.C k48 ((W.alloc (.cells #[.int .i64 1, .int .i64 x, .int .i64 0, .int .i64 0, .int .i64 14, .int .i64 2, .int .i64 4, .int .i64 6, .int .i64 1, .int .i64 (-1), .int .i64 0, .int .i64 0, .int .i64 13, .int .i64 7, .int .i64 0, .int .i64 0, .int .i64 1, .int .i64 0, .int .i64 0, .int .i64 0, .int .i64 13, .int .i64 7, .int .i64 0, .int .i64 0, .int .i64 1, .int .i64 1, .int .i64 0, .int .i64 0] 48)).alloc (.cells #[.int .i64 1, .int .i64 x, .int .i64 0, .int .i64 0, .int .i64 6, .int .i64 0, .int .i64 0, .int .i64 0] 48)) (some ⟨W.heap.size + 1, 0, none⟩) 2 (laws_FnBranched.p2 x) from (by rw [← hs]; exact laws_FnBranched.lit2 (W.alloc (.cells #[.int .i64 1, .int .i64 x, .int .i64 0, .int .i64 0, .int .i64 14, .int .i64 2, .int .i64 4, .int .i64 6, .int .i64 1, .int .i64 (-1), .int .i64 0, .int .i64 0, .int .i64 13, .int .i64 7, .int .i64 0, .int .i64 0, .int .i64 1, .int .i64 0, .int .i64 0, .int .i64 0, .int .i64 13, .int .i64 7, .int .i64 0, .int .i64 0, .int .i64 1, .int .i64 1, .int .i64 0, .int .i64 0] 48)) x))
 clear hs
 replace HB := Ak (below_step (below_step HB.out al1) al2)
 clear al1 al2
 generalize (W.alloc (.cells #[.int .i64 1, .int .i64 x, .int .i64 0, .int .i64 0, .int .i64 14, .int .i64 2, .int .i64 4, .int .i64 6, .int .i64 1, .int .i64 (-1), .int .i64 0, .int .i64 0, .int .i64 13, .int .i64 7, .int .i64 0, .int .i64 0, .int .i64 1, .int .i64 0, .int .i64 0, .int .i64 0, .int .i64 13, .int .i64 7, .int .i64 0, .int .i64 0, .int .i64 1, .int .i64 1, .int .i64 0, .int .i64 0] 48)).alloc (.cells #[.int .i64 1, .int .i64 x, .int .i64 0, .int .i64 0, .int .i64 6, .int .i64 0, .int .i64 0, .int .i64 0] 48) = W1 at HB L1 L2 ⊢
 generalize W.heap.size = g1 at L1 L2 ⊢
 go_upto_region 9 with ((go_at_call 32; with_reducible refine (laws_FnBranched.isCode k x true _ _ L1.out Ht.out).mono ?_; rintro e W ⟨rfl, hd⟩); replace HB := Ak (below_step HB.out hd); replace L1 := Ak (Kd.C_below L1.out hd); replace L2 := Ak (Kd.C_below L2.out hd); clear hd)
 go_upto_region 10 with (first | ((go_at_call 28; with_reducible refine (impl_NewMachine.calls z0 zs zc _ Hz.out).mono ?_; rintro e W ⟨v1, v2, rfl, h1, h2, hd⟩); replace HB := Ak (below_step HB.out hd); replace L1 := Ak (Kd.C_below L1.out hd); replace L2 := Ak (Kd.C_below L2.out hd); clear hd; obtain ⟨Z1, e1, rfl⟩ := Kd.R_slice h1; obtain ⟨Z2, e2, rfl⟩ := Kd.R_slice h2; replace h1 := Ak h1; replace h2 := Ak h2) | ((go_at_call 20; with_reducible refine (laws_FnBranched.run1 k x z0 Z1 e1 zs Z2 e2 zc pa sa ca 2 _ _ L1.out (Kd.R_reads' h1.out).2.2 (Kd.R_reads' h1.out).2.1 (Kd.R_reads' h2.out).2.2 (Kd.R_reads' h2.out).2.1 Ha.out).mono ?_; rintro e W ⟨v1, v2, rfl, h3, h4, hd⟩); replace HB := Ak (below_step HB.out hd); replace L1 := Ak (Kd.C_below L1.out hd); replace L2 := Ak (Kd.C_below L2.out hd); clear hd; obtain ⟨Ra, na, rfl⟩ := Kd.R_slice h3; obtain ⟨Sa, ma, rfl⟩ := Kd.R_slice h4; have Ca := Ak (Kd.R_reads' h3).2.2; have Na := Ak (Kd.R_reads' h3).2.1; clear h1 h2 h3 h4))
 have al := below_alloc (Below.refl W.heap.size W) (.cells #[.int .i64 pa, .slice Ra sa.length na, .slice Sa ca.length ma] 28)
 have Ka := Ak (blk_new W (.cells #[.int .i64 pa, .slice Ra sa.length na, .slice Sa ca.length ma] 28))
 replace HB := Ak (below_step HB.out al)
 replace L1 := Ak (Kd.C_below L1.out al)
 replace L2 := Ak (Kd.C_below L2.out al)
 replace Ca := Ak (Kd.C_below Ca.out al)
 clear al
 generalize W.alloc (.cells #[.int .i64 pa, .slice Ra sa.length na, .slice Sa ca.length ma] 28) = W2 at HB L1 L2 Ca Ka ⊢
 generalize W.heap.size = ga at Ka ⊢
 clear L1
 go_upto_region 11 with (first | ((go_at_call 28; with_reducible refine (impl_NewMachine.calls z0 zs zc _ Hz.out).mono ?_; rintro e W ⟨v1, v2, rfl, h1, h2, hd⟩); replace HB := Ak (below_step HB.out hd); replace L2 := Ak (Kd.C_below L2.out hd); replace Ca := Ak (Kd.C_below Ca.out hd); replace Ka := Ak (blk_below Ka.out hd); clear hd; obtain ⟨Z1, e1, rfl⟩ := Kd.R_slice h1; obtain ⟨Z2, e2, rfl⟩ := Kd.R_slice h2; replace h1 := Ak h1; replace h2 := Ak h2) | ((go_at_call 20; with_reducible refine (laws_FnBranched.run2 k x z0 Z1 e1 zs Z2 e2 zc pb sb cb 2 _ _ L2.out (Kd.R_reads' h1.out).2.2 (Kd.R_reads' h1.out).2.1 (Kd.R_reads' h2.out).2.2 (Kd.R_reads' h2.out).2.1 Hb.out).mono ?_; rintro e W ⟨v1, v2, rfl, h3, h4, hd⟩); replace HB := Ak (below_step HB.out hd); replace L2 := Ak (Kd.C_below L2.out hd); replace Ca := Ak (Kd.C_below Ca.out hd); replace Ka := Ak (blk_below Ka.out hd); clear hd; obtain ⟨Rb, nb, rfl⟩ := Kd.R_slice h3; obtain ⟨Sb, mb, rfl⟩ := Kd.R_slice h4; have Cb := Ak (Kd.R_reads' h3).2.2; have Nb := Ak (Kd.R_reads' h3).2.1; clear h1 h2 h3 h4))
 have al := below_alloc (Below.refl W.heap.size W) (.cells #[.int .i64 pb, .slice Rb sb.length nb, .slice Sb cb.length mb] 28)
 have Kb := Ak (blk_new W (.cells #[.int .i64 pb, .slice Rb sb.length nb, .slice Sb cb.length mb] 28))
 replace HB := Ak (below_step HB.out al)
 replace L2 := Ak (Kd.C_below L2.out al)
 replace Ca := Ak (Kd.C_below Ca.out al)
 replace Ka := Ak (blk_below Ka.out al)
 replace Cb := Ak (Kd.C_below Cb.out al)
 clear al
 generalize W.alloc (.cells #[.int .i64 pb, .slice Rb sb.length nb, .slice Sb cb.length mb] 28) = W2 at HB L2 Ca Ka Cb Kb ⊢
 generalize W.heap.size = gb at Kb ⊢
 clear L2
 go_upto_region 13 with (first | ((go_at_call 26; with_reducible refine (laws_at.calls A0 c0 l0 4 a4 _ (Kd.C_below HR0.out HB.out) HC0.out Ha4.out).mono ?_; rintro e W ⟨rfl, hd⟩); replace HB := Ak (below_step HB.out hd.below); replace Ca := Ak (Kd.C_below Ca.out hd.below); replace Ka := Ak (blk_below Ka.out hd.below); replace Cb := Ak (Kd.C_below Cb.out hd.below); replace Kb := Ak (blk_below Kb.out hd.below); clear hd) | ((go_at_call 27; with_reducible refine (impl_WrapCell.calls k (wrap64 (wrap64 (a4 * 41) - 5000)) y _ Hy.out).mono ?_; rintro e W ⟨rfl, hd⟩); replace HB := Ak (below_step HB.out hd); replace Ca := Ak (Kd.C_below Ca.out hd); replace Ka := Ak (blk_below Ka.out hd); replace Cb := Ak (Kd.C_below Cb.out hd); replace Kb := Ak (blk_below Kb.out hd); clear hd))
 have al := below_alloc (Below.refl W.heap.size W) (.cells #[.int .i64 1, .int .i64 x, .int .i64 0, .int .i64 0, .int .i64 1, .int .i64 y, .int .i64 0, .int .i64 0, .int .i64 2, .int .i64 0, .int .i64 0, .int .i64 0] 48)
 have L3 := Ak (show Kd.C k48 (W.alloc (.cells #[.int .i64 1, .int .i64 x, .int .i64 0, .int .i64 0, .int .i64 1, .int .i64 y, .int .i64 0, .int .i64 0, .int .i64 2, .int .i64 0, .int .i64 0, .int .i64 0] 48)) (some ⟨W.heap.size, 0, none⟩) 3 (laws_FnBranched.p3 x y) from laws_FnBranched.lit3 W x y)
 replace HB := Ak (below_step HB.out al)
 replace Ca := Ak (Kd.C_below Ca.out al)
 replace Ka := Ak (blk_below Ka.out al)
 replace Cb := Ak (Kd.C_below Cb.out al)
 replace Kb := Ak (blk_below Kb.out al)
 clear al
 generalize W.alloc (.cells #[.int .i64 1, .int .i64 x, .int .i64 0, .int .i64 0, .int .i64 1, .int .i64 y, .int .i64 0, .int .i64 0, .int .i64 2, .int .i64 0, .int .i64 0, .int .i64 0] 48) = W3 at HB Ca Ka Cb Kb L3 ⊢
 generalize W.heap.size = g3 at L3 ⊢
 go_upto_region 14 with (first | ((go_at_call 28; with_reducible refine (impl_NewMachine.calls z0 zs zc _ Hz.out).mono ?_; rintro e W ⟨v1, v2, rfl, h1, h2, hd⟩); replace HB := Ak (below_step HB.out hd); replace Ca := Ak (Kd.C_below Ca.out hd); replace Ka := Ak (blk_below Ka.out hd); replace Cb := Ak (Kd.C_below Cb.out hd); replace Kb := Ak (blk_below Kb.out hd); replace L3 := Ak (Kd.C_below L3.out hd); clear hd; obtain ⟨Z1, e1, rfl⟩ := Kd.R_slice h1; obtain ⟨Z2, e2, rfl⟩ := Kd.R_slice h2; replace h1 := Ak h1; replace h2 := Ak h2) | ((go_at_call 20; with_reducible refine (laws_FnBranched.run3 k x y z0 Z1 e1 zs Z2 e2 zc pc sc cc 2 _ _ L3.out (Kd.R_reads' h1.out).2.2 (Kd.R_reads' h1.out).2.1 (Kd.R_reads' h2.out).2.2 (Kd.R_reads' h2.out).2.1 Hc.out).mono ?_; rintro e W ⟨v1, v2, rfl, h3, h4, hd⟩); replace HB := Ak (below_step HB.out hd); replace Ca := Ak (Kd.C_below Ca.out hd); replace Ka := Ak (blk_below Ka.out hd); replace Cb := Ak (Kd.C_below Cb.out hd); replace Kb := Ak (blk_below Kb.out hd); replace L3 := Ak (Kd.C_below L3.out hd); clear hd; obtain ⟨Rc, nc, rfl⟩ := Kd.R_slice h3; obtain ⟨Sc, mc, rfl⟩ := Kd.R_slice h4; have Cc := Ak (Kd.R_reads' h3).2.2; have Nc := Ak (Kd.R_reads' h3).2.1; clear h1 h2 h3 h4))
 have al := below_alloc (Below.refl W.heap.size W) (.cells #[.int .i64 pc, .slice Rc sc.length nc, .slice Sc cc.length mc] 28)
 have Kc := Ak (blk_new W (.cells #[.int .i64 pc, .slice Rc sc.length nc, .slice Sc cc.length mc] 28))
 replace HB := Ak (below_step HB.out al)
 replace Ca := Ak (Kd.C_below Ca.out al)
 replace Ka := Ak (blk_below Ka.out al)
 replace Cb := Ak (Kd.C_below Cb.out al)
 replace Kb := Ak (blk_below Kb.out al)
 replace L3 := Ak (Kd.C_below L3.out al)
 replace Cc := Ak (Kd.C_below Cc.out al)
 clear al
 generalize W.alloc (.cells #[.int .i64 pc, .slice Rc sc.length nc, .slice Sc cc.length mc] 28) = W2 at HB Ca Ka Cb Kb L3 Cc Kc ⊢
 generalize W.heap.size = gc at Kc ⊢
 clear L3
 go_upto_region 17 with (first | ((go_at_call 29; with_reducible refine (spec_WordOf.calls k x 9 lu true _ Hu.out).mono ?_; rintro e W ⟨v0, rfl, h1, hd⟩); replace HB := Ak (below_step HB.out hd); replace Ca := Ak (Kd.C_below Ca.out hd); replace Ka := Ak (blk_below Ka.out hd); replace Cb := Ak (Kd.C_below Cb.out hd); replace Kb := Ak (blk_below Kb.out hd); replace Cc := Ak (Kd.C_below Cc.out hd); replace Kc := Ak (blk_below Kc.out hd); clear hd; obtain ⟨Ru, nu, rfl⟩ := Kd.R_slice h1; have Cu := Ak (Kd.R_reads' h1).2.2; have Nu := Ak (Kd.R_reads' h1).2.1; clear h1) | ((go_at_call 29; with_reducible refine (spec_WordOf.calls k y 9 lv true _ Hv.out).mono ?_; rintro e W ⟨v0, rfl, h1, hd⟩); replace HB := Ak (below_step HB.out hd); replace Ca := Ak (Kd.C_below Ca.out hd); replace Ka := Ak (blk_below Ka.out hd); replace Cb := Ak (Kd.C_below Cb.out hd); replace Kb := Ak (blk_below Kb.out hd); replace Cc := Ak (Kd.C_below Cc.out hd); replace Kc := Ak (blk_below Kc.out hd); replace Cu := Ak (Kd.C_below Cu.out hd); clear hd; obtain ⟨Rv, nv, rfl⟩ := Kd.R_slice h1; have Cv := Ak (Kd.R_reads' h1).2.2; have Nv := Ak (Kd.R_reads' h1).2.1; clear h1) | ((go_at_call 27; with_reducible refine (impl_WrapCell.calls k (wrap64 (wrap64 (a4 * 41) - 5000)) y _ Hy.out).mono ?_; rintro e W ⟨rfl, hd⟩); replace HB := Ak (below_step HB.out hd); replace Ca := Ak (Kd.C_below Ca.out hd); replace Ka := Ak (blk_below Ka.out hd); replace Cb := Ak (Kd.C_below Cb.out hd); replace Kb := Ak (blk_below Kb.out hd); replace Cc := Ak (Kd.C_below Cc.out hd); replace Kc := Ak (blk_below Kc.out hd); replace Cu := Ak (Kd.C_below Cu.out hd); clear hd) | ((go_at_call 33; with_reducible refine (spec_AddWords.calls k Ru nu lu Rv nv lv 0 lw kw bw _ Cu.out Nu.out Cv.out Nv.out HW.out).mono ?_; rintro e W ⟨v0, rfl, h1, hd⟩); replace HB := Ak (below_step HB.out hd); replace Ca := Ak (Kd.C_below Ca.out hd); replace Ka := Ak (blk_below Ka.out hd); replace Cb := Ak (Kd.C_below Cb.out hd); replace Kb := Ak (blk_below Kb.out hd); replace Cc := Ak (Kd.C_below Cc.out hd); replace Kc := Ak (blk_below Kc.out hd); replace Cu := Ak (Kd.C_below Cu.out hd); replace Cv := Ak (Kd.C_below Cv.out hd); clear hd; obtain ⟨RW, nW, rfl⟩ := Kd.R_slice h1; have CW := Ak (Kd.R_reads' h1).2.2; have NW := Ak (Kd.R_reads' h1).2.1; clear h1))
 clear Cu Cv
 have m1 : W.cell? ⟨ga, 1, none⟩ = some (.slice Ra sa.length na) := (blk_cell Ka.out 1).trans rfl
 have m2 : W.cell? ⟨gb, 1, none⟩ = some (.slice Rb sb.length nb) := (blk_cell Kb.out 1).trans rfl
 have m3 : W.cell? ⟨gc, 1, none⟩ = some (.slice Rc sc.length nc) := (blk_cell Kc.out 1).trans rfl
 obtain ⟨q0, hq0⟩ : ∃ q0, q0 = wrap64 (wrap64 (wrap64 (a1 * a2) - wrap64 (a3 * 100)) - x) := ⟨_, rfl⟩
 have hm := hmod.out
 rw [← hq0] at hm
 have b3 : (q0.tmod 19683 == 0) = true := by rw [hm]; rfl
 have wr : IntKind.i64.wrap (wrap64 (wrap64 (a1 * a2) - wrap64 (a3 * 100)) - x) = q0 := (i64_w _).trans hq0.symm
 clear hm hmod hq0
 go_region_held3 (fun w' => w'.cell? ⟨ga, 1, none⟩ = some (.slice Ra sa.length na) ∧ w'.cell? ⟨gb, 1, none⟩ = some (.slice Rb sb.length nb) ∧ w'.cell? ⟨gc, 1, none⟩ = some (.slice Rc sc.length nc)) (first | assumption | exact ⟨by assumption, by assumption, by assumption⟩ | go_keep) (first | ((go_at_call 34; with_reducible refine (impl_SignOf.calls x s _ Hs.out).mono ?_; rintro e W ⟨rfl, hd⟩); have hb := below_step (below_drew1 (Below.refl _ _)) hd.below; replace HB := Ak (below_step HB.out hb); replace Ca := Ak (Kd.C_below Ca.out hb); replace Cb := Ak (Kd.C_below Cb.out hb); replace Cc := Ak (Kd.C_below Cc.out hb); replace CW := Ak (Kd.C_below CW.out hb); replace Ka := Ak (blk_below Ka.out hb); replace Kb := Ak (blk_below Kb.out hb); replace Kc := Ak (blk_below Kc.out hb); clear m1 m2 m3; have m1 : W.cell? ⟨ga, 1, none⟩ = some (.slice Ra sa.length na) := (blk_cell Ka.out 1).trans rfl; have m2 : W.cell? ⟨gb, 1, none⟩ = some (.slice Rb sb.length nb) := (blk_cell Kb.out 1).trans rfl; have m3 : W.cell? ⟨gc, 1, none⟩ = some (.slice Rc sc.length nc) := (blk_cell Kc.out 1).trans rfl; clear hd hb) | ((go_at_call 25; with_reducible refine (laws_FnBranched.ints1 k Ra na sa s true _ _ (Kd.C_below Ca.out (below_alloc (Below.refl _ _) (.cells #[.int .i64 s] 3))) Na.out ((blk_cell (blk_new _ (.cells #[.int .i64 s] 3)) 0).trans rfl) Ht1.out).mono ?_; rintro e W ⟨rfl, hd⟩); have hb := below_step (below_alloc (Below.refl _ _) (.cells #[.int .i64 s] 3)) hd.below; replace HB := Ak (below_step HB.out hb); replace Ca := Ak (Kd.C_below Ca.out hb); replace Cb := Ak (Kd.C_below Cb.out hb); replace Cc := Ak (Kd.C_below Cc.out hb); replace CW := Ak (Kd.C_below CW.out hb); replace Ka := Ak (blk_below Ka.out hb); replace Kb := Ak (blk_below Kb.out hb); replace Kc := Ak (blk_below Kc.out hb); clear m1 m2 m3; have m1 : W.cell? ⟨ga, 1, none⟩ = some (.slice Ra sa.length na) := (blk_cell Ka.out 1).trans rfl; have m2 : W.cell? ⟨gb, 1, none⟩ = some (.slice Rb sb.length nb) := (blk_cell Kb.out 1).trans rfl; have m3 : W.cell? ⟨gc, 1, none⟩ = some (.slice Rc sc.length nc) := (blk_cell Kc.out 1).trans rfl; clear hd hb) | ((go_at_call 25; with_reducible refine (laws_ints.calls k Rb nb sb Ra na sa true _ Cb.out Nb.out Ca.out Na.out Ht2.out).mono ?_; rintro e W ⟨rfl, hd⟩); have hb := hd.below; replace HB := Ak (below_step HB.out hb); replace Ca := Ak (Kd.C_below Ca.out hb); replace Cb := Ak (Kd.C_below Cb.out hb); replace Cc := Ak (Kd.C_below Cc.out hb); replace CW := Ak (Kd.C_below CW.out hb); replace Ka := Ak (blk_below Ka.out hb); replace Kb := Ak (blk_below Kb.out hb); replace Kc := Ak (blk_below Kc.out hb); clear m1 m2 m3; have m1 : W.cell? ⟨ga, 1, none⟩ = some (.slice Ra sa.length na) := (blk_cell Ka.out 1).trans rfl; have m2 : W.cell? ⟨gb, 1, none⟩ = some (.slice Rb sb.length nb) := (blk_cell Kb.out 1).trans rfl; have m3 : W.cell? ⟨gc, 1, none⟩ = some (.slice Rc sc.length nc) := (blk_cell Kc.out 1).trans rfl; clear hd hb) | ((go_at_call 31; with_reducible refine (spec_ValueOf.calls k RW nW lw q _ CW.out NW.out Hq.out).mono ?_; rintro e W ⟨rfl, hd⟩); have hb := hd.below; replace HB := Ak (below_step HB.out hb); replace Ca := Ak (Kd.C_below Ca.out hb); replace Cb := Ak (Kd.C_below Cb.out hb); replace Cc := Ak (Kd.C_below Cc.out hb); replace CW := Ak (Kd.C_below CW.out hb); replace Ka := Ak (blk_below Ka.out hb); replace Kb := Ak (blk_below Kb.out hb); replace Kc := Ak (blk_below Kc.out hb); clear m1 m2 m3; have m1 : W.cell? ⟨ga, 1, none⟩ = some (.slice Ra sa.length na) := (blk_cell Ka.out 1).trans rfl; have m2 : W.cell? ⟨gb, 1, none⟩ = some (.slice Rb sb.length nb) := (blk_cell Kb.out 1).trans rfl; have m3 : W.cell? ⟨gc, 1, none⟩ = some (.slice Rc sc.length nc) := (blk_cell Kc.out 1).trans rfl; clear hd hb) | ((go_at_call 25; with_reducible refine (laws_FnBranched.ints1 k Rc nc sc q true _ _ (Kd.C_below Cc.out (below_alloc (Below.refl _ _) (.cells #[.int .i64 q] 3))) Nc.out ((blk_cell (blk_new _ (.cells #[.int .i64 q] 3)) 0).trans rfl) Ht3.out).mono ?_; rintro e W ⟨rfl, hd⟩); have hb := below_step (below_alloc (Below.refl _ _) (.cells #[.int .i64 q] 3)) hd.below; replace HB := Ak (below_step HB.out hb); replace Ca := Ak (Kd.C_below Ca.out hb); replace Cb := Ak (Kd.C_below Cb.out hb); replace Cc := Ak (Kd.C_below Cc.out hb); replace CW := Ak (Kd.C_below CW.out hb); replace Ka := Ak (blk_below Ka.out hb); replace Kb := Ak (blk_below Kb.out hb); replace Kc := Ak (blk_below Kc.out hb); clear m1 m2 m3; have m1 : W.cell? ⟨ga, 1, none⟩ = some (.slice Ra sa.length na) := (blk_cell Ka.out 1).trans rfl; have m2 : W.cell? ⟨gb, 1, none⟩ = some (.slice Rb sb.length nb) := (blk_cell Kb.out 1).trans rfl; have m3 : W.cell? ⟨gc, 1, none⟩ = some (.slice Rc sc.length nc) := (blk_cell Kc.out 1).trans rfl; clear hd hb))
 go_wp2
 go_ret
 exact ⟨rfl, HB.out⟩

end Go.Proofs.Ytlmiankjbffboaa.HFnBranched

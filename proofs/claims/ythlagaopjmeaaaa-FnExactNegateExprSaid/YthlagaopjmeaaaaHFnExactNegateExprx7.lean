/- Text for FnExactNegateExpr: written by a program of this session on the pattern of the kit's print. -/
import Derived.Test.YthlagaopjmeaaaaHFnExactNegateExprx0
import Derived.Test.YthlagaopjmeaaaaHFnExactNegateExprx6
namespace Go.Proofs.Ythlagaopjmeaaaa.HFnExactNegateExpr
set_option maxHeartbeats 8000000
set_option maxRecDepth 100000
open Go.RowKit Go.Proofs.YthlagaopjmeaaaaW.PrintWords Go.Proofs.YthlagaopjmeaaaaW.PrintLast Go.Proofs.YthlagaopjmeaaaaW.PrintMore
attribute [local go_sem] max2_int min2_int max_two min_two max_three min_three max_four min_four
set_option linter.unusedVariables false
set_option linter.unusedSimpArgs false

/-! ### impl_IsExpr: function 21 -/
def impl_IsExpr.f (k : Nat) (a0_0 : Int) (a0_1 : Int) (l0_2 : List (S28)) : Option (Bool) := (impl_nodes.f k a0_0 a0_1 l0_2 60 12).bind fun t230 => (some (decide (t230 ≥ 0)))
theorem impl_IsExpr.mono : ∀ a0 a1 a2 k, LeO (impl_IsExpr.f k a0 a1 a2) (impl_IsExpr.f (k + 1) a0 a1 a2) := by
 intro a0 a1 a2 k
 unfold impl_IsExpr.f
 repeat' first
   | (with_reducible exact impl_nodes.mono _ _ _ _ _ _)
   | (with_reducible exact LeO.refl _)
   | (with_reducible exact LeO.none _)
   | (with_reducible refine LeO.ite ?_ ?_)
   | (with_reducible refine LeO.bind ?_ (fun _ => ?_))
   | exact impl_nodes.mono _ _ _ _ _ _
   | exact LeO.none _
   | refine LeO.ite ?_ ?_
   | refine LeO.bind ?_ (fun _ => ?_)
theorem impl_IsExpr.calls (k : Nat) (a0_0 : Int) (a0_1 : Int) (A0_2 : Option Addr) (c0_2 : Nat) (l0_2 : List (S28)) (r : Bool) (w : World) (hr0_2 : Kd.C k28 w A0_2 l0_2.length l0_2) (hc0_2 : l0_2.length ≤ c0_2) (h : impl_IsExpr.f k a0_0 a0_1 l0_2 = some r) :
  Calls Try.prog 21 #[.agg #[.int .i64 a0_0, .int .i64 a0_1, .slice A0_2 l0_2.length c0_2]] w fun e w' => e = .returned (.bool r) ∧ Below w.heap.size w w' := by
 have hu28 := Try.underlying28
 have HR0_2 := Ak hr0_2
 have HC0_2 := Ak hc0_2
 clear hr0_2 hc0_2
 have HB := Ak (Below.refl w.heap.size w)
 have H : ((impl_nodes.f k a0_0 a0_1 l0_2 60 12).bind fun t230 => (some (decide (t230 ≥ 0)))) = some r := h
 clear h
 replace H := Option.bind_eq_some_iff.mp H
 obtain ⟨t230, A20, H⟩ := H
 replace H : (some (decide (t230 ≥ 0))) = some r := H
 have A2 := Ak A20
 clear A20
 obtain rfl := Option.some.inj H
 go_enter Try.func21, Try.ntmps21
 go_wp2_with (first | ((with_reducible refine gate_dst (N := 1) rfl ?_); refine Qk 1 #[.int .i64 a0_0, .int .i64 a0_1, .slice A0_2 l0_2.length c0_2] 28 ?_; intro gb229 hg w3 hbox hb; have n0_ := Ak (below_step (Qb HB.out) hb); have n1_ := Ak (hbox); have n2_ := Ak ((Qp hg HB.out : w.heap.size ≤ gb229)); have n3_ := Ak ((Qp hg HB.out : w.heap.size ≤ gb229)); clear HB; have HB := n0_; have BK229 := n1_; have GW229 := n2_; have GE229 := n3_; clear n0_ n1_ n2_ n3_; clear hb hbox hg; obtain ⟨hcz4_0, hcz4_1, hcz4_2⟩ := Qu3 BK229.out; have hfz4_0 := blk_frozen BK229.out 0; have hfz4_1 := blk_frozen BK229.out 1; have hfz4_2 := blk_frozen BK229.out 2) | ((with_reducible refine gate_callee (f := 35) rfl ?_); refine Qj (some 4) Try.func35 #[.agg #[.int .i64 a0_0, .int .i64 a0_1, .slice A0_2 l0_2.length c0_2], .int .i64 60, .int .i64 12] ?_; (with_reducible refine (impl_nodes.calls k a0_0 a0_1 _ _ l0_2 60 12 t230 _ ?side1 ?side2 A2.out).mono ?_); (case side1 => repeat (first | exact (Kd.C_below HR0_2.out HB.out) | (with_reducible refine Kd.C_alloc ?_ _) | (with_reducible refine Kd.C_drewN ?_ _) | (with_reducible refine Kd.C_drew ?_))); (case side2 => exact HC0_2.out); rintro e w5 ⟨rfl, hb⟩; refine ⟨_, rfl, ?_⟩; have n0_ := Ak (Qm BK229.out hb); have n1_ := Ak (below_step (Qb HB.out) hb); clear BK229 HB; have BK229 := n0_; have HB := n1_; clear n0_ n1_; (try clear hb); (try clear hb2); (try clear hk); (try clear hi)))
 go_ret
 exact ⟨Qh, Qb HB.out⟩

/-! ### impl_copyExpr: function 22 -/
mutual
def impl_copyExpr.l0 : Nat → List (S28) → Int → Int → Int → Int → List (S28) → Option (Int × Int × (List (S28)))
 | 0, _, _, _, _, _, _ => none
 | k + 1, x12, x13, x14, x234000, x234001, x234002 => if x14 < x13 then (if 0 ≤ x14 then (if x14 < (x12.length : Int) then ((impl_copyExpr.f k ((rd_T28 x12 x14).f0) ((rd_T28 x12 x14).f1) ((rd_T28 x12 x14).f2)).bind fun bt236 => (if x234002.length < 3518437208883 then (impl_copyExpr.l0 k x12 x13 (wrap64 (x14 + 1)) x234000 x234001 (x234002 ++ [(⟨bt236.1, bt236.2.1, bt236.2.2⟩ : S28)])) else (none))) else (none)) else (none)) else (some (x234000, x234001, x234002))
def impl_copyExpr.f : Nat → Int → Int → List (S28) → Option (Int × Int × (List (S28)))
 | 0, _, _, _ => none
 | k + 1, a0_0, a0_1, l0_2 => impl_copyExpr.l0 k l0_2 (l0_2.length : Int) 0 a0_0 a0_1 ([] : List (S28))
end
theorem impl_copyExpr.mono_l : ∀ k, (∀ y0 y1 y2, LeO (impl_copyExpr.f k y0 y1 y2) (impl_copyExpr.f (k + 1) y0 y1 y2)) ∧ (∀ y0 y1 y2 y3 y4 y5, LeO (impl_copyExpr.l0 k y0 y1 y2 y3 y4 y5) (impl_copyExpr.l0 (k + 1) y0 y1 y2 y3 y4 y5))
 | 0 => ⟨fun _ _ _ r h => by simp [impl_copyExpr.f] at h, fun _ _ _ _ _ _ r h => by simp [impl_copyExpr.l0] at h⟩
 | k + 1 => by
  obtain ⟨ih0, ih1⟩ := impl_copyExpr.mono_l k
  refine ⟨?_, ?_⟩
  ·intro y0 y1 y2
   unfold impl_copyExpr.f
   repeat' first
   | (with_reducible exact ih0 _ _ _)
   | (with_reducible exact ih1 _ _ _ _ _ _)
   | (with_reducible exact LeO.refl _)
   | (with_reducible exact LeO.none _)
   | (with_reducible refine LeO.ite ?_ ?_)
   | (with_reducible refine LeO.bind ?_ (fun _ => ?_))
   | exact ih0 _ _ _
   | exact ih1 _ _ _ _ _ _
   | exact LeO.none _
   | refine LeO.ite ?_ ?_
   | refine LeO.bind ?_ (fun _ => ?_)
  ·intro y0 y1 y2 y3 y4 y5
   unfold impl_copyExpr.l0
   repeat' first
   | (with_reducible exact ih0 _ _ _)
   | (with_reducible exact ih1 _ _ _ _ _ _)
   | (with_reducible exact LeO.refl _)
   | (with_reducible exact LeO.none _)
   | (with_reducible refine LeO.ite ?_ ?_)
   | (with_reducible refine LeO.bind ?_ (fun _ => ?_))
   | exact ih0 _ _ _
   | exact ih1 _ _ _ _ _ _
   | exact LeO.none _
   | refine LeO.ite ?_ ?_
   | refine LeO.bind ?_ (fun _ => ?_)
theorem impl_copyExpr.mono : ∀ a0 a1 a2 k, LeO (impl_copyExpr.f k a0 a1 a2) (impl_copyExpr.f (k + 1) a0 a1 a2) := by
 intro a0 a1 a2 k
 obtain ⟨ih0, ih1⟩ := impl_copyExpr.mono_l k
 exact ih0 a0 a1 a2
def impl_copyExpr.T5 : Bool × List (List Nat × List Nat) := (true, [([], []), ([0], [0]), ([], []), ([2], [2]), ([3], [3]), ([1, 4, 3], [1, 4]), ([0, 1, 2, 3, 4, 5], []), ([6, 5, 5, 0, 1, 2, 3, 4, 5], [5, 6])])
def impl_copyExpr.B5 : List Nat := [0, 1, 0, 4, 12, 31, 63, 127]
theorem impl_copyExpr.tab5 : rtab .any (opsOf Try.f22 5) = impl_copyExpr.T5 := by kernel_rfl
theorem impl_copyExpr.bits5 : waitsOk impl_copyExpr.T5.2 impl_copyExpr.B5 = true := by kernel_rfl
theorem impl_copyExpr.calls (k : Nat) : ∀ (a0_0 : Int) (a0_1 : Int) (A0_2 : Option Addr) (c0_2 : Nat) (l0_2 : List (S28)) (r1 : Int) (r2 : Int) (r3 : List (S28)) (w : World) (hr0_2 : Kd.C k28 w A0_2 l0_2.length l0_2) (hc0_2 : l0_2.length ≤ c0_2) (h : impl_copyExpr.f k a0_0 a0_1 l0_2 = some (r1, r2, r3)),
  Calls Try.prog 22 #[.agg #[.int .i64 a0_0, .int .i64 a0_1, .slice A0_2 l0_2.length c0_2]] w fun e w' => ∃ v2_ : Value, e = .returned (.agg #[.int .i64 r1, .int .i64 r2, v2_]) ∧ Kd.R k28 28 w' w.heap.size (fun _ => True) v2_ r3 ∧ Below w.heap.size w w' := by
 induction k using Nat.strongRecOn with
 | _ k ih =>
 intro a0_0 a0_1 A0_2 c0_2 l0_2 r1 r2 r3 w hr0_2 hc0_2 h
 cases k with
 | zero => exact absurd h (by simp [impl_copyExpr.f])
 | succ k =>
 simp only [impl_copyExpr.f] at h
 have hu28 := Try.underlying28
 have HR0_2 := Ak hr0_2
 have HC0_2 := Ak hc0_2
 clear hr0_2 hc0_2
 have HB := Ak (Below.refl w.heap.size w)
 have H : (impl_copyExpr.l0 k l0_2 (l0_2.length : Int) 0 a0_0 a0_1 ([] : List (S28))) = some (r1, r2, r3) := h
 clear h
 have H' := Ak H
 clear H
 go_enter Try.func22, Try.ntmps22
 go_wp2_with (first | ((with_reducible refine gate_dst (N := 1) rfl ?_); refine Qk 1 #[.int .i64 a0_0, .int .i64 a0_1, .slice A0_2 l0_2.length c0_2] 28 ?_; intro gb231 hg w2 hbox hb; have n0_ := Ak (below_step (Qb HB.out) hb); have n1_ := Ak (hbox); have n2_ := Ak ((Qp hg HB.out : w.heap.size ≤ gb231)); have n3_ := Ak ((Qp hg HB.out : w.heap.size ≤ gb231)); clear HB; have HB := n0_; have BK231 := n1_; have GW231 := n2_; have GE231 := n3_; clear n0_ n1_ n2_ n3_; clear hb hbox hg) | ((with_reducible refine gate_dst (N := 2) rfl ?_); refine Qk 2 #[.int .i64 0, .int .i64 0, .slice none 0 0] 28 ?_; intro gb232 hg w3 hbox hb; have n0_ := Ak (Qm BK231.out hb); have n1_ := Ak (below_step (Qb HB.out) hb); have n2_ := Ak (hbox); have n3_ := Ak ((Qp hg HB.out : w.heap.size ≤ gb232)); have n4_ := Ak ((Qp hg HB.out : w.heap.size ≤ gb232)); have n5_ := Ak ((by rw [hg]; exact Nat.ne_of_lt (Qn BK231.out) : gb231 ≠ gb232)); have n6_ := Ak ((by rw [hg]; exact Nat.ne_of_gt (Qn BK231.out) : gb232 ≠ gb231)); clear BK231 HB; have BK231 := n0_; have HB := n1_; have BK232 := n2_; have GW232 := n3_; have GE232 := n4_; have NB231_232 := n5_; have NB232_231 := n6_; clear n0_ n1_ n2_ n3_ n4_ n5_ n6_; clear hb hbox hg; have hnb4 := NB231_232.out; have hnc4 := NB232_231.out; obtain ⟨hcz5_0, hcz5_1, hcz5_2⟩ := Qu3 BK231.out; have hfz5_0 := blk_frozen BK231.out 0; have hfz5_1 := blk_frozen BK231.out 1; have hfz5_2 := blk_frozen BK231.out 2) | ((with_reducible refine gate_dst (N := 3) rfl ?_); refine Qk 3 #[.int .i64 0, .int .i64 0, .slice none 0 0] 28 ?_; intro gb233 hg w6 hbox hb; have n0_ := Ak (Qm BK231.out hb); have n1_ := Ak (Qm BK232.out hb); have n2_ := Ak (below_step (Qb HB.out) hb); have n3_ := Ak (hbox); have n4_ := Ak ((Qp hg HB.out : w.heap.size ≤ gb233)); have n5_ := Ak ((Qp hg HB.out : w.heap.size ≤ gb233)); have n6_ := Ak ((by rw [hg]; exact Nat.ne_of_lt (Qn BK231.out) : gb231 ≠ gb233)); have n7_ := Ak ((by rw [hg]; exact Nat.ne_of_gt (Qn BK231.out) : gb233 ≠ gb231)); have n8_ := Ak ((by rw [hg]; exact Nat.ne_of_lt (Qn BK232.out) : gb232 ≠ gb233)); have n9_ := Ak ((by rw [hg]; exact Nat.ne_of_gt (Qn BK232.out) : gb233 ≠ gb232)); clear BK231 BK232 HB; have BK231 := n0_; have BK232 := n1_; have HB := n2_; have BK233 := n3_; have GW233 := n4_; have GE233 := n5_; have NB231_233 := n6_; have NB233_231 := n7_; have NB232_233 := n8_; have NB233_232 := n9_; clear n0_ n1_ n2_ n3_ n4_ n5_ n6_ n7_ n8_ n9_; clear hb hbox hg; have hnb7 := NB233_231.out; have hnc7 := NB231_233.out; have hnb8 := NB233_232.out; have hnc8 := NB232_233.out; obtain ⟨hcz9_0, hcz9_1, hcz9_2, hfz9_0, hfz9_1, hfz9_2⟩ := Qv3 BK233.out; obtain ⟨hcz10_0, hcz10_1, hcz10_2⟩ := Qu3 BK231.out; have hfz10_0 := blk_frozen BK231.out 0; have hfz10_1 := blk_frozen BK231.out 1; have hfz10_2 := blk_frozen BK231.out 2))
 go_loopg [14] k (fun kq v14 w' => ∃ (x14_1 : Int) (x234002_1 : List (S28)) (u234002 : Value), v14 = .int .i64 x14_1 ∧ Aside0 (impl_copyExpr.l0 kq l0_2 (l0_2.length : Int) x14_1 a0_0 a0_1 x234002_1 = some (r1, r2, r3)) ∧ Aside0 (kq ≤ k) ∧ Aside0 (Kd.R k28 28 w' w.heap.size (fun k_ => k_ ≠ gb231 ∧ k_ ≠ gb232 ∧ k_ ≠ gb233) u234002 x234002_1) ∧ Aside0 (w'.heap[gb231]? = some (.cells #[.int .i64 a0_0, .int .i64 a0_1, (.slice A0_2 l0_2.length c0_2)] 28 (0, 0))) ∧ Aside0 (w'.heap[gb232]? = some (.cells #[.int .i64 0, .int .i64 0, (.slice none 0 0)] 28 (0, 0))) ∧ Aside0 (w'.heap[gb233]? = some (.cells #[.int .i64 a0_0, .int .i64 a0_1, u234002] 28 (0, 0))) ∧ Aside0 (Below w.heap.size w w'))
 case atStart => exact ⟨(0), (([] : List (S28))), (.slice none 0 0), Qi, H', ⟨Nat.le_refl _⟩, ⟨by first | exact Kd.R_nil _ _ _ _ _ | exact Kd.N_nil _ _ _ _ _ | exact Kd.V_nil _ _ _ _ _ | exact Kd.Q_nil _ _ _ _ _ | exact Kd.S_nil _ _ _ _ _⟩, ⟨by refine Qe ?_; refine blk_far ?_ NB231_233.out _; refine Qe ?_; refine blk_far ?_ NB231_233.out _; refine Qe ?_; refine blk_far ?_ NB231_233.out _; refine Qe ?_; exact BK231.out⟩, ⟨by refine Qe ?_; refine blk_far ?_ NB232_233.out _; refine Qe ?_; refine blk_far ?_ NB232_233.out _; refine Qe ?_; refine blk_far ?_ NB232_233.out _; refine Qe ?_; exact BK232.out⟩, ⟨by refine Qe ?_; refine blk_put (cs := #[.int .i64 a0_0, .int .i64 a0_1, .slice none 0 0]) ?_ 2 _ rfl; refine Qe ?_; refine blk_put (cs := #[.int .i64 a0_0, .int .i64 0, .slice none 0 0]) ?_ 1 _ rfl; refine Qe ?_; refine blk_put (cs := #[.int .i64 0, .int .i64 0, .slice none 0 0]) ?_ 0 _ rfl; refine Qe ?_; exact BK233.out⟩, ⟨Qb HB.out⟩⟩
 case round =>
  clear H'
  (try clear c2); (try clear p2); (try clear c4); (try clear c7); (try clear c8); (try clear hcz10_0); (try clear hcz10_1); (try clear hcz10_2); (try clear hcz5_0); (try clear hcz5_1); (try clear hcz5_2); (try clear hcz9_0); (try clear hcz9_1); (try clear hcz9_2); (try clear hfz10_0); (try clear hfz10_1); (try clear hfz10_2); (try clear hfz5_0); (try clear hfz5_1); (try clear hfz5_2); (try clear hfz9_0); (try clear hfz9_1); (try clear hfz9_2)
  obtain ⟨x14_1, x234002_1, u234002, rfl, HA, HK1, HO_234002, BK231, BK232, BK233, HB⟩ := hrel
  cases gk with
  | zero => exact absurd HA.out (by simp [impl_copyExpr.l0])
  | succ k1 =>
   have H := HA.out
   clear HA
   simp only [impl_copyExpr.l0] at H
   by_cases c11 : x14_1 < (l0_2.length : Int)
   ·rw [if_pos c11] at H
    have c11b0 : decide (x14_1 < (l0_2.length : Int)) = true := decide_eq_true c11
    clear c11
    by_cases c12 : 0 ≤ x14_1
    ·rw [if_pos c12] at H
     have c12b0 : decide (0 ≤ x14_1) = true := decide_eq_true c12
     clear c12
     by_cases c13 : x14_1 < (l0_2.length : Int)
     ·rw [if_pos c13] at H
      have c13b0 : decide (x14_1 < (l0_2.length : Int)) = true := decide_eq_true c13
      clear c13
      replace H := Option.bind_eq_some_iff.mp H
      obtain ⟨⟨t236, t237, t238⟩, A140, H⟩ := H
      replace H : (if x234002_1.length < 3518437208883 then (impl_copyExpr.l0 k1 l0_2 (l0_2.length : Int) (wrap64 (x14_1 + 1)) a0_0 a0_1 (x234002_1 ++ [(⟨t236, t237, t238⟩ : S28)])) else (none)) = some (r1, r2, r3) := H
      have A14 := Ak A140
      clear A140
      by_cases c15 : x234002_1.length < 3518437208883
      ·rw [if_pos c15] at H
       have LMc15 := Ak c15
       clear c15
       obtain ⟨y241, hy241⟩ : ∃ y_ : List (S28), y_ = (x234002_1 ++ [(⟨t236, t237, t238⟩ : S28)]) := ⟨_, rfl⟩
       replace H : (impl_copyExpr.l0 k1 l0_2 (l0_2.length : Int) (wrap64 (x14_1 + 1)) a0_0 a0_1 y241) = some (r1, r2, r3) := by first | (rw [hy241]; with_reducible exact H) | (have H2_ := (Option.bind_some _ _).symm.trans H; rw [hy241]; with_reducible exact H2_) | (have H2_ := (Option.bind_some _ _).symm.trans H; with_reducible exact H2_) | with_reducible exact H | (rw [hy241]; exact H) | exact H
       have Ny241 := Ak hy241
       clear hy241
       have H' := Ak H
       clear H
       have p234 : 0 ≤ (x14_1 : Int) := Qg
       have q234 : x14_1 < (l0_2.length : Int) := Qg
       obtain ⟨ad234, A234_2, c234_2, e234, hx234_0, hx234_1, hx234_2, hl234_2, hi234_2⟩ := at_T28 HR0_2.out x14_1 p234 q234
       cases e234
       (try replace hx234_0 := (HB.out.cell (World.block_lt_of_cell? w _ hx234_0)).trans hx234_0)
       (try replace hx234_1 := (HB.out.cell (World.block_lt_of_cell? w _ hx234_1)).trans hx234_1)
       (try replace hx234_2 := (HB.out.cell (World.block_lt_of_cell? w _ hx234_2)).trans hx234_2)
       have HR234_2 := Ak hi234_2
       have HC234_2 := Ak hl234_2
       clear hi234_2 hl234_2
       replace p234 := eq_true p234
       replace q234 := eq_true q234
       try go_wp2_with (first | ((with_reducible refine gate_dst (N := 5) rfl ?_); refine Qk 5 #[.int .i64 0, .int .i64 0, .slice none 0 0] 28 ?_; intro gb235 hg w16 hbox hb; have n0_ := Ak (Kd.R_below (Kd.R_elderB (Qc HO_234002.out) gb235 (Nat.le_of_eq hg.symm)) hb); have n1_ := Ak (Qm BK231.out hb); have n2_ := Ak (Qm BK232.out hb); have n3_ := Ak (Qm BK233.out hb); have n4_ := Ak (below_step (Qb HB.out) hb); have n5_ := Ak (hbox); have n6_ := Ak ((Qp hg HB.out : w.heap.size ≤ gb235)); have n7_ := Ak ((Qp hg HB.out : w.heap.size ≤ gb235)); have n8_ := Ak ((by rw [hg]; exact Nat.ne_of_lt (Qn BK231.out) : gb231 ≠ gb235)); have n9_ := Ak ((by rw [hg]; exact Nat.ne_of_gt (Qn BK231.out) : gb235 ≠ gb231)); have n10_ := Ak ((by rw [hg]; exact Nat.ne_of_lt (Qn BK232.out) : gb232 ≠ gb235)); have n11_ := Ak ((by rw [hg]; exact Nat.ne_of_gt (Qn BK232.out) : gb235 ≠ gb232)); have n12_ := Ak ((by rw [hg]; exact Nat.ne_of_lt (Qn BK233.out) : gb233 ≠ gb235)); have n13_ := Ak ((by rw [hg]; exact Nat.ne_of_gt (Qn BK233.out) : gb235 ≠ gb233)); clear HO_234002 BK231 BK232 BK233 HB; have HO_234002 := n0_; have BK231 := n1_; have BK232 := n2_; have BK233 := n3_; have HB := n4_; have BK235 := n5_; have GW235 := n6_; have GE235 := n7_; have NB231_235 := n8_; have NB235_231 := n9_; have NB232_235 := n10_; have NB235_232 := n11_; have NB233_235 := n12_; have NB235_233 := n13_; clear n0_ n1_ n2_ n3_ n4_ n5_ n6_ n7_ n8_ n9_ n10_ n11_ n12_ n13_; clear hb hbox hg; have hnb17 := NB235_231.out; have hnc17 := NB231_235.out; have hnb18 := NB235_232.out; have hnc18 := NB232_235.out; have hnb19 := NB235_233.out; have hnc19 := NB233_235.out; obtain ⟨hcz20_0, hcz20_1, hcz20_2⟩ := Qu3 BK235.out; have hfz20_0 := blk_frozen BK235.out 0; have hfz20_1 := blk_frozen BK235.out 1; have hfz20_2 := blk_frozen BK235.out 2))
       have n0_ : Aside0 (Kd.R k28 28 (((w16.setCell ⟨gb235, 0, none⟩ (.int .i64 ((rd_T28 l0_2 x14_1).f0))).setCell ⟨gb235, 1, none⟩ (.int .i64 ((rd_T28 l0_2 x14_1).f1))).setCell ⟨gb235, 2, none⟩ (.slice A234_2 ((rd_T28 l0_2 x14_1).f2).length c234_2)) w.heap.size (fun k_ => k_ ≠ gb231 ∧ k_ ≠ gb232 ∧ k_ ≠ gb233 ∧ k_ ≠ gb235) u234002 x234002_1) := ⟨by refine Qf ?_; exact Kd.R_mono (Kd.R_far (p := ⟨gb235, 2, none⟩) (Kd.R_far (p := ⟨gb235, 1, none⟩) (Kd.R_far (p := ⟨gb235, 0, none⟩) (Kd.R_mono HO_234002.out (fun k_ hk => (⟨hk, hk.2⟩ : _ ∧ k_ ≠ gb235))) (fun _ hk => hk.2) (.int .i64 ((rd_T28 l0_2 x14_1).f0))) (fun _ hk => hk.2) (.int .i64 ((rd_T28 l0_2 x14_1).f1))) (fun _ hk => hk.2) (.slice A234_2 ((rd_T28 l0_2 x14_1).f2).length c234_2)) (fun _ hk => ⟨hk.1.1.1, ⟨hk.1.1.2.1, ⟨hk.1.1.2.2, hk.1.2⟩⟩⟩)⟩
       have n1_ : Aside0 ((((w16.setCell ⟨gb235, 0, none⟩ (.int .i64 ((rd_T28 l0_2 x14_1).f0))).setCell ⟨gb235, 1, none⟩ (.int .i64 ((rd_T28 l0_2 x14_1).f1))).setCell ⟨gb235, 2, none⟩ (.slice A234_2 ((rd_T28 l0_2 x14_1).f2).length c234_2)).heap[gb231]? = some (.cells #[.int .i64 a0_0, .int .i64 a0_1, .slice (some ad234) l0_2.length c0_2] 28 (0, 0))) := ⟨by refine Qe ?_; refine blk_far ?_ NB231_235.out _; refine Qe ?_; refine blk_far ?_ NB231_235.out _; refine Qe ?_; refine blk_far ?_ NB231_235.out _; refine Qe ?_; exact BK231.out⟩
       have n2_ : Aside0 ((((w16.setCell ⟨gb235, 0, none⟩ (.int .i64 ((rd_T28 l0_2 x14_1).f0))).setCell ⟨gb235, 1, none⟩ (.int .i64 ((rd_T28 l0_2 x14_1).f1))).setCell ⟨gb235, 2, none⟩ (.slice A234_2 ((rd_T28 l0_2 x14_1).f2).length c234_2)).heap[gb232]? = some (.cells #[.int .i64 0, .int .i64 0, .slice none 0 0] 28 (0, 0))) := ⟨by refine Qe ?_; refine blk_far ?_ NB232_235.out _; refine Qe ?_; refine blk_far ?_ NB232_235.out _; refine Qe ?_; refine blk_far ?_ NB232_235.out _; refine Qe ?_; exact BK232.out⟩
       have n3_ : Aside0 ((((w16.setCell ⟨gb235, 0, none⟩ (.int .i64 ((rd_T28 l0_2 x14_1).f0))).setCell ⟨gb235, 1, none⟩ (.int .i64 ((rd_T28 l0_2 x14_1).f1))).setCell ⟨gb235, 2, none⟩ (.slice A234_2 ((rd_T28 l0_2 x14_1).f2).length c234_2)).heap[gb233]? = some (.cells #[.int .i64 a0_0, .int .i64 a0_1, u234002] 28 (0, 0))) := ⟨by refine Qe ?_; refine blk_far ?_ NB233_235.out _; refine Qe ?_; refine blk_far ?_ NB233_235.out _; refine Qe ?_; refine blk_far ?_ NB233_235.out _; refine Qe ?_; exact BK233.out⟩
       have n4_ : Aside0 ((((w16.setCell ⟨gb235, 0, none⟩ (.int .i64 ((rd_T28 l0_2 x14_1).f0))).setCell ⟨gb235, 1, none⟩ (.int .i64 ((rd_T28 l0_2 x14_1).f1))).setCell ⟨gb235, 2, none⟩ (.slice A234_2 ((rd_T28 l0_2 x14_1).f2).length c234_2)).heap[gb235]? = some (.cells #[.int .i64 ((rd_T28 l0_2 x14_1).f0), .int .i64 ((rd_T28 l0_2 x14_1).f1), .slice A234_2 ((rd_T28 l0_2 x14_1).f2).length c234_2] 28 (0, 0))) := ⟨by refine Qe ?_; refine blk_put (cs := #[.int .i64 ((rd_T28 l0_2 x14_1).f0), .int .i64 ((rd_T28 l0_2 x14_1).f1), .slice none 0 0]) ?_ 2 _ rfl; refine Qe ?_; refine blk_put (cs := #[.int .i64 ((rd_T28 l0_2 x14_1).f0), .int .i64 0, .slice none 0 0]) ?_ 1 _ rfl; refine Qe ?_; refine blk_put (cs := #[.int .i64 0, .int .i64 0, .slice none 0 0]) ?_ 0 _ rfl; refine Qe ?_; exact BK235.out⟩
       have n5_ : Aside0 (Below w.heap.size w (((w16.setCell ⟨gb235, 0, none⟩ (.int .i64 ((rd_T28 l0_2 x14_1).f0))).setCell ⟨gb235, 1, none⟩ (.int .i64 ((rd_T28 l0_2 x14_1).f1))).setCell ⟨gb235, 2, none⟩ (.slice A234_2 ((rd_T28 l0_2 x14_1).f2).length c234_2))) := ⟨Qb HB.out⟩
       (try clear HO_234002); (try clear BK231); (try clear BK232); (try clear BK233); (try clear BK235); (try clear HB)
       generalize (((w16.setCell ⟨gb235, 0, none⟩ (.int .i64 ((rd_T28 l0_2 x14_1).f0))).setCell ⟨gb235, 1, none⟩ (.int .i64 ((rd_T28 l0_2 x14_1).f1))).setCell ⟨gb235, 2, none⟩ (.slice A234_2 ((rd_T28 l0_2 x14_1).f2).length c234_2)) = w21 at n0_ n1_ n2_ n3_ n4_ n5_ ⊢
       have HO_234002 := n0_
       have BK231 := n1_
       have BK232 := n2_
       have BK233 := n3_
       have BK235 := n4_
       have HB := n5_
       clear n0_ n1_ n2_ n3_ n4_ n5_
       have n0_ := Ak (Kd.R_drew HO_234002.out)
       have n1_ := Ak (blk_drew BK231.out)
       have n2_ := Ak (blk_drew BK232.out)
       have n3_ := Ak (blk_drew BK233.out)
       have n4_ := Ak (blk_drew BK235.out)
       have n5_ := Ak (below_drew1 HB.out)
       clear HO_234002 BK231 BK232 BK233 BK235 HB
       have HO_234002 := n0_
       have BK231 := n1_
       have BK232 := n2_
       have BK233 := n3_
       have BK235 := n4_
       have HB := n5_
       clear n0_ n1_ n2_ n3_ n4_ n5_
       refine start_ (n := 8) (S := fun w' => w'.cell? ⟨gb233, 0, none⟩ = some (.int .i64 a0_0) ∧ w'.cell? ⟨gb233, 1, none⟩ = some (.int .i64 a0_1) ∧ w'.cell? ⟨gb233, 2, none⟩ = some (u234002) ∧ w'.cell? ⟨gb235, 0, none⟩ = some (.int .i64 ((rd_T28 l0_2 x14_1).f0)) ∧ w'.cell? ⟨gb235, 1, none⟩ = some (.int .i64 ((rd_T28 l0_2 x14_1).f1)) ∧ w'.cell? ⟨gb235, 2, none⟩ = some (.slice A234_2 ((rd_T28 l0_2 x14_1).f2).length c234_2)) (ds := [7]) #[false, false, false, false, false, false, false, false] (by kernel_rfl) rfl rfl ⟨(blk_cell BK233.out 0).trans rfl, (blk_cell BK233.out 1).trans rfl, (blk_cell BK233.out 2).trans rfl, (blk_cell BK235.out 0).trans rfl, (blk_cell BK235.out 1).trans rfl, (blk_cell BK235.out 2).trans rfl⟩ (fun hHeld => ?_); refine with_tabW impl_copyExpr.tab5 impl_copyExpr.bits5 (fun HT_ HW_ => ?_)
       generalize w21.drew = w22 at HO_234002 BK231 BK232 BK233 BK235 HB hHeld ⊢
       refine Qq 0 (some 18) ?_
       refine Qr 1 (some 19) hHeld ?_
       refine Qr 2 (some 20) hHeld ?_
       refine Qs 3 (some 21) (fun K hK => ?_)
       refine goes_ Try.func22 (by kernel_rfl) rfl #[.agg #[.int .i64 ((rd_T28 l0_2 x14_1).f0), .int .i64 ((rd_T28 l0_2 x14_1).f1), .slice A234_2 ((rd_T28 l0_2 x14_1).f2).length c234_2]] (by rfl) rfl rfl (by (try simp only [List.map_toArray, List.map_cons, List.map_nil]); first | done | rfl | (simp only [List.length_drop, List.length_take]; rfl)) ?_
       with_reducible refine (ih k1 (by have := HK1.out; omega) ((rd_T28 l0_2 x14_1).f0) ((rd_T28 l0_2 x14_1).f1) _ _ ((rd_T28 l0_2 x14_1).f2) t236 t237 t238 _ ?side1 ?side2 A14.out).mono ?_
       (case side1 => repeat (first | exact (Kd.C_below HR234_2.out HB.out) | (with_reducible refine Kd.C_alloc ?_ _) | (with_reducible refine Kd.C_drewN ?_ _) | (with_reducible refine Kd.C_drew ?_)))
       (case side2 => exact HC234_2.out)
       rintro e w23 ⟨v239, rfl, ho0, hb⟩
       refine ⟨_, rfl, ?_⟩
       have n0_ := Ak (Kd.R_elder' (Qc HO_234002.out) (Kd.R_base ho0) hb)
       have n1_ := Ak (Kd.R_lower (Kd.R_newB (Kd.R_newB (Kd.R_newB (Kd.R_newB (Kd.R_new' ho0 (Kd.R_lt (Qc HO_234002.out))) (g := gb231) (o := .cells #[.int .i64 a0_0, .int .i64 a0_1, .slice (some ad234) l0_2.length c0_2] 28 (0, 0)) (Qa BK231.out)) (g := gb232) (o := .cells #[.int .i64 0, .int .i64 0, .slice none 0 0] 28 (0, 0)) (Qa BK232.out)) (g := gb233) (o := .cells #[.int .i64 a0_0, .int .i64 a0_1, u234002] 28 (0, 0)) (Qa BK233.out)) (g := gb235) (o := .cells #[.int .i64 ((rd_T28 l0_2 x14_1).f0), .int .i64 ((rd_T28 l0_2 x14_1).f1), .slice A234_2 ((rd_T28 l0_2 x14_1).f2).length c234_2] 28 (0, 0)) (Qa BK235.out)) (below_size (Qb HB.out)))
       have n2_ := Ak (Qm BK231.out hb)
       have n3_ := Ak (Qm BK232.out hb)
       have n4_ := Ak (Qm BK233.out hb)
       have n5_ := Ak (Qm BK235.out hb)
       have n6_ := Ak (below_step (Qb HB.out) hb)
       clear HO_234002 BK231 BK232 BK233 BK235 HB
       have HO_234002 := n0_
       have HO240 := n1_
       have BK231 := n2_
       have BK232 := n3_
       have BK233 := n4_
       have BK235 := n5_
       have HB := n6_
       clear n0_ n1_ n2_ n3_ n4_ n5_ n6_
       (try clear hb); (try clear hb2); (try clear hk); (try clear hi); (try clear ho0)
       obtain ⟨Ao25, co25, eo25⟩ := Kd.R_slice HO240.out
       (first | subst eo25 | (injection eo25 with f1_ f2_ f3_; have f4_ := f1_.symm; have f5_ := f3_.symm; clear f1_ f2_ f3_; subst f4_; subst f5_))
       refine hK.out _ _ ⟨(blk_cell BK233.out 0).trans rfl, (blk_cell BK233.out 1).trans rfl, (blk_cell BK233.out 2).trans rfl, (blk_cell BK235.out 0).trans rfl, (blk_cell BK235.out 1).trans rfl, (blk_cell BK235.out 2).trans rfl⟩ (fun hHeld => ?_)
       clear hK K
       refine norm_ (a' := ?_) ?_ ?_
       rotate_left
       ·show Act.put _ (some 21) _ = _
        simp only [Act.put, List.setIfInBounds_toArray, List.set_cons_zero, List.set_cons_succ, i64_w, i32_w]
        rfl
       refine Qs 4 (some 22) (fun K hK => ?_)
       refine value_ (w1 := ?_) (v := ?_) (by rfl) rfl ?_ ?_
       rotate_left 2
       ·go_simp
        constructor
        ·rfl
        ·rfl
       refine hK.out _ _ ⟨(blk_cell (blk_alloc BK233.out _) 0).trans rfl, (blk_cell (blk_alloc BK233.out _) 1).trans rfl, (blk_cell (blk_alloc BK233.out _) 2).trans rfl, (blk_cell (blk_alloc BK235.out _) 0).trans rfl, (blk_cell (blk_alloc BK235.out _) 1).trans rfl, (blk_cell (blk_alloc BK235.out _) 2).trans rfl⟩ (fun hHeld => ?_)
       clear hK K
       refine norm_ (a' := ?_) ?_ ?_
       rotate_left
       ·show Act.put _ (some 22) _ = _
        simp only [Act.put, List.setIfInBounds_toArray, List.set_cons_zero, List.set_cons_succ, i64_w, i32_w]
        rfl
       refine Qs 5 (some 23) (fun K hK => ?_)
       refine Kd.R_append_step k28 (w0 := w) w.heap.size (by rfl) (.tmp 19) (.tmp 22) 26 28 (.agg #[(.int .i64 0), (.int .i64 0), (.slice none 0 0)]) 40 rfl Try.underlying26 info28 rfl (by decide) (by omega) u234002 x234002_1 (⟨t236, t237, t238⟩ : S28) [.int .i64 t236, .int .i64 t237, .slice Ao25 t238.length co25] (fun k_ => k_ ≠ gb231 ∧ k_ ≠ gb232 ∧ k_ ≠ gb233 ∧ k_ ≠ gb235) (fun k_ => ((fun k_ => k_ ≠ gb231 ∧ k_ ≠ gb232 ∧ k_ ≠ gb233 ∧ k_ ≠ gb235)) k_ ∧ some k_ ≠ (u234002 : Value).ownBlock) rfl rfl ?aP (fun _ hk => hk) ?aF ?aO ?aB ?aS ?aL ?_
       (case aP => exact k28_mkM _ _ _ (⟨t236, t237, t238⟩ : S28) (Kd.R_mono (HO240.out) (fun k_ hk => ⟨⟨hk.1.1.1.2, ⟨hk.1.1.2, ⟨hk.1.2, hk.2⟩⟩⟩, hk.1.1.1.1.2⟩)))
       (case aB => exact (Qb HB.out))
       (case aF => exact (fun k_ hk => ⟨Kd.freshB (g := gb231) (o := .cells #[.int .i64 a0_0, .int .i64 a0_1, .slice (some ad234) l0_2.length c0_2] 28 (0, 0)) (Qa BK231.out) k_ hk, Kd.freshB (g := gb232) (o := .cells #[.int .i64 0, .int .i64 0, .slice none 0 0] 28 (0, 0)) (Qa BK232.out) k_ hk, Kd.freshB (g := gb233) (o := .cells #[.int .i64 a0_0, .int .i64 a0_1, u234002] 28 (0, 0)) (Qa BK233.out) k_ hk, Kd.freshB (g := gb235) (o := .cells #[.int .i64 ((rd_T28 l0_2 x14_1).f0), .int .i64 ((rd_T28 l0_2 x14_1).f1), .slice A234_2 ((rd_T28 l0_2 x14_1).f2).length c234_2] 28 (0, 0)) (Qa BK235.out) k_ hk⟩))
       (case aO => exact (by refine Qf ?_; exact Kd.R_mono HO_234002.out (fun _ hk => ⟨hk.1.1, ⟨hk.1.2.1, ⟨hk.1.2.2.1, hk.1.2.2.2⟩⟩⟩)))
       (case aS => exact (below_size (Qb HB.out)))
       (case aL => have := LMc15.out; omega)
       intro v242 w24 ho hb hg hat
       rw [← Ny241.out] at ho
       have n0_ := Ak (blk_grown (g := gb231) (o := .cells #[.int .i64 a0_0, .int .i64 a0_1, .slice (some ad234) l0_2.length c0_2] 28 (0, 0)) (Qa BK231.out) hg (Kd.R_away HO_234002.out (fun _ hk => hk.1.1)))
       have n1_ := Ak (blk_grown (g := gb232) (o := .cells #[.int .i64 0, .int .i64 0, .slice none 0 0] 28 (0, 0)) (Qa BK232.out) hg (Kd.R_away HO_234002.out (fun _ hk => hk.1.2.1)))
       have n2_ := Ak (blk_grown (g := gb233) (o := .cells #[.int .i64 a0_0, .int .i64 a0_1, u234002] 28 (0, 0)) (Qa BK233.out) hg (Kd.R_away HO_234002.out (fun _ hk => hk.1.2.2.1)))
       have n3_ := Ak (blk_grown (g := gb235) (o := .cells #[.int .i64 ((rd_T28 l0_2 x14_1).f0), .int .i64 ((rd_T28 l0_2 x14_1).f1), .slice A234_2 ((rd_T28 l0_2 x14_1).f2).length c234_2] 28 (0, 0)) (Qa BK235.out) hg (Kd.R_away HO_234002.out (fun _ hk => hk.1.2.2.2)))
       have n4_ := Ak (hb)
       have n5_ := Ak (ho)
       clear BK231 BK232 BK233 BK235 HB HO_234002 HO240
       have BK231 := n0_
       have BK232 := n1_
       have BK233 := n2_
       have BK235 := n3_
       have HB := n4_
       have HO243 := n5_
       clear n0_ n1_ n2_ n3_ n4_ n5_
       clear ho hb hg hat
       obtain ⟨Ao26, co26, eo26⟩ := Kd.R_slice HO243.out
       (first | subst eo26 | (injection eo26 with f1_ f2_ f3_; have f4_ := f1_.symm; have f5_ := f3_.symm; clear f1_ f2_ f3_; subst f4_; subst f5_))
       refine hK.out _ _ ⟨(blk_cell BK233.out 0).trans rfl, (blk_cell BK233.out 1).trans rfl, (blk_cell BK233.out 2).trans rfl, (blk_cell BK235.out 0).trans rfl, (blk_cell BK235.out 1).trans rfl, (blk_cell BK235.out 2).trans rfl⟩ (fun hHeld => ?_)
       clear hK K
       refine norm_ (a' := ?_) ?_ ?_
       rotate_left
       ·show Act.put _ (some 23) _ = _
        simp only [Act.put, List.setIfInBounds_toArray, List.set_cons_zero, List.set_cons_succ, i64_w, i32_w]
        rfl
       refine Qq 6 (some 24) ?_
       refine Qt 7 none (fun K hK => ?_)
       have hs27 : w24.cell? ⟨gb233, 2, none⟩ = some (u234002) := (blk_cell BK233.out 2).trans rfl
       have hfs27 := blk_frozen BK233.out 2
       have hns27_0 := NB231_233.out
       have hns27_1 := NB232_233.out
       have hns27_3 := NB235_233.out
       have hms27_0 := NB233_231.out
       have hms27_1 := NB233_232.out
       have hms27_3 := NB233_235.out
       refine skip_ (w1 := ?_) (by rfl) rfl ?_ ?_
       rotate_left
       ·go_simp
        rfl
       refine hK.out _ _ ?_
       clear hK K
       refine done_ (done_of HT_.out (by kernel_rfl)) ?_
       try go_wp2
       go_roundg k1
       case measure => have := HK1.out; omega
       case rel => exact ⟨(wrap64 (x14_1 + 1)), (y241), (.slice Ao26 y241.length co26), Qi, H', ⟨by have := HK1.out; omega⟩, ⟨by refine Qf ?_; exact Kd.R_mono (Kd.R_far (p := ⟨gb233, 2, none⟩) (Kd.R_mono HO243.out (fun k_ hk => (⟨hk, hk.2.2.1⟩ : _ ∧ k_ ≠ gb233))) (fun _ hk => hk.2) (.slice Ao26 y241.length co26)) (fun _ hk => ⟨hk.1.1, ⟨hk.1.2.1, hk.1.2.2.1⟩⟩)⟩, ⟨by refine Qe ?_; refine blk_far ?_ NB231_233.out _; refine Qe ?_; exact BK231.out⟩, ⟨by refine Qe ?_; refine blk_far ?_ NB232_233.out _; refine Qe ?_; exact BK232.out⟩, ⟨by refine Qe ?_; refine blk_put (cs := #[.int .i64 a0_0, .int .i64 a0_1, u234002]) ?_ 2 _ rfl; refine Qe ?_; exact BK233.out⟩, ⟨Qb HB.out⟩⟩
      ·rw [if_neg c15] at H
       exact absurd H (by simp)
     ·rw [if_neg c13] at H
      exact absurd H (by simp)
    ·rw [if_neg c12] at H
     exact absurd H (by simp)
   ·rw [if_neg c11] at H
    have c11b0 : decide (x14_1 < (l0_2.length : Int)) = false := decide_eq_false c11
    clear c11
    simp only [Option.some.injEq, Prod.mk.injEq] at H
    obtain ⟨rfl, rfl, rfl⟩ := H
    have hnb28 := NB233_231.out
    have hnc28 := NB231_233.out
    have hnb29 := NB233_232.out
    have hnc29 := NB232_233.out
    obtain ⟨hcz30_0, hcz30_1, hcz30_2, hfz30_0, hfz30_1, hfz30_2⟩ := Qv3 BK233.out
    have hnb31 := NB232_231.out
    have hnc31 := NB231_232.out
    obtain ⟨hcz32_0, hcz32_1, hcz32_2, hfz32_0, hfz32_1, hfz32_2⟩ := Qv3 BK232.out
    obtain ⟨Ao33, co33, eo33⟩ := Kd.R_slice HO_234002.out
    subst eo33
    go_wp2
    refine bodyPost_ret (results_cell_row rfl _ _ gb232 28 #[.int .i64 a0_0, .int .i64 a0_1, .slice Ao33 x234002_1.length co33] (0, 0) _ rfl (by refine Qe ?_; refine blk_put (cs := #[.int .i64 a0_0, .int .i64 a0_1, .slice none 0 0]) ?_ 2 _ rfl; refine Qe ?_; refine blk_put (cs := #[.int .i64 a0_0, .int .i64 0, .slice none 0 0]) ?_ 1 _ rfl; refine Qe ?_; refine blk_put (cs := #[.int .i64 0, .int .i64 0, .slice none 0 0]) ?_ 0 _ rfl; exact Qa BK232.out) Try.underlying28 rfl (by kernel_rfl)) rfl ?_
    exact ⟨_, Qh, by refine Qf ?_; exact Kd.R_mono (Kd.R_far (p := ⟨gb232, 2, none⟩) (Kd.R_far (p := ⟨gb232, 1, none⟩) (Kd.R_far (p := ⟨gb232, 0, none⟩) (Kd.R_mono HO_234002.out (fun k_ hk => (⟨hk, hk.2.1⟩ : _ ∧ k_ ≠ gb232))) (fun _ hk => hk.2) (.int .i64 a0_0)) (fun _ hk => hk.2) (.int .i64 a0_1)) (fun _ hk => hk.2) (.slice Ao33 x234002_1.length co33)) (fun _ hk => trivial), Qb HB.out⟩

end Go.Proofs.Ythlagaopjmeaaaa.HFnExactNegateExpr

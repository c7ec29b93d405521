/- Text for FnExactRunMachine: written by a program of this session on the pattern of the kit's print. -/
import Derived.Test.YtlmiankjbffboaaHFnExactRunMachinex0
import Derived.Test.YtlmiankjbffboaaHFnExactRunMachinex2
import Derived.Test.YtlmiankjbffboaaHFnExactRunMachinex4
import Derived.Test.YtlmiankjbffboaaHFnExactRunMachinex5
import Derived.Test.YtlmiankjbffboaaHFnExactRunMachinex7
namespace Go.Proofs.Ytlmiankjbffboaa.HFnExactRunMachine
set_option maxHeartbeats 8000000
set_option maxRecDepth 100000
open Go.RowKit Go.Proofs.YtlmiankjbffboaaW.PrintWords Go.Proofs.YtlmiankjbffboaaW.PrintLast Go.Proofs.YtlmiankjbffboaaW.PrintMore
attribute [local go_sem] max2_int min2_int max_two min_two max_three min_three max_four min_four
set_option linter.unusedVariables false
set_option linter.unusedSimpArgs false

/-! ### spec_RunMachine: function 19 -/
mutual
def spec_RunMachine.j0 : Nat → List (S48) → Int → Bool → Int → List Int → List Int → Option (Int × List Int × List Int × Int)
 | 0, _, _, _, _, _, _ => none
 | k + 1, x0, x2, x18, x313000, x313001, x313002 => if x18 = true then (some (0, ([] : List Int), ([] : List Int), 0)) else ((spec_l7Copy.f x313000 x313001 x313002).bind fun bt316 => (spec_RunMachine.l0 k x0 x2 bt316.1 bt316.2.1 bt316.2.2))
def spec_RunMachine.l0 : Nat → List (S48) → Int → Int → List Int → List Int → Option (Int × List Int × List Int × Int)
 | 0, _, _, _, _, _ => none
 | k + 1, x0, x2, x324000, x324001, x324002 => if x2 > 0 then ((spec_l7Why.f k x0 x324000 x324001 x324002).bind fun t324 => (if t324 = 0 then (if 0 ≤ x324000 then (if x324000 < (x0.length : Int) then ((spec_l7Change.f k ((rd_T48 x0 x324000).f0) ((rd_T48 x0 x324000).f1) ((rd_T48 x0 x324000).f2) ((rd_T48 x0 x324000).f3) x324000 x324001 x324002).bind fun bt326 => (spec_RunMachine.l0 k x0 (wrap64 (x2 - 1)) bt326.1 bt326.2.1 bt326.2.2)) else (none)) else (none)) else (some (x324000, x324001, x324002, t324)))) else (some (x324000, x324001, x324002, 5))
end
def spec_RunMachine.f (k : Nat) (l0 : List (S48)) (a1_0 : Int) (l1_1 : List Int) (l1_2 : List Int) (a2 : Int) : Option (Int × List Int × List Int × Int) := (spec_IsMachine.f k l0 a1_0 l1_1 l1_2).bind fun t314 => (if t314 = true then ((spec_l1In.f a2 0 2000).bind fun t315 => (spec_RunMachine.j0 k l0 a2 (!t315) a1_0 l1_1 l1_2)) else (spec_RunMachine.j0 k l0 a2 true a1_0 l1_1 l1_2))
theorem spec_RunMachine.mono_l : ∀ k, (∀ y0 y1 y2 y3 y4 y5, LeO (spec_RunMachine.j0 k y0 y1 y2 y3 y4 y5) (spec_RunMachine.j0 (k + 1) y0 y1 y2 y3 y4 y5)) ∧ (∀ y0 y1 y2 y3 y4, LeO (spec_RunMachine.l0 k y0 y1 y2 y3 y4) (spec_RunMachine.l0 (k + 1) y0 y1 y2 y3 y4))
 | 0 => ⟨fun _ _ _ _ _ _ r h => by simp [spec_RunMachine.j0] at h, fun _ _ _ _ _ r h => by simp [spec_RunMachine.l0] at h⟩
 | k + 1 => by
  obtain ⟨ih0, ih1⟩ := spec_RunMachine.mono_l k
  refine ⟨?_, ?_⟩
  ·intro y0 y1 y2 y3 y4 y5
   unfold spec_RunMachine.j0
   repeat' first
   | (with_reducible exact ih0 _ _ _ _ _ _)
   | (with_reducible exact ih1 _ _ _ _ _)
   | (with_reducible exact spec_IsMachine.mono _ _ _ _ _)
   | (with_reducible exact spec_l7Change.mono _ _ _ _ _ _ _ _)
   | (with_reducible exact spec_l7Why.mono _ _ _ _ _)
   | (with_reducible exact LeO.refl _)
   | (with_reducible exact LeO.none _)
   | (with_reducible refine LeO.ite ?_ ?_)
   | (with_reducible refine LeO.bind ?_ (fun _ => ?_))
   | exact ih0 _ _ _ _ _ _
   | exact ih1 _ _ _ _ _
   | exact spec_IsMachine.mono _ _ _ _ _
   | exact spec_l7Change.mono _ _ _ _ _ _ _ _
   | exact spec_l7Why.mono _ _ _ _ _
   | exact LeO.none _
   | refine LeO.ite ?_ ?_
   | refine LeO.bind ?_ (fun _ => ?_)
  ·intro y0 y1 y2 y3 y4
   unfold spec_RunMachine.l0
   repeat' first
   | (with_reducible exact ih0 _ _ _ _ _ _)
   | (with_reducible exact ih1 _ _ _ _ _)
   | (with_reducible exact spec_IsMachine.mono _ _ _ _ _)
   | (with_reducible exact spec_l7Change.mono _ _ _ _ _ _ _ _)
   | (with_reducible exact spec_l7Why.mono _ _ _ _ _)
   | (with_reducible exact LeO.refl _)
   | (with_reducible exact LeO.none _)
   | (with_reducible refine LeO.ite ?_ ?_)
   | (with_reducible refine LeO.bind ?_ (fun _ => ?_))
   | exact ih0 _ _ _ _ _ _
   | exact ih1 _ _ _ _ _
   | exact spec_IsMachine.mono _ _ _ _ _
   | exact spec_l7Change.mono _ _ _ _ _ _ _ _
   | exact spec_l7Why.mono _ _ _ _ _
   | exact LeO.none _
   | refine LeO.ite ?_ ?_
   | refine LeO.bind ?_ (fun _ => ?_)
theorem spec_RunMachine.mono : ∀ a0 a1 a2 a3 a4 k, LeO (spec_RunMachine.f k a0 a1 a2 a3 a4) (spec_RunMachine.f (k + 1) a0 a1 a2 a3 a4) := by
 intro a0 a1 a2 a3 a4 k
 obtain ⟨ih0, ih1⟩ := spec_RunMachine.mono_l k
 unfold spec_RunMachine.f
 repeat' first
   | (with_reducible exact ih0 _ _ _ _ _ _)
   | (with_reducible exact ih1 _ _ _ _ _)
   | (with_reducible exact spec_IsMachine.mono _ _ _ _ _)
   | (with_reducible exact spec_l7Change.mono _ _ _ _ _ _ _ _)
   | (with_reducible exact spec_l7Why.mono _ _ _ _ _)
   | (with_reducible exact LeO.refl _)
   | (with_reducible exact LeO.none _)
   | (with_reducible refine LeO.ite ?_ ?_)
   | (with_reducible refine LeO.bind ?_ (fun _ => ?_))
   | exact ih0 _ _ _ _ _ _
   | exact ih1 _ _ _ _ _
   | exact spec_IsMachine.mono _ _ _ _ _
   | exact spec_l7Change.mono _ _ _ _ _ _ _ _
   | exact spec_l7Why.mono _ _ _ _ _
   | exact LeO.none _
   | refine LeO.ite ?_ ?_
   | refine LeO.bind ?_ (fun _ => ?_)
def spec_RunMachine.T9 : Bool × List (List Nat × List Nat) := (true, [([], []), ([], []), ([1], [1]), ([0, 2], [0, 2]), ([3], [3]), ([], []), ([4, 5], [4, 5]), ([6, 6, 0, 1, 2, 3, 4, 5, 6], [6])])
def spec_RunMachine.B9 : List Nat := [0, 0, 2, 7, 15, 0, 63, 127]
theorem spec_RunMachine.tab9 : rtab .any (opsOf Try.f19 9) = spec_RunMachine.T9 := by kernel_rfl
theorem spec_RunMachine.bits9 : waitsOk spec_RunMachine.T9.2 spec_RunMachine.B9 = true := by kernel_rfl
theorem spec_RunMachine.calls (k : Nat) (A0 : Option Addr) (c0 : Nat) (l0 : List (S48)) (a1_0 : Int) (A1_1 : Option Addr) (c1_1 : Nat) (l1_1 : List Int) (A1_2 : Option Addr) (c1_2 : Nat) (l1_2 : List Int) (a2 : Int) (r1 : Int) (r2 : List Int) (r3 : List Int) (r4 : Int) (w : World) (hr0 : Kd.C k48 w A0 l0.length l0) (hc0 : l0.length ≤ c0) (hr1_1 : Kd.C (Kd.int .i64) w A1_1 l1_1.length l1_1) (hc1_1 : l1_1.length ≤ c1_1) (hr1_2 : Kd.C (Kd.int .i64) w A1_2 l1_2.length l1_2) (hc1_2 : l1_2.length ≤ c1_2) (h : spec_RunMachine.f k l0 a1_0 l1_1 l1_2 a2 = some (r1, r2, r3, r4)) :
  Calls Try.prog 19 #[.slice A0 l0.length c0, .agg #[.int .i64 a1_0, .slice A1_1 l1_1.length c1_1, .slice A1_2 l1_2.length c1_2], .int .i64 a2] w fun e w' => ∃ v1_ v2_ : Value, e = .returned (.tuple #[.agg #[.int .i64 r1, v1_, v2_], .int .i64 r4]) ∧ Kd.R (Kd.int .i64) 3 w' w.heap.size (fun k_ => some k_ ≠ (v2_ : Value).ownBlock) v1_ r2 ∧ Kd.R (Kd.int .i64) 3 w' w.heap.size (fun k_ => some k_ ≠ (v1_ : Value).ownBlock) v2_ r3 ∧ Below w.heap.size w w' := by
 have hu28 := Try.underlying28
 have hu48 := Try.underlying48
 have HR0 := Ak hr0
 have HC0 := Ak hc0
 clear hr0 hc0
 have HR1_1 := Ak hr1_1
 have HC1_1 := Ak hc1_1
 clear hr1_1 hc1_1
 have HR1_2 := Ak hr1_2
 have HC1_2 := Ak hc1_2
 clear hr1_2 hc1_2
 have HB := Ak (Below.refl w.heap.size w)
 have H : ((spec_IsMachine.f k l0 a1_0 l1_1 l1_2).bind fun t314 => (if t314 = true then ((spec_l1In.f a2 0 2000).bind fun t315 => (spec_RunMachine.j0 k l0 a2 (!t315) a1_0 l1_1 l1_2)) else (spec_RunMachine.j0 k l0 a2 true a1_0 l1_1 l1_2))) = some (r1, r2, r3, r4) := h
 clear h
 have HC4 := Ak H
 clear H
 go_enter Try.func19, Try.ntmps19
 go_upto_region 1 with (first | ((with_reducible refine gate_dst (N := 4) rfl ?_); refine Qk 4 #[.int .i64 a1_0, .slice A1_1 l1_1.length c1_1, .slice A1_2 l1_2.length c1_2] 28 ?_; intro gb312 hg w5 hbox hb; have n0_ := Ak (below_step (Qb HB.out) hb); have n1_ := Ak (hbox); have n2_ := Ak ((Qp hg HB.out : w.heap.size ≤ gb312)); have n3_ := Ak ((Qp hg HB.out : w.heap.size ≤ gb312)); clear HB; have HB := n0_; have BK312 := n1_; have GW312 := n2_; have GE312 := n3_; clear n0_ n1_ n2_ n3_; clear hb hbox hg) | ((with_reducible refine gate_dst (N := 6) rfl ?_); refine Qk 6 #[.int .i64 0, .slice none 0 0, .slice none 0 0] 28 ?_; intro gb313 hg w6 hbox hb; have n0_ := Ak (Qm BK312.out hb); have n1_ := Ak (below_step (Qb HB.out) hb); have n2_ := Ak (hbox); have n3_ := Ak ((Qp hg HB.out : w.heap.size ≤ gb313)); have n4_ := Ak ((Qp hg HB.out : w.heap.size ≤ gb313)); have n5_ := Ak ((by rw [hg]; exact Nat.ne_of_lt (Qn BK312.out) : gb312 ≠ gb313)); have n6_ := Ak ((by rw [hg]; exact Nat.ne_of_gt (Qn BK312.out) : gb313 ≠ gb312)); clear BK312 HB; have BK312 := n0_; have HB := n1_; have BK313 := n2_; have GW313 := n3_; have GE313 := n4_; have NB312_313 := n5_; have NB313_312 := n6_; clear n0_ n1_ n2_ n3_ n4_ n5_ n6_; clear hb hbox hg))
 (try simp only [Act.put, List.setIfInBounds_toArray, List.set_cons_zero, List.set_cons_succ])
 go_cut [18] (fun v18 wc => ∃ (kq : Nat) (x18_3 : Bool), v18 = .bool x18_3 ∧ Aside0 (spec_RunMachine.j0 kq l0 a2 x18_3 a1_0 l1_1 l1_2 = some (r1, r2, r3, r4)) ∧ Aside0 (kq ≤ k) ∧ Aside0 (wc.heap[gb312]? = some (.cells #[.int .i64 a1_0, (.slice A1_1 l1_1.length c1_1), (.slice A1_2 l1_2.length c1_2)] 28 (0, 0))) ∧ Aside0 (wc.heap[gb313]? = some (.cells #[.int .i64 0, (.slice none 0 0), (.slice none 0 0)] 28 (0, 0))) ∧ Aside0 (Below w.heap.size w wc))
 case first =>
  have H := HC4.out
  clear HC4
  replace H := Option.bind_eq_some_iff.mp H
  obtain ⟨t314, A70, H⟩ := H
  replace H : (if t314 = true then ((spec_l1In.f a2 0 2000).bind fun t315 => (spec_RunMachine.j0 k l0 a2 (!t315) a1_0 l1_1 l1_2)) else (spec_RunMachine.j0 k l0 a2 true a1_0 l1_1 l1_2)) = some (r1, r2, r3, r4) := H
  have A7 := Ak A70
  clear A70
  by_cases c8 : t314 = true
  ·(try subst c8)
   have H1 : ((spec_l1In.f a2 0 2000).bind fun t315 => (spec_RunMachine.j0 k l0 a2 (!t315) a1_0 l1_1 l1_2)) = some (r1, r2, r3, r4) := by rw [if_pos rfl] at H; exact H
   clear H
   have H := H1
   clear H1
   replace H := Option.bind_eq_some_iff.mp H
   obtain ⟨t315, A90, H⟩ := H
   replace H : (spec_RunMachine.j0 k l0 a2 (!t315) a1_0 l1_1 l1_2) = some (r1, r2, r3, r4) := H
   have A9 := Ak A90
   clear A90
   have H' := Ak H
   clear H
   have hnb10 := NB312_313.out
   have hnc10 := NB313_312.out
   obtain ⟨hcz11_0, hcz11_1, hcz11_2, hfz11_0, hfz11_1, hfz11_2⟩ := Qv3 BK312.out
   go_wp2_with (first | ((with_reducible refine gate_callee (f := 24) rfl ?_); refine Qj (some 12) Try.func24 #[.slice A0 l0.length c0, .agg #[.int .i64 a1_0, .slice A1_1 l1_1.length c1_1, .slice A1_2 l1_2.length c1_2]] ?_; (with_reducible refine (spec_IsMachine.calls k _ _ l0 a1_0 _ _ l1_1 _ _ l1_2 true _ ?side1 ?side2 ?side3 ?side4 ?side5 ?side6 A7.out).mono ?_); (case side1 => repeat (first | exact (Kd.C_below HR0.out HB.out) | (with_reducible refine Kd.C_alloc ?_ _) | (with_reducible refine Kd.C_drewN ?_ _) | (with_reducible refine Kd.C_drew ?_))); (case side2 => exact HC0.out); (case side3 => repeat (first | exact (Kd.C_below HR1_1.out HB.out) | (with_reducible refine Kd.C_alloc ?_ _) | (with_reducible refine Kd.C_drewN ?_ _) | (with_reducible refine Kd.C_drew ?_))); (case side4 => exact HC1_1.out); (case side5 => repeat (first | exact (Kd.C_below HR1_2.out HB.out) | (with_reducible refine Kd.C_alloc ?_ _) | (with_reducible refine Kd.C_drewN ?_ _) | (with_reducible refine Kd.C_drew ?_))); (case side6 => exact HC1_2.out); rintro e w12 ⟨rfl, hb⟩; refine ⟨_, rfl, ?_⟩; have n0_ := Ak (Qm BK312.out hb); have n1_ := Ak (Qm BK313.out hb); have n2_ := Ak (below_step (Qb HB.out) hb); clear BK312 BK313 HB; have BK312 := n0_; have BK313 := n1_; have HB := n2_; clear n0_ n1_ n2_; (try clear hb); (try clear hb2); (try clear hk); (try clear hi)) | (go_at_call 48; (with_reducible refine (spec_l1In.calls a2 0 2000 t315 _ A9.out).mono ?_); rintro e w' ⟨rfl, ⟨nd, rfl⟩⟩))
   go_meet
   case rel => exact ⟨_, (!t315), Qi, H', ⟨by first | omega | exact Nat.le_refl _⟩, ⟨by refine Qe ?_; exact BK312.out⟩, ⟨by refine Qe ?_; exact BK313.out⟩, ⟨Qb HB.out⟩⟩
  ·replace c8 := Bool.eq_false_iff.mpr c8
   (try subst c8)
   have H1 : (spec_RunMachine.j0 k l0 a2 true a1_0 l1_1 l1_2) = some (r1, r2, r3, r4) := by rw [if_neg (show ¬ (false = true) by decide)] at H; exact H
   clear H
   have H := H1
   clear H1
   have H' := Ak H
   clear H
   have hnb13 := NB312_313.out
   have hnc13 := NB313_312.out
   obtain ⟨hcz14_0, hcz14_1, hcz14_2, hfz14_0, hfz14_1, hfz14_2⟩ := Qv3 BK312.out
   go_wp2_with (first | ((with_reducible refine gate_callee (f := 24) rfl ?_); refine Qj (some 12) Try.func24 #[.slice A0 l0.length c0, .agg #[.int .i64 a1_0, .slice A1_1 l1_1.length c1_1, .slice A1_2 l1_2.length c1_2]] ?_; (with_reducible refine (spec_IsMachine.calls k _ _ l0 a1_0 _ _ l1_1 _ _ l1_2 false _ ?side1 ?side2 ?side3 ?side4 ?side5 ?side6 A7.out).mono ?_); (case side1 => repeat (first | exact (Kd.C_below HR0.out HB.out) | (with_reducible refine Kd.C_alloc ?_ _) | (with_reducible refine Kd.C_drewN ?_ _) | (with_reducible refine Kd.C_drew ?_))); (case side2 => exact HC0.out); (case side3 => repeat (first | exact (Kd.C_below HR1_1.out HB.out) | (with_reducible refine Kd.C_alloc ?_ _) | (with_reducible refine Kd.C_drewN ?_ _) | (with_reducible refine Kd.C_drew ?_))); (case side4 => exact HC1_1.out); (case side5 => repeat (first | exact (Kd.C_below HR1_2.out HB.out) | (with_reducible refine Kd.C_alloc ?_ _) | (with_reducible refine Kd.C_drewN ?_ _) | (with_reducible refine Kd.C_drew ?_))); (case side6 => exact HC1_2.out); rintro e w15 ⟨rfl, hb⟩; refine ⟨_, rfl, ?_⟩; have n0_ := Ak (Qm BK312.out hb); have n1_ := Ak (Qm BK313.out hb); have n2_ := Ak (below_step (Qb HB.out) hb); clear BK312 BK313 HB; have BK312 := n0_; have BK313 := n1_; have HB := n2_; clear n0_ n1_ n2_; (try clear hb); (try clear hb2); (try clear hk); (try clear hi)))
   go_meet
   case rel => exact ⟨_, (true), Qi, H', ⟨by first | omega | exact Nat.le_refl _⟩, ⟨by refine Qe ?_; exact BK312.out⟩, ⟨by refine Qe ?_; exact BK313.out⟩, ⟨Qb HB.out⟩⟩
 case rest =>
  clear HC4
  (try clear c1); (try clear c2); (try clear p2); (try clear c8); (try clear c10); (try clear c13); (try clear hcz11_0); (try clear hcz11_1); (try clear hcz11_2); (try clear hcz14_0); (try clear hcz14_1); (try clear hcz14_2); (try clear hfz11_0); (try clear hfz11_1); (try clear hfz11_2); (try clear hfz14_0); (try clear hfz14_1); (try clear hfz14_2)
  obtain ⟨kq, x18_3, rfl, HA, HJ3, BK312, BK313, HB⟩ := hcut
  cases kq with
  | zero => exact absurd HA.out (by simp [spec_RunMachine.j0])
  | succ kj3 =>
   have H := HA.out
   clear HA
   simp only [spec_RunMachine.j0] at H
   by_cases c16 : x18_3 = true
   ·(try subst c16)
    have H1 : (some (0, ([] : List Int), ([] : List Int), 0)) = some (r1, r2, r3, r4) := by rw [if_pos rfl] at H; exact H
    clear H
    have H := H1
    clear H1
    simp only [Option.some.injEq, Prod.mk.injEq] at H
    obtain ⟨rfl, rfl, rfl, rfl⟩ := H
    have hnb17 := NB313_312.out
    have hnc17 := NB312_313.out
    obtain ⟨hcz18_0, hcz18_1, hcz18_2, hfz18_0, hfz18_1, hfz18_2⟩ := Qv3 BK313.out
    go_wp2
    refine bodyPost_ret (results_ct rfl _ _ gb313 28 #[.int .i64 0, .slice none 0 0, .slice none 0 0] (0, 0) _ rfl (by refine Qe ?_; refine blk_put (cs := #[.int .i64 0, .slice none 0 0, .slice none 0 0]) ?_ 2 _ rfl; refine Qe ?_; refine blk_put (cs := #[.int .i64 0, .slice none 0 0, .slice none 0 0]) ?_ 1 _ rfl; refine Qe ?_; refine blk_put (cs := #[.int .i64 0, .slice none 0 0, .slice none 0 0]) ?_ 0 _ rfl; exact Qa BK313.out) Try.underlying28 rfl (by kernel_rfl)) rfl ?_
    exact ⟨_, _, Qh, by first | exact Kd.R_nil _ _ _ _ _ | exact Kd.N_nil _ _ _ _ _ | exact Kd.V_nil _ _ _ _ _ | exact Kd.Q_nil _ _ _ _ _ | exact Kd.S_nil _ _ _ _ _, by first | exact Kd.R_nil _ _ _ _ _ | exact Kd.N_nil _ _ _ _ _ | exact Kd.V_nil _ _ _ _ _ | exact Kd.Q_nil _ _ _ _ _ | exact Kd.S_nil _ _ _ _ _, Qb HB.out⟩
   ·replace c16 := Bool.eq_false_iff.mpr c16
    (try subst c16)
    have H1 : ((spec_l7Copy.f a1_0 l1_1 l1_2).bind fun bt316 => (spec_RunMachine.l0 kj3 l0 a2 bt316.1 bt316.2.1 bt316.2.2)) = some (r1, r2, r3, r4) := by rw [if_neg (show ¬ (false = true) by decide)] at H; exact H
    clear H
    have H := H1
    clear H1
    replace H := Option.bind_eq_some_iff.mp H
    obtain ⟨⟨t316, t317, t320⟩, A190, H⟩ := H
    replace H : (spec_RunMachine.l0 kj3 l0 a2 t316 t317 t320) = some (r1, r2, r3, r4) := H
    have A19 := Ak A190
    clear A190
    have H' := Ak H
    clear H
    have hnb20 := NB312_313.out
    have hnc20 := NB313_312.out
    obtain ⟨hcz21_0, hcz21_1, hcz21_2, hfz21_0, hfz21_1, hfz21_2⟩ := Qv3 BK312.out
    go_wp2_with (first | ((with_reducible refine gate_callee (f := 37) rfl ?_); refine Qj (some 21) Try.func37 #[.agg #[.int .i64 a1_0, .slice A1_1 l1_1.length c1_1, .slice A1_2 l1_2.length c1_2]] ?_; (with_reducible refine (spec_l7Copy.calls a1_0 _ _ l1_1 _ _ l1_2 t316 t317 t320 _ ?side1 ?side2 ?side3 ?side4 A19.out).mono ?_); (case side1 => repeat (first | exact (Kd.C_below HR1_1.out HB.out) | (with_reducible refine Kd.C_alloc ?_ _) | (with_reducible refine Kd.C_drewN ?_ _) | (with_reducible refine Kd.C_drew ?_))); (case side2 => exact HC1_1.out); (case side3 => repeat (first | exact (Kd.C_below HR1_2.out HB.out) | (with_reducible refine Kd.C_alloc ?_ _) | (with_reducible refine Kd.C_drewN ?_ _) | (with_reducible refine Kd.C_drew ?_))); (case side4 => exact HC1_2.out); rintro e w22 ⟨v318, v321, rfl, ho0, ho1, hb⟩; refine ⟨_, rfl, ?_⟩; have n0_ := Ak (Kd.R_lower ho0 (below_size (Qb HB.out))); have n1_ := Ak (Kd.R_lower ho1 (below_size (Qb HB.out))); have n2_ := Ak (Qm BK312.out hb); have n3_ := Ak (Qm BK313.out hb); have n4_ := Ak (below_step (Qb HB.out) hb); clear BK312 BK313 HB; have HO319 := n0_; have HO322 := n1_; have BK312 := n2_; have BK313 := n3_; have HB := n4_; clear n0_ n1_ n2_ n3_ n4_; (try clear hb); (try clear hb2); (try clear hk); (try clear hi); (try clear ho0); (try clear ho1)) | ((with_reducible refine gate_dst (N := 8) rfl ?_); refine Qk 8 #[.int .i64 0, .slice none 0 0, .slice none 0 0] 28 ?_; intro gb323 hg w23 hbox hb; have n0_ := Ak (Kd.R_below (Qc HO319.out) hb); have n1_ := Ak (Kd.R_below (Qc HO322.out) hb); have n2_ := Ak (Qm BK312.out hb); have n3_ := Ak (Qm BK313.out hb); have n4_ := Ak (below_step (Qb HB.out) hb); have n5_ := Ak (hbox); have n6_ := Ak ((Qp hg HB.out : w.heap.size ≤ gb323)); have n7_ := Ak ((Qp hg HB.out : w.heap.size ≤ gb323)); have n8_ := Ak ((by rw [hg]; exact Nat.ne_of_lt (Qn BK312.out) : gb312 ≠ gb323)); have n9_ := Ak ((by rw [hg]; exact Nat.ne_of_gt (Qn BK312.out) : gb323 ≠ gb312)); have n10_ := Ak ((by rw [hg]; exact Nat.ne_of_lt (Qn BK313.out) : gb313 ≠ gb323)); have n11_ := Ak ((by rw [hg]; exact Nat.ne_of_gt (Qn BK313.out) : gb323 ≠ gb313)); clear HO319 HO322 BK312 BK313 HB; have HO319 := n0_; have HO322 := n1_; have BK312 := n2_; have BK313 := n3_; have HB := n4_; have BK323 := n5_; have GW323 := n6_; have GE323 := n7_; have NB312_323 := n8_; have NB323_312 := n9_; have NB313_323 := n10_; have NB323_313 := n11_; clear n0_ n1_ n2_ n3_ n4_ n5_ n6_ n7_ n8_ n9_ n10_ n11_; clear hb hbox hg; have hnb24 := NB323_312.out; have hnc24 := NB312_323.out; have hnb25 := NB323_313.out; have hnc25 := NB313_323.out; obtain ⟨hcz26_0, hcz26_1, hcz26_2, hfz26_0, hfz26_1, hfz26_2⟩ := Qv3 BK323.out; obtain ⟨Ao27, co27, eo27⟩ := Kd.R_slice HO319.out; subst eo27; obtain ⟨Ao28, co28, eo28⟩ := Kd.R_slice HO322.out; subst eo28))
    go_loopg [2] kj3 (fun kq v2 w' => ∃ (x2_2 : Int) (x314000_2 : Int) (x324000_2 : Int) (x324001_2 : List Int) (x324002_2 : List Int) (u324001 : Value) (u324002 : Value), v2 = .int .i64 x2_2 ∧ Aside0 (spec_RunMachine.l0 kq l0 x2_2 x324000_2 x324001_2 x324002_2 = some (r1, r2, r3, r4)) ∧ Aside0 (kq ≤ kj3) ∧ Aside0 (Kd.R (Kd.int .i64) 3 w' w.heap.size (fun k_ => some k_ ≠ (u324002 : Value).ownBlock) u324001 x324001_2) ∧ Aside0 (Kd.R (Kd.int .i64) 3 w' w.heap.size (fun k_ => some k_ ≠ (u324001 : Value).ownBlock) u324002 x324002_2) ∧ Aside0 (w'.heap[gb312]? = some (.cells #[.int .i64 a1_0, (.slice A1_1 l1_1.length c1_1), (.slice A1_2 l1_2.length c1_2)] 28 (0, 0))) ∧ Aside0 (w'.heap[gb313]? = some (.cells #[.int .i64 x314000_2, (.slice none 0 0), (.slice none 0 0)] 28 (0, 0))) ∧ Aside0 (w'.heap[gb323]? = some (.cells #[.int .i64 x324000_2, u324001, u324002] 28 (0, 0))) ∧ Aside0 (Below w.heap.size w w'))
    case atStart => exact ⟨(a2), (0), (t316), (t317), (t320), (.slice Ao27 t317.length co27), (.slice Ao28 t320.length co28), Qi, H', ⟨Nat.le_refl _⟩, ⟨by refine Qf ?_; exact Kd.R_mono (Kd.R_far (p := ⟨gb323, 2, none⟩) (Kd.R_far (p := ⟨gb323, 1, none⟩) (Kd.R_far (p := ⟨gb323, 0, none⟩) (Kd.R_types HO319.out BK323.out (by decide)) (fun _ hk => hk.2) (.int .i64 t316)) (fun _ hk => hk.2) (.slice Ao27 t317.length co27)) (fun _ hk => hk.2) (.slice Ao28 t320.length co28)) (fun _ hk => hk.1)⟩, ⟨by refine Qf ?_; exact Kd.R_mono (Kd.R_far (p := ⟨gb323, 2, none⟩) (Kd.R_far (p := ⟨gb323, 1, none⟩) (Kd.R_far (p := ⟨gb323, 0, none⟩) (Kd.R_types HO322.out BK323.out (by decide)) (fun _ hk => hk.2) (.int .i64 t316)) (fun _ hk => hk.2) (.slice Ao27 t317.length co27)) (fun _ hk => hk.2) (.slice Ao28 t320.length co28)) (fun _ hk => hk.1)⟩, ⟨by refine Qe ?_; refine blk_far ?_ NB312_323.out _; refine Qe ?_; refine blk_far ?_ NB312_323.out _; refine Qe ?_; refine blk_far ?_ NB312_323.out _; refine Qe ?_; exact BK312.out⟩, ⟨by refine Qe ?_; refine blk_far ?_ NB313_323.out _; refine Qe ?_; refine blk_far ?_ NB313_323.out _; refine Qe ?_; refine blk_far ?_ NB313_323.out _; refine Qe ?_; exact BK313.out⟩, ⟨by refine Qe ?_; refine blk_put (cs := #[.int .i64 t316, .slice Ao27 t317.length co27, .slice none 0 0]) ?_ 2 _ rfl; refine Qe ?_; refine blk_put (cs := #[.int .i64 t316, .slice none 0 0, .slice none 0 0]) ?_ 1 _ rfl; refine Qe ?_; refine blk_put (cs := #[.int .i64 0, .slice none 0 0, .slice none 0 0]) ?_ 0 _ rfl; refine Qe ?_; exact BK323.out⟩, ⟨Qb HB.out⟩⟩
    case round =>
     clear H'
     (try clear c1); (try clear c2); (try clear p2); (try clear c3); (try clear c8); (try clear c10); (try clear c13); (try clear c16); (try clear c17); (try clear c19); (try clear c20); (try clear c24); (try clear c25); (try clear hcz11_0); (try clear hcz11_1); (try clear hcz11_2); (try clear hcz14_0); (try clear hcz14_1); (try clear hcz14_2); (try clear hcz18_0); (try clear hcz18_1); (try clear hcz18_2); (try clear hcz21_0); (try clear hcz21_1); (try clear hcz21_2); (try clear hcz26_0); (try clear hcz26_1); (try clear hcz26_2); (try clear hfz11_0); (try clear hfz11_1); (try clear hfz11_2); (try clear hfz14_0); (try clear hfz14_1); (try clear hfz14_2); (try clear hfz18_0); (try clear hfz18_1); (try clear hfz18_2); (try clear hfz21_0); (try clear hfz21_1); (try clear hfz21_2); (try clear hfz26_0); (try clear hfz26_1); (try clear hfz26_2); (try clear p2)
     obtain ⟨x2_2, x314000_2, x324000_2, x324001_2, x324002_2, u324001, u324002, rfl, HA, HK2, HO_324001, HO_324002, BK312, BK313, BK323, HB⟩ := hrel
     cases gk with
     | zero => exact absurd HA.out (by simp [spec_RunMachine.l0])
     | succ k2 =>
      have H := HA.out
      clear HA
      simp only [spec_RunMachine.l0] at H
      by_cases c29 : x2_2 > 0
      ·rw [if_pos c29] at H
       have c29b0 : decide (0 < x2_2) = true := decide_eq_true c29
       clear c29
       replace H := Option.bind_eq_some_iff.mp H
       obtain ⟨t324, A300, H⟩ := H
       replace H : (if t324 = 0 then (if 0 ≤ x324000_2 then (if x324000_2 < (l0.length : Int) then ((spec_l7Change.f k2 ((rd_T48 l0 x324000_2).f0) ((rd_T48 l0 x324000_2).f1) ((rd_T48 l0 x324000_2).f2) ((rd_T48 l0 x324000_2).f3) x324000_2 x324001_2 x324002_2).bind fun bt326 => (spec_RunMachine.l0 k2 l0 (wrap64 (x2_2 - 1)) bt326.1 bt326.2.1 bt326.2.2)) else (none)) else (none)) else (some (x324000_2, x324001_2, x324002_2, t324))) = some (r1, r2, r3, r4) := H
       have A30 := Ak A300
       clear A300
       by_cases c31 : t324 = 0
       ·rw [if_pos c31] at H
        have c31b0 : (t324 == 0) = true := beq_iff_eq.mpr c31
        have c31b1 : (t324 != 0) = false := bne_eq_false_iff_eq.mpr c31
        clear c31
        by_cases c32 : 0 ≤ x324000_2
        ·rw [if_pos c32] at H
         have c32b0 : decide (0 ≤ x324000_2) = true := decide_eq_true c32
         clear c32
         by_cases c33 : x324000_2 < (l0.length : Int)
         ·rw [if_pos c33] at H
          have c33b0 : decide (x324000_2 < (l0.length : Int)) = true := decide_eq_true c33
          clear c33
          replace H := Option.bind_eq_some_iff.mp H
          obtain ⟨⟨t326, t327, t330⟩, A340, H⟩ := H
          replace H : (spec_RunMachine.l0 k2 l0 (wrap64 (x2_2 - 1)) t326 t327 t330) = some (r1, r2, r3, r4) := H
          have A34 := Ak A340
          clear A340
          have H' := Ak H
          clear H
          have hnb35 := NB323_312.out
          have hnc35 := NB312_323.out
          have hnb36 := NB323_313.out
          have hnc36 := NB313_323.out
          obtain ⟨hcz37_0, hcz37_1, hcz37_2, hfz37_0, hfz37_1, hfz37_2⟩ := Qv3 BK323.out
          obtain ⟨Ao38, co38, eo38⟩ := Kd.R_slice HO_324001.out
          subst eo38
          obtain ⟨Ao39, co39, eo39⟩ := Kd.R_slice HO_324002.out
          subst eo39
          try go_wp2_with (first | ((with_reducible refine gate_callee (f := 36) rfl ?_); refine Qj (some 28) Try.func36 #[.slice A0 l0.length c0, .agg #[.int .i64 x324000_2, .slice Ao38 x324001_2.length co38, .slice Ao39 x324002_2.length co39]] ?_; (with_reducible refine (spec_l7Why.calls k2 _ _ l0 x324000_2 _ _ x324001_2 _ _ x324002_2 t324 _ ?side1 ?side2 ?side3 ?side4 ?side5 ?side6 A30.out).mono ?_); (case side1 => repeat (first | exact (Kd.C_below HR0.out HB.out) | (with_reducible refine Kd.C_alloc ?_ _) | (with_reducible refine Kd.C_drewN ?_ _) | (with_reducible refine Kd.C_drew ?_))); (case side2 => exact HC0.out); (case side3 => repeat (first | exact (Kd.R_reads' HO_324001.out).2.2 | (with_reducible refine Kd.C_alloc ?_ _) | (with_reducible refine Kd.C_drewN ?_ _) | (with_reducible refine Kd.C_drew ?_))); (case side4 => exact (Kd.R_reads' HO_324001.out).2.1); (case side5 => repeat (first | exact (Kd.R_reads' HO_324002.out).2.2 | (with_reducible refine Kd.C_alloc ?_ _) | (with_reducible refine Kd.C_drewN ?_ _) | (with_reducible refine Kd.C_drew ?_))); (case side6 => exact (Kd.R_reads' HO_324002.out).2.1); rintro e w40 ⟨rfl, hb⟩; refine ⟨_, rfl, ?_⟩; have n0_ := Ak (Kd.R_below (Qc HO_324001.out) hb); have n1_ := Ak (Kd.R_below (Qc HO_324002.out) hb); have n2_ := Ak (Qm BK312.out hb); have n3_ := Ak (Qm BK313.out hb); have n4_ := Ak (Qm BK323.out hb); have n5_ := Ak (below_step (Qb HB.out) hb); clear HO_324001 HO_324002 BK312 BK313 BK323 HB; have HO_324001 := n0_; have HO_324002 := n1_; have BK312 := n2_; have BK313 := n3_; have BK323 := n4_; have HB := n5_; clear n0_ n1_ n2_ n3_ n4_ n5_; (try clear hb); (try clear hb2); (try clear hk); (try clear hi)))
          have n0_ := Ak (Kd.R_drew HO_324001.out)
          have n1_ := Ak (Kd.R_drew HO_324002.out)
          have n2_ := Ak (blk_drew BK312.out)
          have n3_ := Ak (blk_drew BK313.out)
          have n4_ := Ak (blk_drew BK323.out)
          have n5_ := Ak (below_drew1 HB.out)
          clear HO_324001 HO_324002 BK312 BK313 BK323 HB
          have HO_324001 := n0_
          have HO_324002 := n1_
          have BK312 := n2_
          have BK313 := n3_
          have BK323 := n4_
          have HB := n5_
          clear n0_ n1_ n2_ n3_ n4_ n5_
          have p325 : 0 ≤ (x324000_2 : Int) := Qg
          have q325 : x324000_2 < (l0.length : Int) := Qg
          obtain ⟨ad325, e325, hx325_0, hx325_1, hx325_2, hx325_3⟩ := at_T48 HR0.out x324000_2 p325 q325
          have hw325_3 := hx325_3
          have hw325_2 := hx325_2
          have hw325_1 := hx325_1
          have hw325_0 := hx325_0
          cases e325
          (try replace hx325_0 := (HB.out.cell (World.block_lt_of_cell? w _ hx325_0)).trans hx325_0)
          (try replace hx325_1 := (HB.out.cell (World.block_lt_of_cell? w _ hx325_1)).trans hx325_1)
          (try replace hx325_2 := (HB.out.cell (World.block_lt_of_cell? w _ hx325_2)).trans hx325_2)
          (try replace hx325_3 := (HB.out.cell (World.block_lt_of_cell? w _ hx325_3)).trans hx325_3)
          replace p325 := eq_true p325
          replace q325 := eq_true q325
          refine start_ (n := 8) (S := fun w' => w'.cell? ⟨gb323, 0, none⟩ = some (.int .i64 x324000_2) ∧ w'.cell? ⟨gb323, 1, none⟩ = some (.slice Ao38 x324001_2.length co38) ∧ w'.cell? ⟨gb323, 2, none⟩ = some (.slice Ao39 x324002_2.length co39) ∧ w'.cell? (ad325.add ((x324000_2).toNat * 4)) = some (.int .i64 ((rd_T48 l0 x324000_2).f0)) ∧ w'.cell? ⟨(ad325.add ((x324000_2).toNat * 4)).block, (ad325.add ((x324000_2).toNat * 4)).off + 1, none⟩ = some (.int .i64 ((rd_T48 l0 x324000_2).f1)) ∧ w'.cell? ⟨(ad325.add ((x324000_2).toNat * 4)).block, (ad325.add ((x324000_2).toNat * 4)).off + 2, none⟩ = some (.int .i64 ((rd_T48 l0 x324000_2).f2)) ∧ w'.cell? ⟨(ad325.add ((x324000_2).toNat * 4)).block, (ad325.add ((x324000_2).toNat * 4)).off + 3, none⟩ = some (.int .i64 ((rd_T48 l0 x324000_2).f3))) (ds := [7]) #[false, false, false, false, false, false, false, false] (by kernel_rfl) rfl rfl ⟨(blk_cell BK323.out 0).trans rfl, (blk_cell BK323.out 1).trans rfl, (blk_cell BK323.out 2).trans rfl, ((HB.out.cell (World.block_lt_of_cell? w _ hw325_0)).trans hw325_0), ((HB.out.cell (World.block_lt_of_cell? w _ hw325_1)).trans hw325_1), ((HB.out.cell (World.block_lt_of_cell? w _ hw325_2)).trans hw325_2), ((HB.out.cell (World.block_lt_of_cell? w _ hw325_3)).trans hw325_3)⟩ (fun hHeld => ?_); refine with_tabW spec_RunMachine.tab9 spec_RunMachine.bits9 (fun HT_ HW_ => ?_)
          generalize w40.drew = w41 at HO_324001 HO_324002 BK312 BK313 BK323 HB hx325_0 hx325_1 hx325_2 hx325_3 hHeld ⊢
          refine Qq 0 (some 33) ?_
          refine Qq 1 (some 34) ?_
          refine Qr 2 (some 35) hHeld ?_
          refine Qq 3 (some 36) ?_
          refine Qr 4 (some 37) hHeld ?_
          refine Qr 5 (some 38) hHeld ?_
          refine Qs 6 (some 39) (fun K hK => ?_)
          refine goes_ Try.func38 (by kernel_rfl) rfl #[.agg #[.int .i64 ((rd_T48 l0 x324000_2).f0), .int .i64 ((rd_T48 l0 x324000_2).f1), .int .i64 ((rd_T48 l0 x324000_2).f2), .int .i64 ((rd_T48 l0 x324000_2).f3)], .agg #[.int .i64 x324000_2, .slice Ao38 x324001_2.length co38, .slice Ao39 x324002_2.length co39]] (by rfl) rfl rfl T_0 ?_
          with_reducible refine (spec_l7Change.calls k2 ((rd_T48 l0 x324000_2).f0) ((rd_T48 l0 x324000_2).f1) ((rd_T48 l0 x324000_2).f2) ((rd_T48 l0 x324000_2).f3) x324000_2 (fun k_ => some k_ = (.slice Ao38 x324001_2.length co38 : Value).ownBlock) (.slice Ao38 x324001_2.length co38) x324001_2 (fun k_ => some k_ = (.slice Ao39 x324002_2.length co39 : Value).ownBlock) (.slice Ao39 x324002_2.length co39) x324002_2 t326 t327 t330 w _ ?side1 ?side2 ?side3 ?side4 ?side5 A34.out).mono ?_
          (case side1 => repeat (first | (with_reducible first | exact HB.out | apply below_alloc | apply pw_below_drewN | apply below_drew1 | refine below_set ?_ GE312.out | refine below_set ?_ GE313.out | refine below_set ?_ GE323.out) | exact HB.out))
          (case side2 => exact Kd.R_tight rfl HO_324001.out)
          (case side3 => exact fun k_ e_ => (HO_324001.out.1 k_ e_.symm))
          (case side4 => exact Kd.R_tight rfl HO_324002.out)
          (case side5 => exact fun k_ e_ => (HO_324002.out.1 k_ e_.symm))
          rintro e w42 ⟨v328, v331, rfl, ho0, ho1, hb, hkp⟩
          refine ⟨_, rfl, ?_⟩
          have n0_ := Ak (blk_kept (Qa BK312.out) hkp (fun hs_ => Or.elim hs_ (fun e_ => (fun e_ => (Kd.R_ne HO_324001.out BK312.out (by decide)) e_) e_) (fun e_ => (fun e_ => (Kd.R_ne HO_324002.out BK312.out (by decide)) e_) e_)))
          have n1_ := Ak (blk_kept (Qa BK313.out) hkp (fun hs_ => Or.elim hs_ (fun e_ => (fun e_ => (Kd.R_ne HO_324001.out BK313.out (by decide)) e_) e_) (fun e_ => (fun e_ => (Kd.R_ne HO_324002.out BK313.out (by decide)) e_) e_)))
          have n2_ := Ak (blk_kept (Qa BK323.out) hkp (fun hs_ => Or.elim hs_ (fun e_ => (fun e_ => (Kd.R_ne HO_324001.out BK323.out (by decide)) e_) e_) (fun e_ => (fun e_ => (Kd.R_ne HO_324002.out BK323.out (by decide)) e_) e_)))
          have n3_ := Ak (Kd.R_mono (ok' := fun k_ => some k_ ≠ (v331 : Value).ownBlock) ho0 (fun k_ hk_ => hk_.2))
          have n4_ := Ak (Kd.R_mono (ok' := fun k_ => some k_ ≠ (v328 : Value).ownBlock) ho1 (fun k_ hk_ => hk_.2))
          have n5_ := Ak (hb)
          clear BK312 BK313 BK323 HB HO_324001 HO_324002
          have BK312 := n0_
          have BK313 := n1_
          have BK323 := n2_
          have HO329 := n3_
          have HO332 := n4_
          have HB := n5_
          clear n0_ n1_ n2_ n3_ n4_ n5_
          (try clear hb); (try clear hkp); (try clear ho0); (try clear ho1)
          obtain ⟨Ao44, co44, eo44⟩ := Kd.R_slice HO329.out
          (first | subst eo44 | (injection eo44 with f1_ f2_ f3_; have f4_ := f1_.symm; have f5_ := f3_.symm; clear f1_ f2_ f3_; subst f4_; subst f5_))
          obtain ⟨Ao46, co46, eo46⟩ := Kd.R_slice HO332.out
          (first | subst eo46 | (injection eo46 with f1_ f2_ f3_; have f4_ := f1_.symm; have f5_ := f3_.symm; clear f1_ f2_ f3_; subst f4_; subst f5_))
          refine hK.out _ _ ⟨(blk_cell BK323.out 0).trans rfl, (blk_cell BK323.out 1).trans rfl, (blk_cell BK323.out 2).trans rfl, ((HB.out.cell (World.block_lt_of_cell? w _ hw325_0)).trans hw325_0), ((HB.out.cell (World.block_lt_of_cell? w _ hw325_1)).trans hw325_1), ((HB.out.cell (World.block_lt_of_cell? w _ hw325_2)).trans hw325_2), ((HB.out.cell (World.block_lt_of_cell? w _ hw325_3)).trans hw325_3)⟩ (fun hHeld => ?_)
          clear hK K
          refine norm_ (a' := ?_) ?_ ?_
          rotate_left
          ·show Act.put _ (some 39) _ = _
           simp only [Act.put, List.setIfInBounds_toArray, List.set_cons_zero, List.set_cons_succ, i64_w, i32_w]
           rfl
          refine Qt 7 none (fun K hK => ?_)
          have hs43 : w42.cell? ⟨gb323, 0, none⟩ = some (.int .i64 x324000_2) := (blk_cell BK323.out 0).trans rfl
          have hfs43 := blk_frozen BK323.out 0
          have hns43_0 := NB312_323.out
          have hns43_1 := NB313_323.out
          have hms43_0 := NB323_312.out
          have hms43_1 := NB323_313.out
          have hs45 : w42.cell? ⟨gb323, 1, none⟩ = some (.slice Ao38 x324001_2.length co38) := (blk_cell BK323.out 1).trans rfl
          have hfs45 := blk_frozen BK323.out 1
          have hns45_0 := NB312_323.out
          have hns45_1 := NB313_323.out
          have hms45_0 := NB323_312.out
          have hms45_1 := NB323_313.out
          have hs47 : w42.cell? ⟨gb323, 2, none⟩ = some (.slice Ao39 x324002_2.length co39) := (blk_cell BK323.out 2).trans rfl
          have hfs47 := blk_frozen BK323.out 2
          have hns47_0 := NB312_323.out
          have hns47_1 := NB313_323.out
          have hms47_0 := NB323_312.out
          have hms47_1 := NB323_313.out
          refine skip_ (w1 := ?_) (by rfl) rfl ?_ ?_
          rotate_left
          ·go_simp
           rfl
          refine hK.out _ _ ?_
          clear hK K
          refine done_ (done_of HT_.out (by kernel_rfl)) ?_
          try go_wp2
          go_roundg k2
          case measure => have := HJ3.out; have := HK2.out; omega
          case rel => exact ⟨(wrap64 (x2_2 - 1)), (x314000_2), (t326), (t327), (t330), (.slice Ao44 t327.length co44), (.slice Ao46 t330.length co46), Qi, H', ⟨by have := HJ3.out; have := HK2.out; omega⟩, ⟨by refine Qf ?_; exact Kd.R_mono (Kd.R_far (p := ⟨gb323, 2, none⟩) (Kd.R_far (p := ⟨gb323, 1, none⟩) (Kd.R_far (p := ⟨gb323, 0, none⟩) (Kd.R_types HO329.out BK323.out (by decide)) (fun _ hk => hk.2) (.int .i64 t326)) (fun _ hk => hk.2) (.slice Ao44 t327.length co44)) (fun _ hk => hk.2) (.slice Ao46 t330.length co46)) (fun _ hk => hk.1)⟩, ⟨by refine Qf ?_; exact Kd.R_mono (Kd.R_far (p := ⟨gb323, 2, none⟩) (Kd.R_far (p := ⟨gb323, 1, none⟩) (Kd.R_far (p := ⟨gb323, 0, none⟩) (Kd.R_types HO332.out BK323.out (by decide)) (fun _ hk => hk.2) (.int .i64 t326)) (fun _ hk => hk.2) (.slice Ao44 t327.length co44)) (fun _ hk => hk.2) (.slice Ao46 t330.length co46)) (fun _ hk => hk.1)⟩, ⟨by refine Qe ?_; refine blk_far ?_ NB312_323.out _; refine Qe ?_; refine blk_far ?_ NB312_323.out _; refine Qe ?_; refine blk_far ?_ NB312_323.out _; refine Qe ?_; exact BK312.out⟩, ⟨by refine Qe ?_; refine blk_far ?_ NB313_323.out _; refine Qe ?_; refine blk_far ?_ NB313_323.out _; refine Qe ?_; refine blk_far ?_ NB313_323.out _; refine Qe ?_; exact BK313.out⟩, ⟨by refine Qe ?_; refine blk_put (cs := #[.int .i64 t326, .slice Ao44 t327.length co44, .slice Ao39 x324002_2.length co39]) ?_ 2 _ rfl; refine Qe ?_; refine blk_put (cs := #[.int .i64 t326, .slice Ao38 x324001_2.length co38, .slice Ao39 x324002_2.length co39]) ?_ 1 _ rfl; refine Qe ?_; refine blk_put (cs := #[.int .i64 x324000_2, .slice Ao38 x324001_2.length co38, .slice Ao39 x324002_2.length co39]) ?_ 0 _ rfl; refine Qe ?_; exact BK323.out⟩, ⟨Qb HB.out⟩⟩
         ·rw [if_neg c33] at H
          exact absurd H (by simp)
        ·rw [if_neg c32] at H
         exact absurd H (by simp)
       ·rw [if_neg c31] at H
        have c31b0 : (t324 == 0) = false := beq_eq_false_iff_ne.mpr c31
        have c31b1 : (t324 != 0) = true := bne_iff_ne.mpr c31
        simp only [Option.some.injEq, Prod.mk.injEq] at H
        obtain ⟨rfl, rfl, rfl, rfl⟩ := H
        have hnb48 := NB323_312.out
        have hnc48 := NB312_323.out
        have hnb49 := NB323_313.out
        have hnc49 := NB313_323.out
        obtain ⟨hcz50_0, hcz50_1, hcz50_2, hfz50_0, hfz50_1, hfz50_2⟩ := Qv3 BK323.out
        obtain ⟨Ao51, co51, eo51⟩ := Kd.R_slice HO_324001.out
        subst eo51
        obtain ⟨Ao52, co52, eo52⟩ := Kd.R_slice HO_324002.out
        subst eo52
        go_wp2_with (first | ((with_reducible refine gate_callee (f := 36) rfl ?_); refine Qj (some 28) Try.func36 #[.slice A0 l0.length c0, .agg #[.int .i64 x324000_2, .slice Ao51 x324001_2.length co51, .slice Ao52 x324002_2.length co52]] ?_; (with_reducible refine (spec_l7Why.calls k2 _ _ l0 x324000_2 _ _ x324001_2 _ _ x324002_2 t324 _ ?side1 ?side2 ?side3 ?side4 ?side5 ?side6 A30.out).mono ?_); (case side1 => repeat (first | exact (Kd.C_below HR0.out HB.out) | (with_reducible refine Kd.C_alloc ?_ _) | (with_reducible refine Kd.C_drewN ?_ _) | (with_reducible refine Kd.C_drew ?_))); (case side2 => exact HC0.out); (case side3 => repeat (first | exact (Kd.R_reads' HO_324001.out).2.2 | (with_reducible refine Kd.C_alloc ?_ _) | (with_reducible refine Kd.C_drewN ?_ _) | (with_reducible refine Kd.C_drew ?_))); (case side4 => exact (Kd.R_reads' HO_324001.out).2.1); (case side5 => repeat (first | exact (Kd.R_reads' HO_324002.out).2.2 | (with_reducible refine Kd.C_alloc ?_ _) | (with_reducible refine Kd.C_drewN ?_ _) | (with_reducible refine Kd.C_drew ?_))); (case side6 => exact (Kd.R_reads' HO_324002.out).2.1); rintro e w53 ⟨rfl, hb⟩; refine ⟨_, rfl, ?_⟩; have n0_ := Ak (Kd.R_below (Qc HO_324001.out) hb); have n1_ := Ak (Kd.R_below (Qc HO_324002.out) hb); have n2_ := Ak (Qm BK312.out hb); have n3_ := Ak (Qm BK313.out hb); have n4_ := Ak (Qm BK323.out hb); have n5_ := Ak (below_step (Qb HB.out) hb); clear HO_324001 HO_324002 BK312 BK313 BK323 HB; have HO_324001 := n0_; have HO_324002 := n1_; have BK312 := n2_; have BK313 := n3_; have BK323 := n4_; have HB := n5_; clear n0_ n1_ n2_ n3_ n4_ n5_; (try clear hb); (try clear hb2); (try clear hk); (try clear hi); obtain ⟨hcz54_0, hcz54_1, hcz54_2, hfz54_0, hfz54_1, hfz54_2⟩ := Qv3 BK323.out; have hnb55 := NB313_312.out; have hnc55 := NB312_313.out; obtain ⟨hcz56_0, hcz56_1, hcz56_2⟩ := Qu3 BK313.out; have hfz56_0 := blk_frozen BK313.out 0; have hfz56_1 := blk_frozen BK313.out 1; have hfz56_2 := blk_frozen BK313.out 2))
        refine bodyPost_ret (results_ct rfl _ _ gb313 28 #[.int .i64 x324000_2, .slice Ao51 x324001_2.length co51, .slice Ao52 x324002_2.length co52] (0, 0) _ rfl (by refine Qe ?_; refine blk_put (cs := #[.int .i64 x324000_2, .slice Ao51 x324001_2.length co51, .slice none 0 0]) ?_ 2 _ rfl; refine Qe ?_; refine blk_put (cs := #[.int .i64 x324000_2, .slice none 0 0, .slice none 0 0]) ?_ 1 _ rfl; refine Qe ?_; refine blk_put (cs := #[.int .i64 x314000_2, .slice none 0 0, .slice none 0 0]) ?_ 0 _ rfl; exact Qa BK313.out) Try.underlying28 rfl (by kernel_rfl)) rfl ?_
        exact ⟨_, _, Qh, by refine Qf ?_; exact Kd.R_mono (Kd.R_far (p := ⟨gb313, 2, none⟩) (Kd.R_far (p := ⟨gb313, 1, none⟩) (Kd.R_far (p := ⟨gb313, 0, none⟩) (Kd.R_types HO_324001.out BK313.out (by decide)) (fun _ hk => hk.2) (.int .i64 x324000_2)) (fun _ hk => hk.2) (.slice Ao51 x324001_2.length co51)) (fun _ hk => hk.2) (.slice Ao52 x324002_2.length co52)) (fun _ hk => hk.1), by refine Qf ?_; exact Kd.R_mono (Kd.R_far (p := ⟨gb313, 2, none⟩) (Kd.R_far (p := ⟨gb313, 1, none⟩) (Kd.R_far (p := ⟨gb313, 0, none⟩) (Kd.R_types HO_324002.out BK313.out (by decide)) (fun _ hk => hk.2) (.int .i64 x324000_2)) (fun _ hk => hk.2) (.slice Ao51 x324001_2.length co51)) (fun _ hk => hk.2) (.slice Ao52 x324002_2.length co52)) (fun _ hk => hk.1), Qb HB.out⟩
      ·rw [if_neg c29] at H
       have c29b0 : decide (0 < x2_2) = false := decide_eq_false c29
       clear c29
       simp only [Option.some.injEq, Prod.mk.injEq] at H
       obtain ⟨rfl, rfl, rfl, rfl⟩ := H
       have hnb57 := NB323_312.out
       have hnc57 := NB312_323.out
       have hnb58 := NB323_313.out
       have hnc58 := NB313_323.out
       obtain ⟨hcz59_0, hcz59_1, hcz59_2, hfz59_0, hfz59_1, hfz59_2⟩ := Qv3 BK323.out
       have hnb60 := NB313_312.out
       have hnc60 := NB312_313.out
       obtain ⟨hcz61_0, hcz61_1, hcz61_2, hfz61_0, hfz61_1, hfz61_2⟩ := Qv3 BK313.out
       obtain ⟨Ao62, co62, eo62⟩ := Kd.R_slice HO_324001.out
       subst eo62
       obtain ⟨Ao63, co63, eo63⟩ := Kd.R_slice HO_324002.out
       subst eo63
       go_wp2
       refine bodyPost_ret (results_ct rfl _ _ gb313 28 #[.int .i64 x324000_2, .slice Ao62 x324001_2.length co62, .slice Ao63 x324002_2.length co63] (0, 0) _ rfl (by refine Qe ?_; refine blk_put (cs := #[.int .i64 x324000_2, .slice Ao62 x324001_2.length co62, .slice none 0 0]) ?_ 2 _ rfl; refine Qe ?_; refine blk_put (cs := #[.int .i64 x324000_2, .slice none 0 0, .slice none 0 0]) ?_ 1 _ rfl; refine Qe ?_; refine blk_put (cs := #[.int .i64 x314000_2, .slice none 0 0, .slice none 0 0]) ?_ 0 _ rfl; exact Qa BK313.out) Try.underlying28 rfl (by kernel_rfl)) rfl ?_
       exact ⟨_, _, Qh, by refine Qf ?_; exact Kd.R_mono (Kd.R_far (p := ⟨gb313, 2, none⟩) (Kd.R_far (p := ⟨gb313, 1, none⟩) (Kd.R_far (p := ⟨gb313, 0, none⟩) (Kd.R_types HO_324001.out BK313.out (by decide)) (fun _ hk => hk.2) (.int .i64 x324000_2)) (fun _ hk => hk.2) (.slice Ao62 x324001_2.length co62)) (fun _ hk => hk.2) (.slice Ao63 x324002_2.length co63)) (fun _ hk => hk.1), by refine Qf ?_; exact Kd.R_mono (Kd.R_far (p := ⟨gb313, 2, none⟩) (Kd.R_far (p := ⟨gb313, 1, none⟩) (Kd.R_far (p := ⟨gb313, 0, none⟩) (Kd.R_types HO_324002.out BK313.out (by decide)) (fun _ hk => hk.2) (.int .i64 x324000_2)) (fun _ hk => hk.2) (.slice Ao62 x324001_2.length co62)) (fun _ hk => hk.2) (.slice Ao63 x324002_2.length co63)) (fun _ hk => hk.1), Qb HB.out⟩

/-! ### impl_Op_96: function 96 -/
set_option maxHeartbeats 2000000 in
theorem index96 (g : Nat) (lb : Array Value) (p : Nat → Bool) (x0 x1 x2 x3 : Nat → Value) (eg : ∀ args w, (callFunc g args).run Try.prog w = .ok (.enter g args) w) (A : Option Addr) (n c : Nat) (w : World)
  (hn : n ≤ 9223372036854775807) (hv : ∀ W, Below w.heap.size w W → ∀ j, j < n → ∃ ad, A = some ad ∧ W.cell? (ad.add (j * 4)) = some (x0 j) ∧ W.cell? ⟨(ad.add (j * 4)).block, (ad.add (j * 4)).off + 1, none⟩ = some (x1 j) ∧ W.cell? ⟨(ad.add (j * 4)).block, (ad.add (j * 4)).off + 2, none⟩ = some (x2 j) ∧ W.cell? ⟨(ad.add (j * 4)).block, (ad.add (j * 4)).off + 3, none⟩ = some (x3 j))
  (hp : ∀ (W : World) (j : Nat), Below w.heap.size w W → j < n → Calls Try.prog g (#[.agg #[x0 j, x1 j, x2 j, x3 j]] ++ lb) W fun e w' => e = .returned (.bool (p j)) ∧ Below w.heap.size w w') :
  Calls Try.prog 96 #[.slice A n c, .func (.func g) #[] lb] w fun e w' => e = .returned (.int .i64 (Go.Proofs.Ytlmiankjbffboaa.Any.fstP p 0 n)) ∧ Below w.heap.size w w' := by
 go_enter Try.func96, Try.ntmps96
 go_wp2
 go_loopg [5, 8] n (fun gg _ s8 wr => ∃ kk : Nat, kk ≤ n ∧ n - kk ≤ gg ∧ s8 = .int .i64 kk ∧ Aside (Below w.heap.size w wr) ∧ Aside (∀ j, j < kk → p j = false))
 case atStart => exact ⟨0, Nat.zero_le _, by omega, rfl, Below.refl _ w, fun j hj => absurd hj (Nat.not_lt_zero _)⟩
 case round =>
  obtain ⟨kk, hkk, hg, rfl, BW, A0⟩ := hrel
  by_cases hlt : kk < n
  ·have hltz : (kk : Int) < (n : Int) := by omega
   obtain ⟨ad, rfl, l2, l3, l4, l5⟩ := hv wr BW.out kk hlt
   have hcall := hp wr kk BW.out hlt
   clear hv hp
   have hq : ∃ y, p kk = y := ⟨_, rfl⟩
   obtain ⟨y, hy⟩ := hq
   have B : Aside (p kk = y) := hy
   rw [hy] at hcall
   clear hy
   cases y with
   | true =>
    go_wp2
    refine hcall.mono ?_
    rintro e w' ⟨rfl, hb'⟩
    go_wp2
    go_ret
    refine ⟨?_, hb'⟩
    rw [Go.Proofs.Ytlmiankjbffboaa.Any.fstP_hit B.out n 0 (by omega) (by omega) (fun m _ hm => A0.out m hm)]
    rfl
   | false =>
    go_wp2
    refine hcall.mono ?_
    rintro e w' ⟨rfl, hb'⟩
    go_wp2
    go_roundg (n - (kk + 1))
    case measure => omega
    case rel =>
     refine ⟨kk + 1, by omega, by omega, by go_num, hb', (show Aside _ from fun j hj => ?_)⟩
     by_cases e : j = kk
     ·subst e
      exact B.out
     ·exact A0.out j (by omega)
  ·have hltz : ¬ (kk : Int) < (n : Int) := by omega
   have : kk = n := by omega
   subst this
   go_wp2
   go_ret
   refine ⟨?_, BW.out⟩
   rw [Go.Proofs.Ytlmiankjbffboaa.Any.fstP_miss kk 0 (fun m _ hm => A0.out m (by omega))]
   rfl

/-! ### impl_Op_84: function 84 -/
set_option maxHeartbeats 2000000 in
theorem contains84 (g : Nat) (lb : Array Value) (p : Nat → Bool) (x0 x1 x2 x3 : Nat → Value) (eg : ∀ args w, (callFunc g args).run Try.prog w = .ok (.enter g args) w) (A : Option Addr) (n c : Nat) (r : Bool) (w : World)
  (hn : n ≤ 9223372036854775807) (hv : ∀ W, Below w.heap.size w W → ∀ j, j < n → ∃ ad, A = some ad ∧ W.cell? (ad.add (j * 4)) = some (x0 j) ∧ W.cell? ⟨(ad.add (j * 4)).block, (ad.add (j * 4)).off + 1, none⟩ = some (x1 j) ∧ W.cell? ⟨(ad.add (j * 4)).block, (ad.add (j * 4)).off + 2, none⟩ = some (x2 j) ∧ W.cell? ⟨(ad.add (j * 4)).block, (ad.add (j * 4)).off + 3, none⟩ = some (x3 j))
  (hp : ∀ (W : World) (j : Nat), Below w.heap.size w W → j < n → Calls Try.prog g (#[.agg #[x0 j, x1 j, x2 j, x3 j]] ++ lb) W fun e w' => e = .returned (.bool (p j)) ∧ Below w.heap.size w w')
  (hr : decide (0 ≤ Go.Proofs.Ytlmiankjbffboaa.Any.fstP p 0 n) = r) :
  Calls Try.prog 84 #[.slice A n c, .func (.func g) #[] lb] w fun e w' => e = .returned (.bool r) ∧ Below w.heap.size w w' := by
 have h := index96 g lb p x0 x1 x2 x3 eg A n c w hn hv hp
 generalize Go.Proofs.Ytlmiankjbffboaa.Any.fstP p 0 n = i at h hr
 subst hr
 clear hv hp
 go_enter Try.func84, Try.ntmps84
 go_wp2_with (go_at_call 96; refine h.mono ?_; rintro e w' ⟨rfl, hb'⟩)
 go_ret
 exact ⟨rfl, hb'⟩

/-! ### impl_power: function 55 -/
def impl_power.l0 : Nat → Int → Int → Int → Option (Int)
 | 0, _, _, _ => none
 | k + 1, x3, x4, x5 => if x5 < x4 then (impl_power.l0 k (wrap64 (x3 * 3)) x4 (wrap64 (x5 + 1))) else (some x3)
def impl_power.f (k : Nat) (a0 : Int) : Option (Int) := impl_power.l0 k 1 a0 0
theorem impl_power.mono_l : ∀ k, (∀ y0 y1 y2, LeO (impl_power.l0 k y0 y1 y2) (impl_power.l0 (k + 1) y0 y1 y2))
 | 0 => fun _ _ _ r h => by simp [impl_power.l0] at h
 | k + 1 => by
  have ih0 := impl_power.mono_l k
  ·intro y0 y1 y2
   unfold impl_power.l0
   repeat' first
   | (with_reducible exact ih0 _ _ _)
   | (with_reducible exact LeO.refl _)
   | (with_reducible exact LeO.none _)
   | (with_reducible refine LeO.ite ?_ ?_)
   | (with_reducible refine LeO.bind ?_ (fun _ => ?_))
   | exact ih0 _ _ _
   | exact LeO.none _
   | refine LeO.ite ?_ ?_
   | refine LeO.bind ?_ (fun _ => ?_)
theorem impl_power.mono : ∀ a0 k, LeO (impl_power.f k a0) (impl_power.f (k + 1) a0) := by
 intro a0 k
 have ih0 := impl_power.mono_l k
 unfold impl_power.f
 repeat' first
   | (with_reducible exact ih0 _ _ _)
   | (with_reducible exact LeO.refl _)
   | (with_reducible exact LeO.none _)
   | (with_reducible refine LeO.ite ?_ ?_)
   | (with_reducible refine LeO.bind ?_ (fun _ => ?_))
   | exact ih0 _ _ _
   | exact LeO.none _
   | refine LeO.ite ?_ ?_
   | refine LeO.bind ?_ (fun _ => ?_)
theorem impl_power.calls (k : Nat) (a0 : Int) (r : Int) (w : World) (h : impl_power.f k a0 = some r) :
  Calls Try.prog 55 #[.int .i64 a0] w fun e w' => e = .returned (.int .i64 r) ∧ Drawn0 w w' := by
 have H : (impl_power.l0 k 1 a0 0) = some r := h
 clear h
 have H' := Ak H
 clear H
 go_enter Try.func55, Try.ntmps55
 go_wp2
 go_loopg [3, 5] k (fun kq v3 v5 w' => ∃ (x3_1 : Int) (x5_1 : Int), v3 = .int .i64 x3_1 ∧ v5 = .int .i64 x5_1 ∧ Aside0 (impl_power.l0 kq x3_1 a0 x5_1 = some r) ∧ Aside0 (kq ≤ k) ∧ Drawn0 w w')
 case atStart => exact ⟨(1), (0), Qi, Qi, H', ⟨Nat.le_refl _⟩, Ql⟩
 case round =>
  clear H'
  obtain ⟨x3_1, x5_1, rfl, rfl, HA, HK1, ⟨m1, rfl⟩⟩ := hrel
  cases gk with
  | zero => exact absurd HA.out (by simp [impl_power.l0])
  | succ k1 =>
   have H := HA.out
   clear HA
   simp only [impl_power.l0] at H
   by_cases c2 : x5_1 < a0
   ·rw [if_pos c2] at H
    have c2b0 : decide (x5_1 < a0) = true := decide_eq_true c2
    clear c2
    have H' := Ak H
    clear H
    go_wp2
    go_roundg k1
    case measure => have := HK1.out; omega
    case rel => exact ⟨(wrap64 (x3_1 * 3)), (wrap64 (x5_1 + 1)), Qi, Qi, H', ⟨by have := HK1.out; omega⟩, Ql⟩
   ·rw [if_neg c2] at H
    have c2b0 : decide (x5_1 < a0) = false := decide_eq_false c2
    clear c2
    obtain rfl := Option.some.inj H
    go_wp2
    go_ret
    exact ⟨Qi, Ql⟩

/-! ### impl_LimitOf: function 99 -/
def impl_LimitOf.f (k : Nat) (a0 : Int) : Option (Int) := if a0 < 1 then (some 0) else (if a0 > 30 then (some 0) else ((impl_power.f k a0).bind fun t333 => (some (wrap64 (Int.tdiv (wrap64 (t333 - 1)) 2)))))
theorem impl_LimitOf.mono : ∀ a0 k, LeO (impl_LimitOf.f k a0) (impl_LimitOf.f (k + 1) a0) := by
 intro a0 k
 unfold impl_LimitOf.f
 repeat' first
   | (with_reducible exact impl_power.mono _ _)
   | (with_reducible exact LeO.refl _)
   | (with_reducible exact LeO.none _)
   | (with_reducible refine LeO.ite ?_ ?_)
   | (with_reducible refine LeO.bind ?_ (fun _ => ?_))
   | exact impl_power.mono _ _
   | exact LeO.none _
   | refine LeO.ite ?_ ?_
   | refine LeO.bind ?_ (fun _ => ?_)
theorem impl_LimitOf.calls (k : Nat) (a0 : Int) (r : Int) (w : World) (h : impl_LimitOf.f k a0 = some r) :
  Calls Try.prog 99 #[.int .i64 a0] w fun e w' => e = .returned (.int .i64 r) ∧ Drawn0 w w' := by
 have H : (if a0 < 1 then (some 0) else (if a0 > 30 then (some 0) else ((impl_power.f k a0).bind fun t333 => (some (wrap64 (Int.tdiv (wrap64 (t333 - 1)) 2)))))) = some r := h
 clear h
 by_cases c2 : a0 < 1
 ·rw [if_pos c2] at H
  have c2b0 : decide (a0 < 1) = true := decide_eq_true c2
  clear c2
  obtain rfl := Option.some.inj H
  go_enter Try.func99, Try.ntmps99
  go_wp2
  go_ret
  exact ⟨Qi, Ql⟩
 ·rw [if_neg c2] at H
  have c2b0 : decide (a0 < 1) = false := decide_eq_false c2
  clear c2
  by_cases c3 : a0 > 30
  ·rw [if_pos c3] at H
   have c3b0 : decide (30 < a0) = true := decide_eq_true c3
   clear c3
   obtain rfl := Option.some.inj H
   go_enter Try.func99, Try.ntmps99
   go_wp2
   go_ret
   exact ⟨Qi, Ql⟩
  ·rw [if_neg c3] at H
   have c3b0 : decide (30 < a0) = false := decide_eq_false c3
   clear c3
   replace H := Option.bind_eq_some_iff.mp H
   obtain ⟨t333, A40, H⟩ := H
   replace H : (some (wrap64 (Int.tdiv (wrap64 (t333 - 1)) 2))) = some r := H
   have A4 := Ak A40
   clear A40
   obtain rfl := Option.some.inj H
   go_enter Try.func99, Try.ntmps99
   go_wp2_with (first | ((with_reducible refine gate_callee (f := 55) rfl ?_); refine Qj (some 10) Try.func55 #[.int .i64 a0] ?_; (with_reducible refine (impl_power.calls k a0 t333 _ A4.out).mono ?_); rintro e w' ⟨rfl, ⟨nd, rfl⟩⟩; refine ⟨_, rfl, ?_⟩))
   go_ret
   exact ⟨Qi, Ql⟩

/-! ### impl_fits: function 89 -/
def impl_fits.f (k : Nat) (a0 : Int) (a1 : Int) : Option (Bool) := (impl_LimitOf.f k a1).bind fun t334 => (if a0 ≥ (wrap64 (-t334)) then ((impl_LimitOf.f k a1).bind fun t335 => (some (decide (a0 ≤ t335)))) else (some false))
theorem impl_fits.mono : ∀ a0 a1 k, LeO (impl_fits.f k a0 a1) (impl_fits.f (k + 1) a0 a1) := by
 intro a0 a1 k
 unfold impl_fits.f
 repeat' first
   | (with_reducible exact impl_LimitOf.mono _ _)
   | (with_reducible exact LeO.refl _)
   | (with_reducible exact LeO.none _)
   | (with_reducible refine LeO.ite ?_ ?_)
   | (with_reducible refine LeO.bind ?_ (fun _ => ?_))
   | exact impl_LimitOf.mono _ _
   | exact LeO.none _
   | refine LeO.ite ?_ ?_
   | refine LeO.bind ?_ (fun _ => ?_)
theorem impl_fits.calls (k : Nat) (a0 : Int) (a1 : Int) (r : Bool) (w : World) (h : impl_fits.f k a0 a1 = some r) :
  Calls Try.prog 89 #[.int .i64 a0, .int .i64 a1] w fun e w' => e = .returned (.bool r) ∧ Drawn0 w w' := by
 have H : ((impl_LimitOf.f k a1).bind fun t334 => (if a0 ≥ (wrap64 (-t334)) then ((impl_LimitOf.f k a1).bind fun t335 => (some (decide (a0 ≤ t335)))) else (some false))) = some r := h
 clear h
 replace H := Option.bind_eq_some_iff.mp H
 obtain ⟨t334, A30, H⟩ := H
 replace H : (if a0 ≥ (wrap64 (-t334)) then ((impl_LimitOf.f k a1).bind fun t335 => (some (decide (a0 ≤ t335)))) else (some false)) = some r := H
 have A3 := Ak A30
 clear A30
 by_cases c4 : a0 ≥ (wrap64 (-t334))
 ·rw [if_pos c4] at H
  have c4b0 : decide ((wrap64 (-t334)) ≤ a0) = true := decide_eq_true c4
  clear c4
  replace H := Option.bind_eq_some_iff.mp H
  obtain ⟨t335, A50, H⟩ := H
  replace H : (some (decide (a0 ≤ t335))) = some r := H
  have A5 := Ak A50
  clear A50
  obtain rfl := Option.some.inj H
  go_enter Try.func89, Try.ntmps89
  go_wp2_with (first | ((with_reducible refine gate_callee (f := 99) rfl ?_); refine Qj (some 7) Try.func99 #[.int .i64 a1] ?_; (with_reducible refine (impl_LimitOf.calls k a1 t334 _ A3.out).mono ?_); rintro e w' ⟨rfl, ⟨nd, rfl⟩⟩; refine ⟨_, rfl, ?_⟩) | (go_at_call 99; (with_reducible refine (impl_LimitOf.calls k a1 t335 _ A5.out).mono ?_); rintro e w' ⟨rfl, ⟨nd, rfl⟩⟩))
  go_ret
  exact ⟨Qi, Ql⟩
 ·rw [if_neg c4] at H
  have c4b0 : decide ((wrap64 (-t334)) ≤ a0) = false := decide_eq_false c4
  clear c4
  obtain rfl := Option.some.inj H
  go_enter Try.func89, Try.ntmps89
  go_wp2_with (first | ((with_reducible refine gate_callee (f := 99) rfl ?_); refine Qj (some 7) Try.func99 #[.int .i64 a1] ?_; (with_reducible refine (impl_LimitOf.calls k a1 t334 _ A3.out).mono ?_); rintro e w' ⟨rfl, ⟨nd, rfl⟩⟩; refine ⟨_, rfl, ?_⟩))
  go_ret
  exact ⟨Qi, Ql⟩

/-! ### impl_isOp_1: function 97 -/
set_option maxHeartbeats 2000000 in
theorem place97 (n size : Int) (b : Nat) (r : Bool) (w : World) (hr : (decide (0 ≤ n) && decide (n ≤ size)) = r) (hc : w.cell? ⟨b, 0, none⟩ = some (.int .i64 size)) :
  Calls Try.prog 97 #[.int .i64 n, .pointer (some ⟨b, 0, none⟩)] w fun e w' => e = .returned (.bool r) ∧ Drawn0 w w' := by
 subst hr
 cases h1 : decide (0 ≤ n) <;> cases h2 : decide (n ≤ size) <;>
 ·go_enter Try.func97, Try.ntmps97
  go_wp2
  go_ret
  exact ⟨by first | rfl | simp [*], Ql⟩

/-! ### impl_isOp: function 86 -/
/-- What isOp says, with what 'fits' says of A. -/
def isOpB (f : Bool) (c a b d n : Int) : Bool :=
 if c = 1 then f && decide (b = 0) && decide (d = 0)
 else if c = 10 then decide (-9 ≤ a) && decide (a ≤ 9) && decide (b = 0) && decide (d = 0)
 else if c = 13 then (decide (0 ≤ a) && decide (a ≤ n)) && decide (b = 0) && decide (d = 0)
 else if c = 14 then (decide (0 ≤ a) && decide (a ≤ n)) && (decide (0 ≤ b) && decide (b ≤ n)) && (decide (0 ≤ d) && decide (d ≤ n))
 else decide (1 ≤ c) && decide (c ≤ 15) && (decide (a = 0) && decide (b = 0) && decide (d = 0))
def impl_isOp.f (k : Nat) (c a b d n : Int) : Option Bool := (impl_fits.f k a 9).bind fun f => some (isOpB f c a b d n)
theorem impl_isOp.mono : ∀ c a b d n k, LeO (impl_isOp.f k c a b d n) (impl_isOp.f (k + 1) c a b d n) := fun c a b d n k => LeO.bind (impl_fits.mono a 9 k) (fun _ => LeO.refl _)
theorem impl_isOp.calls (k : Nat) (a0_0 : Int) (a0_1 : Int) (a0_2 : Int) (a0_3 : Int) (a1 : Int) (r : Bool) (w : World) (h : impl_isOp.f k a0_0 a0_1 a0_2 a0_3 a1 = some r) :
  Calls Try.prog 86 #[.agg #[.int .i64 a0_0, .int .i64 a0_1, .int .i64 a0_2, .int .i64 a0_3], .int .i64 a1] w fun e w' => e = .returned (.bool r) ∧ Below w.heap.size w w' := by
 obtain ⟨c, ec⟩ : ∃ z, z = a0_0 := ⟨_, rfl⟩
 obtain ⟨a, ea⟩ : ∃ z, z = a0_1 := ⟨_, rfl⟩
 obtain ⟨b, eb⟩ : ∃ z, z = a0_2 := ⟨_, rfl⟩
 obtain ⟨d, ed⟩ : ∃ z, z = a0_3 := ⟨_, rfl⟩
 obtain ⟨n, en⟩ : ∃ z, z = a1 := ⟨_, rfl⟩
 rw [← ec, ← ea, ← eb, ← ed, ← en] at h ⊢
 clear ec ea eb ed en
 obtain ⟨f, hf, h⟩ := Option.bind_eq_some_iff.1 h
 have hr := Option.some.inj h
 clear h
 have hb : (b == 0) = decide (b = 0) := by rw [Bool.eq_iff_iff]; simp
 have hd : (d == 0) = decide (d = 0) := by rw [Bool.eq_iff_iff]; simp
 by_cases c1 : c = 1
 ·(try subst c1)
  rw [isOpB, if_pos rfl] at hr
  subst hr
  cases f <;> cases h1 : decide (b = 0) <;> cases h2 : decide (d = 0) <;>
  ·rw [h1] at hb
   rw [h2] at hd
   go_enter Try.func86, Try.ntmps86
   go_wp2_with (go_at_call 89; refine (impl_fits.calls k a 9 _ _ hf).mono ?_; rintro e w' ⟨rfl, ⟨nd, rfl⟩⟩)
   go_ret
   exact ⟨by first | rfl | simp [*], by repeat (first | (with_reducible first | exact Below.refl _ _ | apply below_alloc | apply pw_below_drewN | apply below_drew1) | exact Below.refl _ _)⟩
 ·clear hf
  by_cases c10 : c = 10
  ·(try subst c10)
   rw [isOpB, if_neg (by decide), if_pos rfl] at hr
   subst hr
   cases h3 : decide (-9 ≤ a) <;> cases h4 : decide (a ≤ 9) <;> cases h1 : decide (b = 0) <;> cases h2 : decide (d = 0) <;>
   ·rw [h1] at hb
    rw [h2] at hd
    go_enter Try.func86, Try.ntmps86
    go_wp2
    go_ret
    exact ⟨by first | rfl | simp [*], by repeat (first | (with_reducible first | exact Below.refl _ _ | apply below_alloc | apply pw_below_drewN | apply below_drew1) | exact Below.refl _ _)⟩
  ·by_cases c13 : c = 13
   ·(try subst c13)
    rw [isOpB, if_neg (by decide), if_neg (by decide), if_pos rfl] at hr
    subst hr
    cases pa : (decide (0 ≤ a) && decide (a ≤ n)) <;> cases h1 : decide (b = 0) <;> cases h2 : decide (d = 0) <;>
    ·rw [h1] at hb
     rw [h2] at hd
     go_enter Try.func86, Try.ntmps86
     go_wp2_with (go_at_call 97; with_reducible refine (place97 a n _ _ _ pa (by simp)).mono ?_; rintro e w' ⟨rfl, ⟨nda, rfl⟩⟩)
     go_ret
     exact ⟨by first | rfl | simp [*], by repeat (first | (with_reducible first | exact Below.refl _ _ | apply below_alloc | apply pw_below_drewN | apply below_drew1) | exact Below.refl _ _)⟩
   ·by_cases c14 : c = 14
    ·(try subst c14)
     rw [isOpB, if_neg (by decide), if_neg (by decide), if_neg (by decide), if_pos rfl] at hr
     subst hr
     clear hb hd
     cases pa : (decide (0 ≤ a) && decide (a ≤ n)) <;> cases pb : (decide (0 ≤ b) && decide (b ≤ n)) <;> cases pd : (decide (0 ≤ d) && decide (d ≤ n)) <;>
     ·go_enter Try.func86, Try.ntmps86
      go_wp2_with (first | (go_at_call 97; with_reducible refine (place97 a n _ _ _ pa (by simp)).mono ?_; rintro e w' ⟨rfl, ⟨nda, rfl⟩⟩) | (go_at_call 97; with_reducible refine (place97 b n _ _ _ pb (by simp)).mono ?_; rintro e w' ⟨rfl, ⟨ndb, rfl⟩⟩) | (go_at_call 97; with_reducible refine (place97 d n _ _ _ pd (by simp)).mono ?_; rintro e w' ⟨rfl, ⟨ndd, rfl⟩⟩))
      go_ret
      exact ⟨by first | rfl | simp [*], by repeat (first | (with_reducible first | exact Below.refl _ _ | apply below_alloc | apply pw_below_drewN | apply below_drew1) | exact Below.refl _ _)⟩
    ·have e1 : (c == 1) = false := beq_eq_false_iff_ne.mpr c1
     have e10 : (c == 10) = false := beq_eq_false_iff_ne.mpr c10
     have e13 : (c == 13) = false := beq_eq_false_iff_ne.mpr c13
     have e14 : (c == 14) = false := beq_eq_false_iff_ne.mpr c14
     rw [isOpB, if_neg c1, if_neg c10, if_neg c13, if_neg c14] at hr
     subst hr
     clear hb hd
     cases h3 : decide (1 ≤ c) <;> cases h4 : decide (c ≤ 15) <;>
     ·go_enter Try.func86, Try.ntmps86
      go_wp2
      all_goals go_ret
      all_goals exact ⟨by first | rfl | simp [*], by repeat (first | (with_reducible first | exact Below.refl _ _ | apply below_alloc | apply pw_below_drewN | apply below_drew1) | exact Below.refl _ _)⟩

/-! ### impl_IsCode_1: function 85 -/
set_option maxHeartbeats 2000000 in
theorem closure85 (k : Nat) (c a b d : Int) (n cap : Nat) (A : Option Addr) (blk : Nat) (r : Bool) (w : World) (hB : blk < w.heap.size) (hc : w.cell? ⟨blk, 0, none⟩ = some (.slice A n cap)) (h : impl_isOp.f k c a b d n = some r) :
  Calls Try.prog 85 #[.agg #[.int .i64 c, .int .i64 a, .int .i64 b, .int .i64 d], .pointer (some ⟨blk, 0, none⟩)] w fun e w' => e = .returned (.bool (!r)) ∧ Below w.heap.size w w' := by
 have hne : blk ≠ w.heap.size := by omega
 go_enter Try.func85, Try.ntmps85
 go_wp2_with (go_at_call 86; refine (impl_isOp.calls k c a b d n r _ h).mono ?_; rintro e w' ⟨rfl, hb'⟩)
 go_ret
 exact ⟨by first | rfl | simp, ((Below.refl _ w).alloc (Nat.le_refl _) _).trans (hb'.mono (by simp))⟩

end Go.Proofs.Ytlmiankjbffboaa.HFnExactRunMachine

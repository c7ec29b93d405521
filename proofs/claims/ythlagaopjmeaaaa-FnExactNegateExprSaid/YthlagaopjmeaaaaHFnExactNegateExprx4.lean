/- Text for FnExactNegateExpr: written by a program of this session on the pattern of the kit's print. -/
import Derived.Test.YthlagaopjmeaaaaHFnExactNegateExprx0
import Derived.Test.YthlagaopjmeaaaaHFnExactNegateExprx3
namespace Go.Proofs.Ythlagaopjmeaaaa.HFnExactNegateExpr
open Go.RowKit Go.Proofs.YthlagaopjmeaaaaW.PrintWords Go.Proofs.YthlagaopjmeaaaaW.PrintLast Go.Proofs.YthlagaopjmeaaaaW.PrintMore
attribute [local go_sem] max2_int min2_int max_two min_two max_three min_three max_four min_four
set_option linter.unusedVariables false
set_option linter.unusedSimpArgs false

/-! ### spec_l10Negate: function 19 -/
mutual
def spec_l10Negate.j0 : Nat → Int → Bool → Int → Int → List (S28) → Option (Int × Int × (List (S28)))
 | 0, _, _, _, _, _ => none
 | k + 1, x4, x23, x138000, x138001, x138002 => if x23 = true then (if 0 < (x138002.length : Int) then ((spec_l10Negate.f k ((rd_T28 x138002 0).f0) ((rd_T28 x138002 0).f1) ((rd_T28 x138002 0).f2)).bind fun bt158 => (if 1 < (x138002.length : Int) then ((spec_l10Negate.f k ((rd_T28 x138002 1).f0) ((rd_T28 x138002 1).f1) ((rd_T28 x138002 1).f2)).bind fun bt164 => (some (x138000, 0, (([(⟨bt158.1, bt158.2.1, bt158.2.2⟩ : S28), (⟨bt164.1, bt164.2.1, bt164.2.2⟩ : S28)] : List (S28)))))) else (none))) else (none)) else (if x4 = 6 then (if 0 < (x138002.length : Int) then ((spec_l10Negate.f k ((rd_T28 x138002 0).f0) ((rd_T28 x138002 0).f1) ((rd_T28 x138002 0).f2)).bind fun bt173 => (if 1 < (x138002.length : Int) then ((spec_l10Copy.f k ((rd_T28 x138002 1).f0) ((rd_T28 x138002 1).f1) ((rd_T28 x138002 1).f2)).bind fun bt179 => (some (x138000, 0, (([(⟨bt173.1, bt173.2.1, bt173.2.2⟩ : S28), (⟨bt179.1, bt179.2.1, bt179.2.2⟩ : S28)] : List (S28)))))) else (none))) else (none)) else ((spec_l10Copy.f k x138000 x138001 x138002).bind fun bt187 => (some (3, 0, (([(⟨bt187.1, bt187.2.1, bt187.2.2⟩ : S28)] : List (S28)))))))
def spec_l10Negate.f : Nat → Int → Int → List (S28) → Option (Int × Int × (List (S28)))
 | 0, _, _, _ => none
 | k + 1, a0_0, a0_1, l0_2 => if a0_0 = 2 then (if 0 < (l0_2.length : Int) then ((spec_l10Negate.f k ((rd_T28 l0_2 0).f0) ((rd_T28 l0_2 0).f1) ((rd_T28 l0_2 0).f2)).bind fun bt140 => (some (2, 0, (([(⟨bt140.1, bt140.2.1, bt140.2.2⟩ : S28)] : List (S28)))))) else (none)) else (if a0_0 = 3 then (if 0 < (l0_2.length : Int) then ((spec_l10Copy.f k ((rd_T28 l0_2 0).f0) ((rd_T28 l0_2 0).f1) ((rd_T28 l0_2 0).f2)).bind fun bt149 => (some (2, 0, (([(⟨bt149.1, bt149.2.1, bt149.2.2⟩ : S28)] : List (S28)))))) else (none)) else (if a0_0 = 4 then (spec_l10Negate.j0 k a0_0 (a0_0 == 4) a0_0 a0_1 l0_2) else (spec_l10Negate.j0 k a0_0 (a0_0 == 5) a0_0 a0_1 l0_2)))
end
theorem spec_l10Negate.mono_l : ∀ k, (∀ y0 y1 y2, LeO (spec_l10Negate.f k y0 y1 y2) (spec_l10Negate.f (k + 1) y0 y1 y2)) ∧ (∀ y0 y1 y2 y3 y4, LeO (spec_l10Negate.j0 k y0 y1 y2 y3 y4) (spec_l10Negate.j0 (k + 1) y0 y1 y2 y3 y4))
 | 0 => ⟨fun _ _ _ r h => by simp [spec_l10Negate.f] at h, fun _ _ _ _ _ r h => by simp [spec_l10Negate.j0] at h⟩
 | k + 1 => by
  obtain ⟨ih0, ih1⟩ := spec_l10Negate.mono_l k
  refine ⟨?_, ?_⟩
  ·intro y0 y1 y2
   unfold spec_l10Negate.f
   repeat' first
   | (with_reducible exact ih0 _ _ _)
   | (with_reducible exact ih1 _ _ _ _ _)
   | (with_reducible exact spec_l10Copy.mono _ _ _ _)
   | (with_reducible exact LeO.refl _)
   | (with_reducible exact LeO.none _)
   | (with_reducible refine LeO.ite ?_ ?_)
   | (with_reducible refine LeO.bind ?_ (fun _ => ?_))
   | exact ih0 _ _ _
   | exact ih1 _ _ _ _ _
   | exact spec_l10Copy.mono _ _ _ _
   | exact LeO.none _
   | refine LeO.ite ?_ ?_
   | refine LeO.bind ?_ (fun _ => ?_)
  ·intro y0 y1 y2 y3 y4
   unfold spec_l10Negate.j0
   repeat' first
   | (with_reducible exact ih0 _ _ _)
   | (with_reducible exact ih1 _ _ _ _ _)
   | (with_reducible exact spec_l10Copy.mono _ _ _ _)
   | (with_reducible exact LeO.refl _)
   | (with_reducible exact LeO.none _)
   | (with_reducible refine LeO.ite ?_ ?_)
   | (with_reducible refine LeO.bind ?_ (fun _ => ?_))
   | exact ih0 _ _ _
   | exact ih1 _ _ _ _ _
   | exact spec_l10Copy.mono _ _ _ _
   | exact LeO.none _
   | refine LeO.ite ?_ ?_
   | refine LeO.bind ?_ (fun _ => ?_)
theorem spec_l10Negate.mono : ∀ a0 a1 a2 k, LeO (spec_l10Negate.f k a0 a1 a2) (spec_l10Negate.f (k + 1) a0 a1 a2) := by
 intro a0 a1 a2 k
 obtain ⟨ih0, ih1⟩ := spec_l10Negate.mono_l k
 exact ih0 a0 a1 a2
def spec_l10Negate.T8 : Bool × List (List Nat × List Nat) := (true, [([], []), ([0], [0]), ([], []), ([2], [2]), ([3], [3]), ([4], [4]), ([5], [5]), ([], []), ([7], [7]), ([8], [8]), ([9], [9]), ([10, 6], [10]), ([6, 11], [6, 11]), ([1, 12], [1, 12]), ([13, 11, 0, 1, 2, 3, 4, 5, 6, 7, 8, 9, 10, 11, 12, 13], [13])])
def spec_l10Negate.B8 : List Nat := [0, 1, 0, 4, 12, 28, 60, 0, 128, 384, 896, 2044, 4092, 8191, 16383]
theorem spec_l10Negate.tab8 : rtab .any (opsOf Try.f19 8) = spec_l10Negate.T8 := by kernel_rfl
theorem spec_l10Negate.bits8 : waitsOk spec_l10Negate.T8.2 spec_l10Negate.B8 = true := by kernel_rfl
def spec_l10Negate.T10 : Bool × List (List Nat × List Nat) := (true, [([], []), ([0], [0]), ([], []), ([2], [2]), ([3], [3]), ([4], [4]), ([5], [5]), ([], []), ([7], [7]), ([8], [8]), ([9], [9]), ([10, 6], [10]), ([6, 11], [6, 11]), ([1, 12], [1, 12]), ([13, 11, 0, 1, 2, 3, 4, 5, 6, 7, 8, 9, 10, 11, 12, 13], [13])])
def spec_l10Negate.B10 : List Nat := [0, 1, 0, 4, 12, 28, 60, 0, 128, 384, 896, 2044, 4092, 8191, 16383]
theorem spec_l10Negate.tab10 : rtab .any (opsOf Try.f19 10) = spec_l10Negate.T10 := by kernel_rfl
theorem spec_l10Negate.bits10 : waitsOk spec_l10Negate.T10.2 spec_l10Negate.B10 = true := by kernel_rfl
set_option maxHeartbeats 8000000 in
set_option maxRecDepth 100000 in
theorem spec_l10Negate.calls (k : Nat) : ∀ (a0_0 : Int) (a0_1 : Int) (A0_2 : Option Addr) (c0_2 : Nat) (l0_2 : List (S28)) (r1 : Int) (r2 : Int) (r3 : List (S28)) (w : World) (hr0_2 : Kd.C k28 w A0_2 l0_2.length l0_2) (hc0_2 : l0_2.length ≤ c0_2) (h : spec_l10Negate.f k a0_0 a0_1 l0_2 = some (r1, r2, r3)),
  Calls Try.prog 19 #[.agg #[.int .i64 a0_0, .int .i64 a0_1, .slice A0_2 l0_2.length c0_2]] w fun e w' => ∃ v2_ : Value, e = .returned (.agg #[.int .i64 r1, .int .i64 r2, v2_]) ∧ Kd.N k28 28 w' w.heap.size (fun k_ => (w.heap.size ≤ k_)) v2_ r3 ∧ Below w.heap.size w w' := by
 induction k using Nat.strongRecOn with
 | _ k ih =>
 intro a0_0 a0_1 A0_2 c0_2 l0_2 r1 r2 r3 w hr0_2 hc0_2 h
 cases k with
 | zero => exact absurd h (by simp [spec_l10Negate.f])
 | succ k =>
 simp only [spec_l10Negate.f] at h
 have hu28 := Try.underlying28
 have HR0_2 := Ak hr0_2
 have HC0_2 := Ak hc0_2
 clear hr0_2 hc0_2
 have HB := Ak (Below.refl w.heap.size w)
 have H : (if a0_0 = 2 then (if 0 < (l0_2.length : Int) then ((spec_l10Negate.f k ((rd_T28 l0_2 0).f0) ((rd_T28 l0_2 0).f1) ((rd_T28 l0_2 0).f2)).bind fun bt140 => (some (2, 0, (([(⟨bt140.1, bt140.2.1, bt140.2.2⟩ : S28)] : List (S28)))))) else (none)) else (if a0_0 = 3 then (if 0 < (l0_2.length : Int) then ((spec_l10Copy.f k ((rd_T28 l0_2 0).f0) ((rd_T28 l0_2 0).f1) ((rd_T28 l0_2 0).f2)).bind fun bt149 => (some (2, 0, (([(⟨bt149.1, bt149.2.1, bt149.2.2⟩ : S28)] : List (S28)))))) else (none)) else (if a0_0 = 4 then (spec_l10Negate.j0 k a0_0 (a0_0 == 4) a0_0 a0_1 l0_2) else (spec_l10Negate.j0 k a0_0 (a0_0 == 5) a0_0 a0_1 l0_2)))) = some (r1, r2, r3) := h
 clear h
 by_cases c2 : a0_0 = 2
 ·rw [if_pos c2] at H
  have c2b0 : (a0_0 == 2) = true := beq_iff_eq.mpr c2
  have c2b1 : (a0_0 != 2) = false := bne_eq_false_iff_eq.mpr c2
  clear c2
  by_cases c3 : 0 < (l0_2.length : Int)
  ·rw [if_pos c3] at H
   have c3b0 : decide (0 < (l0_2.length : Int)) = true := decide_eq_true c3
   have c3b1 : decide (0 < l0_2.length) = true := decide_eq_true (by omega)
   clear c3
   replace H := Option.bind_eq_some_iff.mp H
   obtain ⟨⟨t140, t141, t142⟩, A40, H⟩ := H
   replace H : (some (2, 0, (([(⟨t140, t141, t142⟩ : S28)] : List (S28))))) = some (r1, r2, r3) := H
   have A4 := Ak A40
   clear A40
   obtain ⟨y145, hy145⟩ : ∃ y_ : List (S28), y_ = (([(⟨t140, t141, t142⟩ : S28)] : List (S28))) := ⟨_, rfl⟩
   replace H : (some (2, 0, y145)) = some (r1, r2, r3) := by first | (rw [hy145]; with_reducible exact H) | (have H2_ := (Option.bind_some _ _).symm.trans H; rw [hy145]; with_reducible exact H2_) | (have H2_ := (Option.bind_some _ _).symm.trans H; with_reducible exact H2_) | with_reducible exact H | (rw [hy145]; exact H) | exact H
   have Ny145 := Ak hy145
   clear hy145
   simp only [Option.some.injEq, Prod.mk.injEq] at H
   obtain ⟨rfl, rfl, rfl⟩ := H
   go_enter Try.func19, Try.ntmps19
   go_wp2_with (first | ((with_reducible refine gate_dst (N := 1) rfl ?_); refine Qk 1 #[.int .i64 a0_0, .int .i64 a0_1, .slice A0_2 l0_2.length c0_2] 28 ?_; intro gb137 hg w5 hbox hb; have n0_ := Ak (below_step (Qb HB.out) hb); have n1_ := Ak (hbox); have n2_ := Ak ((Qp hg HB.out : w.heap.size ≤ gb137)); have n3_ := Ak ((Qp hg HB.out : w.heap.size ≤ gb137)); clear HB; have HB := n0_; have BK137 := n1_; have GW137 := n2_; have GE137 := n3_; clear n0_ n1_ n2_ n3_; clear hb hbox hg) | ((with_reducible refine gate_dst (N := 2) rfl ?_); refine Qk 2 #[.int .i64 0, .int .i64 0, .slice none 0 0] 28 ?_; intro gb138 hg w6 hbox hb; have n0_ := Ak (Qm BK137.out hb); have n1_ := Ak (below_step (Qb HB.out) hb); have n2_ := Ak (hbox); have n3_ := Ak ((Qp hg HB.out : w.heap.size ≤ gb138)); have n4_ := Ak ((Qp hg HB.out : w.heap.size ≤ gb138)); have n5_ := Ak ((by rw [hg]; exact Nat.ne_of_lt (Qn BK137.out) : gb137 ≠ gb138)); have n6_ := Ak ((by rw [hg]; exact Nat.ne_of_gt (Qn BK137.out) : gb138 ≠ gb137)); clear BK137 HB; have BK137 := n0_; have HB := n1_; have BK138 := n2_; have GW138 := n3_; have GE138 := n4_; have NB137_138 := n5_; have NB138_137 := n6_; clear n0_ n1_ n2_ n3_ n4_ n5_ n6_; clear hb hbox hg; have hnb7 := NB137_138.out; have hnc7 := NB138_137.out; obtain ⟨hcz8_0, hcz8_1, hcz8_2, hfz8_0, hfz8_1, hfz8_2⟩ := Qv3 BK137.out; have p139 : 0 ≤ (0 : Int) := (by omega); have q139 : 0 < (l0_2.length : Int) := Qg; obtain ⟨ad139, A139_2, c139_2, e139, hx139_0, hx139_1, hx139_2, hl139_2, hi139_2⟩ := at_T28 HR0_2.out 0 p139 q139; cases e139; have qi139 : (0 < l0_2.length) = True := eq_true (by omega); (try rw [show ((0 : Int)).toNat = 0 from rfl] at hx139_0); (try rw [show 0 * 3 = 0 from rfl] at hx139_0); (try rw [Addr.add_zero'] at hx139_0); (try rw [show ((0 : Int)).toNat = 0 from rfl] at hx139_1); (try rw [show 0 * 3 = 0 from rfl] at hx139_1); (try rw [Addr.add_zero'] at hx139_1); (try rw [show ((0 : Int)).toNat = 0 from rfl] at hx139_2); (try rw [show 0 * 3 = 0 from rfl] at hx139_2); (try rw [Addr.add_zero'] at hx139_2); replace hx139_0 := (HB.out.cell (World.block_lt_of_cell? w _ hx139_0)).trans hx139_0; replace hx139_1 := (HB.out.cell (World.block_lt_of_cell? w _ hx139_1)).trans hx139_1; replace hx139_2 := (HB.out.cell (World.block_lt_of_cell? w _ hx139_2)).trans hx139_2; have HR139_2 := Ak hi139_2; have HC139_2 := Ak hl139_2; clear hi139_2 hl139_2; replace p139 := eq_true p139; replace q139 := eq_true q139) | ((with_reducible refine gate_callee (f := 19) rfl ?_); refine Qj (some 11) Try.func19 #[.agg #[.int .i64 ((rd_T28 l0_2 0).f0), .int .i64 ((rd_T28 l0_2 0).f1), .slice A139_2 ((rd_T28 l0_2 0).f2).length c139_2]] ?_; (with_reducible refine (ih k (by omega) ((rd_T28 l0_2 0).f0) ((rd_T28 l0_2 0).f1) _ _ ((rd_T28 l0_2 0).f2) t140 t141 t142 _ ?side1 ?side2 A4.out).mono ?_); (case side1 => repeat (first | exact (Kd.C_below HR139_2.out HB.out) | (with_reducible refine Kd.C_alloc ?_ _) | (with_reducible refine Kd.C_drewN ?_ _) | (with_reducible refine Kd.C_drew ?_))); (case side2 => exact HC139_2.out); rintro e w9 ⟨v143, rfl, ho0, hb⟩; refine ⟨_, rfl, ?_⟩; have n0_ := Ak (Kd.N_lower (Kd.N_mono (ok' := fun k_ => (w.heap.size ≤ k_) ∧ k_ ≠ gb137 ∧ k_ ≠ gb138) ho0 (fun k_ hk_ => ⟨(Nat.le_trans (below_size (Qb HB.out)) hk_), (Kd.freshB (g := gb137) (o := .cells #[.int .i64 a0_0, .int .i64 a0_1, .slice (some ad139) l0_2.length c0_2] 28 (0, 0)) (Qa BK137.out) k_ hk_), (Kd.freshB (g := gb138) (o := .cells #[.int .i64 0, .int .i64 0, .slice none 0 0] 28 (0, 0)) (Qa BK138.out) k_ hk_)⟩)) (below_size (Qb HB.out))); have n1_ := Ak (Qm BK137.out hb); have n2_ := Ak (Qm BK138.out hb); have n3_ := Ak (below_step (Qb HB.out) hb); clear BK137 BK138 HB; have HO144 := n0_; have BK137 := n1_; have BK138 := n2_; have HB := n3_; clear n0_ n1_ n2_ n3_; (try clear hb); (try clear hb2); (try clear hk); (try clear hi); (try clear ho0); obtain ⟨Ao10, co10, eo10⟩ := Kd.N_slice HO144.out; subst eo10) | ((with_reducible refine gate_dst (N := 12) rfl ?_); refine Kd.N_lit k28 _ 28 ?hg (N' := 12) ?hd (xs := ([(⟨t140, t141, t142⟩ : S28)] : List (S28))) (inner := [.int .i64 t140, .int .i64 t141, .slice Ao10 t142.length co10]) (ok := (fun k_ => (w.heap.size ≤ k_) ∧ k_ ≠ gb137 ∧ k_ ≠ gb138)) (okp := (fun k_ => (w.heap.size ≤ k_) ∧ k_ ≠ gb137 ∧ k_ ≠ gb138)) ?hr ?hp (fun _ hk => hk) ((show ∀ k_, w9.heap.size ≤ k_ → (fun k_ => (w.heap.size ≤ k_) ∧ k_ ≠ gb137 ∧ k_ ≠ gb138) k_ from fun k_ hk => ⟨(Nat.le_trans (below_size (Qb HB.out)) hk), Kd.freshB (g := gb137) (o := .cells #[.int .i64 a0_0, .int .i64 a0_1, .slice (some ad139) l0_2.length c0_2] 28 (0, 0)) (Qa BK137.out) k_ hk, Kd.freshB (g := gb138) (o := .cells #[.int .i64 0, .int .i64 0, .slice none 0 0] 28 (0, 0)) (Qa BK138.out) k_ hk⟩) _ (Nat.le_refl _)) (Below.refl _ _) (Nat.le_refl _) (by simp) ?_; (case hd => rfl); (case hg => rfl); (case hr => first | (go_simp; done) | (go_simp; rfl)); (case hp => exact (Reps.c3 (show Kd.FK k28 _ _ (⟨t140, t141, t142⟩ : S28) [.int .i64 t140, .int .i64 t141, .slice Ao10 t142.length co10] from (k28_mkF _ _ (⟨t140, t141, t142⟩ : S28) (Kd.N_reads' (Kd.N_mono (ok' := (fun k_ => (w.heap.size ≤ k_) ∧ k_ ≠ gb137 ∧ k_ ≠ gb138)) (HO144.out) (fun k_ hk => ⟨hk.1, ⟨hk.2.1, hk.2.2⟩⟩))).2.1 (Kd.N_F (Kd.N_mono (ok' := (fun k_ => (w.heap.size ≤ k_) ∧ k_ ≠ gb137 ∧ k_ ≠ gb138)) (HO144.out) (fun k_ hk => ⟨hk.1, ⟨hk.2.1, hk.2.2⟩⟩))))) (Reps.none _ _))); intro v146 w11 ho12 hb hg_ hnew_; clear hg_ hnew_; (first | rw [← Ny145.out] at ho12 | (simp only [Int.reduceToNat] at ho12; rw [← Ny145.out] at ho12)); have n0_ := Ak (Kd.N_lower ho12 (below_size (Qb HB.out))); have n1_ := Ak (Qm BK137.out hb); have n2_ := Ak (Qm BK138.out hb); have n3_ := Ak (below_step (Qb HB.out) hb); clear BK137 BK138 HB HO144; have HO147 := n0_; have BK137 := n1_; have BK138 := n2_; have HB := n3_; clear n0_ n1_ n2_ n3_; clear hb ho12; obtain ⟨Ao13, co13, eo13⟩ := Kd.N_slice HO147.out; subst eo13; obtain ⟨hcz14_0, hcz14_1, hcz14_2⟩ := Qu3 BK138.out; have hfz14_0 := blk_frozen BK138.out 0; have hfz14_1 := blk_frozen BK138.out 1; have hfz14_2 := blk_frozen BK138.out 2))
   refine bodyPost_ret (results_cell_row rfl _ _ gb138 28 #[.int .i64 2, .int .i64 0, .slice Ao13 y145.length co13] (0, 0) _ rfl (by refine Qe ?_; refine blk_put (cs := #[.int .i64 2, .int .i64 0, .slice none 0 0]) ?_ 2 _ rfl; refine Qe ?_; refine blk_put (cs := #[.int .i64 2, .int .i64 0, .slice none 0 0]) ?_ 1 _ rfl; refine Qe ?_; refine blk_put (cs := #[.int .i64 0, .int .i64 0, .slice none 0 0]) ?_ 0 _ rfl; exact Qa BK138.out) Try.underlying28 rfl (by kernel_rfl)) rfl ?_
   exact ⟨_, Qh, by (with_reducible repeat (first | apply Kd.N_alloc | apply Kd.N_drewN | apply Kd.N_drew)); exact Kd.N_mono (Kd.N_far (p := ⟨gb138, 2, none⟩) (Kd.N_far (p := ⟨gb138, 1, none⟩) (Kd.N_far (p := ⟨gb138, 0, none⟩) (Kd.N_mono HO147.out (fun k_ hk => (⟨hk, hk.2.2⟩ : _ ∧ k_ ≠ gb138))) (fun _ hk => hk.2) (.int .i64 2)) (fun _ hk => hk.2) (.int .i64 0)) (fun _ hk => hk.2) (.slice Ao13 y145.length co13)) (fun _ hk => hk.1.1), Qb HB.out⟩
  ·rw [if_neg c3] at H
   exact absurd H (by simp)
 ·rw [if_neg c2] at H
  have c2b0 : (a0_0 == 2) = false := beq_eq_false_iff_ne.mpr c2
  have c2b1 : (a0_0 != 2) = true := bne_iff_ne.mpr c2
  by_cases c15 : a0_0 = 3
  ·rw [if_pos c15] at H
   have c15b0 : (a0_0 == 3) = true := beq_iff_eq.mpr c15
   have c15b1 : (a0_0 != 3) = false := bne_eq_false_iff_eq.mpr c15
   clear c15
   by_cases c16 : 0 < (l0_2.length : Int)
   ·rw [if_pos c16] at H
    have c16b0 : decide (0 < (l0_2.length : Int)) = true := decide_eq_true c16
    have c16b1 : decide (0 < l0_2.length) = true := decide_eq_true (by omega)
    clear c16
    replace H := Option.bind_eq_some_iff.mp H
    obtain ⟨⟨t149, t150, t151⟩, A170, H⟩ := H
    replace H : (some (2, 0, (([(⟨t149, t150, t151⟩ : S28)] : List (S28))))) = some (r1, r2, r3) := H
    have A17 := Ak A170
    clear A170
    obtain ⟨y154, hy154⟩ : ∃ y_ : List (S28), y_ = (([(⟨t149, t150, t151⟩ : S28)] : List (S28))) := ⟨_, rfl⟩
    replace H : (some (2, 0, y154)) = some (r1, r2, r3) := by first | (rw [hy154]; with_reducible exact H) | (have H2_ := (Option.bind_some _ _).symm.trans H; rw [hy154]; with_reducible exact H2_) | (have H2_ := (Option.bind_some _ _).symm.trans H; with_reducible exact H2_) | with_reducible exact H | (rw [hy154]; exact H) | exact H
    have Ny154 := Ak hy154
    clear hy154
    simp only [Option.some.injEq, Prod.mk.injEq] at H
    obtain ⟨rfl, rfl, rfl⟩ := H
    go_enter Try.func19, Try.ntmps19
    go_wp2_with (first | ((with_reducible refine gate_dst (N := 1) rfl ?_); refine Qk 1 #[.int .i64 a0_0, .int .i64 a0_1, .slice A0_2 l0_2.length c0_2] 28 ?_; intro gb137 hg w18 hbox hb; have n0_ := Ak (below_step (Qb HB.out) hb); have n1_ := Ak (hbox); have n2_ := Ak ((Qp hg HB.out : w.heap.size ≤ gb137)); have n3_ := Ak ((Qp hg HB.out : w.heap.size ≤ gb137)); clear HB; have HB := n0_; have BK137 := n1_; have GW137 := n2_; have GE137 := n3_; clear n0_ n1_ n2_ n3_; clear hb hbox hg) | ((with_reducible refine gate_dst (N := 2) rfl ?_); refine Qk 2 #[.int .i64 0, .int .i64 0, .slice none 0 0] 28 ?_; intro gb138 hg w19 hbox hb; have n0_ := Ak (Qm BK137.out hb); have n1_ := Ak (below_step (Qb HB.out) hb); have n2_ := Ak (hbox); have n3_ := Ak ((Qp hg HB.out : w.heap.size ≤ gb138)); have n4_ := Ak ((Qp hg HB.out : w.heap.size ≤ gb138)); have n5_ := Ak ((by rw [hg]; exact Nat.ne_of_lt (Qn BK137.out) : gb137 ≠ gb138)); have n6_ := Ak ((by rw [hg]; exact Nat.ne_of_gt (Qn BK137.out) : gb138 ≠ gb137)); clear BK137 HB; have BK137 := n0_; have HB := n1_; have BK138 := n2_; have GW138 := n3_; have GE138 := n4_; have NB137_138 := n5_; have NB138_137 := n6_; clear n0_ n1_ n2_ n3_ n4_ n5_ n6_; clear hb hbox hg; have hnb20 := NB137_138.out; have hnc20 := NB138_137.out; obtain ⟨hcz21_0, hcz21_1, hcz21_2, hfz21_0, hfz21_1, hfz21_2⟩ := Qv3 BK137.out; have p148 : 0 ≤ (0 : Int) := (by omega); have q148 : 0 < (l0_2.length : Int) := Qg; obtain ⟨ad148, A148_2, c148_2, e148, hx148_0, hx148_1, hx148_2, hl148_2, hi148_2⟩ := at_T28 HR0_2.out 0 p148 q148; cases e148; have qi148 : (0 < l0_2.length) = True := eq_true (by omega); (try rw [show ((0 : Int)).toNat = 0 from rfl] at hx148_0); (try rw [show 0 * 3 = 0 from rfl] at hx148_0); (try rw [Addr.add_zero'] at hx148_0); (try rw [show ((0 : Int)).toNat = 0 from rfl] at hx148_1); (try rw [show 0 * 3 = 0 from rfl] at hx148_1); (try rw [Addr.add_zero'] at hx148_1); (try rw [show ((0 : Int)).toNat = 0 from rfl] at hx148_2); (try rw [show 0 * 3 = 0 from rfl] at hx148_2); (try rw [Addr.add_zero'] at hx148_2); replace hx148_0 := (HB.out.cell (World.block_lt_of_cell? w _ hx148_0)).trans hx148_0; replace hx148_1 := (HB.out.cell (World.block_lt_of_cell? w _ hx148_1)).trans hx148_1; replace hx148_2 := (HB.out.cell (World.block_lt_of_cell? w _ hx148_2)).trans hx148_2; have HR148_2 := Ak hi148_2; have HC148_2 := Ak hl148_2; clear hi148_2 hl148_2; replace p148 := eq_true p148; replace q148 := eq_true q148) | ((with_reducible refine gate_callee (f := 34) rfl ?_); refine Qj (some 20) Try.func34 #[.agg #[.int .i64 ((rd_T28 l0_2 0).f0), .int .i64 ((rd_T28 l0_2 0).f1), .slice A148_2 ((rd_T28 l0_2 0).f2).length c148_2]] ?_; (with_reducible refine (spec_l10Copy.calls k ((rd_T28 l0_2 0).f0) ((rd_T28 l0_2 0).f1) _ _ ((rd_T28 l0_2 0).f2) t149 t150 t151 _ ?side1 ?side2 A17.out).mono ?_); (case side1 => repeat (first | exact (Kd.C_below HR148_2.out HB.out) | (with_reducible refine Kd.C_alloc ?_ _) | (with_reducible refine Kd.C_drewN ?_ _) | (with_reducible refine Kd.C_drew ?_))); (case side2 => exact HC148_2.out); rintro e w22 ⟨v152, rfl, ho0, hb⟩; refine ⟨_, rfl, ?_⟩; have n0_ := Ak (Kd.N_lower (Kd.N_mono (ok' := fun k_ => (w.heap.size ≤ k_) ∧ k_ ≠ gb137 ∧ k_ ≠ gb138) (Kd.R_N (Kd.R_bound ho0)) (fun k_ hk_ => ⟨(Nat.le_trans (below_size (Qb HB.out)) hk_.2.1), (Kd.freshB (g := gb137) (o := .cells #[.int .i64 a0_0, .int .i64 a0_1, .slice (some ad148) l0_2.length c0_2] 28 (0, 0)) (Qa BK137.out) k_ hk_.2.1), (Kd.freshB (g := gb138) (o := .cells #[.int .i64 0, .int .i64 0, .slice none 0 0] 28 (0, 0)) (Qa BK138.out) k_ hk_.2.1)⟩)) (below_size (Qb HB.out))); have n1_ := Ak (Qm BK137.out hb); have n2_ := Ak (Qm BK138.out hb); have n3_ := Ak (below_step (Qb HB.out) hb); clear BK137 BK138 HB; have HO153 := n0_; have BK137 := n1_; have BK138 := n2_; have HB := n3_; clear n0_ n1_ n2_ n3_; (try clear hb); (try clear hb2); (try clear hk); (try clear hi); (try clear ho0); obtain ⟨Ao23, co23, eo23⟩ := Kd.N_slice HO153.out; subst eo23) | ((with_reducible refine gate_dst (N := 21) rfl ?_); refine Kd.N_lit k28 _ 28 ?hg (N' := 21) ?hd (xs := ([(⟨t149, t150, t151⟩ : S28)] : List (S28))) (inner := [.int .i64 t149, .int .i64 t150, .slice Ao23 t151.length co23]) (ok := (fun k_ => (w.heap.size ≤ k_) ∧ k_ ≠ gb137 ∧ k_ ≠ gb138)) (okp := (fun k_ => (w.heap.size ≤ k_) ∧ k_ ≠ gb137 ∧ k_ ≠ gb138)) ?hr ?hp (fun _ hk => hk) ((show ∀ k_, w22.heap.size ≤ k_ → (fun k_ => (w.heap.size ≤ k_) ∧ k_ ≠ gb137 ∧ k_ ≠ gb138) k_ from fun k_ hk => ⟨(Nat.le_trans (below_size (Qb HB.out)) hk), Kd.freshB (g := gb137) (o := .cells #[.int .i64 a0_0, .int .i64 a0_1, .slice (some ad148) l0_2.length c0_2] 28 (0, 0)) (Qa BK137.out) k_ hk, Kd.freshB (g := gb138) (o := .cells #[.int .i64 0, .int .i64 0, .slice none 0 0] 28 (0, 0)) (Qa BK138.out) k_ hk⟩) _ (Nat.le_refl _)) (Below.refl _ _) (Nat.le_refl _) (by simp) ?_; (case hd => rfl); (case hg => rfl); (case hr => first | (go_simp; done) | (go_simp; rfl)); (case hp => exact (Reps.c3 (show Kd.FK k28 _ _ (⟨t149, t150, t151⟩ : S28) [.int .i64 t149, .int .i64 t150, .slice Ao23 t151.length co23] from (k28_mkF _ _ (⟨t149, t150, t151⟩ : S28) (Kd.N_reads' (Kd.N_mono (ok' := (fun k_ => (w.heap.size ≤ k_) ∧ k_ ≠ gb137 ∧ k_ ≠ gb138)) (HO153.out) (fun k_ hk => ⟨hk.1, ⟨hk.2.1, hk.2.2⟩⟩))).2.1 (Kd.N_F (Kd.N_mono (ok' := (fun k_ => (w.heap.size ≤ k_) ∧ k_ ≠ gb137 ∧ k_ ≠ gb138)) (HO153.out) (fun k_ hk => ⟨hk.1, ⟨hk.2.1, hk.2.2⟩⟩))))) (Reps.none _ _))); intro v155 w24 ho25 hb hg_ hnew_; clear hg_ hnew_; (first | rw [← Ny154.out] at ho25 | (simp only [Int.reduceToNat] at ho25; rw [← Ny154.out] at ho25)); have n0_ := Ak (Kd.N_lower ho25 (below_size (Qb HB.out))); have n1_ := Ak (Qm BK137.out hb); have n2_ := Ak (Qm BK138.out hb); have n3_ := Ak (below_step (Qb HB.out) hb); clear BK137 BK138 HB HO153; have HO156 := n0_; have BK137 := n1_; have BK138 := n2_; have HB := n3_; clear n0_ n1_ n2_ n3_; clear hb ho25; obtain ⟨Ao26, co26, eo26⟩ := Kd.N_slice HO156.out; subst eo26; obtain ⟨hcz27_0, hcz27_1, hcz27_2⟩ := Qu3 BK138.out; have hfz27_0 := blk_frozen BK138.out 0; have hfz27_1 := blk_frozen BK138.out 1; have hfz27_2 := blk_frozen BK138.out 2))
    refine bodyPost_ret (results_cell_row rfl _ _ gb138 28 #[.int .i64 2, .int .i64 0, .slice Ao26 y154.length co26] (0, 0) _ rfl (by refine Qe ?_; refine blk_put (cs := #[.int .i64 2, .int .i64 0, .slice none 0 0]) ?_ 2 _ rfl; refine Qe ?_; refine blk_put (cs := #[.int .i64 2, .int .i64 0, .slice none 0 0]) ?_ 1 _ rfl; refine Qe ?_; refine blk_put (cs := #[.int .i64 0, .int .i64 0, .slice none 0 0]) ?_ 0 _ rfl; exact Qa BK138.out) Try.underlying28 rfl (by kernel_rfl)) rfl ?_
    exact ⟨_, Qh, by (with_reducible repeat (first | apply Kd.N_alloc | apply Kd.N_drewN | apply Kd.N_drew)); exact Kd.N_mono (Kd.N_far (p := ⟨gb138, 2, none⟩) (Kd.N_far (p := ⟨gb138, 1, none⟩) (Kd.N_far (p := ⟨gb138, 0, none⟩) (Kd.N_mono HO156.out (fun k_ hk => (⟨hk, hk.2.2⟩ : _ ∧ k_ ≠ gb138))) (fun _ hk => hk.2) (.int .i64 2)) (fun _ hk => hk.2) (.int .i64 0)) (fun _ hk => hk.2) (.slice Ao26 y154.length co26)) (fun _ hk => hk.1.1), Qb HB.out⟩
   ·rw [if_neg c16] at H
    exact absurd H (by simp)
  ·rw [if_neg c15] at H
   have c15b0 : (a0_0 == 3) = false := beq_eq_false_iff_ne.mpr c15
   have c15b1 : (a0_0 != 3) = true := bne_iff_ne.mpr c15
   have HC28 := Ak H
   clear H
   go_enter Try.func19, Try.ntmps19
   go_upto_if 23 with (first | ((with_reducible refine gate_dst (N := 1) rfl ?_); refine Qk 1 #[.int .i64 a0_0, .int .i64 a0_1, .slice A0_2 l0_2.length c0_2] 28 ?_; intro gb137 hg w29 hbox hb; have n0_ := Ak (below_step (Qb HB.out) hb); have n1_ := Ak (hbox); have n2_ := Ak ((Qp hg HB.out : w.heap.size ≤ gb137)); have n3_ := Ak ((Qp hg HB.out : w.heap.size ≤ gb137)); clear HB; have HB := n0_; have BK137 := n1_; have GW137 := n2_; have GE137 := n3_; clear n0_ n1_ n2_ n3_; clear hb hbox hg) | ((with_reducible refine gate_dst (N := 2) rfl ?_); refine Qk 2 #[.int .i64 0, .int .i64 0, .slice none 0 0] 28 ?_; intro gb138 hg w30 hbox hb; have n0_ := Ak (Qm BK137.out hb); have n1_ := Ak (below_step (Qb HB.out) hb); have n2_ := Ak (hbox); have n3_ := Ak ((Qp hg HB.out : w.heap.size ≤ gb138)); have n4_ := Ak ((Qp hg HB.out : w.heap.size ≤ gb138)); have n5_ := Ak ((by rw [hg]; exact Nat.ne_of_lt (Qn BK137.out) : gb137 ≠ gb138)); have n6_ := Ak ((by rw [hg]; exact Nat.ne_of_gt (Qn BK137.out) : gb138 ≠ gb137)); clear BK137 HB; have BK137 := n0_; have HB := n1_; have BK138 := n2_; have GW138 := n3_; have GE138 := n4_; have NB137_138 := n5_; have NB138_137 := n6_; clear n0_ n1_ n2_ n3_ n4_ n5_ n6_; clear hb hbox hg; have hnb31 := NB137_138.out; have hnc31 := NB138_137.out; obtain ⟨hcz32_0, hcz32_1, hcz32_2⟩ := Qu3 BK137.out; have hfz32_0 := blk_frozen BK137.out 0; have hfz32_1 := blk_frozen BK137.out 1; have hfz32_2 := blk_frozen BK137.out 2))
   (try simp only [Act.put, List.setIfInBounds_toArray, List.set_cons_zero, List.set_cons_succ])
   go_cut [23] (fun v23 wc => ∃ (kq : Nat) (x23_27 : Bool), v23 = .bool x23_27 ∧ Aside0 (spec_l10Negate.j0 kq a0_0 x23_27 a0_0 a0_1 l0_2 = some (r1, r2, r3)) ∧ Aside0 (kq ≤ k) ∧ Aside0 (wc.heap[gb137]? = some (.cells #[.int .i64 a0_0, .int .i64 a0_1, (.slice A0_2 l0_2.length c0_2)] 28 (0, 0))) ∧ Aside0 (wc.heap[gb138]? = some (.cells #[.int .i64 0, .int .i64 0, (.slice none 0 0)] 28 (0, 0))) ∧ Aside0 (Below w.heap.size w wc))
   case first =>
    have H := HC28.out
    clear HC28
    by_cases c33 : a0_0 = 4
    ·rw [if_pos c33] at H
     have c33b0 : (a0_0 == 4) = true := beq_iff_eq.mpr c33
     have c33b1 : (a0_0 != 4) = false := bne_eq_false_iff_eq.mpr c33
     clear c33
     (first | rw [c33b0] | (simp only [i64_w, i32_w]; rw [c33b0]) | skip)
     have H' := Ak H
     clear H
     go_wp2
     go_meet
     case rel => exact ⟨_, ((a0_0 == 4)), Qi, H', ⟨by first | omega | exact Nat.le_refl _⟩, ⟨by refine Qe ?_; exact BK137.out⟩, ⟨by refine Qe ?_; exact BK138.out⟩, ⟨Qb HB.out⟩⟩
    ·rw [if_neg c33] at H
     have c33b0 : (a0_0 == 4) = false := beq_eq_false_iff_ne.mpr c33
     have c33b1 : (a0_0 != 4) = true := bne_iff_ne.mpr c33
     (first | rw [c33b0] | (simp only [i64_w, i32_w]; rw [c33b0]) | skip)
     have H' := Ak H
     clear H
     go_wp2
     go_meet
     case rel => exact ⟨_, ((a0_0 == 5)), Qi, H', ⟨by first | omega | exact Nat.le_refl _⟩, ⟨by refine Qe ?_; exact BK137.out⟩, ⟨by refine Qe ?_; exact BK138.out⟩, ⟨Qb HB.out⟩⟩
   case rest =>
    clear HC28
    (try clear c1); (try clear p1); (try clear q1); (try clear hx1); (try clear qi1); (try clear c2); (try clear c2b0); (try clear c2b1); (try clear p2); (try clear c3); (try clear c3b0); (try clear c3b1); (try clear c7); (try clear c13); (try clear p13); (try clear q13); (try clear hx13); (try clear qi13); (try clear c14); (try clear p14); (try clear q14); (try clear hx14); (try clear qi14); (try clear c15); (try clear c15b0); (try clear c15b1); (try clear c16); (try clear c16b0); (try clear c16b1); (try clear c19); (try clear c20); (try clear c31); (try clear c33); (try clear c33b0); (try clear c33b1); (try clear hcz14_0); (try clear hcz14_1); (try clear hcz14_2); (try clear hcz21_0); (try clear hcz21_1); (try clear hcz21_2); (try clear hcz27_0); (try clear hcz27_1); (try clear hcz27_2); (try clear hcz32_0); (try clear hcz32_1); (try clear hcz32_2); (try clear hcz8_0); (try clear hcz8_1); (try clear hcz8_2); (try clear hfz14_0); (try clear hfz14_1); (try clear hfz14_2); (try clear hfz21_0); (try clear hfz21_1); (try clear hfz21_2); (try clear hfz27_0); (try clear hfz27_1); (try clear hfz27_2); (try clear hfz32_0); (try clear hfz32_1); (try clear hfz32_2); (try clear hfz8_0); (try clear hfz8_1); (try clear hfz8_2); (try clear hx139_0); (try clear hx139_1); (try clear hx139_2); (try clear hx148_0); (try clear hx148_1); (try clear hx148_2); (try clear p139); (try clear p148); (try clear q139); (try clear q148)
    obtain ⟨kq, x23_27, rfl, HA, HJ27, BK137, BK138, HB⟩ := hcut
    cases kq with
    | zero => exact absurd HA.out (by simp [spec_l10Negate.j0])
    | succ kj27 =>
     have H := HA.out
     clear HA
     simp only [spec_l10Negate.j0] at H
     by_cases c34 : x23_27 = true
     ·(try subst c34)
      have H1 : (if 0 < (l0_2.length : Int) then ((spec_l10Negate.f kj27 ((rd_T28 l0_2 0).f0) ((rd_T28 l0_2 0).f1) ((rd_T28 l0_2 0).f2)).bind fun bt158 => (if 1 < (l0_2.length : Int) then ((spec_l10Negate.f kj27 ((rd_T28 l0_2 1).f0) ((rd_T28 l0_2 1).f1) ((rd_T28 l0_2 1).f2)).bind fun bt164 => (some (a0_0, 0, (([(⟨bt158.1, bt158.2.1, bt158.2.2⟩ : S28), (⟨bt164.1, bt164.2.1, bt164.2.2⟩ : S28)] : List (S28)))))) else (none))) else (none)) = some (r1, r2, r3) := by rw [if_pos rfl] at H; exact H
      clear H
      have H := H1
      clear H1
      by_cases c35 : 0 < (l0_2.length : Int)
      ·rw [if_pos c35] at H
       have c35b0 : decide (0 < (l0_2.length : Int)) = true := decide_eq_true c35
       have c35b1 : decide (0 < l0_2.length) = true := decide_eq_true (by omega)
       clear c35
       replace H := Option.bind_eq_some_iff.mp H
       obtain ⟨⟨t158, t159, t160⟩, A360, H⟩ := H
       replace H : (if 1 < (l0_2.length : Int) then ((spec_l10Negate.f kj27 ((rd_T28 l0_2 1).f0) ((rd_T28 l0_2 1).f1) ((rd_T28 l0_2 1).f2)).bind fun bt164 => (some (a0_0, 0, (([(⟨t158, t159, t160⟩ : S28), (⟨bt164.1, bt164.2.1, bt164.2.2⟩ : S28)] : List (S28)))))) else (none)) = some (r1, r2, r3) := H
       have A36 := Ak A360
       clear A360
       by_cases c37 : 1 < (l0_2.length : Int)
       ·rw [if_pos c37] at H
        have c37b0 : decide (1 < (l0_2.length : Int)) = true := decide_eq_true c37
        have c37b1 : decide (1 < l0_2.length) = true := decide_eq_true (by omega)
        clear c37
        replace H := Option.bind_eq_some_iff.mp H
        obtain ⟨⟨t164, t165, t166⟩, A380, H⟩ := H
        replace H : (some (a0_0, 0, (([(⟨t158, t159, t160⟩ : S28), (⟨t164, t165, t166⟩ : S28)] : List (S28))))) = some (r1, r2, r3) := H
        have A38 := Ak A380
        clear A380
        obtain ⟨y169, hy169⟩ : ∃ y_ : List (S28), y_ = (([(⟨t158, t159, t160⟩ : S28), (⟨t164, t165, t166⟩ : S28)] : List (S28))) := ⟨_, rfl⟩
        replace H : (some (a0_0, 0, y169)) = some (r1, r2, r3) := by first | (rw [hy169]; with_reducible exact H) | (have H2_ := (Option.bind_some _ _).symm.trans H; rw [hy169]; with_reducible exact H2_) | (have H2_ := (Option.bind_some _ _).symm.trans H; with_reducible exact H2_) | with_reducible exact H | (rw [hy169]; exact H) | exact H
        have Ny169 := Ak hy169
        clear hy169
        simp only [Option.some.injEq, Prod.mk.injEq] at H
        obtain ⟨rfl, rfl, rfl⟩ := H
        try go_wp2
        have n0_ := Ak (blk_drew BK137.out)
        have n1_ := Ak (blk_drew BK138.out)
        have n2_ := Ak (below_drew1 HB.out)
        clear BK137 BK138 HB
        have BK137 := n0_
        have BK138 := n1_
        have HB := n2_
        clear n0_ n1_ n2_
        have p157 : 0 ≤ (0 : Int) := (by omega)
        have q157 : 0 < (l0_2.length : Int) := Qg
        obtain ⟨ad157, A157_2, c157_2, e157, hx157_0, hx157_1, hx157_2, hl157_2, hi157_2⟩ := at_T28 HR0_2.out 0 p157 q157
        have hw157_2 := hx157_2
        (try rw [show ((0 : Int)).toNat = 0 from rfl] at hw157_2)
        (try rw [show 0 * 3 = 0 from rfl] at hw157_2)
        (try rw [Addr.add_zero'] at hw157_2)
        have hw157_1 := hx157_1
        (try rw [show ((0 : Int)).toNat = 0 from rfl] at hw157_1)
        (try rw [show 0 * 3 = 0 from rfl] at hw157_1)
        (try rw [Addr.add_zero'] at hw157_1)
        have hw157_0 := hx157_0
        (try rw [show ((0 : Int)).toNat = 0 from rfl] at hw157_0)
        (try rw [show 0 * 3 = 0 from rfl] at hw157_0)
        (try rw [Addr.add_zero'] at hw157_0)
        cases e157
        have qi157 : (0 < l0_2.length) = True := eq_true (by omega)
        (try rw [show ((0 : Int)).toNat = 0 from rfl] at hx157_0)
        (try rw [show 0 * 3 = 0 from rfl] at hx157_0)
        (try rw [Addr.add_zero'] at hx157_0)
        (try rw [show ((0 : Int)).toNat = 0 from rfl] at hx157_1)
        (try rw [show 0 * 3 = 0 from rfl] at hx157_1)
        (try rw [Addr.add_zero'] at hx157_1)
        (try rw [show ((0 : Int)).toNat = 0 from rfl] at hx157_2)
        (try rw [show 0 * 3 = 0 from rfl] at hx157_2)
        (try rw [Addr.add_zero'] at hx157_2)
        (try replace hx157_0 := (HB.out.cell (World.block_lt_of_cell? w _ hx157_0)).trans hx157_0)
        (try replace hx157_1 := (HB.out.cell (World.block_lt_of_cell? w _ hx157_1)).trans hx157_1)
        (try replace hx157_2 := (HB.out.cell (World.block_lt_of_cell? w _ hx157_2)).trans hx157_2)
        have HR157_2 := Ak hi157_2
        have HC157_2 := Ak hl157_2
        clear hi157_2 hl157_2
        replace p157 := eq_true p157
        replace q157 := eq_true q157
        have p163 : 0 ≤ (1 : Int) := (by omega)
        have q163 : 1 < (l0_2.length : Int) := Qg
        obtain ⟨ad163, A163_2, c163_2, e163, hx163_0, hx163_1, hx163_2, hl163_2, hi163_2⟩ := at_T28 HR0_2.out 1 p163 q163
        have hw163_2 := hx163_2
        (try rw [show ((1 : Int)).toNat = 1 from rfl] at hw163_2)
        (try rw [show 1 * 3 = 3 from rfl] at hw163_2)
        (try simp only [Nat.reduceMul, Nat.reduceEqDiff, Go.Addr.add, ↓reduceIte] at hw163_2)
        have hw163_1 := hx163_1
        (try rw [show ((1 : Int)).toNat = 1 from rfl] at hw163_1)
        (try rw [show 1 * 3 = 3 from rfl] at hw163_1)
        (try simp only [Nat.reduceMul, Nat.reduceEqDiff, Go.Addr.add, ↓reduceIte] at hw163_1)
        have hw163_0 := hx163_0
        (try rw [show ((1 : Int)).toNat = 1 from rfl] at hw163_0)
        (try rw [show 1 * 3 = 3 from rfl] at hw163_0)
        (try simp only [Nat.reduceMul, Nat.reduceEqDiff, Go.Addr.add, ↓reduceIte] at hw163_0)
        obtain rfl : ad157 = ad163 := (by injection e163)
        (try simp only [show (1 : Int).toNat = 1 from rfl, Nat.reduceMul, Nat.reduceEqDiff, Go.Addr.add, ↓reduceIte] at hx163_0)
        (try simp only [show (1 : Int).toNat = 1 from rfl, Nat.reduceMul, Nat.reduceEqDiff, Go.Addr.add, ↓reduceIte] at hx163_1)
        (try simp only [show (1 : Int).toNat = 1 from rfl, Nat.reduceMul, Nat.reduceEqDiff, Go.Addr.add, ↓reduceIte] at hx163_2)
        have qi163 : (1 < l0_2.length) = True := eq_true (by omega)
        (try rw [show ((1 : Int)).toNat = 1 from rfl] at hx163_0)
        (try rw [show 1 * 3 = 3 from rfl] at hx163_0)
        (try rw [show ((1 : Int)).toNat = 1 from rfl] at hx163_1)
        (try rw [show 1 * 3 = 3 from rfl] at hx163_1)
        (try rw [show ((1 : Int)).toNat = 1 from rfl] at hx163_2)
        (try rw [show 1 * 3 = 3 from rfl] at hx163_2)
        (try replace hx163_0 := (HB.out.cell (World.block_lt_of_cell? w _ hx163_0)).trans hx163_0)
        (try replace hx163_1 := (HB.out.cell (World.block_lt_of_cell? w _ hx163_1)).trans hx163_1)
        (try replace hx163_2 := (HB.out.cell (World.block_lt_of_cell? w _ hx163_2)).trans hx163_2)
        have HR163_2 := Ak hi163_2
        have HC163_2 := Ak hl163_2
        clear hi163_2 hl163_2
        replace p163 := eq_true p163
        replace q163 := eq_true q163
        refine start_ (n := 15) (S := fun w' => w'.cell? ⟨gb137, 0, none⟩ = some (.int .i64 a0_0) ∧ w'.cell? ⟨gb137, 1, none⟩ = some (.int .i64 a0_1) ∧ w'.cell? ⟨gb137, 2, none⟩ = some (.slice (some ad157) l0_2.length c0_2) ∧ w'.cell? ad157 = some (.int .i64 ((rd_T28 l0_2 0).f0)) ∧ w'.cell? ⟨ad157.block, ad157.off + 1, none⟩ = some (.int .i64 ((rd_T28 l0_2 0).f1)) ∧ w'.cell? ⟨ad157.block, ad157.off + 2, none⟩ = some (.slice A157_2 ((rd_T28 l0_2 0).f2).length c157_2) ∧ w'.cell? ⟨ad157.block, ad157.off + 3, none⟩ = some (.int .i64 ((rd_T28 l0_2 1).f0)) ∧ w'.cell? ⟨ad157.block, ad157.off + 3 + 1, none⟩ = some (.int .i64 ((rd_T28 l0_2 1).f1)) ∧ w'.cell? ⟨ad157.block, ad157.off + 3 + 2, none⟩ = some (.slice A163_2 ((rd_T28 l0_2 1).f2).length c163_2)) (ds := []) #[false, false, false, false, false, false, false, false, false, false, false, false, false, false, false] (by kernel_rfl) rfl rfl ⟨(blk_cell BK137.out 0).trans rfl, (blk_cell BK137.out 1).trans rfl, (blk_cell BK137.out 2).trans rfl, ((HB.out.cell (World.block_lt_of_cell? w _ hw157_0)).trans hw157_0), ((HB.out.cell (World.block_lt_of_cell? w _ hw157_1)).trans hw157_1), ((HB.out.cell (World.block_lt_of_cell? w _ hw157_2)).trans hw157_2), ((HB.out.cell (World.block_lt_of_cell? w _ hw163_0)).trans hw163_0), ((HB.out.cell (World.block_lt_of_cell? w _ hw163_1)).trans hw163_1), ((HB.out.cell (World.block_lt_of_cell? w _ hw163_2)).trans hw163_2)⟩ (fun hHeld => ?_); refine with_tabW spec_l10Negate.tab8 spec_l10Negate.bits8 (fun HT_ HW_ => ?_)
        generalize wc.drew = w39 at BK137 BK138 HB HR157_2 HR163_2 hx157_0 hx157_1 hx157_2 hx163_0 hx163_1 hx163_2 hHeld ⊢
        refine Qq 0 (some 26) ?_
        refine Qq 2 (some 28) ?_
        refine Qq 7 (some 33) ?_
        refine Qr 1 (some 27) hHeld ?_
        refine Qr 3 (some 29) hHeld ?_
        refine Qq 4 (some 30) ?_
        refine Qr 5 (some 31) hHeld ?_
        refine Qr 8 (some 34) hHeld ?_
        refine Qq 9 (some 35) ?_
        refine Qr 10 (some 36) hHeld ?_
        refine Qs 6 (some 32) (fun K hK => ?_)
        refine goes_ Try.func19 (by kernel_rfl) rfl #[.agg #[.int .i64 ((rd_T28 l0_2 0).f0), .int .i64 ((rd_T28 l0_2 0).f1), .slice A157_2 ((rd_T28 l0_2 0).f2).length c157_2]] (by rfl) rfl rfl (by (try simp only [List.map_toArray, List.map_cons, List.map_nil]); first | done | rfl | (simp only [List.length_drop, List.length_take]; rfl)) ?_
        with_reducible refine (ih kj27 (by have := HJ27.out; omega) ((rd_T28 l0_2 0).f0) ((rd_T28 l0_2 0).f1) _ _ ((rd_T28 l0_2 0).f2) t158 t159 t160 _ ?side1 ?side2 A36.out).mono ?_
        (case side1 => repeat (first | exact (Kd.C_below HR157_2.out HB.out) | (with_reducible refine Kd.C_alloc ?_ _) | (with_reducible refine Kd.C_drewN ?_ _) | (with_reducible refine Kd.C_drew ?_)))
        (case side2 => exact HC157_2.out)
        rintro e w40 ⟨v161, rfl, ho0, hb⟩
        refine ⟨_, rfl, ?_⟩
        have n0_ := Ak (Kd.N_lower (Kd.N_mono (ok' := fun k_ => (w.heap.size ≤ k_) ∧ k_ ≠ gb137 ∧ k_ ≠ gb138) ho0 (fun k_ hk_ => ⟨(Nat.le_trans (below_size (Qb HB.out)) hk_), (Kd.freshB (g := gb137) (o := .cells #[.int .i64 a0_0, .int .i64 a0_1, .slice (some ad157) l0_2.length c0_2] 28 (0, 0)) (Qa BK137.out) k_ hk_), (Kd.freshB (g := gb138) (o := .cells #[.int .i64 0, .int .i64 0, .slice none 0 0] 28 (0, 0)) (Qa BK138.out) k_ hk_)⟩)) (below_size (Qb HB.out)))
        have n1_ := Ak (Qm BK137.out hb)
        have n2_ := Ak (Qm BK138.out hb)
        have n3_ := Ak (below_step (Qb HB.out) hb)
        clear BK137 BK138 HB
        have HO162 := n0_
        have BK137 := n1_
        have BK138 := n2_
        have HB := n3_
        clear n0_ n1_ n2_ n3_
        (try clear hb); (try clear hb2); (try clear hk); (try clear hi); (try clear ho0)
        refine hK.out _ _ ⟨(blk_cell BK137.out 0).trans rfl, (blk_cell BK137.out 1).trans rfl, (blk_cell BK137.out 2).trans rfl, ((HB.out.cell (World.block_lt_of_cell? w _ hw157_0)).trans hw157_0), ((HB.out.cell (World.block_lt_of_cell? w _ hw157_1)).trans hw157_1), ((HB.out.cell (World.block_lt_of_cell? w _ hw157_2)).trans hw157_2), ((HB.out.cell (World.block_lt_of_cell? w _ hw163_0)).trans hw163_0), ((HB.out.cell (World.block_lt_of_cell? w _ hw163_1)).trans hw163_1), ((HB.out.cell (World.block_lt_of_cell? w _ hw163_2)).trans hw163_2)⟩ (fun hHeld => ?_)
        clear hK K
        refine norm_ (a' := ?_) ?_ ?_
        rotate_left
        ·show Act.put _ (some 32) _ = _
         simp only [Act.put, List.setIfInBounds_toArray, List.set_cons_zero, List.set_cons_succ, i64_w, i32_w]
         rfl
        refine Qs 11 (some 37) (fun K hK => ?_)
        refine goes_ Try.func19 (by kernel_rfl) rfl #[.agg #[.int .i64 ((rd_T28 l0_2 1).f0), .int .i64 ((rd_T28 l0_2 1).f1), .slice A163_2 ((rd_T28 l0_2 1).f2).length c163_2]] (by rfl) rfl rfl (by (try simp only [List.map_toArray, List.map_cons, List.map_nil]); first | done | rfl | (simp only [List.length_drop, List.length_take]; rfl)) ?_
        with_reducible refine (ih kj27 (by have := HJ27.out; omega) ((rd_T28 l0_2 1).f0) ((rd_T28 l0_2 1).f1) _ _ ((rd_T28 l0_2 1).f2) t164 t165 t166 _ ?side1 ?side2 A38.out).mono ?_
        (case side1 => repeat (first | exact (Kd.C_below HR163_2.out HB.out) | (with_reducible refine Kd.C_alloc ?_ _) | (with_reducible refine Kd.C_drewN ?_ _) | (with_reducible refine Kd.C_drew ?_)))
        (case side2 => exact HC163_2.out)
        rintro e w41 ⟨v167, rfl, ho0, hb⟩
        refine ⟨_, rfl, ?_⟩
        have n0_ := Ak (Kd.N_elder' (by (with_reducible repeat (first | apply Kd.N_alloc | apply Kd.N_drewN | apply Kd.N_drew)); exact HO162.out) (by first | exact Kd.N_base ho0 | exact Kd.R_base ho0) hb)
        have n1_ := Ak (Kd.N_lower (Kd.N_mono (ok' := fun k_ => (w.heap.size ≤ k_) ∧ some k_ ≠ (v161 : Value).ownBlock ∧ k_ ≠ gb137 ∧ k_ ≠ gb138) ho0 (fun k_ hk_ => ⟨(Nat.le_trans (below_size (Qb HB.out)) hk_), (Kd.fresh' (Kd.N_lt (by (with_reducible repeat (first | apply Kd.N_alloc | apply Kd.N_drewN | apply Kd.N_drew)); exact HO162.out)) k_ hk_), (Kd.freshB (g := gb137) (o := .cells #[.int .i64 a0_0, .int .i64 a0_1, .slice (some ad157) l0_2.length c0_2] 28 (0, 0)) (Qa BK137.out) k_ hk_), (Kd.freshB (g := gb138) (o := .cells #[.int .i64 0, .int .i64 0, .slice none 0 0] 28 (0, 0)) (Qa BK138.out) k_ hk_)⟩)) (below_size (Qb HB.out)))
        have n2_ := Ak (Qm BK137.out hb)
        have n3_ := Ak (Qm BK138.out hb)
        have n4_ := Ak (below_step (Qb HB.out) hb)
        clear HO162 BK137 BK138 HB
        have HO162 := n0_
        have HO168 := n1_
        have BK137 := n2_
        have BK138 := n3_
        have HB := n4_
        clear n0_ n1_ n2_ n3_ n4_
        (try clear hb); (try clear hb2); (try clear hk); (try clear hi); (try clear ho0)
        obtain ⟨Ao42, co42, eo42⟩ := Kd.N_slice HO162.out
        (first | subst eo42 | (injection eo42 with f1_ f2_ f3_; have f4_ := f1_.symm; have f5_ := f3_.symm; clear f1_ f2_ f3_; subst f4_; subst f5_))
        obtain ⟨Ao43, co43, eo43⟩ := Kd.N_slice HO168.out
        (first | subst eo43 | (injection eo43 with f1_ f2_ f3_; have f4_ := f1_.symm; have f5_ := f3_.symm; clear f1_ f2_ f3_; subst f4_; subst f5_))
        refine hK.out _ _ ⟨(blk_cell BK137.out 0).trans rfl, (blk_cell BK137.out 1).trans rfl, (blk_cell BK137.out 2).trans rfl, ((HB.out.cell (World.block_lt_of_cell? w _ hw157_0)).trans hw157_0), ((HB.out.cell (World.block_lt_of_cell? w _ hw157_1)).trans hw157_1), ((HB.out.cell (World.block_lt_of_cell? w _ hw157_2)).trans hw157_2), ((HB.out.cell (World.block_lt_of_cell? w _ hw163_0)).trans hw163_0), ((HB.out.cell (World.block_lt_of_cell? w _ hw163_1)).trans hw163_1), ((HB.out.cell (World.block_lt_of_cell? w _ hw163_2)).trans hw163_2)⟩ (fun hHeld => ?_)
        clear hK K
        refine norm_ (a' := ?_) ?_ ?_
        rotate_left
        ·show Act.put _ (some 37) _ = _
         simp only [Act.put, List.setIfInBounds_toArray, List.set_cons_zero, List.set_cons_succ, i64_w, i32_w]
         rfl
        refine Qs 12 (some 38) (fun K hK => ?_)
        refine Kd.N_lit_step k28 _ 28 ?hg (N' := 38) ?hd (xs := ([(⟨t158, t159, t160⟩ : S28), (⟨t164, t165, t166⟩ : S28)] : List (S28))) (inner := [.int .i64 t158, .int .i64 t159, .slice Ao42 t160.length co42, .int .i64 t164, .int .i64 t165, .slice Ao43 t166.length co43]) (ok := (fun k_ => (w.heap.size ≤ k_) ∧ k_ ≠ gb137 ∧ k_ ≠ gb138)) (okp := (fun k_ => (w.heap.size ≤ k_) ∧ k_ ≠ gb137 ∧ k_ ≠ gb138)) ?hr ?hp (fun _ hk => hk) ((show ∀ k_, w41.heap.size ≤ k_ → (fun k_ => (w.heap.size ≤ k_) ∧ k_ ≠ gb137 ∧ k_ ≠ gb138) k_ from fun k_ hk => ⟨(Nat.le_trans (below_size (Qb HB.out)) hk), Kd.freshB (g := gb137) (o := .cells #[.int .i64 a0_0, .int .i64 a0_1, .slice (some ad157) l0_2.length c0_2] 28 (0, 0)) (Qa BK137.out) k_ hk, Kd.freshB (g := gb138) (o := .cells #[.int .i64 0, .int .i64 0, .slice none 0 0] 28 (0, 0)) (Qa BK138.out) k_ hk⟩) _ (Nat.le_refl _)) (Below.refl _ _) (Nat.le_refl _) (by simp) ?_; (case hd => rfl); (case hg => rfl); (case hr => first | (go_simp; done) | (go_simp; rfl)); (case hp => exact (Reps.c3 (show Kd.FK k28 _ _ (⟨t158, t159, t160⟩ : S28) [.int .i64 t158, .int .i64 t159, .slice Ao42 t160.length co42] from (k28_mkF _ _ (⟨t158, t159, t160⟩ : S28) (Kd.N_reads' (Kd.N_mono (ok' := (fun k_ => (w.heap.size ≤ k_) ∧ k_ ≠ gb137 ∧ k_ ≠ gb138)) (HO162.out) (fun k_ hk => ⟨hk.1.1, ⟨hk.1.2.1, hk.1.2.2⟩⟩))).2.1 (Kd.N_F (Kd.N_mono (ok' := (fun k_ => (w.heap.size ≤ k_) ∧ k_ ≠ gb137 ∧ k_ ≠ gb138)) (HO162.out) (fun k_ hk => ⟨hk.1.1, ⟨hk.1.2.1, hk.1.2.2⟩⟩))))) (Reps.c3 (show Kd.FK k28 _ _ (⟨t164, t165, t166⟩ : S28) [.int .i64 t164, .int .i64 t165, .slice Ao43 t166.length co43] from (k28_mkF _ _ (⟨t164, t165, t166⟩ : S28) (Kd.N_reads' (Kd.N_mono (ok' := (fun k_ => (w.heap.size ≤ k_) ∧ k_ ≠ gb137 ∧ k_ ≠ gb138)) (HO168.out) (fun k_ hk => ⟨hk.1, ⟨hk.2.2.1, hk.2.2.2⟩⟩))).2.1 (Kd.N_F (Kd.N_mono (ok' := (fun k_ => (w.heap.size ≤ k_) ∧ k_ ≠ gb137 ∧ k_ ≠ gb138)) (HO168.out) (fun k_ hk => ⟨hk.1, ⟨hk.2.2.1, hk.2.2.2⟩⟩))))) (Reps.none _ _))))
        intro v170 w44 ho45 hb hg_ hnew_
        clear hg_ hnew_
        (first | rw [← Ny169.out] at ho45 | (simp only [Int.reduceToNat] at ho45; rw [← Ny169.out] at ho45))
        have n0_ := Ak (Kd.N_lower ho45 (below_size (Qb HB.out)))
        have n1_ := Ak (Qm BK137.out hb)
        have n2_ := Ak (Qm BK138.out hb)
        have n3_ := Ak (below_step (Qb HB.out) hb)
        clear BK137 BK138 HB HO162 HO168
        have HO171 := n0_
        have BK137 := n1_
        have BK138 := n2_
        have HB := n3_
        clear n0_ n1_ n2_ n3_
        clear hb ho45
        obtain ⟨Ao46, co46, eo46⟩ := Kd.N_slice HO171.out
        (first | subst eo46 | (injection eo46 with f1_ f2_ f3_; have f4_ := f1_.symm; have f5_ := f3_.symm; clear f1_ f2_ f3_; subst f4_; subst f5_))
        refine hK.out _ _ ⟨(blk_cell BK137.out 0).trans rfl, (blk_cell BK137.out 1).trans rfl, (blk_cell BK137.out 2).trans rfl, ((HB.out.cell (World.block_lt_of_cell? w _ hw157_0)).trans hw157_0), ((HB.out.cell (World.block_lt_of_cell? w _ hw157_1)).trans hw157_1), ((HB.out.cell (World.block_lt_of_cell? w _ hw157_2)).trans hw157_2), ((HB.out.cell (World.block_lt_of_cell? w _ hw163_0)).trans hw163_0), ((HB.out.cell (World.block_lt_of_cell? w _ hw163_1)).trans hw163_1), ((HB.out.cell (World.block_lt_of_cell? w _ hw163_2)).trans hw163_2)⟩ (fun hHeld => ?_)
        clear hK K
        refine norm_ (a' := ?_) ?_ ?_
        rotate_left
        ·show Act.put _ (some 38) _ = _
         simp only [Act.put, List.setIfInBounds_toArray, List.set_cons_zero, List.set_cons_succ, i64_w, i32_w]
         rfl
        refine Qq 13 (some 39) ?_
        refine Qs 14 none (fun K hK => ?_)
        have hs47 : w44.cell? ⟨gb138, 0, none⟩ = some (.int .i64 0) := (blk_cell BK138.out 0).trans rfl
        have hfs47 := blk_frozen BK138.out 0
        have hns47_0 := NB137_138.out
        have hms47_0 := NB138_137.out
        have hs48 : w44.cell? ⟨gb138, 1, none⟩ = some (.int .i64 0) := (blk_cell BK138.out 1).trans rfl
        have hfs48 := blk_frozen BK138.out 1
        have hns48_0 := NB137_138.out
        have hms48_0 := NB138_137.out
        have hs49 : w44.cell? ⟨gb138, 2, none⟩ = some (.slice none 0 0) := (blk_cell BK138.out 2).trans rfl
        have hfs49 := blk_frozen BK138.out 2
        have hns49_0 := NB137_138.out
        have hms49_0 := NB138_137.out
        refine skip_ (w1 := ?_) (by rfl) rfl ?_ ?_
        rotate_left
        ·go_simp
         rfl
        refine hK.out _ _ ⟨((cell_far (p := ⟨gb138, _, none⟩) NB137_138.out _).trans (((cell_far (p := ⟨gb138, _, none⟩) NB137_138.out _).trans (((cell_far (p := ⟨gb138, _, none⟩) NB137_138.out _).trans (hHeld.1)))))), ((cell_far (p := ⟨gb138, _, none⟩) NB137_138.out _).trans (((cell_far (p := ⟨gb138, _, none⟩) NB137_138.out _).trans (((cell_far (p := ⟨gb138, _, none⟩) NB137_138.out _).trans (hHeld.2.1)))))), ((cell_far (p := ⟨gb138, _, none⟩) NB137_138.out _).trans (((cell_far (p := ⟨gb138, _, none⟩) NB137_138.out _).trans (((cell_far (p := ⟨gb138, _, none⟩) NB137_138.out _).trans (hHeld.2.2.1)))))), ((cell_far (p := ⟨gb138, _, none⟩) (by first | exact Nat.ne_of_lt (Nat.lt_of_lt_of_le (by have := World.block_lt_of_cell? _ _ hw157_0; first | rwa [add_block] at this | exact this) GW138.out) | (rw [add_block]; exact Nat.ne_of_lt (Nat.lt_of_lt_of_le (by have := World.block_lt_of_cell? _ _ hw157_0; first | rwa [add_block] at this | exact this) GW138.out)) | (show (Addr.add _ _).block ≠ _; rw [add_block]; exact Nat.ne_of_lt (Nat.lt_of_lt_of_le (by have := World.block_lt_of_cell? _ _ hw157_0; first | rwa [add_block] at this | exact this) GW138.out)) | (dsimp only; exact Nat.ne_of_lt (Nat.lt_of_lt_of_le (by have := World.block_lt_of_cell? _ _ hw157_0; first | rwa [add_block] at this | exact this) GW138.out))) _).trans (((cell_far (p := ⟨gb138, _, none⟩) (by first | exact Nat.ne_of_lt (Nat.lt_of_lt_of_le (by have := World.block_lt_of_cell? _ _ hw157_0; first | rwa [add_block] at this | exact this) GW138.out) | (rw [add_block]; exact Nat.ne_of_lt (Nat.lt_of_lt_of_le (by have := World.block_lt_of_cell? _ _ hw157_0; first | rwa [add_block] at this | exact this) GW138.out)) | (show (Addr.add _ _).block ≠ _; rw [add_block]; exact Nat.ne_of_lt (Nat.lt_of_lt_of_le (by have := World.block_lt_of_cell? _ _ hw157_0; first | rwa [add_block] at this | exact this) GW138.out)) | (dsimp only; exact Nat.ne_of_lt (Nat.lt_of_lt_of_le (by have := World.block_lt_of_cell? _ _ hw157_0; first | rwa [add_block] at this | exact this) GW138.out))) _).trans (((cell_far (p := ⟨gb138, _, none⟩) (by first | exact Nat.ne_of_lt (Nat.lt_of_lt_of_le (by have := World.block_lt_of_cell? _ _ hw157_0; first | rwa [add_block] at this | exact this) GW138.out) | (rw [add_block]; exact Nat.ne_of_lt (Nat.lt_of_lt_of_le (by have := World.block_lt_of_cell? _ _ hw157_0; first | rwa [add_block] at this | exact this) GW138.out)) | (show (Addr.add _ _).block ≠ _; rw [add_block]; exact Nat.ne_of_lt (Nat.lt_of_lt_of_le (by have := World.block_lt_of_cell? _ _ hw157_0; first | rwa [add_block] at this | exact this) GW138.out)) | (dsimp only; exact Nat.ne_of_lt (Nat.lt_of_lt_of_le (by have := World.block_lt_of_cell? _ _ hw157_0; first | rwa [add_block] at this | exact this) GW138.out))) _).trans (hHeld.2.2.2.1)))))), ((cell_far (p := ⟨gb138, _, none⟩) (by first | exact Nat.ne_of_lt (Nat.lt_of_lt_of_le (by have := World.block_lt_of_cell? _ _ hw157_1; first | rwa [add_block] at this | exact this) GW138.out) | (rw [add_block]; exact Nat.ne_of_lt (Nat.lt_of_lt_of_le (by have := World.block_lt_of_cell? _ _ hw157_1; first | rwa [add_block] at this | exact this) GW138.out)) | (show (Addr.add _ _).block ≠ _; rw [add_block]; exact Nat.ne_of_lt (Nat.lt_of_lt_of_le (by have := World.block_lt_of_cell? _ _ hw157_1; first | rwa [add_block] at this | exact this) GW138.out)) | (dsimp only; exact Nat.ne_of_lt (Nat.lt_of_lt_of_le (by have := World.block_lt_of_cell? _ _ hw157_1; first | rwa [add_block] at this | exact this) GW138.out))) _).trans (((cell_far (p := ⟨gb138, _, none⟩) (by first | exact Nat.ne_of_lt (Nat.lt_of_lt_of_le (by have := World.block_lt_of_cell? _ _ hw157_1; first | rwa [add_block] at this | exact this) GW138.out) | (rw [add_block]; exact Nat.ne_of_lt (Nat.lt_of_lt_of_le (by have := World.block_lt_of_cell? _ _ hw157_1; first | rwa [add_block] at this | exact this) GW138.out)) | (show (Addr.add _ _).block ≠ _; rw [add_block]; exact Nat.ne_of_lt (Nat.lt_of_lt_of_le (by have := World.block_lt_of_cell? _ _ hw157_1; first | rwa [add_block] at this | exact this) GW138.out)) | (dsimp only; exact Nat.ne_of_lt (Nat.lt_of_lt_of_le (by have := World.block_lt_of_cell? _ _ hw157_1; first | rwa [add_block] at this | exact this) GW138.out))) _).trans (((cell_far (p := ⟨gb138, _, none⟩) (by first | exact Nat.ne_of_lt (Nat.lt_of_lt_of_le (by have := World.block_lt_of_cell? _ _ hw157_1; first | rwa [add_block] at this | exact this) GW138.out) | (rw [add_block]; exact Nat.ne_of_lt (Nat.lt_of_lt_of_le (by have := World.block_lt_of_cell? _ _ hw157_1; first | rwa [add_block] at this | exact this) GW138.out)) | (show (Addr.add _ _).block ≠ _; rw [add_block]; exact Nat.ne_of_lt (Nat.lt_of_lt_of_le (by have := World.block_lt_of_cell? _ _ hw157_1; first | rwa [add_block] at this | exact this) GW138.out)) | (dsimp only; exact Nat.ne_of_lt (Nat.lt_of_lt_of_le (by have := World.block_lt_of_cell? _ _ hw157_1; first | rwa [add_block] at this | exact this) GW138.out))) _).trans (hHeld.2.2.2.2.1)))))), ((cell_far (p := ⟨gb138, _, none⟩) (by first | exact Nat.ne_of_lt (Nat.lt_of_lt_of_le (by have := World.block_lt_of_cell? _ _ hw157_2; first | rwa [add_block] at this | exact this) GW138.out) | (rw [add_block]; exact Nat.ne_of_lt (Nat.lt_of_lt_of_le (by have := World.block_lt_of_cell? _ _ hw157_2; first | rwa [add_block] at this | exact this) GW138.out)) | (show (Addr.add _ _).block ≠ _; rw [add_block]; exact Nat.ne_of_lt (Nat.lt_of_lt_of_le (by have := World.block_lt_of_cell? _ _ hw157_2; first | rwa [add_block] at this | exact this) GW138.out)) | (dsimp only; exact Nat.ne_of_lt (Nat.lt_of_lt_of_le (by have := World.block_lt_of_cell? _ _ hw157_2; first | rwa [add_block] at this | exact this) GW138.out))) _).trans (((cell_far (p := ⟨gb138, _, none⟩) (by first | exact Nat.ne_of_lt (Nat.lt_of_lt_of_le (by have := World.block_lt_of_cell? _ _ hw157_2; first | rwa [add_block] at this | exact this) GW138.out) | (rw [add_block]; exact Nat.ne_of_lt (Nat.lt_of_lt_of_le (by have := World.block_lt_of_cell? _ _ hw157_2; first | rwa [add_block] at this | exact this) GW138.out)) | (show (Addr.add _ _).block ≠ _; rw [add_block]; exact Nat.ne_of_lt (Nat.lt_of_lt_of_le (by have := World.block_lt_of_cell? _ _ hw157_2; first | rwa [add_block] at this | exact this) GW138.out)) | (dsimp only; exact Nat.ne_of_lt (Nat.lt_of_lt_of_le (by have := World.block_lt_of_cell? _ _ hw157_2; first | rwa [add_block] at this | exact this) GW138.out))) _).trans (((cell_far (p := ⟨gb138, _, none⟩) (by first | exact Nat.ne_of_lt (Nat.lt_of_lt_of_le (by have := World.block_lt_of_cell? _ _ hw157_2; first | rwa [add_block] at this | exact this) GW138.out) | (rw [add_block]; exact Nat.ne_of_lt (Nat.lt_of_lt_of_le (by have := World.block_lt_of_cell? _ _ hw157_2; first | rwa [add_block] at this | exact this) GW138.out)) | (show (Addr.add _ _).block ≠ _; rw [add_block]; exact Nat.ne_of_lt (Nat.lt_of_lt_of_le (by have := World.block_lt_of_cell? _ _ hw157_2; first | rwa [add_block] at this | exact this) GW138.out)) | (dsimp only; exact Nat.ne_of_lt (Nat.lt_of_lt_of_le (by have := World.block_lt_of_cell? _ _ hw157_2; first | rwa [add_block] at this | exact this) GW138.out))) _).trans (hHeld.2.2.2.2.2.1)))))), ((cell_far (p := ⟨gb138, _, none⟩) (by first | exact Nat.ne_of_lt (Nat.lt_of_lt_of_le (by have := World.block_lt_of_cell? _ _ hw163_0; first | rwa [add_block] at this | exact this) GW138.out) | (rw [add_block]; exact Nat.ne_of_lt (Nat.lt_of_lt_of_le (by have := World.block_lt_of_cell? _ _ hw163_0; first | rwa [add_block] at this | exact this) GW138.out)) | (show (Addr.add _ _).block ≠ _; rw [add_block]; exact Nat.ne_of_lt (Nat.lt_of_lt_of_le (by have := World.block_lt_of_cell? _ _ hw163_0; first | rwa [add_block] at this | exact this) GW138.out)) | (dsimp only; exact Nat.ne_of_lt (Nat.lt_of_lt_of_le (by have := World.block_lt_of_cell? _ _ hw163_0; first | rwa [add_block] at this | exact this) GW138.out))) _).trans (((cell_far (p := ⟨gb138, _, none⟩) (by first | exact Nat.ne_of_lt (Nat.lt_of_lt_of_le (by have := World.block_lt_of_cell? _ _ hw163_0; first | rwa [add_block] at this | exact this) GW138.out) | (rw [add_block]; exact Nat.ne_of_lt (Nat.lt_of_lt_of_le (by have := World.block_lt_of_cell? _ _ hw163_0; first | rwa [add_block] at this | exact this) GW138.out)) | (show (Addr.add _ _).block ≠ _; rw [add_block]; exact Nat.ne_of_lt (Nat.lt_of_lt_of_le (by have := World.block_lt_of_cell? _ _ hw163_0; first | rwa [add_block] at this | exact this) GW138.out)) | (dsimp only; exact Nat.ne_of_lt (Nat.lt_of_lt_of_le (by have := World.block_lt_of_cell? _ _ hw163_0; first | rwa [add_block] at this | exact this) GW138.out))) _).trans (((cell_far (p := ⟨gb138, _, none⟩) (by first | exact Nat.ne_of_lt (Nat.lt_of_lt_of_le (by have := World.block_lt_of_cell? _ _ hw163_0; first | rwa [add_block] at this | exact this) GW138.out) | (rw [add_block]; exact Nat.ne_of_lt (Nat.lt_of_lt_of_le (by have := World.block_lt_of_cell? _ _ hw163_0; first | rwa [add_block] at this | exact this) GW138.out)) | (show (Addr.add _ _).block ≠ _; rw [add_block]; exact Nat.ne_of_lt (Nat.lt_of_lt_of_le (by have := World.block_lt_of_cell? _ _ hw163_0; first | rwa [add_block] at this | exact this) GW138.out)) | (dsimp only; exact Nat.ne_of_lt (Nat.lt_of_lt_of_le (by have := World.block_lt_of_cell? _ _ hw163_0; first | rwa [add_block] at this | exact this) GW138.out))) _).trans (hHeld.2.2.2.2.2.2.1)))))), ((cell_far (p := ⟨gb138, _, none⟩) (by first | exact Nat.ne_of_lt (Nat.lt_of_lt_of_le (by have := World.block_lt_of_cell? _ _ hw163_1; first | rwa [add_block] at this | exact this) GW138.out) | (rw [add_block]; exact Nat.ne_of_lt (Nat.lt_of_lt_of_le (by have := World.block_lt_of_cell? _ _ hw163_1; first | rwa [add_block] at this | exact this) GW138.out)) | (show (Addr.add _ _).block ≠ _; rw [add_block]; exact Nat.ne_of_lt (Nat.lt_of_lt_of_le (by have := World.block_lt_of_cell? _ _ hw163_1; first | rwa [add_block] at this | exact this) GW138.out)) | (dsimp only; exact Nat.ne_of_lt (Nat.lt_of_lt_of_le (by have := World.block_lt_of_cell? _ _ hw163_1; first | rwa [add_block] at this | exact this) GW138.out))) _).trans (((cell_far (p := ⟨gb138, _, none⟩) (by first | exact Nat.ne_of_lt (Nat.lt_of_lt_of_le (by have := World.block_lt_of_cell? _ _ hw163_1; first | rwa [add_block] at this | exact this) GW138.out) | (rw [add_block]; exact Nat.ne_of_lt (Nat.lt_of_lt_of_le (by have := World.block_lt_of_cell? _ _ hw163_1; first | rwa [add_block] at this | exact this) GW138.out)) | (show (Addr.add _ _).block ≠ _; rw [add_block]; exact Nat.ne_of_lt (Nat.lt_of_lt_of_le (by have := World.block_lt_of_cell? _ _ hw163_1; first | rwa [add_block] at this | exact this) GW138.out)) | (dsimp only; exact Nat.ne_of_lt (Nat.lt_of_lt_of_le (by have := World.block_lt_of_cell? _ _ hw163_1; first | rwa [add_block] at this | exact this) GW138.out))) _).trans (((cell_far (p := ⟨gb138, _, none⟩) (by first | exact Nat.ne_of_lt (Nat.lt_of_lt_of_le (by have := World.block_lt_of_cell? _ _ hw163_1; first | rwa [add_block] at this | exact this) GW138.out) | (rw [add_block]; exact Nat.ne_of_lt (Nat.lt_of_lt_of_le (by have := World.block_lt_of_cell? _ _ hw163_1; first | rwa [add_block] at this | exact this) GW138.out)) | (show (Addr.add _ _).block ≠ _; rw [add_block]; exact Nat.ne_of_lt (Nat.lt_of_lt_of_le (by have := World.block_lt_of_cell? _ _ hw163_1; first | rwa [add_block] at this | exact this) GW138.out)) | (dsimp only; exact Nat.ne_of_lt (Nat.lt_of_lt_of_le (by have := World.block_lt_of_cell? _ _ hw163_1; first | rwa [add_block] at this | exact this) GW138.out))) _).trans (hHeld.2.2.2.2.2.2.2.1)))))), ((cell_far (p := ⟨gb138, _, none⟩) (by first | exact Nat.ne_of_lt (Nat.lt_of_lt_of_le (by have := World.block_lt_of_cell? _ _ hw163_2; first | rwa [add_block] at this | exact this) GW138.out) | (rw [add_block]; exact Nat.ne_of_lt (Nat.lt_of_lt_of_le (by have := World.block_lt_of_cell? _ _ hw163_2; first | rwa [add_block] at this | exact this) GW138.out)) | (show (Addr.add _ _).block ≠ _; rw [add_block]; exact Nat.ne_of_lt (Nat.lt_of_lt_of_le (by have := World.block_lt_of_cell? _ _ hw163_2; first | rwa [add_block] at this | exact this) GW138.out)) | (dsimp only; exact Nat.ne_of_lt (Nat.lt_of_lt_of_le (by have := World.block_lt_of_cell? _ _ hw163_2; first | rwa [add_block] at this | exact this) GW138.out))) _).trans (((cell_far (p := ⟨gb138, _, none⟩) (by first | exact Nat.ne_of_lt (Nat.lt_of_lt_of_le (by have := World.block_lt_of_cell? _ _ hw163_2; first | rwa [add_block] at this | exact this) GW138.out) | (rw [add_block]; exact Nat.ne_of_lt (Nat.lt_of_lt_of_le (by have := World.block_lt_of_cell? _ _ hw163_2; first | rwa [add_block] at this | exact this) GW138.out)) | (show (Addr.add _ _).block ≠ _; rw [add_block]; exact Nat.ne_of_lt (Nat.lt_of_lt_of_le (by have := World.block_lt_of_cell? _ _ hw163_2; first | rwa [add_block] at this | exact this) GW138.out)) | (dsimp only; exact Nat.ne_of_lt (Nat.lt_of_lt_of_le (by have := World.block_lt_of_cell? _ _ hw163_2; first | rwa [add_block] at this | exact this) GW138.out))) _).trans (((cell_far (p := ⟨gb138, _, none⟩) (by first | exact Nat.ne_of_lt (Nat.lt_of_lt_of_le (by have := World.block_lt_of_cell? _ _ hw163_2; first | rwa [add_block] at this | exact this) GW138.out) | (rw [add_block]; exact Nat.ne_of_lt (Nat.lt_of_lt_of_le (by have := World.block_lt_of_cell? _ _ hw163_2; first | rwa [add_block] at this | exact this) GW138.out)) | (show (Addr.add _ _).block ≠ _; rw [add_block]; exact Nat.ne_of_lt (Nat.lt_of_lt_of_le (by have := World.block_lt_of_cell? _ _ hw163_2; first | rwa [add_block] at this | exact this) GW138.out)) | (dsimp only; exact Nat.ne_of_lt (Nat.lt_of_lt_of_le (by have := World.block_lt_of_cell? _ _ hw163_2; first | rwa [add_block] at this | exact this) GW138.out))) _).trans (hHeld.2.2.2.2.2.2.2.2))))))⟩ (fun hHeld => ?_)
        clear hK K
        refine done_ (done_of HT_.out (by kernel_rfl)) ?_
        try go_wp2
        refine bodyPost_ret (results_cell_row rfl _ _ gb138 28 #[.int .i64 a0_0, .int .i64 0, .slice Ao46 y169.length co46] (0, 0) _ rfl (by refine Qe ?_; refine blk_put (cs := #[.int .i64 a0_0, .int .i64 0, .slice none 0 0]) ?_ 2 _ rfl; refine Qe ?_; refine blk_put (cs := #[.int .i64 a0_0, .int .i64 0, .slice none 0 0]) ?_ 1 _ rfl; refine Qe ?_; refine blk_put (cs := #[.int .i64 0, .int .i64 0, .slice none 0 0]) ?_ 0 _ rfl; exact Qa BK138.out) Try.underlying28 rfl (by kernel_rfl)) rfl ?_
        exact ⟨_, Qh, by (with_reducible repeat (first | apply Kd.N_alloc | apply Kd.N_drewN | apply Kd.N_drew)); exact Kd.N_mono (Kd.N_far (p := ⟨gb138, 2, none⟩) (Kd.N_far (p := ⟨gb138, 1, none⟩) (Kd.N_far (p := ⟨gb138, 0, none⟩) (Kd.N_mono HO171.out (fun k_ hk => (⟨hk, hk.2.2⟩ : _ ∧ k_ ≠ gb138))) (fun _ hk => hk.2) (.int .i64 a0_0)) (fun _ hk => hk.2) (.int .i64 0)) (fun _ hk => hk.2) (.slice Ao46 y169.length co46)) (fun _ hk => hk.1.1), Qb HB.out⟩
       ·rw [if_neg c37] at H
        exact absurd H (by simp)
      ·rw [if_neg c35] at H
       exact absurd H (by simp)
     ·replace c34 := Bool.eq_false_iff.mpr c34
      (try subst c34)
      have H1 : (if a0_0 = 6 then (if 0 < (l0_2.length : Int) then ((spec_l10Negate.f kj27 ((rd_T28 l0_2 0).f0) ((rd_T28 l0_2 0).f1) ((rd_T28 l0_2 0).f2)).bind fun bt173 => (if 1 < (l0_2.length : Int) then ((spec_l10Copy.f kj27 ((rd_T28 l0_2 1).f0) ((rd_T28 l0_2 1).f1) ((rd_T28 l0_2 1).f2)).bind fun bt179 => (some (a0_0, 0, (([(⟨bt173.1, bt173.2.1, bt173.2.2⟩ : S28), (⟨bt179.1, bt179.2.1, bt179.2.2⟩ : S28)] : List (S28)))))) else (none))) else (none)) else ((spec_l10Copy.f kj27 a0_0 a0_1 l0_2).bind fun bt187 => (some (3, 0, (([(⟨bt187.1, bt187.2.1, bt187.2.2⟩ : S28)] : List (S28))))))) = some (r1, r2, r3) := by rw [if_neg (show ¬ (false = true) by decide)] at H; exact H
      clear H
      have H := H1
      clear H1
      by_cases c50 : a0_0 = 6
      ·rw [if_pos c50] at H
       have c50b0 : (a0_0 == 6) = true := beq_iff_eq.mpr c50
       have c50b1 : (a0_0 != 6) = false := bne_eq_false_iff_eq.mpr c50
       clear c50
       by_cases c51 : 0 < (l0_2.length : Int)
       ·rw [if_pos c51] at H
        have c51b0 : decide (0 < (l0_2.length : Int)) = true := decide_eq_true c51
        have c51b1 : decide (0 < l0_2.length) = true := decide_eq_true (by omega)
        clear c51
        replace H := Option.bind_eq_some_iff.mp H
        obtain ⟨⟨t173, t174, t175⟩, A520, H⟩ := H
        replace H : (if 1 < (l0_2.length : Int) then ((spec_l10Copy.f kj27 ((rd_T28 l0_2 1).f0) ((rd_T28 l0_2 1).f1) ((rd_T28 l0_2 1).f2)).bind fun bt179 => (some (a0_0, 0, (([(⟨t173, t174, t175⟩ : S28), (⟨bt179.1, bt179.2.1, bt179.2.2⟩ : S28)] : List (S28)))))) else (none)) = some (r1, r2, r3) := H
        have A52 := Ak A520
        clear A520
        by_cases c53 : 1 < (l0_2.length : Int)
        ·rw [if_pos c53] at H
         have c53b0 : decide (1 < (l0_2.length : Int)) = true := decide_eq_true c53
         have c53b1 : decide (1 < l0_2.length) = true := decide_eq_true (by omega)
         clear c53
         replace H := Option.bind_eq_some_iff.mp H
         obtain ⟨⟨t179, t180, t181⟩, A540, H⟩ := H
         replace H : (some (a0_0, 0, (([(⟨t173, t174, t175⟩ : S28), (⟨t179, t180, t181⟩ : S28)] : List (S28))))) = some (r1, r2, r3) := H
         have A54 := Ak A540
         clear A540
         obtain ⟨y184, hy184⟩ : ∃ y_ : List (S28), y_ = (([(⟨t173, t174, t175⟩ : S28), (⟨t179, t180, t181⟩ : S28)] : List (S28))) := ⟨_, rfl⟩
         replace H : (some (a0_0, 0, y184)) = some (r1, r2, r3) := by first | (rw [hy184]; with_reducible exact H) | (have H2_ := (Option.bind_some _ _).symm.trans H; rw [hy184]; with_reducible exact H2_) | (have H2_ := (Option.bind_some _ _).symm.trans H; with_reducible exact H2_) | with_reducible exact H | (rw [hy184]; exact H) | exact H
         have Ny184 := Ak hy184
         clear hy184
         simp only [Option.some.injEq, Prod.mk.injEq] at H
         obtain ⟨rfl, rfl, rfl⟩ := H
         try go_wp2
         have n0_ := Ak (blk_drew BK137.out)
         have n1_ := Ak (blk_drew BK138.out)
         have n2_ := Ak (below_drew1 HB.out)
         clear BK137 BK138 HB
         have BK137 := n0_
         have BK138 := n1_
         have HB := n2_
         clear n0_ n1_ n2_
         have p172 : 0 ≤ (0 : Int) := (by omega)
         have q172 : 0 < (l0_2.length : Int) := Qg
         obtain ⟨ad172, A172_2, c172_2, e172, hx172_0, hx172_1, hx172_2, hl172_2, hi172_2⟩ := at_T28 HR0_2.out 0 p172 q172
         have hw172_2 := hx172_2
         (try rw [show ((0 : Int)).toNat = 0 from rfl] at hw172_2)
         (try rw [show 0 * 3 = 0 from rfl] at hw172_2)
         (try rw [Addr.add_zero'] at hw172_2)
         have hw172_1 := hx172_1
         (try rw [show ((0 : Int)).toNat = 0 from rfl] at hw172_1)
         (try rw [show 0 * 3 = 0 from rfl] at hw172_1)
         (try rw [Addr.add_zero'] at hw172_1)
         have hw172_0 := hx172_0
         (try rw [show ((0 : Int)).toNat = 0 from rfl] at hw172_0)
         (try rw [show 0 * 3 = 0 from rfl] at hw172_0)
         (try rw [Addr.add_zero'] at hw172_0)
         cases e172
         have qi172 : (0 < l0_2.length) = True := eq_true (by omega)
         (try rw [show ((0 : Int)).toNat = 0 from rfl] at hx172_0)
         (try rw [show 0 * 3 = 0 from rfl] at hx172_0)
         (try rw [Addr.add_zero'] at hx172_0)
         (try rw [show ((0 : Int)).toNat = 0 from rfl] at hx172_1)
         (try rw [show 0 * 3 = 0 from rfl] at hx172_1)
         (try rw [Addr.add_zero'] at hx172_1)
         (try rw [show ((0 : Int)).toNat = 0 from rfl] at hx172_2)
         (try rw [show 0 * 3 = 0 from rfl] at hx172_2)
         (try rw [Addr.add_zero'] at hx172_2)
         (try replace hx172_0 := (HB.out.cell (World.block_lt_of_cell? w _ hx172_0)).trans hx172_0)
         (try replace hx172_1 := (HB.out.cell (World.block_lt_of_cell? w _ hx172_1)).trans hx172_1)
         (try replace hx172_2 := (HB.out.cell (World.block_lt_of_cell? w _ hx172_2)).trans hx172_2)
         have HR172_2 := Ak hi172_2
         have HC172_2 := Ak hl172_2
         clear hi172_2 hl172_2
         replace p172 := eq_true p172
         replace q172 := eq_true q172
         have p178 : 0 ≤ (1 : Int) := (by omega)
         have q178 : 1 < (l0_2.length : Int) := Qg
         obtain ⟨ad178, A178_2, c178_2, e178, hx178_0, hx178_1, hx178_2, hl178_2, hi178_2⟩ := at_T28 HR0_2.out 1 p178 q178
         have hw178_2 := hx178_2
         (try rw [show ((1 : Int)).toNat = 1 from rfl] at hw178_2)
         (try rw [show 1 * 3 = 3 from rfl] at hw178_2)
         (try simp only [Nat.reduceMul, Nat.reduceEqDiff, Go.Addr.add, ↓reduceIte] at hw178_2)
         have hw178_1 := hx178_1
         (try rw [show ((1 : Int)).toNat = 1 from rfl] at hw178_1)
         (try rw [show 1 * 3 = 3 from rfl] at hw178_1)
         (try simp only [Nat.reduceMul, Nat.reduceEqDiff, Go.Addr.add, ↓reduceIte] at hw178_1)
         have hw178_0 := hx178_0
         (try rw [show ((1 : Int)).toNat = 1 from rfl] at hw178_0)
         (try rw [show 1 * 3 = 3 from rfl] at hw178_0)
         (try simp only [Nat.reduceMul, Nat.reduceEqDiff, Go.Addr.add, ↓reduceIte] at hw178_0)
         obtain rfl : ad172 = ad178 := (by injection e178)
         (try simp only [show (1 : Int).toNat = 1 from rfl, Nat.reduceMul, Nat.reduceEqDiff, Go.Addr.add, ↓reduceIte] at hx178_0)
         (try simp only [show (1 : Int).toNat = 1 from rfl, Nat.reduceMul, Nat.reduceEqDiff, Go.Addr.add, ↓reduceIte] at hx178_1)
         (try simp only [show (1 : Int).toNat = 1 from rfl, Nat.reduceMul, Nat.reduceEqDiff, Go.Addr.add, ↓reduceIte] at hx178_2)
         have qi178 : (1 < l0_2.length) = True := eq_true (by omega)
         (try rw [show ((1 : Int)).toNat = 1 from rfl] at hx178_0)
         (try rw [show 1 * 3 = 3 from rfl] at hx178_0)
         (try rw [show ((1 : Int)).toNat = 1 from rfl] at hx178_1)
         (try rw [show 1 * 3 = 3 from rfl] at hx178_1)
         (try rw [show ((1 : Int)).toNat = 1 from rfl] at hx178_2)
         (try rw [show 1 * 3 = 3 from rfl] at hx178_2)
         (try replace hx178_0 := (HB.out.cell (World.block_lt_of_cell? w _ hx178_0)).trans hx178_0)
         (try replace hx178_1 := (HB.out.cell (World.block_lt_of_cell? w _ hx178_1)).trans hx178_1)
         (try replace hx178_2 := (HB.out.cell (World.block_lt_of_cell? w _ hx178_2)).trans hx178_2)
         have HR178_2 := Ak hi178_2
         have HC178_2 := Ak hl178_2
         clear hi178_2 hl178_2
         replace p178 := eq_true p178
         replace q178 := eq_true q178
         refine start_ (n := 15) (S := fun w' => w'.cell? ⟨gb137, 0, none⟩ = some (.int .i64 a0_0) ∧ w'.cell? ⟨gb137, 1, none⟩ = some (.int .i64 a0_1) ∧ w'.cell? ⟨gb137, 2, none⟩ = some (.slice (some ad172) l0_2.length c0_2) ∧ w'.cell? ad172 = some (.int .i64 ((rd_T28 l0_2 0).f0)) ∧ w'.cell? ⟨ad172.block, ad172.off + 1, none⟩ = some (.int .i64 ((rd_T28 l0_2 0).f1)) ∧ w'.cell? ⟨ad172.block, ad172.off + 2, none⟩ = some (.slice A172_2 ((rd_T28 l0_2 0).f2).length c172_2) ∧ w'.cell? ⟨ad172.block, ad172.off + 3, none⟩ = some (.int .i64 ((rd_T28 l0_2 1).f0)) ∧ w'.cell? ⟨ad172.block, ad172.off + 3 + 1, none⟩ = some (.int .i64 ((rd_T28 l0_2 1).f1)) ∧ w'.cell? ⟨ad172.block, ad172.off + 3 + 2, none⟩ = some (.slice A178_2 ((rd_T28 l0_2 1).f2).length c178_2)) (ds := []) #[false, false, false, false, false, false, false, false, false, false, false, false, false, false, false] (by kernel_rfl) rfl rfl ⟨(blk_cell BK137.out 0).trans rfl, (blk_cell BK137.out 1).trans rfl, (blk_cell BK137.out 2).trans rfl, ((HB.out.cell (World.block_lt_of_cell? w _ hw172_0)).trans hw172_0), ((HB.out.cell (World.block_lt_of_cell? w _ hw172_1)).trans hw172_1), ((HB.out.cell (World.block_lt_of_cell? w _ hw172_2)).trans hw172_2), ((HB.out.cell (World.block_lt_of_cell? w _ hw178_0)).trans hw178_0), ((HB.out.cell (World.block_lt_of_cell? w _ hw178_1)).trans hw178_1), ((HB.out.cell (World.block_lt_of_cell? w _ hw178_2)).trans hw178_2)⟩ (fun hHeld => ?_); refine with_tabW spec_l10Negate.tab10 spec_l10Negate.bits10 (fun HT_ HW_ => ?_)
         generalize wc.drew = w55 at BK137 BK138 HB HR172_2 HR178_2 hx172_0 hx172_1 hx172_2 hx178_0 hx178_1 hx178_2 hHeld ⊢
         refine Qq 0 (some 42) ?_
         refine Qq 2 (some 44) ?_
         refine Qq 7 (some 49) ?_
         refine Qr 1 (some 43) hHeld ?_
         refine Qr 3 (some 45) hHeld ?_
         refine Qq 4 (some 46) ?_
         refine Qr 5 (some 47) hHeld ?_
         refine Qr 8 (some 50) hHeld ?_
         refine Qq 9 (some 51) ?_
         refine Qr 10 (some 52) hHeld ?_
         refine Qs 6 (some 48) (fun K hK => ?_)
         refine goes_ Try.func19 (by kernel_rfl) rfl #[.agg #[.int .i64 ((rd_T28 l0_2 0).f0), .int .i64 ((rd_T28 l0_2 0).f1), .slice A172_2 ((rd_T28 l0_2 0).f2).length c172_2]] (by rfl) rfl rfl (by (try simp only [List.map_toArray, List.map_cons, List.map_nil]); first | done | rfl | (simp only [List.length_drop, List.length_take]; rfl)) ?_
         with_reducible refine (ih kj27 (by have := HJ27.out; omega) ((rd_T28 l0_2 0).f0) ((rd_T28 l0_2 0).f1) _ _ ((rd_T28 l0_2 0).f2) t173 t174 t175 _ ?side1 ?side2 A52.out).mono ?_
         (case side1 => repeat (first | exact (Kd.C_below HR172_2.out HB.out) | (with_reducible refine Kd.C_alloc ?_ _) | (with_reducible refine Kd.C_drewN ?_ _) | (with_reducible refine Kd.C_drew ?_)))
         (case side2 => exact HC172_2.out)
         rintro e w56 ⟨v176, rfl, ho0, hb⟩
         refine ⟨_, rfl, ?_⟩
         have n0_ := Ak (Kd.N_lower (Kd.N_mono (ok' := fun k_ => (w.heap.size ≤ k_) ∧ k_ ≠ gb137 ∧ k_ ≠ gb138) ho0 (fun k_ hk_ => ⟨(Nat.le_trans (below_size (Qb HB.out)) hk_), (Kd.freshB (g := gb137) (o := .cells #[.int .i64 a0_0, .int .i64 a0_1, .slice (some ad172) l0_2.length c0_2] 28 (0, 0)) (Qa BK137.out) k_ hk_), (Kd.freshB (g := gb138) (o := .cells #[.int .i64 0, .int .i64 0, .slice none 0 0] 28 (0, 0)) (Qa BK138.out) k_ hk_)⟩)) (below_size (Qb HB.out)))
         have n1_ := Ak (Qm BK137.out hb)
         have n2_ := Ak (Qm BK138.out hb)
         have n3_ := Ak (below_step (Qb HB.out) hb)
         clear BK137 BK138 HB
         have HO177 := n0_
         have BK137 := n1_
         have BK138 := n2_
         have HB := n3_
         clear n0_ n1_ n2_ n3_
         (try clear hb); (try clear hb2); (try clear hk); (try clear hi); (try clear ho0)
         refine hK.out _ _ ⟨(blk_cell BK137.out 0).trans rfl, (blk_cell BK137.out 1).trans rfl, (blk_cell BK137.out 2).trans rfl, ((HB.out.cell (World.block_lt_of_cell? w _ hw172_0)).trans hw172_0), ((HB.out.cell (World.block_lt_of_cell? w _ hw172_1)).trans hw172_1), ((HB.out.cell (World.block_lt_of_cell? w _ hw172_2)).trans hw172_2), ((HB.out.cell (World.block_lt_of_cell? w _ hw178_0)).trans hw178_0), ((HB.out.cell (World.block_lt_of_cell? w _ hw178_1)).trans hw178_1), ((HB.out.cell (World.block_lt_of_cell? w _ hw178_2)).trans hw178_2)⟩ (fun hHeld => ?_)
         clear hK K
         refine norm_ (a' := ?_) ?_ ?_
         rotate_left
         ·show Act.put _ (some 48) _ = _
          simp only [Act.put, List.setIfInBounds_toArray, List.set_cons_zero, List.set_cons_succ, i64_w, i32_w]
          rfl
         refine Qs 11 (some 53) (fun K hK => ?_)
         refine goes_ Try.func34 (by kernel_rfl) rfl #[.agg #[.int .i64 ((rd_T28 l0_2 1).f0), .int .i64 ((rd_T28 l0_2 1).f1), .slice A178_2 ((rd_T28 l0_2 1).f2).length c178_2]] (by rfl) rfl rfl (by (try simp only [List.map_toArray, List.map_cons, List.map_nil]); first | done | rfl | (simp only [List.length_drop, List.length_take]; rfl)) ?_
         with_reducible refine (spec_l10Copy.calls kj27 ((rd_T28 l0_2 1).f0) ((rd_T28 l0_2 1).f1) _ _ ((rd_T28 l0_2 1).f2) t179 t180 t181 _ ?side1 ?side2 A54.out).mono ?_
         (case side1 => repeat (first | exact (Kd.C_below HR178_2.out HB.out) | (with_reducible refine Kd.C_alloc ?_ _) | (with_reducible refine Kd.C_drewN ?_ _) | (with_reducible refine Kd.C_drew ?_)))
         (case side2 => exact HC178_2.out)
         rintro e w57 ⟨v182, rfl, ho0, hb⟩
         refine ⟨_, rfl, ?_⟩
         have n0_ := Ak (Kd.N_elder' (by (with_reducible repeat (first | apply Kd.N_alloc | apply Kd.N_drewN | apply Kd.N_drew)); exact HO177.out) (by first | exact Kd.N_base ho0 | exact Kd.R_base ho0) hb)
         have n1_ := Ak (Kd.N_lower (Kd.N_mono (ok' := fun k_ => (w.heap.size ≤ k_) ∧ some k_ ≠ (v176 : Value).ownBlock ∧ k_ ≠ gb137 ∧ k_ ≠ gb138) (Kd.R_N (Kd.R_bound ho0)) (fun k_ hk_ => ⟨(Nat.le_trans (below_size (Qb HB.out)) hk_.2.1), (Kd.fresh' (Kd.N_lt (by (with_reducible repeat (first | apply Kd.N_alloc | apply Kd.N_drewN | apply Kd.N_drew)); exact HO177.out)) k_ hk_.2.1), (Kd.freshB (g := gb137) (o := .cells #[.int .i64 a0_0, .int .i64 a0_1, .slice (some ad172) l0_2.length c0_2] 28 (0, 0)) (Qa BK137.out) k_ hk_.2.1), (Kd.freshB (g := gb138) (o := .cells #[.int .i64 0, .int .i64 0, .slice none 0 0] 28 (0, 0)) (Qa BK138.out) k_ hk_.2.1)⟩)) (below_size (Qb HB.out)))
         have n2_ := Ak (Qm BK137.out hb)
         have n3_ := Ak (Qm BK138.out hb)
         have n4_ := Ak (below_step (Qb HB.out) hb)
         clear HO177 BK137 BK138 HB
         have HO177 := n0_
         have HO183 := n1_
         have BK137 := n2_
         have BK138 := n3_
         have HB := n4_
         clear n0_ n1_ n2_ n3_ n4_
         (try clear hb); (try clear hb2); (try clear hk); (try clear hi); (try clear ho0)
         obtain ⟨Ao58, co58, eo58⟩ := Kd.N_slice HO177.out
         (first | subst eo58 | (injection eo58 with f1_ f2_ f3_; have f4_ := f1_.symm; have f5_ := f3_.symm; clear f1_ f2_ f3_; subst f4_; subst f5_))
         obtain ⟨Ao59, co59, eo59⟩ := Kd.N_slice HO183.out
         (first | subst eo59 | (injection eo59 with f1_ f2_ f3_; have f4_ := f1_.symm; have f5_ := f3_.symm; clear f1_ f2_ f3_; subst f4_; subst f5_))
         refine hK.out _ _ ⟨(blk_cell BK137.out 0).trans rfl, (blk_cell BK137.out 1).trans rfl, (blk_cell BK137.out 2).trans rfl, ((HB.out.cell (World.block_lt_of_cell? w _ hw172_0)).trans hw172_0), ((HB.out.cell (World.block_lt_of_cell? w _ hw172_1)).trans hw172_1), ((HB.out.cell (World.block_lt_of_cell? w _ hw172_2)).trans hw172_2), ((HB.out.cell (World.block_lt_of_cell? w _ hw178_0)).trans hw178_0), ((HB.out.cell (World.block_lt_of_cell? w _ hw178_1)).trans hw178_1), ((HB.out.cell (World.block_lt_of_cell? w _ hw178_2)).trans hw178_2)⟩ (fun hHeld => ?_)
         clear hK K
         refine norm_ (a' := ?_) ?_ ?_
         rotate_left
         ·show Act.put _ (some 53) _ = _
          simp only [Act.put, List.setIfInBounds_toArray, List.set_cons_zero, List.set_cons_succ, i64_w, i32_w]
          rfl
         refine Qs 12 (some 54) (fun K hK => ?_)
         refine Kd.N_lit_step k28 _ 28 ?hg (N' := 54) ?hd (xs := ([(⟨t173, t174, t175⟩ : S28), (⟨t179, t180, t181⟩ : S28)] : List (S28))) (inner := [.int .i64 t173, .int .i64 t174, .slice Ao58 t175.length co58, .int .i64 t179, .int .i64 t180, .slice Ao59 t181.length co59]) (ok := (fun k_ => (w.heap.size ≤ k_) ∧ k_ ≠ gb137 ∧ k_ ≠ gb138)) (okp := (fun k_ => (w.heap.size ≤ k_) ∧ k_ ≠ gb137 ∧ k_ ≠ gb138)) ?hr ?hp (fun _ hk => hk) ((show ∀ k_, w57.heap.size ≤ k_ → (fun k_ => (w.heap.size ≤ k_) ∧ k_ ≠ gb137 ∧ k_ ≠ gb138) k_ from fun k_ hk => ⟨(Nat.le_trans (below_size (Qb HB.out)) hk), Kd.freshB (g := gb137) (o := .cells #[.int .i64 a0_0, .int .i64 a0_1, .slice (some ad172) l0_2.length c0_2] 28 (0, 0)) (Qa BK137.out) k_ hk, Kd.freshB (g := gb138) (o := .cells #[.int .i64 0, .int .i64 0, .slice none 0 0] 28 (0, 0)) (Qa BK138.out) k_ hk⟩) _ (Nat.le_refl _)) (Below.refl _ _) (Nat.le_refl _) (by simp) ?_; (case hd => rfl); (case hg => rfl); (case hr => first | (go_simp; done) | (go_simp; rfl)); (case hp => exact (Reps.c3 (show Kd.FK k28 _ _ (⟨t173, t174, t175⟩ : S28) [.int .i64 t173, .int .i64 t174, .slice Ao58 t175.length co58] from (k28_mkF _ _ (⟨t173, t174, t175⟩ : S28) (Kd.N_reads' (Kd.N_mono (ok' := (fun k_ => (w.heap.size ≤ k_) ∧ k_ ≠ gb137 ∧ k_ ≠ gb138)) (HO177.out) (fun k_ hk => ⟨hk.1.1, ⟨hk.1.2.1, hk.1.2.2⟩⟩))).2.1 (Kd.N_F (Kd.N_mono (ok' := (fun k_ => (w.heap.size ≤ k_) ∧ k_ ≠ gb137 ∧ k_ ≠ gb138)) (HO177.out) (fun k_ hk => ⟨hk.1.1, ⟨hk.1.2.1, hk.1.2.2⟩⟩))))) (Reps.c3 (show Kd.FK k28 _ _ (⟨t179, t180, t181⟩ : S28) [.int .i64 t179, .int .i64 t180, .slice Ao59 t181.length co59] from (k28_mkF _ _ (⟨t179, t180, t181⟩ : S28) (Kd.N_reads' (Kd.N_mono (ok' := (fun k_ => (w.heap.size ≤ k_) ∧ k_ ≠ gb137 ∧ k_ ≠ gb138)) (HO183.out) (fun k_ hk => ⟨hk.1, ⟨hk.2.2.1, hk.2.2.2⟩⟩))).2.1 (Kd.N_F (Kd.N_mono (ok' := (fun k_ => (w.heap.size ≤ k_) ∧ k_ ≠ gb137 ∧ k_ ≠ gb138)) (HO183.out) (fun k_ hk => ⟨hk.1, ⟨hk.2.2.1, hk.2.2.2⟩⟩))))) (Reps.none _ _))))
         intro v185 w60 ho61 hb hg_ hnew_
         clear hg_ hnew_
         (first | rw [← Ny184.out] at ho61 | (simp only [Int.reduceToNat] at ho61; rw [← Ny184.out] at ho61))
         have n0_ := Ak (Kd.N_lower ho61 (below_size (Qb HB.out)))
         have n1_ := Ak (Qm BK137.out hb)
         have n2_ := Ak (Qm BK138.out hb)
         have n3_ := Ak (below_step (Qb HB.out) hb)
         clear BK137 BK138 HB HO177 HO183
         have HO186 := n0_
         have BK137 := n1_
         have BK138 := n2_
         have HB := n3_
         clear n0_ n1_ n2_ n3_
         clear hb ho61
         obtain ⟨Ao62, co62, eo62⟩ := Kd.N_slice HO186.out
         (first | subst eo62 | (injection eo62 with f1_ f2_ f3_; have f4_ := f1_.symm; have f5_ := f3_.symm; clear f1_ f2_ f3_; subst f4_; subst f5_))
         refine hK.out _ _ ⟨(blk_cell BK137.out 0).trans rfl, (blk_cell BK137.out 1).trans rfl, (blk_cell BK137.out 2).trans rfl, ((HB.out.cell (World.block_lt_of_cell? w _ hw172_0)).trans hw172_0), ((HB.out.cell (World.block_lt_of_cell? w _ hw172_1)).trans hw172_1), ((HB.out.cell (World.block_lt_of_cell? w _ hw172_2)).trans hw172_2), ((HB.out.cell (World.block_lt_of_cell? w _ hw178_0)).trans hw178_0), ((HB.out.cell (World.block_lt_of_cell? w _ hw178_1)).trans hw178_1), ((HB.out.cell (World.block_lt_of_cell? w _ hw178_2)).trans hw178_2)⟩ (fun hHeld => ?_)
         clear hK K
         refine norm_ (a' := ?_) ?_ ?_
         rotate_left
         ·show Act.put _ (some 54) _ = _
          simp only [Act.put, List.setIfInBounds_toArray, List.set_cons_zero, List.set_cons_succ, i64_w, i32_w]
          rfl
         refine Qq 13 (some 55) ?_
         refine Qs 14 none (fun K hK => ?_)
         have hs63 : w60.cell? ⟨gb138, 0, none⟩ = some (.int .i64 0) := (blk_cell BK138.out 0).trans rfl
         have hfs63 := blk_frozen BK138.out 0
         have hns63_0 := NB137_138.out
         have hms63_0 := NB138_137.out
         have hs64 : w60.cell? ⟨gb138, 1, none⟩ = some (.int .i64 0) := (blk_cell BK138.out 1).trans rfl
         have hfs64 := blk_frozen BK138.out 1
         have hns64_0 := NB137_138.out
         have hms64_0 := NB138_137.out
         have hs65 : w60.cell? ⟨gb138, 2, none⟩ = some (.slice none 0 0) := (blk_cell BK138.out 2).trans rfl
         have hfs65 := blk_frozen BK138.out 2
         have hns65_0 := NB137_138.out
         have hms65_0 := NB138_137.out
         refine skip_ (w1 := ?_) (by rfl) rfl ?_ ?_
         rotate_left
         ·go_simp
          rfl
         refine hK.out _ _ ⟨((cell_far (p := ⟨gb138, _, none⟩) NB137_138.out _).trans (((cell_far (p := ⟨gb138, _, none⟩) NB137_138.out _).trans (((cell_far (p := ⟨gb138, _, none⟩) NB137_138.out _).trans (hHeld.1)))))), ((cell_far (p := ⟨gb138, _, none⟩) NB137_138.out _).trans (((cell_far (p := ⟨gb138, _, none⟩) NB137_138.out _).trans (((cell_far (p := ⟨gb138, _, none⟩) NB137_138.out _).trans (hHeld.2.1)))))), ((cell_far (p := ⟨gb138, _, none⟩) NB137_138.out _).trans (((cell_far (p := ⟨gb138, _, none⟩) NB137_138.out _).trans (((cell_far (p := ⟨gb138, _, none⟩) NB137_138.out _).trans (hHeld.2.2.1)))))), ((cell_far (p := ⟨gb138, _, none⟩) (by first | exact Nat.ne_of_lt (Nat.lt_of_lt_of_le (by have := World.block_lt_of_cell? _ _ hw172_0; first | rwa [add_block] at this | exact this) GW138.out) | (rw [add_block]; exact Nat.ne_of_lt (Nat.lt_of_lt_of_le (by have := World.block_lt_of_cell? _ _ hw172_0; first | rwa [add_block] at this | exact this) GW138.out)) | (show (Addr.add _ _).block ≠ _; rw [add_block]; exact Nat.ne_of_lt (Nat.lt_of_lt_of_le (by have := World.block_lt_of_cell? _ _ hw172_0; first | rwa [add_block] at this | exact this) GW138.out)) | (dsimp only; exact Nat.ne_of_lt (Nat.lt_of_lt_of_le (by have := World.block_lt_of_cell? _ _ hw172_0; first | rwa [add_block] at this | exact this) GW138.out))) _).trans (((cell_far (p := ⟨gb138, _, none⟩) (by first | exact Nat.ne_of_lt (Nat.lt_of_lt_of_le (by have := World.block_lt_of_cell? _ _ hw172_0; first | rwa [add_block] at this | exact this) GW138.out) | (rw [add_block]; exact Nat.ne_of_lt (Nat.lt_of_lt_of_le (by have := World.block_lt_of_cell? _ _ hw172_0; first | rwa [add_block] at this | exact this) GW138.out)) | (show (Addr.add _ _).block ≠ _; rw [add_block]; exact Nat.ne_of_lt (Nat.lt_of_lt_of_le (by have := World.block_lt_of_cell? _ _ hw172_0; first | rwa [add_block] at this | exact this) GW138.out)) | (dsimp only; exact Nat.ne_of_lt (Nat.lt_of_lt_of_le (by have := World.block_lt_of_cell? _ _ hw172_0; first | rwa [add_block] at this | exact this) GW138.out))) _).trans (((cell_far (p := ⟨gb138, _, none⟩) (by first | exact Nat.ne_of_lt (Nat.lt_of_lt_of_le (by have := World.block_lt_of_cell? _ _ hw172_0; first | rwa [add_block] at this | exact this) GW138.out) | (rw [add_block]; exact Nat.ne_of_lt (Nat.lt_of_lt_of_le (by have := World.block_lt_of_cell? _ _ hw172_0; first | rwa [add_block] at this | exact this) GW138.out)) | (show (Addr.add _ _).block ≠ _; rw [add_block]; exact Nat.ne_of_lt (Nat.lt_of_lt_of_le (by have := World.block_lt_of_cell? _ _ hw172_0; first | rwa [add_block] at this | exact this) GW138.out)) | (dsimp only; exact Nat.ne_of_lt (Nat.lt_of_lt_of_le (by have := World.block_lt_of_cell? _ _ hw172_0; first | rwa [add_block] at this | exact this) GW138.out))) _).trans (hHeld.2.2.2.1)))))), ((cell_far (p := ⟨gb138, _, none⟩) (by first | exact Nat.ne_of_lt (Nat.lt_of_lt_of_le (by have := World.block_lt_of_cell? _ _ hw172_1; first | rwa [add_block] at this | exact this) GW138.out) | (rw [add_block]; exact Nat.ne_of_lt (Nat.lt_of_lt_of_le (by have := World.block_lt_of_cell? _ _ hw172_1; first | rwa [add_block] at this | exact this) GW138.out)) | (show (Addr.add _ _).block ≠ _; rw [add_block]; exact Nat.ne_of_lt (Nat.lt_of_lt_of_le (by have := World.block_lt_of_cell? _ _ hw172_1; first | rwa [add_block] at this | exact this) GW138.out)) | (dsimp only; exact Nat.ne_of_lt (Nat.lt_of_lt_of_le (by have := World.block_lt_of_cell? _ _ hw172_1; first | rwa [add_block] at this | exact this) GW138.out))) _).trans (((cell_far (p := ⟨gb138, _, none⟩) (by first | exact Nat.ne_of_lt (Nat.lt_of_lt_of_le (by have := World.block_lt_of_cell? _ _ hw172_1; first | rwa [add_block] at this | exact this) GW138.out) | (rw [add_block]; exact Nat.ne_of_lt (Nat.lt_of_lt_of_le (by have := World.block_lt_of_cell? _ _ hw172_1; first | rwa [add_block] at this | exact this) GW138.out)) | (show (Addr.add _ _).block ≠ _; rw [add_block]; exact Nat.ne_of_lt (Nat.lt_of_lt_of_le (by have := World.block_lt_of_cell? _ _ hw172_1; first | rwa [add_block] at this | exact this) GW138.out)) | (dsimp only; exact Nat.ne_of_lt (Nat.lt_of_lt_of_le (by have := World.block_lt_of_cell? _ _ hw172_1; first | rwa [add_block] at this | exact this) GW138.out))) _).trans (((cell_far (p := ⟨gb138, _, none⟩) (by first | exact Nat.ne_of_lt (Nat.lt_of_lt_of_le (by have := World.block_lt_of_cell? _ _ hw172_1; first | rwa [add_block] at this | exact this) GW138.out) | (rw [add_block]; exact Nat.ne_of_lt (Nat.lt_of_lt_of_le (by have := World.block_lt_of_cell? _ _ hw172_1; first | rwa [add_block] at this | exact this) GW138.out)) | (show (Addr.add _ _).block ≠ _; rw [add_block]; exact Nat.ne_of_lt (Nat.lt_of_lt_of_le (by have := World.block_lt_of_cell? _ _ hw172_1; first | rwa [add_block] at this | exact this) GW138.out)) | (dsimp only; exact Nat.ne_of_lt (Nat.lt_of_lt_of_le (by have := World.block_lt_of_cell? _ _ hw172_1; first | rwa [add_block] at this | exact this) GW138.out))) _).trans (hHeld.2.2.2.2.1)))))), ((cell_far (p := ⟨gb138, _, none⟩) (by first | exact Nat.ne_of_lt (Nat.lt_of_lt_of_le (by have := World.block_lt_of_cell? _ _ hw172_2; first | rwa [add_block] at this | exact this) GW138.out) | (rw [add_block]; exact Nat.ne_of_lt (Nat.lt_of_lt_of_le (by have := World.block_lt_of_cell? _ _ hw172_2; first | rwa [add_block] at this | exact this) GW138.out)) | (show (Addr.add _ _).block ≠ _; rw [add_block]; exact Nat.ne_of_lt (Nat.lt_of_lt_of_le (by have := World.block_lt_of_cell? _ _ hw172_2; first | rwa [add_block] at this | exact this) GW138.out)) | (dsimp only; exact Nat.ne_of_lt (Nat.lt_of_lt_of_le (by have := World.block_lt_of_cell? _ _ hw172_2; first | rwa [add_block] at this | exact this) GW138.out))) _).trans (((cell_far (p := ⟨gb138, _, none⟩) (by first | exact Nat.ne_of_lt (Nat.lt_of_lt_of_le (by have := World.block_lt_of_cell? _ _ hw172_2; first | rwa [add_block] at this | exact this) GW138.out) | (rw [add_block]; exact Nat.ne_of_lt (Nat.lt_of_lt_of_le (by have := World.block_lt_of_cell? _ _ hw172_2; first | rwa [add_block] at this | exact this) GW138.out)) | (show (Addr.add _ _).block ≠ _; rw [add_block]; exact Nat.ne_of_lt (Nat.lt_of_lt_of_le (by have := World.block_lt_of_cell? _ _ hw172_2; first | rwa [add_block] at this | exact this) GW138.out)) | (dsimp only; exact Nat.ne_of_lt (Nat.lt_of_lt_of_le (by have := World.block_lt_of_cell? _ _ hw172_2; first | rwa [add_block] at this | exact this) GW138.out))) _).trans (((cell_far (p := ⟨gb138, _, none⟩) (by first | exact Nat.ne_of_lt (Nat.lt_of_lt_of_le (by have := World.block_lt_of_cell? _ _ hw172_2; first | rwa [add_block] at this | exact this) GW138.out) | (rw [add_block]; exact Nat.ne_of_lt (Nat.lt_of_lt_of_le (by have := World.block_lt_of_cell? _ _ hw172_2; first | rwa [add_block] at this | exact this) GW138.out)) | (show (Addr.add _ _).block ≠ _; rw [add_block]; exact Nat.ne_of_lt (Nat.lt_of_lt_of_le (by have := World.block_lt_of_cell? _ _ hw172_2; first | rwa [add_block] at this | exact this) GW138.out)) | (dsimp only; exact Nat.ne_of_lt (Nat.lt_of_lt_of_le (by have := World.block_lt_of_cell? _ _ hw172_2; first | rwa [add_block] at this | exact this) GW138.out))) _).trans (hHeld.2.2.2.2.2.1)))))), ((cell_far (p := ⟨gb138, _, none⟩) (by first | exact Nat.ne_of_lt (Nat.lt_of_lt_of_le (by have := World.block_lt_of_cell? _ _ hw178_0; first | rwa [add_block] at this | exact this) GW138.out) | (rw [add_block]; exact Nat.ne_of_lt (Nat.lt_of_lt_of_le (by have := World.block_lt_of_cell? _ _ hw178_0; first | rwa [add_block] at this | exact this) GW138.out)) | (show (Addr.add _ _).block ≠ _; rw [add_block]; exact Nat.ne_of_lt (Nat.lt_of_lt_of_le (by have := World.block_lt_of_cell? _ _ hw178_0; first | rwa [add_block] at this | exact this) GW138.out)) | (dsimp only; exact Nat.ne_of_lt (Nat.lt_of_lt_of_le (by have := World.block_lt_of_cell? _ _ hw178_0; first | rwa [add_block] at this | exact this) GW138.out))) _).trans (((cell_far (p := ⟨gb138, _, none⟩) (by first | exact Nat.ne_of_lt (Nat.lt_of_lt_of_le (by have := World.block_lt_of_cell? _ _ hw178_0; first | rwa [add_block] at this | exact this) GW138.out) | (rw [add_block]; exact Nat.ne_of_lt (Nat.lt_of_lt_of_le (by have := World.block_lt_of_cell? _ _ hw178_0; first | rwa [add_block] at this | exact this) GW138.out)) | (show (Addr.add _ _).block ≠ _; rw [add_block]; exact Nat.ne_of_lt (Nat.lt_of_lt_of_le (by have := World.block_lt_of_cell? _ _ hw178_0; first | rwa [add_block] at this | exact this) GW138.out)) | (dsimp only; exact Nat.ne_of_lt (Nat.lt_of_lt_of_le (by have := World.block_lt_of_cell? _ _ hw178_0; first | rwa [add_block] at this | exact this) GW138.out))) _).trans (((cell_far (p := ⟨gb138, _, none⟩) (by first | exact Nat.ne_of_lt (Nat.lt_of_lt_of_le (by have := World.block_lt_of_cell? _ _ hw178_0; first | rwa [add_block] at this | exact this) GW138.out) | (rw [add_block]; exact Nat.ne_of_lt (Nat.lt_of_lt_of_le (by have := World.block_lt_of_cell? _ _ hw178_0; first | rwa [add_block] at this | exact this) GW138.out)) | (show (Addr.add _ _).block ≠ _; rw [add_block]; exact Nat.ne_of_lt (Nat.lt_of_lt_of_le (by have := World.block_lt_of_cell? _ _ hw178_0; first | rwa [add_block] at this | exact this) GW138.out)) | (dsimp only; exact Nat.ne_of_lt (Nat.lt_of_lt_of_le (by have := World.block_lt_of_cell? _ _ hw178_0; first | rwa [add_block] at this | exact this) GW138.out))) _).trans (hHeld.2.2.2.2.2.2.1)))))), ((cell_far (p := ⟨gb138, _, none⟩) (by first | exact Nat.ne_of_lt (Nat.lt_of_lt_of_le (by have := World.block_lt_of_cell? _ _ hw178_1; first | rwa [add_block] at this | exact this) GW138.out) | (rw [add_block]; exact Nat.ne_of_lt (Nat.lt_of_lt_of_le (by have := World.block_lt_of_cell? _ _ hw178_1; first | rwa [add_block] at this | exact this) GW138.out)) | (show (Addr.add _ _).block ≠ _; rw [add_block]; exact Nat.ne_of_lt (Nat.lt_of_lt_of_le (by have := World.block_lt_of_cell? _ _ hw178_1; first | rwa [add_block] at this | exact this) GW138.out)) | (dsimp only; exact Nat.ne_of_lt (Nat.lt_of_lt_of_le (by have := World.block_lt_of_cell? _ _ hw178_1; first | rwa [add_block] at this | exact this) GW138.out))) _).trans (((cell_far (p := ⟨gb138, _, none⟩) (by first | exact Nat.ne_of_lt (Nat.lt_of_lt_of_le (by have := World.block_lt_of_cell? _ _ hw178_1; first | rwa [add_block] at this | exact this) GW138.out) | (rw [add_block]; exact Nat.ne_of_lt (Nat.lt_of_lt_of_le (by have := World.block_lt_of_cell? _ _ hw178_1; first | rwa [add_block] at this | exact this) GW138.out)) | (show (Addr.add _ _).block ≠ _; rw [add_block]; exact Nat.ne_of_lt (Nat.lt_of_lt_of_le (by have := World.block_lt_of_cell? _ _ hw178_1; first | rwa [add_block] at this | exact this) GW138.out)) | (dsimp only; exact Nat.ne_of_lt (Nat.lt_of_lt_of_le (by have := World.block_lt_of_cell? _ _ hw178_1; first | rwa [add_block] at this | exact this) GW138.out))) _).trans (((cell_far (p := ⟨gb138, _, none⟩) (by first | exact Nat.ne_of_lt (Nat.lt_of_lt_of_le (by have := World.block_lt_of_cell? _ _ hw178_1; first | rwa [add_block] at this | exact this) GW138.out) | (rw [add_block]; exact Nat.ne_of_lt (Nat.lt_of_lt_of_le (by have := World.block_lt_of_cell? _ _ hw178_1; first | rwa [add_block] at this | exact this) GW138.out)) | (show (Addr.add _ _).block ≠ _; rw [add_block]; exact Nat.ne_of_lt (Nat.lt_of_lt_of_le (by have := World.block_lt_of_cell? _ _ hw178_1; first | rwa [add_block] at this | exact this) GW138.out)) | (dsimp only; exact Nat.ne_of_lt (Nat.lt_of_lt_of_le (by have := World.block_lt_of_cell? _ _ hw178_1; first | rwa [add_block] at this | exact this) GW138.out))) _).trans (hHeld.2.2.2.2.2.2.2.1)))))), ((cell_far (p := ⟨gb138, _, none⟩) (by first | exact Nat.ne_of_lt (Nat.lt_of_lt_of_le (by have := World.block_lt_of_cell? _ _ hw178_2; first | rwa [add_block] at this | exact this) GW138.out) | (rw [add_block]; exact Nat.ne_of_lt (Nat.lt_of_lt_of_le (by have := World.block_lt_of_cell? _ _ hw178_2; first | rwa [add_block] at this | exact this) GW138.out)) | (show (Addr.add _ _).block ≠ _; rw [add_block]; exact Nat.ne_of_lt (Nat.lt_of_lt_of_le (by have := World.block_lt_of_cell? _ _ hw178_2; first | rwa [add_block] at this | exact this) GW138.out)) | (dsimp only; exact Nat.ne_of_lt (Nat.lt_of_lt_of_le (by have := World.block_lt_of_cell? _ _ hw178_2; first | rwa [add_block] at this | exact this) GW138.out))) _).trans (((cell_far (p := ⟨gb138, _, none⟩) (by first | exact Nat.ne_of_lt (Nat.lt_of_lt_of_le (by have := World.block_lt_of_cell? _ _ hw178_2; first | rwa [add_block] at this | exact this) GW138.out) | (rw [add_block]; exact Nat.ne_of_lt (Nat.lt_of_lt_of_le (by have := World.block_lt_of_cell? _ _ hw178_2; first | rwa [add_block] at this | exact this) GW138.out)) | (show (Addr.add _ _).block ≠ _; rw [add_block]; exact Nat.ne_of_lt (Nat.lt_of_lt_of_le (by have := World.block_lt_of_cell? _ _ hw178_2; first | rwa [add_block] at this | exact this) GW138.out)) | (dsimp only; exact Nat.ne_of_lt (Nat.lt_of_lt_of_le (by have := World.block_lt_of_cell? _ _ hw178_2; first | rwa [add_block] at this | exact this) GW138.out))) _).trans (((cell_far (p := ⟨gb138, _, none⟩) (by first | exact Nat.ne_of_lt (Nat.lt_of_lt_of_le (by have := World.block_lt_of_cell? _ _ hw178_2; first | rwa [add_block] at this | exact this) GW138.out) | (rw [add_block]; exact Nat.ne_of_lt (Nat.lt_of_lt_of_le (by have := World.block_lt_of_cell? _ _ hw178_2; first | rwa [add_block] at this | exact this) GW138.out)) | (show (Addr.add _ _).block ≠ _; rw [add_block]; exact Nat.ne_of_lt (Nat.lt_of_lt_of_le (by have := World.block_lt_of_cell? _ _ hw178_2; first | rwa [add_block] at this | exact this) GW138.out)) | (dsimp only; exact Nat.ne_of_lt (Nat.lt_of_lt_of_le (by have := World.block_lt_of_cell? _ _ hw178_2; first | rwa [add_block] at this | exact this) GW138.out))) _).trans (hHeld.2.2.2.2.2.2.2.2))))))⟩ (fun hHeld => ?_)
         clear hK K
         refine done_ (done_of HT_.out (by kernel_rfl)) ?_
         try go_wp2
         refine bodyPost_ret (results_cell_row rfl _ _ gb138 28 #[.int .i64 a0_0, .int .i64 0, .slice Ao62 y184.length co62] (0, 0) _ rfl (by refine Qe ?_; refine blk_put (cs := #[.int .i64 a0_0, .int .i64 0, .slice none 0 0]) ?_ 2 _ rfl; refine Qe ?_; refine blk_put (cs := #[.int .i64 a0_0, .int .i64 0, .slice none 0 0]) ?_ 1 _ rfl; refine Qe ?_; refine blk_put (cs := #[.int .i64 0, .int .i64 0, .slice none 0 0]) ?_ 0 _ rfl; exact Qa BK138.out) Try.underlying28 rfl (by kernel_rfl)) rfl ?_
         exact ⟨_, Qh, by (with_reducible repeat (first | apply Kd.N_alloc | apply Kd.N_drewN | apply Kd.N_drew)); exact Kd.N_mono (Kd.N_far (p := ⟨gb138, 2, none⟩) (Kd.N_far (p := ⟨gb138, 1, none⟩) (Kd.N_far (p := ⟨gb138, 0, none⟩) (Kd.N_mono HO186.out (fun k_ hk => (⟨hk, hk.2.2⟩ : _ ∧ k_ ≠ gb138))) (fun _ hk => hk.2) (.int .i64 a0_0)) (fun _ hk => hk.2) (.int .i64 0)) (fun _ hk => hk.2) (.slice Ao62 y184.length co62)) (fun _ hk => hk.1.1), Qb HB.out⟩
        ·rw [if_neg c53] at H
         exact absurd H (by simp)
       ·rw [if_neg c51] at H
        exact absurd H (by simp)
      ·rw [if_neg c50] at H
       have c50b0 : (a0_0 == 6) = false := beq_eq_false_iff_ne.mpr c50
       have c50b1 : (a0_0 != 6) = true := bne_iff_ne.mpr c50
       replace H := Option.bind_eq_some_iff.mp H
       obtain ⟨⟨t187, t188, t189⟩, A660, H⟩ := H
       replace H : (some (3, 0, (([(⟨t187, t188, t189⟩ : S28)] : List (S28))))) = some (r1, r2, r3) := H
       have A66 := Ak A660
       clear A660
       obtain ⟨y192, hy192⟩ : ∃ y_ : List (S28), y_ = (([(⟨t187, t188, t189⟩ : S28)] : List (S28))) := ⟨_, rfl⟩
       replace H : (some (3, 0, y192)) = some (r1, r2, r3) := by first | (rw [hy192]; with_reducible exact H) | (have H2_ := (Option.bind_some _ _).symm.trans H; rw [hy192]; with_reducible exact H2_) | (have H2_ := (Option.bind_some _ _).symm.trans H; with_reducible exact H2_) | with_reducible exact H | (rw [hy192]; exact H) | exact H
       have Ny192 := Ak hy192
       clear hy192
       simp only [Option.some.injEq, Prod.mk.injEq] at H
       obtain ⟨rfl, rfl, rfl⟩ := H
       have hnb67 := NB137_138.out
       have hnc67 := NB138_137.out
       obtain ⟨hcz68_0, hcz68_1, hcz68_2, hfz68_0, hfz68_1, hfz68_2⟩ := Qv3 BK137.out
       go_wp2_with (first | ((with_reducible refine gate_callee (f := 34) rfl ?_); refine Qj (some 57) Try.func34 #[.agg #[.int .i64 a0_0, .int .i64 a0_1, .slice A0_2 l0_2.length c0_2]] ?_; (with_reducible refine (spec_l10Copy.calls kj27 a0_0 a0_1 _ _ l0_2 t187 t188 t189 _ ?side1 ?side2 A66.out).mono ?_); (case side1 => repeat (first | exact (Kd.C_below HR0_2.out HB.out) | (with_reducible refine Kd.C_alloc ?_ _) | (with_reducible refine Kd.C_drewN ?_ _) | (with_reducible refine Kd.C_drew ?_))); (case side2 => exact HC0_2.out); rintro e w69 ⟨v190, rfl, ho0, hb⟩; refine ⟨_, rfl, ?_⟩; have n0_ := Ak (Kd.N_lower (Kd.N_mono (ok' := fun k_ => (w.heap.size ≤ k_) ∧ k_ ≠ gb137 ∧ k_ ≠ gb138) (Kd.R_N (Kd.R_bound ho0)) (fun k_ hk_ => ⟨(Nat.le_trans (below_size (Qb HB.out)) hk_.2.1), (Kd.freshB (g := gb137) (o := .cells #[.int .i64 a0_0, .int .i64 a0_1, .slice A0_2 l0_2.length c0_2] 28 (0, 0)) (Qa BK137.out) k_ hk_.2.1), (Kd.freshB (g := gb138) (o := .cells #[.int .i64 0, .int .i64 0, .slice none 0 0] 28 (0, 0)) (Qa BK138.out) k_ hk_.2.1)⟩)) (below_size (Qb HB.out))); have n1_ := Ak (Qm BK137.out hb); have n2_ := Ak (Qm BK138.out hb); have n3_ := Ak (below_step (Qb HB.out) hb); clear BK137 BK138 HB; have HO191 := n0_; have BK137 := n1_; have BK138 := n2_; have HB := n3_; clear n0_ n1_ n2_ n3_; (try clear hb); (try clear hb2); (try clear hk); (try clear hi); (try clear ho0); obtain ⟨Ao70, co70, eo70⟩ := Kd.N_slice HO191.out; subst eo70) | ((with_reducible refine gate_dst (N := 58) rfl ?_); refine Kd.N_lit k28 _ 28 ?hg (N' := 58) ?hd (xs := ([(⟨t187, t188, t189⟩ : S28)] : List (S28))) (inner := [.int .i64 t187, .int .i64 t188, .slice Ao70 t189.length co70]) (ok := (fun k_ => (w.heap.size ≤ k_) ∧ k_ ≠ gb137 ∧ k_ ≠ gb138)) (okp := (fun k_ => (w.heap.size ≤ k_) ∧ k_ ≠ gb137 ∧ k_ ≠ gb138)) ?hr ?hp (fun _ hk => hk) ((show ∀ k_, w69.heap.size ≤ k_ → (fun k_ => (w.heap.size ≤ k_) ∧ k_ ≠ gb137 ∧ k_ ≠ gb138) k_ from fun k_ hk => ⟨(Nat.le_trans (below_size (Qb HB.out)) hk), Kd.freshB (g := gb137) (o := .cells #[.int .i64 a0_0, .int .i64 a0_1, .slice A0_2 l0_2.length c0_2] 28 (0, 0)) (Qa BK137.out) k_ hk, Kd.freshB (g := gb138) (o := .cells #[.int .i64 0, .int .i64 0, .slice none 0 0] 28 (0, 0)) (Qa BK138.out) k_ hk⟩) _ (Nat.le_refl _)) (Below.refl _ _) (Nat.le_refl _) (by simp) ?_; (case hd => rfl); (case hg => rfl); (case hr => first | (go_simp; done) | (go_simp; rfl)); (case hp => exact (Reps.c3 (show Kd.FK k28 _ _ (⟨t187, t188, t189⟩ : S28) [.int .i64 t187, .int .i64 t188, .slice Ao70 t189.length co70] from (k28_mkF _ _ (⟨t187, t188, t189⟩ : S28) (Kd.N_reads' (Kd.N_mono (ok' := (fun k_ => (w.heap.size ≤ k_) ∧ k_ ≠ gb137 ∧ k_ ≠ gb138)) (HO191.out) (fun k_ hk => ⟨hk.1, ⟨hk.2.1, hk.2.2⟩⟩))).2.1 (Kd.N_F (Kd.N_mono (ok' := (fun k_ => (w.heap.size ≤ k_) ∧ k_ ≠ gb137 ∧ k_ ≠ gb138)) (HO191.out) (fun k_ hk => ⟨hk.1, ⟨hk.2.1, hk.2.2⟩⟩))))) (Reps.none _ _))); intro v193 w71 ho72 hb hg_ hnew_; clear hg_ hnew_; (first | rw [← Ny192.out] at ho72 | (simp only [Int.reduceToNat] at ho72; rw [← Ny192.out] at ho72)); have n0_ := Ak (Kd.N_lower ho72 (below_size (Qb HB.out))); have n1_ := Ak (Qm BK137.out hb); have n2_ := Ak (Qm BK138.out hb); have n3_ := Ak (below_step (Qb HB.out) hb); clear BK137 BK138 HB HO191; have HO194 := n0_; have BK137 := n1_; have BK138 := n2_; have HB := n3_; clear n0_ n1_ n2_ n3_; clear hb ho72; obtain ⟨Ao73, co73, eo73⟩ := Kd.N_slice HO194.out; subst eo73; obtain ⟨hcz74_0, hcz74_1, hcz74_2⟩ := Qu3 BK138.out; have hfz74_0 := blk_frozen BK138.out 0; have hfz74_1 := blk_frozen BK138.out 1; have hfz74_2 := blk_frozen BK138.out 2))
       refine bodyPost_ret (results_cell_row rfl _ _ gb138 28 #[.int .i64 3, .int .i64 0, .slice Ao73 y192.length co73] (0, 0) _ rfl (by refine Qe ?_; refine blk_put (cs := #[.int .i64 3, .int .i64 0, .slice none 0 0]) ?_ 2 _ rfl; refine Qe ?_; refine blk_put (cs := #[.int .i64 3, .int .i64 0, .slice none 0 0]) ?_ 1 _ rfl; refine Qe ?_; refine blk_put (cs := #[.int .i64 0, .int .i64 0, .slice none 0 0]) ?_ 0 _ rfl; exact Qa BK138.out) Try.underlying28 rfl (by kernel_rfl)) rfl ?_
       exact ⟨_, Qh, by (with_reducible repeat (first | apply Kd.N_alloc | apply Kd.N_drewN | apply Kd.N_drew)); exact Kd.N_mono (Kd.N_far (p := ⟨gb138, 2, none⟩) (Kd.N_far (p := ⟨gb138, 1, none⟩) (Kd.N_far (p := ⟨gb138, 0, none⟩) (Kd.N_mono HO194.out (fun k_ hk => (⟨hk, hk.2.2⟩ : _ ∧ k_ ≠ gb138))) (fun _ hk => hk.2) (.int .i64 3)) (fun _ hk => hk.2) (.int .i64 0)) (fun _ hk => hk.2) (.slice Ao73 y192.length co73)) (fun _ hk => hk.1.1), Qb HB.out⟩

end Go.Proofs.Ythlagaopjmeaaaa.HFnExactNegateExpr

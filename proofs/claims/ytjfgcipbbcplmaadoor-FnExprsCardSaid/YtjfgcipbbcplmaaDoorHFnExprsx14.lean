/- Text for FnExprs: written by a program of this session on the pattern of the kit's print. -/
import Derived.Test.YtjfgcipbbcplmaaDoorHFnExprsx0
import Derived.Test.YtjfgcipbbcplmaaDoorHFnExprsx13
namespace Go.Proofs.YtjfgcipbbcplmaaDoor.HFnExprs
open Go.RowKit Go.Proofs.YtjfgcipbbcplmaaDoorW.PrintWords Go.Proofs.YtjfgcipbbcplmaaDoorW.PrintLast Go.Proofs.YtjfgcipbbcplmaaDoorW.PrintMore
attribute [local go_sem] max2_int min2_int max_two min_two max_three min_three max_four min_four
set_option linter.unusedVariables false
set_option linter.unusedSimpArgs false

/-! ### spec_l10Negate: function 51 -/
mutual
def spec_l10Negate.j0 : Nat → Int → Bool → Int → Int → List (S25) → Option (Int × Int × (List (S25)))
 | 0, _, _, _, _, _ => none
 | k + 1, x4, x23, x629000, x629001, x629002 => if x23 = true then (if 0 < (x629002.length : Int) then ((spec_l10Negate.f k ((rd_T25 x629002 0).f0) ((rd_T25 x629002 0).f1) ((rd_T25 x629002 0).f2)).bind fun bt649 => (if 1 < (x629002.length : Int) then ((spec_l10Negate.f k ((rd_T25 x629002 1).f0) ((rd_T25 x629002 1).f1) ((rd_T25 x629002 1).f2)).bind fun bt655 => (some (x629000, 0, (([(⟨bt649.1, bt649.2.1, bt649.2.2⟩ : S25), (⟨bt655.1, bt655.2.1, bt655.2.2⟩ : S25)] : List (S25)))))) else (none))) else (none)) else (if x4 = 6 then (if 0 < (x629002.length : Int) then ((spec_l10Negate.f k ((rd_T25 x629002 0).f0) ((rd_T25 x629002 0).f1) ((rd_T25 x629002 0).f2)).bind fun bt664 => (if 1 < (x629002.length : Int) then ((spec_l10Copy.f k ((rd_T25 x629002 1).f0) ((rd_T25 x629002 1).f1) ((rd_T25 x629002 1).f2)).bind fun bt670 => (some (x629000, 0, (([(⟨bt664.1, bt664.2.1, bt664.2.2⟩ : S25), (⟨bt670.1, bt670.2.1, bt670.2.2⟩ : S25)] : List (S25)))))) else (none))) else (none)) else ((spec_l10Copy.f k x629000 x629001 x629002).bind fun bt678 => (some (3, 0, (([(⟨bt678.1, bt678.2.1, bt678.2.2⟩ : S25)] : List (S25)))))))
def spec_l10Negate.f : Nat → Int → Int → List (S25) → Option (Int × Int × (List (S25)))
 | 0, _, _, _ => none
 | k + 1, a0_0, a0_1, l0_2 => if a0_0 = 2 then (if 0 < (l0_2.length : Int) then ((spec_l10Negate.f k ((rd_T25 l0_2 0).f0) ((rd_T25 l0_2 0).f1) ((rd_T25 l0_2 0).f2)).bind fun bt631 => (some (2, 0, (([(⟨bt631.1, bt631.2.1, bt631.2.2⟩ : S25)] : List (S25)))))) else (none)) else (if a0_0 = 3 then (if 0 < (l0_2.length : Int) then ((spec_l10Copy.f k ((rd_T25 l0_2 0).f0) ((rd_T25 l0_2 0).f1) ((rd_T25 l0_2 0).f2)).bind fun bt640 => (some (2, 0, (([(⟨bt640.1, bt640.2.1, bt640.2.2⟩ : S25)] : List (S25)))))) else (none)) else (if a0_0 = 4 then (spec_l10Negate.j0 k a0_0 (a0_0 == 4) a0_0 a0_1 l0_2) else (spec_l10Negate.j0 k a0_0 (a0_0 == 5) a0_0 a0_1 l0_2)))
end
def spec_l10Negate.T8 : Bool × List (List Nat × List Nat) := (true, [([], []), ([0], [0]), ([], []), ([2], [2]), ([3], [3]), ([4], [4]), ([5], [5]), ([], []), ([7], [7]), ([8], [8]), ([9], [9]), ([10, 6], [10]), ([6, 11], [6, 11]), ([1, 12], [1, 12]), ([13, 11, 0, 1, 2, 3, 4, 5, 6, 7, 8, 9, 10, 11, 12, 13], [13])])
def spec_l10Negate.B8 : List Nat := [0, 1, 0, 4, 12, 28, 60, 0, 128, 384, 896, 2044, 4092, 8191, 16383]
theorem spec_l10Negate.tab8 : rtab .any (opsOf Tryd.f51 8) = spec_l10Negate.T8 := by kernel_rfl
theorem spec_l10Negate.bits8 : waitsOk spec_l10Negate.T8.2 spec_l10Negate.B8 = true := by kernel_rfl
def spec_l10Negate.T10 : Bool × List (List Nat × List Nat) := (true, [([], []), ([0], [0]), ([], []), ([2], [2]), ([3], [3]), ([4], [4]), ([5], [5]), ([], []), ([7], [7]), ([8], [8]), ([9], [9]), ([10, 6], [10]), ([6, 11], [6, 11]), ([1, 12], [1, 12]), ([13, 11, 0, 1, 2, 3, 4, 5, 6, 7, 8, 9, 10, 11, 12, 13], [13])])
def spec_l10Negate.B10 : List Nat := [0, 1, 0, 4, 12, 28, 60, 0, 128, 384, 896, 2044, 4092, 8191, 16383]
theorem spec_l10Negate.tab10 : rtab .any (opsOf Tryd.f51 10) = spec_l10Negate.T10 := by kernel_rfl
theorem spec_l10Negate.bits10 : waitsOk spec_l10Negate.T10.2 spec_l10Negate.B10 = true := by kernel_rfl
set_option maxHeartbeats 8000000 in
set_option maxRecDepth 100000 in
theorem spec_l10Negate.calls (k : Nat) : ∀ (a0_0 : Int) (a0_1 : Int) (A0_2 : Option Addr) (c0_2 : Nat) (l0_2 : List (S25)) (r1 : Int) (r2 : Int) (r3 : List (S25)) (w : World) (hr0_2 : Kd.C k25 w A0_2 l0_2.length l0_2) (hc0_2 : l0_2.length ≤ c0_2) (h : spec_l10Negate.f k a0_0 a0_1 l0_2 = some (r1, r2, r3)),
  Calls Tryd.prog 51 #[.agg #[.int .i64 a0_0, .int .i64 a0_1, .slice A0_2 l0_2.length c0_2]] w fun e w' => ∃ v2_ : Value, e = .returned (.agg #[.int .i64 r1, .int .i64 r2, v2_]) ∧ Kd.N k25 25 w' w.heap.size (fun k_ => (w.heap.size ≤ k_)) v2_ r3 ∧ Below w.heap.size w w' := by
 induction k using Nat.strongRecOn with
 | _ k ih =>
 intro a0_0 a0_1 A0_2 c0_2 l0_2 r1 r2 r3 w hr0_2 hc0_2 h
 cases k with
 | zero => exact absurd h (by simp [spec_l10Negate.f])
 | succ k =>
 simp only [spec_l10Negate.f] at h
 have hu25 := Tryd.underlying25
 have HR0_2 := Ak hr0_2
 have HC0_2 := Ak hc0_2
 clear hr0_2 hc0_2
 have HB := Ak (Below.refl w.heap.size w)
 have H : (if a0_0 = 2 then (if 0 < (l0_2.length : Int) then ((spec_l10Negate.f k ((rd_T25 l0_2 0).f0) ((rd_T25 l0_2 0).f1) ((rd_T25 l0_2 0).f2)).bind fun bt631 => (some (2, 0, (([(⟨bt631.1, bt631.2.1, bt631.2.2⟩ : S25)] : List (S25)))))) else (none)) else (if a0_0 = 3 then (if 0 < (l0_2.length : Int) then ((spec_l10Copy.f k ((rd_T25 l0_2 0).f0) ((rd_T25 l0_2 0).f1) ((rd_T25 l0_2 0).f2)).bind fun bt640 => (some (2, 0, (([(⟨bt640.1, bt640.2.1, bt640.2.2⟩ : S25)] : List (S25)))))) else (none)) else (if a0_0 = 4 then (spec_l10Negate.j0 k a0_0 (a0_0 == 4) a0_0 a0_1 l0_2) else (spec_l10Negate.j0 k a0_0 (a0_0 == 5) a0_0 a0_1 l0_2)))) = some (r1, r2, r3) := h
 clear h
 by_cases c2 : a0_0 = 2
 ·rw [if_pos c2] at H
  have c2b0 : (a0_0 == 2) = true := beq_iff_eq.mpr c2
  have c2b1 : (a0_0 != 2) = false := bne_eq_false_iff_eq.mpr c2
  clear c2
  by_cases c3 : 0 < (l0_2.length : Int)
  ·rw [if_pos c3] at H
   have c3b0 : decide (0 < (l0_2.length : Int)) = true := decide_eq_true c3
   have c3b1 : decide (0 < l0_2.length) = true := decide_eq_true (by omega)
   clear c3
   replace H := Option.bind_eq_some_iff.mp H
   obtain ⟨⟨t631, t632, t633⟩, A40, H⟩ := H
   replace H : (some (2, 0, (([(⟨t631, t632, t633⟩ : S25)] : List (S25))))) = some (r1, r2, r3) := H
   have A4 := Ak A40
   clear A40
   obtain ⟨y636, hy636⟩ : ∃ y_ : List (S25), y_ = (([(⟨t631, t632, t633⟩ : S25)] : List (S25))) := ⟨_, rfl⟩
   replace H : (some (2, 0, y636)) = some (r1, r2, r3) := by first | (rw [hy636]; with_reducible exact H) | (have H2_ := (Option.bind_some _ _).symm.trans H; rw [hy636]; with_reducible exact H2_) | (have H2_ := (Option.bind_some _ _).symm.trans H; with_reducible exact H2_) | with_reducible exact H | (rw [hy636]; exact H) | exact H
   have Ny636 := Ak hy636
   clear hy636
   simp only [Option.some.injEq, Prod.mk.injEq] at H
   obtain ⟨rfl, rfl, rfl⟩ := H
   go_enter Tryd.func51, Tryd.ntmps51
   go_wp2_with (first | ((with_reducible refine gate_dst (N := 1) rfl ?_); refine Qk 1 #[.int .i64 a0_0, .int .i64 a0_1, .slice A0_2 l0_2.length c0_2] 25 ?_; intro gb628 hg w5 hbox hb; have BK628 := Ak (hbox); have GW628 := Ak ((Qp hg HB.out : w.heap.size ≤ gb628)); have GE628 := Ak ((Qp hg HB.out : w.heap.size ≤ gb628)); replace HB := Ak (below_step (Qb HB.out) hb); clear hb hbox hg) | ((with_reducible refine gate_dst (N := 2) rfl ?_); refine Qk 2 #[.int .i64 0, .int .i64 0, .slice none 0 0] 25 ?_; intro gb629 hg w6 hbox hb; have BK629 := Ak (hbox); have GW629 := Ak ((Qp hg HB.out : w.heap.size ≤ gb629)); have GE629 := Ak ((Qp hg HB.out : w.heap.size ≤ gb629)); replace HB := Ak (below_step (Qb HB.out) hb); have NB628_629 := Ak ((by rw [hg]; exact Nat.ne_of_lt (Qn BK628.out) : gb628 ≠ gb629)); have NB629_628 := Ak ((by rw [hg]; exact Nat.ne_of_gt (Qn BK628.out) : gb629 ≠ gb628)); replace BK628 := Ak (Qm BK628.out hb); clear hb hbox hg; have hnb7 := NB628_629.out; have hnc7 := NB629_628.out; obtain ⟨hcz8_0, hcz8_1, hcz8_2, hfz8_0, hfz8_1, hfz8_2⟩ := Qv3 BK628.out; have p630 : 0 ≤ (0 : Int) := (by omega); have q630 : 0 < (l0_2.length : Int) := Qg; obtain ⟨ad630, A630_2, c630_2, e630, hx630_0, hx630_1, hx630_2, hl630_2, hi630_2⟩ := at_T25 HR0_2.out 0 p630 q630; cases e630; have qi630 : (0 < l0_2.length) = True := eq_true (by omega); (try rw [show ((0 : Int)).toNat = 0 from rfl] at hx630_0); (try rw [show 0 * 3 = 0 from rfl] at hx630_0); (try rw [Addr.add_zero'] at hx630_0); (try rw [show ((0 : Int)).toNat = 0 from rfl] at hx630_1); (try rw [show 0 * 3 = 0 from rfl] at hx630_1); (try rw [Addr.add_zero'] at hx630_1); (try rw [show ((0 : Int)).toNat = 0 from rfl] at hx630_2); (try rw [show 0 * 3 = 0 from rfl] at hx630_2); (try rw [Addr.add_zero'] at hx630_2); replace hx630_0 := (HB.out.cell (World.block_lt_of_cell? w _ hx630_0)).trans hx630_0; replace hx630_1 := (HB.out.cell (World.block_lt_of_cell? w _ hx630_1)).trans hx630_1; replace hx630_2 := (HB.out.cell (World.block_lt_of_cell? w _ hx630_2)).trans hx630_2; have HR630_2 := Ak hi630_2; have HC630_2 := Ak hl630_2; clear hi630_2 hl630_2; replace p630 := eq_true p630; replace q630 := eq_true q630) | ((with_reducible refine gate_callee (f := 51) rfl ?_); refine Qj (some 11) Tryd.func51 #[.agg #[.int .i64 ((rd_T25 l0_2 0).f0), .int .i64 ((rd_T25 l0_2 0).f1), .slice A630_2 ((rd_T25 l0_2 0).f2).length c630_2]] ?_; (with_reducible refine (ih k (by omega) ((rd_T25 l0_2 0).f0) ((rd_T25 l0_2 0).f1) _ _ ((rd_T25 l0_2 0).f2) t631 t632 t633 _ ?side1 ?side2 A4.out).mono ?_); (case side1 => repeat (first | exact (Kd.C_below HR630_2.out HB.out) | (with_reducible refine Kd.C_alloc ?_ _) | (with_reducible refine Kd.C_drewN ?_ _) | (with_reducible refine Kd.C_drew ?_))); (case side2 => exact HC630_2.out); rintro e w9 ⟨v634, rfl, ho0, hb⟩; refine ⟨_, rfl, ?_⟩; have HO635 := Ak (Kd.N_lower (Kd.N_mono (ok' := fun k_ => (w.heap.size ≤ k_) ∧ k_ ≠ gb628 ∧ k_ ≠ gb629) ho0 (fun k_ hk_ => ⟨(Nat.le_trans (below_size (Qb HB.out)) hk_), (Kd.freshB (g := gb628) (o := .cells #[.int .i64 a0_0, .int .i64 a0_1, .slice (some ad630) l0_2.length c0_2] 25 (0, 0)) (Qa BK628.out) k_ hk_), (Kd.freshB (g := gb629) (o := .cells #[.int .i64 0, .int .i64 0, .slice none 0 0] 25 (0, 0)) (Qa BK629.out) k_ hk_)⟩)) (below_size (Qb HB.out))); replace BK628 := Ak (Qm BK628.out hb); replace BK629 := Ak (Qm BK629.out hb); replace HB := Ak (below_step (Qb HB.out) hb); (try clear hb); (try clear ho0); obtain ⟨Ao10, co10, eo10⟩ := Kd.N_slice HO635.out; subst eo10) | ((with_reducible refine gate_dst (N := 12) rfl ?_); refine Kd.N_lit k25 _ 25 ?hg (N' := 12) ?hd (xs := ([(⟨t631, t632, t633⟩ : S25)] : List (S25))) (inner := [.int .i64 t631, .int .i64 t632, .slice Ao10 t633.length co10]) (ok := (fun k_ => (w.heap.size ≤ k_) ∧ k_ ≠ gb628 ∧ k_ ≠ gb629)) (okp := (fun k_ => (w.heap.size ≤ k_) ∧ k_ ≠ gb628 ∧ k_ ≠ gb629)) ?hr ?hp (fun _ hk => hk) ((show ∀ k_, w9.heap.size ≤ k_ → (fun k_ => (w.heap.size ≤ k_) ∧ k_ ≠ gb628 ∧ k_ ≠ gb629) k_ from fun k_ hk => ⟨(Nat.le_trans (below_size (Qb HB.out)) hk), Kd.freshB (g := gb628) (o := .cells #[.int .i64 a0_0, .int .i64 a0_1, .slice (some ad630) l0_2.length c0_2] 25 (0, 0)) (Qa BK628.out) k_ hk, Kd.freshB (g := gb629) (o := .cells #[.int .i64 0, .int .i64 0, .slice none 0 0] 25 (0, 0)) (Qa BK629.out) k_ hk⟩) _ (Nat.le_refl _)) (Below.refl _ _) (Nat.le_refl _) (by simp) ?_; (case hd => rfl); (case hg => rfl); (case hr => exact U_24); (case hp => exact (Reps.c3 (show Kd.FK k25 _ _ (⟨t631, t632, t633⟩ : S25) [.int .i64 t631, .int .i64 t632, .slice Ao10 t633.length co10] from (k25_mkF _ _ (⟨t631, t632, t633⟩ : S25) (Kd.N_reads' (Kd.N_mono (ok' := (fun k_ => (w.heap.size ≤ k_) ∧ k_ ≠ gb628 ∧ k_ ≠ gb629)) (HO635.out) (fun k_ hk => ⟨hk.1, ⟨hk.2.1, hk.2.2⟩⟩))).2.1 (Kd.N_F (Kd.N_mono (ok' := (fun k_ => (w.heap.size ≤ k_) ∧ k_ ≠ gb628 ∧ k_ ≠ gb629)) (HO635.out) (fun k_ hk => ⟨hk.1, ⟨hk.2.1, hk.2.2⟩⟩))))) (Reps.none _ _))); intro v637 w11 ho12 hb hg_ hnew_; clear hg_ hnew_; (first | rw [← Ny636.out] at ho12 | (simp only [Int.reduceToNat] at ho12; rw [← Ny636.out] at ho12)); have HO638 := Ak (Kd.N_lower ho12 (below_size (Qb HB.out))); replace BK628 := Ak (Qm BK628.out hb); replace BK629 := Ak (Qm BK629.out hb); replace HB := Ak (below_step (Qb HB.out) hb); clear HO635; clear hb ho12; obtain ⟨Ao13, co13, eo13⟩ := Kd.N_slice HO638.out; subst eo13; obtain ⟨hcz14_0, hcz14_1, hcz14_2⟩ := Qu3 BK629.out; have hfz14_0 := blk_frozen BK629.out 0; have hfz14_1 := blk_frozen BK629.out 1; have hfz14_2 := blk_frozen BK629.out 2))
   refine bodyPost_ret (results_cell_row rfl _ _ gb629 25 #[.int .i64 2, .int .i64 0, .slice Ao13 y636.length co13] (0, 0) _ rfl (by refine Qe ?_; refine blk_put (cs := #[.int .i64 2, .int .i64 0, .slice none 0 0]) ?_ 2 _ rfl; refine Qe ?_; refine blk_put (cs := #[.int .i64 2, .int .i64 0, .slice none 0 0]) ?_ 1 _ rfl; refine Qe ?_; refine blk_put (cs := #[.int .i64 0, .int .i64 0, .slice none 0 0]) ?_ 0 _ rfl; exact Qa BK629.out) Tryd.underlying25 rfl (by kernel_rfl)) rfl ?_
   exact ⟨_, Qh, by (with_reducible repeat (first | apply Kd.N_alloc | apply Kd.N_drewN | apply Kd.N_drew)); exact Kd.N_mono (Kd.N_far (p := ⟨gb629, 2, none⟩) (Kd.N_far (p := ⟨gb629, 1, none⟩) (Kd.N_far (p := ⟨gb629, 0, none⟩) (Kd.N_mono HO638.out (fun k_ hk => (⟨hk, hk.2.2⟩ : _ ∧ k_ ≠ gb629))) (fun _ hk => hk.2) (.int .i64 2)) (fun _ hk => hk.2) (.int .i64 0)) (fun _ hk => hk.2) (.slice Ao13 y636.length co13)) (fun _ hk => hk.1.1), Qb HB.out⟩
  ·rw [if_neg c3] at H
   exact absurd H (by simp)
 ·rw [if_neg c2] at H
  have c2b0 : (a0_0 == 2) = false := beq_eq_false_iff_ne.mpr c2
  have c2b1 : (a0_0 != 2) = true := bne_iff_ne.mpr c2
  by_cases c15 : a0_0 = 3
  ·rw [if_pos c15] at H
   have c15b0 : (a0_0 == 3) = true := beq_iff_eq.mpr c15
   have c15b1 : (a0_0 != 3) = false := bne_eq_false_iff_eq.mpr c15
   clear c15
   by_cases c16 : 0 < (l0_2.length : Int)
   ·rw [if_pos c16] at H
    have c16b0 : decide (0 < (l0_2.length : Int)) = true := decide_eq_true c16
    have c16b1 : decide (0 < l0_2.length) = true := decide_eq_true (by omega)
    clear c16
    replace H := Option.bind_eq_some_iff.mp H
    obtain ⟨⟨t640, t641, t642⟩, A170, H⟩ := H
    replace H : (some (2, 0, (([(⟨t640, t641, t642⟩ : S25)] : List (S25))))) = some (r1, r2, r3) := H
    have A17 := Ak A170
    clear A170
    obtain ⟨y645, hy645⟩ : ∃ y_ : List (S25), y_ = (([(⟨t640, t641, t642⟩ : S25)] : List (S25))) := ⟨_, rfl⟩
    replace H : (some (2, 0, y645)) = some (r1, r2, r3) := by first | (rw [hy645]; with_reducible exact H) | (have H2_ := (Option.bind_some _ _).symm.trans H; rw [hy645]; with_reducible exact H2_) | (have H2_ := (Option.bind_some _ _).symm.trans H; with_reducible exact H2_) | with_reducible exact H | (rw [hy645]; exact H) | exact H
    have Ny645 := Ak hy645
    clear hy645
    simp only [Option.some.injEq, Prod.mk.injEq] at H
    obtain ⟨rfl, rfl, rfl⟩ := H
    go_enter Tryd.func51, Tryd.ntmps51
    go_wp2_with (first | ((with_reducible refine gate_dst (N := 1) rfl ?_); refine Qk 1 #[.int .i64 a0_0, .int .i64 a0_1, .slice A0_2 l0_2.length c0_2] 25 ?_; intro gb628 hg w18 hbox hb; have BK628 := Ak (hbox); have GW628 := Ak ((Qp hg HB.out : w.heap.size ≤ gb628)); have GE628 := Ak ((Qp hg HB.out : w.heap.size ≤ gb628)); replace HB := Ak (below_step (Qb HB.out) hb); clear hb hbox hg) | ((with_reducible refine gate_dst (N := 2) rfl ?_); refine Qk 2 #[.int .i64 0, .int .i64 0, .slice none 0 0] 25 ?_; intro gb629 hg w19 hbox hb; have BK629 := Ak (hbox); have GW629 := Ak ((Qp hg HB.out : w.heap.size ≤ gb629)); have GE629 := Ak ((Qp hg HB.out : w.heap.size ≤ gb629)); replace HB := Ak (below_step (Qb HB.out) hb); have NB628_629 := Ak ((by rw [hg]; exact Nat.ne_of_lt (Qn BK628.out) : gb628 ≠ gb629)); have NB629_628 := Ak ((by rw [hg]; exact Nat.ne_of_gt (Qn BK628.out) : gb629 ≠ gb628)); replace BK628 := Ak (Qm BK628.out hb); clear hb hbox hg; have hnb20 := NB628_629.out; have hnc20 := NB629_628.out; obtain ⟨hcz21_0, hcz21_1, hcz21_2, hfz21_0, hfz21_1, hfz21_2⟩ := Qv3 BK628.out; have p639 : 0 ≤ (0 : Int) := (by omega); have q639 : 0 < (l0_2.length : Int) := Qg; obtain ⟨ad639, A639_2, c639_2, e639, hx639_0, hx639_1, hx639_2, hl639_2, hi639_2⟩ := at_T25 HR0_2.out 0 p639 q639; cases e639; have qi639 : (0 < l0_2.length) = True := eq_true (by omega); (try rw [show ((0 : Int)).toNat = 0 from rfl] at hx639_0); (try rw [show 0 * 3 = 0 from rfl] at hx639_0); (try rw [Addr.add_zero'] at hx639_0); (try rw [show ((0 : Int)).toNat = 0 from rfl] at hx639_1); (try rw [show 0 * 3 = 0 from rfl] at hx639_1); (try rw [Addr.add_zero'] at hx639_1); (try rw [show ((0 : Int)).toNat = 0 from rfl] at hx639_2); (try rw [show 0 * 3 = 0 from rfl] at hx639_2); (try rw [Addr.add_zero'] at hx639_2); replace hx639_0 := (HB.out.cell (World.block_lt_of_cell? w _ hx639_0)).trans hx639_0; replace hx639_1 := (HB.out.cell (World.block_lt_of_cell? w _ hx639_1)).trans hx639_1; replace hx639_2 := (HB.out.cell (World.block_lt_of_cell? w _ hx639_2)).trans hx639_2; have HR639_2 := Ak hi639_2; have HC639_2 := Ak hl639_2; clear hi639_2 hl639_2; replace p639 := eq_true p639; replace q639 := eq_true q639) | ((with_reducible refine gate_callee (f := 93) rfl ?_); refine Qj (some 20) Tryd.func93 #[.agg #[.int .i64 ((rd_T25 l0_2 0).f0), .int .i64 ((rd_T25 l0_2 0).f1), .slice A639_2 ((rd_T25 l0_2 0).f2).length c639_2]] ?_; (with_reducible refine (spec_l10Copy.calls k ((rd_T25 l0_2 0).f0) ((rd_T25 l0_2 0).f1) _ _ ((rd_T25 l0_2 0).f2) t640 t641 t642 _ ?side1 ?side2 A17.out).mono ?_); (case side1 => repeat (first | exact (Kd.C_below HR639_2.out HB.out) | (with_reducible refine Kd.C_alloc ?_ _) | (with_reducible refine Kd.C_drewN ?_ _) | (with_reducible refine Kd.C_drew ?_))); (case side2 => exact HC639_2.out); rintro e w22 ⟨v643, rfl, ho0, hb⟩; refine ⟨_, rfl, ?_⟩; have HO644 := Ak (Kd.N_lower (Kd.N_mono (ok' := fun k_ => (w.heap.size ≤ k_) ∧ k_ ≠ gb628 ∧ k_ ≠ gb629) (Kd.R_N (Kd.R_bound ho0)) (fun k_ hk_ => ⟨(Nat.le_trans (below_size (Qb HB.out)) hk_.2.1), (Kd.freshB (g := gb628) (o := .cells #[.int .i64 a0_0, .int .i64 a0_1, .slice (some ad639) l0_2.length c0_2] 25 (0, 0)) (Qa BK628.out) k_ hk_.2.1), (Kd.freshB (g := gb629) (o := .cells #[.int .i64 0, .int .i64 0, .slice none 0 0] 25 (0, 0)) (Qa BK629.out) k_ hk_.2.1)⟩)) (below_size (Qb HB.out))); replace BK628 := Ak (Qm BK628.out hb); replace BK629 := Ak (Qm BK629.out hb); replace HB := Ak (below_step (Qb HB.out) hb); (try clear hb); (try clear ho0); obtain ⟨Ao23, co23, eo23⟩ := Kd.N_slice HO644.out; subst eo23) | ((with_reducible refine gate_dst (N := 21) rfl ?_); refine Kd.N_lit k25 _ 25 ?hg (N' := 21) ?hd (xs := ([(⟨t640, t641, t642⟩ : S25)] : List (S25))) (inner := [.int .i64 t640, .int .i64 t641, .slice Ao23 t642.length co23]) (ok := (fun k_ => (w.heap.size ≤ k_) ∧ k_ ≠ gb628 ∧ k_ ≠ gb629)) (okp := (fun k_ => (w.heap.size ≤ k_) ∧ k_ ≠ gb628 ∧ k_ ≠ gb629)) ?hr ?hp (fun _ hk => hk) ((show ∀ k_, w22.heap.size ≤ k_ → (fun k_ => (w.heap.size ≤ k_) ∧ k_ ≠ gb628 ∧ k_ ≠ gb629) k_ from fun k_ hk => ⟨(Nat.le_trans (below_size (Qb HB.out)) hk), Kd.freshB (g := gb628) (o := .cells #[.int .i64 a0_0, .int .i64 a0_1, .slice (some ad639) l0_2.length c0_2] 25 (0, 0)) (Qa BK628.out) k_ hk, Kd.freshB (g := gb629) (o := .cells #[.int .i64 0, .int .i64 0, .slice none 0 0] 25 (0, 0)) (Qa BK629.out) k_ hk⟩) _ (Nat.le_refl _)) (Below.refl _ _) (Nat.le_refl _) (by simp) ?_; (case hd => rfl); (case hg => rfl); (case hr => exact U_24); (case hp => exact (Reps.c3 (show Kd.FK k25 _ _ (⟨t640, t641, t642⟩ : S25) [.int .i64 t640, .int .i64 t641, .slice Ao23 t642.length co23] from (k25_mkF _ _ (⟨t640, t641, t642⟩ : S25) (Kd.N_reads' (Kd.N_mono (ok' := (fun k_ => (w.heap.size ≤ k_) ∧ k_ ≠ gb628 ∧ k_ ≠ gb629)) (HO644.out) (fun k_ hk => ⟨hk.1, ⟨hk.2.1, hk.2.2⟩⟩))).2.1 (Kd.N_F (Kd.N_mono (ok' := (fun k_ => (w.heap.size ≤ k_) ∧ k_ ≠ gb628 ∧ k_ ≠ gb629)) (HO644.out) (fun k_ hk => ⟨hk.1, ⟨hk.2.1, hk.2.2⟩⟩))))) (Reps.none _ _))); intro v646 w24 ho25 hb hg_ hnew_; clear hg_ hnew_; (first | rw [← Ny645.out] at ho25 | (simp only [Int.reduceToNat] at ho25; rw [← Ny645.out] at ho25)); have HO647 := Ak (Kd.N_lower ho25 (below_size (Qb HB.out))); replace BK628 := Ak (Qm BK628.out hb); replace BK629 := Ak (Qm BK629.out hb); replace HB := Ak (below_step (Qb HB.out) hb); clear HO644; clear hb ho25; obtain ⟨Ao26, co26, eo26⟩ := Kd.N_slice HO647.out; subst eo26; obtain ⟨hcz27_0, hcz27_1, hcz27_2⟩ := Qu3 BK629.out; have hfz27_0 := blk_frozen BK629.out 0; have hfz27_1 := blk_frozen BK629.out 1; have hfz27_2 := blk_frozen BK629.out 2))
    refine bodyPost_ret (results_cell_row rfl _ _ gb629 25 #[.int .i64 2, .int .i64 0, .slice Ao26 y645.length co26] (0, 0) _ rfl (by refine Qe ?_; refine blk_put (cs := #[.int .i64 2, .int .i64 0, .slice none 0 0]) ?_ 2 _ rfl; refine Qe ?_; refine blk_put (cs := #[.int .i64 2, .int .i64 0, .slice none 0 0]) ?_ 1 _ rfl; refine Qe ?_; refine blk_put (cs := #[.int .i64 0, .int .i64 0, .slice none 0 0]) ?_ 0 _ rfl; exact Qa BK629.out) Tryd.underlying25 rfl (by kernel_rfl)) rfl ?_
    exact ⟨_, Qh, by (with_reducible repeat (first | apply Kd.N_alloc | apply Kd.N_drewN | apply Kd.N_drew)); exact Kd.N_mono (Kd.N_far (p := ⟨gb629, 2, none⟩) (Kd.N_far (p := ⟨gb629, 1, none⟩) (Kd.N_far (p := ⟨gb629, 0, none⟩) (Kd.N_mono HO647.out (fun k_ hk => (⟨hk, hk.2.2⟩ : _ ∧ k_ ≠ gb629))) (fun _ hk => hk.2) (.int .i64 2)) (fun _ hk => hk.2) (.int .i64 0)) (fun _ hk => hk.2) (.slice Ao26 y645.length co26)) (fun _ hk => hk.1.1), Qb HB.out⟩
   ·rw [if_neg c16] at H
    exact absurd H (by simp)
  ·rw [if_neg c15] at H
   have c15b0 : (a0_0 == 3) = false := beq_eq_false_iff_ne.mpr c15
   have c15b1 : (a0_0 != 3) = true := bne_iff_ne.mpr c15
   have HC28 := Ak H
   clear H
   go_enter Tryd.func51, Tryd.ntmps51
   go_upto_if 23 with (first | ((with_reducible refine gate_dst (N := 1) rfl ?_); refine Qk 1 #[.int .i64 a0_0, .int .i64 a0_1, .slice A0_2 l0_2.length c0_2] 25 ?_; intro gb628 hg w29 hbox hb; have BK628 := Ak (hbox); have GW628 := Ak ((Qp hg HB.out : w.heap.size ≤ gb628)); have GE628 := Ak ((Qp hg HB.out : w.heap.size ≤ gb628)); replace HB := Ak (below_step (Qb HB.out) hb); clear hb hbox hg) | ((with_reducible refine gate_dst (N := 2) rfl ?_); refine Qk 2 #[.int .i64 0, .int .i64 0, .slice none 0 0] 25 ?_; intro gb629 hg w30 hbox hb; have BK629 := Ak (hbox); have GW629 := Ak ((Qp hg HB.out : w.heap.size ≤ gb629)); have GE629 := Ak ((Qp hg HB.out : w.heap.size ≤ gb629)); replace HB := Ak (below_step (Qb HB.out) hb); have NB628_629 := Ak ((by rw [hg]; exact Nat.ne_of_lt (Qn BK628.out) : gb628 ≠ gb629)); have NB629_628 := Ak ((by rw [hg]; exact Nat.ne_of_gt (Qn BK628.out) : gb629 ≠ gb628)); replace BK628 := Ak (Qm BK628.out hb); clear hb hbox hg; have hnb31 := NB628_629.out; have hnc31 := NB629_628.out; obtain ⟨hcz32_0, hcz32_1, hcz32_2⟩ := Qu3 BK628.out; have hfz32_0 := blk_frozen BK628.out 0; have hfz32_1 := blk_frozen BK628.out 1; have hfz32_2 := blk_frozen BK628.out 2))
   (try simp only [Act.put, List.setIfInBounds_toArray, List.set_cons_zero, List.set_cons_succ])
   go_cut [23] (fun v23 wc => ∃ (kq : Nat) (x23_27 : Bool), v23 = .bool x23_27 ∧ Aside0 (spec_l10Negate.j0 kq a0_0 x23_27 a0_0 a0_1 l0_2 = some (r1, r2, r3)) ∧ Aside0 (kq ≤ k) ∧ Aside0 (wc.heap[gb628]? = some (.cells #[.int .i64 a0_0, .int .i64 a0_1, (.slice A0_2 l0_2.length c0_2)] 25 (0, 0))) ∧ Aside0 (wc.heap[gb629]? = some (.cells #[.int .i64 0, .int .i64 0, (.slice none 0 0)] 25 (0, 0))) ∧ Aside0 (Below w.heap.size w wc))
   case first =>
    have H := HC28.out
    clear HC28
    by_cases c33 : a0_0 = 4
    ·rw [if_pos c33] at H
     have c33b0 : (a0_0 == 4) = true := beq_iff_eq.mpr c33
     have c33b1 : (a0_0 != 4) = false := bne_eq_false_iff_eq.mpr c33
     clear c33
     (first | rw [c33b0] | (simp only [i64_w, i32_w]; rw [c33b0]) | skip)
     have H' := Ak H
     clear H
     go_wp2
     go_meet
     case rel => exact ⟨_, ((a0_0 == 4)), Qi, H', ⟨by first | omega | exact Nat.le_refl _⟩, ⟨by refine Qe ?_; exact BK628.out⟩, ⟨by refine Qe ?_; exact BK629.out⟩, ⟨Qb HB.out⟩⟩
    ·rw [if_neg c33] at H
     have c33b0 : (a0_0 == 4) = false := beq_eq_false_iff_ne.mpr c33
     have c33b1 : (a0_0 != 4) = true := bne_iff_ne.mpr c33
     (first | rw [c33b0] | (simp only [i64_w, i32_w]; rw [c33b0]) | skip)
     have H' := Ak H
     clear H
     go_wp2
     go_meet
     case rel => exact ⟨_, ((a0_0 == 5)), Qi, H', ⟨by first | omega | exact Nat.le_refl _⟩, ⟨by refine Qe ?_; exact BK628.out⟩, ⟨by refine Qe ?_; exact BK629.out⟩, ⟨Qb HB.out⟩⟩
   case rest =>
    clear HC28
    (try clear c1)
    obtain ⟨kq, x23_27, rfl, HA, HJ27, BK628, BK629, HB⟩ := hcut
    cases kq with
    | zero => exact absurd HA.out (by simp [spec_l10Negate.j0])
    | succ kj27 =>
     have H := HA.out
     clear HA
     simp only [spec_l10Negate.j0] at H
     by_cases c34 : x23_27 = true
     ·(try subst c34)
      have H1 : (if 0 < (l0_2.length : Int) then ((spec_l10Negate.f kj27 ((rd_T25 l0_2 0).f0) ((rd_T25 l0_2 0).f1) ((rd_T25 l0_2 0).f2)).bind fun bt649 => (if 1 < (l0_2.length : Int) then ((spec_l10Negate.f kj27 ((rd_T25 l0_2 1).f0) ((rd_T25 l0_2 1).f1) ((rd_T25 l0_2 1).f2)).bind fun bt655 => (some (a0_0, 0, (([(⟨bt649.1, bt649.2.1, bt649.2.2⟩ : S25), (⟨bt655.1, bt655.2.1, bt655.2.2⟩ : S25)] : List (S25)))))) else (none))) else (none)) = some (r1, r2, r3) := by rw [if_pos rfl] at H; exact H
      clear H
      have H := H1
      clear H1
      by_cases c35 : 0 < (l0_2.length : Int)
      ·rw [if_pos c35] at H
       have c35b0 : decide (0 < (l0_2.length : Int)) = true := decide_eq_true c35
       have c35b1 : decide (0 < l0_2.length) = true := decide_eq_true (by omega)
       clear c35
       replace H := Option.bind_eq_some_iff.mp H
       obtain ⟨⟨t649, t650, t651⟩, A360, H⟩ := H
       replace H : (if 1 < (l0_2.length : Int) then ((spec_l10Negate.f kj27 ((rd_T25 l0_2 1).f0) ((rd_T25 l0_2 1).f1) ((rd_T25 l0_2 1).f2)).bind fun bt655 => (some (a0_0, 0, (([(⟨t649, t650, t651⟩ : S25), (⟨bt655.1, bt655.2.1, bt655.2.2⟩ : S25)] : List (S25)))))) else (none)) = some (r1, r2, r3) := H
       have A36 := Ak A360
       clear A360
       by_cases c37 : 1 < (l0_2.length : Int)
       ·rw [if_pos c37] at H
        have c37b0 : decide (1 < (l0_2.length : Int)) = true := decide_eq_true c37
        have c37b1 : decide (1 < l0_2.length) = true := decide_eq_true (by omega)
        clear c37
        replace H := Option.bind_eq_some_iff.mp H
        obtain ⟨⟨t655, t656, t657⟩, A380, H⟩ := H
        replace H : (some (a0_0, 0, (([(⟨t649, t650, t651⟩ : S25), (⟨t655, t656, t657⟩ : S25)] : List (S25))))) = some (r1, r2, r3) := H
        have A38 := Ak A380
        clear A380
        obtain ⟨y660, hy660⟩ : ∃ y_ : List (S25), y_ = (([(⟨t649, t650, t651⟩ : S25), (⟨t655, t656, t657⟩ : S25)] : List (S25))) := ⟨_, rfl⟩
        replace H : (some (a0_0, 0, y660)) = some (r1, r2, r3) := by first | (rw [hy660]; with_reducible exact H) | (have H2_ := (Option.bind_some _ _).symm.trans H; rw [hy660]; with_reducible exact H2_) | (have H2_ := (Option.bind_some _ _).symm.trans H; with_reducible exact H2_) | with_reducible exact H | (rw [hy660]; exact H) | exact H
        have Ny660 := Ak hy660
        clear hy660
        simp only [Option.some.injEq, Prod.mk.injEq] at H
        obtain ⟨rfl, rfl, rfl⟩ := H
        try go_wp2
        have n0_ := Ak (blk_drew BK628.out)
        have n1_ := Ak (blk_drew BK629.out)
        have n2_ := Ak (below_drew1 HB.out)
        clear BK628 BK629 HB
        have BK628 := n0_
        have BK629 := n1_
        have HB := n2_
        clear n0_ n1_ n2_
        have p648 : 0 ≤ (0 : Int) := (by omega)
        have q648 : 0 < (l0_2.length : Int) := Qg
        obtain ⟨ad648, A648_2, c648_2, e648, hx648_0, hx648_1, hx648_2, hl648_2, hi648_2⟩ := at_T25 HR0_2.out 0 p648 q648
        have hw648_2 := hx648_2
        (try rw [show ((0 : Int)).toNat = 0 from rfl] at hw648_2)
        (try rw [show 0 * 3 = 0 from rfl] at hw648_2)
        (try rw [Addr.add_zero'] at hw648_2)
        have hw648_1 := hx648_1
        (try rw [show ((0 : Int)).toNat = 0 from rfl] at hw648_1)
        (try rw [show 0 * 3 = 0 from rfl] at hw648_1)
        (try rw [Addr.add_zero'] at hw648_1)
        have hw648_0 := hx648_0
        (try rw [show ((0 : Int)).toNat = 0 from rfl] at hw648_0)
        (try rw [show 0 * 3 = 0 from rfl] at hw648_0)
        (try rw [Addr.add_zero'] at hw648_0)
        cases e648
        have qi648 : (0 < l0_2.length) = True := eq_true (by omega)
        (try rw [show ((0 : Int)).toNat = 0 from rfl] at hx648_0)
        (try rw [show 0 * 3 = 0 from rfl] at hx648_0)
        (try rw [Addr.add_zero'] at hx648_0)
        (try rw [show ((0 : Int)).toNat = 0 from rfl] at hx648_1)
        (try rw [show 0 * 3 = 0 from rfl] at hx648_1)
        (try rw [Addr.add_zero'] at hx648_1)
        (try rw [show ((0 : Int)).toNat = 0 from rfl] at hx648_2)
        (try rw [show 0 * 3 = 0 from rfl] at hx648_2)
        (try rw [Addr.add_zero'] at hx648_2)
        (try replace hx648_0 := (HB.out.cell (World.block_lt_of_cell? w _ hx648_0)).trans hx648_0)
        (try replace hx648_1 := (HB.out.cell (World.block_lt_of_cell? w _ hx648_1)).trans hx648_1)
        (try replace hx648_2 := (HB.out.cell (World.block_lt_of_cell? w _ hx648_2)).trans hx648_2)
        have HR648_2 := Ak hi648_2
        have HC648_2 := Ak hl648_2
        clear hi648_2 hl648_2
        replace p648 := eq_true p648
        replace q648 := eq_true q648
        have p654 : 0 ≤ (1 : Int) := (by omega)
        have q654 : 1 < (l0_2.length : Int) := Qg
        obtain ⟨ad654, A654_2, c654_2, e654, hx654_0, hx654_1, hx654_2, hl654_2, hi654_2⟩ := at_T25 HR0_2.out 1 p654 q654
        have hw654_2 := hx654_2
        (try rw [show ((1 : Int)).toNat = 1 from rfl] at hw654_2)
        (try rw [show 1 * 3 = 3 from rfl] at hw654_2)
        (try simp only [Nat.reduceMul, Nat.reduceEqDiff, Go.Addr.add, ↓reduceIte] at hw654_2)
        have hw654_1 := hx654_1
        (try rw [show ((1 : Int)).toNat = 1 from rfl] at hw654_1)
        (try rw [show 1 * 3 = 3 from rfl] at hw654_1)
        (try simp only [Nat.reduceMul, Nat.reduceEqDiff, Go.Addr.add, ↓reduceIte] at hw654_1)
        have hw654_0 := hx654_0
        (try rw [show ((1 : Int)).toNat = 1 from rfl] at hw654_0)
        (try rw [show 1 * 3 = 3 from rfl] at hw654_0)
        (try simp only [Nat.reduceMul, Nat.reduceEqDiff, Go.Addr.add, ↓reduceIte] at hw654_0)
        obtain rfl : ad648 = ad654 := (by injection e654)
        (try simp only [show (1 : Int).toNat = 1 from rfl, Nat.reduceMul, Nat.reduceEqDiff, Go.Addr.add, ↓reduceIte] at hx654_0)
        (try simp only [show (1 : Int).toNat = 1 from rfl, Nat.reduceMul, Nat.reduceEqDiff, Go.Addr.add, ↓reduceIte] at hx654_1)
        (try simp only [show (1 : Int).toNat = 1 from rfl, Nat.reduceMul, Nat.reduceEqDiff, Go.Addr.add, ↓reduceIte] at hx654_2)
        have qi654 : (1 < l0_2.length) = True := eq_true (by omega)
        (try rw [show ((1 : Int)).toNat = 1 from rfl] at hx654_0)
        (try rw [show 1 * 3 = 3 from rfl] at hx654_0)
        (try rw [show ((1 : Int)).toNat = 1 from rfl] at hx654_1)
        (try rw [show 1 * 3 = 3 from rfl] at hx654_1)
        (try rw [show ((1 : Int)).toNat = 1 from rfl] at hx654_2)
        (try rw [show 1 * 3 = 3 from rfl] at hx654_2)
        (try replace hx654_0 := (HB.out.cell (World.block_lt_of_cell? w _ hx654_0)).trans hx654_0)
        (try replace hx654_1 := (HB.out.cell (World.block_lt_of_cell? w _ hx654_1)).trans hx654_1)
        (try replace hx654_2 := (HB.out.cell (World.block_lt_of_cell? w _ hx654_2)).trans hx654_2)
        have HR654_2 := Ak hi654_2
        have HC654_2 := Ak hl654_2
        clear hi654_2 hl654_2
        replace p654 := eq_true p654
        replace q654 := eq_true q654
        refine start_ (n := 15) (S := fun w' => w'.cell? ⟨gb628, 0, none⟩ = some (.int .i64 a0_0) ∧ w'.cell? ⟨gb628, 1, none⟩ = some (.int .i64 a0_1) ∧ w'.cell? ⟨gb628, 2, none⟩ = some (.slice (some ad648) l0_2.length c0_2) ∧ w'.cell? ad648 = some (.int .i64 ((rd_T25 l0_2 0).f0)) ∧ w'.cell? ⟨ad648.block, ad648.off + 1, none⟩ = some (.int .i64 ((rd_T25 l0_2 0).f1)) ∧ w'.cell? ⟨ad648.block, ad648.off + 2, none⟩ = some (.slice A648_2 ((rd_T25 l0_2 0).f2).length c648_2) ∧ w'.cell? ⟨ad648.block, ad648.off + 3, none⟩ = some (.int .i64 ((rd_T25 l0_2 1).f0)) ∧ w'.cell? ⟨ad648.block, ad648.off + 3 + 1, none⟩ = some (.int .i64 ((rd_T25 l0_2 1).f1)) ∧ w'.cell? ⟨ad648.block, ad648.off + 3 + 2, none⟩ = some (.slice A654_2 ((rd_T25 l0_2 1).f2).length c654_2)) (ds := []) #[false, false, false, false, false, false, false, false, false, false, false, false, false, false, false] (by kernel_rfl) rfl rfl ⟨(blk_cell BK628.out 0).trans rfl, (blk_cell BK628.out 1).trans rfl, (blk_cell BK628.out 2).trans rfl, ((HB.out.cell (World.block_lt_of_cell? w _ hw648_0)).trans hw648_0), ((HB.out.cell (World.block_lt_of_cell? w _ hw648_1)).trans hw648_1), ((HB.out.cell (World.block_lt_of_cell? w _ hw648_2)).trans hw648_2), ((HB.out.cell (World.block_lt_of_cell? w _ hw654_0)).trans hw654_0), ((HB.out.cell (World.block_lt_of_cell? w _ hw654_1)).trans hw654_1), ((HB.out.cell (World.block_lt_of_cell? w _ hw654_2)).trans hw654_2)⟩ (fun hHeld => ?_); refine with_tabW spec_l10Negate.tab8 spec_l10Negate.bits8 (fun HT_ HW_ => ?_)
        generalize wc.drew = w39 at BK628 BK629 HB HR648_2 HR654_2 hx648_0 hx648_1 hx648_2 hx654_0 hx654_1 hx654_2 hHeld ⊢
        refine Qq 0 (some 26) ?_
        refine Qq 2 (some 28) ?_
        refine Qq 7 (some 33) ?_
        refine Qr 1 (some 27) hHeld ?_
        refine Qr 3 (some 29) hHeld ?_
        refine Qq 4 (some 30) ?_
        refine Qr 5 (some 31) hHeld ?_
        refine Qr 8 (some 34) hHeld ?_
        refine Qq 9 (some 35) ?_
        refine Qr 10 (some 36) hHeld ?_
        refine Qs 6 (some 32) (fun K hK => ?_)
        refine goes_ Tryd.func51 (by kernel_rfl) rfl #[.agg #[.int .i64 ((rd_T25 l0_2 0).f0), .int .i64 ((rd_T25 l0_2 0).f1), .slice A648_2 ((rd_T25 l0_2 0).f2).length c648_2]] (by rfl) rfl rfl T_49 ?_
        with_reducible refine (ih kj27 (by have := HJ27.out; omega) ((rd_T25 l0_2 0).f0) ((rd_T25 l0_2 0).f1) _ _ ((rd_T25 l0_2 0).f2) t649 t650 t651 _ ?side1 ?side2 A36.out).mono ?_
        (case side1 => repeat (first | exact (Kd.C_below HR648_2.out HB.out) | (with_reducible refine Kd.C_alloc ?_ _) | (with_reducible refine Kd.C_drewN ?_ _) | (with_reducible refine Kd.C_drew ?_)))
        (case side2 => exact HC648_2.out)
        rintro e w40 ⟨v652, rfl, ho0, hb⟩
        refine ⟨_, rfl, ?_⟩
        have n0_ := Ak (Kd.N_lower (Kd.N_mono (ok' := fun k_ => (w.heap.size ≤ k_) ∧ k_ ≠ gb628 ∧ k_ ≠ gb629) ho0 (fun k_ hk_ => ⟨(Nat.le_trans (below_size (Qb HB.out)) hk_), (Kd.freshB (g := gb628) (o := .cells #[.int .i64 a0_0, .int .i64 a0_1, .slice (some ad648) l0_2.length c0_2] 25 (0, 0)) (Qa BK628.out) k_ hk_), (Kd.freshB (g := gb629) (o := .cells #[.int .i64 0, .int .i64 0, .slice none 0 0] 25 (0, 0)) (Qa BK629.out) k_ hk_)⟩)) (below_size (Qb HB.out)))
        have n1_ := Ak (Qm BK628.out hb)
        have n2_ := Ak (Qm BK629.out hb)
        have n3_ := Ak (below_step (Qb HB.out) hb)
        clear BK628 BK629 HB
        have HO653 := n0_
        have BK628 := n1_
        have BK629 := n2_
        have HB := n3_
        clear n0_ n1_ n2_ n3_
        (try clear hb)
        refine hK.out _ _ ⟨(blk_cell BK628.out 0).trans rfl, (blk_cell BK628.out 1).trans rfl, (blk_cell BK628.out 2).trans rfl, ((HB.out.cell (World.block_lt_of_cell? w _ hw648_0)).trans hw648_0), ((HB.out.cell (World.block_lt_of_cell? w _ hw648_1)).trans hw648_1), ((HB.out.cell (World.block_lt_of_cell? w _ hw648_2)).trans hw648_2), ((HB.out.cell (World.block_lt_of_cell? w _ hw654_0)).trans hw654_0), ((HB.out.cell (World.block_lt_of_cell? w _ hw654_1)).trans hw654_1), ((HB.out.cell (World.block_lt_of_cell? w _ hw654_2)).trans hw654_2)⟩ (fun hHeld => ?_)
        clear hK K
        refine norm_ (a' := ?_) ?_ ?_
        rotate_left
        ·show Act.put _ (some 32) _ = _
         simp only [Act.put, List.setIfInBounds_toArray, List.set_cons_zero, List.set_cons_succ, i64_w, i32_w]
         rfl
        refine Qs 11 (some 37) (fun K hK => ?_)
        refine goes_ Tryd.func51 (by kernel_rfl) rfl #[.agg #[.int .i64 ((rd_T25 l0_2 1).f0), .int .i64 ((rd_T25 l0_2 1).f1), .slice A654_2 ((rd_T25 l0_2 1).f2).length c654_2]] (by rfl) rfl rfl T_49 ?_
        with_reducible refine (ih kj27 (by have := HJ27.out; omega) ((rd_T25 l0_2 1).f0) ((rd_T25 l0_2 1).f1) _ _ ((rd_T25 l0_2 1).f2) t655 t656 t657 _ ?side1 ?side2 A38.out).mono ?_
        (case side1 => repeat (first | exact (Kd.C_below HR654_2.out HB.out) | (with_reducible refine Kd.C_alloc ?_ _) | (with_reducible refine Kd.C_drewN ?_ _) | (with_reducible refine Kd.C_drew ?_)))
        (case side2 => exact HC654_2.out)
        rintro e w41 ⟨v658, rfl, ho0, hb⟩
        refine ⟨_, rfl, ?_⟩
        have n0_ := Ak (Kd.N_elder' (by (with_reducible repeat (first | apply Kd.N_alloc | apply Kd.N_drewN | apply Kd.N_drew)); exact HO653.out) (by first | exact Kd.N_base ho0 | exact Kd.R_base ho0) hb)
        have n1_ := Ak (Kd.N_lower (Kd.N_mono (ok' := fun k_ => (w.heap.size ≤ k_) ∧ some k_ ≠ (v652 : Value).ownBlock ∧ k_ ≠ gb628 ∧ k_ ≠ gb629) ho0 (fun k_ hk_ => ⟨(Nat.le_trans (below_size (Qb HB.out)) hk_), (Kd.fresh' (Kd.N_lt (by (with_reducible repeat (first | apply Kd.N_alloc | apply Kd.N_drewN | apply Kd.N_drew)); exact HO653.out)) k_ hk_), (Kd.freshB (g := gb628) (o := .cells #[.int .i64 a0_0, .int .i64 a0_1, .slice (some ad648) l0_2.length c0_2] 25 (0, 0)) (Qa BK628.out) k_ hk_), (Kd.freshB (g := gb629) (o := .cells #[.int .i64 0, .int .i64 0, .slice none 0 0] 25 (0, 0)) (Qa BK629.out) k_ hk_)⟩)) (below_size (Qb HB.out)))
        have n2_ := Ak (Qm BK628.out hb)
        have n3_ := Ak (Qm BK629.out hb)
        have n4_ := Ak (below_step (Qb HB.out) hb)
        clear HO653 BK628 BK629 HB
        have HO653 := n0_
        have HO659 := n1_
        have BK628 := n2_
        have BK629 := n3_
        have HB := n4_
        clear n0_ n1_ n2_ n3_ n4_
        (try clear hb)
        obtain ⟨Ao42, co42, eo42⟩ := Kd.N_slice HO653.out
        (first | subst eo42 | (injection eo42 with f1_ f2_ f3_; have f4_ := f1_.symm; have f5_ := f3_.symm; clear f1_ f2_ f3_; subst f4_; subst f5_))
        obtain ⟨Ao43, co43, eo43⟩ := Kd.N_slice HO659.out
        (first | subst eo43 | (injection eo43 with f1_ f2_ f3_; have f4_ := f1_.symm; have f5_ := f3_.symm; clear f1_ f2_ f3_; subst f4_; subst f5_))
        refine hK.out _ _ ⟨(blk_cell BK628.out 0).trans rfl, (blk_cell BK628.out 1).trans rfl, (blk_cell BK628.out 2).trans rfl, ((HB.out.cell (World.block_lt_of_cell? w _ hw648_0)).trans hw648_0), ((HB.out.cell (World.block_lt_of_cell? w _ hw648_1)).trans hw648_1), ((HB.out.cell (World.block_lt_of_cell? w _ hw648_2)).trans hw648_2), ((HB.out.cell (World.block_lt_of_cell? w _ hw654_0)).trans hw654_0), ((HB.out.cell (World.block_lt_of_cell? w _ hw654_1)).trans hw654_1), ((HB.out.cell (World.block_lt_of_cell? w _ hw654_2)).trans hw654_2)⟩ (fun hHeld => ?_)
        clear hK K
        refine norm_ (a' := ?_) ?_ ?_
        rotate_left
        ·show Act.put _ (some 37) _ = _
         simp only [Act.put, List.setIfInBounds_toArray, List.set_cons_zero, List.set_cons_succ, i64_w, i32_w]
         rfl
        refine Qs 12 (some 38) (fun K hK => ?_)
        refine Kd.N_lit_step k25 _ 25 ?hg (N' := 38) ?hd (xs := ([(⟨t649, t650, t651⟩ : S25), (⟨t655, t656, t657⟩ : S25)] : List (S25))) (inner := [.int .i64 t649, .int .i64 t650, .slice Ao42 t651.length co42, .int .i64 t655, .int .i64 t656, .slice Ao43 t657.length co43]) (ok := (fun k_ => (w.heap.size ≤ k_) ∧ k_ ≠ gb628 ∧ k_ ≠ gb629)) (okp := (fun k_ => (w.heap.size ≤ k_) ∧ k_ ≠ gb628 ∧ k_ ≠ gb629)) ?hr ?hp (fun _ hk => hk) ((show ∀ k_, w41.heap.size ≤ k_ → (fun k_ => (w.heap.size ≤ k_) ∧ k_ ≠ gb628 ∧ k_ ≠ gb629) k_ from fun k_ hk => ⟨(Nat.le_trans (below_size (Qb HB.out)) hk), Kd.freshB (g := gb628) (o := .cells #[.int .i64 a0_0, .int .i64 a0_1, .slice (some ad648) l0_2.length c0_2] 25 (0, 0)) (Qa BK628.out) k_ hk, Kd.freshB (g := gb629) (o := .cells #[.int .i64 0, .int .i64 0, .slice none 0 0] 25 (0, 0)) (Qa BK629.out) k_ hk⟩) _ (Nat.le_refl _)) (Below.refl _ _) (Nat.le_refl _) (by simp) ?_; (case hd => rfl); (case hg => rfl); (case hr => exact U_24); (case hp => exact (Reps.c3 (show Kd.FK k25 _ _ (⟨t649, t650, t651⟩ : S25) [.int .i64 t649, .int .i64 t650, .slice Ao42 t651.length co42] from (k25_mkF _ _ (⟨t649, t650, t651⟩ : S25) (Kd.N_reads' (Kd.N_mono (ok' := (fun k_ => (w.heap.size ≤ k_) ∧ k_ ≠ gb628 ∧ k_ ≠ gb629)) (HO653.out) (fun k_ hk => ⟨hk.1.1, ⟨hk.1.2.1, hk.1.2.2⟩⟩))).2.1 (Kd.N_F (Kd.N_mono (ok' := (fun k_ => (w.heap.size ≤ k_) ∧ k_ ≠ gb628 ∧ k_ ≠ gb629)) (HO653.out) (fun k_ hk => ⟨hk.1.1, ⟨hk.1.2.1, hk.1.2.2⟩⟩))))) (Reps.c3 (show Kd.FK k25 _ _ (⟨t655, t656, t657⟩ : S25) [.int .i64 t655, .int .i64 t656, .slice Ao43 t657.length co43] from (k25_mkF _ _ (⟨t655, t656, t657⟩ : S25) (Kd.N_reads' (Kd.N_mono (ok' := (fun k_ => (w.heap.size ≤ k_) ∧ k_ ≠ gb628 ∧ k_ ≠ gb629)) (HO659.out) (fun k_ hk => ⟨hk.1, ⟨hk.2.2.1, hk.2.2.2⟩⟩))).2.1 (Kd.N_F (Kd.N_mono (ok' := (fun k_ => (w.heap.size ≤ k_) ∧ k_ ≠ gb628 ∧ k_ ≠ gb629)) (HO659.out) (fun k_ hk => ⟨hk.1, ⟨hk.2.2.1, hk.2.2.2⟩⟩))))) (Reps.none _ _))))
        intro v661 w44 ho45 hb hg_ hnew_
        clear hg_ hnew_
        (first | rw [← Ny660.out] at ho45 | (simp only [Int.reduceToNat] at ho45; rw [← Ny660.out] at ho45))
        have n0_ := Ak (Kd.N_lower ho45 (below_size (Qb HB.out)))
        have n1_ := Ak (Qm BK628.out hb)
        have n2_ := Ak (Qm BK629.out hb)
        have n3_ := Ak (below_step (Qb HB.out) hb)
        clear BK628 BK629 HB HO653 HO659
        have HO662 := n0_
        have BK628 := n1_
        have BK629 := n2_
        have HB := n3_
        clear n0_ n1_ n2_ n3_
        clear hb ho45
        obtain ⟨Ao46, co46, eo46⟩ := Kd.N_slice HO662.out
        (first | subst eo46 | (injection eo46 with f1_ f2_ f3_; have f4_ := f1_.symm; have f5_ := f3_.symm; clear f1_ f2_ f3_; subst f4_; subst f5_))
        refine hK.out _ _ ⟨(blk_cell BK628.out 0).trans rfl, (blk_cell BK628.out 1).trans rfl, (blk_cell BK628.out 2).trans rfl, ((HB.out.cell (World.block_lt_of_cell? w _ hw648_0)).trans hw648_0), ((HB.out.cell (World.block_lt_of_cell? w _ hw648_1)).trans hw648_1), ((HB.out.cell (World.block_lt_of_cell? w _ hw648_2)).trans hw648_2), ((HB.out.cell (World.block_lt_of_cell? w _ hw654_0)).trans hw654_0), ((HB.out.cell (World.block_lt_of_cell? w _ hw654_1)).trans hw654_1), ((HB.out.cell (World.block_lt_of_cell? w _ hw654_2)).trans hw654_2)⟩ (fun hHeld => ?_)
        clear hK K
        refine norm_ (a' := ?_) ?_ ?_
        rotate_left
        ·show Act.put _ (some 38) _ = _
         simp only [Act.put, List.setIfInBounds_toArray, List.set_cons_zero, List.set_cons_succ, i64_w, i32_w]
         rfl
        refine Qq 13 (some 39) ?_
        refine Qs 14 none (fun K hK => ?_)
        have hs47 : w44.cell? ⟨gb629, 0, none⟩ = some (.int .i64 0) := (blk_cell BK629.out 0).trans rfl
        have hfs47 := blk_frozen BK629.out 0
        have hns47_0 := NB628_629.out
        have hms47_0 := NB629_628.out
        have hs48 : w44.cell? ⟨gb629, 1, none⟩ = some (.int .i64 0) := (blk_cell BK629.out 1).trans rfl
        have hfs48 := blk_frozen BK629.out 1
        have hns48_0 := NB628_629.out
        have hms48_0 := NB629_628.out
        have hs49 : w44.cell? ⟨gb629, 2, none⟩ = some (.slice none 0 0) := (blk_cell BK629.out 2).trans rfl
        have hfs49 := blk_frozen BK629.out 2
        have hns49_0 := NB628_629.out
        have hms49_0 := NB629_628.out
        refine skip_ (w1 := ?_) (by rfl) rfl ?_ ?_
        rotate_left
        ·go_simp
         rfl
        refine hK.out _ _ ⟨((cell_far (p := ⟨gb629, _, none⟩) NB628_629.out _).trans (((cell_far (p := ⟨gb629, _, none⟩) NB628_629.out _).trans (((cell_far (p := ⟨gb629, _, none⟩) NB628_629.out _).trans (hHeld.1)))))), ((cell_far (p := ⟨gb629, _, none⟩) NB628_629.out _).trans (((cell_far (p := ⟨gb629, _, none⟩) NB628_629.out _).trans (((cell_far (p := ⟨gb629, _, none⟩) NB628_629.out _).trans (hHeld.2.1)))))), ((cell_far (p := ⟨gb629, _, none⟩) NB628_629.out _).trans (((cell_far (p := ⟨gb629, _, none⟩) NB628_629.out _).trans (((cell_far (p := ⟨gb629, _, none⟩) NB628_629.out _).trans (hHeld.2.2.1)))))), ((cell_far (p := ⟨gb629, _, none⟩) T_0 _).trans (((cell_far (p := ⟨gb629, _, none⟩) T_0 _).trans (((cell_far (p := ⟨gb629, _, none⟩) T_0 _).trans (hHeld.2.2.2.1)))))), ((cell_far (p := ⟨gb629, _, none⟩) T_1 _).trans (((cell_far (p := ⟨gb629, _, none⟩) T_1 _).trans (((cell_far (p := ⟨gb629, _, none⟩) T_1 _).trans (hHeld.2.2.2.2.1)))))), ((cell_far (p := ⟨gb629, _, none⟩) T_2 _).trans (((cell_far (p := ⟨gb629, _, none⟩) T_2 _).trans (((cell_far (p := ⟨gb629, _, none⟩) T_2 _).trans (hHeld.2.2.2.2.2.1)))))), ((cell_far (p := ⟨gb629, _, none⟩) T_3 _).trans (((cell_far (p := ⟨gb629, _, none⟩) T_3 _).trans (((cell_far (p := ⟨gb629, _, none⟩) T_3 _).trans (hHeld.2.2.2.2.2.2.1)))))), ((cell_far (p := ⟨gb629, _, none⟩) T_4 _).trans (((cell_far (p := ⟨gb629, _, none⟩) T_4 _).trans (((cell_far (p := ⟨gb629, _, none⟩) T_4 _).trans (hHeld.2.2.2.2.2.2.2.1)))))), ((cell_far (p := ⟨gb629, _, none⟩) T_5 _).trans (((cell_far (p := ⟨gb629, _, none⟩) T_5 _).trans (((cell_far (p := ⟨gb629, _, none⟩) T_5 _).trans (hHeld.2.2.2.2.2.2.2.2))))))⟩ (fun hHeld => ?_)
        clear hK K
        refine done_ (done_of HT_.out (by kernel_rfl)) ?_
        try go_wp2
        refine bodyPost_ret (results_cell_row rfl _ _ gb629 25 #[.int .i64 a0_0, .int .i64 0, .slice Ao46 y660.length co46] (0, 0) _ rfl (by refine Qe ?_; refine blk_put (cs := #[.int .i64 a0_0, .int .i64 0, .slice none 0 0]) ?_ 2 _ rfl; refine Qe ?_; refine blk_put (cs := #[.int .i64 a0_0, .int .i64 0, .slice none 0 0]) ?_ 1 _ rfl; refine Qe ?_; refine blk_put (cs := #[.int .i64 0, .int .i64 0, .slice none 0 0]) ?_ 0 _ rfl; exact Qa BK629.out) Tryd.underlying25 rfl (by kernel_rfl)) rfl ?_
        exact ⟨_, Qh, by (with_reducible repeat (first | apply Kd.N_alloc | apply Kd.N_drewN | apply Kd.N_drew)); exact Kd.N_mono (Kd.N_far (p := ⟨gb629, 2, none⟩) (Kd.N_far (p := ⟨gb629, 1, none⟩) (Kd.N_far (p := ⟨gb629, 0, none⟩) (Kd.N_mono HO662.out (fun k_ hk => (⟨hk, hk.2.2⟩ : _ ∧ k_ ≠ gb629))) (fun _ hk => hk.2) (.int .i64 a0_0)) (fun _ hk => hk.2) (.int .i64 0)) (fun _ hk => hk.2) (.slice Ao46 y660.length co46)) (fun _ hk => hk.1.1), Qb HB.out⟩
       ·rw [if_neg c37] at H
        exact absurd H (by simp)
      ·rw [if_neg c35] at H
       exact absurd H (by simp)
     ·replace c34 := Bool.eq_false_iff.mpr c34
      (try subst c34)
      have H1 : (if a0_0 = 6 then (if 0 < (l0_2.length : Int) then ((spec_l10Negate.f kj27 ((rd_T25 l0_2 0).f0) ((rd_T25 l0_2 0).f1) ((rd_T25 l0_2 0).f2)).bind fun bt664 => (if 1 < (l0_2.length : Int) then ((spec_l10Copy.f kj27 ((rd_T25 l0_2 1).f0) ((rd_T25 l0_2 1).f1) ((rd_T25 l0_2 1).f2)).bind fun bt670 => (some (a0_0, 0, (([(⟨bt664.1, bt664.2.1, bt664.2.2⟩ : S25), (⟨bt670.1, bt670.2.1, bt670.2.2⟩ : S25)] : List (S25)))))) else (none))) else (none)) else ((spec_l10Copy.f kj27 a0_0 a0_1 l0_2).bind fun bt678 => (some (3, 0, (([(⟨bt678.1, bt678.2.1, bt678.2.2⟩ : S25)] : List (S25))))))) = some (r1, r2, r3) := by rw [if_neg (show ¬ (false = true) by decide)] at H; exact H
      clear H
      have H := H1
      clear H1
      by_cases c50 : a0_0 = 6
      ·rw [if_pos c50] at H
       have c50b0 : (a0_0 == 6) = true := beq_iff_eq.mpr c50
       have c50b1 : (a0_0 != 6) = false := bne_eq_false_iff_eq.mpr c50
       clear c50
       by_cases c51 : 0 < (l0_2.length : Int)
       ·rw [if_pos c51] at H
        have c51b0 : decide (0 < (l0_2.length : Int)) = true := decide_eq_true c51
        have c51b1 : decide (0 < l0_2.length) = true := decide_eq_true (by omega)
        clear c51
        replace H := Option.bind_eq_some_iff.mp H
        obtain ⟨⟨t664, t665, t666⟩, A520, H⟩ := H
        replace H : (if 1 < (l0_2.length : Int) then ((spec_l10Copy.f kj27 ((rd_T25 l0_2 1).f0) ((rd_T25 l0_2 1).f1) ((rd_T25 l0_2 1).f2)).bind fun bt670 => (some (a0_0, 0, (([(⟨t664, t665, t666⟩ : S25), (⟨bt670.1, bt670.2.1, bt670.2.2⟩ : S25)] : List (S25)))))) else (none)) = some (r1, r2, r3) := H
        have A52 := Ak A520
        clear A520
        by_cases c53 : 1 < (l0_2.length : Int)
        ·rw [if_pos c53] at H
         have c53b0 : decide (1 < (l0_2.length : Int)) = true := decide_eq_true c53
         have c53b1 : decide (1 < l0_2.length) = true := decide_eq_true (by omega)
         clear c53
         replace H := Option.bind_eq_some_iff.mp H
         obtain ⟨⟨t670, t671, t672⟩, A540, H⟩ := H
         replace H : (some (a0_0, 0, (([(⟨t664, t665, t666⟩ : S25), (⟨t670, t671, t672⟩ : S25)] : List (S25))))) = some (r1, r2, r3) := H
         have A54 := Ak A540
         clear A540
         obtain ⟨y675, hy675⟩ : ∃ y_ : List (S25), y_ = (([(⟨t664, t665, t666⟩ : S25), (⟨t670, t671, t672⟩ : S25)] : List (S25))) := ⟨_, rfl⟩
         replace H : (some (a0_0, 0, y675)) = some (r1, r2, r3) := by first | (rw [hy675]; with_reducible exact H) | (have H2_ := (Option.bind_some _ _).symm.trans H; rw [hy675]; with_reducible exact H2_) | (have H2_ := (Option.bind_some _ _).symm.trans H; with_reducible exact H2_) | with_reducible exact H | (rw [hy675]; exact H) | exact H
         have Ny675 := Ak hy675
         clear hy675
         simp only [Option.some.injEq, Prod.mk.injEq] at H
         obtain ⟨rfl, rfl, rfl⟩ := H
         try go_wp2
         have n0_ := Ak (blk_drew BK628.out)
         have n1_ := Ak (blk_drew BK629.out)
         have n2_ := Ak (below_drew1 HB.out)
         clear BK628 BK629 HB
         have BK628 := n0_
         have BK629 := n1_
         have HB := n2_
         clear n0_ n1_ n2_
         have p663 : 0 ≤ (0 : Int) := (by omega)
         have q663 : 0 < (l0_2.length : Int) := Qg
         obtain ⟨ad663, A663_2, c663_2, e663, hx663_0, hx663_1, hx663_2, hl663_2, hi663_2⟩ := at_T25 HR0_2.out 0 p663 q663
         have hw663_2 := hx663_2
         (try rw [show ((0 : Int)).toNat = 0 from rfl] at hw663_2)
         (try rw [show 0 * 3 = 0 from rfl] at hw663_2)
         (try rw [Addr.add_zero'] at hw663_2)
         have hw663_1 := hx663_1
         (try rw [show ((0 : Int)).toNat = 0 from rfl] at hw663_1)
         (try rw [show 0 * 3 = 0 from rfl] at hw663_1)
         (try rw [Addr.add_zero'] at hw663_1)
         have hw663_0 := hx663_0
         (try rw [show ((0 : Int)).toNat = 0 from rfl] at hw663_0)
         (try rw [show 0 * 3 = 0 from rfl] at hw663_0)
         (try rw [Addr.add_zero'] at hw663_0)
         cases e663
         have qi663 : (0 < l0_2.length) = True := eq_true (by omega)
         (try rw [show ((0 : Int)).toNat = 0 from rfl] at hx663_0)
         (try rw [show 0 * 3 = 0 from rfl] at hx663_0)
         (try rw [Addr.add_zero'] at hx663_0)
         (try rw [show ((0 : Int)).toNat = 0 from rfl] at hx663_1)
         (try rw [show 0 * 3 = 0 from rfl] at hx663_1)
         (try rw [Addr.add_zero'] at hx663_1)
         (try rw [show ((0 : Int)).toNat = 0 from rfl] at hx663_2)
         (try rw [show 0 * 3 = 0 from rfl] at hx663_2)
         (try rw [Addr.add_zero'] at hx663_2)
         (try replace hx663_0 := (HB.out.cell (World.block_lt_of_cell? w _ hx663_0)).trans hx663_0)
         (try replace hx663_1 := (HB.out.cell (World.block_lt_of_cell? w _ hx663_1)).trans hx663_1)
         (try replace hx663_2 := (HB.out.cell (World.block_lt_of_cell? w _ hx663_2)).trans hx663_2)
         have HR663_2 := Ak hi663_2
         have HC663_2 := Ak hl663_2
         clear hi663_2 hl663_2
         replace p663 := eq_true p663
         replace q663 := eq_true q663
         have p669 : 0 ≤ (1 : Int) := (by omega)
         have q669 : 1 < (l0_2.length : Int) := Qg
         obtain ⟨ad669, A669_2, c669_2, e669, hx669_0, hx669_1, hx669_2, hl669_2, hi669_2⟩ := at_T25 HR0_2.out 1 p669 q669
         have hw669_2 := hx669_2
         (try rw [show ((1 : Int)).toNat = 1 from rfl] at hw669_2)
         (try rw [show 1 * 3 = 3 from rfl] at hw669_2)
         (try simp only [Nat.reduceMul, Nat.reduceEqDiff, Go.Addr.add, ↓reduceIte] at hw669_2)
         have hw669_1 := hx669_1
         (try rw [show ((1 : Int)).toNat = 1 from rfl] at hw669_1)
         (try rw [show 1 * 3 = 3 from rfl] at hw669_1)
         (try simp only [Nat.reduceMul, Nat.reduceEqDiff, Go.Addr.add, ↓reduceIte] at hw669_1)
         have hw669_0 := hx669_0
         (try rw [show ((1 : Int)).toNat = 1 from rfl] at hw669_0)
         (try rw [show 1 * 3 = 3 from rfl] at hw669_0)
         (try simp only [Nat.reduceMul, Nat.reduceEqDiff, Go.Addr.add, ↓reduceIte] at hw669_0)
         obtain rfl : ad663 = ad669 := (by injection e669)
         (try simp only [show (1 : Int).toNat = 1 from rfl, Nat.reduceMul, Nat.reduceEqDiff, Go.Addr.add, ↓reduceIte] at hx669_0)
         (try simp only [show (1 : Int).toNat = 1 from rfl, Nat.reduceMul, Nat.reduceEqDiff, Go.Addr.add, ↓reduceIte] at hx669_1)
         (try simp only [show (1 : Int).toNat = 1 from rfl, Nat.reduceMul, Nat.reduceEqDiff, Go.Addr.add, ↓reduceIte] at hx669_2)
         have qi669 : (1 < l0_2.length) = True := eq_true (by omega)
         (try rw [show ((1 : Int)).toNat = 1 from rfl] at hx669_0)
         (try rw [show 1 * 3 = 3 from rfl] at hx669_0)
         (try rw [show ((1 : Int)).toNat = 1 from rfl] at hx669_1)
         (try rw [show 1 * 3 = 3 from rfl] at hx669_1)
         (try rw [show ((1 : Int)).toNat = 1 from rfl] at hx669_2)
         (try rw [show 1 * 3 = 3 from rfl] at hx669_2)
         (try replace hx669_0 := (HB.out.cell (World.block_lt_of_cell? w _ hx669_0)).trans hx669_0)
         (try replace hx669_1 := (HB.out.cell (World.block_lt_of_cell? w _ hx669_1)).trans hx669_1)
         (try replace hx669_2 := (HB.out.cell (World.block_lt_of_cell? w _ hx669_2)).trans hx669_2)
         have HR669_2 := Ak hi669_2
         have HC669_2 := Ak hl669_2
         clear hi669_2 hl669_2
         replace p669 := eq_true p669
         replace q669 := eq_true q669
         refine start_ (n := 15) (S := fun w' => w'.cell? ⟨gb628, 0, none⟩ = some (.int .i64 a0_0) ∧ w'.cell? ⟨gb628, 1, none⟩ = some (.int .i64 a0_1) ∧ w'.cell? ⟨gb628, 2, none⟩ = some (.slice (some ad663) l0_2.length c0_2) ∧ w'.cell? ad663 = some (.int .i64 ((rd_T25 l0_2 0).f0)) ∧ w'.cell? ⟨ad663.block, ad663.off + 1, none⟩ = some (.int .i64 ((rd_T25 l0_2 0).f1)) ∧ w'.cell? ⟨ad663.block, ad663.off + 2, none⟩ = some (.slice A663_2 ((rd_T25 l0_2 0).f2).length c663_2) ∧ w'.cell? ⟨ad663.block, ad663.off + 3, none⟩ = some (.int .i64 ((rd_T25 l0_2 1).f0)) ∧ w'.cell? ⟨ad663.block, ad663.off + 3 + 1, none⟩ = some (.int .i64 ((rd_T25 l0_2 1).f1)) ∧ w'.cell? ⟨ad663.block, ad663.off + 3 + 2, none⟩ = some (.slice A669_2 ((rd_T25 l0_2 1).f2).length c669_2)) (ds := []) #[false, false, false, false, false, false, false, false, false, false, false, false, false, false, false] (by kernel_rfl) rfl rfl ⟨(blk_cell BK628.out 0).trans rfl, (blk_cell BK628.out 1).trans rfl, (blk_cell BK628.out 2).trans rfl, ((HB.out.cell (World.block_lt_of_cell? w _ hw663_0)).trans hw663_0), ((HB.out.cell (World.block_lt_of_cell? w _ hw663_1)).trans hw663_1), ((HB.out.cell (World.block_lt_of_cell? w _ hw663_2)).trans hw663_2), ((HB.out.cell (World.block_lt_of_cell? w _ hw669_0)).trans hw669_0), ((HB.out.cell (World.block_lt_of_cell? w _ hw669_1)).trans hw669_1), ((HB.out.cell (World.block_lt_of_cell? w _ hw669_2)).trans hw669_2)⟩ (fun hHeld => ?_); refine with_tabW spec_l10Negate.tab10 spec_l10Negate.bits10 (fun HT_ HW_ => ?_)
         generalize wc.drew = w55 at BK628 BK629 HB HR663_2 HR669_2 hx663_0 hx663_1 hx663_2 hx669_0 hx669_1 hx669_2 hHeld ⊢
         refine Qq 0 (some 42) ?_
         refine Qq 2 (some 44) ?_
         refine Qq 7 (some 49) ?_
         refine Qr 1 (some 43) hHeld ?_
         refine Qr 3 (some 45) hHeld ?_
         refine Qq 4 (some 46) ?_
         refine Qr 5 (some 47) hHeld ?_
         refine Qr 8 (some 50) hHeld ?_
         refine Qq 9 (some 51) ?_
         refine Qr 10 (some 52) hHeld ?_
         refine Qs 6 (some 48) (fun K hK => ?_)
         refine goes_ Tryd.func51 (by kernel_rfl) rfl #[.agg #[.int .i64 ((rd_T25 l0_2 0).f0), .int .i64 ((rd_T25 l0_2 0).f1), .slice A663_2 ((rd_T25 l0_2 0).f2).length c663_2]] (by rfl) rfl rfl T_49 ?_
         with_reducible refine (ih kj27 (by have := HJ27.out; omega) ((rd_T25 l0_2 0).f0) ((rd_T25 l0_2 0).f1) _ _ ((rd_T25 l0_2 0).f2) t664 t665 t666 _ ?side1 ?side2 A52.out).mono ?_
         (case side1 => repeat (first | exact (Kd.C_below HR663_2.out HB.out) | (with_reducible refine Kd.C_alloc ?_ _) | (with_reducible refine Kd.C_drewN ?_ _) | (with_reducible refine Kd.C_drew ?_)))
         (case side2 => exact HC663_2.out)
         rintro e w56 ⟨v667, rfl, ho0, hb⟩
         refine ⟨_, rfl, ?_⟩
         have n0_ := Ak (Kd.N_lower (Kd.N_mono (ok' := fun k_ => (w.heap.size ≤ k_) ∧ k_ ≠ gb628 ∧ k_ ≠ gb629) ho0 (fun k_ hk_ => ⟨(Nat.le_trans (below_size (Qb HB.out)) hk_), (Kd.freshB (g := gb628) (o := .cells #[.int .i64 a0_0, .int .i64 a0_1, .slice (some ad663) l0_2.length c0_2] 25 (0, 0)) (Qa BK628.out) k_ hk_), (Kd.freshB (g := gb629) (o := .cells #[.int .i64 0, .int .i64 0, .slice none 0 0] 25 (0, 0)) (Qa BK629.out) k_ hk_)⟩)) (below_size (Qb HB.out)))
         have n1_ := Ak (Qm BK628.out hb)
         have n2_ := Ak (Qm BK629.out hb)
         have n3_ := Ak (below_step (Qb HB.out) hb)
         clear BK628 BK629 HB
         have HO668 := n0_
         have BK628 := n1_
         have BK629 := n2_
         have HB := n3_
         clear n0_ n1_ n2_ n3_
         (try clear hb)
         refine hK.out _ _ ⟨(blk_cell BK628.out 0).trans rfl, (blk_cell BK628.out 1).trans rfl, (blk_cell BK628.out 2).trans rfl, ((HB.out.cell (World.block_lt_of_cell? w _ hw663_0)).trans hw663_0), ((HB.out.cell (World.block_lt_of_cell? w _ hw663_1)).trans hw663_1), ((HB.out.cell (World.block_lt_of_cell? w _ hw663_2)).trans hw663_2), ((HB.out.cell (World.block_lt_of_cell? w _ hw669_0)).trans hw669_0), ((HB.out.cell (World.block_lt_of_cell? w _ hw669_1)).trans hw669_1), ((HB.out.cell (World.block_lt_of_cell? w _ hw669_2)).trans hw669_2)⟩ (fun hHeld => ?_)
         clear hK K
         refine norm_ (a' := ?_) ?_ ?_
         rotate_left
         ·show Act.put _ (some 48) _ = _
          simp only [Act.put, List.setIfInBounds_toArray, List.set_cons_zero, List.set_cons_succ, i64_w, i32_w]
          rfl
         refine Qs 11 (some 53) (fun K hK => ?_)
         refine goes_ Tryd.func93 (by kernel_rfl) rfl #[.agg #[.int .i64 ((rd_T25 l0_2 1).f0), .int .i64 ((rd_T25 l0_2 1).f1), .slice A669_2 ((rd_T25 l0_2 1).f2).length c669_2]] (by rfl) rfl rfl T_49 ?_
         with_reducible refine (spec_l10Copy.calls kj27 ((rd_T25 l0_2 1).f0) ((rd_T25 l0_2 1).f1) _ _ ((rd_T25 l0_2 1).f2) t670 t671 t672 _ ?side1 ?side2 A54.out).mono ?_
         (case side1 => repeat (first | exact (Kd.C_below HR669_2.out HB.out) | (with_reducible refine Kd.C_alloc ?_ _) | (with_reducible refine Kd.C_drewN ?_ _) | (with_reducible refine Kd.C_drew ?_)))
         (case side2 => exact HC669_2.out)
         rintro e w57 ⟨v673, rfl, ho0, hb⟩
         refine ⟨_, rfl, ?_⟩
         have n0_ := Ak (Kd.N_elder' (by (with_reducible repeat (first | apply Kd.N_alloc | apply Kd.N_drewN | apply Kd.N_drew)); exact HO668.out) (by first | exact Kd.N_base ho0 | exact Kd.R_base ho0) hb)
         have n1_ := Ak (Kd.N_lower (Kd.N_mono (ok' := fun k_ => (w.heap.size ≤ k_) ∧ some k_ ≠ (v667 : Value).ownBlock ∧ k_ ≠ gb628 ∧ k_ ≠ gb629) (Kd.R_N (Kd.R_bound ho0)) (fun k_ hk_ => ⟨(Nat.le_trans (below_size (Qb HB.out)) hk_.2.1), (Kd.fresh' (Kd.N_lt (by (with_reducible repeat (first | apply Kd.N_alloc | apply Kd.N_drewN | apply Kd.N_drew)); exact HO668.out)) k_ hk_.2.1), (Kd.freshB (g := gb628) (o := .cells #[.int .i64 a0_0, .int .i64 a0_1, .slice (some ad663) l0_2.length c0_2] 25 (0, 0)) (Qa BK628.out) k_ hk_.2.1), (Kd.freshB (g := gb629) (o := .cells #[.int .i64 0, .int .i64 0, .slice none 0 0] 25 (0, 0)) (Qa BK629.out) k_ hk_.2.1)⟩)) (below_size (Qb HB.out)))
         have n2_ := Ak (Qm BK628.out hb)
         have n3_ := Ak (Qm BK629.out hb)
         have n4_ := Ak (below_step (Qb HB.out) hb)
         clear HO668 BK628 BK629 HB
         have HO668 := n0_
         have HO674 := n1_
         have BK628 := n2_
         have BK629 := n3_
         have HB := n4_
         clear n0_ n1_ n2_ n3_ n4_
         (try clear hb)
         obtain ⟨Ao58, co58, eo58⟩ := Kd.N_slice HO668.out
         (first | subst eo58 | (injection eo58 with f1_ f2_ f3_; have f4_ := f1_.symm; have f5_ := f3_.symm; clear f1_ f2_ f3_; subst f4_; subst f5_))
         obtain ⟨Ao59, co59, eo59⟩ := Kd.N_slice HO674.out
         (first | subst eo59 | (injection eo59 with f1_ f2_ f3_; have f4_ := f1_.symm; have f5_ := f3_.symm; clear f1_ f2_ f3_; subst f4_; subst f5_))
         refine hK.out _ _ ⟨(blk_cell BK628.out 0).trans rfl, (blk_cell BK628.out 1).trans rfl, (blk_cell BK628.out 2).trans rfl, ((HB.out.cell (World.block_lt_of_cell? w _ hw663_0)).trans hw663_0), ((HB.out.cell (World.block_lt_of_cell? w _ hw663_1)).trans hw663_1), ((HB.out.cell (World.block_lt_of_cell? w _ hw663_2)).trans hw663_2), ((HB.out.cell (World.block_lt_of_cell? w _ hw669_0)).trans hw669_0), ((HB.out.cell (World.block_lt_of_cell? w _ hw669_1)).trans hw669_1), ((HB.out.cell (World.block_lt_of_cell? w _ hw669_2)).trans hw669_2)⟩ (fun hHeld => ?_)
         clear hK K
         refine norm_ (a' := ?_) ?_ ?_
         rotate_left
         ·show Act.put _ (some 53) _ = _
          simp only [Act.put, List.setIfInBounds_toArray, List.set_cons_zero, List.set_cons_succ, i64_w, i32_w]
          rfl
         refine Qs 12 (some 54) (fun K hK => ?_)
         refine Kd.N_lit_step k25 _ 25 ?hg (N' := 54) ?hd (xs := ([(⟨t664, t665, t666⟩ : S25), (⟨t670, t671, t672⟩ : S25)] : List (S25))) (inner := [.int .i64 t664, .int .i64 t665, .slice Ao58 t666.length co58, .int .i64 t670, .int .i64 t671, .slice Ao59 t672.length co59]) (ok := (fun k_ => (w.heap.size ≤ k_) ∧ k_ ≠ gb628 ∧ k_ ≠ gb629)) (okp := (fun k_ => (w.heap.size ≤ k_) ∧ k_ ≠ gb628 ∧ k_ ≠ gb629)) ?hr ?hp (fun _ hk => hk) ((show ∀ k_, w57.heap.size ≤ k_ → (fun k_ => (w.heap.size ≤ k_) ∧ k_ ≠ gb628 ∧ k_ ≠ gb629) k_ from fun k_ hk => ⟨(Nat.le_trans (below_size (Qb HB.out)) hk), Kd.freshB (g := gb628) (o := .cells #[.int .i64 a0_0, .int .i64 a0_1, .slice (some ad663) l0_2.length c0_2] 25 (0, 0)) (Qa BK628.out) k_ hk, Kd.freshB (g := gb629) (o := .cells #[.int .i64 0, .int .i64 0, .slice none 0 0] 25 (0, 0)) (Qa BK629.out) k_ hk⟩) _ (Nat.le_refl _)) (Below.refl _ _) (Nat.le_refl _) (by simp) ?_; (case hd => rfl); (case hg => rfl); (case hr => exact U_24); (case hp => exact (Reps.c3 (show Kd.FK k25 _ _ (⟨t664, t665, t666⟩ : S25) [.int .i64 t664, .int .i64 t665, .slice Ao58 t666.length co58] from (k25_mkF _ _ (⟨t664, t665, t666⟩ : S25) (Kd.N_reads' (Kd.N_mono (ok' := (fun k_ => (w.heap.size ≤ k_) ∧ k_ ≠ gb628 ∧ k_ ≠ gb629)) (HO668.out) (fun k_ hk => ⟨hk.1.1, ⟨hk.1.2.1, hk.1.2.2⟩⟩))).2.1 (Kd.N_F (Kd.N_mono (ok' := (fun k_ => (w.heap.size ≤ k_) ∧ k_ ≠ gb628 ∧ k_ ≠ gb629)) (HO668.out) (fun k_ hk => ⟨hk.1.1, ⟨hk.1.2.1, hk.1.2.2⟩⟩))))) (Reps.c3 (show Kd.FK k25 _ _ (⟨t670, t671, t672⟩ : S25) [.int .i64 t670, .int .i64 t671, .slice Ao59 t672.length co59] from (k25_mkF _ _ (⟨t670, t671, t672⟩ : S25) (Kd.N_reads' (Kd.N_mono (ok' := (fun k_ => (w.heap.size ≤ k_) ∧ k_ ≠ gb628 ∧ k_ ≠ gb629)) (HO674.out) (fun k_ hk => ⟨hk.1, ⟨hk.2.2.1, hk.2.2.2⟩⟩))).2.1 (Kd.N_F (Kd.N_mono (ok' := (fun k_ => (w.heap.size ≤ k_) ∧ k_ ≠ gb628 ∧ k_ ≠ gb629)) (HO674.out) (fun k_ hk => ⟨hk.1, ⟨hk.2.2.1, hk.2.2.2⟩⟩))))) (Reps.none _ _))))
         intro v676 w60 ho61 hb hg_ hnew_
         clear hg_ hnew_
         (first | rw [← Ny675.out] at ho61 | (simp only [Int.reduceToNat] at ho61; rw [← Ny675.out] at ho61))
         have n0_ := Ak (Kd.N_lower ho61 (below_size (Qb HB.out)))
         have n1_ := Ak (Qm BK628.out hb)
         have n2_ := Ak (Qm BK629.out hb)
         have n3_ := Ak (below_step (Qb HB.out) hb)
         clear BK628 BK629 HB HO668 HO674
         have HO677 := n0_
         have BK628 := n1_
         have BK629 := n2_
         have HB := n3_
         clear n0_ n1_ n2_ n3_
         clear hb ho61
         obtain ⟨Ao62, co62, eo62⟩ := Kd.N_slice HO677.out
         (first | subst eo62 | (injection eo62 with f1_ f2_ f3_; have f4_ := f1_.symm; have f5_ := f3_.symm; clear f1_ f2_ f3_; subst f4_; subst f5_))
         refine hK.out _ _ ⟨(blk_cell BK628.out 0).trans rfl, (blk_cell BK628.out 1).trans rfl, (blk_cell BK628.out 2).trans rfl, ((HB.out.cell (World.block_lt_of_cell? w _ hw663_0)).trans hw663_0), ((HB.out.cell (World.block_lt_of_cell? w _ hw663_1)).trans hw663_1), ((HB.out.cell (World.block_lt_of_cell? w _ hw663_2)).trans hw663_2), ((HB.out.cell (World.block_lt_of_cell? w _ hw669_0)).trans hw669_0), ((HB.out.cell (World.block_lt_of_cell? w _ hw669_1)).trans hw669_1), ((HB.out.cell (World.block_lt_of_cell? w _ hw669_2)).trans hw669_2)⟩ (fun hHeld => ?_)
         clear hK K
         refine norm_ (a' := ?_) ?_ ?_
         rotate_left
         ·show Act.put _ (some 54) _ = _
          simp only [Act.put, List.setIfInBounds_toArray, List.set_cons_zero, List.set_cons_succ, i64_w, i32_w]
          rfl
         refine Qq 13 (some 55) ?_
         refine Qs 14 none (fun K hK => ?_)
         have hs63 : w60.cell? ⟨gb629, 0, none⟩ = some (.int .i64 0) := (blk_cell BK629.out 0).trans rfl
         have hfs63 := blk_frozen BK629.out 0
         have hns63_0 := NB628_629.out
         have hms63_0 := NB629_628.out
         have hs64 : w60.cell? ⟨gb629, 1, none⟩ = some (.int .i64 0) := (blk_cell BK629.out 1).trans rfl
         have hfs64 := blk_frozen BK629.out 1
         have hns64_0 := NB628_629.out
         have hms64_0 := NB629_628.out
         have hs65 : w60.cell? ⟨gb629, 2, none⟩ = some (.slice none 0 0) := (blk_cell BK629.out 2).trans rfl
         have hfs65 := blk_frozen BK629.out 2
         have hns65_0 := NB628_629.out
         have hms65_0 := NB629_628.out
         refine skip_ (w1 := ?_) (by rfl) rfl ?_ ?_
         rotate_left
         ·go_simp
          rfl
         refine hK.out _ _ ⟨((cell_far (p := ⟨gb629, _, none⟩) NB628_629.out _).trans (((cell_far (p := ⟨gb629, _, none⟩) NB628_629.out _).trans (((cell_far (p := ⟨gb629, _, none⟩) NB628_629.out _).trans (hHeld.1)))))), ((cell_far (p := ⟨gb629, _, none⟩) NB628_629.out _).trans (((cell_far (p := ⟨gb629, _, none⟩) NB628_629.out _).trans (((cell_far (p := ⟨gb629, _, none⟩) NB628_629.out _).trans (hHeld.2.1)))))), ((cell_far (p := ⟨gb629, _, none⟩) NB628_629.out _).trans (((cell_far (p := ⟨gb629, _, none⟩) NB628_629.out _).trans (((cell_far (p := ⟨gb629, _, none⟩) NB628_629.out _).trans (hHeld.2.2.1)))))), ((cell_far (p := ⟨gb629, _, none⟩) T_6 _).trans (((cell_far (p := ⟨gb629, _, none⟩) T_6 _).trans (((cell_far (p := ⟨gb629, _, none⟩) T_6 _).trans (hHeld.2.2.2.1)))))), ((cell_far (p := ⟨gb629, _, none⟩) T_7 _).trans (((cell_far (p := ⟨gb629, _, none⟩) T_7 _).trans (((cell_far (p := ⟨gb629, _, none⟩) T_7 _).trans (hHeld.2.2.2.2.1)))))), ((cell_far (p := ⟨gb629, _, none⟩) T_8 _).trans (((cell_far (p := ⟨gb629, _, none⟩) T_8 _).trans (((cell_far (p := ⟨gb629, _, none⟩) T_8 _).trans (hHeld.2.2.2.2.2.1)))))), ((cell_far (p := ⟨gb629, _, none⟩) T_9 _).trans (((cell_far (p := ⟨gb629, _, none⟩) T_9 _).trans (((cell_far (p := ⟨gb629, _, none⟩) T_9 _).trans (hHeld.2.2.2.2.2.2.1)))))), ((cell_far (p := ⟨gb629, _, none⟩) T_10 _).trans (((cell_far (p := ⟨gb629, _, none⟩) T_10 _).trans (((cell_far (p := ⟨gb629, _, none⟩) T_10 _).trans (hHeld.2.2.2.2.2.2.2.1)))))), ((cell_far (p := ⟨gb629, _, none⟩) T_11 _).trans (((cell_far (p := ⟨gb629, _, none⟩) T_11 _).trans (((cell_far (p := ⟨gb629, _, none⟩) T_11 _).trans (hHeld.2.2.2.2.2.2.2.2))))))⟩ (fun hHeld => ?_)
         clear hK K
         refine done_ (done_of HT_.out (by kernel_rfl)) ?_
         try go_wp2
         refine bodyPost_ret (results_cell_row rfl _ _ gb629 25 #[.int .i64 a0_0, .int .i64 0, .slice Ao62 y675.length co62] (0, 0) _ rfl (by refine Qe ?_; refine blk_put (cs := #[.int .i64 a0_0, .int .i64 0, .slice none 0 0]) ?_ 2 _ rfl; refine Qe ?_; refine blk_put (cs := #[.int .i64 a0_0, .int .i64 0, .slice none 0 0]) ?_ 1 _ rfl; refine Qe ?_; refine blk_put (cs := #[.int .i64 0, .int .i64 0, .slice none 0 0]) ?_ 0 _ rfl; exact Qa BK629.out) Tryd.underlying25 rfl (by kernel_rfl)) rfl ?_
         exact ⟨_, Qh, by (with_reducible repeat (first | apply Kd.N_alloc | apply Kd.N_drewN | apply Kd.N_drew)); exact Kd.N_mono (Kd.N_far (p := ⟨gb629, 2, none⟩) (Kd.N_far (p := ⟨gb629, 1, none⟩) (Kd.N_far (p := ⟨gb629, 0, none⟩) (Kd.N_mono HO677.out (fun k_ hk => (⟨hk, hk.2.2⟩ : _ ∧ k_ ≠ gb629))) (fun _ hk => hk.2) (.int .i64 a0_0)) (fun _ hk => hk.2) (.int .i64 0)) (fun _ hk => hk.2) (.slice Ao62 y675.length co62)) (fun _ hk => hk.1.1), Qb HB.out⟩
        ·rw [if_neg c53] at H
         exact absurd H (by simp)
       ·rw [if_neg c51] at H
        exact absurd H (by simp)
      ·rw [if_neg c50] at H
       have c50b0 : (a0_0 == 6) = false := beq_eq_false_iff_ne.mpr c50
       have c50b1 : (a0_0 != 6) = true := bne_iff_ne.mpr c50
       replace H := Option.bind_eq_some_iff.mp H
       obtain ⟨⟨t678, t679, t680⟩, A660, H⟩ := H
       replace H : (some (3, 0, (([(⟨t678, t679, t680⟩ : S25)] : List (S25))))) = some (r1, r2, r3) := H
       have A66 := Ak A660
       clear A660
       obtain ⟨y683, hy683⟩ : ∃ y_ : List (S25), y_ = (([(⟨t678, t679, t680⟩ : S25)] : List (S25))) := ⟨_, rfl⟩
       replace H : (some (3, 0, y683)) = some (r1, r2, r3) := by first | (rw [hy683]; with_reducible exact H) | (have H2_ := (Option.bind_some _ _).symm.trans H; rw [hy683]; with_reducible exact H2_) | (have H2_ := (Option.bind_some _ _).symm.trans H; with_reducible exact H2_) | with_reducible exact H | (rw [hy683]; exact H) | exact H
       have Ny683 := Ak hy683
       clear hy683
       simp only [Option.some.injEq, Prod.mk.injEq] at H
       obtain ⟨rfl, rfl, rfl⟩ := H
       have hnb67 := NB628_629.out
       have hnc67 := NB629_628.out
       obtain ⟨hcz68_0, hcz68_1, hcz68_2, hfz68_0, hfz68_1, hfz68_2⟩ := Qv3 BK628.out
       go_wp2_with (first | ((with_reducible refine gate_callee (f := 93) rfl ?_); refine Qj (some 57) Tryd.func93 #[.agg #[.int .i64 a0_0, .int .i64 a0_1, .slice A0_2 l0_2.length c0_2]] ?_; (with_reducible refine (spec_l10Copy.calls kj27 a0_0 a0_1 _ _ l0_2 t678 t679 t680 _ ?side1 ?side2 A66.out).mono ?_); (case side1 => exact U_14); (case side2 => exact U_30); rintro e w69 ⟨v681, rfl, ho0, hb⟩; refine ⟨_, rfl, ?_⟩; have HO682 := Ak (Kd.N_lower (Kd.N_mono (ok' := fun k_ => (w.heap.size ≤ k_) ∧ k_ ≠ gb628 ∧ k_ ≠ gb629) (Kd.R_N (Kd.R_bound ho0)) (fun k_ hk_ => ⟨(Nat.le_trans (below_size (Qb HB.out)) hk_.2.1), (Kd.freshB (g := gb628) (o := .cells #[.int .i64 a0_0, .int .i64 a0_1, .slice A0_2 l0_2.length c0_2] 25 (0, 0)) (Qa BK628.out) k_ hk_.2.1), (Kd.freshB (g := gb629) (o := .cells #[.int .i64 0, .int .i64 0, .slice none 0 0] 25 (0, 0)) (Qa BK629.out) k_ hk_.2.1)⟩)) (below_size (Qb HB.out))); replace BK628 := Ak (Qm BK628.out hb); replace BK629 := Ak (Qm BK629.out hb); replace HB := Ak (below_step (Qb HB.out) hb); (try clear hb); (try clear ho0); obtain ⟨Ao70, co70, eo70⟩ := Kd.N_slice HO682.out; subst eo70) | ((with_reducible refine gate_dst (N := 58) rfl ?_); refine Kd.N_lit k25 _ 25 ?hg (N' := 58) ?hd (xs := ([(⟨t678, t679, t680⟩ : S25)] : List (S25))) (inner := [.int .i64 t678, .int .i64 t679, .slice Ao70 t680.length co70]) (ok := (fun k_ => (w.heap.size ≤ k_) ∧ k_ ≠ gb628 ∧ k_ ≠ gb629)) (okp := (fun k_ => (w.heap.size ≤ k_) ∧ k_ ≠ gb628 ∧ k_ ≠ gb629)) ?hr ?hp (fun _ hk => hk) ((show ∀ k_, w69.heap.size ≤ k_ → (fun k_ => (w.heap.size ≤ k_) ∧ k_ ≠ gb628 ∧ k_ ≠ gb629) k_ from fun k_ hk => ⟨(Nat.le_trans (below_size (Qb HB.out)) hk), Kd.freshB (g := gb628) (o := .cells #[.int .i64 a0_0, .int .i64 a0_1, .slice A0_2 l0_2.length c0_2] 25 (0, 0)) (Qa BK628.out) k_ hk, Kd.freshB (g := gb629) (o := .cells #[.int .i64 0, .int .i64 0, .slice none 0 0] 25 (0, 0)) (Qa BK629.out) k_ hk⟩) _ (Nat.le_refl _)) (Below.refl _ _) (Nat.le_refl _) (by simp) ?_; (case hd => rfl); (case hg => rfl); (case hr => exact U_24); (case hp => exact (Reps.c3 (show Kd.FK k25 _ _ (⟨t678, t679, t680⟩ : S25) [.int .i64 t678, .int .i64 t679, .slice Ao70 t680.length co70] from (k25_mkF _ _ (⟨t678, t679, t680⟩ : S25) (Kd.N_reads' (Kd.N_mono (ok' := (fun k_ => (w.heap.size ≤ k_) ∧ k_ ≠ gb628 ∧ k_ ≠ gb629)) (HO682.out) (fun k_ hk => ⟨hk.1, ⟨hk.2.1, hk.2.2⟩⟩))).2.1 (Kd.N_F (Kd.N_mono (ok' := (fun k_ => (w.heap.size ≤ k_) ∧ k_ ≠ gb628 ∧ k_ ≠ gb629)) (HO682.out) (fun k_ hk => ⟨hk.1, ⟨hk.2.1, hk.2.2⟩⟩))))) (Reps.none _ _))); intro v684 w71 ho72 hb hg_ hnew_; clear hg_ hnew_; (first | rw [← Ny683.out] at ho72 | (simp only [Int.reduceToNat] at ho72; rw [← Ny683.out] at ho72)); have HO685 := Ak (Kd.N_lower ho72 (below_size (Qb HB.out))); replace BK628 := Ak (Qm BK628.out hb); replace BK629 := Ak (Qm BK629.out hb); replace HB := Ak (below_step (Qb HB.out) hb); clear HO682; clear hb ho72; obtain ⟨Ao73, co73, eo73⟩ := Kd.N_slice HO685.out; subst eo73; obtain ⟨hcz74_0, hcz74_1, hcz74_2⟩ := Qu3 BK629.out; have hfz74_0 := blk_frozen BK629.out 0; have hfz74_1 := blk_frozen BK629.out 1; have hfz74_2 := blk_frozen BK629.out 2))
       refine bodyPost_ret (results_cell_row rfl _ _ gb629 25 #[.int .i64 3, .int .i64 0, .slice Ao73 y683.length co73] (0, 0) _ rfl (by refine Qe ?_; refine blk_put (cs := #[.int .i64 3, .int .i64 0, .slice none 0 0]) ?_ 2 _ rfl; refine Qe ?_; refine blk_put (cs := #[.int .i64 3, .int .i64 0, .slice none 0 0]) ?_ 1 _ rfl; refine Qe ?_; refine blk_put (cs := #[.int .i64 0, .int .i64 0, .slice none 0 0]) ?_ 0 _ rfl; exact Qa BK629.out) Tryd.underlying25 rfl (by kernel_rfl)) rfl ?_
       exact ⟨_, Qh, by (with_reducible repeat (first | apply Kd.N_alloc | apply Kd.N_drewN | apply Kd.N_drew)); exact Kd.N_mono (Kd.N_far (p := ⟨gb629, 2, none⟩) (Kd.N_far (p := ⟨gb629, 1, none⟩) (Kd.N_far (p := ⟨gb629, 0, none⟩) (Kd.N_mono HO685.out (fun k_ hk => (⟨hk, hk.2.2⟩ : _ ∧ k_ ≠ gb629))) (fun _ hk => hk.2) (.int .i64 3)) (fun _ hk => hk.2) (.int .i64 0)) (fun _ hk => hk.2) (.slice Ao73 y683.length co73)) (fun _ hk => hk.1.1), Qb HB.out⟩

end Go.Proofs.YtjfgcipbbcplmaaDoor.HFnExprs

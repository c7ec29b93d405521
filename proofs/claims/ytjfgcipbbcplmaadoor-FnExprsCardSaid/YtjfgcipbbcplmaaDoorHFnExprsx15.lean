/- Text for FnExprs: written by a program of this session on the pattern of the kit's print. -/
import Derived.Test.YtjfgcipbbcplmaaDoorHFnExprsx0
import Derived.Test.YtjfgcipbbcplmaaDoorHFnExprsx2
import Derived.Test.YtjfgcipbbcplmaaDoorHFnExprsx12
import Derived.Test.YtjfgcipbbcplmaaDoorHFnExprsx14
namespace Go.Proofs.YtjfgcipbbcplmaaDoor.HFnExprs
set_option maxHeartbeats 8000000
set_option maxRecDepth 100000
open Go.RowKit Go.Proofs.YtjfgcipbbcplmaaDoorW.PrintWords Go.Proofs.YtjfgcipbbcplmaaDoorW.PrintLast Go.Proofs.YtjfgcipbbcplmaaDoorW.PrintMore
attribute [local go_sem] max2_int min2_int max_two min_two max_three min_three max_four min_four
set_option linter.unusedVariables false
set_option linter.unusedSimpArgs false

/-! ### spec_NegateExpr: function 16 -/
def spec_NegateExpr.f (k : Nat) (a0_0 : Int) (a0_1 : Int) (l0_2 : List (S25)) : Option (Int × Int × (List (S25)) × Bool) := (spec_IsExpr.f k a0_0 a0_1 l0_2).bind fun t688 => (if t688 = true then ((spec_l10Negate.f k a0_0 a0_1 l0_2).bind fun bt689 => ((spec_IsExpr.f k bt689.1 bt689.2.1 bt689.2.2).bind fun t695 => (if t695 = true then (some (bt689.1, bt689.2.1, bt689.2.2, true)) else (some (0, 0, ([] : List (S25)), false))))) else (some (0, 0, ([] : List (S25)), false)))
theorem spec_NegateExpr.calls (k : Nat) (a0_0 : Int) (a0_1 : Int) (A0_2 : Option Addr) (c0_2 : Nat) (l0_2 : List (S25)) (r1 : Int) (r2 : Int) (r3 : List (S25)) (r4 : Bool) (w : World) (hr0_2 : Kd.C k25 w A0_2 l0_2.length l0_2) (hc0_2 : l0_2.length ≤ c0_2) (h : spec_NegateExpr.f k a0_0 a0_1 l0_2 = some (r1, r2, r3, r4)) :
  Calls Tryd.prog 16 #[.agg #[.int .i64 a0_0, .int .i64 a0_1, .slice A0_2 l0_2.length c0_2]] w fun e w' => ∃ v2_ : Value, e = .returned (.tuple #[.agg #[.int .i64 r1, .int .i64 r2, v2_], .bool r4]) ∧ Kd.N k25 25 w' w.heap.size (fun k_ => (w.heap.size ≤ k_)) v2_ r3 ∧ Below w.heap.size w w' := by
 have hu25 := Tryd.underlying25
 have HR0_2 := Ak hr0_2
 have HC0_2 := Ak hc0_2
 clear hr0_2 hc0_2
 have HB := Ak (Below.refl w.heap.size w)
 have H : ((spec_IsExpr.f k a0_0 a0_1 l0_2).bind fun t688 => (if t688 = true then ((spec_l10Negate.f k a0_0 a0_1 l0_2).bind fun bt689 => ((spec_IsExpr.f k bt689.1 bt689.2.1 bt689.2.2).bind fun t695 => (if t695 = true then (some (bt689.1, bt689.2.1, bt689.2.2, true)) else (some (0, 0, ([] : List (S25)), false))))) else (some (0, 0, ([] : List (S25)), false)))) = some (r1, r2, r3, r4) := h
 clear h
 replace H := Option.bind_eq_some_iff.mp H
 obtain ⟨t688, A20, H⟩ := H
 replace H : (if t688 = true then ((spec_l10Negate.f k a0_0 a0_1 l0_2).bind fun bt689 => ((spec_IsExpr.f k bt689.1 bt689.2.1 bt689.2.2).bind fun t695 => (if t695 = true then (some (bt689.1, bt689.2.1, bt689.2.2, true)) else (some (0, 0, ([] : List (S25)), false))))) else (some (0, 0, ([] : List (S25)), false))) = some (r1, r2, r3, r4) := H
 have A2 := Ak A20
 clear A20
 by_cases c3 : t688 = true
 ·(try subst c3)
  have H1 : ((spec_l10Negate.f k a0_0 a0_1 l0_2).bind fun bt689 => ((spec_IsExpr.f k bt689.1 bt689.2.1 bt689.2.2).bind fun t695 => (if t695 = true then (some (bt689.1, bt689.2.1, bt689.2.2, true)) else (some (0, 0, ([] : List (S25)), false))))) = some (r1, r2, r3, r4) := by rw [if_pos rfl] at H; exact H
  clear H
  have H := H1
  clear H1
  replace H := Option.bind_eq_some_iff.mp H
  obtain ⟨⟨t689, t690, t691⟩, A40, H⟩ := H
  replace H : ((spec_IsExpr.f k t689 t690 t691).bind fun t695 => (if t695 = true then (some (t689, t690, t691, true)) else (some (0, 0, ([] : List (S25)), false)))) = some (r1, r2, r3, r4) := H
  have A4 := Ak A40
  clear A40
  replace H := Option.bind_eq_some_iff.mp H
  obtain ⟨t695, A50, H⟩ := H
  replace H : (if t695 = true then (some (t689, t690, t691, true)) else (some (0, 0, ([] : List (S25)), false))) = some (r1, r2, r3, r4) := H
  have A5 := Ak A50
  clear A50
  by_cases c6 : t695 = true
  ·(try subst c6)
   have H1 : (some (t689, t690, t691, true)) = some (r1, r2, r3, r4) := by rw [if_pos rfl] at H; exact H
   clear H
   have H := H1
   clear H1
   simp only [Option.some.injEq, Prod.mk.injEq] at H
   obtain ⟨rfl, rfl, rfl, rfl⟩ := H
   go_enter Tryd.func16, Tryd.ntmps16
   go_wp2_with (first | ((with_reducible refine gate_dst (N := 1) rfl ?_); refine Qk 1 #[.int .i64 a0_0, .int .i64 a0_1, .slice A0_2 l0_2.length c0_2] 25 ?_; intro gb686 hg w7 hbox hb; have BK686 := Ak (hbox); have GW686 := Ak ((Qp hg HB.out : w.heap.size ≤ gb686)); have GE686 := Ak ((Qp hg HB.out : w.heap.size ≤ gb686)); replace HB := Ak (below_step (Qb HB.out) hb); clear hb hbox hg) | ((with_reducible refine gate_dst (N := 2) rfl ?_); refine Qk 2 #[.int .i64 0, .int .i64 0, .slice none 0 0] 25 ?_; intro gb687 hg w8 hbox hb; have BK687 := Ak (hbox); have GW687 := Ak ((Qp hg HB.out : w.heap.size ≤ gb687)); have GE687 := Ak ((Qp hg HB.out : w.heap.size ≤ gb687)); replace HB := Ak (below_step (Qb HB.out) hb); have NB686_687 := Ak ((by rw [hg]; exact Nat.ne_of_lt (Qn BK686.out) : gb686 ≠ gb687)); have NB687_686 := Ak ((by rw [hg]; exact Nat.ne_of_gt (Qn BK686.out) : gb687 ≠ gb686)); replace BK686 := Ak (Qm BK686.out hb); clear hb hbox hg; have hnb9 := NB686_687.out; have hnc9 := NB687_686.out; obtain ⟨hcz10_0, hcz10_1, hcz10_2⟩ := Qu3 BK686.out; have hfz10_0 := blk_frozen BK686.out 0; have hfz10_1 := blk_frozen BK686.out 1; have hfz10_2 := blk_frozen BK686.out 2) | ((with_reducible refine gate_callee (f := 50) rfl ?_); refine Qj (some 6) Tryd.func50 #[.agg #[.int .i64 a0_0, .int .i64 a0_1, .slice A0_2 l0_2.length c0_2]] ?_; (with_reducible refine (spec_IsExpr.calls k a0_0 a0_1 _ _ l0_2 true _ ?side1 ?side2 A2.out).mono ?_); (case side1 => exact U_14); (case side2 => exact U_30); rintro e w11 ⟨rfl, hb⟩; refine ⟨_, rfl, ?_⟩; replace BK686 := Ak (Qm BK686.out hb); replace BK687 := Ak (Qm BK687.out hb); replace HB := Ak (below_step (Qb HB.out) hb); (try clear hb); obtain ⟨hcz12_0, hcz12_1, hcz12_2⟩ := Qu3 BK686.out; have hfz12_0 := blk_frozen BK686.out 0; have hfz12_1 := blk_frozen BK686.out 1; have hfz12_2 := blk_frozen BK686.out 2) | ((with_reducible refine gate_callee (f := 51) rfl ?_); refine Qj (some 10) Tryd.func51 #[.agg #[.int .i64 a0_0, .int .i64 a0_1, .slice A0_2 l0_2.length c0_2]] ?_; (with_reducible refine (spec_l10Negate.calls k a0_0 a0_1 _ _ l0_2 t689 t690 t691 _ ?side1 ?side2 A4.out).mono ?_); (case side1 => exact U_14); (case side2 => exact U_30); rintro e w13 ⟨v692, rfl, ho0, hb⟩; refine ⟨_, rfl, ?_⟩; have HO693 := Ak (Kd.N_lower (Kd.N_mono (ok' := fun k_ => (w.heap.size ≤ k_) ∧ k_ ≠ gb686 ∧ k_ ≠ gb687) ho0 (fun k_ hk_ => ⟨(Nat.le_trans (below_size (Qb HB.out)) hk_), (Kd.freshB (g := gb686) (o := .cells #[.int .i64 a0_0, .int .i64 a0_1, .slice A0_2 l0_2.length c0_2] 25 (0, 0)) (Qa BK686.out) k_ hk_), (Kd.freshB (g := gb687) (o := .cells #[.int .i64 0, .int .i64 0, .slice none 0 0] 25 (0, 0)) (Qa BK687.out) k_ hk_)⟩)) (below_size (Qb HB.out))); replace BK686 := Ak (Qm BK686.out hb); replace BK687 := Ak (Qm BK687.out hb); replace HB := Ak (below_step (Qb HB.out) hb); (try clear hb); (try clear ho0)) | ((with_reducible refine gate_dst (N := 4) rfl ?_); refine Qk 4 #[.int .i64 0, .int .i64 0, .slice none 0 0] 25 ?_; intro gb694 hg w14 hbox hb; replace HO693 := Ak (Kd.N_below (Kd.N_elderB (by (with_reducible repeat (first | apply Kd.N_alloc | apply Kd.N_drewN | apply Kd.N_drew)); exact HO693.out) gb694 (Nat.le_of_eq hg.symm)) hb); have BK694 := Ak (hbox); have GW694 := Ak ((Qp hg HB.out : w.heap.size ≤ gb694)); have GE694 := Ak ((Qp hg HB.out : w.heap.size ≤ gb694)); replace HB := Ak (below_step (Qb HB.out) hb); have NB686_694 := Ak ((by rw [hg]; exact Nat.ne_of_lt (Qn BK686.out) : gb686 ≠ gb694)); have NB694_686 := Ak ((by rw [hg]; exact Nat.ne_of_gt (Qn BK686.out) : gb694 ≠ gb686)); replace BK686 := Ak (Qm BK686.out hb); have NB687_694 := Ak ((by rw [hg]; exact Nat.ne_of_lt (Qn BK687.out) : gb687 ≠ gb694)); have NB694_687 := Ak ((by rw [hg]; exact Nat.ne_of_gt (Qn BK687.out) : gb694 ≠ gb687)); replace BK687 := Ak (Qm BK687.out hb); clear hb hbox hg; have hnb15 := NB694_686.out; have hnc15 := NB686_694.out; have hnb16 := NB694_687.out; have hnc16 := NB687_694.out; obtain ⟨hcz17_0, hcz17_1, hcz17_2, hfz17_0, hfz17_1, hfz17_2⟩ := Qv3 BK694.out; obtain ⟨Ao18, co18, eo18⟩ := Kd.N_slice HO693.out; subst eo18) | ((with_reducible refine gate_callee (f := 50) rfl ?_); refine Qj (some 12) Tryd.func50 #[.agg #[.int .i64 t689, .int .i64 t690, .slice Ao18 t691.length co18]] ?_; (with_reducible refine (spec_IsExpr.calls k t689 t690 _ _ t691 true _ ?side1 ?side2 A5.out).mono ?_); (case side1 => refine (Kd.N_reads' (e := 25) (base := w.heap.size) (ok := fun k_ => (((w.heap.size ≤ k_) ∧ (k_ ≠ gb686 ∧ k_ ≠ gb687)) ∧ k_ ≠ gb694)) (n := t691.length) (c := co18) ?_).2.2; exact (by (with_reducible repeat (first | apply Kd.N_alloc | apply Kd.N_drewN | apply Kd.N_drew)); exact (Kd.N_mono (Kd.N_far (p := ⟨gb694, 2, none⟩) (Kd.N_far (p := ⟨gb694, 1, none⟩) (Kd.N_far (p := ⟨gb694, 0, none⟩) (Kd.N_mono HO693.out (fun k_ hk => (⟨hk, hk.2⟩ : _ ∧ k_ ≠ gb694))) (fun _ hk => hk.2) (.int .i64 t689)) (fun _ hk => hk.2) (.int .i64 t690)) (fun _ hk => hk.2) (.slice Ao18 t691.length co18)) (fun _ h_ => h_.1)))); (case side2 => exact (Kd.N_reads' HO693.out).2.1); rintro e w19 ⟨rfl, hb⟩; refine ⟨_, rfl, ?_⟩; replace HO693 := Ak (Kd.N_below (by (with_reducible repeat (first | apply Kd.N_alloc | apply Kd.N_drewN | apply Kd.N_drew)); exact (Kd.N_mono (Kd.N_far (p := ⟨gb694, 2, none⟩) (Kd.N_far (p := ⟨gb694, 1, none⟩) (Kd.N_far (p := ⟨gb694, 0, none⟩) (Kd.N_mono HO693.out (fun k_ hk => (⟨hk, hk.2⟩ : _ ∧ k_ ≠ gb694))) (fun _ hk => hk.2) (.int .i64 t689)) (fun _ hk => hk.2) (.int .i64 t690)) (fun _ hk => hk.2) (.slice Ao18 t691.length co18)) (fun _ h_ => h_.1))) hb); replace BK686 := Ak (blk_below (g := gb686) (o := .cells #[.int .i64 a0_0, .int .i64 a0_1, .slice A0_2 l0_2.length c0_2] 25 (0, 0)) (by refine Qe ?_; refine blk_far ?_ NB686_694.out _; refine Qe ?_; refine blk_far ?_ NB686_694.out _; refine Qe ?_; refine blk_far ?_ NB686_694.out _; exact Qa BK686.out) hb); replace BK687 := Ak (blk_below (g := gb687) (o := .cells #[.int .i64 0, .int .i64 0, .slice none 0 0] 25 (0, 0)) (by refine Qe ?_; refine blk_far ?_ NB687_694.out _; refine Qe ?_; refine blk_far ?_ NB687_694.out _; refine Qe ?_; refine blk_far ?_ NB687_694.out _; exact Qa BK687.out) hb); replace BK694 := Ak (blk_below (g := gb694) (o := .cells #[.int .i64 t689, .int .i64 t690, .slice Ao18 t691.length co18] 25 (0, 0)) (by refine Qe ?_; refine blk_put (cs := #[.int .i64 t689, .int .i64 t690, .slice none 0 0]) ?_ 2 _ rfl; refine Qe ?_; refine blk_put (cs := #[.int .i64 t689, .int .i64 0, .slice none 0 0]) ?_ 1 _ rfl; refine Qe ?_; refine blk_put (cs := #[.int .i64 0, .int .i64 0, .slice none 0 0]) ?_ 0 _ rfl; exact Qa BK694.out) hb); replace HB := Ak (below_step (Qb HB.out) hb); (try clear hb); (try clear hk); obtain ⟨hcz20_0, hcz20_1, hcz20_2, hfz20_0, hfz20_1, hfz20_2⟩ := Qv3 BK694.out; obtain ⟨hcz21_0, hcz21_1, hcz21_2⟩ := Qu3 BK687.out; have hfz21_0 := blk_frozen BK687.out 0; have hfz21_1 := blk_frozen BK687.out 1; have hfz21_2 := blk_frozen BK687.out 2))
   refine bodyPost_ret (results_ct rfl _ _ gb687 25 #[.int .i64 t689, .int .i64 t690, .slice Ao18 t691.length co18] (0, 0) _ rfl (by refine Qe ?_; refine blk_put (cs := #[.int .i64 t689, .int .i64 t690, .slice none 0 0]) ?_ 2 _ rfl; refine Qe ?_; refine blk_put (cs := #[.int .i64 t689, .int .i64 0, .slice none 0 0]) ?_ 1 _ rfl; refine Qe ?_; refine blk_put (cs := #[.int .i64 0, .int .i64 0, .slice none 0 0]) ?_ 0 _ rfl; exact Qa BK687.out) Tryd.underlying25 rfl (by kernel_rfl)) rfl ?_
   exact ⟨_, Qh, by (with_reducible repeat (first | apply Kd.N_alloc | apply Kd.N_drewN | apply Kd.N_drew)); exact Kd.N_mono (Kd.N_far (p := ⟨gb687, 2, none⟩) (Kd.N_far (p := ⟨gb687, 1, none⟩) (Kd.N_far (p := ⟨gb687, 0, none⟩) (Kd.N_mono HO693.out (fun k_ hk => (⟨hk, hk.1.2.2⟩ : _ ∧ k_ ≠ gb687))) (fun _ hk => hk.2) (.int .i64 t689)) (fun _ hk => hk.2) (.int .i64 t690)) (fun _ hk => hk.2) (.slice Ao18 t691.length co18)) (fun _ hk => hk.1.1.1), Qb HB.out⟩
  ·replace c6 := Bool.eq_false_iff.mpr c6
   (try subst c6)
   have H1 : (some (0, 0, ([] : List (S25)), false)) = some (r1, r2, r3, r4) := by rw [if_neg (show ¬ (false = true) by decide)] at H; exact H
   clear H
   have H := H1
   clear H1
   simp only [Option.some.injEq, Prod.mk.injEq] at H
   obtain ⟨rfl, rfl, rfl, rfl⟩ := H
   go_enter Tryd.func16, Tryd.ntmps16
   go_wp2_with (first | ((with_reducible refine gate_dst (N := 1) rfl ?_); refine Qk 1 #[.int .i64 a0_0, .int .i64 a0_1, .slice A0_2 l0_2.length c0_2] 25 ?_; intro gb686 hg w22 hbox hb; have BK686 := Ak (hbox); have GW686 := Ak ((Qp hg HB.out : w.heap.size ≤ gb686)); have GE686 := Ak ((Qp hg HB.out : w.heap.size ≤ gb686)); replace HB := Ak (below_step (Qb HB.out) hb); clear hb hbox hg) | ((with_reducible refine gate_dst (N := 2) rfl ?_); refine Qk 2 #[.int .i64 0, .int .i64 0, .slice none 0 0] 25 ?_; intro gb687 hg w23 hbox hb; have BK687 := Ak (hbox); have GW687 := Ak ((Qp hg HB.out : w.heap.size ≤ gb687)); have GE687 := Ak ((Qp hg HB.out : w.heap.size ≤ gb687)); replace HB := Ak (below_step (Qb HB.out) hb); have NB686_687 := Ak ((by rw [hg]; exact Nat.ne_of_lt (Qn BK686.out) : gb686 ≠ gb687)); have NB687_686 := Ak ((by rw [hg]; exact Nat.ne_of_gt (Qn BK686.out) : gb687 ≠ gb686)); replace BK686 := Ak (Qm BK686.out hb); clear hb hbox hg; have hnb24 := NB686_687.out; have hnc24 := NB687_686.out; obtain ⟨hcz25_0, hcz25_1, hcz25_2⟩ := Qu3 BK686.out; have hfz25_0 := blk_frozen BK686.out 0; have hfz25_1 := blk_frozen BK686.out 1; have hfz25_2 := blk_frozen BK686.out 2) | ((with_reducible refine gate_callee (f := 50) rfl ?_); refine Qj (some 6) Tryd.func50 #[.agg #[.int .i64 a0_0, .int .i64 a0_1, .slice A0_2 l0_2.length c0_2]] ?_; (with_reducible refine (spec_IsExpr.calls k a0_0 a0_1 _ _ l0_2 true _ ?side1 ?side2 A2.out).mono ?_); (case side1 => exact U_14); (case side2 => exact U_30); rintro e w26 ⟨rfl, hb⟩; refine ⟨_, rfl, ?_⟩; replace BK686 := Ak (Qm BK686.out hb); replace BK687 := Ak (Qm BK687.out hb); replace HB := Ak (below_step (Qb HB.out) hb); (try clear hb); obtain ⟨hcz27_0, hcz27_1, hcz27_2⟩ := Qu3 BK686.out; have hfz27_0 := blk_frozen BK686.out 0; have hfz27_1 := blk_frozen BK686.out 1; have hfz27_2 := blk_frozen BK686.out 2) | ((with_reducible refine gate_callee (f := 51) rfl ?_); refine Qj (some 10) Tryd.func51 #[.agg #[.int .i64 a0_0, .int .i64 a0_1, .slice A0_2 l0_2.length c0_2]] ?_; (with_reducible refine (spec_l10Negate.calls k a0_0 a0_1 _ _ l0_2 t689 t690 t691 _ ?side1 ?side2 A4.out).mono ?_); (case side1 => exact U_14); (case side2 => exact U_30); rintro e w28 ⟨v692, rfl, ho0, hb⟩; refine ⟨_, rfl, ?_⟩; have HO693 := Ak (Kd.N_lower (Kd.N_mono (ok' := fun k_ => (w.heap.size ≤ k_) ∧ k_ ≠ gb686 ∧ k_ ≠ gb687) ho0 (fun k_ hk_ => ⟨(Nat.le_trans (below_size (Qb HB.out)) hk_), (Kd.freshB (g := gb686) (o := .cells #[.int .i64 a0_0, .int .i64 a0_1, .slice A0_2 l0_2.length c0_2] 25 (0, 0)) (Qa BK686.out) k_ hk_), (Kd.freshB (g := gb687) (o := .cells #[.int .i64 0, .int .i64 0, .slice none 0 0] 25 (0, 0)) (Qa BK687.out) k_ hk_)⟩)) (below_size (Qb HB.out))); replace BK686 := Ak (Qm BK686.out hb); replace BK687 := Ak (Qm BK687.out hb); replace HB := Ak (below_step (Qb HB.out) hb); (try clear hb); (try clear ho0)) | ((with_reducible refine gate_dst (N := 4) rfl ?_); refine Qk 4 #[.int .i64 0, .int .i64 0, .slice none 0 0] 25 ?_; intro gb694 hg w29 hbox hb; replace HO693 := Ak (Kd.N_below (Kd.N_elderB (by (with_reducible repeat (first | apply Kd.N_alloc | apply Kd.N_drewN | apply Kd.N_drew)); exact HO693.out) gb694 (Nat.le_of_eq hg.symm)) hb); have BK694 := Ak (hbox); have GW694 := Ak ((Qp hg HB.out : w.heap.size ≤ gb694)); have GE694 := Ak ((Qp hg HB.out : w.heap.size ≤ gb694)); replace HB := Ak (below_step (Qb HB.out) hb); have NB686_694 := Ak ((by rw [hg]; exact Nat.ne_of_lt (Qn BK686.out) : gb686 ≠ gb694)); have NB694_686 := Ak ((by rw [hg]; exact Nat.ne_of_gt (Qn BK686.out) : gb694 ≠ gb686)); replace BK686 := Ak (Qm BK686.out hb); have NB687_694 := Ak ((by rw [hg]; exact Nat.ne_of_lt (Qn BK687.out) : gb687 ≠ gb694)); have NB694_687 := Ak ((by rw [hg]; exact Nat.ne_of_gt (Qn BK687.out) : gb694 ≠ gb687)); replace BK687 := Ak (Qm BK687.out hb); clear hb hbox hg; have hnb30 := NB694_686.out; have hnc30 := NB686_694.out; have hnb31 := NB694_687.out; have hnc31 := NB687_694.out; obtain ⟨hcz32_0, hcz32_1, hcz32_2, hfz32_0, hfz32_1, hfz32_2⟩ := Qv3 BK694.out; obtain ⟨Ao33, co33, eo33⟩ := Kd.N_slice HO693.out; subst eo33) | ((with_reducible refine gate_callee (f := 50) rfl ?_); refine Qj (some 12) Tryd.func50 #[.agg #[.int .i64 t689, .int .i64 t690, .slice Ao33 t691.length co33]] ?_; (with_reducible refine (spec_IsExpr.calls k t689 t690 _ _ t691 false _ ?side1 ?side2 A5.out).mono ?_); (case side1 => refine (Kd.N_reads' (e := 25) (base := w.heap.size) (ok := fun k_ => (((w.heap.size ≤ k_) ∧ (k_ ≠ gb686 ∧ k_ ≠ gb687)) ∧ k_ ≠ gb694)) (n := t691.length) (c := co33) ?_).2.2; exact (by (with_reducible repeat (first | apply Kd.N_alloc | apply Kd.N_drewN | apply Kd.N_drew)); exact (Kd.N_mono (Kd.N_far (p := ⟨gb694, 2, none⟩) (Kd.N_far (p := ⟨gb694, 1, none⟩) (Kd.N_far (p := ⟨gb694, 0, none⟩) (Kd.N_mono HO693.out (fun k_ hk => (⟨hk, hk.2⟩ : _ ∧ k_ ≠ gb694))) (fun _ hk => hk.2) (.int .i64 t689)) (fun _ hk => hk.2) (.int .i64 t690)) (fun _ hk => hk.2) (.slice Ao33 t691.length co33)) (fun _ h_ => h_.1)))); (case side2 => exact (Kd.N_reads' HO693.out).2.1); rintro e w34 ⟨rfl, hb⟩; refine ⟨_, rfl, ?_⟩; replace HO693 := Ak (Kd.N_below (by (with_reducible repeat (first | apply Kd.N_alloc | apply Kd.N_drewN | apply Kd.N_drew)); exact (Kd.N_mono (Kd.N_far (p := ⟨gb694, 2, none⟩) (Kd.N_far (p := ⟨gb694, 1, none⟩) (Kd.N_far (p := ⟨gb694, 0, none⟩) (Kd.N_mono HO693.out (fun k_ hk => (⟨hk, hk.2⟩ : _ ∧ k_ ≠ gb694))) (fun _ hk => hk.2) (.int .i64 t689)) (fun _ hk => hk.2) (.int .i64 t690)) (fun _ hk => hk.2) (.slice Ao33 t691.length co33)) (fun _ h_ => h_.1))) hb); replace BK686 := Ak (blk_below (g := gb686) (o := .cells #[.int .i64 a0_0, .int .i64 a0_1, .slice A0_2 l0_2.length c0_2] 25 (0, 0)) (by refine Qe ?_; refine blk_far ?_ NB686_694.out _; refine Qe ?_; refine blk_far ?_ NB686_694.out _; refine Qe ?_; refine blk_far ?_ NB686_694.out _; exact Qa BK686.out) hb); replace BK687 := Ak (blk_below (g := gb687) (o := .cells #[.int .i64 0, .int .i64 0, .slice none 0 0] 25 (0, 0)) (by refine Qe ?_; refine blk_far ?_ NB687_694.out _; refine Qe ?_; refine blk_far ?_ NB687_694.out _; refine Qe ?_; refine blk_far ?_ NB687_694.out _; exact Qa BK687.out) hb); replace BK694 := Ak (blk_below (g := gb694) (o := .cells #[.int .i64 t689, .int .i64 t690, .slice Ao33 t691.length co33] 25 (0, 0)) (by refine Qe ?_; refine blk_put (cs := #[.int .i64 t689, .int .i64 t690, .slice none 0 0]) ?_ 2 _ rfl; refine Qe ?_; refine blk_put (cs := #[.int .i64 t689, .int .i64 0, .slice none 0 0]) ?_ 1 _ rfl; refine Qe ?_; refine blk_put (cs := #[.int .i64 0, .int .i64 0, .slice none 0 0]) ?_ 0 _ rfl; exact Qa BK694.out) hb); replace HB := Ak (below_step (Qb HB.out) hb); (try clear hb); (try clear hk); obtain ⟨hcz35_0, hcz35_1, hcz35_2⟩ := Qu3 BK687.out; have hfz35_0 := blk_frozen BK687.out 0; have hfz35_1 := blk_frozen BK687.out 1; have hfz35_2 := blk_frozen BK687.out 2))
   refine bodyPost_ret (results_ct rfl _ _ gb687 25 #[.int .i64 0, .int .i64 0, .slice none 0 0] (0, 0) _ rfl (by refine Qe ?_; refine blk_put (cs := #[.int .i64 0, .int .i64 0, .slice none 0 0]) ?_ 2 _ rfl; refine Qe ?_; refine blk_put (cs := #[.int .i64 0, .int .i64 0, .slice none 0 0]) ?_ 1 _ rfl; refine Qe ?_; refine blk_put (cs := #[.int .i64 0, .int .i64 0, .slice none 0 0]) ?_ 0 _ rfl; exact Qa BK687.out) Tryd.underlying25 rfl (by kernel_rfl)) rfl ?_
   exact ⟨_, Qh, by first | exact Kd.R_nil _ _ _ _ _ | exact Kd.N_nil _ _ _ _ _ | exact Kd.V_nil _ _ _ _ _ | exact Kd.Q_nil _ _ _ _ _ | exact Kd.S_nil _ _ _ _ _, Qb HB.out⟩
 ·replace c3 := Bool.eq_false_iff.mpr c3
  (try subst c3)
  have H1 : (some (0, 0, ([] : List (S25)), false)) = some (r1, r2, r3, r4) := by rw [if_neg (show ¬ (false = true) by decide)] at H; exact H
  clear H
  have H := H1
  clear H1
  simp only [Option.some.injEq, Prod.mk.injEq] at H
  obtain ⟨rfl, rfl, rfl, rfl⟩ := H
  go_enter Tryd.func16, Tryd.ntmps16
  go_wp2_with (first | ((with_reducible refine gate_dst (N := 1) rfl ?_); refine Qk 1 #[.int .i64 a0_0, .int .i64 a0_1, .slice A0_2 l0_2.length c0_2] 25 ?_; intro gb686 hg w36 hbox hb; have BK686 := Ak (hbox); have GW686 := Ak ((Qp hg HB.out : w.heap.size ≤ gb686)); have GE686 := Ak ((Qp hg HB.out : w.heap.size ≤ gb686)); replace HB := Ak (below_step (Qb HB.out) hb); clear hb hbox hg) | ((with_reducible refine gate_dst (N := 2) rfl ?_); refine Qk 2 #[.int .i64 0, .int .i64 0, .slice none 0 0] 25 ?_; intro gb687 hg w37 hbox hb; have BK687 := Ak (hbox); have GW687 := Ak ((Qp hg HB.out : w.heap.size ≤ gb687)); have GE687 := Ak ((Qp hg HB.out : w.heap.size ≤ gb687)); replace HB := Ak (below_step (Qb HB.out) hb); have NB686_687 := Ak ((by rw [hg]; exact Nat.ne_of_lt (Qn BK686.out) : gb686 ≠ gb687)); have NB687_686 := Ak ((by rw [hg]; exact Nat.ne_of_gt (Qn BK686.out) : gb687 ≠ gb686)); replace BK686 := Ak (Qm BK686.out hb); clear hb hbox hg; have hnb38 := NB686_687.out; have hnc38 := NB687_686.out; obtain ⟨hcz39_0, hcz39_1, hcz39_2⟩ := Qu3 BK686.out; have hfz39_0 := blk_frozen BK686.out 0; have hfz39_1 := blk_frozen BK686.out 1; have hfz39_2 := blk_frozen BK686.out 2) | ((with_reducible refine gate_callee (f := 50) rfl ?_); refine Qj (some 6) Tryd.func50 #[.agg #[.int .i64 a0_0, .int .i64 a0_1, .slice A0_2 l0_2.length c0_2]] ?_; (with_reducible refine (spec_IsExpr.calls k a0_0 a0_1 _ _ l0_2 false _ ?side1 ?side2 A2.out).mono ?_); (case side1 => exact U_14); (case side2 => exact U_30); rintro e w40 ⟨rfl, hb⟩; refine ⟨_, rfl, ?_⟩; replace BK686 := Ak (Qm BK686.out hb); replace BK687 := Ak (Qm BK687.out hb); replace HB := Ak (below_step (Qb HB.out) hb); (try clear hb); obtain ⟨hcz41_0, hcz41_1, hcz41_2⟩ := Qu3 BK687.out; have hfz41_0 := blk_frozen BK687.out 0; have hfz41_1 := blk_frozen BK687.out 1; have hfz41_2 := blk_frozen BK687.out 2))
  refine bodyPost_ret (results_ct rfl _ _ gb687 25 #[.int .i64 0, .int .i64 0, .slice none 0 0] (0, 0) _ rfl (by refine Qe ?_; refine blk_put (cs := #[.int .i64 0, .int .i64 0, .slice none 0 0]) ?_ 2 _ rfl; refine Qe ?_; refine blk_put (cs := #[.int .i64 0, .int .i64 0, .slice none 0 0]) ?_ 1 _ rfl; refine Qe ?_; refine blk_put (cs := #[.int .i64 0, .int .i64 0, .slice none 0 0]) ?_ 0 _ rfl; exact Qa BK687.out) Tryd.underlying25 rfl (by kernel_rfl)) rfl ?_
  exact ⟨_, Qh, by first | exact Kd.R_nil _ _ _ _ _ | exact Kd.N_nil _ _ _ _ _ | exact Kd.V_nil _ _ _ _ _ | exact Kd.Q_nil _ _ _ _ _ | exact Kd.S_nil _ _ _ _ _, Qb HB.out⟩

/-! ### impl_size: function 132 -/
def impl_size.f (a0 : Int) : Option (Int) := some (mx a0 (wrap64 (-a0)))
theorem impl_size.calls (a0 : Int) (r : Int) (w : World) (h : impl_size.f a0 = some r) :
  Calls Tryd.prog 132 #[.int .i64 a0] w fun e w' => e = .returned (.int .i64 r) ∧ Below w.heap.size w w' := by
 have HB := Ak (Below.refl w.heap.size w)
 have H : (some (mx a0 (wrap64 (-a0)))) = some r := h
 clear h
 obtain ⟨ji2, hji2⟩ : ∃ j_ : Int, (mx a0 (wrap64 (-a0))) = j_ := ⟨_, rfl⟩
 replace H : (some ji2) = some r := by first | (rw [hji2] at H; exact H) | (simp only [hji2] at H ⊢; exact H)
 have hji2_ : (if a0 < (wrap64 (-a0)) then (wrap64 (-a0)) else a0) = ji2 := hji2
 obtain rfl := Option.some.inj H
 go_enter Tryd.func132, Tryd.ntmps132
 go_wp2
 go_ret
 exact ⟨by first | rfl | (simp [errW_none, errW_some] <;> rfl) | (simp only [← hji2]; first | rfl | (simp [errW_none, errW_some] <;> rfl)) | (simp [*, errW_none, errW_some] <;> rfl), Qb HB.out⟩

/-! ### impl_product: function 94 -/
def impl_product.f (k : Nat) (a0 : Int) (a1 : Int) : Option (Int × Bool) := (impl_LimitOf.f k 30).bind fun t696 => (if a0 = 0 then (some (wrap64 (a0 * a1), true)) else ((impl_size.f a1).bind fun t697 => ((impl_size.f a0).bind fun t698 => (if t698 = 0 then (none) else (if t697 > (wrap64 (Int.tdiv t696 t698)) then (some (0, false)) else (some (wrap64 (a0 * a1), true)))))))
theorem impl_product.calls (k : Nat) (a0 : Int) (a1 : Int) (r1 : Int) (r2 : Bool) (w : World) (h : impl_product.f k a0 a1 = some (r1, r2)) :
  Calls Tryd.prog 94 #[.int .i64 a0, .int .i64 a1] w fun e w' => e = .returned (.tuple #[.int .i64 r1, .bool r2]) ∧ Below w.heap.size w w' := by
 have HB := Ak (Below.refl w.heap.size w)
 have H : ((impl_LimitOf.f k 30).bind fun t696 => (if a0 = 0 then (some (wrap64 (a0 * a1), true)) else ((impl_size.f a1).bind fun t697 => ((impl_size.f a0).bind fun t698 => (if t698 = 0 then (none) else (if t697 > (wrap64 (Int.tdiv t696 t698)) then (some (0, false)) else (some (wrap64 (a0 * a1), true)))))))) = some (r1, r2) := h
 clear h
 replace H := Option.bind_eq_some_iff.mp H
 obtain ⟨t696, A30, H⟩ := H
 replace H : (if a0 = 0 then (some (wrap64 (a0 * a1), true)) else ((impl_size.f a1).bind fun t697 => ((impl_size.f a0).bind fun t698 => (if t698 = 0 then (none) else (if t697 > (wrap64 (Int.tdiv t696 t698)) then (some (0, false)) else (some (wrap64 (a0 * a1), true))))))) = some (r1, r2) := H
 have A3 := Ak A30
 clear A30
 by_cases c4 : a0 = 0
 ·rw [if_pos c4] at H
  have c4b0 : (a0 == 0) = true := beq_iff_eq.mpr c4
  have c4b1 : (a0 != 0) = false := bne_eq_false_iff_eq.mpr c4
  clear c4
  simp only [Option.some.injEq, Prod.mk.injEq] at H
  obtain ⟨rfl, rfl⟩ := H
  go_enter Tryd.func94, Tryd.ntmps94
  go_wp2_with (first | ((with_reducible refine gate_callee (f := 90) rfl ?_); refine Qj (some 7) Tryd.func90 #[.int .i64 30] ?_; (with_reducible refine (impl_LimitOf.calls k 30 t696 _ A3.out).mono ?_); rintro e w' ⟨rfl, ⟨nd, rfl⟩⟩; refine ⟨_, rfl, ?_⟩))
  go_ret2
  exact ⟨Qh, Qb HB.out⟩
 ·rw [if_neg c4] at H
  have c4b0 : (a0 == 0) = false := beq_eq_false_iff_ne.mpr c4
  have c4b1 : (a0 != 0) = true := bne_iff_ne.mpr c4
  replace H := Option.bind_eq_some_iff.mp H
  obtain ⟨t697, A50, H⟩ := H
  replace H : ((impl_size.f a0).bind fun t698 => (if t698 = 0 then (none) else (if t697 > (wrap64 (Int.tdiv t696 t698)) then (some (0, false)) else (some (wrap64 (a0 * a1), true))))) = some (r1, r2) := H
  have A5 := Ak A50
  clear A50
  replace H := Option.bind_eq_some_iff.mp H
  obtain ⟨t698, A60, H⟩ := H
  replace H : (if t698 = 0 then (none) else (if t697 > (wrap64 (Int.tdiv t696 t698)) then (some (0, false)) else (some (wrap64 (a0 * a1), true)))) = some (r1, r2) := H
  have A6 := Ak A60
  clear A60
  by_cases c7 : t698 = 0
  ·rw [if_pos c7] at H
   exact absurd H (by simp)
  ·rw [if_neg c7] at H
   have c7b0 : (t698 == 0) = false := beq_eq_false_iff_ne.mpr c7
   have c7b1 : (t698 != 0) = true := bne_iff_ne.mpr c7
   by_cases c8 : t697 > (wrap64 (Int.tdiv t696 t698))
   ·rw [if_pos c8] at H
    have c8b0 : decide ((wrap64 (Int.tdiv t696 t698)) < t697) = true := decide_eq_true c8
    clear c8
    simp only [Option.some.injEq, Prod.mk.injEq] at H
    obtain ⟨rfl, rfl⟩ := H
    go_enter Tryd.func94, Tryd.ntmps94
    go_wp2_with (first | ((with_reducible refine gate_callee (f := 90) rfl ?_); refine Qj (some 7) Tryd.func90 #[.int .i64 30] ?_; (with_reducible refine (impl_LimitOf.calls k 30 t696 _ A3.out).mono ?_); rintro e w' ⟨rfl, ⟨nd, rfl⟩⟩; refine ⟨_, rfl, ?_⟩) | (go_at_call 132; (with_reducible refine (impl_size.calls a1 t697 _ A5.out).mono ?_); rintro e w9 ⟨rfl, hb⟩; replace HB := Ak (below_step (Qb HB.out) hb); (try clear hb)) | (go_at_call 132; (with_reducible refine (impl_size.calls a0 t698 _ A6.out).mono ?_); rintro e w10 ⟨rfl, hb⟩; replace HB := Ak (below_step (Qb HB.out) hb); (try clear hb); (try clear hb2); (try clear hk); (try clear hi)))
    go_ret2
    exact ⟨Qh, Qb HB.out⟩
   ·rw [if_neg c8] at H
    have c8b0 : decide ((wrap64 (Int.tdiv t696 t698)) < t697) = false := decide_eq_false c8
    clear c8
    simp only [Option.some.injEq, Prod.mk.injEq] at H
    obtain ⟨rfl, rfl⟩ := H
    go_enter Tryd.func94, Tryd.ntmps94
    go_wp2_with (first | ((with_reducible refine gate_callee (f := 90) rfl ?_); refine Qj (some 7) Tryd.func90 #[.int .i64 30] ?_; (with_reducible refine (impl_LimitOf.calls k 30 t696 _ A3.out).mono ?_); rintro e w' ⟨rfl, ⟨nd, rfl⟩⟩; refine ⟨_, rfl, ?_⟩) | (go_at_call 132; (with_reducible refine (impl_size.calls a1 t697 _ A5.out).mono ?_); rintro e w11 ⟨rfl, hb⟩; replace HB := Ak (below_step (Qb HB.out) hb); (try clear hb)) | (go_at_call 132; (with_reducible refine (impl_size.calls a0 t698 _ A6.out).mono ?_); rintro e w12 ⟨rfl, hb⟩; replace HB := Ak (below_step (Qb HB.out) hb); (try clear hb); (try clear hb2); (try clear hk); (try clear hi)))
    go_ret2
    exact ⟨Qh, Qb HB.out⟩

/-! ### impl_divided: function 95 -/
def impl_divided.f (a0 : Int) (a1 : Int) : Option (Int × Int) := (impl_size.f a1).bind fun t699 => (if t699 = 0 then (none) else ((impl_size.f a1).bind fun t700 => (if (wrap64 (2 * (Int.tmod a0 t699))) > t700 then ((impl_size.f a1).bind fun t701 => (if a1 = 0 then (none) else (some (wrap64 (Int.tdiv (wrap64 (a0 - (wrap64 ((Int.tmod a0 t699) - t701)))) a1), wrap64 ((Int.tmod a0 t699) - t701))))) else ((impl_size.f a1).bind fun t702 => (if (wrap64 (2 * (Int.tmod a0 t699))) ≤ (wrap64 (-t702)) then ((impl_size.f a1).bind fun t703 => (if a1 = 0 then (none) else (some (wrap64 (Int.tdiv (wrap64 (a0 - (wrap64 ((Int.tmod a0 t699) + t703)))) a1), wrap64 ((Int.tmod a0 t699) + t703))))) else (if a1 = 0 then (none) else (some (wrap64 (Int.tdiv (wrap64 (a0 - (Int.tmod a0 t699))) a1), Int.tmod a0 t699))))))))
theorem impl_divided.calls (a0 : Int) (a1 : Int) (r1 : Int) (r2 : Int) (w : World) (h : impl_divided.f a0 a1 = some (r1, r2)) :
  Calls Tryd.prog 95 #[.int .i64 a0, .int .i64 a1] w fun e w' => e = .returned (.tuple #[.int .i64 r1, .int .i64 r2]) ∧ Below w.heap.size w w' := by
 have HB := Ak (Below.refl w.heap.size w)
 have H : ((impl_size.f a1).bind fun t699 => (if t699 = 0 then (none) else ((impl_size.f a1).bind fun t700 => (if (wrap64 (2 * (Int.tmod a0 t699))) > t700 then ((impl_size.f a1).bind fun t701 => (if a1 = 0 then (none) else (some (wrap64 (Int.tdiv (wrap64 (a0 - (wrap64 ((Int.tmod a0 t699) - t701)))) a1), wrap64 ((Int.tmod a0 t699) - t701))))) else ((impl_size.f a1).bind fun t702 => (if (wrap64 (2 * (Int.tmod a0 t699))) ≤ (wrap64 (-t702)) then ((impl_size.f a1).bind fun t703 => (if a1 = 0 then (none) else (some (wrap64 (Int.tdiv (wrap64 (a0 - (wrap64 ((Int.tmod a0 t699) + t703)))) a1), wrap64 ((Int.tmod a0 t699) + t703))))) else (if a1 = 0 then (none) else (some (wrap64 (Int.tdiv (wrap64 (a0 - (Int.tmod a0 t699))) a1), Int.tmod a0 t699))))))))) = some (r1, r2) := h
 clear h
 replace H := Option.bind_eq_some_iff.mp H
 obtain ⟨t699, A30, H⟩ := H
 replace H : (if t699 = 0 then (none) else ((impl_size.f a1).bind fun t700 => (if (wrap64 (2 * (Int.tmod a0 t699))) > t700 then ((impl_size.f a1).bind fun t701 => (if a1 = 0 then (none) else (some (wrap64 (Int.tdiv (wrap64 (a0 - (wrap64 ((Int.tmod a0 t699) - t701)))) a1), wrap64 ((Int.tmod a0 t699) - t701))))) else ((impl_size.f a1).bind fun t702 => (if (wrap64 (2 * (Int.tmod a0 t699))) ≤ (wrap64 (-t702)) then ((impl_size.f a1).bind fun t703 => (if a1 = 0 then (none) else (some (wrap64 (Int.tdiv (wrap64 (a0 - (wrap64 ((Int.tmod a0 t699) + t703)))) a1), wrap64 ((Int.tmod a0 t699) + t703))))) else (if a1 = 0 then (none) else (some (wrap64 (Int.tdiv (wrap64 (a0 - (Int.tmod a0 t699))) a1), Int.tmod a0 t699)))))))) = some (r1, r2) := H
 have A3 := Ak A30
 clear A30
 by_cases c4 : t699 = 0
 ·rw [if_pos c4] at H
  exact absurd H (by simp)
 ·rw [if_neg c4] at H
  have c4b0 : (t699 == 0) = false := beq_eq_false_iff_ne.mpr c4
  have c4b1 : (t699 != 0) = true := bne_iff_ne.mpr c4
  replace H := Option.bind_eq_some_iff.mp H
  obtain ⟨t700, A50, H⟩ := H
  replace H : (if (wrap64 (2 * (Int.tmod a0 t699))) > t700 then ((impl_size.f a1).bind fun t701 => (if a1 = 0 then (none) else (some (wrap64 (Int.tdiv (wrap64 (a0 - (wrap64 ((Int.tmod a0 t699) - t701)))) a1), wrap64 ((Int.tmod a0 t699) - t701))))) else ((impl_size.f a1).bind fun t702 => (if (wrap64 (2 * (Int.tmod a0 t699))) ≤ (wrap64 (-t702)) then ((impl_size.f a1).bind fun t703 => (if a1 = 0 then (none) else (some (wrap64 (Int.tdiv (wrap64 (a0 - (wrap64 ((Int.tmod a0 t699) + t703)))) a1), wrap64 ((Int.tmod a0 t699) + t703))))) else (if a1 = 0 then (none) else (some (wrap64 (Int.tdiv (wrap64 (a0 - (Int.tmod a0 t699))) a1), Int.tmod a0 t699)))))) = some (r1, r2) := H
  have A5 := Ak A50
  clear A50
  by_cases c6 : (wrap64 (2 * (Int.tmod a0 t699))) > t700
  ·rw [if_pos c6] at H
   have c6b0 : decide (t700 < (wrap64 (2 * (Int.tmod a0 t699)))) = true := decide_eq_true c6
   clear c6
   replace H := Option.bind_eq_some_iff.mp H
   obtain ⟨t701, A70, H⟩ := H
   replace H : (if a1 = 0 then (none) else (some (wrap64 (Int.tdiv (wrap64 (a0 - (wrap64 ((Int.tmod a0 t699) - t701)))) a1), wrap64 ((Int.tmod a0 t699) - t701)))) = some (r1, r2) := H
   have A7 := Ak A70
   clear A70
   by_cases c8 : a1 = 0
   ·rw [if_pos c8] at H
    exact absurd H (by simp)
   ·rw [if_neg c8] at H
    have c8b0 : (a1 == 0) = false := beq_eq_false_iff_ne.mpr c8
    have c8b1 : (a1 != 0) = true := bne_iff_ne.mpr c8
    simp only [Option.some.injEq, Prod.mk.injEq] at H
    obtain ⟨rfl, rfl⟩ := H
    go_enter Tryd.func95, Tryd.ntmps95
    go_wp2_with (first | ((with_reducible refine gate_callee (f := 132) rfl ?_); refine Qj (some 9) Tryd.func132 #[.int .i64 a1] ?_; (with_reducible refine (impl_size.calls a1 t699 _ A3.out).mono ?_); rintro e w9 ⟨rfl, hb⟩; refine ⟨_, rfl, ?_⟩; replace HB := Ak (below_step (Qb HB.out) hb); (try clear hb)) | ((with_reducible refine gate_callee (f := 132) rfl ?_); refine Qj (some 15) Tryd.func132 #[.int .i64 a1] ?_; (with_reducible refine (impl_size.calls a1 t700 _ A5.out).mono ?_); rintro e w10 ⟨rfl, hb⟩; refine ⟨_, rfl, ?_⟩; replace HB := Ak (below_step (Qb HB.out) hb); (try clear hb)) | ((with_reducible refine gate_callee (f := 132) rfl ?_); refine Qj (some 19) Tryd.func132 #[.int .i64 a1] ?_; (with_reducible refine (impl_size.calls a1 t701 _ A7.out).mono ?_); rintro e w11 ⟨rfl, hb⟩; refine ⟨_, rfl, ?_⟩; replace HB := Ak (below_step (Qb HB.out) hb); (try clear hb)))
    go_ret2
    exact ⟨Qh, Qb HB.out⟩
  ·rw [if_neg c6] at H
   have c6b0 : decide (t700 < (wrap64 (2 * (Int.tmod a0 t699)))) = false := decide_eq_false c6
   clear c6
   replace H := Option.bind_eq_some_iff.mp H
   obtain ⟨t702, A120, H⟩ := H
   replace H : (if (wrap64 (2 * (Int.tmod a0 t699))) ≤ (wrap64 (-t702)) then ((impl_size.f a1).bind fun t703 => (if a1 = 0 then (none) else (some (wrap64 (Int.tdiv (wrap64 (a0 - (wrap64 ((Int.tmod a0 t699) + t703)))) a1), wrap64 ((Int.tmod a0 t699) + t703))))) else (if a1 = 0 then (none) else (some (wrap64 (Int.tdiv (wrap64 (a0 - (Int.tmod a0 t699))) a1), Int.tmod a0 t699)))) = some (r1, r2) := H
   have A12 := Ak A120
   clear A120
   by_cases c13 : (wrap64 (2 * (Int.tmod a0 t699))) ≤ (wrap64 (-t702))
   ·rw [if_pos c13] at H
    have c13b0 : decide ((wrap64 (2 * (Int.tmod a0 t699))) ≤ (wrap64 (-t702))) = true := decide_eq_true c13
    clear c13
    replace H := Option.bind_eq_some_iff.mp H
    obtain ⟨t703, A140, H⟩ := H
    replace H : (if a1 = 0 then (none) else (some (wrap64 (Int.tdiv (wrap64 (a0 - (wrap64 ((Int.tmod a0 t699) + t703)))) a1), wrap64 ((Int.tmod a0 t699) + t703)))) = some (r1, r2) := H
    have A14 := Ak A140
    clear A140
    by_cases c15 : a1 = 0
    ·rw [if_pos c15] at H
     exact absurd H (by simp)
    ·rw [if_neg c15] at H
     have c15b0 : (a1 == 0) = false := beq_eq_false_iff_ne.mpr c15
     have c15b1 : (a1 != 0) = true := bne_iff_ne.mpr c15
     simp only [Option.some.injEq, Prod.mk.injEq] at H
     obtain ⟨rfl, rfl⟩ := H
     go_enter Tryd.func95, Tryd.ntmps95
     go_wp2_with (first | ((with_reducible refine gate_callee (f := 132) rfl ?_); refine Qj (some 9) Tryd.func132 #[.int .i64 a1] ?_; (with_reducible refine (impl_size.calls a1 t699 _ A3.out).mono ?_); rintro e w16 ⟨rfl, hb⟩; refine ⟨_, rfl, ?_⟩; replace HB := Ak (below_step (Qb HB.out) hb); (try clear hb)) | ((with_reducible refine gate_callee (f := 132) rfl ?_); refine Qj (some 15) Tryd.func132 #[.int .i64 a1] ?_; (with_reducible refine (impl_size.calls a1 t700 _ A5.out).mono ?_); rintro e w17 ⟨rfl, hb⟩; refine ⟨_, rfl, ?_⟩; replace HB := Ak (below_step (Qb HB.out) hb); (try clear hb)) | ((with_reducible refine gate_callee (f := 132) rfl ?_); refine Qj (some 25) Tryd.func132 #[.int .i64 a1] ?_; (with_reducible refine (impl_size.calls a1 t702 _ A12.out).mono ?_); rintro e w18 ⟨rfl, hb⟩; refine ⟨_, rfl, ?_⟩; replace HB := Ak (below_step (Qb HB.out) hb); (try clear hb)) | ((with_reducible refine gate_callee (f := 132) rfl ?_); refine Qj (some 30) Tryd.func132 #[.int .i64 a1] ?_; (with_reducible refine (impl_size.calls a1 t703 _ A14.out).mono ?_); rintro e w19 ⟨rfl, hb⟩; refine ⟨_, rfl, ?_⟩; replace HB := Ak (below_step (Qb HB.out) hb); (try clear hb)))
     go_ret2
     exact ⟨Qh, Qb HB.out⟩
   ·rw [if_neg c13] at H
    have c13b0 : decide ((wrap64 (2 * (Int.tmod a0 t699))) ≤ (wrap64 (-t702))) = false := decide_eq_false c13
    clear c13
    by_cases c20 : a1 = 0
    ·rw [if_pos c20] at H
     exact absurd H (by simp)
    ·rw [if_neg c20] at H
     have c20b0 : (a1 == 0) = false := beq_eq_false_iff_ne.mpr c20
     have c20b1 : (a1 != 0) = true := bne_iff_ne.mpr c20
     simp only [Option.some.injEq, Prod.mk.injEq] at H
     obtain ⟨rfl, rfl⟩ := H
     go_enter Tryd.func95, Tryd.ntmps95
     go_wp2_with (first | ((with_reducible refine gate_callee (f := 132) rfl ?_); refine Qj (some 9) Tryd.func132 #[.int .i64 a1] ?_; (with_reducible refine (impl_size.calls a1 t699 _ A3.out).mono ?_); rintro e w21 ⟨rfl, hb⟩; refine ⟨_, rfl, ?_⟩; replace HB := Ak (below_step (Qb HB.out) hb); (try clear hb)) | ((with_reducible refine gate_callee (f := 132) rfl ?_); refine Qj (some 15) Tryd.func132 #[.int .i64 a1] ?_; (with_reducible refine (impl_size.calls a1 t700 _ A5.out).mono ?_); rintro e w22 ⟨rfl, hb⟩; refine ⟨_, rfl, ?_⟩; replace HB := Ak (below_step (Qb HB.out) hb); (try clear hb)) | ((with_reducible refine gate_callee (f := 132) rfl ?_); refine Qj (some 25) Tryd.func132 #[.int .i64 a1] ?_; (with_reducible refine (impl_size.calls a1 t702 _ A12.out).mono ?_); rintro e w23 ⟨rfl, hb⟩; refine ⟨_, rfl, ?_⟩; replace HB := Ak (below_step (Qb HB.out) hb); (try clear hb)))
     go_ret2
     exact ⟨Qh, Qb HB.out⟩

/-! ### impl_fits: function 96 -/
def impl_fits.f (k : Nat) (a0 : Int) (a1 : Int) : Option (Bool) := (impl_LimitOf.f k a1).bind fun t704 => (if a0 ≥ (wrap64 (-t704)) then ((impl_LimitOf.f k a1).bind fun t705 => (some (decide (a0 ≤ t705)))) else (some false))
theorem impl_fits.calls (k : Nat) (a0 : Int) (a1 : Int) (r : Bool) (w : World) (h : impl_fits.f k a0 a1 = some r) :
  Calls Tryd.prog 96 #[.int .i64 a0, .int .i64 a1] w fun e w' => e = .returned (.bool r) ∧ Drawn0 w w' := by
 have H : ((impl_LimitOf.f k a1).bind fun t704 => (if a0 ≥ (wrap64 (-t704)) then ((impl_LimitOf.f k a1).bind fun t705 => (some (decide (a0 ≤ t705)))) else (some false))) = some r := h
 clear h
 replace H := Option.bind_eq_some_iff.mp H
 obtain ⟨t704, A30, H⟩ := H
 replace H : (if a0 ≥ (wrap64 (-t704)) then ((impl_LimitOf.f k a1).bind fun t705 => (some (decide (a0 ≤ t705)))) else (some false)) = some r := H
 have A3 := Ak A30
 clear A30
 by_cases c4 : a0 ≥ (wrap64 (-t704))
 ·rw [if_pos c4] at H
  have c4b0 : decide ((wrap64 (-t704)) ≤ a0) = true := decide_eq_true c4
  clear c4
  replace H := Option.bind_eq_some_iff.mp H
  obtain ⟨t705, A50, H⟩ := H
  replace H : (some (decide (a0 ≤ t705))) = some r := H
  have A5 := Ak A50
  clear A50
  obtain rfl := Option.some.inj H
  go_enter Tryd.func96, Tryd.ntmps96
  go_wp2_with (first | ((with_reducible refine gate_callee (f := 90) rfl ?_); refine Qj (some 7) Tryd.func90 #[.int .i64 a1] ?_; (with_reducible refine (impl_LimitOf.calls k a1 t704 _ A3.out).mono ?_); rintro e w' ⟨rfl, ⟨nd, rfl⟩⟩; refine ⟨_, rfl, ?_⟩) | (go_at_call 90; (with_reducible refine (impl_LimitOf.calls k a1 t705 _ A5.out).mono ?_); rintro e w' ⟨rfl, ⟨nd, rfl⟩⟩))
  go_ret
  exact ⟨Qi, Ql⟩
 ·rw [if_neg c4] at H
  have c4b0 : decide ((wrap64 (-t704)) ≤ a0) = false := decide_eq_false c4
  clear c4
  obtain rfl := Option.some.inj H
  go_enter Tryd.func96, Tryd.ntmps96
  go_wp2_with (first | ((with_reducible refine gate_callee (f := 90) rfl ?_); refine Qj (some 7) Tryd.func90 #[.int .i64 a1] ?_; (with_reducible refine (impl_LimitOf.calls k a1 t704 _ A3.out).mono ?_); rintro e w' ⟨rfl, ⟨nd, rfl⟩⟩; refine ⟨_, rfl, ?_⟩))
  go_ret
  exact ⟨Qi, Ql⟩

end Go.Proofs.YtjfgcipbbcplmaaDoor.HFnExprs

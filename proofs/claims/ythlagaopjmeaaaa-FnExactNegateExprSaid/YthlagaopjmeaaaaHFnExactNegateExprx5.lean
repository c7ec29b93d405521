/- Text for FnExactNegateExpr: written by a program of this session on the pattern of the kit's print. -/
import Derived.Test.YthlagaopjmeaaaaHFnExactNegateExprx0
import Derived.Test.YthlagaopjmeaaaaHFnExactNegateExprx2
import Derived.Test.YthlagaopjmeaaaaHFnExactNegateExprx4
namespace Go.Proofs.Ythlagaopjmeaaaa.HFnExactNegateExpr
set_option maxHeartbeats 8000000
set_option maxRecDepth 100000
open Go.RowKit Go.Proofs.YthlagaopjmeaaaaW.PrintWords Go.Proofs.YthlagaopjmeaaaaW.PrintLast Go.Proofs.YthlagaopjmeaaaaW.PrintMore
attribute [local go_sem] max2_int min2_int max_two min_two max_three min_three max_four min_four
set_option linter.unusedVariables false
set_option linter.unusedSimpArgs false

/-! ### spec_NegateExpr: function 6 -/
def spec_NegateExpr.f (k : Nat) (a0_0 : Int) (a0_1 : Int) (l0_2 : List (S28)) : Option (Int × Int × (List (S28)) × Bool) := (spec_IsExpr.f k a0_0 a0_1 l0_2).bind fun t197 => (if t197 = true then ((spec_l10Negate.f k a0_0 a0_1 l0_2).bind fun bt198 => ((spec_IsExpr.f k bt198.1 bt198.2.1 bt198.2.2).bind fun t204 => (if t204 = true then (some (bt198.1, bt198.2.1, bt198.2.2, true)) else (some (0, 0, ([] : List (S28)), false))))) else (some (0, 0, ([] : List (S28)), false)))
theorem spec_NegateExpr.mono : ∀ a0 a1 a2 k, LeO (spec_NegateExpr.f k a0 a1 a2) (spec_NegateExpr.f (k + 1) a0 a1 a2) := by
 intro a0 a1 a2 k
 unfold spec_NegateExpr.f
 repeat' first
   | (with_reducible exact spec_IsExpr.mono _ _ _ _)
   | (with_reducible exact spec_l10Negate.mono _ _ _ _)
   | (with_reducible exact LeO.refl _)
   | (with_reducible exact LeO.none _)
   | (with_reducible refine LeO.ite ?_ ?_)
   | (with_reducible refine LeO.bind ?_ (fun _ => ?_))
   | exact spec_IsExpr.mono _ _ _ _
   | exact spec_l10Negate.mono _ _ _ _
   | exact LeO.none _
   | refine LeO.ite ?_ ?_
   | refine LeO.bind ?_ (fun _ => ?_)
theorem spec_NegateExpr.calls (k : Nat) (a0_0 : Int) (a0_1 : Int) (A0_2 : Option Addr) (c0_2 : Nat) (l0_2 : List (S28)) (r1 : Int) (r2 : Int) (r3 : List (S28)) (r4 : Bool) (w : World) (hr0_2 : Kd.C k28 w A0_2 l0_2.length l0_2) (hc0_2 : l0_2.length ≤ c0_2) (h : spec_NegateExpr.f k a0_0 a0_1 l0_2 = some (r1, r2, r3, r4)) :
  Calls Try.prog 6 #[.agg #[.int .i64 a0_0, .int .i64 a0_1, .slice A0_2 l0_2.length c0_2]] w fun e w' => ∃ v2_ : Value, e = .returned (.tuple #[.agg #[.int .i64 r1, .int .i64 r2, v2_], .bool r4]) ∧ Kd.N k28 28 w' w.heap.size (fun k_ => (w.heap.size ≤ k_)) v2_ r3 ∧ Below w.heap.size w w' := by
 have hu28 := Try.underlying28
 have HR0_2 := Ak hr0_2
 have HC0_2 := Ak hc0_2
 clear hr0_2 hc0_2
 have HB := Ak (Below.refl w.heap.size w)
 have H : ((spec_IsExpr.f k a0_0 a0_1 l0_2).bind fun t197 => (if t197 = true then ((spec_l10Negate.f k a0_0 a0_1 l0_2).bind fun bt198 => ((spec_IsExpr.f k bt198.1 bt198.2.1 bt198.2.2).bind fun t204 => (if t204 = true then (some (bt198.1, bt198.2.1, bt198.2.2, true)) else (some (0, 0, ([] : List (S28)), false))))) else (some (0, 0, ([] : List (S28)), false)))) = some (r1, r2, r3, r4) := h
 clear h
 replace H := Option.bind_eq_some_iff.mp H
 obtain ⟨t197, A20, H⟩ := H
 replace H : (if t197 = true then ((spec_l10Negate.f k a0_0 a0_1 l0_2).bind fun bt198 => ((spec_IsExpr.f k bt198.1 bt198.2.1 bt198.2.2).bind fun t204 => (if t204 = true then (some (bt198.1, bt198.2.1, bt198.2.2, true)) else (some (0, 0, ([] : List (S28)), false))))) else (some (0, 0, ([] : List (S28)), false))) = some (r1, r2, r3, r4) := H
 have A2 := Ak A20
 clear A20
 by_cases c3 : t197 = true
 ·(try subst c3)
  have H1 : ((spec_l10Negate.f k a0_0 a0_1 l0_2).bind fun bt198 => ((spec_IsExpr.f k bt198.1 bt198.2.1 bt198.2.2).bind fun t204 => (if t204 = true then (some (bt198.1, bt198.2.1, bt198.2.2, true)) else (some (0, 0, ([] : List (S28)), false))))) = some (r1, r2, r3, r4) := by rw [if_pos rfl] at H; exact H
  clear H
  have H := H1
  clear H1
  replace H := Option.bind_eq_some_iff.mp H
  obtain ⟨⟨t198, t199, t200⟩, A40, H⟩ := H
  replace H : ((spec_IsExpr.f k t198 t199 t200).bind fun t204 => (if t204 = true then (some (t198, t199, t200, true)) else (some (0, 0, ([] : List (S28)), false)))) = some (r1, r2, r3, r4) := H
  have A4 := Ak A40
  clear A40
  replace H := Option.bind_eq_some_iff.mp H
  obtain ⟨t204, A50, H⟩ := H
  replace H : (if t204 = true then (some (t198, t199, t200, true)) else (some (0, 0, ([] : List (S28)), false))) = some (r1, r2, r3, r4) := H
  have A5 := Ak A50
  clear A50
  by_cases c6 : t204 = true
  ·(try subst c6)
   have H1 : (some (t198, t199, t200, true)) = some (r1, r2, r3, r4) := by rw [if_pos rfl] at H; exact H
   clear H
   have H := H1
   clear H1
   simp only [Option.some.injEq, Prod.mk.injEq] at H
   obtain ⟨rfl, rfl, rfl, rfl⟩ := H
   go_enter Try.func6, Try.ntmps6
   go_wp2_with (first | ((with_reducible refine gate_dst (N := 1) rfl ?_); refine Qk 1 #[.int .i64 a0_0, .int .i64 a0_1, .slice A0_2 l0_2.length c0_2] 28 ?_; intro gb195 hg w7 hbox hb; have n0_ := Ak (below_step (Qb HB.out) hb); have n1_ := Ak (hbox); have n2_ := Ak ((Qp hg HB.out : w.heap.size ≤ gb195)); have n3_ := Ak ((Qp hg HB.out : w.heap.size ≤ gb195)); clear HB; have HB := n0_; have BK195 := n1_; have GW195 := n2_; have GE195 := n3_; clear n0_ n1_ n2_ n3_; clear hb hbox hg) | ((with_reducible refine gate_dst (N := 2) rfl ?_); refine Qk 2 #[.int .i64 0, .int .i64 0, .slice none 0 0] 28 ?_; intro gb196 hg w8 hbox hb; have n0_ := Ak (Qm BK195.out hb); have n1_ := Ak (below_step (Qb HB.out) hb); have n2_ := Ak (hbox); have n3_ := Ak ((Qp hg HB.out : w.heap.size ≤ gb196)); have n4_ := Ak ((Qp hg HB.out : w.heap.size ≤ gb196)); have n5_ := Ak ((by rw [hg]; exact Nat.ne_of_lt (Qn BK195.out) : gb195 ≠ gb196)); have n6_ := Ak ((by rw [hg]; exact Nat.ne_of_gt (Qn BK195.out) : gb196 ≠ gb195)); clear BK195 HB; have BK195 := n0_; have HB := n1_; have BK196 := n2_; have GW196 := n3_; have GE196 := n4_; have NB195_196 := n5_; have NB196_195 := n6_; clear n0_ n1_ n2_ n3_ n4_ n5_ n6_; clear hb hbox hg; have hnb9 := NB195_196.out; have hnc9 := NB196_195.out; obtain ⟨hcz10_0, hcz10_1, hcz10_2⟩ := Qu3 BK195.out; have hfz10_0 := blk_frozen BK195.out 0; have hfz10_1 := blk_frozen BK195.out 1; have hfz10_2 := blk_frozen BK195.out 2) | ((with_reducible refine gate_callee (f := 18) rfl ?_); refine Qj (some 6) Try.func18 #[.agg #[.int .i64 a0_0, .int .i64 a0_1, .slice A0_2 l0_2.length c0_2]] ?_; (with_reducible refine (spec_IsExpr.calls k a0_0 a0_1 _ _ l0_2 true _ ?side1 ?side2 A2.out).mono ?_); (case side1 => repeat (first | exact (Kd.C_below HR0_2.out HB.out) | (with_reducible refine Kd.C_alloc ?_ _) | (with_reducible refine Kd.C_drewN ?_ _) | (with_reducible refine Kd.C_drew ?_))); (case side2 => exact HC0_2.out); rintro e w11 ⟨rfl, hb⟩; refine ⟨_, rfl, ?_⟩; have n0_ := Ak (Qm BK195.out hb); have n1_ := Ak (Qm BK196.out hb); have n2_ := Ak (below_step (Qb HB.out) hb); clear BK195 BK196 HB; have BK195 := n0_; have BK196 := n1_; have HB := n2_; clear n0_ n1_ n2_; (try clear hb); (try clear hb2); (try clear hk); (try clear hi); obtain ⟨hcz12_0, hcz12_1, hcz12_2⟩ := Qu3 BK195.out; have hfz12_0 := blk_frozen BK195.out 0; have hfz12_1 := blk_frozen BK195.out 1; have hfz12_2 := blk_frozen BK195.out 2) | ((with_reducible refine gate_callee (f := 19) rfl ?_); refine Qj (some 10) Try.func19 #[.agg #[.int .i64 a0_0, .int .i64 a0_1, .slice A0_2 l0_2.length c0_2]] ?_; (with_reducible refine (spec_l10Negate.calls k a0_0 a0_1 _ _ l0_2 t198 t199 t200 _ ?side1 ?side2 A4.out).mono ?_); (case side1 => repeat (first | exact (Kd.C_below HR0_2.out HB.out) | (with_reducible refine Kd.C_alloc ?_ _) | (with_reducible refine Kd.C_drewN ?_ _) | (with_reducible refine Kd.C_drew ?_))); (case side2 => exact HC0_2.out); rintro e w13 ⟨v201, rfl, ho0, hb⟩; refine ⟨_, rfl, ?_⟩; have n0_ := Ak (Kd.N_lower (Kd.N_mono (ok' := fun k_ => (w.heap.size ≤ k_) ∧ k_ ≠ gb195 ∧ k_ ≠ gb196) ho0 (fun k_ hk_ => ⟨(Nat.le_trans (below_size (Qb HB.out)) hk_), (Kd.freshB (g := gb195) (o := .cells #[.int .i64 a0_0, .int .i64 a0_1, .slice A0_2 l0_2.length c0_2] 28 (0, 0)) (Qa BK195.out) k_ hk_), (Kd.freshB (g := gb196) (o := .cells #[.int .i64 0, .int .i64 0, .slice none 0 0] 28 (0, 0)) (Qa BK196.out) k_ hk_)⟩)) (below_size (Qb HB.out))); have n1_ := Ak (Qm BK195.out hb); have n2_ := Ak (Qm BK196.out hb); have n3_ := Ak (below_step (Qb HB.out) hb); clear BK195 BK196 HB; have HO202 := n0_; have BK195 := n1_; have BK196 := n2_; have HB := n3_; clear n0_ n1_ n2_ n3_; (try clear hb); (try clear hb2); (try clear hk); (try clear hi); (try clear ho0)) | ((with_reducible refine gate_dst (N := 4) rfl ?_); refine Qk 4 #[.int .i64 0, .int .i64 0, .slice none 0 0] 28 ?_; intro gb203 hg w14 hbox hb; have n0_ := Ak (Kd.N_below (Kd.N_elderB (by (with_reducible repeat (first | apply Kd.N_alloc | apply Kd.N_drewN | apply Kd.N_drew)); exact HO202.out) gb203 (Nat.le_of_eq hg.symm)) hb); have n1_ := Ak (Qm BK195.out hb); have n2_ := Ak (Qm BK196.out hb); have n3_ := Ak (below_step (Qb HB.out) hb); have n4_ := Ak (hbox); have n5_ := Ak ((Qp hg HB.out : w.heap.size ≤ gb203)); have n6_ := Ak ((Qp hg HB.out : w.heap.size ≤ gb203)); have n7_ := Ak ((by rw [hg]; exact Nat.ne_of_lt (Qn BK195.out) : gb195 ≠ gb203)); have n8_ := Ak ((by rw [hg]; exact Nat.ne_of_gt (Qn BK195.out) : gb203 ≠ gb195)); have n9_ := Ak ((by rw [hg]; exact Nat.ne_of_lt (Qn BK196.out) : gb196 ≠ gb203)); have n10_ := Ak ((by rw [hg]; exact Nat.ne_of_gt (Qn BK196.out) : gb203 ≠ gb196)); clear HO202 BK195 BK196 HB; have HO202 := n0_; have BK195 := n1_; have BK196 := n2_; have HB := n3_; have BK203 := n4_; have GW203 := n5_; have GE203 := n6_; have NB195_203 := n7_; have NB203_195 := n8_; have NB196_203 := n9_; have NB203_196 := n10_; clear n0_ n1_ n2_ n3_ n4_ n5_ n6_ n7_ n8_ n9_ n10_; clear hb hbox hg; have hnb15 := NB203_195.out; have hnc15 := NB195_203.out; have hnb16 := NB203_196.out; have hnc16 := NB196_203.out; obtain ⟨hcz17_0, hcz17_1, hcz17_2, hfz17_0, hfz17_1, hfz17_2⟩ := Qv3 BK203.out; obtain ⟨Ao18, co18, eo18⟩ := Kd.N_slice HO202.out; subst eo18) | ((with_reducible refine gate_callee (f := 18) rfl ?_); refine Qj (some 12) Try.func18 #[.agg #[.int .i64 t198, .int .i64 t199, .slice Ao18 t200.length co18]] ?_; (with_reducible refine (spec_IsExpr.calls k t198 t199 _ _ t200 true _ ?side1 ?side2 A5.out).mono ?_); (case side1 => refine (Kd.N_reads' (e := 28) (base := w.heap.size) (ok := fun k_ => (((w.heap.size ≤ k_) ∧ (k_ ≠ gb195 ∧ k_ ≠ gb196)) ∧ k_ ≠ gb203)) (n := t200.length) (c := co18) ?_).2.2; exact (by (with_reducible repeat (first | apply Kd.N_alloc | apply Kd.N_drewN | apply Kd.N_drew)); exact (Kd.N_mono (Kd.N_far (p := ⟨gb203, 2, none⟩) (Kd.N_far (p := ⟨gb203, 1, none⟩) (Kd.N_far (p := ⟨gb203, 0, none⟩) (Kd.N_mono HO202.out (fun k_ hk => (⟨hk, hk.2⟩ : _ ∧ k_ ≠ gb203))) (fun _ hk => hk.2) (.int .i64 t198)) (fun _ hk => hk.2) (.int .i64 t199)) (fun _ hk => hk.2) (.slice Ao18 t200.length co18)) (fun _ h_ => h_.1)))); (case side2 => exact (Kd.N_reads' HO202.out).2.1); rintro e w19 ⟨rfl, hb⟩; refine ⟨_, rfl, ?_⟩; have n0_ := Ak (Kd.N_below (by (with_reducible repeat (first | apply Kd.N_alloc | apply Kd.N_drewN | apply Kd.N_drew)); exact (Kd.N_mono (Kd.N_far (p := ⟨gb203, 2, none⟩) (Kd.N_far (p := ⟨gb203, 1, none⟩) (Kd.N_far (p := ⟨gb203, 0, none⟩) (Kd.N_mono HO202.out (fun k_ hk => (⟨hk, hk.2⟩ : _ ∧ k_ ≠ gb203))) (fun _ hk => hk.2) (.int .i64 t198)) (fun _ hk => hk.2) (.int .i64 t199)) (fun _ hk => hk.2) (.slice Ao18 t200.length co18)) (fun _ h_ => h_.1))) hb); have n1_ := Ak (blk_below (g := gb195) (o := .cells #[.int .i64 a0_0, .int .i64 a0_1, .slice A0_2 l0_2.length c0_2] 28 (0, 0)) (by refine Qe ?_; refine blk_far ?_ NB195_203.out _; refine Qe ?_; refine blk_far ?_ NB195_203.out _; refine Qe ?_; refine blk_far ?_ NB195_203.out _; exact Qa BK195.out) hb); have n2_ := Ak (blk_below (g := gb196) (o := .cells #[.int .i64 0, .int .i64 0, .slice none 0 0] 28 (0, 0)) (by refine Qe ?_; refine blk_far ?_ NB196_203.out _; refine Qe ?_; refine blk_far ?_ NB196_203.out _; refine Qe ?_; refine blk_far ?_ NB196_203.out _; exact Qa BK196.out) hb); have n3_ := Ak (blk_below (g := gb203) (o := .cells #[.int .i64 t198, .int .i64 t199, .slice Ao18 t200.length co18] 28 (0, 0)) (by refine Qe ?_; refine blk_put (cs := #[.int .i64 t198, .int .i64 t199, .slice none 0 0]) ?_ 2 _ rfl; refine Qe ?_; refine blk_put (cs := #[.int .i64 t198, .int .i64 0, .slice none 0 0]) ?_ 1 _ rfl; refine Qe ?_; refine blk_put (cs := #[.int .i64 0, .int .i64 0, .slice none 0 0]) ?_ 0 _ rfl; exact Qa BK203.out) hb); have n4_ := Ak (below_step (Qb HB.out) hb); clear HO202 BK195 BK196 BK203 HB; have HO202 := n0_; have BK195 := n1_; have BK196 := n2_; have BK203 := n3_; have HB := n4_; clear n0_ n1_ n2_ n3_ n4_; (try clear hb); (try clear hb2); (try clear hk); (try clear hi); obtain ⟨hcz20_0, hcz20_1, hcz20_2, hfz20_0, hfz20_1, hfz20_2⟩ := Qv3 BK203.out; obtain ⟨hcz21_0, hcz21_1, hcz21_2⟩ := Qu3 BK196.out; have hfz21_0 := blk_frozen BK196.out 0; have hfz21_1 := blk_frozen BK196.out 1; have hfz21_2 := blk_frozen BK196.out 2))
   refine bodyPost_ret (results_ct rfl _ _ gb196 28 #[.int .i64 t198, .int .i64 t199, .slice Ao18 t200.length co18] (0, 0) _ rfl (by refine Qe ?_; refine blk_put (cs := #[.int .i64 t198, .int .i64 t199, .slice none 0 0]) ?_ 2 _ rfl; refine Qe ?_; refine blk_put (cs := #[.int .i64 t198, .int .i64 0, .slice none 0 0]) ?_ 1 _ rfl; refine Qe ?_; refine blk_put (cs := #[.int .i64 0, .int .i64 0, .slice none 0 0]) ?_ 0 _ rfl; exact Qa BK196.out) Try.underlying28 rfl (by kernel_rfl)) rfl ?_
   exact ⟨_, Qh, by (with_reducible repeat (first | apply Kd.N_alloc | apply Kd.N_drewN | apply Kd.N_drew)); exact Kd.N_mono (Kd.N_far (p := ⟨gb196, 2, none⟩) (Kd.N_far (p := ⟨gb196, 1, none⟩) (Kd.N_far (p := ⟨gb196, 0, none⟩) (Kd.N_mono HO202.out (fun k_ hk => (⟨hk, hk.1.2.2⟩ : _ ∧ k_ ≠ gb196))) (fun _ hk => hk.2) (.int .i64 t198)) (fun _ hk => hk.2) (.int .i64 t199)) (fun _ hk => hk.2) (.slice Ao18 t200.length co18)) (fun _ hk => hk.1.1.1), Qb HB.out⟩
  ·replace c6 := Bool.eq_false_iff.mpr c6
   (try subst c6)
   have H1 : (some (0, 0, ([] : List (S28)), false)) = some (r1, r2, r3, r4) := by rw [if_neg (show ¬ (false = true) by decide)] at H; exact H
   clear H
   have H := H1
   clear H1
   simp only [Option.some.injEq, Prod.mk.injEq] at H
   obtain ⟨rfl, rfl, rfl, rfl⟩ := H
   go_enter Try.func6, Try.ntmps6
   go_wp2_with (first | ((with_reducible refine gate_dst (N := 1) rfl ?_); refine Qk 1 #[.int .i64 a0_0, .int .i64 a0_1, .slice A0_2 l0_2.length c0_2] 28 ?_; intro gb195 hg w22 hbox hb; have n0_ := Ak (below_step (Qb HB.out) hb); have n1_ := Ak (hbox); have n2_ := Ak ((Qp hg HB.out : w.heap.size ≤ gb195)); have n3_ := Ak ((Qp hg HB.out : w.heap.size ≤ gb195)); clear HB; have HB := n0_; have BK195 := n1_; have GW195 := n2_; have GE195 := n3_; clear n0_ n1_ n2_ n3_; clear hb hbox hg) | ((with_reducible refine gate_dst (N := 2) rfl ?_); refine Qk 2 #[.int .i64 0, .int .i64 0, .slice none 0 0] 28 ?_; intro gb196 hg w23 hbox hb; have n0_ := Ak (Qm BK195.out hb); have n1_ := Ak (below_step (Qb HB.out) hb); have n2_ := Ak (hbox); have n3_ := Ak ((Qp hg HB.out : w.heap.size ≤ gb196)); have n4_ := Ak ((Qp hg HB.out : w.heap.size ≤ gb196)); have n5_ := Ak ((by rw [hg]; exact Nat.ne_of_lt (Qn BK195.out) : gb195 ≠ gb196)); have n6_ := Ak ((by rw [hg]; exact Nat.ne_of_gt (Qn BK195.out) : gb196 ≠ gb195)); clear BK195 HB; have BK195 := n0_; have HB := n1_; have BK196 := n2_; have GW196 := n3_; have GE196 := n4_; have NB195_196 := n5_; have NB196_195 := n6_; clear n0_ n1_ n2_ n3_ n4_ n5_ n6_; clear hb hbox hg; have hnb24 := NB195_196.out; have hnc24 := NB196_195.out; obtain ⟨hcz25_0, hcz25_1, hcz25_2⟩ := Qu3 BK195.out; have hfz25_0 := blk_frozen BK195.out 0; have hfz25_1 := blk_frozen BK195.out 1; have hfz25_2 := blk_frozen BK195.out 2) | ((with_reducible refine gate_callee (f := 18) rfl ?_); refine Qj (some 6) Try.func18 #[.agg #[.int .i64 a0_0, .int .i64 a0_1, .slice A0_2 l0_2.length c0_2]] ?_; (with_reducible refine (spec_IsExpr.calls k a0_0 a0_1 _ _ l0_2 true _ ?side1 ?side2 A2.out).mono ?_); (case side1 => repeat (first | exact (Kd.C_below HR0_2.out HB.out) | (with_reducible refine Kd.C_alloc ?_ _) | (with_reducible refine Kd.C_drewN ?_ _) | (with_reducible refine Kd.C_drew ?_))); (case side2 => exact HC0_2.out); rintro e w26 ⟨rfl, hb⟩; refine ⟨_, rfl, ?_⟩; have n0_ := Ak (Qm BK195.out hb); have n1_ := Ak (Qm BK196.out hb); have n2_ := Ak (below_step (Qb HB.out) hb); clear BK195 BK196 HB; have BK195 := n0_; have BK196 := n1_; have HB := n2_; clear n0_ n1_ n2_; (try clear hb); (try clear hb2); (try clear hk); (try clear hi); obtain ⟨hcz27_0, hcz27_1, hcz27_2⟩ := Qu3 BK195.out; have hfz27_0 := blk_frozen BK195.out 0; have hfz27_1 := blk_frozen BK195.out 1; have hfz27_2 := blk_frozen BK195.out 2) | ((with_reducible refine gate_callee (f := 19) rfl ?_); refine Qj (some 10) Try.func19 #[.agg #[.int .i64 a0_0, .int .i64 a0_1, .slice A0_2 l0_2.length c0_2]] ?_; (with_reducible refine (spec_l10Negate.calls k a0_0 a0_1 _ _ l0_2 t198 t199 t200 _ ?side1 ?side2 A4.out).mono ?_); (case side1 => repeat (first | exact (Kd.C_below HR0_2.out HB.out) | (with_reducible refine Kd.C_alloc ?_ _) | (with_reducible refine Kd.C_drewN ?_ _) | (with_reducible refine Kd.C_drew ?_))); (case side2 => exact HC0_2.out); rintro e w28 ⟨v201, rfl, ho0, hb⟩; refine ⟨_, rfl, ?_⟩; have n0_ := Ak (Kd.N_lower (Kd.N_mono (ok' := fun k_ => (w.heap.size ≤ k_) ∧ k_ ≠ gb195 ∧ k_ ≠ gb196) ho0 (fun k_ hk_ => ⟨(Nat.le_trans (below_size (Qb HB.out)) hk_), (Kd.freshB (g := gb195) (o := .cells #[.int .i64 a0_0, .int .i64 a0_1, .slice A0_2 l0_2.length c0_2] 28 (0, 0)) (Qa BK195.out) k_ hk_), (Kd.freshB (g := gb196) (o := .cells #[.int .i64 0, .int .i64 0, .slice none 0 0] 28 (0, 0)) (Qa BK196.out) k_ hk_)⟩)) (below_size (Qb HB.out))); have n1_ := Ak (Qm BK195.out hb); have n2_ := Ak (Qm BK196.out hb); have n3_ := Ak (below_step (Qb HB.out) hb); clear BK195 BK196 HB; have HO202 := n0_; have BK195 := n1_; have BK196 := n2_; have HB := n3_; clear n0_ n1_ n2_ n3_; (try clear hb); (try clear hb2); (try clear hk); (try clear hi); (try clear ho0)) | ((with_reducible refine gate_dst (N := 4) rfl ?_); refine Qk 4 #[.int .i64 0, .int .i64 0, .slice none 0 0] 28 ?_; intro gb203 hg w29 hbox hb; have n0_ := Ak (Kd.N_below (Kd.N_elderB (by (with_reducible repeat (first | apply Kd.N_alloc | apply Kd.N_drewN | apply Kd.N_drew)); exact HO202.out) gb203 (Nat.le_of_eq hg.symm)) hb); have n1_ := Ak (Qm BK195.out hb); have n2_ := Ak (Qm BK196.out hb); have n3_ := Ak (below_step (Qb HB.out) hb); have n4_ := Ak (hbox); have n5_ := Ak ((Qp hg HB.out : w.heap.size ≤ gb203)); have n6_ := Ak ((Qp hg HB.out : w.heap.size ≤ gb203)); have n7_ := Ak ((by rw [hg]; exact Nat.ne_of_lt (Qn BK195.out) : gb195 ≠ gb203)); have n8_ := Ak ((by rw [hg]; exact Nat.ne_of_gt (Qn BK195.out) : gb203 ≠ gb195)); have n9_ := Ak ((by rw [hg]; exact Nat.ne_of_lt (Qn BK196.out) : gb196 ≠ gb203)); have n10_ := Ak ((by rw [hg]; exact Nat.ne_of_gt (Qn BK196.out) : gb203 ≠ gb196)); clear HO202 BK195 BK196 HB; have HO202 := n0_; have BK195 := n1_; have BK196 := n2_; have HB := n3_; have BK203 := n4_; have GW203 := n5_; have GE203 := n6_; have NB195_203 := n7_; have NB203_195 := n8_; have NB196_203 := n9_; have NB203_196 := n10_; clear n0_ n1_ n2_ n3_ n4_ n5_ n6_ n7_ n8_ n9_ n10_; clear hb hbox hg; have hnb30 := NB203_195.out; have hnc30 := NB195_203.out; have hnb31 := NB203_196.out; have hnc31 := NB196_203.out; obtain ⟨hcz32_0, hcz32_1, hcz32_2, hfz32_0, hfz32_1, hfz32_2⟩ := Qv3 BK203.out; obtain ⟨Ao33, co33, eo33⟩ := Kd.N_slice HO202.out; subst eo33) | ((with_reducible refine gate_callee (f := 18) rfl ?_); refine Qj (some 12) Try.func18 #[.agg #[.int .i64 t198, .int .i64 t199, .slice Ao33 t200.length co33]] ?_; (with_reducible refine (spec_IsExpr.calls k t198 t199 _ _ t200 false _ ?side1 ?side2 A5.out).mono ?_); (case side1 => refine (Kd.N_reads' (e := 28) (base := w.heap.size) (ok := fun k_ => (((w.heap.size ≤ k_) ∧ (k_ ≠ gb195 ∧ k_ ≠ gb196)) ∧ k_ ≠ gb203)) (n := t200.length) (c := co33) ?_).2.2; exact (by (with_reducible repeat (first | apply Kd.N_alloc | apply Kd.N_drewN | apply Kd.N_drew)); exact (Kd.N_mono (Kd.N_far (p := ⟨gb203, 2, none⟩) (Kd.N_far (p := ⟨gb203, 1, none⟩) (Kd.N_far (p := ⟨gb203, 0, none⟩) (Kd.N_mono HO202.out (fun k_ hk => (⟨hk, hk.2⟩ : _ ∧ k_ ≠ gb203))) (fun _ hk => hk.2) (.int .i64 t198)) (fun _ hk => hk.2) (.int .i64 t199)) (fun _ hk => hk.2) (.slice Ao33 t200.length co33)) (fun _ h_ => h_.1)))); (case side2 => exact (Kd.N_reads' HO202.out).2.1); rintro e w34 ⟨rfl, hb⟩; refine ⟨_, rfl, ?_⟩; have n0_ := Ak (Kd.N_below (by (with_reducible repeat (first | apply Kd.N_alloc | apply Kd.N_drewN | apply Kd.N_drew)); exact (Kd.N_mono (Kd.N_far (p := ⟨gb203, 2, none⟩) (Kd.N_far (p := ⟨gb203, 1, none⟩) (Kd.N_far (p := ⟨gb203, 0, none⟩) (Kd.N_mono HO202.out (fun k_ hk => (⟨hk, hk.2⟩ : _ ∧ k_ ≠ gb203))) (fun _ hk => hk.2) (.int .i64 t198)) (fun _ hk => hk.2) (.int .i64 t199)) (fun _ hk => hk.2) (.slice Ao33 t200.length co33)) (fun _ h_ => h_.1))) hb); have n1_ := Ak (blk_below (g := gb195) (o := .cells #[.int .i64 a0_0, .int .i64 a0_1, .slice A0_2 l0_2.length c0_2] 28 (0, 0)) (by refine Qe ?_; refine blk_far ?_ NB195_203.out _; refine Qe ?_; refine blk_far ?_ NB195_203.out _; refine Qe ?_; refine blk_far ?_ NB195_203.out _; exact Qa BK195.out) hb); have n2_ := Ak (blk_below (g := gb196) (o := .cells #[.int .i64 0, .int .i64 0, .slice none 0 0] 28 (0, 0)) (by refine Qe ?_; refine blk_far ?_ NB196_203.out _; refine Qe ?_; refine blk_far ?_ NB196_203.out _; refine Qe ?_; refine blk_far ?_ NB196_203.out _; exact Qa BK196.out) hb); have n3_ := Ak (blk_below (g := gb203) (o := .cells #[.int .i64 t198, .int .i64 t199, .slice Ao33 t200.length co33] 28 (0, 0)) (by refine Qe ?_; refine blk_put (cs := #[.int .i64 t198, .int .i64 t199, .slice none 0 0]) ?_ 2 _ rfl; refine Qe ?_; refine blk_put (cs := #[.int .i64 t198, .int .i64 0, .slice none 0 0]) ?_ 1 _ rfl; refine Qe ?_; refine blk_put (cs := #[.int .i64 0, .int .i64 0, .slice none 0 0]) ?_ 0 _ rfl; exact Qa BK203.out) hb); have n4_ := Ak (below_step (Qb HB.out) hb); clear HO202 BK195 BK196 BK203 HB; have HO202 := n0_; have BK195 := n1_; have BK196 := n2_; have BK203 := n3_; have HB := n4_; clear n0_ n1_ n2_ n3_ n4_; (try clear hb); (try clear hb2); (try clear hk); (try clear hi); obtain ⟨hcz35_0, hcz35_1, hcz35_2⟩ := Qu3 BK196.out; have hfz35_0 := blk_frozen BK196.out 0; have hfz35_1 := blk_frozen BK196.out 1; have hfz35_2 := blk_frozen BK196.out 2))
   refine bodyPost_ret (results_ct rfl _ _ gb196 28 #[.int .i64 0, .int .i64 0, .slice none 0 0] (0, 0) _ rfl (by refine Qe ?_; refine blk_put (cs := #[.int .i64 0, .int .i64 0, .slice none 0 0]) ?_ 2 _ rfl; refine Qe ?_; refine blk_put (cs := #[.int .i64 0, .int .i64 0, .slice none 0 0]) ?_ 1 _ rfl; refine Qe ?_; refine blk_put (cs := #[.int .i64 0, .int .i64 0, .slice none 0 0]) ?_ 0 _ rfl; exact Qa BK196.out) Try.underlying28 rfl (by kernel_rfl)) rfl ?_
   exact ⟨_, Qh, by first | exact Kd.R_nil _ _ _ _ _ | exact Kd.N_nil _ _ _ _ _ | exact Kd.V_nil _ _ _ _ _ | exact Kd.Q_nil _ _ _ _ _ | exact Kd.S_nil _ _ _ _ _, Qb HB.out⟩
 ·replace c3 := Bool.eq_false_iff.mpr c3
  (try subst c3)
  have H1 : (some (0, 0, ([] : List (S28)), false)) = some (r1, r2, r3, r4) := by rw [if_neg (show ¬ (false = true) by decide)] at H; exact H
  clear H
  have H := H1
  clear H1
  simp only [Option.some.injEq, Prod.mk.injEq] at H
  obtain ⟨rfl, rfl, rfl, rfl⟩ := H
  go_enter Try.func6, Try.ntmps6
  go_wp2_with (first | ((with_reducible refine gate_dst (N := 1) rfl ?_); refine Qk 1 #[.int .i64 a0_0, .int .i64 a0_1, .slice A0_2 l0_2.length c0_2] 28 ?_; intro gb195 hg w36 hbox hb; have n0_ := Ak (below_step (Qb HB.out) hb); have n1_ := Ak (hbox); have n2_ := Ak ((Qp hg HB.out : w.heap.size ≤ gb195)); have n3_ := Ak ((Qp hg HB.out : w.heap.size ≤ gb195)); clear HB; have HB := n0_; have BK195 := n1_; have GW195 := n2_; have GE195 := n3_; clear n0_ n1_ n2_ n3_; clear hb hbox hg) | ((with_reducible refine gate_dst (N := 2) rfl ?_); refine Qk 2 #[.int .i64 0, .int .i64 0, .slice none 0 0] 28 ?_; intro gb196 hg w37 hbox hb; have n0_ := Ak (Qm BK195.out hb); have n1_ := Ak (below_step (Qb HB.out) hb); have n2_ := Ak (hbox); have n3_ := Ak ((Qp hg HB.out : w.heap.size ≤ gb196)); have n4_ := Ak ((Qp hg HB.out : w.heap.size ≤ gb196)); have n5_ := Ak ((by rw [hg]; exact Nat.ne_of_lt (Qn BK195.out) : gb195 ≠ gb196)); have n6_ := Ak ((by rw [hg]; exact Nat.ne_of_gt (Qn BK195.out) : gb196 ≠ gb195)); clear BK195 HB; have BK195 := n0_; have HB := n1_; have BK196 := n2_; have GW196 := n3_; have GE196 := n4_; have NB195_196 := n5_; have NB196_195 := n6_; clear n0_ n1_ n2_ n3_ n4_ n5_ n6_; clear hb hbox hg; have hnb38 := NB195_196.out; have hnc38 := NB196_195.out; obtain ⟨hcz39_0, hcz39_1, hcz39_2⟩ := Qu3 BK195.out; have hfz39_0 := blk_frozen BK195.out 0; have hfz39_1 := blk_frozen BK195.out 1; have hfz39_2 := blk_frozen BK195.out 2) | ((with_reducible refine gate_callee (f := 18) rfl ?_); refine Qj (some 6) Try.func18 #[.agg #[.int .i64 a0_0, .int .i64 a0_1, .slice A0_2 l0_2.length c0_2]] ?_; (with_reducible refine (spec_IsExpr.calls k a0_0 a0_1 _ _ l0_2 false _ ?side1 ?side2 A2.out).mono ?_); (case side1 => repeat (first | exact (Kd.C_below HR0_2.out HB.out) | (with_reducible refine Kd.C_alloc ?_ _) | (with_reducible refine Kd.C_drewN ?_ _) | (with_reducible refine Kd.C_drew ?_))); (case side2 => exact HC0_2.out); rintro e w40 ⟨rfl, hb⟩; refine ⟨_, rfl, ?_⟩; have n0_ := Ak (Qm BK195.out hb); have n1_ := Ak (Qm BK196.out hb); have n2_ := Ak (below_step (Qb HB.out) hb); clear BK195 BK196 HB; have BK195 := n0_; have BK196 := n1_; have HB := n2_; clear n0_ n1_ n2_; (try clear hb); (try clear hb2); (try clear hk); (try clear hi); obtain ⟨hcz41_0, hcz41_1, hcz41_2⟩ := Qu3 BK196.out; have hfz41_0 := blk_frozen BK196.out 0; have hfz41_1 := blk_frozen BK196.out 1; have hfz41_2 := blk_frozen BK196.out 2))
  refine bodyPost_ret (results_ct rfl _ _ gb196 28 #[.int .i64 0, .int .i64 0, .slice none 0 0] (0, 0) _ rfl (by refine Qe ?_; refine blk_put (cs := #[.int .i64 0, .int .i64 0, .slice none 0 0]) ?_ 2 _ rfl; refine Qe ?_; refine blk_put (cs := #[.int .i64 0, .int .i64 0, .slice none 0 0]) ?_ 1 _ rfl; refine Qe ?_; refine blk_put (cs := #[.int .i64 0, .int .i64 0, .slice none 0 0]) ?_ 0 _ rfl; exact Qa BK196.out) Try.underlying28 rfl (by kernel_rfl)) rfl ?_
  exact ⟨_, Qh, by first | exact Kd.R_nil _ _ _ _ _ | exact Kd.N_nil _ _ _ _ _ | exact Kd.V_nil _ _ _ _ _ | exact Kd.Q_nil _ _ _ _ _ | exact Kd.S_nil _ _ _ _ _, Qb HB.out⟩

/-! ### laws_toExprS: function 20 -/
/-! ### laws_toExpr: function 7 -/
mutual
def laws_toExprS.l0 : Nat → List (S24) → List (S28) → Int → Option ((List (S28)))
 | 0, _, _, _ => none
 | k + 1, x0, x3, x4 => if x4 < (x0.length : Int) then (if 0 ≤ x4 then ((laws_toExpr.f k ((rd_T24 x0 x4).f0) ((rd_T24 x0 x4).f1) ((rd_T24 x0 x4).f2)).bind fun bt209 => (if x4 < (x3.length : Int) then (laws_toExprS.l0 k x0 (x3.set (x4 : Int).toNat (⟨bt209.1, bt209.2.1, bt209.2.2⟩ : S28)) (wrap64 (x4 + 1))) else (none))) else (none)) else (some x3)
def laws_toExprS.f : Nat → List (S24) → Option ((List (S28)))
 | 0, _ => none
 | k + 1, l0 => if 0 ≤ (l0.length : Int) then (if ((l0.length : Int) : Int).toNat ≤ 7036874417766 then (laws_toExprS.l0 k l0 (List.replicate ((l0.length : Int) : Int).toNat z28) 0) else (none)) else (none)
def laws_toExpr.f : Nat → Int → Int → List (S24) → Option (Int × Int × (List (S28)))
 | 0, _, _, _ => none
 | k + 1, a0_0, a0_1, l0_2 => (laws_toExprS.f k l0_2).bind fun t218 => (some (a0_0, a0_1, t218))
end
theorem laws_toExprS.mono_g : ∀ k, (∀ y0, LeO (laws_toExprS.f k y0) (laws_toExprS.f (k + 1) y0)) ∧ (∀ y0 y1 y2, LeO (laws_toExprS.l0 k y0 y1 y2) (laws_toExprS.l0 (k + 1) y0 y1 y2)) ∧ (∀ y0 y1 y2, LeO (laws_toExpr.f k y0 y1 y2) (laws_toExpr.f (k + 1) y0 y1 y2))
 | 0 => ⟨fun _ r h => by simp [laws_toExprS.f] at h, fun _ _ _ r h => by simp [laws_toExprS.l0] at h, fun _ _ _ r h => by simp [laws_toExpr.f] at h⟩
 | k + 1 => by
  obtain ⟨ih0, ih1, ih2⟩ := laws_toExprS.mono_g k
  refine ⟨?_, ?_, ?_⟩
  ·intro y0
   unfold laws_toExprS.f
   repeat' first
   | (with_reducible exact ih0 _)
   | (with_reducible exact ih1 _ _ _)
   | (with_reducible exact ih2 _ _ _)
   | (with_reducible exact LeO.refl _)
   | (with_reducible exact LeO.none _)
   | (with_reducible refine LeO.ite ?_ ?_)
   | (with_reducible refine LeO.bind ?_ (fun _ => ?_))
   | exact ih0 _
   | exact ih1 _ _ _
   | exact ih2 _ _ _
   | exact LeO.none _
   | refine LeO.ite ?_ ?_
   | refine LeO.bind ?_ (fun _ => ?_)
  ·intro y0 y1 y2
   unfold laws_toExprS.l0
   repeat' first
   | (with_reducible exact ih0 _)
   | (with_reducible exact ih1 _ _ _)
   | (with_reducible exact ih2 _ _ _)
   | (with_reducible exact LeO.refl _)
   | (with_reducible exact LeO.none _)
   | (with_reducible refine LeO.ite ?_ ?_)
   | (with_reducible refine LeO.bind ?_ (fun _ => ?_))
   | exact ih0 _
   | exact ih1 _ _ _
   | exact ih2 _ _ _
   | exact LeO.none _
   | refine LeO.ite ?_ ?_
   | refine LeO.bind ?_ (fun _ => ?_)
  ·intro y0 y1 y2
   unfold laws_toExpr.f
   repeat' first
   | (with_reducible exact ih0 _)
   | (with_reducible exact ih1 _ _ _)
   | (with_reducible exact ih2 _ _ _)
   | (with_reducible exact LeO.refl _)
   | (with_reducible exact LeO.none _)
   | (with_reducible refine LeO.ite ?_ ?_)
   | (with_reducible refine LeO.bind ?_ (fun _ => ?_))
   | exact ih0 _
   | exact ih1 _ _ _
   | exact ih2 _ _ _
   | exact LeO.none _
   | refine LeO.ite ?_ ?_
   | refine LeO.bind ?_ (fun _ => ?_)
theorem laws_toExprS.mono : ∀ a0 k, LeO (laws_toExprS.f k a0) (laws_toExprS.f (k + 1) a0) := fun a0 k => (laws_toExprS.mono_g k).1 a0
theorem laws_toExpr.mono : ∀ a0 a1 a2 k, LeO (laws_toExpr.f k a0 a1 a2) (laws_toExpr.f (k + 1) a0 a1 a2) := fun a0 a1 a2 k => (laws_toExprS.mono_g k).2.2 a0 a1 a2
theorem laws_toExprS.step (k : Nat) (ihG_20 : ∀ m_, m_ < k → ∀ (A0 : Option Addr) (c0 : Nat) (l0 : List (S24)) (r : List (S28)) (w : World) (hr0 : Kd.C k24 w A0 l0.length l0) (hc0 : l0.length ≤ c0) (h : laws_toExprS.f m_ l0 = some r),
  Calls Try.prog 20 #[.slice A0 l0.length c0] w fun e w' => ∃ v0_ : Value, e = .returned (v0_) ∧ Kd.R k28 28 w' w.heap.size (fun _ => True) v0_ r ∧ Below w.heap.size w w') (ihG_7 : ∀ m_, m_ < k → ∀ (a0_0 : Int) (a0_1 : Int) (A0_2 : Option Addr) (c0_2 : Nat) (l0_2 : List (S24)) (r1 : Int) (r2 : Int) (r3 : List (S28)) (w : World) (hr0_2 : Kd.C k24 w A0_2 l0_2.length l0_2) (hc0_2 : l0_2.length ≤ c0_2) (h : laws_toExpr.f m_ a0_0 a0_1 l0_2 = some (r1, r2, r3)),
  Calls Try.prog 7 #[.agg #[.int .i64 a0_0, .int .i64 a0_1, .slice A0_2 l0_2.length c0_2]] w fun e w' => ∃ v2_ : Value, e = .returned (.agg #[.int .i64 r1, .int .i64 r2, v2_]) ∧ Kd.R k28 28 w' w.heap.size (fun _ => True) v2_ r3 ∧ Below w.heap.size w w') : ∀ (A0 : Option Addr) (c0 : Nat) (l0 : List (S24)) (r : List (S28)) (w : World) (hr0 : Kd.C k24 w A0 l0.length l0) (hc0 : l0.length ≤ c0) (h : laws_toExprS.f k l0 = some r),
  Calls Try.prog 20 #[.slice A0 l0.length c0] w fun e w' => ∃ v0_ : Value, e = .returned (v0_) ∧ Kd.R k28 28 w' w.heap.size (fun _ => True) v0_ r ∧ Below w.heap.size w w' := by
 intro A0 c0 l0 r w hr0 hc0 h
 cases k with
 | zero => exact absurd h (by simp [laws_toExprS.f])
 | succ k =>
 simp only [laws_toExprS.f] at h
 have hu24 := Try.underlying24
 have hu28 := Try.underlying28
 have HR0 := Ak hr0
 have HC0 := Ak hc0
 clear hr0 hc0
 have HB := Ak (Below.refl w.heap.size w)
 have H : (if 0 ≤ (l0.length : Int) then (if ((l0.length : Int) : Int).toNat ≤ 7036874417766 then (laws_toExprS.l0 k l0 (List.replicate ((l0.length : Int) : Int).toNat z28) 0) else (none)) else (none)) = some r := h
 clear h
 by_cases c2 : 0 ≤ (l0.length : Int)
 ·rw [if_pos c2] at H
  have c2b0 := eq_true c2
  have c2b1 : decide (0 ≤ (l0.length : Int)) = true := decide_eq_true c2
  clear c2
  by_cases c3 : ((l0.length : Int) : Int).toNat ≤ 7036874417766
  ·rw [if_pos c3] at H
   have c3b0 := eq_true c3
   have c3b1 : decide (((l0.length : Int) : Int).toNat ≤ 7036874417766) = true := decide_eq_true c3
   clear c3
   obtain ⟨y205, hy205⟩ : ∃ y_ : List (S28), y_ = (List.replicate ((l0.length : Int) : Int).toNat z28) := ⟨_, rfl⟩
   replace H : (laws_toExprS.l0 k l0 y205 0) = some r := by first | (rw [hy205]; with_reducible exact H) | (have H2_ := (Option.bind_some _ _).symm.trans H; rw [hy205]; with_reducible exact H2_) | (have H2_ := (Option.bind_some _ _).symm.trans H; with_reducible exact H2_) | with_reducible exact H | (rw [hy205]; exact H) | exact H
   have Ny205 := Ak hy205
   clear hy205
   have H' := Ak H
   clear H
   go_enter Try.func20, Try.ntmps20
   go_wp2_with (first | ((with_reducible refine gate_dst (N := 7) rfl ?_); refine Kd.R_make k28 _ 28 rfl (N := 7) rfl 26 _ _ rfl (l0.length : Int) rfl rfl Try.underlying26 (.agg #[(.int .i64 0), (.int .i64 0), (.slice none 0 0)]) 40 info28 rfl (by decide) (by omega) z28 (ok := fun _ => True) (okp := fun _ => True) (k28_mkM _ _ _ z28 (Kd.R_nil _ _ _ _ _)) (fun _ hk => hk) trivial (Qg) (Nat.le_trans (Nat.mul_le_mul_right _ (Qg : (l0.length : Int).toNat ≤ 7036874417766)) (by omega)) (Below.refl _ _) (Nat.le_refl _) ?_; intro v206 w4 ho5 hb hg_ hnew_; clear hg_ hnew_; (first | rw [← Ny205.out] at ho5 | (simp only [Int.reduceToNat] at ho5; rw [← Ny205.out] at ho5)); have n0_ := Ak (Kd.R_lower ho5 (below_size (Qb HB.out))); have n1_ := Ak (below_step (Qb HB.out) hb); clear HB; have HO207 := n0_; have HB := n1_; clear n0_ n1_; clear hb ho5))
   go_loopg [4] k (fun kq v4 w' => ∃ (x3_1 : List (S28)) (x4_1 : Int), v4 = .int .i64 x4_1 ∧ Aside0 (laws_toExprS.l0 kq l0 x3_1 x4_1 = some r) ∧ Aside0 (kq ≤ k) ∧ Aside0 (Kd.R k28 28 w' w.heap.size (fun _ => True) v206 x3_1) ∧ Aside0 (Below w.heap.size w w'))
   case atStart => exact ⟨(y205), (0), Qi, H', ⟨Nat.le_refl _⟩, ⟨by refine Qf ?_; exact HO207.out⟩, ⟨Qb HB.out⟩⟩
   case round =>
    clear H'
    (try clear c2); (try clear c2b0); (try clear c2b1); (try clear p2); (try clear c3); (try clear c3b0); (try clear c3b1)
    obtain ⟨x3_1, x4_1, rfl, HA, HK1, HO_3, HB⟩ := hrel
    cases gk with
    | zero => exact absurd HA.out (by simp [laws_toExprS.l0])
    | succ k1 =>
     have H := HA.out
     clear HA
     simp only [laws_toExprS.l0] at H
     by_cases c6 : x4_1 < (l0.length : Int)
     ·rw [if_pos c6] at H
      have c6b0 : decide (x4_1 < (l0.length : Int)) = true := decide_eq_true c6
      clear c6
      by_cases c7 : 0 ≤ x4_1
      ·rw [if_pos c7] at H
       have c7b0 : decide (0 ≤ x4_1) = true := decide_eq_true c7
       clear c7
       replace H := Option.bind_eq_some_iff.mp H
       obtain ⟨⟨t209, t210, t211⟩, A80, H⟩ := H
       replace H : (if x4_1 < (x3_1.length : Int) then (laws_toExprS.l0 k1 l0 (x3_1.set (x4_1 : Int).toNat (⟨t209, t210, t211⟩ : S28)) (wrap64 (x4_1 + 1))) else (none)) = some r := H
       have A8 := Ak A80
       clear A80
       by_cases c9 : x4_1 < (x3_1.length : Int)
       ·rw [if_pos c9] at H
        have c9b0 : decide (x4_1 < (x3_1.length : Int)) = true := decide_eq_true c9
        clear c9
        obtain ⟨y214, hy214⟩ : ∃ y_ : List (S28), y_ = (x3_1.set (x4_1 : Int).toNat (⟨t209, t210, t211⟩ : S28)) := ⟨_, rfl⟩
        replace H : (laws_toExprS.l0 k1 l0 y214 (wrap64 (x4_1 + 1))) = some r := by first | (rw [hy214]; with_reducible exact H) | (have H2_ := (Option.bind_some _ _).symm.trans H; rw [hy214]; with_reducible exact H2_) | (have H2_ := (Option.bind_some _ _).symm.trans H; with_reducible exact H2_) | with_reducible exact H | (rw [hy214]; exact H) | exact H
        have Ny214 := Ak hy214
        clear hy214
        have H' := Ak H
        clear H
        have p208 : 0 ≤ (x4_1 : Int) := Qg
        have q208 : x4_1 < (l0.length : Int) := Qg
        obtain ⟨ad208, A208_2, c208_2, e208, hx208_0, hx208_1, hx208_2, hl208_2, hi208_2⟩ := at_T24 HR0.out x4_1 p208 q208
        cases e208
        (try replace hx208_0 := (HB.out.cell (World.block_lt_of_cell? w _ hx208_0)).trans hx208_0)
        (try replace hx208_1 := (HB.out.cell (World.block_lt_of_cell? w _ hx208_1)).trans hx208_1)
        (try replace hx208_2 := (HB.out.cell (World.block_lt_of_cell? w _ hx208_2)).trans hx208_2)
        have HR208_2 := Ak hi208_2
        have HC208_2 := Ak hl208_2
        clear hi208_2 hl208_2
        replace p208 := eq_true p208
        replace q208 := eq_true q208
        go_wp2_with (first | ((with_reducible refine gate_callee (f := 7) rfl ?_); refine Qj (some 20) Try.func7 #[.agg #[.int .i64 ((rd_T24 l0 x4_1).f0), .int .i64 ((rd_T24 l0 x4_1).f1), .slice A208_2 ((rd_T24 l0 x4_1).f2).length c208_2]] ?_; (with_reducible refine (ihG_7 k1 (by have := HK1.out; omega) ((rd_T24 l0 x4_1).f0) ((rd_T24 l0 x4_1).f1) _ _ ((rd_T24 l0 x4_1).f2) t209 t210 t211 _ ?side1 ?side2 A8.out).mono ?_); (case side1 => repeat (first | exact (Kd.C_below HR208_2.out HB.out) | (with_reducible refine Kd.C_alloc ?_ _) | (with_reducible refine Kd.C_drewN ?_ _) | (with_reducible refine Kd.C_drew ?_))); (case side2 => exact HC208_2.out); rintro e w11 ⟨v212, rfl, ho0, hb⟩; refine ⟨_, rfl, ?_⟩; have n0_ := Ak (Kd.R_elder' (Qc HO_3.out) (Kd.R_base ho0) hb); have n1_ := Ak (Kd.R_lower (Kd.R_new' ho0 (Kd.R_lt (Qc HO_3.out))) (below_size (Qb HB.out))); have n2_ := Ak (below_step (Qb HB.out) hb); clear HO_3 HB; have HO_3 := n0_; have HO213 := n1_; have HB := n2_; clear n0_ n1_ n2_; (try clear hb); (try clear hb2); (try clear hk); (try clear hi); (try clear ho0); have hst_ : ∀ (a_ : Addr) (W_ : World), (store a_ v212).run Try.prog W_ = stored Try.prog W_ a_ v212 .plain := (by obtain ⟨A_, c_, e_⟩ := Kd.R_slice HO213.out; rw [e_]; intro a_ W_; exact run_store_slice _ _ _ _ _ _ _); have hm_ : (v212 : Value).cells = #[v212] := (by obtain ⟨A_, c_, e_⟩ := Kd.R_slice HO213.out; rw [e_]; rfl); unfold Value.cells at hm_; have p10 : 0 ≤ (x4_1 : Int) := Qg; have q10 : (x4_1 : Int) < ((x3_1.length : Int) : Int) := Qg; obtain ⟨go10, co10, eo10, gb10, gl10, cl10, HG10⟩ := Kd.R_form HO_3.out (by omega); (first | cases eo10 | (injection eo10 with ea_ en_ ec_; (first | subst ea_ | (injection ea_ with ea_; subst ea_)); subst ec_; clear en_)); have GB10 := Ak gb10; have GG10 := Ak HG10; clear gb10 gl10 HG10; obtain ⟨ce10, hcl10, hM10, hcc10, hfr10⟩ := Kd.R_elem HO_3.out z28 (x4_1 : Int) p10 q10; obtain ⟨ve10_2, rfl, ge10_2⟩ := k28_openM hM10; have hx10_0 : w11.cell? ⟨go10, (x4_1 : Int).toNat * 3, none⟩ = some (.int .i64 ((rd_T28 x3_1 x4_1).f0)) := hcc10 0 _ rfl; have hx10_1 : w11.cell? ⟨go10, (x4_1 : Int).toNat * 3 + 1, none⟩ = some (.int .i64 ((rd_T28 x3_1 x4_1).f1)) := hcc10 1 _ rfl; have hx10_2 : w11.cell? ⟨go10, (x4_1 : Int).toNat * 3 + 2, none⟩ = some (ve10_2) := hcc10 2 _ rfl; have hf10_0 : w11.frozen? ⟨go10, (x4_1 : Int).toNat * 3, none⟩ = false := hfr10 0; have hf10_1 : w11.frozen? ⟨go10, (x4_1 : Int).toNat * 3 + 1, none⟩ = false := hfr10 1; have hf10_2 : w11.frozen? ⟨go10, (x4_1 : Int).toNat * 3 + 2, none⟩ = false := hfr10 2; (try clear hcl10); (try clear hcc10); (try clear hfr10); (try clear hM10); replace p10 := eq_true p10; replace q10 := eq_true q10; have n_ := Ak (Kd.R_mono (ok' := (fun k_ => some k_ ≠ (v212 : Value).ownBlock)) HO_3.out (fun k_ hk => hk.2)); clear HO_3; have HO_3 := n_; clear n_; have HX12 := Ak (show Kd.R k28 28 w11 w.heap.size (fun _ => True) (.slice (some ⟨go10, 0, none⟩) x3_1.length co10) x3_1 from (by refine Qf ?_; exact Kd.R_mono HO_3.out (fun _ hk => trivial))); obtain ⟨ce12, hcl12, hM12, hcc12, hfr12⟩ := Kd.R_elem HX12.out z28 (x4_1 : Int) (Qg) (by have h_ : (x4_1 : Int) < ((x3_1.length : Int) : Int) := Qg; first | exact h_ | (have e_ := (Kd.R_reads' HO_3.out).1; omega) | simpa using h_); obtain ⟨ve12_2, rfl, ge12_2⟩ := k28_openM hM12; have HP12 := Kd.R_seg HX12.out (x4_1 : Int) (Qg) (by have h_ : (x4_1 : Int) < ((x3_1.length : Int) : Int) := Qg; first | exact h_ | (have e_ := (Kd.R_reads' HO_3.out).1; omega) | simpa using h_) (seg := [.int .i64 t209, .int .i64 t210, v212]) (j := 0) hcl12 hcc12 (show 3 ≤ 3 from by decide) (x' := (⟨t209, t210, t211⟩ : S28)) (k28_mkM _ _ _ (⟨t209, t210, t211⟩ : S28) (Kd.R_mono (HO213.out) (fun k_ hk => ⟨trivial, fun e_ => (hk.2) (by rw [e_]; rfl)⟩))) (fun _ hk => hk); have hx12_0 := hcc12 0 _ rfl; (try simp only [show (k28).sz = 3 from rfl, Nat.mul_one, Nat.add_zero] at hx12_0); have hf12_0 := hfr12 0; (try simp only [show (k28).sz = 3 from rfl, Nat.mul_one, Nat.add_zero] at hf12_0); have hx12_1 := hcc12 1 _ rfl; (try simp only [show (k28).sz = 3 from rfl, Nat.mul_one, Nat.add_zero] at hx12_1); have hf12_1 := hfr12 1; (try simp only [show (k28).sz = 3 from rfl, Nat.mul_one, Nat.add_zero] at hf12_1); have hx12_2 := hcc12 2 _ rfl; (try simp only [show (k28).sz = 3 from rfl, Nat.mul_one, Nat.add_zero] at hx12_2); have hf12_2 := hfr12 2; (try simp only [show (k28).sz = 3 from rfl, Nat.mul_one, Nat.add_zero] at hf12_2); (try clear hcl12); (try clear hcc12); (try clear hfr12); (try clear hM12)) | ((with_reducible refine gate_store (t := 28) (p := 21) rfl ?_); refine store_event (t := 28) (p := 21) (v := ?vo_w13) (w1 := (((w11.setCell ⟨go10, (x4_1 : Int).toNat * 3, none⟩ (.int .i64 t209)).setCell ⟨go10, (x4_1 : Int).toNat * 3 + 1, none⟩ (.int .i64 t210)).setCell ⟨go10, (x4_1 : Int).toNat * 3 + 2, none⟩ (v212))) ?hg ?ho ?hn ?hr ?_; (case ho => rfl); (case hg => rfl); (case hn => rfl); (case hr => first | (go_simp; done) | (go_simp; rfl)); intro w13 hw; have hg : w11.grownBy w13 (some go10) := (by rw [hw]; exact HP12.2); have hp_ : Kd.R k28 28 w13 w.heap.size (fun _ => True) (.slice (some ⟨go10, 0, none⟩) x3_1.length co10) y214 := (by rw [hw, Ny214.out]; exact HP12.1); clear HP12; have n0_ := Ak (hp_); have n1_ := Ak ((by rw [hw]; exact below_set (below_set (below_set (HB.out) GB10.out) GB10.out) GB10.out : Below w.heap.size w w13)); clear HO_3 HB HO213; have HO_3 := n0_; have HB := n1_; clear n0_ n1_; clear hg hw hp_))
        go_roundg k1
        case measure => have := HK1.out; omega
        case rel => exact ⟨(y214), (wrap64 (x4_1 + 1)), Qi, H', ⟨by have := HK1.out; omega⟩, ⟨by refine Qf ?_; exact HO_3.out⟩, ⟨Qb HB.out⟩⟩
       ·rw [if_neg c9] at H
        exact absurd H (by simp)
      ·rw [if_neg c7] at H
       exact absurd H (by simp)
     ·rw [if_neg c6] at H
      have c6b0 : decide (x4_1 < (l0.length : Int)) = false := decide_eq_false c6
      clear c6
      obtain rfl := Option.some.inj H
      go_wp2
      go_ret
      exact ⟨_, Qh, by refine Qf ?_; exact HO_3.out, Qb HB.out⟩
  ·rw [if_neg c3] at H
   exact absurd H (by simp)
 ·rw [if_neg c2] at H
  exact absurd H (by simp)
theorem laws_toExpr.step (k : Nat) (ihG_20 : ∀ m_, m_ < k → ∀ (A0 : Option Addr) (c0 : Nat) (l0 : List (S24)) (r : List (S28)) (w : World) (hr0 : Kd.C k24 w A0 l0.length l0) (hc0 : l0.length ≤ c0) (h : laws_toExprS.f m_ l0 = some r),
  Calls Try.prog 20 #[.slice A0 l0.length c0] w fun e w' => ∃ v0_ : Value, e = .returned (v0_) ∧ Kd.R k28 28 w' w.heap.size (fun _ => True) v0_ r ∧ Below w.heap.size w w') (ihG_7 : ∀ m_, m_ < k → ∀ (a0_0 : Int) (a0_1 : Int) (A0_2 : Option Addr) (c0_2 : Nat) (l0_2 : List (S24)) (r1 : Int) (r2 : Int) (r3 : List (S28)) (w : World) (hr0_2 : Kd.C k24 w A0_2 l0_2.length l0_2) (hc0_2 : l0_2.length ≤ c0_2) (h : laws_toExpr.f m_ a0_0 a0_1 l0_2 = some (r1, r2, r3)),
  Calls Try.prog 7 #[.agg #[.int .i64 a0_0, .int .i64 a0_1, .slice A0_2 l0_2.length c0_2]] w fun e w' => ∃ v2_ : Value, e = .returned (.agg #[.int .i64 r1, .int .i64 r2, v2_]) ∧ Kd.R k28 28 w' w.heap.size (fun _ => True) v2_ r3 ∧ Below w.heap.size w w') : ∀ (a0_0 : Int) (a0_1 : Int) (A0_2 : Option Addr) (c0_2 : Nat) (l0_2 : List (S24)) (r1 : Int) (r2 : Int) (r3 : List (S28)) (w : World) (hr0_2 : Kd.C k24 w A0_2 l0_2.length l0_2) (hc0_2 : l0_2.length ≤ c0_2) (h : laws_toExpr.f k a0_0 a0_1 l0_2 = some (r1, r2, r3)),
  Calls Try.prog 7 #[.agg #[.int .i64 a0_0, .int .i64 a0_1, .slice A0_2 l0_2.length c0_2]] w fun e w' => ∃ v2_ : Value, e = .returned (.agg #[.int .i64 r1, .int .i64 r2, v2_]) ∧ Kd.R k28 28 w' w.heap.size (fun _ => True) v2_ r3 ∧ Below w.heap.size w w' := by
 intro a0_0 a0_1 A0_2 c0_2 l0_2 r1 r2 r3 w hr0_2 hc0_2 h
 cases k with
 | zero => exact absurd h (by simp [laws_toExpr.f])
 | succ k =>
 simp only [laws_toExpr.f] at h
 have hu24 := Try.underlying24
 have hu28 := Try.underlying28
 have HR0_2 := Ak hr0_2
 have HC0_2 := Ak hc0_2
 clear hr0_2 hc0_2
 have HB := Ak (Below.refl w.heap.size w)
 have H : ((laws_toExprS.f k l0_2).bind fun t218 => (some (a0_0, a0_1, t218))) = some (r1, r2, r3) := h
 clear h
 replace H := Option.bind_eq_some_iff.mp H
 obtain ⟨t218, A20, H⟩ := H
 replace H : (some (a0_0, a0_1, t218)) = some (r1, r2, r3) := H
 have A2 := Ak A20
 clear A20
 simp only [Option.some.injEq, Prod.mk.injEq] at H
 obtain ⟨rfl, rfl, rfl⟩ := H
 go_enter Try.func7, Try.ntmps7
 go_wp2_with (first | ((with_reducible refine gate_dst (N := 1) rfl ?_); refine Qk 1 #[.int .i64 a0_0, .int .i64 a0_1, .slice A0_2 l0_2.length c0_2] 24 ?_; intro gb215 hg w3 hbox hb; have n0_ := Ak (below_step (Qb HB.out) hb); have n1_ := Ak (hbox); have n2_ := Ak ((Qp hg HB.out : w.heap.size ≤ gb215)); have n3_ := Ak ((Qp hg HB.out : w.heap.size ≤ gb215)); clear HB; have HB := n0_; have BK215 := n1_; have GW215 := n2_; have GE215 := n3_; clear n0_ n1_ n2_ n3_; clear hb hbox hg) | ((with_reducible refine gate_dst (N := 2) rfl ?_); refine Qk 2 #[.int .i64 0, .int .i64 0, .slice none 0 0] 28 ?_; intro gb216 hg w4 hbox hb; have n0_ := Ak (Qm BK215.out hb); have n1_ := Ak (below_step (Qb HB.out) hb); have n2_ := Ak (hbox); have n3_ := Ak ((Qp hg HB.out : w.heap.size ≤ gb216)); have n4_ := Ak ((Qp hg HB.out : w.heap.size ≤ gb216)); have n5_ := Ak ((by rw [hg]; exact Nat.ne_of_lt (Qn BK215.out) : gb215 ≠ gb216)); have n6_ := Ak ((by rw [hg]; exact Nat.ne_of_gt (Qn BK215.out) : gb216 ≠ gb215)); clear BK215 HB; have BK215 := n0_; have HB := n1_; have BK216 := n2_; have GW216 := n3_; have GE216 := n4_; have NB215_216 := n5_; have NB216_215 := n6_; clear n0_ n1_ n2_ n3_ n4_ n5_ n6_; clear hb hbox hg) | ((with_reducible refine gate_dst (N := 3) rfl ?_); refine Qk 3 #[.int .i64 0, .int .i64 0, .slice none 0 0] 28 ?_; intro gb217 hg w5 hbox hb; have n0_ := Ak (Qm BK215.out hb); have n1_ := Ak (Qm BK216.out hb); have n2_ := Ak (below_step (Qb HB.out) hb); have n3_ := Ak (hbox); have n4_ := Ak ((Qp hg HB.out : w.heap.size ≤ gb217)); have n5_ := Ak ((Qp hg HB.out : w.heap.size ≤ gb217)); have n6_ := Ak ((by rw [hg]; exact Nat.ne_of_lt (Qn BK215.out) : gb215 ≠ gb217)); have n7_ := Ak ((by rw [hg]; exact Nat.ne_of_gt (Qn BK215.out) : gb217 ≠ gb215)); have n8_ := Ak ((by rw [hg]; exact Nat.ne_of_lt (Qn BK216.out) : gb216 ≠ gb217)); have n9_ := Ak ((by rw [hg]; exact Nat.ne_of_gt (Qn BK216.out) : gb217 ≠ gb216)); clear BK215 BK216 HB; have BK215 := n0_; have BK216 := n1_; have HB := n2_; have BK217 := n3_; have GW217 := n4_; have GE217 := n5_; have NB215_217 := n6_; have NB217_215 := n7_; have NB216_217 := n8_; have NB217_216 := n9_; clear n0_ n1_ n2_ n3_ n4_ n5_ n6_ n7_ n8_ n9_; clear hb hbox hg; have hnb6 := NB215_216.out; have hnc6 := NB216_215.out; have hnb7 := NB215_217.out; have hnc7 := NB217_215.out; obtain ⟨hcz8_0, hcz8_1, hcz8_2, hfz8_0, hfz8_1, hfz8_2⟩ := Qv3 BK215.out; have hnb9 := NB217_216.out; have hnc9 := NB216_217.out; obtain ⟨hcz10_0, hcz10_1, hcz10_2⟩ := Qu3 BK217.out; have hfz10_0 := blk_frozen BK217.out 0; have hfz10_1 := blk_frozen BK217.out 1; have hfz10_2 := blk_frozen BK217.out 2) | ((with_reducible refine gate_callee (f := 20) rfl ?_); refine Qj (some 12) Try.func20 #[.slice A0_2 l0_2.length c0_2] ?_; (with_reducible refine (ihG_20 k (by omega) _ _ l0_2 t218 _ ?side1 ?side2 A2.out).mono ?_); (case side1 => exact Kd.C_below HR0_2.out (Qb HB.out)); (case side2 => exact HC0_2.out); rintro e w11 ⟨v219, rfl, ho0, hb⟩; refine ⟨_, rfl, ?_⟩; have n0_ := Ak (Kd.R_lower (Kd.R_newB (Kd.R_newB ho0 (g := gb216) (o := .cells #[.int .i64 0, .int .i64 0, .slice none 0 0] 28 (0, 0)) (by refine Qe ?_; refine blk_far ?_ NB216_217.out _; refine Qe ?_; refine blk_far ?_ NB216_217.out _; exact Qa BK216.out)) (g := gb217) (o := .cells #[.int .i64 a0_0, .int .i64 a0_1, .slice none 0 0] 28 (0, 0)) (by refine Qe ?_; refine blk_put (cs := #[.int .i64 a0_0, .int .i64 0, .slice none 0 0]) ?_ 1 _ rfl; refine Qe ?_; refine blk_put (cs := #[.int .i64 0, .int .i64 0, .slice none 0 0]) ?_ 0 _ rfl; exact Qa BK217.out)) (below_size (Qb HB.out))); have n1_ := Ak (blk_below (g := gb215) (o := .cells #[.int .i64 a0_0, .int .i64 a0_1, .slice A0_2 l0_2.length c0_2] 24 (0, 0)) (by refine Qe ?_; refine blk_far ?_ NB215_217.out _; refine Qe ?_; refine blk_far ?_ NB215_217.out _; exact Qa BK215.out) hb); have n2_ := Ak (blk_below (g := gb216) (o := .cells #[.int .i64 0, .int .i64 0, .slice none 0 0] 28 (0, 0)) (by refine Qe ?_; refine blk_far ?_ NB216_217.out _; refine Qe ?_; refine blk_far ?_ NB216_217.out _; exact Qa BK216.out) hb); have n3_ := Ak (blk_below (g := gb217) (o := .cells #[.int .i64 a0_0, .int .i64 a0_1, .slice none 0 0] 28 (0, 0)) (by refine Qe ?_; refine blk_put (cs := #[.int .i64 a0_0, .int .i64 0, .slice none 0 0]) ?_ 1 _ rfl; refine Qe ?_; refine blk_put (cs := #[.int .i64 0, .int .i64 0, .slice none 0 0]) ?_ 0 _ rfl; exact Qa BK217.out) hb); have n4_ := Ak (below_step (Qb HB.out) hb); clear BK215 BK216 BK217 HB; have HO220 := n0_; have BK215 := n1_; have BK216 := n2_; have BK217 := n3_; have HB := n4_; clear n0_ n1_ n2_ n3_ n4_; (try clear hb); (try clear hb2); (try clear hk); (try clear hi); (try clear ho0); obtain ⟨Ao12, co12, eo12⟩ := Kd.R_slice HO220.out; subst eo12; obtain ⟨hcz13_0, hcz13_1, hcz13_2, hfz13_0, hfz13_1, hfz13_2⟩ := Qv3 BK217.out; obtain ⟨hcz14_0, hcz14_1, hcz14_2⟩ := Qu3 BK216.out; have hfz14_0 := blk_frozen BK216.out 0; have hfz14_1 := blk_frozen BK216.out 1; have hfz14_2 := blk_frozen BK216.out 2))
 refine bodyPost_ret (results_cell_row rfl _ _ gb216 28 #[.int .i64 a0_0, .int .i64 a0_1, .slice Ao12 t218.length co12] (0, 0) _ rfl (by refine Qe ?_; refine blk_put (cs := #[.int .i64 a0_0, .int .i64 a0_1, .slice none 0 0]) ?_ 2 _ rfl; refine Qe ?_; refine blk_put (cs := #[.int .i64 a0_0, .int .i64 0, .slice none 0 0]) ?_ 1 _ rfl; refine Qe ?_; refine blk_put (cs := #[.int .i64 0, .int .i64 0, .slice none 0 0]) ?_ 0 _ rfl; refine Qe ?_; refine blk_far ?_ NB216_217.out _; exact Qa BK216.out) Try.underlying28 rfl (by kernel_rfl)) rfl ?_
 exact ⟨_, Qh, by refine Qf ?_; exact Kd.R_mono (Kd.R_far (p := ⟨gb216, 2, none⟩) (Kd.R_far (p := ⟨gb216, 1, none⟩) (Kd.R_far (p := ⟨gb216, 0, none⟩) (Kd.R_far (p := ⟨gb217, 2, none⟩) (Kd.R_mono (Kd.R_mono HO220.out (fun k_ hk => (⟨hk, hk.2⟩ : _ ∧ k_ ≠ gb217))) (fun k_ hk => (⟨hk, hk.1.1.2⟩ : _ ∧ k_ ≠ gb216))) (fun _ hk => hk.1.2) (.slice Ao12 t218.length co12)) (fun _ hk => hk.2) (.int .i64 a0_0)) (fun _ hk => hk.2) (.int .i64 a0_1)) (fun _ hk => hk.2) (.slice Ao12 t218.length co12)) (fun _ hk => trivial), Qb HB.out⟩
theorem laws_toExprS.calls_g (k : Nat) : (∀ (A0 : Option Addr) (c0 : Nat) (l0 : List (S24)) (r : List (S28)) (w : World) (hr0 : Kd.C k24 w A0 l0.length l0) (hc0 : l0.length ≤ c0) (h : laws_toExprS.f k l0 = some r),
  Calls Try.prog 20 #[.slice A0 l0.length c0] w fun e w' => ∃ v0_ : Value, e = .returned (v0_) ∧ Kd.R k28 28 w' w.heap.size (fun _ => True) v0_ r ∧ Below w.heap.size w w') ∧ (∀ (a0_0 : Int) (a0_1 : Int) (A0_2 : Option Addr) (c0_2 : Nat) (l0_2 : List (S24)) (r1 : Int) (r2 : Int) (r3 : List (S28)) (w : World) (hr0_2 : Kd.C k24 w A0_2 l0_2.length l0_2) (hc0_2 : l0_2.length ≤ c0_2) (h : laws_toExpr.f k a0_0 a0_1 l0_2 = some (r1, r2, r3)),
  Calls Try.prog 7 #[.agg #[.int .i64 a0_0, .int .i64 a0_1, .slice A0_2 l0_2.length c0_2]] w fun e w' => ∃ v2_ : Value, e = .returned (.agg #[.int .i64 r1, .int .i64 r2, v2_]) ∧ Kd.R k28 28 w' w.heap.size (fun _ => True) v2_ r3 ∧ Below w.heap.size w w') := by
 induction k using Nat.strongRecOn with
 | _ k ih =>
 exact ⟨laws_toExprS.step k (fun m_ hm_ => (ih m_ hm_).1) (fun m_ hm_ => (ih m_ hm_).2), laws_toExpr.step k (fun m_ hm_ => (ih m_ hm_).1) (fun m_ hm_ => (ih m_ hm_).2)⟩
theorem laws_toExprS.calls (k : Nat) : ∀ (A0 : Option Addr) (c0 : Nat) (l0 : List (S24)) (r : List (S28)) (w : World) (hr0 : Kd.C k24 w A0 l0.length l0) (hc0 : l0.length ≤ c0) (h : laws_toExprS.f k l0 = some r),
  Calls Try.prog 20 #[.slice A0 l0.length c0] w fun e w' => ∃ v0_ : Value, e = .returned (v0_) ∧ Kd.R k28 28 w' w.heap.size (fun _ => True) v0_ r ∧ Below w.heap.size w w' := (laws_toExprS.calls_g k).1
theorem laws_toExpr.calls (k : Nat) : ∀ (a0_0 : Int) (a0_1 : Int) (A0_2 : Option Addr) (c0_2 : Nat) (l0_2 : List (S24)) (r1 : Int) (r2 : Int) (r3 : List (S28)) (w : World) (hr0_2 : Kd.C k24 w A0_2 l0_2.length l0_2) (hc0_2 : l0_2.length ≤ c0_2) (h : laws_toExpr.f k a0_0 a0_1 l0_2 = some (r1, r2, r3)),
  Calls Try.prog 7 #[.agg #[.int .i64 a0_0, .int .i64 a0_1, .slice A0_2 l0_2.length c0_2]] w fun e w' => ∃ v2_ : Value, e = .returned (.agg #[.int .i64 r1, .int .i64 r2, v2_]) ∧ Kd.R k28 28 w' w.heap.size (fun _ => True) v2_ r3 ∧ Below w.heap.size w w' := (laws_toExprS.calls_g k).2

/-! ### impl_kids: function 44 -/
def impl_kids.j0 : Nat → Int → Bool → Option (Int)
 | 0, _, _ => none
 | k + 1, x3, x6 => if x6 = true then (some 1) else (if x3 = 4 then (some 2) else (if x3 = 5 then (some 2) else (if x3 = 6 then (some 2) else (if x3 = 7 then (some 2) else (if x3 = 8 then (some 2) else (some (-1)))))))
def impl_kids.f (k : Nat) (a0 : Int) : Option (Int) := if a0 = 1 then (some 0) else (if a0 = 2 then (impl_kids.j0 k a0 (a0 == 2)) else (impl_kids.j0 k a0 (a0 == 3)))
theorem impl_kids.mono_l : ∀ k, (∀ y0 y1, LeO (impl_kids.j0 k y0 y1) (impl_kids.j0 (k + 1) y0 y1))
 | 0 => fun _ _ r h => by simp [impl_kids.j0] at h
 | k + 1 => by
  have ih0 := impl_kids.mono_l k
  ·intro y0 y1
   unfold impl_kids.j0
   repeat' first
   | (with_reducible exact ih0 _ _)
   | (with_reducible exact LeO.refl _)
   | (with_reducible exact LeO.none _)
   | (with_reducible refine LeO.ite ?_ ?_)
   | (with_reducible refine LeO.bind ?_ (fun _ => ?_))
   | exact ih0 _ _
   | exact LeO.none _
   | refine LeO.ite ?_ ?_
   | refine LeO.bind ?_ (fun _ => ?_)
theorem impl_kids.mono : ∀ a0 k, LeO (impl_kids.f k a0) (impl_kids.f (k + 1) a0) := by
 intro a0 k
 have ih0 := impl_kids.mono_l k
 unfold impl_kids.f
 repeat' first
   | (with_reducible exact ih0 _ _)
   | (with_reducible exact LeO.refl _)
   | (with_reducible exact LeO.none _)
   | (with_reducible refine LeO.ite ?_ ?_)
   | (with_reducible refine LeO.bind ?_ (fun _ => ?_))
   | exact ih0 _ _
   | exact LeO.none _
   | refine LeO.ite ?_ ?_
   | refine LeO.bind ?_ (fun _ => ?_)
theorem impl_kids.calls (k : Nat) (a0 : Int) (r : Int) (w : World) (h : impl_kids.f k a0 = some r) :
  Calls Try.prog 44 #[.int .i64 a0] w fun e w' => e = .returned (.int .i64 r) ∧ Drawn0 w w' := by
 have H : (if a0 = 1 then (some 0) else (if a0 = 2 then (impl_kids.j0 k a0 (a0 == 2)) else (impl_kids.j0 k a0 (a0 == 3)))) = some r := h
 clear h
 by_cases c2 : a0 = 1
 ·rw [if_pos c2] at H
  have c2b0 : (a0 == 1) = true := beq_iff_eq.mpr c2
  have c2b1 : (a0 != 1) = false := bne_eq_false_iff_eq.mpr c2
  clear c2
  obtain rfl := Option.some.inj H
  go_enter Try.func44, Try.ntmps44
  go_wp2
  go_ret
  exact ⟨Qi, Ql⟩
 ·rw [if_neg c2] at H
  have c2b0 : (a0 == 1) = false := beq_eq_false_iff_ne.mpr c2
  have c2b1 : (a0 != 1) = true := bne_iff_ne.mpr c2
  have HC3 := Ak H
  clear H
  go_enter Try.func44, Try.ntmps44
  go_upto_if 6 with (fail)
  go_cut [6] (fun v6 wc => ∃ (kq : Nat) (x6_2 : Bool), v6 = .bool x6_2 ∧ Aside0 (impl_kids.j0 kq a0 x6_2 = some r) ∧ Aside0 (kq ≤ k) ∧ Drawn0 w wc)
  case first =>
   have H := HC3.out
   clear HC3
   by_cases c4 : a0 = 2
   ·rw [if_pos c4] at H
    have c4b0 : (a0 == 2) = true := beq_iff_eq.mpr c4
    have c4b1 : (a0 != 2) = false := bne_eq_false_iff_eq.mpr c4
    clear c4
    (first | rw [c4b0] | (simp only [i64_w, i32_w]; rw [c4b0]) | skip)
    have H' := Ak H
    clear H
    go_wp2
    go_meet
    case rel => exact ⟨_, ((a0 == 2)), Qi, H', ⟨by first | omega | exact Nat.le_refl _⟩, Ql⟩
   ·rw [if_neg c4] at H
    have c4b0 : (a0 == 2) = false := beq_eq_false_iff_ne.mpr c4
    have c4b1 : (a0 != 2) = true := bne_iff_ne.mpr c4
    (first | rw [c4b0] | (simp only [i64_w, i32_w]; rw [c4b0]) | skip)
    have H' := Ak H
    clear H
    go_wp2
    go_meet
    case rel => exact ⟨_, ((a0 == 3)), Qi, H', ⟨by first | omega | exact Nat.le_refl _⟩, Ql⟩
  case rest =>
   clear HC3
   (try clear c2); (try clear c2b0); (try clear c2b1); (try clear p2); (try clear c4); (try clear c4b0); (try clear c4b1)
   obtain ⟨kq, x6_2, rfl, HA, HJ2, ⟨mc2, rfl⟩⟩ := hcut
   cases kq with
   | zero => exact absurd HA.out (by simp [impl_kids.j0])
   | succ kj2 =>
    have H := HA.out
    clear HA
    simp only [impl_kids.j0] at H
    by_cases c5 : x6_2 = true
    ·(try subst c5)
     have H1 : (some 1) = some r := by rw [if_pos rfl] at H; exact H
     clear H
     have H := H1
     clear H1
     obtain rfl := Option.some.inj H
     go_wp2
     go_ret
     exact ⟨Qi, Ql⟩
    ·replace c5 := Bool.eq_false_iff.mpr c5
     (try subst c5)
     have H1 : (if a0 = 4 then (some 2) else (if a0 = 5 then (some 2) else (if a0 = 6 then (some 2) else (if a0 = 7 then (some 2) else (if a0 = 8 then (some 2) else (some (-1))))))) = some r := by rw [if_neg (show ¬ (false = true) by decide)] at H; exact H
     clear H
     have H := H1
     clear H1
     by_cases c6 : a0 = 4
     ·rw [if_pos c6] at H
      have c6b0 : (a0 == 4) = true := beq_iff_eq.mpr c6
      have c6b1 : (a0 != 4) = false := bne_eq_false_iff_eq.mpr c6
      clear c6
      obtain rfl := Option.some.inj H
      go_wp2
      go_ret
      exact ⟨Qi, Ql⟩
     ·rw [if_neg c6] at H
      have c6b0 : (a0 == 4) = false := beq_eq_false_iff_ne.mpr c6
      have c6b1 : (a0 != 4) = true := bne_iff_ne.mpr c6
      by_cases c7 : a0 = 5
      ·rw [if_pos c7] at H
       have c7b0 : (a0 == 5) = true := beq_iff_eq.mpr c7
       have c7b1 : (a0 != 5) = false := bne_eq_false_iff_eq.mpr c7
       clear c7
       obtain rfl := Option.some.inj H
       go_wp2
       go_ret
       exact ⟨Qi, Ql⟩
      ·rw [if_neg c7] at H
       have c7b0 : (a0 == 5) = false := beq_eq_false_iff_ne.mpr c7
       have c7b1 : (a0 != 5) = true := bne_iff_ne.mpr c7
       by_cases c8 : a0 = 6
       ·rw [if_pos c8] at H
        have c8b0 : (a0 == 6) = true := beq_iff_eq.mpr c8
        have c8b1 : (a0 != 6) = false := bne_eq_false_iff_eq.mpr c8
        clear c8
        obtain rfl := Option.some.inj H
        go_wp2
        go_ret
        exact ⟨Qi, Ql⟩
       ·rw [if_neg c8] at H
        have c8b0 : (a0 == 6) = false := beq_eq_false_iff_ne.mpr c8
        have c8b1 : (a0 != 6) = true := bne_iff_ne.mpr c8
        by_cases c9 : a0 = 7
        ·rw [if_pos c9] at H
         have c9b0 : (a0 == 7) = true := beq_iff_eq.mpr c9
         have c9b1 : (a0 != 7) = false := bne_eq_false_iff_eq.mpr c9
         clear c9
         obtain rfl := Option.some.inj H
         go_wp2
         go_ret
         exact ⟨Qi, Ql⟩
        ·rw [if_neg c9] at H
         have c9b0 : (a0 == 7) = false := beq_eq_false_iff_ne.mpr c9
         have c9b1 : (a0 != 7) = true := bne_iff_ne.mpr c9
         by_cases c10 : a0 = 8
         ·rw [if_pos c10] at H
          have c10b0 : (a0 == 8) = true := beq_iff_eq.mpr c10
          have c10b1 : (a0 != 8) = false := bne_eq_false_iff_eq.mpr c10
          clear c10
          obtain rfl := Option.some.inj H
          go_wp2
          go_ret
          exact ⟨Qi, Ql⟩
         ·rw [if_neg c10] at H
          have c10b0 : (a0 == 8) = false := beq_eq_false_iff_ne.mpr c10
          have c10b1 : (a0 != 8) = true := bne_iff_ne.mpr c10
          obtain rfl := Option.some.inj H
          go_wp2
          go_ret
          exact ⟨Qi, Ql⟩

/-! ### impl_power: function 47 -/
def impl_power.l0 : Nat → Int → Int → Int → Option (Int)
 | 0, _, _, _ => none
 | k + 1, x3, x4, x5 => if x5 < x4 then (impl_power.l0 k (wrap64 (x3 * 3)) x4 (wrap64 (x5 + 1))) else (some x3)
def impl_power.f (k : Nat) (a0 : Int) : Option (Int) := impl_power.l0 k 1 a0 0
theorem impl_power.mono_l : ∀ k, (∀ y0 y1 y2, LeO (impl_power.l0 k y0 y1 y2) (impl_power.l0 (k + 1) y0 y1 y2))
 | 0 => fun _ _ _ r h => by simp [impl_power.l0] at h
 | k + 1 => by
  have ih0 := impl_power.mono_l k
  ·intro y0 y1 y2
   unfold impl_power.l0
   repeat' first
   | (with_reducible exact ih0 _ _ _)
   | (with_reducible exact LeO.refl _)
   | (with_reducible exact LeO.none _)
   | (with_reducible refine LeO.ite ?_ ?_)
   | (with_reducible refine LeO.bind ?_ (fun _ => ?_))
   | exact ih0 _ _ _
   | exact LeO.none _
   | refine LeO.ite ?_ ?_
   | refine LeO.bind ?_ (fun _ => ?_)
theorem impl_power.mono : ∀ a0 k, LeO (impl_power.f k a0) (impl_power.f (k + 1) a0) := by
 intro a0 k
 have ih0 := impl_power.mono_l k
 unfold impl_power.f
 repeat' first
   | (with_reducible exact ih0 _ _ _)
   | (with_reducible exact LeO.refl _)
   | (with_reducible exact LeO.none _)
   | (with_reducible refine LeO.ite ?_ ?_)
   | (with_reducible refine LeO.bind ?_ (fun _ => ?_))
   | exact ih0 _ _ _
   | exact LeO.none _
   | refine LeO.ite ?_ ?_
   | refine LeO.bind ?_ (fun _ => ?_)
theorem impl_power.calls (k : Nat) (a0 : Int) (r : Int) (w : World) (h : impl_power.f k a0 = some r) :
  Calls Try.prog 47 #[.int .i64 a0] w fun e w' => e = .returned (.int .i64 r) ∧ Drawn0 w w' := by
 have H : (impl_power.l0 k 1 a0 0) = some r := h
 clear h
 have H' := Ak H
 clear H
 go_enter Try.func47, Try.ntmps47
 go_wp2
 go_loopg [3, 5] k (fun kq v3 v5 w' => ∃ (x3_1 : Int) (x5_1 : Int), v3 = .int .i64 x3_1 ∧ v5 = .int .i64 x5_1 ∧ Aside0 (impl_power.l0 kq x3_1 a0 x5_1 = some r) ∧ Aside0 (kq ≤ k) ∧ Drawn0 w w')
 case atStart => exact ⟨(1), (0), Qi, Qi, H', ⟨Nat.le_refl _⟩, Ql⟩
 case round =>
  clear H'
  obtain ⟨x3_1, x5_1, rfl, rfl, HA, HK1, ⟨m1, rfl⟩⟩ := hrel
  cases gk with
  | zero => exact absurd HA.out (by simp [impl_power.l0])
  | succ k1 =>
   have H := HA.out
   clear HA
   simp only [impl_power.l0] at H
   by_cases c2 : x5_1 < a0
   ·rw [if_pos c2] at H
    have c2b0 : decide (x5_1 < a0) = true := decide_eq_true c2
    clear c2
    have H' := Ak H
    clear H
    go_wp2
    go_roundg k1
    case measure => have := HK1.out; omega
    case rel => exact ⟨(wrap64 (x3_1 * 3)), (wrap64 (x5_1 + 1)), Qi, Qi, H', ⟨by have := HK1.out; omega⟩, Ql⟩
   ·rw [if_neg c2] at H
    have c2b0 : decide (x5_1 < a0) = false := decide_eq_false c2
    clear c2
    obtain rfl := Option.some.inj H
    go_wp2
    go_ret
    exact ⟨Qi, Ql⟩

/-! ### impl_LimitOf: function 45 -/
def impl_LimitOf.f (k : Nat) (a0 : Int) : Option (Int) := if a0 < 1 then (some 0) else (if a0 > 30 then (some 0) else ((impl_power.f k a0).bind fun t221 => (some (wrap64 (Int.tdiv (wrap64 (t221 - 1)) 2)))))
theorem impl_LimitOf.mono : ∀ a0 k, LeO (impl_LimitOf.f k a0) (impl_LimitOf.f (k + 1) a0) := by
 intro a0 k
 unfold impl_LimitOf.f
 repeat' first
   | (with_reducible exact impl_power.mono _ _)
   | (with_reducible exact LeO.refl _)
   | (with_reducible exact LeO.none _)
   | (with_reducible refine LeO.ite ?_ ?_)
   | (with_reducible refine LeO.bind ?_ (fun _ => ?_))
   | exact impl_power.mono _ _
   | exact LeO.none _
   | refine LeO.ite ?_ ?_
   | refine LeO.bind ?_ (fun _ => ?_)
theorem impl_LimitOf.calls (k : Nat) (a0 : Int) (r : Int) (w : World) (h : impl_LimitOf.f k a0 = some r) :
  Calls Try.prog 45 #[.int .i64 a0] w fun e w' => e = .returned (.int .i64 r) ∧ Drawn0 w w' := by
 have H : (if a0 < 1 then (some 0) else (if a0 > 30 then (some 0) else ((impl_power.f k a0).bind fun t221 => (some (wrap64 (Int.tdiv (wrap64 (t221 - 1)) 2)))))) = some r := h
 clear h
 by_cases c2 : a0 < 1
 ·rw [if_pos c2] at H
  have c2b0 : decide (a0 < 1) = true := decide_eq_true c2
  clear c2
  obtain rfl := Option.some.inj H
  go_enter Try.func45, Try.ntmps45
  go_wp2
  go_ret
  exact ⟨Qi, Ql⟩
 ·rw [if_neg c2] at H
  have c2b0 : decide (a0 < 1) = false := decide_eq_false c2
  clear c2
  by_cases c3 : a0 > 30
  ·rw [if_pos c3] at H
   have c3b0 : decide (30 < a0) = true := decide_eq_true c3
   clear c3
   obtain rfl := Option.some.inj H
   go_enter Try.func45, Try.ntmps45
   go_wp2
   go_ret
   exact ⟨Qi, Ql⟩
  ·rw [if_neg c3] at H
   have c3b0 : decide (30 < a0) = false := decide_eq_false c3
   clear c3
   replace H := Option.bind_eq_some_iff.mp H
   obtain ⟨t221, A40, H⟩ := H
   replace H : (some (wrap64 (Int.tdiv (wrap64 (t221 - 1)) 2))) = some r := H
   have A4 := Ak A40
   clear A40
   obtain rfl := Option.some.inj H
   go_enter Try.func45, Try.ntmps45
   go_wp2_with (first | ((with_reducible refine gate_callee (f := 47) rfl ?_); refine Qj (some 10) Try.func47 #[.int .i64 a0] ?_; (with_reducible refine (impl_power.calls k a0 t221 _ A4.out).mono ?_); rintro e w' ⟨rfl, ⟨nd, rfl⟩⟩; refine ⟨_, rfl, ?_⟩))
   go_ret
   exact ⟨Qi, Ql⟩

end Go.Proofs.Ythlagaopjmeaaaa.HFnExactNegateExpr

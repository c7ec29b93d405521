/- Text for FnExactFormatExpr: written by a program of this session on the pattern of the kit's print. -/
import Derived.Test.YtjfgcipbbcplmaaDoorHFnExactFormatExprx0
import Derived.Test.YtjfgcipbbcplmaaDoorHFnExactFormatExprx5
import Derived.Test.YtjfgcipbbcplmaaDoorHFnExactFormatExprx9
namespace Go.Proofs.YtjfgcipbbcplmaaDoor.HFnExactFormatExpr
open Go.RowKit Go.Proofs.YtjfgcipbbcplmaaDoorW.PrintWords Go.Proofs.YtjfgcipbbcplmaaDoorW.PrintLast Go.Proofs.YtjfgcipbbcplmaaDoorW.PrintMore
attribute [local go_sem] max2_int min2_int max_two min_two max_three min_three max_four min_four
set_option linter.unusedVariables false
set_option linter.unusedSimpArgs false

/-! ### laws_FnExactFormatExpr: function 4 -/
def laws_FnExactFormatExpr.f (k : Nat) (a0_0 : Int) (a0_1 : Int) (l0_2 : List (S38)) : Option (Bool) := (laws_szExpr.f k a0_0 a0_1 l0_2 1048576).bind fun t203 => (if t203 < 0 then (some true) else ((laws_toExpr.f k a0_0 a0_1 l0_2).bind fun bt204 => ((spec_FormatExpr.f k bt204.1 bt204.2.1 bt204.2.2).bind fun t209 => ((laws_toExpr.f k a0_0 a0_1 l0_2).bind fun bt210 => ((impl_FormatExpr.f k bt210.1 bt210.2.1 bt210.2.2).bind fun t216 => (if t216.toList = t209.toList then ((laws_toExpr.f k a0_0 a0_1 l0_2).bind fun bt217 => ((laws_eqExpr.f k bt210.1 bt210.2.1 bt210.2.2 bt217.1 bt217.2.1 bt217.2.2).bind fun t222 => (if t222 = true then (some true) else (some false)))) else (some false)))))))
theorem laws_FnExactFormatExpr.mono : ∀ a0 a1 a2 k, LeO (laws_FnExactFormatExpr.f k a0 a1 a2) (laws_FnExactFormatExpr.f (k + 1) a0 a1 a2) := by
 intro a0 a1 a2 k
 unfold laws_FnExactFormatExpr.f
 repeat' first
   | (with_reducible exact impl_FormatExpr.mono _ _ _ _)
   | (with_reducible exact laws_eqExpr.mono _ _ _ _ _ _ _)
   | (with_reducible exact laws_szExpr.mono _ _ _ _ _)
   | (with_reducible exact laws_toExpr.mono _ _ _ _)
   | (with_reducible exact spec_FormatExpr.mono _ _ _ _)
   | (with_reducible exact LeO.refl _)
   | (with_reducible exact LeO.none _)
   | (with_reducible refine LeO.ite ?_ ?_)
   | (with_reducible refine LeO.bind ?_ (fun _ => ?_))
   | exact impl_FormatExpr.mono _ _ _ _
   | exact laws_eqExpr.mono _ _ _ _ _ _ _
   | exact laws_szExpr.mono _ _ _ _ _
   | exact laws_toExpr.mono _ _ _ _
   | exact spec_FormatExpr.mono _ _ _ _
   | exact LeO.none _
   | refine LeO.ite ?_ ?_
   | refine LeO.bind ?_ (fun _ => ?_)
set_option maxHeartbeats 8000000 in
set_option maxRecDepth 100000 in
theorem laws_FnExactFormatExpr.calls (k : Nat) (a0_0 : Int) (a0_1 : Int) (A0_2 : Option Addr) (c0_2 : Nat) (l0_2 : List (S38)) (r : Bool) (w : World) (hr0_2 : Kd.C k38 w A0_2 l0_2.length l0_2) (hc0_2 : l0_2.length ≤ c0_2) (hL : Aside0 (Laid w)) (h : laws_FnExactFormatExpr.f k a0_0 a0_1 l0_2 = some r) :
  Calls Tryd.prog 4 #[.agg #[.int .i64 a0_0, .int .i64 a0_1, .slice A0_2 l0_2.length c0_2]] w fun e w' => e = .returned (.bool r) ∧ Below w.heap.size w w' := by
 have hu38 := Tryd.underlying38
 have hu25 := Tryd.underlying25
 have HR0_2 := Ak hr0_2
 have HC0_2 := Ak hc0_2
 clear hr0_2 hc0_2
 have HB := Ak (Below.refl w.heap.size w)
 have H : ((laws_szExpr.f k a0_0 a0_1 l0_2 1048576).bind fun t203 => (if t203 < 0 then (some true) else ((laws_toExpr.f k a0_0 a0_1 l0_2).bind fun bt204 => ((spec_FormatExpr.f k bt204.1 bt204.2.1 bt204.2.2).bind fun t209 => ((laws_toExpr.f k a0_0 a0_1 l0_2).bind fun bt210 => ((impl_FormatExpr.f k bt210.1 bt210.2.1 bt210.2.2).bind fun t216 => (if t216.toList = t209.toList then ((laws_toExpr.f k a0_0 a0_1 l0_2).bind fun bt217 => ((laws_eqExpr.f k bt210.1 bt210.2.1 bt210.2.2 bt217.1 bt217.2.1 bt217.2.2).bind fun t222 => (if t222 = true then (some true) else (some false)))) else (some false)))))))) = some r := h
 clear h
 replace H := Option.bind_eq_some_iff.mp H
 obtain ⟨t203, A20, H⟩ := H
 replace H : (if t203 < 0 then (some true) else ((laws_toExpr.f k a0_0 a0_1 l0_2).bind fun bt204 => ((spec_FormatExpr.f k bt204.1 bt204.2.1 bt204.2.2).bind fun t209 => ((laws_toExpr.f k a0_0 a0_1 l0_2).bind fun bt210 => ((impl_FormatExpr.f k bt210.1 bt210.2.1 bt210.2.2).bind fun t216 => (if t216.toList = t209.toList then ((laws_toExpr.f k a0_0 a0_1 l0_2).bind fun bt217 => ((laws_eqExpr.f k bt210.1 bt210.2.1 bt210.2.2 bt217.1 bt217.2.1 bt217.2.2).bind fun t222 => (if t222 = true then (some true) else (some false)))) else (some false))))))) = some r := H
 have A2 := Ak A20
 clear A20
 by_cases c3 : t203 < 0
 ·rw [if_pos c3] at H
  have c3b0 : decide (t203 < 0) = true := decide_eq_true c3
  clear c3
  obtain rfl := Option.some.inj H
  go_enter Tryd.func4, Tryd.ntmps4
  go_wp2_with (first | ((with_reducible refine gate_dst (N := 1) rfl ?_); refine Qk 1 #[.int .i64 a0_0, .int .i64 a0_1, .slice A0_2 l0_2.length c0_2] 38 ?_; intro gb202 hg w4 hbox hb; have n0_ := Ak (below_step (Qb HB.out) hb); have n1_ := Ak (hbox); have n2_ := Ak ((Qp hg HB.out : w.heap.size ≤ gb202)); have n3_ := Ak ((Qp hg HB.out : w.heap.size ≤ gb202)); clear HB; have HB := n0_; have BK202 := n1_; have GW202 := n2_; have GE202 := n3_; clear n0_ n1_ n2_ n3_; clear hb hbox hg; obtain ⟨hcz5_0, hcz5_1, hcz5_2⟩ := Qu3 BK202.out; have hfz5_0 := blk_frozen BK202.out 0; have hfz5_1 := blk_frozen BK202.out 1; have hfz5_2 := blk_frozen BK202.out 2) | ((with_reducible refine gate_callee (f := 18) rfl ?_); refine Qj (some 9) Tryd.func18 #[.agg #[.int .i64 a0_0, .int .i64 a0_1, .slice A0_2 l0_2.length c0_2], .int .i64 1048576] ?_; (with_reducible refine (laws_szExpr.calls k a0_0 a0_1 _ _ l0_2 1048576 t203 _ ?side1 ?side2 A2.out).mono ?_); (case side1 => repeat (first | exact (Kd.C_below HR0_2.out HB.out) | (with_reducible refine Kd.C_alloc ?_ _) | (with_reducible refine Kd.C_drewN ?_ _) | (with_reducible refine Kd.C_drew ?_))); (case side2 => exact HC0_2.out); rintro e w6 ⟨rfl, hb⟩; refine ⟨_, rfl, ?_⟩; have n0_ := Ak (Qm BK202.out hb); have n1_ := Ak (below_step (Qb HB.out) hb); clear BK202 HB; have BK202 := n0_; have HB := n1_; clear n0_ n1_; (try clear hb); (try clear hb2); (try clear hk); (try clear hi)))
  go_ret
  exact ⟨Qh, Qb HB.out⟩
 ·rw [if_neg c3] at H
  have c3b0 : decide (t203 < 0) = false := decide_eq_false c3
  clear c3
  replace H := Option.bind_eq_some_iff.mp H
  obtain ⟨⟨t204, t205, t206⟩, A70, H⟩ := H
  replace H : ((spec_FormatExpr.f k t204 t205 t206).bind fun t209 => ((laws_toExpr.f k a0_0 a0_1 l0_2).bind fun bt210 => ((impl_FormatExpr.f k bt210.1 bt210.2.1 bt210.2.2).bind fun t216 => (if t216.toList = t209.toList then ((laws_toExpr.f k a0_0 a0_1 l0_2).bind fun bt217 => ((laws_eqExpr.f k bt210.1 bt210.2.1 bt210.2.2 bt217.1 bt217.2.1 bt217.2.2).bind fun t222 => (if t222 = true then (some true) else (some false)))) else (some false))))) = some r := H
  have A7 := Ak A70
  clear A70
  replace H := Option.bind_eq_some_iff.mp H
  obtain ⟨t209, A80, H⟩ := H
  replace H : ((laws_toExpr.f k a0_0 a0_1 l0_2).bind fun bt210 => ((impl_FormatExpr.f k bt210.1 bt210.2.1 bt210.2.2).bind fun t216 => (if t216.toList = t209.toList then ((laws_toExpr.f k a0_0 a0_1 l0_2).bind fun bt217 => ((laws_eqExpr.f k bt210.1 bt210.2.1 bt210.2.2 bt217.1 bt217.2.1 bt217.2.2).bind fun t222 => (if t222 = true then (some true) else (some false)))) else (some false)))) = some r := H
  have A8 := Ak A80
  clear A80
  replace H := Option.bind_eq_some_iff.mp H
  obtain ⟨⟨t210, t211, t212⟩, A90, H⟩ := H
  replace H : ((impl_FormatExpr.f k t210 t211 t212).bind fun t216 => (if t216.toList = t209.toList then ((laws_toExpr.f k a0_0 a0_1 l0_2).bind fun bt217 => ((laws_eqExpr.f k t210 t211 t212 bt217.1 bt217.2.1 bt217.2.2).bind fun t222 => (if t222 = true then (some true) else (some false)))) else (some false))) = some r := H
  have A9 := Ak A90
  clear A90
  replace H := Option.bind_eq_some_iff.mp H
  obtain ⟨t216, A100, H⟩ := H
  replace H : (if t216.toList = t209.toList then ((laws_toExpr.f k a0_0 a0_1 l0_2).bind fun bt217 => ((laws_eqExpr.f k t210 t211 t212 bt217.1 bt217.2.1 bt217.2.2).bind fun t222 => (if t222 = true then (some true) else (some false)))) else (some false)) = some r := H
  have A10 := Ak A100
  clear A100
  by_cases c11 : t216.toList = t209.toList
  ·rw [if_pos c11] at H
   have c11b0 : (t216.toList == t209.toList) = true := beq_iff_eq.mpr c11
   have c11b1 : (t216.toList != t209.toList) = false := bne_eq_false_iff_eq.mpr c11
   clear c11
   replace H := Option.bind_eq_some_iff.mp H
   obtain ⟨⟨t217, t218, t219⟩, A120, H⟩ := H
   replace H : ((laws_eqExpr.f k t210 t211 t212 t217 t218 t219).bind fun t222 => (if t222 = true then (some true) else (some false))) = some r := H
   have A12 := Ak A120
   clear A120
   replace H := Option.bind_eq_some_iff.mp H
   obtain ⟨t222, A130, H⟩ := H
   replace H : (if t222 = true then (some true) else (some false)) = some r := H
   have A13 := Ak A130
   clear A130
   by_cases c14 : t222 = true
   ·(try subst c14)
    have H1 : (some true) = some r := by rw [if_pos rfl] at H; exact H
    clear H
    have H := H1
    clear H1
    obtain rfl := Option.some.inj H
    go_enter Tryd.func4, Tryd.ntmps4
    try go_wp2_with (first | ((with_reducible refine gate_dst (N := 1) rfl ?_); refine Qk 1 #[.int .i64 a0_0, .int .i64 a0_1, .slice A0_2 l0_2.length c0_2] 38 ?_; intro gb202 hg w15 hbox hb; have n0_ := Ak (below_step (Qb HB.out) hb); have n1_ := Ak (hbox); have n2_ := Ak ((Qp hg HB.out : w.heap.size ≤ gb202)); have n3_ := Ak ((Qp hg HB.out : w.heap.size ≤ gb202)); clear HB; have HB := n0_; have BK202 := n1_; have GW202 := n2_; have GE202 := n3_; clear n0_ n1_ n2_ n3_; clear hb hbox hg; obtain ⟨hcz16_0, hcz16_1, hcz16_2⟩ := Qu3 BK202.out; have hfz16_0 := blk_frozen BK202.out 0; have hfz16_1 := blk_frozen BK202.out 1; have hfz16_2 := blk_frozen BK202.out 2) | ((with_reducible refine gate_callee (f := 18) rfl ?_); refine Qj (some 9) Tryd.func18 #[.agg #[.int .i64 a0_0, .int .i64 a0_1, .slice A0_2 l0_2.length c0_2], .int .i64 1048576] ?_; (with_reducible refine (laws_szExpr.calls k a0_0 a0_1 _ _ l0_2 1048576 t203 _ ?side1 ?side2 A2.out).mono ?_); (case side1 => repeat (first | exact (Kd.C_below HR0_2.out HB.out) | (with_reducible refine Kd.C_alloc ?_ _) | (with_reducible refine Kd.C_drewN ?_ _) | (with_reducible refine Kd.C_drew ?_))); (case side2 => exact HC0_2.out); rintro e w17 ⟨rfl, hb⟩; refine ⟨_, rfl, ?_⟩; have n0_ := Ak (Qm BK202.out hb); have n1_ := Ak (below_step (Qb HB.out) hb); clear BK202 HB; have BK202 := n0_; have HB := n1_; clear n0_ n1_; (try clear hb); (try clear hb2); (try clear hk); (try clear hi); obtain ⟨hcz18_0, hcz18_1, hcz18_2⟩ := Qu3 BK202.out; have hfz18_0 := blk_frozen BK202.out 0; have hfz18_1 := blk_frozen BK202.out 1; have hfz18_2 := blk_frozen BK202.out 2) | ((with_reducible refine gate_callee (f := 20) rfl ?_); refine Qj (some 13) Tryd.func20 #[.agg #[.int .i64 a0_0, .int .i64 a0_1, .slice A0_2 l0_2.length c0_2]] ?_; (with_reducible refine (laws_toExpr.calls k a0_0 a0_1 _ _ l0_2 t204 t205 t206 _ ?side1 ?side2 A7.out).mono ?_); (case side1 => repeat (first | exact (Kd.C_below HR0_2.out HB.out) | (with_reducible refine Kd.C_alloc ?_ _) | (with_reducible refine Kd.C_drewN ?_ _) | (with_reducible refine Kd.C_drew ?_))); (case side2 => exact HC0_2.out); rintro e w19 ⟨v207, rfl, ho0, hb⟩; refine ⟨_, rfl, ?_⟩; have n0_ := Ak (Kd.R_lower ho0 (below_size (Qb HB.out))); have n1_ := Ak (Qm BK202.out hb); have n2_ := Ak (below_step (Qb HB.out) hb); clear BK202 HB; have HO208 := n0_; have BK202 := n1_; have HB := n2_; clear n0_ n1_ n2_; (try clear hb); (try clear hb2); (try clear hk); (try clear hi); (try clear ho0); obtain ⟨Ao20, co20, eo20⟩ := Kd.R_slice HO208.out; subst eo20) | ((with_reducible refine gate_callee (f := 19) rfl ?_); refine Qj (some 14) Tryd.func19 #[.agg #[.int .i64 t204, .int .i64 t205, .slice Ao20 t206.length co20]] ?_; (with_reducible refine (spec_FormatExpr.calls k t204 t205 _ _ t206 t209 _ ?side1 ?side2 A8.out).mono ?_); (case side1 => repeat (first | exact (Kd.R_reads' HO208.out).2.2 | (with_reducible refine Kd.C_alloc ?_ _) | (with_reducible refine Kd.C_drewN ?_ _) | (with_reducible refine Kd.C_drew ?_))); (case side2 => exact (Kd.R_reads' HO208.out).2.1); rintro e w21 ⟨rfl, hb⟩; refine ⟨_, rfl, ?_⟩; have n0_ := Ak (Kd.R_below (Qc HO208.out) hb); have n1_ := Ak (Qm BK202.out hb); have n2_ := Ak (below_step (Qb HB.out) hb); clear HO208 BK202 HB; have HO208 := n0_; have BK202 := n1_; have HB := n2_; clear n0_ n1_ n2_; (try clear hb); (try clear hb2); (try clear hk); (try clear hi); obtain ⟨hcz22_0, hcz22_1, hcz22_2⟩ := Qu3 BK202.out; have hfz22_0 := blk_frozen BK202.out 0; have hfz22_1 := blk_frozen BK202.out 1; have hfz22_2 := blk_frozen BK202.out 2) | ((with_reducible refine gate_callee (f := 20) rfl ?_); refine Qj (some 16) Tryd.func20 #[.agg #[.int .i64 a0_0, .int .i64 a0_1, .slice A0_2 l0_2.length c0_2]] ?_; (with_reducible refine (laws_toExpr.calls k a0_0 a0_1 _ _ l0_2 t210 t211 t212 _ ?side1 ?side2 A9.out).mono ?_); (case side1 => repeat (first | exact (Kd.C_below HR0_2.out HB.out) | (with_reducible refine Kd.C_alloc ?_ _) | (with_reducible refine Kd.C_drewN ?_ _) | (with_reducible refine Kd.C_drew ?_))); (case side2 => exact HC0_2.out); rintro e w23 ⟨v213, rfl, ho0, hb⟩; refine ⟨_, rfl, ?_⟩; have n0_ := Ak (Kd.R_elder' (Qc HO208.out) (Kd.R_base ho0) hb); have n1_ := Ak (Kd.R_lower (Kd.R_new' ho0 (Kd.R_lt (Qc HO208.out))) (below_size (Qb HB.out))); have n2_ := Ak (Qm BK202.out hb); have n3_ := Ak (below_step (Qb HB.out) hb); clear HO208 BK202 HB; have HO208 := n0_; have HO214 := n1_; have BK202 := n2_; have HB := n3_; clear n0_ n1_ n2_ n3_; (try clear hb); (try clear hb2); (try clear hk); (try clear hi); (try clear ho0)) | ((with_reducible refine gate_dst (N := 5) rfl ?_); refine Qk 5 #[.int .i64 0, .int .i64 0, .slice none 0 0] 25 ?_; intro gb215 hg w24 hbox hb; have n0_ := Ak (Kd.R_below (Kd.R_elderB (Qc HO208.out) gb215 (Nat.le_of_eq hg.symm)) hb); have n1_ := Ak (Kd.R_below (Kd.R_elderB (Qc HO214.out) gb215 (Nat.le_of_eq hg.symm)) hb); have n2_ := Ak (Qm BK202.out hb); have n3_ := Ak (below_step (Qb HB.out) hb); have n4_ := Ak (hbox); have n5_ := Ak ((Qp hg HB.out : w.heap.size ≤ gb215)); have n6_ := Ak ((Qp hg HB.out : w.heap.size ≤ gb215)); have n7_ := Ak ((by rw [hg]; exact Nat.ne_of_lt (Qn BK202.out) : gb202 ≠ gb215)); have n8_ := Ak ((by rw [hg]; exact Nat.ne_of_gt (Qn BK202.out) : gb215 ≠ gb202)); clear HO208 HO214 BK202 HB; have HO208 := n0_; have HO214 := n1_; have BK202 := n2_; have HB := n3_; have BK215 := n4_; have GW215 := n5_; have GE215 := n6_; have NB202_215 := n7_; have NB215_202 := n8_; clear n0_ n1_ n2_ n3_ n4_ n5_ n6_ n7_ n8_; clear hb hbox hg; have hnb25 := NB215_202.out; have hnc25 := NB202_215.out; obtain ⟨hcz26_0, hcz26_1, hcz26_2, hfz26_0, hfz26_1, hfz26_2⟩ := Qv3 BK215.out; obtain ⟨Ao27, co27, eo27⟩ := Kd.R_slice HO214.out; subst eo27) | ((with_reducible refine gate_callee (f := 11) rfl ?_); refine Qj (some 18) Tryd.func11 #[.agg #[.int .i64 t210, .int .i64 t211, .slice Ao27 t212.length co27]] ?_; (with_reducible refine (impl_FormatExpr.calls k t210 t211 _ _ t212 t216 _ ?side1 ?side2 ?side3 A10.out).mono ?_); (case side1 => refine (Kd.R_reads' (e := 25) (base := w.heap.size) (ok := fun k_ => ((True ∧ some k_ ≠ (.slice Ao20 t206.length co20 : Value).ownBlock) ∧ k_ ≠ gb215)) (n := t212.length) (c := co27) ?_).2.2; exact (by refine Qf ?_; exact (Kd.R_mono (Kd.R_far (p := ⟨gb215, 2, none⟩) (Kd.R_far (p := ⟨gb215, 1, none⟩) (Kd.R_far (p := ⟨gb215, 0, none⟩) (Kd.R_mono HO214.out (fun k_ hk => (⟨hk, hk.2⟩ : _ ∧ k_ ≠ gb215))) (fun _ hk => hk.2) (.int .i64 t210)) (fun _ hk => hk.2) (.int .i64 t211)) (fun _ hk => hk.2) (.slice Ao27 t212.length co27)) (fun _ h_ => h_.1)))); (case side2 => exact (Kd.R_reads' HO214.out).2.1); (case side3 => exact ⟨hL.out.on (Qb HB.out)⟩); rintro e w28 ⟨rfl, hb⟩; refine ⟨_, rfl, ?_⟩; have n0_ := Ak (Kd.R_below (by refine Qf ?_; exact (Kd.R_mono (Kd.R_far (p := ⟨gb215, 2, none⟩) (Kd.R_far (p := ⟨gb215, 1, none⟩) (Kd.R_far (p := ⟨gb215, 0, none⟩) (Kd.R_mono HO208.out (fun k_ hk => (⟨hk, hk.2⟩ : _ ∧ k_ ≠ gb215))) (fun _ hk => hk.2) (.int .i64 t210)) (fun _ hk => hk.2) (.int .i64 t211)) (fun _ hk => hk.2) (.slice Ao27 t212.length co27)) (fun _ h_ => h_.1))) hb); have n1_ := Ak (Kd.R_below (by refine Qf ?_; exact (Kd.R_mono (Kd.R_far (p := ⟨gb215, 2, none⟩) (Kd.R_far (p := ⟨gb215, 1, none⟩) (Kd.R_far (p := ⟨gb215, 0, none⟩) (Kd.R_mono HO214.out (fun k_ hk => (⟨hk, hk.2⟩ : _ ∧ k_ ≠ gb215))) (fun _ hk => hk.2) (.int .i64 t210)) (fun _ hk => hk.2) (.int .i64 t211)) (fun _ hk => hk.2) (.slice Ao27 t212.length co27)) (fun _ h_ => h_.1))) hb); have n2_ := Ak (blk_below (g := gb202) (o := .cells #[.int .i64 a0_0, .int .i64 a0_1, .slice A0_2 l0_2.length c0_2] 38 (0, 0)) (by refine Qe ?_; refine blk_far ?_ NB202_215.out _; refine Qe ?_; refine blk_far ?_ NB202_215.out _; refine Qe ?_; refine blk_far ?_ NB202_215.out _; exact Qa BK202.out) hb); have n3_ := Ak (blk_below (g := gb215) (o := .cells #[.int .i64 t210, .int .i64 t211, .slice Ao27 t212.length co27] 25 (0, 0)) (by refine Qe ?_; refine blk_put (cs := #[.int .i64 t210, .int .i64 t211, .slice none 0 0]) ?_ 2 _ rfl; refine Qe ?_; refine blk_put (cs := #[.int .i64 t210, .int .i64 0, .slice none 0 0]) ?_ 1 _ rfl; refine Qe ?_; refine blk_put (cs := #[.int .i64 0, .int .i64 0, .slice none 0 0]) ?_ 0 _ rfl; exact Qa BK215.out) hb); have n4_ := Ak (below_step (Qb HB.out) hb); clear HO208 HO214 BK202 BK215 HB; have HO208 := n0_; have HO214 := n1_; have BK202 := n2_; have BK215 := n3_; have HB := n4_; clear n0_ n1_ n2_ n3_ n4_; (try clear hb); (try clear hb2); (try clear hk); (try clear hi)))
    have n0_ := Ak (Kd.R_drew HO208.out)
    have n1_ := Ak (Kd.R_drew HO214.out)
    have n2_ := Ak (blk_drew BK202.out)
    have n3_ := Ak (blk_drew BK215.out)
    have n4_ := Ak (below_drew1 HB.out)
    clear HO208 HO214 BK202 BK215 HB
    have HO208 := n0_
    have HO214 := n1_
    have BK202 := n2_
    have BK215 := n3_
    have HB := n4_
    clear n0_ n1_ n2_ n3_ n4_
    refine start_ (n := 5) (S := fun w' => w'.cell? ⟨gb215, 0, none⟩ = some (.int .i64 t210) ∧ w'.cell? ⟨gb215, 1, none⟩ = some (.int .i64 t211) ∧ w'.cell? ⟨gb215, 2, none⟩ = some (.slice Ao27 t212.length co27) ∧ w'.cell? ⟨gb202, 0, none⟩ = some (.int .i64 a0_0) ∧ w'.cell? ⟨gb202, 1, none⟩ = some (.int .i64 a0_1) ∧ w'.cell? ⟨gb202, 2, none⟩ = some (.slice A0_2 l0_2.length c0_2)) (ds := []) #[false, false, false, false, false] (by kernel_rfl) rfl rfl ⟨(blk_cell BK215.out 0).trans rfl, (blk_cell BK215.out 1).trans rfl, (blk_cell BK215.out 2).trans rfl, (blk_cell BK202.out 0).trans rfl, (blk_cell BK202.out 1).trans rfl, (blk_cell BK202.out 2).trans rfl⟩ (fun hHeld => ?_)
    generalize w28.drew = w29 at HO208 HO214 BK202 BK215 HB hHeld ⊢
    refine take_ (i := 0) (N := some 22) (v := ?_) (a' := ?_) #[true, false, false, false, false] rfl rfl (by kernel_rfl) (fun _ _ _ h => h) (Or.inl ⟨by rfl, ?_⟩) hHeld ?_ ?_
    rotate_left
    ·rintro w' ⟨s0, s1, s2, s3, s4, s5⟩
     go_simp
     with_reducible rfl
    rotate_left
    ·simp only [Act.put, List.setIfInBounds_toArray, List.set_cons_zero, List.set_cons_succ, i64_w, i32_w]
     rfl
    refine take_ (i := 1) (N := some 23) (v := ?_) (a' := ?_) #[true, true, false, false, false] rfl rfl (by kernel_rfl) (fun _ _ _ h => h) (Or.inl ⟨by rfl, ?_⟩) hHeld ?_ ?_
    rotate_left
    ·rintro w' ⟨s0, s1, s2, s3, s4, s5⟩
     go_simp
     with_reducible rfl
    rotate_left
    ·simp only [Act.put, List.setIfInBounds_toArray, List.set_cons_zero, List.set_cons_succ, i64_w, i32_w]
     rfl
    refine one_ (i := 2) (N := some 24) #[true, true, true, false, false] rfl rfl (by kernel_rfl) (by decide) (fun K hK => ?_)
    refine goes_ Tryd.func20 (by kernel_rfl) rfl #[.agg #[.int .i64 a0_0, .int .i64 a0_1, .slice A0_2 l0_2.length c0_2]] (by rfl) rfl rfl (by (try simp only [List.map_toArray, List.map_cons, List.map_nil]); first | done | rfl | (simp only [List.length_drop, List.length_take]; rfl)) ?_
    with_reducible refine (laws_toExpr.calls k a0_0 a0_1 _ _ l0_2 t217 t218 t219 _ ?side1 ?side2 A12.out).mono ?_
    (case side1 => repeat (first | exact (Kd.C_below HR0_2.out HB.out) | (with_reducible refine Kd.C_alloc ?_ _) | (with_reducible refine Kd.C_drewN ?_ _) | (with_reducible refine Kd.C_drew ?_)))
    (case side2 => exact HC0_2.out)
    rintro e w30 ⟨v220, rfl, ho0, hb⟩
    refine ⟨_, rfl, ?_⟩
    have n0_ := Ak (Kd.R_elder' (Qc HO208.out) (Kd.R_base ho0) hb)
    have n1_ := Ak (Kd.R_elder' (Qc HO214.out) (Kd.R_base ho0) hb)
    have n2_ := Ak (Kd.R_lower (Kd.R_newB (Kd.R_new' (Kd.R_new' ho0 (Kd.R_lt (Qc HO208.out))) (Kd.R_lt (Qc HO214.out))) (g := gb215) (o := .cells #[.int .i64 t210, .int .i64 t211, .slice Ao27 t212.length co27] 25 (0, 0)) (Qa BK215.out)) (below_size (Qb HB.out)))
    have n3_ := Ak (Qm BK202.out hb)
    have n4_ := Ak (Qm BK215.out hb)
    have n5_ := Ak (below_step (Qb HB.out) hb)
    clear HO208 HO214 BK202 BK215 HB
    have HO208 := n0_
    have HO214 := n1_
    have HO221 := n2_
    have BK202 := n3_
    have BK215 := n4_
    have HB := n5_
    clear n0_ n1_ n2_ n3_ n4_ n5_
    (try clear hb); (try clear hb2); (try clear hk); (try clear hi); (try clear ho0)
    obtain ⟨Ao31, co31, eo31⟩ := Kd.R_slice HO221.out
    (first | subst eo31 | (injection eo31 with f1_ f2_ f3_; have f4_ := f1_.symm; have f5_ := f3_.symm; clear f1_ f2_ f3_; subst f4_; subst f5_))
    refine hK.out _ _ ⟨(blk_cell BK215.out 0).trans rfl, (blk_cell BK215.out 1).trans rfl, (blk_cell BK215.out 2).trans rfl, (blk_cell BK202.out 0).trans rfl, (blk_cell BK202.out 1).trans rfl, (blk_cell BK202.out 2).trans rfl⟩ (fun hHeld => ?_)
    clear hK K
    refine norm_ (a' := ?_) ?_ ?_
    rotate_left
    ·show Act.put _ (some 24) _ = _
     simp only [Act.put, List.setIfInBounds_toArray, List.set_cons_zero, List.set_cons_succ, i64_w, i32_w]
     rfl
    refine one_ (i := 3) (N := some 25) #[true, true, true, true, false] rfl rfl (by kernel_rfl) (by decide) (fun K hK => ?_)
    refine goes_ Tryd.func21 (by kernel_rfl) rfl #[.agg #[.int .i64 t210, .int .i64 t211, .slice Ao27 t212.length co27], .agg #[.int .i64 t217, .int .i64 t218, .slice Ao31 t219.length co31]] (by rfl) rfl rfl (by (try simp only [List.map_toArray, List.map_cons, List.map_nil]); first | done | rfl | (simp only [List.length_drop, List.length_take]; rfl)) ?_
    with_reducible refine (laws_eqExpr.calls k t210 t211 _ _ t212 t217 t218 _ _ t219 true _ ?side1 ?side2 ?side3 ?side4 A13.out).mono ?_
    (case side1 => repeat (first | exact (Kd.R_reads' HO214.out).2.2 | (with_reducible refine Kd.C_alloc ?_ _) | (with_reducible refine Kd.C_drewN ?_ _) | (with_reducible refine Kd.C_drew ?_)))
    (case side2 => exact (Kd.R_reads' HO214.out).2.1)
    (case side3 => repeat (first | exact (Kd.R_reads' HO221.out).2.2 | (with_reducible refine Kd.C_alloc ?_ _) | (with_reducible refine Kd.C_drewN ?_ _) | (with_reducible refine Kd.C_drew ?_)))
    (case side4 => exact (Kd.R_reads' HO221.out).2.1)
    rintro e w32 ⟨rfl, hb⟩
    refine ⟨_, rfl, ?_⟩
    have n0_ := Ak (Kd.R_below (Qc HO208.out) hb)
    have n1_ := Ak (Kd.R_below (Qc HO214.out) hb)
    have n2_ := Ak (Kd.R_below (Qc HO221.out) hb)
    have n3_ := Ak (Qm BK202.out hb)
    have n4_ := Ak (Qm BK215.out hb)
    have n5_ := Ak (below_step (Qb HB.out) hb)
    clear HO208 HO214 HO221 BK202 BK215 HB
    have HO208 := n0_
    have HO214 := n1_
    have HO221 := n2_
    have BK202 := n3_
    have BK215 := n4_
    have HB := n5_
    clear n0_ n1_ n2_ n3_ n4_ n5_
    (try clear hb); (try clear hb2); (try clear hk); (try clear hi)
    refine hK.out _ _ ⟨(blk_cell BK215.out 0).trans rfl, (blk_cell BK215.out 1).trans rfl, (blk_cell BK215.out 2).trans rfl, (blk_cell BK202.out 0).trans rfl, (blk_cell BK202.out 1).trans rfl, (blk_cell BK202.out 2).trans rfl⟩ (fun hHeld => ?_)
    clear hK K
    refine norm_ (a' := ?_) ?_ ?_
    rotate_left
    ·show Act.put _ (some 25) _ = _
     simp only [Act.put, List.setIfInBounds_toArray, List.set_cons_zero, List.set_cons_succ, i64_w, i32_w]
     rfl
    refine pure_ (i := 4) (N := some 26) (v := ?_) (a' := ?_) #[true, true, true, true, true] rfl rfl (by kernel_rfl) (fun _ _ _ h => h) (Or.inl ⟨by rfl, ?_⟩) ?_ ?_
    rotate_left
    ·intro w'
     go_simp
     with_reducible rfl
    rotate_left
    ·simp only [Act.put, List.setIfInBounds_toArray, List.set_cons_zero, List.set_cons_succ, i64_w, i32_w]
     rfl
    refine done_ (by kernel_rfl) ?_
    try go_wp2
    go_ret
    exact ⟨Qh, Qb HB.out⟩
   ·replace c14 := Bool.eq_false_iff.mpr c14
    (try subst c14)
    have H1 : (some false) = some r := by rw [if_neg (show ¬ (false = true) by decide)] at H; exact H
    clear H
    have H := H1
    clear H1
    obtain rfl := Option.some.inj H
    go_enter Tryd.func4, Tryd.ntmps4
    try go_wp2_with (first | ((with_reducible refine gate_dst (N := 1) rfl ?_); refine Qk 1 #[.int .i64 a0_0, .int .i64 a0_1, .slice A0_2 l0_2.length c0_2] 38 ?_; intro gb202 hg w33 hbox hb; have n0_ := Ak (below_step (Qb HB.out) hb); have n1_ := Ak (hbox); have n2_ := Ak ((Qp hg HB.out : w.heap.size ≤ gb202)); have n3_ := Ak ((Qp hg HB.out : w.heap.size ≤ gb202)); clear HB; have HB := n0_; have BK202 := n1_; have GW202 := n2_; have GE202 := n3_; clear n0_ n1_ n2_ n3_; clear hb hbox hg; obtain ⟨hcz34_0, hcz34_1, hcz34_2⟩ := Qu3 BK202.out; have hfz34_0 := blk_frozen BK202.out 0; have hfz34_1 := blk_frozen BK202.out 1; have hfz34_2 := blk_frozen BK202.out 2) | ((with_reducible refine gate_callee (f := 18) rfl ?_); refine Qj (some 9) Tryd.func18 #[.agg #[.int .i64 a0_0, .int .i64 a0_1, .slice A0_2 l0_2.length c0_2], .int .i64 1048576] ?_; (with_reducible refine (laws_szExpr.calls k a0_0 a0_1 _ _ l0_2 1048576 t203 _ ?side1 ?side2 A2.out).mono ?_); (case side1 => repeat (first | exact (Kd.C_below HR0_2.out HB.out) | (with_reducible refine Kd.C_alloc ?_ _) | (with_reducible refine Kd.C_drewN ?_ _) | (with_reducible refine Kd.C_drew ?_))); (case side2 => exact HC0_2.out); rintro e w35 ⟨rfl, hb⟩; refine ⟨_, rfl, ?_⟩; have n0_ := Ak (Qm BK202.out hb); have n1_ := Ak (below_step (Qb HB.out) hb); clear BK202 HB; have BK202 := n0_; have HB := n1_; clear n0_ n1_; (try clear hb); (try clear hb2); (try clear hk); (try clear hi); obtain ⟨hcz36_0, hcz36_1, hcz36_2⟩ := Qu3 BK202.out; have hfz36_0 := blk_frozen BK202.out 0; have hfz36_1 := blk_frozen BK202.out 1; have hfz36_2 := blk_frozen BK202.out 2) | ((with_reducible refine gate_callee (f := 20) rfl ?_); refine Qj (some 13) Tryd.func20 #[.agg #[.int .i64 a0_0, .int .i64 a0_1, .slice A0_2 l0_2.length c0_2]] ?_; (with_reducible refine (laws_toExpr.calls k a0_0 a0_1 _ _ l0_2 t204 t205 t206 _ ?side1 ?side2 A7.out).mono ?_); (case side1 => repeat (first | exact (Kd.C_below HR0_2.out HB.out) | (with_reducible refine Kd.C_alloc ?_ _) | (with_reducible refine Kd.C_drewN ?_ _) | (with_reducible refine Kd.C_drew ?_))); (case side2 => exact HC0_2.out); rintro e w37 ⟨v207, rfl, ho0, hb⟩; refine ⟨_, rfl, ?_⟩; have n0_ := Ak (Kd.R_lower ho0 (below_size (Qb HB.out))); have n1_ := Ak (Qm BK202.out hb); have n2_ := Ak (below_step (Qb HB.out) hb); clear BK202 HB; have HO208 := n0_; have BK202 := n1_; have HB := n2_; clear n0_ n1_ n2_; (try clear hb); (try clear hb2); (try clear hk); (try clear hi); (try clear ho0); obtain ⟨Ao38, co38, eo38⟩ := Kd.R_slice HO208.out; subst eo38) | ((with_reducible refine gate_callee (f := 19) rfl ?_); refine Qj (some 14) Tryd.func19 #[.agg #[.int .i64 t204, .int .i64 t205, .slice Ao38 t206.length co38]] ?_; (with_reducible refine (spec_FormatExpr.calls k t204 t205 _ _ t206 t209 _ ?side1 ?side2 A8.out).mono ?_); (case side1 => repeat (first | exact (Kd.R_reads' HO208.out).2.2 | (with_reducible refine Kd.C_alloc ?_ _) | (with_reducible refine Kd.C_drewN ?_ _) | (with_reducible refine Kd.C_drew ?_))); (case side2 => exact (Kd.R_reads' HO208.out).2.1); rintro e w39 ⟨rfl, hb⟩; refine ⟨_, rfl, ?_⟩; have n0_ := Ak (Kd.R_below (Qc HO208.out) hb); have n1_ := Ak (Qm BK202.out hb); have n2_ := Ak (below_step (Qb HB.out) hb); clear HO208 BK202 HB; have HO208 := n0_; have BK202 := n1_; have HB := n2_; clear n0_ n1_ n2_; (try clear hb); (try clear hb2); (try clear hk); (try clear hi); obtain ⟨hcz40_0, hcz40_1, hcz40_2⟩ := Qu3 BK202.out; have hfz40_0 := blk_frozen BK202.out 0; have hfz40_1 := blk_frozen BK202.out 1; have hfz40_2 := blk_frozen BK202.out 2) | ((with_reducible refine gate_callee (f := 20) rfl ?_); refine Qj (some 16) Tryd.func20 #[.agg #[.int .i64 a0_0, .int .i64 a0_1, .slice A0_2 l0_2.length c0_2]] ?_; (with_reducible refine (laws_toExpr.calls k a0_0 a0_1 _ _ l0_2 t210 t211 t212 _ ?side1 ?side2 A9.out).mono ?_); (case side1 => repeat (first | exact (Kd.C_below HR0_2.out HB.out) | (with_reducible refine Kd.C_alloc ?_ _) | (with_reducible refine Kd.C_drewN ?_ _) | (with_reducible refine Kd.C_drew ?_))); (case side2 => exact HC0_2.out); rintro e w41 ⟨v213, rfl, ho0, hb⟩; refine ⟨_, rfl, ?_⟩; have n0_ := Ak (Kd.R_elder' (Qc HO208.out) (Kd.R_base ho0) hb); have n1_ := Ak (Kd.R_lower (Kd.R_new' ho0 (Kd.R_lt (Qc HO208.out))) (below_size (Qb HB.out))); have n2_ := Ak (Qm BK202.out hb); have n3_ := Ak (below_step (Qb HB.out) hb); clear HO208 BK202 HB; have HO208 := n0_; have HO214 := n1_; have BK202 := n2_; have HB := n3_; clear n0_ n1_ n2_ n3_; (try clear hb); (try clear hb2); (try clear hk); (try clear hi); (try clear ho0)) | ((with_reducible refine gate_dst (N := 5) rfl ?_); refine Qk 5 #[.int .i64 0, .int .i64 0, .slice none 0 0] 25 ?_; intro gb215 hg w42 hbox hb; have n0_ := Ak (Kd.R_below (Kd.R_elderB (Qc HO208.out) gb215 (Nat.le_of_eq hg.symm)) hb); have n1_ := Ak (Kd.R_below (Kd.R_elderB (Qc HO214.out) gb215 (Nat.le_of_eq hg.symm)) hb); have n2_ := Ak (Qm BK202.out hb); have n3_ := Ak (below_step (Qb HB.out) hb); have n4_ := Ak (hbox); have n5_ := Ak ((Qp hg HB.out : w.heap.size ≤ gb215)); have n6_ := Ak ((Qp hg HB.out : w.heap.size ≤ gb215)); have n7_ := Ak ((by rw [hg]; exact Nat.ne_of_lt (Qn BK202.out) : gb202 ≠ gb215)); have n8_ := Ak ((by rw [hg]; exact Nat.ne_of_gt (Qn BK202.out) : gb215 ≠ gb202)); clear HO208 HO214 BK202 HB; have HO208 := n0_; have HO214 := n1_; have BK202 := n2_; have HB := n3_; have BK215 := n4_; have GW215 := n5_; have GE215 := n6_; have NB202_215 := n7_; have NB215_202 := n8_; clear n0_ n1_ n2_ n3_ n4_ n5_ n6_ n7_ n8_; clear hb hbox hg; have hnb43 := NB215_202.out; have hnc43 := NB202_215.out; obtain ⟨hcz44_0, hcz44_1, hcz44_2, hfz44_0, hfz44_1, hfz44_2⟩ := Qv3 BK215.out; obtain ⟨Ao45, co45, eo45⟩ := Kd.R_slice HO214.out; subst eo45) | ((with_reducible refine gate_callee (f := 11) rfl ?_); refine Qj (some 18) Tryd.func11 #[.agg #[.int .i64 t210, .int .i64 t211, .slice Ao45 t212.length co45]] ?_; (with_reducible refine (impl_FormatExpr.calls k t210 t211 _ _ t212 t216 _ ?side1 ?side2 ?side3 A10.out).mono ?_); (case side1 => refine (Kd.R_reads' (e := 25) (base := w.heap.size) (ok := fun k_ => ((True ∧ some k_ ≠ (.slice Ao38 t206.length co38 : Value).ownBlock) ∧ k_ ≠ gb215)) (n := t212.length) (c := co45) ?_).2.2; exact (by refine Qf ?_; exact (Kd.R_mono (Kd.R_far (p := ⟨gb215, 2, none⟩) (Kd.R_far (p := ⟨gb215, 1, none⟩) (Kd.R_far (p := ⟨gb215, 0, none⟩) (Kd.R_mono HO214.out (fun k_ hk => (⟨hk, hk.2⟩ : _ ∧ k_ ≠ gb215))) (fun _ hk => hk.2) (.int .i64 t210)) (fun _ hk => hk.2) (.int .i64 t211)) (fun _ hk => hk.2) (.slice Ao45 t212.length co45)) (fun _ h_ => h_.1)))); (case side2 => exact (Kd.R_reads' HO214.out).2.1); (case side3 => exact ⟨hL.out.on (Qb HB.out)⟩); rintro e w46 ⟨rfl, hb⟩; refine ⟨_, rfl, ?_⟩; have n0_ := Ak (Kd.R_below (by refine Qf ?_; exact (Kd.R_mono (Kd.R_far (p := ⟨gb215, 2, none⟩) (Kd.R_far (p := ⟨gb215, 1, none⟩) (Kd.R_far (p := ⟨gb215, 0, none⟩) (Kd.R_mono HO208.out (fun k_ hk => (⟨hk, hk.2⟩ : _ ∧ k_ ≠ gb215))) (fun _ hk => hk.2) (.int .i64 t210)) (fun _ hk => hk.2) (.int .i64 t211)) (fun _ hk => hk.2) (.slice Ao45 t212.length co45)) (fun _ h_ => h_.1))) hb); have n1_ := Ak (Kd.R_below (by refine Qf ?_; exact (Kd.R_mono (Kd.R_far (p := ⟨gb215, 2, none⟩) (Kd.R_far (p := ⟨gb215, 1, none⟩) (Kd.R_far (p := ⟨gb215, 0, none⟩) (Kd.R_mono HO214.out (fun k_ hk => (⟨hk, hk.2⟩ : _ ∧ k_ ≠ gb215))) (fun _ hk => hk.2) (.int .i64 t210)) (fun _ hk => hk.2) (.int .i64 t211)) (fun _ hk => hk.2) (.slice Ao45 t212.length co45)) (fun _ h_ => h_.1))) hb); have n2_ := Ak (blk_below (g := gb202) (o := .cells #[.int .i64 a0_0, .int .i64 a0_1, .slice A0_2 l0_2.length c0_2] 38 (0, 0)) (by refine Qe ?_; refine blk_far ?_ NB202_215.out _; refine Qe ?_; refine blk_far ?_ NB202_215.out _; refine Qe ?_; refine blk_far ?_ NB202_215.out _; exact Qa BK202.out) hb); have n3_ := Ak (blk_below (g := gb215) (o := .cells #[.int .i64 t210, .int .i64 t211, .slice Ao45 t212.length co45] 25 (0, 0)) (by refine Qe ?_; refine blk_put (cs := #[.int .i64 t210, .int .i64 t211, .slice none 0 0]) ?_ 2 _ rfl; refine Qe ?_; refine blk_put (cs := #[.int .i64 t210, .int .i64 0, .slice none 0 0]) ?_ 1 _ rfl; refine Qe ?_; refine blk_put (cs := #[.int .i64 0, .int .i64 0, .slice none 0 0]) ?_ 0 _ rfl; exact Qa BK215.out) hb); have n4_ := Ak (below_step (Qb HB.out) hb); clear HO208 HO214 BK202 BK215 HB; have HO208 := n0_; have HO214 := n1_; have BK202 := n2_; have BK215 := n3_; have HB := n4_; clear n0_ n1_ n2_ n3_ n4_; (try clear hb); (try clear hb2); (try clear hk); (try clear hi)))
    have n0_ := Ak (Kd.R_drew HO208.out)
    have n1_ := Ak (Kd.R_drew HO214.out)
    have n2_ := Ak (blk_drew BK202.out)
    have n3_ := Ak (blk_drew BK215.out)
    have n4_ := Ak (below_drew1 HB.out)
    clear HO208 HO214 BK202 BK215 HB
    have HO208 := n0_
    have HO214 := n1_
    have BK202 := n2_
    have BK215 := n3_
    have HB := n4_
    clear n0_ n1_ n2_ n3_ n4_
    refine start_ (n := 5) (S := fun w' => w'.cell? ⟨gb215, 0, none⟩ = some (.int .i64 t210) ∧ w'.cell? ⟨gb215, 1, none⟩ = some (.int .i64 t211) ∧ w'.cell? ⟨gb215, 2, none⟩ = some (.slice Ao45 t212.length co45) ∧ w'.cell? ⟨gb202, 0, none⟩ = some (.int .i64 a0_0) ∧ w'.cell? ⟨gb202, 1, none⟩ = some (.int .i64 a0_1) ∧ w'.cell? ⟨gb202, 2, none⟩ = some (.slice A0_2 l0_2.length c0_2)) (ds := []) #[false, false, false, false, false] (by kernel_rfl) rfl rfl ⟨(blk_cell BK215.out 0).trans rfl, (blk_cell BK215.out 1).trans rfl, (blk_cell BK215.out 2).trans rfl, (blk_cell BK202.out 0).trans rfl, (blk_cell BK202.out 1).trans rfl, (blk_cell BK202.out 2).trans rfl⟩ (fun hHeld => ?_)
    generalize w46.drew = w47 at HO208 HO214 BK202 BK215 HB hHeld ⊢
    refine take_ (i := 0) (N := some 22) (v := ?_) (a' := ?_) #[true, false, false, false, false] rfl rfl (by kernel_rfl) (fun _ _ _ h => h) (Or.inl ⟨by rfl, ?_⟩) hHeld ?_ ?_
    rotate_left
    ·rintro w' ⟨s0, s1, s2, s3, s4, s5⟩
     go_simp
     with_reducible rfl
    rotate_left
    ·simp only [Act.put, List.setIfInBounds_toArray, List.set_cons_zero, List.set_cons_succ, i64_w, i32_w]
     rfl
    refine take_ (i := 1) (N := some 23) (v := ?_) (a' := ?_) #[true, true, false, false, false] rfl rfl (by kernel_rfl) (fun _ _ _ h => h) (Or.inl ⟨by rfl, ?_⟩) hHeld ?_ ?_
    rotate_left
    ·rintro w' ⟨s0, s1, s2, s3, s4, s5⟩
     go_simp
     with_reducible rfl
    rotate_left
    ·simp only [Act.put, List.setIfInBounds_toArray, List.set_cons_zero, List.set_cons_succ, i64_w, i32_w]
     rfl
    refine one_ (i := 2) (N := some 24) #[true, true, true, false, false] rfl rfl (by kernel_rfl) (by decide) (fun K hK => ?_)
    refine goes_ Tryd.func20 (by kernel_rfl) rfl #[.agg #[.int .i64 a0_0, .int .i64 a0_1, .slice A0_2 l0_2.length c0_2]] (by rfl) rfl rfl (by (try simp only [List.map_toArray, List.map_cons, List.map_nil]); first | done | rfl | (simp only [List.length_drop, List.length_take]; rfl)) ?_
    with_reducible refine (laws_toExpr.calls k a0_0 a0_1 _ _ l0_2 t217 t218 t219 _ ?side1 ?side2 A12.out).mono ?_
    (case side1 => repeat (first | exact (Kd.C_below HR0_2.out HB.out) | (with_reducible refine Kd.C_alloc ?_ _) | (with_reducible refine Kd.C_drewN ?_ _) | (with_reducible refine Kd.C_drew ?_)))
    (case side2 => exact HC0_2.out)
    rintro e w48 ⟨v220, rfl, ho0, hb⟩
    refine ⟨_, rfl, ?_⟩
    have n0_ := Ak (Kd.R_elder' (Qc HO208.out) (Kd.R_base ho0) hb)
    have n1_ := Ak (Kd.R_elder' (Qc HO214.out) (Kd.R_base ho0) hb)
    have n2_ := Ak (Kd.R_lower (Kd.R_newB (Kd.R_new' (Kd.R_new' ho0 (Kd.R_lt (Qc HO208.out))) (Kd.R_lt (Qc HO214.out))) (g := gb215) (o := .cells #[.int .i64 t210, .int .i64 t211, .slice Ao45 t212.length co45] 25 (0, 0)) (Qa BK215.out)) (below_size (Qb HB.out)))
    have n3_ := Ak (Qm BK202.out hb)
    have n4_ := Ak (Qm BK215.out hb)
    have n5_ := Ak (below_step (Qb HB.out) hb)
    clear HO208 HO214 BK202 BK215 HB
    have HO208 := n0_
    have HO214 := n1_
    have HO221 := n2_
    have BK202 := n3_
    have BK215 := n4_
    have HB := n5_
    clear n0_ n1_ n2_ n3_ n4_ n5_
    (try clear hb); (try clear hb2); (try clear hk); (try clear hi); (try clear ho0)
    obtain ⟨Ao49, co49, eo49⟩ := Kd.R_slice HO221.out
    (first | subst eo49 | (injection eo49 with f1_ f2_ f3_; have f4_ := f1_.symm; have f5_ := f3_.symm; clear f1_ f2_ f3_; subst f4_; subst f5_))
    refine hK.out _ _ ⟨(blk_cell BK215.out 0).trans rfl, (blk_cell BK215.out 1).trans rfl, (blk_cell BK215.out 2).trans rfl, (blk_cell BK202.out 0).trans rfl, (blk_cell BK202.out 1).trans rfl, (blk_cell BK202.out 2).trans rfl⟩ (fun hHeld => ?_)
    clear hK K
    refine norm_ (a' := ?_) ?_ ?_
    rotate_left
    ·show Act.put _ (some 24) _ = _
     simp only [Act.put, List.setIfInBounds_toArray, List.set_cons_zero, List.set_cons_succ, i64_w, i32_w]
     rfl
    refine one_ (i := 3) (N := some 25) #[true, true, true, true, false] rfl rfl (by kernel_rfl) (by decide) (fun K hK => ?_)
    refine goes_ Tryd.func21 (by kernel_rfl) rfl #[.agg #[.int .i64 t210, .int .i64 t211, .slice Ao45 t212.length co45], .agg #[.int .i64 t217, .int .i64 t218, .slice Ao49 t219.length co49]] (by rfl) rfl rfl (by (try simp only [List.map_toArray, List.map_cons, List.map_nil]); first | done | rfl | (simp only [List.length_drop, List.length_take]; rfl)) ?_
    with_reducible refine (laws_eqExpr.calls k t210 t211 _ _ t212 t217 t218 _ _ t219 false _ ?side1 ?side2 ?side3 ?side4 A13.out).mono ?_
    (case side1 => repeat (first | exact (Kd.R_reads' HO214.out).2.2 | (with_reducible refine Kd.C_alloc ?_ _) | (with_reducible refine Kd.C_drewN ?_ _) | (with_reducible refine Kd.C_drew ?_)))
    (case side2 => exact (Kd.R_reads' HO214.out).2.1)
    (case side3 => repeat (first | exact (Kd.R_reads' HO221.out).2.2 | (with_reducible refine Kd.C_alloc ?_ _) | (with_reducible refine Kd.C_drewN ?_ _) | (with_reducible refine Kd.C_drew ?_)))
    (case side4 => exact (Kd.R_reads' HO221.out).2.1)
    rintro e w50 ⟨rfl, hb⟩
    refine ⟨_, rfl, ?_⟩
    have n0_ := Ak (Kd.R_below (Qc HO208.out) hb)
    have n1_ := Ak (Kd.R_below (Qc HO214.out) hb)
    have n2_ := Ak (Kd.R_below (Qc HO221.out) hb)
    have n3_ := Ak (Qm BK202.out hb)
    have n4_ := Ak (Qm BK215.out hb)
    have n5_ := Ak (below_step (Qb HB.out) hb)
    clear HO208 HO214 HO221 BK202 BK215 HB
    have HO208 := n0_
    have HO214 := n1_
    have HO221 := n2_
    have BK202 := n3_
    have BK215 := n4_
    have HB := n5_
    clear n0_ n1_ n2_ n3_ n4_ n5_
    (try clear hb); (try clear hb2); (try clear hk); (try clear hi)
    refine hK.out _ _ ⟨(blk_cell BK215.out 0).trans rfl, (blk_cell BK215.out 1).trans rfl, (blk_cell BK215.out 2).trans rfl, (blk_cell BK202.out 0).trans rfl, (blk_cell BK202.out 1).trans rfl, (blk_cell BK202.out 2).trans rfl⟩ (fun hHeld => ?_)
    clear hK K
    refine norm_ (a' := ?_) ?_ ?_
    rotate_left
    ·show Act.put _ (some 25) _ = _
     simp only [Act.put, List.setIfInBounds_toArray, List.set_cons_zero, List.set_cons_succ, i64_w, i32_w]
     rfl
    refine pure_ (i := 4) (N := some 26) (v := ?_) (a' := ?_) #[true, true, true, true, true] rfl rfl (by kernel_rfl) (fun _ _ _ h => h) (Or.inl ⟨by rfl, ?_⟩) ?_ ?_
    rotate_left
    ·intro w'
     go_simp
     with_reducible rfl
    rotate_left
    ·simp only [Act.put, List.setIfInBounds_toArray, List.set_cons_zero, List.set_cons_succ, i64_w, i32_w]
     rfl
    refine done_ (by kernel_rfl) ?_
    try go_wp2
    go_ret
    exact ⟨Qh, Qb HB.out⟩
  ·rw [if_neg c11] at H
   have c11b0 : (t216.toList == t209.toList) = false := beq_eq_false_iff_ne.mpr c11
   have c11b1 : (t216.toList != t209.toList) = true := bne_iff_ne.mpr c11
   obtain rfl := Option.some.inj H
   go_enter Tryd.func4, Tryd.ntmps4
   go_wp2_with (first | ((with_reducible refine gate_dst (N := 1) rfl ?_); refine Qk 1 #[.int .i64 a0_0, .int .i64 a0_1, .slice A0_2 l0_2.length c0_2] 38 ?_; intro gb202 hg w51 hbox hb; have n0_ := Ak (below_step (Qb HB.out) hb); have n1_ := Ak (hbox); have n2_ := Ak ((Qp hg HB.out : w.heap.size ≤ gb202)); have n3_ := Ak ((Qp hg HB.out : w.heap.size ≤ gb202)); clear HB; have HB := n0_; have BK202 := n1_; have GW202 := n2_; have GE202 := n3_; clear n0_ n1_ n2_ n3_; clear hb hbox hg; obtain ⟨hcz52_0, hcz52_1, hcz52_2⟩ := Qu3 BK202.out; have hfz52_0 := blk_frozen BK202.out 0; have hfz52_1 := blk_frozen BK202.out 1; have hfz52_2 := blk_frozen BK202.out 2) | ((with_reducible refine gate_callee (f := 18) rfl ?_); refine Qj (some 9) Tryd.func18 #[.agg #[.int .i64 a0_0, .int .i64 a0_1, .slice A0_2 l0_2.length c0_2], .int .i64 1048576] ?_; (with_reducible refine (laws_szExpr.calls k a0_0 a0_1 _ _ l0_2 1048576 t203 _ ?side1 ?side2 A2.out).mono ?_); (case side1 => repeat (first | exact (Kd.C_below HR0_2.out HB.out) | (with_reducible refine Kd.C_alloc ?_ _) | (with_reducible refine Kd.C_drewN ?_ _) | (with_reducible refine Kd.C_drew ?_))); (case side2 => exact HC0_2.out); rintro e w53 ⟨rfl, hb⟩; refine ⟨_, rfl, ?_⟩; have n0_ := Ak (Qm BK202.out hb); have n1_ := Ak (below_step (Qb HB.out) hb); clear BK202 HB; have BK202 := n0_; have HB := n1_; clear n0_ n1_; (try clear hb); (try clear hb2); (try clear hk); (try clear hi); obtain ⟨hcz54_0, hcz54_1, hcz54_2⟩ := Qu3 BK202.out; have hfz54_0 := blk_frozen BK202.out 0; have hfz54_1 := blk_frozen BK202.out 1; have hfz54_2 := blk_frozen BK202.out 2) | ((with_reducible refine gate_callee (f := 20) rfl ?_); refine Qj (some 13) Tryd.func20 #[.agg #[.int .i64 a0_0, .int .i64 a0_1, .slice A0_2 l0_2.length c0_2]] ?_; (with_reducible refine (laws_toExpr.calls k a0_0 a0_1 _ _ l0_2 t204 t205 t206 _ ?side1 ?side2 A7.out).mono ?_); (case side1 => repeat (first | exact (Kd.C_below HR0_2.out HB.out) | (with_reducible refine Kd.C_alloc ?_ _) | (with_reducible refine Kd.C_drewN ?_ _) | (with_reducible refine Kd.C_drew ?_))); (case side2 => exact HC0_2.out); rintro e w55 ⟨v207, rfl, ho0, hb⟩; refine ⟨_, rfl, ?_⟩; have n0_ := Ak (Kd.R_lower ho0 (below_size (Qb HB.out))); have n1_ := Ak (Qm BK202.out hb); have n2_ := Ak (below_step (Qb HB.out) hb); clear BK202 HB; have HO208 := n0_; have BK202 := n1_; have HB := n2_; clear n0_ n1_ n2_; (try clear hb); (try clear hb2); (try clear hk); (try clear hi); (try clear ho0); obtain ⟨Ao56, co56, eo56⟩ := Kd.R_slice HO208.out; subst eo56) | ((with_reducible refine gate_callee (f := 19) rfl ?_); refine Qj (some 14) Tryd.func19 #[.agg #[.int .i64 t204, .int .i64 t205, .slice Ao56 t206.length co56]] ?_; (with_reducible refine (spec_FormatExpr.calls k t204 t205 _ _ t206 t209 _ ?side1 ?side2 A8.out).mono ?_); (case side1 => repeat (first | exact (Kd.R_reads' HO208.out).2.2 | (with_reducible refine Kd.C_alloc ?_ _) | (with_reducible refine Kd.C_drewN ?_ _) | (with_reducible refine Kd.C_drew ?_))); (case side2 => exact (Kd.R_reads' HO208.out).2.1); rintro e w57 ⟨rfl, hb⟩; refine ⟨_, rfl, ?_⟩; have n0_ := Ak (Kd.R_below (Qc HO208.out) hb); have n1_ := Ak (Qm BK202.out hb); have n2_ := Ak (below_step (Qb HB.out) hb); clear HO208 BK202 HB; have HO208 := n0_; have BK202 := n1_; have HB := n2_; clear n0_ n1_ n2_; (try clear hb); (try clear hb2); (try clear hk); (try clear hi); obtain ⟨hcz58_0, hcz58_1, hcz58_2⟩ := Qu3 BK202.out; have hfz58_0 := blk_frozen BK202.out 0; have hfz58_1 := blk_frozen BK202.out 1; have hfz58_2 := blk_frozen BK202.out 2) | ((with_reducible refine gate_callee (f := 20) rfl ?_); refine Qj (some 16) Tryd.func20 #[.agg #[.int .i64 a0_0, .int .i64 a0_1, .slice A0_2 l0_2.length c0_2]] ?_; (with_reducible refine (laws_toExpr.calls k a0_0 a0_1 _ _ l0_2 t210 t211 t212 _ ?side1 ?side2 A9.out).mono ?_); (case side1 => repeat (first | exact (Kd.C_below HR0_2.out HB.out) | (with_reducible refine Kd.C_alloc ?_ _) | (with_reducible refine Kd.C_drewN ?_ _) | (with_reducible refine Kd.C_drew ?_))); (case side2 => exact HC0_2.out); rintro e w59 ⟨v213, rfl, ho0, hb⟩; refine ⟨_, rfl, ?_⟩; have n0_ := Ak (Kd.R_elder' (Qc HO208.out) (Kd.R_base ho0) hb); have n1_ := Ak (Kd.R_lower (Kd.R_new' ho0 (Kd.R_lt (Qc HO208.out))) (below_size (Qb HB.out))); have n2_ := Ak (Qm BK202.out hb); have n3_ := Ak (below_step (Qb HB.out) hb); clear HO208 BK202 HB; have HO208 := n0_; have HO214 := n1_; have BK202 := n2_; have HB := n3_; clear n0_ n1_ n2_ n3_; (try clear hb); (try clear hb2); (try clear hk); (try clear hi); (try clear ho0)) | ((with_reducible refine gate_dst (N := 5) rfl ?_); refine Qk 5 #[.int .i64 0, .int .i64 0, .slice none 0 0] 25 ?_; intro gb215 hg w60 hbox hb; have n0_ := Ak (Kd.R_below (Kd.R_elderB (Qc HO208.out) gb215 (Nat.le_of_eq hg.symm)) hb); have n1_ := Ak (Kd.R_below (Kd.R_elderB (Qc HO214.out) gb215 (Nat.le_of_eq hg.symm)) hb); have n2_ := Ak (Qm BK202.out hb); have n3_ := Ak (below_step (Qb HB.out) hb); have n4_ := Ak (hbox); have n5_ := Ak ((Qp hg HB.out : w.heap.size ≤ gb215)); have n6_ := Ak ((Qp hg HB.out : w.heap.size ≤ gb215)); have n7_ := Ak ((by rw [hg]; exact Nat.ne_of_lt (Qn BK202.out) : gb202 ≠ gb215)); have n8_ := Ak ((by rw [hg]; exact Nat.ne_of_gt (Qn BK202.out) : gb215 ≠ gb202)); clear HO208 HO214 BK202 HB; have HO208 := n0_; have HO214 := n1_; have BK202 := n2_; have HB := n3_; have BK215 := n4_; have GW215 := n5_; have GE215 := n6_; have NB202_215 := n7_; have NB215_202 := n8_; clear n0_ n1_ n2_ n3_ n4_ n5_ n6_ n7_ n8_; clear hb hbox hg; have hnb61 := NB215_202.out; have hnc61 := NB202_215.out; obtain ⟨hcz62_0, hcz62_1, hcz62_2, hfz62_0, hfz62_1, hfz62_2⟩ := Qv3 BK215.out; obtain ⟨Ao63, co63, eo63⟩ := Kd.R_slice HO214.out; subst eo63) | ((with_reducible refine gate_callee (f := 11) rfl ?_); refine Qj (some 18) Tryd.func11 #[.agg #[.int .i64 t210, .int .i64 t211, .slice Ao63 t212.length co63]] ?_; (with_reducible refine (impl_FormatExpr.calls k t210 t211 _ _ t212 t216 _ ?side1 ?side2 ?side3 A10.out).mono ?_); (case side1 => refine (Kd.R_reads' (e := 25) (base := w.heap.size) (ok := fun k_ => ((True ∧ some k_ ≠ (.slice Ao56 t206.length co56 : Value).ownBlock) ∧ k_ ≠ gb215)) (n := t212.length) (c := co63) ?_).2.2; exact (by refine Qf ?_; exact (Kd.R_mono (Kd.R_far (p := ⟨gb215, 2, none⟩) (Kd.R_far (p := ⟨gb215, 1, none⟩) (Kd.R_far (p := ⟨gb215, 0, none⟩) (Kd.R_mono HO214.out (fun k_ hk => (⟨hk, hk.2⟩ : _ ∧ k_ ≠ gb215))) (fun _ hk => hk.2) (.int .i64 t210)) (fun _ hk => hk.2) (.int .i64 t211)) (fun _ hk => hk.2) (.slice Ao63 t212.length co63)) (fun _ h_ => h_.1)))); (case side2 => exact (Kd.R_reads' HO214.out).2.1); (case side3 => exact ⟨hL.out.on (Qb HB.out)⟩); rintro e w64 ⟨rfl, hb⟩; refine ⟨_, rfl, ?_⟩; have n0_ := Ak (Kd.R_below (by refine Qf ?_; exact (Kd.R_mono (Kd.R_far (p := ⟨gb215, 2, none⟩) (Kd.R_far (p := ⟨gb215, 1, none⟩) (Kd.R_far (p := ⟨gb215, 0, none⟩) (Kd.R_mono HO208.out (fun k_ hk => (⟨hk, hk.2⟩ : _ ∧ k_ ≠ gb215))) (fun _ hk => hk.2) (.int .i64 t210)) (fun _ hk => hk.2) (.int .i64 t211)) (fun _ hk => hk.2) (.slice Ao63 t212.length co63)) (fun _ h_ => h_.1))) hb); have n1_ := Ak (Kd.R_below (by refine Qf ?_; exact (Kd.R_mono (Kd.R_far (p := ⟨gb215, 2, none⟩) (Kd.R_far (p := ⟨gb215, 1, none⟩) (Kd.R_far (p := ⟨gb215, 0, none⟩) (Kd.R_mono HO214.out (fun k_ hk => (⟨hk, hk.2⟩ : _ ∧ k_ ≠ gb215))) (fun _ hk => hk.2) (.int .i64 t210)) (fun _ hk => hk.2) (.int .i64 t211)) (fun _ hk => hk.2) (.slice Ao63 t212.length co63)) (fun _ h_ => h_.1))) hb); have n2_ := Ak (blk_below (g := gb202) (o := .cells #[.int .i64 a0_0, .int .i64 a0_1, .slice A0_2 l0_2.length c0_2] 38 (0, 0)) (by refine Qe ?_; refine blk_far ?_ NB202_215.out _; refine Qe ?_; refine blk_far ?_ NB202_215.out _; refine Qe ?_; refine blk_far ?_ NB202_215.out _; exact Qa BK202.out) hb); have n3_ := Ak (blk_below (g := gb215) (o := .cells #[.int .i64 t210, .int .i64 t211, .slice Ao63 t212.length co63] 25 (0, 0)) (by refine Qe ?_; refine blk_put (cs := #[.int .i64 t210, .int .i64 t211, .slice none 0 0]) ?_ 2 _ rfl; refine Qe ?_; refine blk_put (cs := #[.int .i64 t210, .int .i64 0, .slice none 0 0]) ?_ 1 _ rfl; refine Qe ?_; refine blk_put (cs := #[.int .i64 0, .int .i64 0, .slice none 0 0]) ?_ 0 _ rfl; exact Qa BK215.out) hb); have n4_ := Ak (below_step (Qb HB.out) hb); clear HO208 HO214 BK202 BK215 HB; have HO208 := n0_; have HO214 := n1_; have BK202 := n2_; have BK215 := n3_; have HB := n4_; clear n0_ n1_ n2_ n3_ n4_; (try clear hb); (try clear hb2); (try clear hk); (try clear hi)))
   go_ret
   exact ⟨Qh, Qb HB.out⟩

end Go.Proofs.YtjfgcipbbcplmaaDoor.HFnExactFormatExpr

/- Text for FnCoins: written by a program of this session on the pattern of the kit's print. -/
import Derived.Test.YtffohdlbkigehaaHFnCoinsx0
import Derived.Test.YtffohdlbkigehaaHFnCoinsx1
import Derived.Test.YtffohdlbkigehaaHFnCoinsx2
namespace Go.Proofs.Ytffohdlbkigehaa.HFnCoins
open Go.RowKit Go.Proofs.YtffohdlbkigehaaW.PrintWords Go.Proofs.YtffohdlbkigehaaW.PrintLast Go.Proofs.YtffohdlbkigehaaW.PrintMore
attribute [local go_sem] max2_int min2_int max_two min_two max_three min_three max_four min_four   -- for this text's walks alone
set_option linter.unusedVariables false
set_option linter.unusedSimpArgs false

/-! ### impl_GuessOf: function 43 -/
mutual
def impl_GuessOf.j0 : Nat → List (List Int) → List Int → Bool → Option (Int × Int × Bool)
  | 0, _, _, _ => none
  | k + 1, x0, x1, x23 => if x23 = true then (some (0, 0, false)) else ((slices_ContainsFunc_int_int__impl_GuessOf_1.f x1).bind fun t126 => (if t126 = true then (impl_GuessOf.l0 k x0 x1 (x0.length : Int) 0) else (some ((-1), 0, true))))
def impl_GuessOf.l0 : Nat → List (List Int) → List Int → Int → Int → Option (Int × Int × Bool)
  | 0, _, _, _, _ => none
  | k + 1, x0, x1, x28, x29 => if x29 < x28 then ((some (([1, (-1)] : List Int) : List Int)).bind fun y127 => (impl_GuessOf.l1 k x0 x1 x29 x28 x29 y127 (y127.length : Int) 0)) else (some (0, 0, false))
def impl_GuessOf.l1 : Nat → List (List Int) → List Int → Int → Int → Int → List Int → Int → Int → Option (Int × Int × Bool)
  | 0, _, _, _, _, _, _, _, _ => none
  | k + 1, x0, x1, x7, x28, x29, x32, x33, x34 => if x34 < x33 then (if 0 ≤ x34 then (if x34 < (x32.length : Int) then ((impl_OutcomeOf.f k x0 x7 (rd x32 x34)).bind fun bt131 => ((slices_Equal_int_int.f k bt131.1 x1).bind fun t135 => (if t135 = true then (some (x7, rd x32 x34, true)) else (impl_GuessOf.l1 k x0 x1 x7 x28 x29 x32 x33 (wrap64 (x34 + 1)))))) else (none)) else (none)) else (impl_GuessOf.l0 k x0 x1 x28 (wrap64 (x29 + 1)))
end
def impl_GuessOf.f (k : Nat) (l0 : List (List Int)) (l1 : List Int) : Option (Int × Int × Bool) := (impl_sameLength.f k l0).bind fun t124 => (if t124 = true then (if 0 < (l0.length : Int) then (impl_GuessOf.j0 k l0 l1 ((l1.length : Int) != ((rd_L1 l0 0).length : Int))) else (none)) else (impl_GuessOf.j0 k l0 l1 true))
theorem impl_GuessOf.mono_l : ∀ k, (∀ y0 y1 y2, LeO (impl_GuessOf.j0 k y0 y1 y2) (impl_GuessOf.j0 (k + 1) y0 y1 y2)) ∧ (∀ y0 y1 y2 y3, LeO (impl_GuessOf.l0 k y0 y1 y2 y3) (impl_GuessOf.l0 (k + 1) y0 y1 y2 y3)) ∧ (∀ y0 y1 y2 y3 y4 y5 y6 y7, LeO (impl_GuessOf.l1 k y0 y1 y2 y3 y4 y5 y6 y7) (impl_GuessOf.l1 (k + 1) y0 y1 y2 y3 y4 y5 y6 y7))
  | 0 => ⟨fun _ _ _ r h => by simp [impl_GuessOf.j0] at h, fun _ _ _ _ r h => by simp [impl_GuessOf.l0] at h, fun _ _ _ _ _ _ _ _ r h => by simp [impl_GuessOf.l1] at h⟩
  | k + 1 => by
    obtain ⟨ih0, ih1, ih2⟩ := impl_GuessOf.mono_l k
    refine ⟨?_, ?_, ?_⟩
    · intro y0 y1 y2
      unfold impl_GuessOf.j0
      repeat' first
      | (with_reducible exact ih0 _ _ _)
      | (with_reducible exact ih1 _ _ _ _)
      | (with_reducible exact ih2 _ _ _ _ _ _ _ _)
      | (with_reducible exact impl_OutcomeOf.mono _ _ _ _)
      | (with_reducible exact impl_sameLength.mono _ _)
      | (with_reducible exact slices_Equal_int_int.mono _ _ _)
      | (with_reducible exact LeO.refl _)
      | (with_reducible exact LeO.none _)
      | (with_reducible refine LeO.ite ?_ ?_)
      | (with_reducible refine LeO.bind ?_ (fun _ => ?_))
      | exact ih0 _ _ _
      | exact ih1 _ _ _ _
      | exact ih2 _ _ _ _ _ _ _ _
      | exact impl_OutcomeOf.mono _ _ _ _
      | exact impl_sameLength.mono _ _
      | exact slices_Equal_int_int.mono _ _ _
      | exact LeO.none _
      | refine LeO.ite ?_ ?_
      | refine LeO.bind ?_ (fun _ => ?_)
    · intro y0 y1 y2 y3
      unfold impl_GuessOf.l0
      repeat' first
      | (with_reducible exact ih0 _ _ _)
      | (with_reducible exact ih1 _ _ _ _)
      | (with_reducible exact ih2 _ _ _ _ _ _ _ _)
      | (with_reducible exact impl_OutcomeOf.mono _ _ _ _)
      | (with_reducible exact impl_sameLength.mono _ _)
      | (with_reducible exact slices_Equal_int_int.mono _ _ _)
      | (with_reducible exact LeO.refl _)
      | (with_reducible exact LeO.none _)
      | (with_reducible refine LeO.ite ?_ ?_)
      | (with_reducible refine LeO.bind ?_ (fun _ => ?_))
      | exact ih0 _ _ _
      | exact ih1 _ _ _ _
      | exact ih2 _ _ _ _ _ _ _ _
      | exact impl_OutcomeOf.mono _ _ _ _
      | exact impl_sameLength.mono _ _
      | exact slices_Equal_int_int.mono _ _ _
      | exact LeO.none _
      | refine LeO.ite ?_ ?_
      | refine LeO.bind ?_ (fun _ => ?_)
    · intro y0 y1 y2 y3 y4 y5 y6 y7
      unfold impl_GuessOf.l1
      repeat' first
      | (with_reducible exact ih0 _ _ _)
      | (with_reducible exact ih1 _ _ _ _)
      | (with_reducible exact ih2 _ _ _ _ _ _ _ _)
      | (with_reducible exact impl_OutcomeOf.mono _ _ _ _)
      | (with_reducible exact impl_sameLength.mono _ _)
      | (with_reducible exact slices_Equal_int_int.mono _ _ _)
      | (with_reducible exact LeO.refl _)
      | (with_reducible exact LeO.none _)
      | (with_reducible refine LeO.ite ?_ ?_)
      | (with_reducible refine LeO.bind ?_ (fun _ => ?_))
      | exact ih0 _ _ _
      | exact ih1 _ _ _ _
      | exact ih2 _ _ _ _ _ _ _ _
      | exact impl_OutcomeOf.mono _ _ _ _
      | exact impl_sameLength.mono _ _
      | exact slices_Equal_int_int.mono _ _ _
      | exact LeO.none _
      | refine LeO.ite ?_ ?_
      | refine LeO.bind ?_ (fun _ => ?_)
theorem impl_GuessOf.mono : ∀ a0 a1 k, LeO (impl_GuessOf.f k a0 a1) (impl_GuessOf.f (k + 1) a0 a1) := by
  intro a0 a1 k
  obtain ⟨ih0, ih1, ih2⟩ := impl_GuessOf.mono_l k
  unfold impl_GuessOf.f
  repeat' first
      | (with_reducible exact ih0 _ _ _)
      | (with_reducible exact ih1 _ _ _ _)
      | (with_reducible exact ih2 _ _ _ _ _ _ _ _)
      | (with_reducible exact impl_OutcomeOf.mono _ _ _ _)
      | (with_reducible exact impl_sameLength.mono _ _)
      | (with_reducible exact slices_Equal_int_int.mono _ _ _)
      | (with_reducible exact LeO.refl _)
      | (with_reducible exact LeO.none _)
      | (with_reducible refine LeO.ite ?_ ?_)
      | (with_reducible refine LeO.bind ?_ (fun _ => ?_))
      | exact ih0 _ _ _
      | exact ih1 _ _ _ _
      | exact ih2 _ _ _ _ _ _ _ _
      | exact impl_OutcomeOf.mono _ _ _ _
      | exact impl_sameLength.mono _ _
      | exact slices_Equal_int_int.mono _ _ _
      | exact LeO.none _
      | refine LeO.ite ?_ ?_
      | refine LeO.bind ?_ (fun _ => ?_)
set_option maxHeartbeats 8000000 in
set_option maxRecDepth 100000 in
theorem impl_GuessOf.calls (k : Nat) (A0 : Option Addr) (c0 : Nat) (l0 : List (List Int)) (A1 : Option Addr) (c1 : Nat) (l1 : List Int) (r1 : Int) (r2 : Int) (r3 : Bool) (w : World) (hr0 : Kd.C (Kd.slice 3 (Kd.int .i64)) w A0 l0.length l0) (hc0 : l0.length ≤ c0) (hr1 : Kd.C (Kd.int .i64) w A1 l1.length l1) (hc1 : l1.length ≤ c1) (h : impl_GuessOf.f k l0 l1 = some (r1, r2, r3)) :
    Calls Try.prog 43 #[.slice A0 l0.length c0, .slice A1 l1.length c1] w fun e w' => e = .returned (.tuple #[.int .i64 r1, .int .i64 r2, .bool r3]) ∧ Below w.heap.size w w' := by
  have HR0 := Aside0.mk hr0
  have HC0 := Aside0.mk hc0
  clear hr0 hc0
  have HR1 := Aside0.mk hr1
  have HC1 := Aside0.mk hc1
  clear hr1 hc1
  have HB := Aside0.mk (Below.refl w.heap.size w)
  have H : ((impl_sameLength.f k l0).bind fun t124 => (if t124 = true then (if 0 < (l0.length : Int) then (impl_GuessOf.j0 k l0 l1 ((l1.length : Int) != ((rd_L1 l0 0).length : Int))) else (none)) else (impl_GuessOf.j0 k l0 l1 true))) = some (r1, r2, r3) := h
  clear h
  have HC3 := Aside0.mk H
  clear H
  go_enter Try.func43, Try.ntmps43
  go_upto_region 1 with (fail)
  go_cut [23] (fun v23 wc => ∃ (kq : Nat) (x23_2 : Bool), v23 = .bool x23_2 ∧ Aside0 (impl_GuessOf.j0 kq l0 l1 x23_2 = some (r1, r2, r3)) ∧ Aside0 (kq ≤ k) ∧ Aside0 (Below w.heap.size w wc))
  case first =>
    have H := HC3.out
    clear HC3
    replace H := Option.bind_eq_some_iff.mp H
    obtain ⟨t124, A40, H⟩ := H
    replace H : (if t124 = true then (if 0 < (l0.length : Int) then (impl_GuessOf.j0 k l0 l1 ((l1.length : Int) != ((rd_L1 l0 0).length : Int))) else (none)) else (impl_GuessOf.j0 k l0 l1 true)) = some (r1, r2, r3) := H
    have A4 := Aside0.mk A40
    clear A40
    by_cases c5 : t124 = true
    · (try subst c5)
      have H1 : (if 0 < (l0.length : Int) then (impl_GuessOf.j0 k l0 l1 ((l1.length : Int) != ((rd_L1 l0 0).length : Int))) else (none)) = some (r1, r2, r3) := by rw [if_pos rfl] at H; exact H
      clear H
      have H := H1
      clear H1
      by_cases c6 : 0 < (l0.length : Int)
      · rw [if_pos c6] at H
        have c6b0 : decide (0 < (l0.length : Int)) = true := decide_eq_true c6
        have c6b1 : decide (0 < l0.length) = true := decide_eq_true (by omega)
        clear c6
        (first | rw [c6b0] | (simp only [i64_w, i32_w]; rw [c6b0]) | skip)
        have H' := Aside0.mk H
        clear H
        go_wp2_with (first | ((with_reducible refine gate_callee (f := 69) rfl ?_); refine goesL_ (some 13) rfl rfl Try.func69 (by kernel_rfl) rfl #[.slice A0 l0.length c0] rfl (by (try simp only [List.map_toArray, List.map_cons, List.map_nil]); first | done | rfl | (simp only [List.length_drop, List.length_take]; rfl)) ?_; (with_reducible refine (impl_sameLength.calls k _ _ l0 true _ ?side1 ?side2 A4.out).mono ?_); (case side1 => repeat (first | exact (Kd.C_below HR0.out HB.out) | (with_reducible refine Kd.C_alloc ?_ _) | (with_reducible refine Kd.C_drewN ?_ _) | (with_reducible refine Kd.C_drew ?_))); (case side2 => exact HC0.out); rintro e w7 ⟨rfl, hb⟩; refine ⟨_, rfl, ?_⟩; have n0_ := Aside0.mk (below_step (by repeat (first | (with_reducible first | exact HB.out | apply below_alloc | apply pw_below_drewN | apply below_drew1) | exact HB.out)) hb); clear HB; have HB := n0_; clear n0_; (try clear hb); (try clear hb2); (try clear hk); (try clear hi); have p125 : 0 ≤ (0 : Int) := (by omega); have q125 : 0 < (l0.length : Int) := of_decide_eq_true (by first | (with_reducible assumption) | assumption); obtain ⟨ad125, A125_0, c125_0, e125, hx125_0, hl125_0, hi125_0⟩ := at_L1 HR0.out 0 p125 q125; cases e125; have qi125 : (0 < l0.length) = True := eq_true (by omega); (try rw [show ((0 : Int)).toNat = 0 from rfl] at hx125_0); (try rw [Addr.add_zero'] at hx125_0); replace hx125_0 := (HB.out.cell (World.block_lt_of_cell? w _ hx125_0)).trans hx125_0; have HR125_0 := Aside0.mk hi125_0; have HC125_0 := Aside0.mk hl125_0; clear hi125_0 hl125_0; replace p125 := eq_true p125; replace q125 := eq_true q125))
        go_meet
        case rel => exact ⟨_, (((l1.length : Int) != ((rd_L1 l0 0).length : Int))), (by first | rfl | (simp; done) | (simp [*]; done)), H', ⟨by first | omega | exact Nat.le_refl _⟩, ⟨by repeat (first | (with_reducible first | exact HB.out | apply below_alloc | apply pw_below_drewN | apply below_drew1) | exact HB.out)⟩⟩
      · rw [if_neg c6] at H
        exact absurd H (by simp)
    · replace c5 := Bool.eq_false_iff.mpr c5
      (try subst c5)
      have H1 : (impl_GuessOf.j0 k l0 l1 true) = some (r1, r2, r3) := by rw [if_neg (show ¬ (false = true) by decide)] at H; exact H
      clear H
      have H := H1
      clear H1
      have H' := Aside0.mk H
      clear H
      go_wp2_with (first | ((with_reducible refine gate_callee (f := 69) rfl ?_); refine goesL_ (some 13) rfl rfl Try.func69 (by kernel_rfl) rfl #[.slice A0 l0.length c0] rfl (by (try simp only [List.map_toArray, List.map_cons, List.map_nil]); first | done | rfl | (simp only [List.length_drop, List.length_take]; rfl)) ?_; (with_reducible refine (impl_sameLength.calls k _ _ l0 false _ ?side1 ?side2 A4.out).mono ?_); (case side1 => repeat (first | exact (Kd.C_below HR0.out HB.out) | (with_reducible refine Kd.C_alloc ?_ _) | (with_reducible refine Kd.C_drewN ?_ _) | (with_reducible refine Kd.C_drew ?_))); (case side2 => exact HC0.out); rintro e w8 ⟨rfl, hb⟩; refine ⟨_, rfl, ?_⟩; have n0_ := Aside0.mk (below_step (by repeat (first | (with_reducible first | exact HB.out | apply below_alloc | apply pw_below_drewN | apply below_drew1) | exact HB.out)) hb); clear HB; have HB := n0_; clear n0_; (try clear hb); (try clear hb2); (try clear hk); (try clear hi)))
      go_meet
      case rel => exact ⟨_, (true), (by first | rfl | (simp; done) | (simp [*]; done)), H', ⟨by first | omega | exact Nat.le_refl _⟩, ⟨by repeat (first | (with_reducible first | exact HB.out | apply below_alloc | apply pw_below_drewN | apply below_drew1) | exact HB.out)⟩⟩
  case rest =>
    clear HC3
    try clear c1
    try clear p1
    try clear q1
    try clear hx1
    try clear qi1
    try clear p2
    try clear c4
    try clear c5
    try clear c6
    try clear c6b0
    try clear c6b1
    try clear hx125_0
    try clear p125
    try clear q125
    obtain ⟨kq, x23_2, rfl, HA, HJ2, HB⟩ := hcut
    cases kq with
    | zero => exact absurd HA.out (by simp [impl_GuessOf.j0])
    | succ kj2 =>
      have H := HA.out
      clear HA
      simp only [impl_GuessOf.j0] at H
      by_cases c9 : x23_2 = true
      · (try subst c9)
        have H1 : (some (0, 0, false)) = some (r1, r2, r3) := by rw [if_pos rfl] at H; exact H
        clear H
        have H := H1
        clear H1
        simp only [Option.some.injEq, Prod.mk.injEq] at H
        obtain ⟨rfl, rfl, rfl⟩ := H
        go_wp2
        go_ret3
        exact ⟨by first | rfl | (simp [errW_none, errW_some] <;> rfl) | (simp [*, errW_none, errW_some] <;> rfl), by repeat (first | (with_reducible first | exact HB.out | apply below_alloc | apply pw_below_drewN | apply below_drew1) | exact HB.out)⟩
      · replace c9 := Bool.eq_false_iff.mpr c9
        (try subst c9)
        have H1 : ((slices_ContainsFunc_int_int__impl_GuessOf_1.f l1).bind fun t126 => (if t126 = true then (impl_GuessOf.l0 kj2 l0 l1 (l0.length : Int) 0) else (some ((-1), 0, true)))) = some (r1, r2, r3) := by rw [if_neg (show ¬ (false = true) by decide)] at H; exact H
        clear H
        have H := H1
        clear H1
        replace H := Option.bind_eq_some_iff.mp H
        obtain ⟨t126, A100, H⟩ := H
        replace H : (if t126 = true then (impl_GuessOf.l0 kj2 l0 l1 (l0.length : Int) 0) else (some ((-1), 0, true))) = some (r1, r2, r3) := H
        have A10 := Aside0.mk A100
        clear A100
        by_cases c11 : t126 = true
        · (try subst c11)
          have H1 : (impl_GuessOf.l0 kj2 l0 l1 (l0.length : Int) 0) = some (r1, r2, r3) := by rw [if_pos rfl] at H; exact H
          clear H
          have H := H1
          clear H1
          have H' := Aside0.mk H
          clear H
          go_wp2_with (first | ((with_reducible refine gate_callee (f := 62) rfl ?_); refine goesL_ (some 25) rfl rfl Try.func62 (by kernel_rfl) rfl #[.slice A1 l1.length c1, .func (.func 83) #[] #[]] rfl (by (try simp only [List.map_toArray, List.map_cons, List.map_nil]); first | done | rfl | (simp only [List.length_drop, List.length_take]; rfl)) ?_; (with_reducible refine (slices_ContainsFunc_int_int__impl_GuessOf_1.calls _ _ l1 true _ ?side1 ?side2 A10.out).mono ?_); (case side1 => repeat (first | exact (Kd.C_below HR1.out HB.out) | (with_reducible refine Kd.C_alloc ?_ _) | (with_reducible refine Kd.C_drewN ?_ _) | (with_reducible refine Kd.C_drew ?_))); (case side2 => exact HC1.out); rintro e w12 ⟨rfl, hb⟩; refine ⟨_, rfl, ?_⟩; have n0_ := Aside0.mk (below_step (by repeat (first | (with_reducible first | exact HB.out | apply below_alloc | apply pw_below_drewN | apply below_drew1) | exact HB.out)) hb); clear HB; have HB := n0_; clear n0_; (try clear hb); (try clear hb2); (try clear hk); (try clear hi)))
          go_loopg [29] kj2 (fun kq v29 w' => ∃ (x29_2 : Int), v29 = .int .i64 x29_2 ∧ Aside0 (impl_GuessOf.l0 kq l0 l1 (l0.length : Int) x29_2 = some (r1, r2, r3)) ∧ Aside0 (kq ≤ kj2) ∧ Aside0 (Below w.heap.size w w'))
          case atStart => exact ⟨(0), (by first | rfl | (simp; done) | (simp [*]; done)), H', ⟨Nat.le_refl _⟩, ⟨by repeat (first | (with_reducible first | exact HB.out | apply below_alloc | apply pw_below_drewN | apply below_drew1) | exact HB.out)⟩⟩
          case round =>
            clear H'
            try clear c1
            try clear p1
            try clear q1
            try clear hx1
            try clear qi1
            try clear p2
            try clear c4
            try clear c5
            try clear c6
            try clear c6b0
            try clear c6b1
            try clear c9
            try clear c11
            try clear c12
            try clear p12
            try clear q12
            try clear hx12
            try clear qi12
            try clear hx125_0
            try clear p1
            try clear p125
            try clear p2
            try clear q1
            try clear q125
            obtain ⟨x29_2, rfl, HA, HK2, HB⟩ := hrel
            cases gk with
            | zero => exact absurd HA.out (by simp [impl_GuessOf.l0])
            | succ k2 =>
              have H := HA.out
              clear HA
              simp only [impl_GuessOf.l0] at H
              by_cases c13 : x29_2 < (l0.length : Int)
              · rw [if_pos c13] at H
                have c13b0 : decide (x29_2 < (l0.length : Int)) = true := decide_eq_true c13
                clear c13
                obtain ⟨y127, hy127⟩ : ∃ y_ : List Int, y_ = (([1, (-1)] : List Int)) := ⟨_, rfl⟩
                replace H : (impl_GuessOf.l1 k2 l0 l1 x29_2 (l0.length : Int) x29_2 y127 (y127.length : Int) 0) = some (r1, r2, r3) := by first | (rw [hy127]; with_reducible exact H) | (have H2_ := (Option.bind_some _ _).symm.trans H; rw [hy127]; with_reducible exact H2_) | (have H2_ := (Option.bind_some _ _).symm.trans H; with_reducible exact H2_) | with_reducible exact H | (rw [hy127]; exact H) | exact H
                have Ny127 := Aside0.mk hy127
                clear hy127
                have H' := Aside0.mk H
                clear H
                go_wp2_with (first | ((with_reducible refine gate_dst (N := 32) rfl ?_); (try (refine gate_guard (by rfl) ?_; dsimp only)); refine Kd.R_lit (Kd.int .i64) _ 3 ?hg (N := 32) ?hd (xs := ([1, (-1)] : List Int)) (inner := [.int .i64 1, .int .i64 (-1)]) (ok := fun _ => True) (okp := fun _ => True) ?hr ?hp (fun _ hk => hk) trivial (Below.refl _ _) (Nat.le_refl _) (by simp) ?_; (case hd => rfl); (case hg => rfl); (case hr => first | (go_simp; done) | (go_simp; rfl)); (case hp => exact (Reps.one (show Kd.M (Kd.int .i64) _ _ _ 1 [.int .i64 1] from rfl) (Reps.one (show Kd.M (Kd.int .i64) _ _ _ (-1) [.int .i64 (-1)] from rfl) (Reps.none _ _)))); intro v128 w14 ho15 hb hg_ hnew_; clear hg_ hnew_; (first | rw [← Ny127.out] at ho15 | (simp only [Int.reduceToNat] at ho15; rw [← Ny127.out] at ho15)); have n0_ := Aside0.mk (Kd.R_lower ho15 (below_size (by repeat (first | (with_reducible first | exact HB.out | apply below_alloc | apply pw_below_drewN | apply below_drew1) | exact HB.out)))); have n1_ := Aside0.mk (below_step (by repeat (first | (with_reducible first | exact HB.out | apply below_alloc | apply pw_below_drewN | apply below_drew1) | exact HB.out)) hb); clear HB; have HO129 := n0_; have HB := n1_; clear n0_ n1_; clear hb ho15; obtain ⟨Ao16, co16, eo16⟩ := Kd.R_slice HO129.out; subst eo16))
                go_loopg [34] k2 (fun kq v34 w' => ∃ (x34_3 : Int), v34 = .int .i64 x34_3 ∧ Aside0 (impl_GuessOf.l1 kq l0 l1 x29_2 (l0.length : Int) x29_2 y127 (y127.length : Int) x34_3 = some (r1, r2, r3)) ∧ Aside0 (kq ≤ k2) ∧ Aside0 (Kd.R (Kd.int .i64) 3 w' w.heap.size (fun _ => True) (.slice Ao16 y127.length co16) y127) ∧ Aside0 (Below w.heap.size w w'))
                case atStart => exact ⟨(0), (by first | rfl | (simp; done) | (simp [*]; done)), H', ⟨Nat.le_refl _⟩, ⟨by (with_reducible repeat (first | apply Kd.R_alloc | apply Kd.R_drewN | apply Kd.R_drew)); exact HO129.out⟩, ⟨by repeat (first | (with_reducible first | exact HB.out | apply below_alloc | apply pw_below_drewN | apply below_drew1) | exact HB.out)⟩⟩
                case round =>
                  clear H'
                  try clear c1
                  try clear p1
                  try clear q1
                  try clear hx1
                  try clear qi1
                  try clear p2
                  try clear c4
                  try clear c5
                  try clear c6
                  try clear c6b0
                  try clear c6b1
                  try clear c9
                  try clear c11
                  try clear c12
                  try clear p12
                  try clear q12
                  try clear hx12
                  try clear qi12
                  try clear c13
                  try clear c13b0
                  try clear hx125_0
                  try clear p1
                  try clear p12
                  try clear p125
                  try clear p2
                  try clear q1
                  try clear q12
                  try clear q125
                  obtain ⟨x34_3, rfl, HA, HK3, HO_32, HB⟩ := hrel
                  cases gk with
                  | zero => exact absurd HA.out (by simp [impl_GuessOf.l1])
                  | succ k3 =>
                    have H := HA.out
                    clear HA
                    simp only [impl_GuessOf.l1] at H
                    by_cases c17 : x34_3 < (y127.length : Int)
                    · rw [if_pos c17] at H
                      have c17b0 : decide (x34_3 < (y127.length : Int)) = true := decide_eq_true c17
                      clear c17
                      by_cases c18 : 0 ≤ x34_3
                      · rw [if_pos c18] at H
                        have c18b0 : decide (0 ≤ x34_3) = true := decide_eq_true c18
                        clear c18
                        by_cases c19 : x34_3 < (y127.length : Int)
                        · rw [if_pos c19] at H
                          have c19b0 : decide (x34_3 < (y127.length : Int)) = true := decide_eq_true c19
                          clear c19
                          replace H := Option.bind_eq_some_iff.mp H
                          obtain ⟨⟨t131, t132⟩, A200, H⟩ := H
                          replace H : ((slices_Equal_int_int.f k3 t131 l1).bind fun t135 => (if t135 = true then (some (x29_2, rd y127 x34_3, true)) else (impl_GuessOf.l1 k3 l0 l1 x29_2 (l0.length : Int) x29_2 y127 (y127.length : Int) (wrap64 (x34_3 + 1))))) = some (r1, r2, r3) := H
                          have A20 := Aside0.mk A200
                          clear A200
                          replace H := Option.bind_eq_some_iff.mp H
                          obtain ⟨t135, A210, H⟩ := H
                          replace H : (if t135 = true then (some (x29_2, rd y127 x34_3, true)) else (impl_GuessOf.l1 k3 l0 l1 x29_2 (l0.length : Int) x29_2 y127 (y127.length : Int) (wrap64 (x34_3 + 1)))) = some (r1, r2, r3) := H
                          have A21 := Aside0.mk A210
                          clear A210
                          by_cases c22 : t135 = true
                          · (try subst c22)
                            have H1 : (some (x29_2, rd y127 x34_3, true)) = some (r1, r2, r3) := by rw [if_pos rfl] at H; exact H
                            clear H
                            have H := H1
                            clear H1
                            simp only [Option.some.injEq, Prod.mk.injEq] at H
                            obtain ⟨rfl, rfl, rfl⟩ := H
                            have p130 : 0 ≤ (x34_3 : Int) := of_decide_eq_true (by first | (with_reducible assumption) | assumption)
                            have q130 : x34_3 < (y127.length : Int) := of_decide_eq_true (by first | (with_reducible assumption) | assumption)
                            obtain ⟨ad130, e130, hx130_0⟩ := Kd.at_int (Kd.R_reads' HO_32.out).2.2 x34_3 p130 q130
                            cases e130
                            replace p130 := eq_true p130
                            replace q130 := eq_true q130
                            go_wp2_with (first | ((with_reducible refine gate_callee (f := 23) rfl ?_); refine goesL_ (some 42) rfl rfl Try.func23 (by kernel_rfl) rfl #[.slice A0 l0.length c0, .int .i64 x29_2, .int .i64 (rd y127 x34_3)] rfl (by (try simp only [List.map_toArray, List.map_cons, List.map_nil]); first | done | rfl | (simp only [List.length_drop, List.length_take]; rfl)) ?_; (with_reducible refine (impl_OutcomeOf.calls k3 _ _ l0 x29_2 (rd y127 x34_3) t131 t132 _ ?side1 ?side2 A20.out).mono ?_); (case side1 => repeat (first | exact (Kd.C_below HR0.out HB.out) | (with_reducible refine Kd.C_alloc ?_ _) | (with_reducible refine Kd.C_drewN ?_ _) | (with_reducible refine Kd.C_drew ?_))); (case side2 => exact HC0.out); rintro e w23 ⟨v133, rfl, ho0, hb⟩; refine ⟨_, rfl, ?_⟩; have n0_ := Aside0.mk (Kd.R_elder' (by (with_reducible repeat (first | apply Kd.R_alloc | apply Kd.R_drewN | apply Kd.R_drew)); exact HO_32.out) (Kd.R_base ho0) hb); have n1_ := Aside0.mk (Kd.R_lower (Kd.R_new' ho0 (Kd.R_lt (by (with_reducible repeat (first | apply Kd.R_alloc | apply Kd.R_drewN | apply Kd.R_drew)); exact HO_32.out))) (below_size (by repeat (first | (with_reducible first | exact HB.out | apply below_alloc | apply pw_below_drewN | apply below_drew1) | exact HB.out)))); have n2_ := Aside0.mk (below_step (by repeat (first | (with_reducible first | exact HB.out | apply below_alloc | apply pw_below_drewN | apply below_drew1) | exact HB.out)) hb); clear HO_32; clear HB; have HO_32 := n0_; have HO134 := n1_; have HB := n2_; clear n0_ n1_ n2_; (try clear hb); (try clear hb2); (try clear hk); (try clear hi); (try clear ho0); obtain ⟨Ao24, co24, eo24⟩ := Kd.R_slice HO134.out; subst eo24) | ((with_reducible refine gate_callee (f := 84) rfl ?_); refine goesL_ (some 47) rfl rfl Try.func84 (by kernel_rfl) rfl #[.slice Ao24 t131.length co24, .slice A1 l1.length c1] rfl (by (try simp only [List.map_toArray, List.map_cons, List.map_nil]); first | done | rfl | (simp only [List.length_drop, List.length_take]; rfl)) ?_; (with_reducible refine (slices_Equal_int_int.calls k3 _ _ t131 _ _ l1 true _ ?side1 ?side2 ?side3 ?side4 A21.out).mono ?_); (case side1 => repeat (first | exact (Kd.R_reads' HO134.out).2.2 | (with_reducible refine Kd.C_alloc ?_ _) | (with_reducible refine Kd.C_drewN ?_ _) | (with_reducible refine Kd.C_drew ?_))); (case side2 => exact (Kd.R_reads' HO134.out).2.1); (case side3 => repeat (first | exact (Kd.C_below HR1.out HB.out) | (with_reducible refine Kd.C_alloc ?_ _) | (with_reducible refine Kd.C_drewN ?_ _) | (with_reducible refine Kd.C_drew ?_))); (case side4 => exact HC1.out); rintro e w' ⟨rfl, ⟨nd, rfl⟩⟩; refine ⟨_, rfl, ?_⟩))
                            go_ret3
                            exact ⟨by first | rfl | (simp [errW_none, errW_some] <;> rfl) | (simp [*, errW_none, errW_some] <;> rfl), by repeat (first | (with_reducible first | exact HB.out | apply below_alloc | apply pw_below_drewN | apply below_drew1) | exact HB.out)⟩
                          · replace c22 := Bool.eq_false_iff.mpr c22
                            (try subst c22)
                            have H1 : (impl_GuessOf.l1 k3 l0 l1 x29_2 (l0.length : Int) x29_2 y127 (y127.length : Int) (wrap64 (x34_3 + 1))) = some (r1, r2, r3) := by rw [if_neg (show ¬ (false = true) by decide)] at H; exact H
                            clear H
                            have H := H1
                            clear H1
                            have H' := Aside0.mk H
                            clear H
                            have p130 : 0 ≤ (x34_3 : Int) := of_decide_eq_true (by first | (with_reducible assumption) | assumption)
                            have q130 : x34_3 < (y127.length : Int) := of_decide_eq_true (by first | (with_reducible assumption) | assumption)
                            obtain ⟨ad130, e130, hx130_0⟩ := Kd.at_int (Kd.R_reads' HO_32.out).2.2 x34_3 p130 q130
                            cases e130
                            replace p130 := eq_true p130
                            replace q130 := eq_true q130
                            go_wp2_with (first | ((with_reducible refine gate_callee (f := 23) rfl ?_); refine goesL_ (some 42) rfl rfl Try.func23 (by kernel_rfl) rfl #[.slice A0 l0.length c0, .int .i64 x29_2, .int .i64 (rd y127 x34_3)] rfl (by (try simp only [List.map_toArray, List.map_cons, List.map_nil]); first | done | rfl | (simp only [List.length_drop, List.length_take]; rfl)) ?_; (with_reducible refine (impl_OutcomeOf.calls k3 _ _ l0 x29_2 (rd y127 x34_3) t131 t132 _ ?side1 ?side2 A20.out).mono ?_); (case side1 => repeat (first | exact (Kd.C_below HR0.out HB.out) | (with_reducible refine Kd.C_alloc ?_ _) | (with_reducible refine Kd.C_drewN ?_ _) | (with_reducible refine Kd.C_drew ?_))); (case side2 => exact HC0.out); rintro e w25 ⟨v133, rfl, ho0, hb⟩; refine ⟨_, rfl, ?_⟩; have n0_ := Aside0.mk (Kd.R_elder' (by (with_reducible repeat (first | apply Kd.R_alloc | apply Kd.R_drewN | apply Kd.R_drew)); exact HO_32.out) (Kd.R_base ho0) hb); have n1_ := Aside0.mk (Kd.R_lower (Kd.R_new' ho0 (Kd.R_lt (by (with_reducible repeat (first | apply Kd.R_alloc | apply Kd.R_drewN | apply Kd.R_drew)); exact HO_32.out))) (below_size (by repeat (first | (with_reducible first | exact HB.out | apply below_alloc | apply pw_below_drewN | apply below_drew1) | exact HB.out)))); have n2_ := Aside0.mk (below_step (by repeat (first | (with_reducible first | exact HB.out | apply below_alloc | apply pw_below_drewN | apply below_drew1) | exact HB.out)) hb); clear HO_32; clear HB; have HO_32 := n0_; have HO134 := n1_; have HB := n2_; clear n0_ n1_ n2_; (try clear hb); (try clear hb2); (try clear hk); (try clear hi); (try clear ho0); obtain ⟨Ao26, co26, eo26⟩ := Kd.R_slice HO134.out; subst eo26) | ((with_reducible refine gate_callee (f := 84) rfl ?_); refine goesL_ (some 47) rfl rfl Try.func84 (by kernel_rfl) rfl #[.slice Ao26 t131.length co26, .slice A1 l1.length c1] rfl (by (try simp only [List.map_toArray, List.map_cons, List.map_nil]); first | done | rfl | (simp only [List.length_drop, List.length_take]; rfl)) ?_; (with_reducible refine (slices_Equal_int_int.calls k3 _ _ t131 _ _ l1 false _ ?side1 ?side2 ?side3 ?side4 A21.out).mono ?_); (case side1 => repeat (first | exact (Kd.R_reads' HO134.out).2.2 | (with_reducible refine Kd.C_alloc ?_ _) | (with_reducible refine Kd.C_drewN ?_ _) | (with_reducible refine Kd.C_drew ?_))); (case side2 => exact (Kd.R_reads' HO134.out).2.1); (case side3 => repeat (first | exact (Kd.C_below HR1.out HB.out) | (with_reducible refine Kd.C_alloc ?_ _) | (with_reducible refine Kd.C_drewN ?_ _) | (with_reducible refine Kd.C_drew ?_))); (case side4 => exact HC1.out); rintro e w' ⟨rfl, ⟨nd, rfl⟩⟩; refine ⟨_, rfl, ?_⟩))
                            go_roundg k3
                            case measure => have := HJ2.out; have := HK2.out; have := HK3.out; omega
                            case rel => exact ⟨(wrap64 (x34_3 + 1)), (by first | rfl | (simp; done) | (simp [*]; done)), H', ⟨by have := HJ2.out; have := HK2.out; have := HK3.out; omega⟩, ⟨by (with_reducible repeat (first | apply Kd.R_alloc | apply Kd.R_drewN | apply Kd.R_drew)); exact Kd.R_mono HO_32.out (fun _ hk => trivial)⟩, ⟨by repeat (first | (with_reducible first | exact HB.out | apply below_alloc | apply pw_below_drewN | apply below_drew1) | exact HB.out)⟩⟩
                        · rw [if_neg c19] at H
                          exact absurd H (by simp)
                      · rw [if_neg c18] at H
                        exact absurd H (by simp)
                    · rw [if_neg c17] at H
                      have c17b0 : decide (x34_3 < (y127.length : Int)) = false := decide_eq_false c17
                      clear c17
                      have H' := Aside0.mk H
                      clear H
                      go_wp2
                      go_roundg k3
                      case measure => have := HJ2.out; have := HK2.out; have := HK3.out; omega
                      case rel => exact ⟨(wrap64 (x29_2 + 1)), (by first | rfl | (simp; done) | (simp [*]; done)), H', ⟨by have := HJ2.out; have := HK2.out; have := HK3.out; omega⟩, ⟨by repeat (first | (with_reducible first | exact HB.out | apply below_alloc | apply pw_below_drewN | apply below_drew1) | exact HB.out)⟩⟩
              · rw [if_neg c13] at H
                have c13b0 : decide (x29_2 < (l0.length : Int)) = false := decide_eq_false c13
                clear c13
                simp only [Option.some.injEq, Prod.mk.injEq] at H
                obtain ⟨rfl, rfl, rfl⟩ := H
                go_wp2
                go_ret3
                exact ⟨by first | rfl | (simp [errW_none, errW_some] <;> rfl) | (simp [*, errW_none, errW_some] <;> rfl), by repeat (first | (with_reducible first | exact HB.out | apply below_alloc | apply pw_below_drewN | apply below_drew1) | exact HB.out)⟩
        · replace c11 := Bool.eq_false_iff.mpr c11
          (try subst c11)
          have H1 : (some ((-1), 0, true)) = some (r1, r2, r3) := by rw [if_neg (show ¬ (false = true) by decide)] at H; exact H
          clear H
          have H := H1
          clear H1
          simp only [Option.some.injEq, Prod.mk.injEq] at H
          obtain ⟨rfl, rfl, rfl⟩ := H
          go_wp2_with (first | ((with_reducible refine gate_callee (f := 62) rfl ?_); refine goesL_ (some 25) rfl rfl Try.func62 (by kernel_rfl) rfl #[.slice A1 l1.length c1, .func (.func 83) #[] #[]] rfl (by (try simp only [List.map_toArray, List.map_cons, List.map_nil]); first | done | rfl | (simp only [List.length_drop, List.length_take]; rfl)) ?_; (with_reducible refine (slices_ContainsFunc_int_int__impl_GuessOf_1.calls _ _ l1 false _ ?side1 ?side2 A10.out).mono ?_); (case side1 => repeat (first | exact (Kd.C_below HR1.out HB.out) | (with_reducible refine Kd.C_alloc ?_ _) | (with_reducible refine Kd.C_drewN ?_ _) | (with_reducible refine Kd.C_drew ?_))); (case side2 => exact HC1.out); rintro e w27 ⟨rfl, hb⟩; refine ⟨_, rfl, ?_⟩; have n0_ := Aside0.mk (below_step (by repeat (first | (with_reducible first | exact HB.out | apply below_alloc | apply pw_below_drewN | apply below_drew1) | exact HB.out)) hb); clear HB; have HB := n0_; clear n0_; (try clear hb); (try clear hb2); (try clear hk); (try clear hi)))
          go_ret3
          exact ⟨by first | rfl | (simp [errW_none, errW_some] <;> rfl) | (simp [*, errW_none, errW_some] <;> rfl), by repeat (first | (with_reducible first | exact HB.out | apply below_alloc | apply pw_below_drewN | apply below_drew1) | exact HB.out)⟩

/-! ### impl_WeighingsOf: function 45 -/
/-- One word's trits put into the lists of both pans (two lists a weighing, one behind the other). -/
def impl_WeighingsOf.one (c : Int) : List Int → Nat → List (List Int) → List (List Int)
  | [], _, rs => rs
  | a :: tl, i, rs => impl_WeighingsOf.one c tl (i + 1) (if a = 1 then rs.set (2 * i) (rs.getD (2 * i) [] ++ [c]) else if a = -1 then rs.set (2 * i + 1) (rs.getD (2 * i + 1) [] ++ [c]) else rs)
def impl_WeighingsOf.all : List (List Int) → Int → List (List Int) → List (List Int)
  | [], _, rs => rs
  | w :: ws, c, rs => impl_WeighingsOf.all ws (c + 1) (impl_WeighingsOf.one c w 0 rs)
def impl_WeighingsOf.pairs (rs : List (List Int)) (m : Nat) : List S29 := (List.range m).map (fun i => ⟨rs.getD (2 * i) [], rs.getD (2 * i + 1) []⟩)
theorem impl_WeighingsOf.flat0 (w : World) (base g m : Nat) (cs : Array Value) (ok : Nat → Prop) (hh : w.heap[g]? = some (.cells cs 29 (0, 0))) (hs : cs.toList = List.replicate (2 * m) (.slice none 0 0)) (hb : base ≤ g) (hk : ok g) (hm : 2 * m ≤ maxLen) : Kd.S (Kd.slice 3 (Kd.int .i64)) 29 w base ok (.slice (some ⟨g, 0, none⟩) (2 * m) (2 * m)) (List.replicate (2 * m) []) := by
  have hsz : cs.size = 2 * m := by rw [← Array.length_toList, hs]; simp
  refine ⟨fun _ => 0, fun k hk2 => ?_, cs.toList, ⟨?_, .inr ⟨g, 2 * m, cs, ?_, hb, hh, by simp, hm, ?_, ?_⟩⟩, ?_, fun j p hj => ?_⟩
  · have : g = k := by simpa [Value.ownBlock] using hk2
    exact this ▸ hk
  · simp [hs, Kd.tag, Kd.slice]
  · simp
  · simp [hsz, Kd.tag, Kd.slice]
  · simp [hs, Kd.tag, Kd.slice]
  · simp [hs, Kd.tag, Kd.slice]
  · rw [List.getElem?_zipIdx, List.getElem?_replicate] at hj
    by_cases hjm : j < 2 * m
    · rw [if_pos hjm] at hj
      simp only [Option.map_some, Option.some.injEq] at hj
      subst hj
      refine ⟨.slice none 0 0, ?_, Kd.R_nil _ _ _ _ _⟩
      rw [hs]
      show ((List.replicate (2 * m) (Value.slice none 0 0)).drop (j * 1)).take 1 = _
      rw [Nat.mul_one, List.drop_eq_getElem_cons (by simpa using hjm)]
      simp
    · rw [if_neg hjm] at hj
      simp at hj
theorem impl_WeighingsOf.mk (m : Nat) (hm : m ≤ 1000000) : ∀ W : World, (Instr.makeSlice 58 (.int .i64 (m : Int)) (.int .i64 (m : Int))).run Try.prog W = .ok (.slice (some ⟨W.heap.size, 0, none⟩) m m) (W.alloc (.cells (madeCells #[.slice none 0 0, .slice none 0 0] (m * 2)) 29)) := by
  intro W
  obtain ⟨i0, hi, hzz⟩ := Option.map_eq_some_iff.1 info29
  simp only [Prod.mk.injEq] at hzz
  obtain ⟨hz0, hz1, hz2⟩ := hzz
  have hr := run_make (P := Try.prog) W 58 29 i0 _ Try.underlying58 hi hz0 .i64 .i64 (m : Int) (m : Int) (by omega) (by omega) (by rw [hz2]; omega) (by omega)
  simp only [Int.toNat_natCast] at hr
  rw [hz1] at hr
  exact hr
theorem impl_WeighingsOf.made (m : Nat) : (madeCells #[(.slice none 0 0 : Value), .slice none 0 0] (m * 2)).toList = List.replicate (2 * m) (.slice none 0 0) := by
  apply List.ext_getElem (by simp [madeCells]; omega)
  intro i h1 h2
  have h : i % 2 = 0 ∨ i % 2 = 1 := by omega
  rcases h with h | h <;> simp [madeCells, h]
theorem impl_WeighingsOf.putback {W : World} {base g t N : Nat} {ok oki : Nat → Prop} {rs : List (List Int)} {v0 v1 : Value} {x' : List Int} (hH : Kd.H (Kd.slice 3 (Kd.int .i64)) 29 W base ok (.slice (some ⟨g, 0, none⟩) N N) rs ((t : Nat) : Int) oki [v0]) (ht : t < N) (hR : Kd.R (Kd.int .i64) 3 W base oki v1 x') (hg : ∀ k, oki k → k ≠ g) :
    Kd.S (Kd.slice 3 (Kd.int .i64)) 29 (W.setCell ⟨g, t, none⟩ v1) base ok (.slice (some ⟨g, 0, none⟩) N N) (rs.set t x') := by
  have hone : v1.oneCell' = true := by
    obtain ⟨A, c, rfl⟩ := Kd.R_slice hR
    rfl
  obtain ⟨h2, h3⟩ := Kd.H_seg hH (by omega) (by omega) (seg := [v1]) (j := 0) (by show 0 + 1 ≤ 1; decide) (by intro q hq; rw [List.mem_singleton.1 hq]; exact hone)
  have e : W.setCells g ((t : Int).toNat * (Kd.slice 3 (Kd.int .i64)).sz + 0) [v1] = W.setCell ⟨g, t, none⟩ v1 := by
    simp [World.setCells, Kd.slice]
  rw [e] at h2
  have hb := Kd.H_back h2 (x' := x') (okp := oki) ⟨v1, rfl, Kd.R_far hR (fun k hk => hg k hk) v1⟩ (fun _ h => h)
  simpa using hb
theorem impl_WeighingsOf.lens {rs : List (List Int)} {idx ii t : Nat} (h : ∀ s, (rs.getD s []).length ≤ idx + 1 ∧ (2 * ii ≤ s → (rs.getD s []).length ≤ idx)) (h0 : 2 * ii ≤ t) (h1 : t < 2 * (ii + 1)) (c : Int) : ∀ s, ((rs.set t (rs.getD t [] ++ [c])).getD s []).length ≤ idx + 1 ∧ (2 * (ii + 1) ≤ s → ((rs.set t (rs.getD t [] ++ [c])).getD s []).length ≤ idx) := by
  intro s
  have hs := h s
  have ht := h t
  rw [List.getD_eq_getElem?_getD, List.getElem?_set]
  by_cases he : t = s
  · subst he
    rw [if_pos rfl]
    split
    · simp only [Option.getD_some, List.length_append, List.length_singleton]
      have := ht.2 h0
      exact ⟨by omega, fun h2 => by omega⟩
    · simp
  · rw [if_neg he, ← List.getD_eq_getElem?_getD]
    exact ⟨hs.1, fun h2 => hs.2 (by omega)⟩
def impl_WeighingsOf.Flat (w : World) (b : Nat) (v : Value) (xs : List S29) : Prop := (v = .slice none 0 0 ∧ xs = []) ∨ ∃ (g m : Nat) (rs : List (List Int)), v = .slice (some ⟨g, 0, none⟩) m m ∧ xs = impl_WeighingsOf.pairs rs m ∧ rs.length = 2 * m ∧ Kd.S (Kd.slice 3 (Kd.int .i64)) 29 w b (fun k_ => b ≤ k_) (.slice (some ⟨g, 0, none⟩) (2 * m) (2 * m)) rs
theorem impl_WeighingsOf.flatK {w : World} {b g m : Nat} {rs : List (List Int)} (hl : rs.length = 2 * m) (h : Kd.S (Kd.slice 3 (Kd.int .i64)) 29 w b (fun k_ => b ≤ k_) (.slice (some ⟨g, 0, none⟩) (2 * m) (2 * m)) rs) : Kd.S k29 29 w b (fun _ => True) (.slice (some ⟨g, 0, none⟩) m m) (impl_WeighingsOf.pairs rs m) := by
  obtain ⟨f, hok, inner, ho, hr⟩ := h
  have hil : inner.length = 2 * m := by have := hr.1; rw [List.length_zipIdx, hl] at this; simpa [Kd.tag, Kd.slice] using this
  rcases ho.2 with ⟨he, _⟩ | ⟨g', cap, cur, he, hb, hh, hnc, hcm, hcs, htk⟩
  · exact absurd he (by simp)
  · injection he with e1 e2 e3
    injection e1 with e1
    injection e1 with e1
    subst e1
    subst e3
    have hcs' : cur.size = 2 * m := by simpa [Kd.tag, Kd.slice] using hcs
    have htk' : cur.toList.take (2 * m) = inner := by rw [← htk, List.length_zipIdx, hl]; simp [Kd.tag, Kd.slice]
    have hz : (Kd.tag (fun k => f k / 2) k29).sz = 2 := rfl
    have hpl : (impl_WeighingsOf.pairs rs m).length = m := by simp [impl_WeighingsOf.pairs]
    refine ⟨fun k => f k / 2, fun k _ => trivial, inner, ⟨by rw [List.length_zipIdx, hpl, hz, hil]; omega, .inr ⟨g, m, cur, by rw [List.length_zipIdx, hpl], hb, hh, by rw [List.length_zipIdx, hpl]; exact Nat.le_refl _, by omega, by rw [hz, hcs']; omega, by rw [List.length_zipIdx, hpl, hz, Nat.mul_comm]; exact htk'⟩⟩, by rw [List.length_zipIdx, hpl, hz, hil]; omega, fun j p hj => ?_⟩
    have hjm : j < m := by
      have := (List.getElem?_eq_some_iff.1 hj).1
      rw [List.length_zipIdx, hpl] at this
      exact this
    have hpj : (impl_WeighingsOf.pairs rs m)[j]? = some ⟨rs.getD (2 * j) [], rs.getD (2 * j + 1) []⟩ := by
      simp [impl_WeighingsOf.pairs, hjm]
    have hp2 := Kd.zip_at hpj
    rw [hp2] at hj
    obtain rfl := Option.some.inj hj
    have row : ∀ t, t < 2 * m → ∃ v, inner[t]? = some v ∧ Kd.R (Kd.int .i64) 3 w b (fun k => k ≠ g ∧ f k = t) v (rs.getD t []) := by
      intro t ht
      have htl : t < rs.length := by omega
      obtain ⟨v, hc, hR⟩ := hr.2 t (rs[t], t) (Kd.zip_at (List.getElem?_eq_getElem htl))
      have hsz : (Kd.tag f (Kd.slice 3 (Kd.int .i64))).sz = 1 := rfl
      rw [hsz, Nat.mul_one, List.drop_eq_getElem_cons (by omega)] at hc
      simp only [List.take_succ_cons, List.take_zero] at hc
      injection hc with hc _
      have eg : rs.getD t [] = rs[t] := by simp [List.getD_eq_getElem?_getD, List.getElem?_eq_getElem htl]
      rw [eg]
      exact ⟨v, by rw [List.getElem?_eq_getElem (by omega), hc], Kd.R_mono hR (fun k hk => ⟨fun e => hk.1.2 (by simp [Value.ownBlock, e]), hk.2⟩)⟩
    obtain ⟨v0, i0, r0⟩ := row (2 * j) (by omega)
    obtain ⟨v1, i1, r1⟩ := row (2 * j + 1) (by omega)
    have hcell : (inner.drop (j * 2)).take 2 = [v0, v1] := by
      obtain ⟨h0, e0⟩ := List.getElem?_eq_some_iff.1 i0
      obtain ⟨h1, e1⟩ := List.getElem?_eq_some_iff.1 i1
      rw [Nat.mul_comm, List.drop_eq_getElem_cons h0, List.drop_eq_getElem_cons h1, e0, e1]
      simp
    show k29.M w b _ _ ((inner.drop (j * (Kd.tag (fun k => f k / 2) k29).sz)).take (Kd.tag (fun k => f k / 2) k29).sz)
    rw [hz, hcell]
    exact k29_mkM w b _ _ (Kd.R_mono r0 (fun k hk => ⟨⟨trivial, fun e => hk.1 (by simpa [Value.ownBlock] using e)⟩, by show f k / 2 = j; omega⟩)) (Kd.R_mono r1 (fun k hk => ⟨⟨trivial, fun e => hk.1 (by simpa [Value.ownBlock] using e)⟩, by show f k / 2 = j; omega⟩))
def impl_WeighingsOf.f (k : Nat) (l : List (List Int)) : Option (List S29 × Bool) := (impl_sameLength.f k l).bind fun t => if t = true then (if 0 < l.length ∧ l.length ≤ 1000000 ∧ (l.getD 0 []).length ≤ 1000000 ∧ (∀ w ∈ l, w.length = (l.getD 0 []).length) then some (impl_WeighingsOf.pairs (impl_WeighingsOf.all l 0 (List.replicate (2 * (l.getD 0 []).length) [])) (l.getD 0 []).length, true) else none) else some ([], false)
theorem impl_WeighingsOf.mono : ∀ l k, LeO (impl_WeighingsOf.f k l) (impl_WeighingsOf.f (k + 1) l) := fun l k => LeO.bind (impl_sameLength.mono l k) (fun _ => LeO.refl _)
set_option maxHeartbeats 8000000 in
set_option maxRecDepth 100000 in
theorem impl_WeighingsOf.calls0 (k : Nat) (A0 : Option Addr) (c0 : Nat) (l0 : List (List Int)) (r1 : List S29) (r2 : Bool) (w : World) (hr0 : Kd.C (Kd.slice 3 (Kd.int .i64)) w A0 l0.length l0) (hc0 : l0.length ≤ c0) (h : impl_WeighingsOf.f k l0 = some (r1, r2)) :
    Calls Try.prog 45 #[.slice A0 l0.length c0] w fun e w' => ∃ v0_ : Value, e = .returned (.tuple #[v0_, .bool r2]) ∧ impl_WeighingsOf.Flat w' w.heap.size v0_ r1 ∧ Below w.heap.size w w' := by
  unfold impl_WeighingsOf.f at h
  obtain ⟨t, ht, h1⟩ := Option.bind_eq_some_iff.1 h
  clear h
  cases t with
  | false =>
    rw [if_neg (by simp)] at h1
    obtain ⟨rfl, rfl⟩ := Prod.mk.inj (Option.some.inj h1)
    clear h1
    go_enter Try.func45, Try.ntmps45
    go_wp2_with (go_at_call 69; with_reducible refine (impl_sameLength.calls k A0 c0 l0 false _ hr0 hc0 ht).mono ?_; rintro e w1 ⟨rfl, hb1⟩)
    go_ret2
    exact ⟨_, rfl, .inl ⟨rfl, rfl⟩, by repeat (first | (with_reducible first | exact hb1 | apply below_alloc | apply pw_below_drewN | apply below_drew1) | exact hb1)⟩
  | true =>
    rw [if_pos rfl] at h1
    by_cases hc : 0 < l0.length ∧ l0.length ≤ 1000000 ∧ (l0.getD 0 []).length ≤ 1000000 ∧ (∀ w ∈ l0, w.length = (l0.getD 0 []).length)
    · rw [if_pos hc] at h1
      obtain ⟨rfl, rfl⟩ := Prod.mk.inj (Option.some.inj h1)
      clear h1
      obtain ⟨hl0, hl1, hm1, hall⟩ := hc
      obtain ⟨g2, g4, hg⟩ := Go.Proofs.Ytffohdlbkigehaa.Any.rowsOf hr0
      obtain ⟨ad0, e0, hb0, hx0, _, _⟩ := hg 0 hl0
      cases e0
      rw [Addr.add_zero'] at hb0 hx0
      obtain ⟨m, hm⟩ : ∃ m, m = (l0.getD 0 []).length := ⟨_, rfl⟩
      rw [← hm] at hx0 hm1 hall ⊢
      have hmk := impl_WeighingsOf.mk m hm1
      replace hall := Aside0.mk hall
      replace hg := Aside0.mk hg
      replace hr0 := Aside0.mk hr0
      clear hm
      have b1 : (0 < l0.length) = True := eq_true hl0
      have b2 : ((0 : Int) < (l0.length : Int)) = True := eq_true (by omega)
      go_enter Try.func45, Try.ntmps45
      go_wp2_with (go_at_call 69; with_reducible refine (impl_sameLength.calls k (some ad0) c0 l0 true _ hr0.out hc0 ht).mono ?_; rintro e w1 ⟨rfl, hb1⟩; have hx1 := Go.Proofs.Ytffohdlbkigehaa.Any.cell_below hb1 hb0 hx0; replace hb1 := Aside0.mk hb1)
      obtain ⟨g, hgq⟩ : ∃ g, g = w1.heap.size := ⟨_, rfl⟩
      have hS0 : Aside0 (Kd.S (Kd.slice 3 (Kd.int .i64)) 29 (w1.alloc (.cells (madeCells #[.slice none 0 0, .slice none 0 0] (m * 2)) 29)) w.heap.size (fun k_ => w.heap.size ≤ k_) (.slice (some ⟨g, 0, none⟩) (2 * m) (2 * m)) (List.replicate (2 * m) [])) := ⟨impl_WeighingsOf.flat0 _ _ g m _ _ (by rw [hgq]; exact heap_alloc_new _ _) (impl_WeighingsOf.made m) (by rw [hgq]; exact hb1.out.size) (by rw [hgq]; exact hb1.out.size) (by simp [maxLen]; omega)⟩
      rw [← hgq]
      have hgw : w.heap.size ≤ g := by rw [hgq]; exact hb1.out.size
      clear hx1 hx0 hmk
      go_loopg [19] l0.length (fun gg s19 wr => ∃ (idx : Nat) (rs : List (List Int)), idx ≤ l0.length ∧ l0.length - idx ≤ gg ∧ s19 = .int .i64 idx ∧ Aside0 (impl_WeighingsOf.all (l0.drop idx) idx rs = impl_WeighingsOf.all l0 0 (List.replicate (2 * m) []) ∧ rs.length = 2 * m ∧ ∀ t, (rs.getD t []).length ≤ idx) ∧ Aside0 (Kd.S (Kd.slice 3 (Kd.int .i64)) 29 wr w.heap.size (fun k_ => w.heap.size ≤ k_) (.slice (some ⟨g, 0, none⟩) (2 * m) (2 * m)) rs) ∧ Aside0 (Below w.heap.size w wr))
      case atStart => exact ⟨0, List.replicate (2 * m) [], Nat.zero_le _, by omega, rfl, ⟨rfl, by simp, fun t => by simp [List.getD_eq_getElem?_getD, List.getElem?_replicate]; split <;> simp⟩, hS0, ⟨by repeat (first | (with_reducible first | exact hb1.out | apply below_alloc | apply pw_below_drewN | apply below_drew1) | exact hb1.out)⟩⟩
      case round =>
        clear hS0 hgq hb1
        obtain ⟨idx, rs, hix, hig, rfl, hA, HS, HB⟩ := hrel
        by_cases hlt : idx < l0.length
        · have hltz : decide ((idx : Int) < (l0.length : Int)) = true := decide_eq_true (by omega)
          obtain ⟨ad, ea, hba, hxa, hga, hCa⟩ := hg.out idx hlt
          cases ea
          have hxw := Go.Proofs.Ytffohdlbkigehaa.Any.cell_below HB.out hba hxa
          have egd : l0.getD idx [] = l0[idx] := by simp [List.getD_eq_getElem?_getD, List.getElem?_eq_getElem hlt]
          obtain ⟨wd, hwd⟩ : ∃ wd, wd = l0.getD idx [] := ⟨_, rfl⟩
          have hwm : wd.length = m := by rw [hwd, egd]; exact hall.out _ (List.getElem_mem _)
          obtain ⟨hA1, hrl, hlen⟩ := hA.out
          have hA2 : impl_WeighingsOf.all (l0.drop (idx + 1)) ((idx : Int) + 1) (impl_WeighingsOf.one idx wd 0 rs) = impl_WeighingsOf.all l0 0 (List.replicate (2 * m) []) := by
            rw [← hA1, List.drop_eq_getElem_cons hlt, impl_WeighingsOf.all, hwd, egd]
          rw [← hwd, hwm] at hxw
          rw [← hwd] at hCa hga
          obtain ⟨Gx, hGx⟩ : ∃ Gx, Gx = g2 idx := ⟨_, rfl⟩
          rw [← hGx] at hxw hCa
          clear hGx
          have hCa0 := Aside0.mk hCa
          clear hwd egd hA hA1 hxa hCa
          have b3 : (idx < l0.length) = True := eq_true hlt
          have b4 : (0 ≤ (idx : Int)) = True := eq_true (by omega)
          have b5 : ((idx : Int) < (l0.length : Int)) = True := eq_true (by omega)
          replace hA2 := Aside0.mk hA2
          replace hlen := Aside0.mk hlen
          replace hwm := Aside0.mk hwm
          go_wp2
          go_loopg [26] m (fun gg s26 wr => ∃ (ii : Nat) (rs : List (List Int)), ii ≤ m ∧ m - ii ≤ gg ∧ s26 = .int .i64 ii ∧ Aside0 (impl_WeighingsOf.all (l0.drop (idx + 1)) ((idx : Int) + 1) (impl_WeighingsOf.one idx (wd.drop ii) ii rs) = impl_WeighingsOf.all l0 0 (List.replicate (2 * m) []) ∧ rs.length = 2 * m ∧ ∀ t, (rs.getD t []).length ≤ idx + 1 ∧ (2 * ii ≤ t → (rs.getD t []).length ≤ idx)) ∧ Aside0 (Kd.S (Kd.slice 3 (Kd.int .i64)) 29 wr w.heap.size (fun k_ => w.heap.size ≤ k_) (.slice (some ⟨g, 0, none⟩) (2 * m) (2 * m)) rs) ∧ Aside0 (Below w.heap.size w wr))
          case atStart => exact ⟨0, rs, Nat.zero_le _, by omega, rfl, ⟨by simpa using hA2.out, hrl, fun t => ⟨by have := hlen.out t; omega, fun _ => hlen.out t⟩⟩, HS, HB⟩
          case round =>
            clear hxw HS HB hA2 hlen hrl
            obtain ⟨ii, rs, hii, hgi, rfl, hA, HS, HB⟩ := hrel
            by_cases hlti : ii < m
            · have hltzi : decide ((ii : Int) < (m : Int)) = true := decide_eq_true (by omega)
              obtain ⟨adx, ex, hx⟩ := Kd.at_int (Kd.C_below hCa0.out HB.out) (ii : Int) (by omega) (by have := hwm.out; omega)
              obtain ⟨hA1, hrl, hlen⟩ := hA.out
              have hil : ii < wd.length := by have := hwm.out; omega
              have e : rd wd (ii : Int) = wd[ii] := by simp [rd, List.getD_eq_getElem?_getD, List.getElem?_eq_getElem hil]
              rw [show ((ii : Int)).toNat = ii by omega, e] at hx
              rw [List.drop_eq_getElem_cons hil, impl_WeighingsOf.one] at hA1
              obtain ⟨a, ha⟩ : ∃ a, a = wd[ii] := ⟨_, rfl⟩
              rw [← ha] at hx hA1
              clear ha e hil hA
              have b6 : (0 ≤ (ii : Int)) = True := eq_true (by omega)
              have b7 : ((ii : Int) < (m : Int)) = True := eq_true (by omega)
              have b8 : (ii < m) = True := eq_true hlti
              have hk1 : ii + 1 ≤ m := hlti
              cases ex
              by_cases a1 : a = 1
              · rw [if_pos a1] at hA1
                have a1b : (a == 1) = true := beq_iff_eq.mpr a1
                clear a1
                obtain ⟨oki, cc, hcs, hM, hcell, hfr, hoki, hH⟩ := Kd.S_elem HS.out [] ((2 * ii : Nat) : Int) (by omega) (by omega)
                rw [show (((2 * ii : Nat) : Int)).toNat = 2 * ii by omega] at hM hcell hfr
                have hlen2 := Aside0.mk (impl_WeighingsOf.lens (t := 2 * ii) hlen (by omega) (by omega) (idx : Int))
                have hxl := (hlen (2 * ii)).1
                obtain ⟨xx, hxx⟩ : ∃ xx, xx = (rs.getD (2 * ii) []) := ⟨_, rfl⟩
                rw [← hxx] at hM hA1 hlen2 hxl
                clear hxx
                obtain ⟨yy, hyy⟩ : ∃ yy, yy = xx ++ [(idx : Int)] := ⟨_, rfl⟩
                rw [← hyy] at hA1 hlen2
                replace hyy := Aside0.mk hyy
                obtain ⟨v, rfl, hR⟩ := hM
                obtain ⟨Av, cv, rfl⟩ := Kd.R_slice hR
                have hx2 : wr.cell? ⟨g, ii * 2, none⟩ = some (.slice Av xx.length cv) := by
                  have h1 := hcell 0 _ rfl
                  simpa [Kd.slice, Nat.mul_comm] using h1
                have hf2 : wr.frozen? ⟨g, ii * 2, none⟩ = false := by
                  have h1 := hfr 0
                  simpa [Kd.slice, Nat.mul_comm] using h1
                have hne : some g ≠ (Value.slice Av xx.length cv).ownBlock := fun e => (hoki g (hR.1 g e.symm)).2 rfl
                have hHw := Kd.H_widen hH
                replace hA1 := Aside0.mk hA1
                replace hlen := Aside0.mk hlen
                go_wp2_with ((with_reducible refine gate_builtin (b := .append) (xs := #[.tmp 40, .tmp 42]) rfl ?_); at_builtin; refine Kd.R_append (Kd.int .i64) (w0 := w) w.heap.size rfl (.tmp 40) (.tmp 42) 22 3 (.int .i64 0) 8 rfl Try.underlying22 info3 rfl (by decide) (by omega) (.slice Av xx.length cv) xx (idx : Int) [.int .i64 idx] (fun k_ => oki k_ ∨ w.heap.size ≤ k_ ∧ wr.heap.size ≤ k_) (fun _ => False) rfl rfl ?aP (fun _ hk => hk.elim) ?aF ?aO ?aB ?aS ?aL ?_; (case aP => exact rfl); (case aB => exact HB.out); (case aF => exact (fun k_ hk_ => .inr ⟨Nat.le_trans HB.out.size hk_, hk_⟩)); (case aO => exact Kd.R_mono hR (fun k_ hk_ => .inl hk_)); (case aS => exact HB.out.size); (case aL => omega); intro v1 w2 hR1 hB1 hG1 _; rw [← hyy.out] at hR1; obtain ⟨Aw, cw, rfl⟩ := Kd.R_slice hR1; have hx3 := World.grownBy.cell hG1 hx2 hne; have hf3 : w2.frozen? ⟨g, ii * 2, none⟩ = false := (World.frozen?_of_block (hG1.block g (World.block_lt_of_cell? _ _ hx2) hne)).trans hf2; have hS2 := impl_WeighingsOf.putback (Kd.H_grown hHw hG1 (fun k_ hk_ => .inl (hR.1 k_ hk_))) (by omega) hR1 (fun k_ hk_ => hk_.elim (fun h_ => (hoki k_ h_).2) (fun h_ => by have h1_ := World.block_lt_of_cell? _ _ hx2; dsimp only at h1_; omega)); have hB2 := Below.setCell hB1 (p := ⟨g, ii * 2, none⟩) hgw (.slice Aw yy.length cw); replace hS2 := Aside0.mk hS2; replace hB2 := Aside0.mk hB2; clear hG1 hR1 hB1)
                go_roundg (m - (ii + 1))
                case measure => omega
                case rel => exact ⟨ii + 1, rs.set (2 * ii) yy, by omega, by omega, by go_num, ⟨hA1.out, by simpa using hrl, hlen2.out⟩, by first | exact hS2 | (rw [show ii * 2 = 2 * ii by omega]; exact hS2), hB2⟩
              · rw [if_neg a1] at hA1
                have a1b : (a == 1) = false := beq_eq_false_iff_ne.mpr a1
                by_cases a2 : a = -1
                · rw [if_pos a2] at hA1
                  have a2b : (a == -1) = true := beq_iff_eq.mpr a2
                  clear a1 a2
                  obtain ⟨oki, cc, hcs, hM, hcell, hfr, hoki, hH⟩ := Kd.S_elem HS.out [] ((2 * ii + 1 : Nat) : Int) (by omega) (by omega)
                  rw [show (((2 * ii + 1 : Nat) : Int)).toNat = 2 * ii + 1 by omega] at hM hcell hfr
                  have hlen2 := Aside0.mk (impl_WeighingsOf.lens (t := 2 * ii + 1) hlen (by omega) (by omega) (idx : Int))
                  have hxl := (hlen (2 * ii + 1)).1
                  obtain ⟨xx, hxx⟩ : ∃ xx, xx = (rs.getD (2 * ii + 1) []) := ⟨_, rfl⟩
                  rw [← hxx] at hM hA1 hlen2 hxl
                  clear hxx
                  obtain ⟨yy, hyy⟩ : ∃ yy, yy = xx ++ [(idx : Int)] := ⟨_, rfl⟩
                  rw [← hyy] at hA1 hlen2
                  replace hyy := Aside0.mk hyy
                  obtain ⟨v, rfl, hR⟩ := hM
                  obtain ⟨Av, cv, rfl⟩ := Kd.R_slice hR
                  have hx2 : wr.cell? ⟨g, ii * 2 + 1, none⟩ = some (.slice Av xx.length cv) := by
                    have h1 := hcell 0 _ rfl
                    simpa [Kd.slice, Nat.mul_comm] using h1
                  have hf2 : wr.frozen? ⟨g, ii * 2 + 1, none⟩ = false := by
                    have h1 := hfr 0
                    simpa [Kd.slice, Nat.mul_comm] using h1
                  have hne : some g ≠ (Value.slice Av xx.length cv).ownBlock := fun e => (hoki g (hR.1 g e.symm)).2 rfl
                  have hHw := Kd.H_widen hH
                  replace hA1 := Aside0.mk hA1
                  replace hlen := Aside0.mk hlen
                  go_wp2_with ((with_reducible refine gate_builtin (b := .append) (xs := #[.tmp 54, .tmp 56]) rfl ?_); at_builtin; refine Kd.R_append (Kd.int .i64) (w0 := w) w.heap.size rfl (.tmp 54) (.tmp 56) 22 3 (.int .i64 0) 8 rfl Try.underlying22 info3 rfl (by decide) (by omega) (.slice Av xx.length cv) xx (idx : Int) [.int .i64 idx] (fun k_ => oki k_ ∨ w.heap.size ≤ k_ ∧ wr.heap.size ≤ k_) (fun _ => False) rfl rfl ?aP (fun _ hk => hk.elim) ?aF ?aO ?aB ?aS ?aL ?_; (case aP => exact rfl); (case aB => exact HB.out); (case aF => exact (fun k_ hk_ => .inr ⟨Nat.le_trans HB.out.size hk_, hk_⟩)); (case aO => exact Kd.R_mono hR (fun k_ hk_ => .inl hk_)); (case aS => exact HB.out.size); (case aL => omega); intro v1 w2 hR1 hB1 hG1 _; rw [← hyy.out] at hR1; obtain ⟨Aw, cw, rfl⟩ := Kd.R_slice hR1; have hx3 := World.grownBy.cell hG1 hx2 hne; have hf3 : w2.frozen? ⟨g, ii * 2 + 1, none⟩ = false := (World.frozen?_of_block (hG1.block g (World.block_lt_of_cell? _ _ hx2) hne)).trans hf2; have hS2 := impl_WeighingsOf.putback (Kd.H_grown hHw hG1 (fun k_ hk_ => .inl (hR.1 k_ hk_))) (by omega) hR1 (fun k_ hk_ => hk_.elim (fun h_ => (hoki k_ h_).2) (fun h_ => by have h1_ := World.block_lt_of_cell? _ _ hx2; dsimp only at h1_; omega)); have hB2 := Below.setCell hB1 (p := ⟨g, ii * 2 + 1, none⟩) hgw (.slice Aw yy.length cw); replace hS2 := Aside0.mk hS2; replace hB2 := Aside0.mk hB2; clear hG1 hR1 hB1)
                  go_roundg (m - (ii + 1))
                  case measure => omega
                  case rel => exact ⟨ii + 1, rs.set (2 * ii + 1) yy, by omega, by omega, by go_num, ⟨hA1.out, by simpa using hrl, hlen2.out⟩, by first | exact hS2 | (rw [show ii * 2 + 1 = 2 * ii + 1 by omega]; exact hS2), hB2⟩
                · rw [if_neg a2] at hA1
                  have a2b : (a == -1) = false := beq_eq_false_iff_ne.mpr a2
                  replace hA1 := Aside0.mk hA1
                  replace hlen := Aside0.mk hlen
                  clear a1 a2
                  go_wp2
                  go_roundg (m - (ii + 1))
                  case measure => omega
                  case rel => exact ⟨ii + 1, rs, by omega, by omega, by go_num, ⟨hA1.out, hrl, fun t => ⟨(hlen.out t).1, fun h2 => (hlen.out t).2 (by omega)⟩⟩, HS, HB⟩
            · have hltzi : decide ((ii : Int) < (m : Int)) = false := decide_eq_false (by omega)
              obtain ⟨hA1, hrl, hlen⟩ := hA.out
              rw [show wd.drop ii = [] from List.drop_eq_nil_of_le (by have := hwm.out; omega), impl_WeighingsOf.one] at hA1
              replace hA1 := Aside0.mk hA1
              replace hlen := Aside0.mk hlen
              clear hA
              have hk1 : idx + 1 ≤ l0.length := hlt
              go_wp2
              go_roundg (l0.length - (idx + 1))
              case measure => omega
              case rel => exact ⟨idx + 1, rs, by omega, by omega, by go_num, ⟨by simpa using hA1.out, hrl, fun t => (hlen.out t).1⟩, HS, HB⟩
        · have hltz : decide ((idx : Int) < (l0.length : Int)) = false := decide_eq_false (by omega)
          obtain ⟨hA1, hrl, _⟩ := hA.out
          rw [List.drop_eq_nil_of_le (by omega), impl_WeighingsOf.all] at hA1
          have hA2 := Aside0.mk hA1
          clear hA1 hA
          go_wp2
          go_ret2
          exact ⟨_, rfl, .inr ⟨g, m, rs, rfl, by rw [hA2.out], hrl, HS.out⟩, HB.out⟩
    · rw [if_neg hc] at h1
      exact absurd h1 (by simp)
theorem impl_WeighingsOf.calls (k : Nat) (A0 : Option Addr) (c0 : Nat) (l0 : List (List Int)) (r1 : List S29) (r2 : Bool) (w : World) (hr0 : Kd.C (Kd.slice 3 (Kd.int .i64)) w A0 l0.length l0) (hc0 : l0.length ≤ c0) (h : impl_WeighingsOf.f k l0 = some (r1, r2)) :
    Calls Try.prog 45 #[.slice A0 l0.length c0] w fun e w' => ∃ v0_ : Value, e = .returned (.tuple #[v0_, .bool r2]) ∧ Kd.S k29 29 w' w.heap.size (fun _ => True) v0_ r1 ∧ Below w.heap.size w w' := by
  refine (impl_WeighingsOf.calls0 k A0 c0 l0 r1 r2 w hr0 hc0 h).mono ?_
  rintro e w' ⟨v, rfl, hF, hB⟩
  refine ⟨v, rfl, ?_, hB⟩
  rcases hF with ⟨rfl, rfl⟩ | ⟨g, m, rs, rfl, rfl, hl, hS⟩
  · exact Kd.S_nil _ _ _ _ _
  · exact impl_WeighingsOf.flatK hl hS

/-! ### spec_l5Lift: function 86 -/
def spec_l5Lift.l0 : Nat → Int → Int → Option (Int)
  | 0, _, _ => none
  | k + 1, x0, x1 => if x1 > 0 then (spec_l5Lift.l0 k (wrap64 (3 * x0)) (wrap64 (x1 - 1))) else (some x0)
def spec_l5Lift.f (k : Nat) (a0 : Int) (a1 : Int) : Option (Int) := spec_l5Lift.l0 k a0 a1
theorem spec_l5Lift.mono_l : ∀ k, (∀ y0 y1, LeO (spec_l5Lift.l0 k y0 y1) (spec_l5Lift.l0 (k + 1) y0 y1))
  | 0 => fun _ _ r h => by simp [spec_l5Lift.l0] at h
  | k + 1 => by
    have ih0 := spec_l5Lift.mono_l k
    · intro y0 y1
      unfold spec_l5Lift.l0
      repeat' first
      | (with_reducible exact ih0 _ _)
      | (with_reducible exact LeO.refl _)
      | (with_reducible exact LeO.none _)
      | (with_reducible refine LeO.ite ?_ ?_)
      | (with_reducible refine LeO.bind ?_ (fun _ => ?_))
      | exact ih0 _ _
      | exact LeO.none _
      | refine LeO.ite ?_ ?_
      | refine LeO.bind ?_ (fun _ => ?_)
theorem spec_l5Lift.mono : ∀ a0 a1 k, LeO (spec_l5Lift.f k a0 a1) (spec_l5Lift.f (k + 1) a0 a1) := by
  intro a0 a1 k
  have ih0 := spec_l5Lift.mono_l k
  unfold spec_l5Lift.f
  repeat' first
      | (with_reducible exact ih0 _ _)
      | (with_reducible exact LeO.refl _)
      | (with_reducible exact LeO.none _)
      | (with_reducible refine LeO.ite ?_ ?_)
      | (with_reducible refine LeO.bind ?_ (fun _ => ?_))
      | exact ih0 _ _
      | exact LeO.none _
      | refine LeO.ite ?_ ?_
      | refine LeO.bind ?_ (fun _ => ?_)
set_option maxHeartbeats 8000000 in
set_option maxRecDepth 100000 in
theorem spec_l5Lift.calls (k : Nat) (a0 : Int) (a1 : Int) (r : Int) (w : World) (h : spec_l5Lift.f k a0 a1 = some r) :
    Calls Try.prog 86 #[.int .i64 a0, .int .i64 a1] w fun e w' => e = .returned (.int .i64 r) ∧ Drawn0 w w' := by
  have H : (spec_l5Lift.l0 k a0 a1) = some r := h
  clear h
  have H' := Aside0.mk H
  clear H
  go_enter Try.func86, Try.ntmps86
  go_wp2
  go_loopg [0, 1] k (fun kq v0 v1 w' => ∃ (x0_1 : Int) (x1_1 : Int), v0 = .int .i64 x0_1 ∧ v1 = .int .i64 x1_1 ∧ Aside0 (spec_l5Lift.l0 kq x0_1 x1_1 = some r) ∧ Aside0 (kq ≤ k) ∧ Drawn0 w w')
  case atStart => exact ⟨(a0), (a1), (by first | rfl | (simp; done) | (simp [*]; done)), (by first | rfl | (simp; done) | (simp [*]; done)), H', ⟨Nat.le_refl _⟩, by repeat (first | exact Drawn0.refl _ | apply Drawn0.step)⟩
  case round =>
    clear H'
    try clear p2
    obtain ⟨x0_1, x1_1, rfl, rfl, HA, HK1, ⟨m1, rfl⟩⟩ := hrel
    cases gk with
    | zero => exact absurd HA.out (by simp [spec_l5Lift.l0])
    | succ k1 =>
      have H := HA.out
      clear HA
      simp only [spec_l5Lift.l0] at H
      by_cases c3 : x1_1 > 0
      · rw [if_pos c3] at H
        have c3b0 : decide (0 < x1_1) = true := decide_eq_true c3
        clear c3
        have H' := Aside0.mk H
        clear H
        go_wp2
        go_roundg k1
        case measure => have := HK1.out; omega
        case rel => exact ⟨(wrap64 (3 * x0_1)), (wrap64 (x1_1 - 1)), (by first | rfl | (simp; done) | (simp [*]; done)), (by first | rfl | (simp; done) | (simp [*]; done)), H', ⟨by have := HK1.out; omega⟩, by repeat (first | exact Drawn0.refl _ | apply Drawn0.step)⟩
      · rw [if_neg c3] at H
        have c3b0 : decide (0 < x1_1) = false := decide_eq_false c3
        clear c3
        obtain rfl := Option.some.inj H
        go_wp2
        go_ret
        exact ⟨by first | rfl | (simp; done) | (simp [*]; done), by repeat (first | exact Drawn0.refl _ | apply Drawn0.step)⟩

/-! ### spec_MakePower: function 50 -/
def spec_MakePower.f (k : Nat) (a0 : Int) : Option (Int) := (spec_l5Lift.f k 1 (mx 0 (mn a0 30))).bind fun t136 => (some t136)
theorem spec_MakePower.mono : ∀ a0 k, LeO (spec_MakePower.f k a0) (spec_MakePower.f (k + 1) a0) := by
  intro a0 k
  unfold spec_MakePower.f
  repeat' first
      | (with_reducible exact spec_l5Lift.mono _ _ _)
      | (with_reducible exact LeO.refl _)
      | (with_reducible exact LeO.none _)
      | (with_reducible refine LeO.ite ?_ ?_)
      | (with_reducible refine LeO.bind ?_ (fun _ => ?_))
      | exact spec_l5Lift.mono _ _ _
      | exact LeO.none _
      | refine LeO.ite ?_ ?_
      | refine LeO.bind ?_ (fun _ => ?_)
set_option maxHeartbeats 8000000 in
set_option maxRecDepth 100000 in
theorem spec_MakePower.calls (k : Nat) (a0 : Int) (r : Int) (w : World) (h : spec_MakePower.f k a0 = some r) :
    Calls Try.prog 50 #[.int .i64 a0] w fun e w' => e = .returned (.int .i64 r) ∧ Below w.heap.size w w' := by
  have HB := Aside0.mk (Below.refl w.heap.size w)
  have H : ((spec_l5Lift.f k 1 (mx 0 (mn a0 30))).bind fun t136 => (some t136)) = some r := h
  clear h
  obtain ⟨ji2, hji2⟩ : ∃ j_ : Int, (mn a0 30) = j_ := ⟨_, rfl⟩
  replace H : ((spec_l5Lift.f k 1 (mx 0 (ji2))).bind fun t136 => (some t136)) = some r := by first | (rw [hji2] at H; exact H) | (simp only [hji2] at H ⊢; exact H)
  (try (have hji2h : ji2 ≤ 30 := by (rw [← hji2]; unfold mn; (repeat' split) <;> omega)))
  (try (have hji2g : ji2 ≤ 64 := by omega))
  have hji2_ : (if 30 < a0 then 30 else a0) = ji2 := hji2
  obtain ⟨ji3, hji3⟩ : ∃ j_ : Int, (mx 0 (ji2)) = j_ := ⟨_, rfl⟩
  replace H : ((spec_l5Lift.f k 1 (ji3)).bind fun t136 => (some t136)) = some r := by first | (rw [hji3] at H; exact H) | (simp only [hji3] at H ⊢; exact H)
  have hji3_ : (if 0 < (ji2) then (ji2) else 0) = ji3 := hji3
  replace H := Option.bind_eq_some_iff.mp H
  obtain ⟨t136, A40, H⟩ := H
  replace H : (some t136) = some r := H
  have A4 := Aside0.mk A40
  clear A40
  obtain rfl := Option.some.inj H
  go_enter Try.func50, Try.ntmps50
  go_wp2_with (first | ((with_reducible refine gate_callee (f := 86) rfl ?_); refine goesL_ (some 6) rfl rfl Try.func86 (by kernel_rfl) rfl #[.int .i64 1, .int .i64 ji3] rfl (by (try simp only [List.map_toArray, List.map_cons, List.map_nil]); first | done | (simp only [hji3]; rfl) | rfl | (simp only [List.length_drop, List.length_take]; rfl)) ?_; (with_reducible refine (spec_l5Lift.calls k 1 ji3 t136 _ A4.out).mono ?_); rintro e w' ⟨rfl, ⟨nd, rfl⟩⟩; refine ⟨_, rfl, ?_⟩))
  go_ret
  exact ⟨by first | rfl | (simp [errW_none, errW_some] <;> rfl) | (simp only [← hji2, ← hji3]; first | rfl | (simp [errW_none, errW_some] <;> rfl)) | (simp [*, errW_none, errW_some] <;> rfl), by repeat (first | (with_reducible first | exact HB.out | apply below_alloc | apply pw_below_drewN | apply below_drew1) | exact HB.out)⟩

/-! ### impl_carried: function 75 -/
def impl_carried.f (a0 : Int) : Option (Int × Int) := if a0 > 1 then (some (wrap64 (a0 - 3), 1)) else (if a0 < (-1) then (some (wrap64 (a0 + 3), (-1))) else (some (a0, 0)))
set_option maxHeartbeats 8000000 in
set_option maxRecDepth 100000 in
theorem impl_carried.calls (a0 : Int) (r1 : Int) (r2 : Int) (w : World) (h : impl_carried.f a0 = some (r1, r2)) :
    Calls Try.prog 75 #[.int .i64 a0] w fun e w' => e = .returned (.tuple #[.int .i64 r1, .int .i64 r2]) ∧ Drawn0 w w' := by
  have H : (if a0 > 1 then (some (wrap64 (a0 - 3), 1)) else (if a0 < (-1) then (some (wrap64 (a0 + 3), (-1))) else (some (a0, 0)))) = some (r1, r2) := h
  clear h
  by_cases c2 : a0 > 1
  · rw [if_pos c2] at H
    have c2b0 : decide (1 < a0) = true := decide_eq_true c2
    clear c2
    simp only [Option.some.injEq, Prod.mk.injEq] at H
    obtain ⟨rfl, rfl⟩ := H
    go_enter Try.func75, Try.ntmps75
    go_wp2
    go_ret2
    exact ⟨by first | rfl | (simp; done) | (simp [*]; done), by repeat (first | exact Drawn0.refl _ | apply Drawn0.step)⟩
  · rw [if_neg c2] at H
    have c2b0 : decide (1 < a0) = false := decide_eq_false c2
    clear c2
    by_cases c3 : a0 < (-1)
    · rw [if_pos c3] at H
      have c3b0 : decide (a0 < (-1)) = true := decide_eq_true c3
      clear c3
      simp only [Option.some.injEq, Prod.mk.injEq] at H
      obtain ⟨rfl, rfl⟩ := H
      go_enter Try.func75, Try.ntmps75
      go_wp2
      go_ret2
      exact ⟨by first | rfl | (simp; done) | (simp [*]; done), by repeat (first | exact Drawn0.refl _ | apply Drawn0.step)⟩
    · rw [if_neg c3] at H
      have c3b0 : decide (a0 < (-1)) = false := decide_eq_false c3
      clear c3
      simp only [Option.some.injEq, Prod.mk.injEq] at H
      obtain ⟨rfl, rfl⟩ := H
      go_enter Try.func75, Try.ntmps75
      go_wp2
      go_ret2
      exact ⟨by first | rfl | (simp; done) | (simp [*]; done), by repeat (first | exact Drawn0.refl _ | apply Drawn0.step)⟩

/-! ### impl_TurnTrit: function 33 -/
def impl_TurnTrit.f (a0 : Int) : Option (Int) := (impl_IsTrit.f a0).bind fun t137 => (if t137 = true then ((impl_carried.f (wrap64 (a0 + 1))).bind fun bt138 => (some bt138.1)) else (some 0))
set_option maxHeartbeats 8000000 in
set_option maxRecDepth 100000 in
theorem impl_TurnTrit.calls (a0 : Int) (r : Int) (w : World) (h : impl_TurnTrit.f a0 = some r) :
    Calls Try.prog 33 #[.int .i64 a0] w fun e w' => e = .returned (.int .i64 r) ∧ Drawn0 w w' := by
  have H : ((impl_IsTrit.f a0).bind fun t137 => (if t137 = true then ((impl_carried.f (wrap64 (a0 + 1))).bind fun bt138 => (some bt138.1)) else (some 0))) = some r := h
  clear h
  replace H := Option.bind_eq_some_iff.mp H
  obtain ⟨t137, A20, H⟩ := H
  replace H : (if t137 = true then ((impl_carried.f (wrap64 (a0 + 1))).bind fun bt138 => (some bt138.1)) else (some 0)) = some r := H
  have A2 := Aside0.mk A20
  clear A20
  by_cases c3 : t137 = true
  · (try subst c3)
    have H1 : ((impl_carried.f (wrap64 (a0 + 1))).bind fun bt138 => (some bt138.1)) = some r := by rw [if_pos rfl] at H; exact H
    clear H
    have H := H1
    clear H1
    replace H := Option.bind_eq_some_iff.mp H
    obtain ⟨⟨t138, t139⟩, A40, H⟩ := H
    replace H : (some t138) = some r := H
    have A4 := Aside0.mk A40
    clear A40
    obtain rfl := Option.some.inj H
    go_enter Try.func33, Try.ntmps33
    go_wp2_with (first | ((with_reducible refine gate_callee (f := 70) rfl ?_); refine goesL_ (some 6) rfl rfl Try.func70 (by kernel_rfl) rfl #[.int .i64 a0] rfl (by (try simp only [List.map_toArray, List.map_cons, List.map_nil]); first | done | rfl | (simp only [List.length_drop, List.length_take]; rfl)) ?_; (with_reducible refine (impl_IsTrit.calls a0 true _ A2.out).mono ?_); rintro e w' ⟨rfl, ⟨nd, rfl⟩⟩; refine ⟨_, rfl, ?_⟩) | ((with_reducible refine gate_callee (f := 75) rfl ?_); refine goesL_ (some 11) rfl rfl Try.func75 (by kernel_rfl) rfl #[.int .i64 (wrap64 (a0 + 1))] rfl (by (try simp only [List.map_toArray, List.map_cons, List.map_nil]); first | done | rfl | (simp only [List.length_drop, List.length_take]; rfl)) ?_; (with_reducible refine (impl_carried.calls (wrap64 (a0 + 1)) t138 t139 _ A4.out).mono ?_); rintro e w' ⟨rfl, ⟨nd, rfl⟩⟩; refine ⟨_, rfl, ?_⟩))
    go_ret
    exact ⟨by first | rfl | (simp; done) | (simp [*]; done), by repeat (first | exact Drawn0.refl _ | apply Drawn0.step)⟩
  · replace c3 := Bool.eq_false_iff.mpr c3
    (try subst c3)
    have H1 : (some 0) = some r := by rw [if_neg (show ¬ (false = true) by decide)] at H; exact H
    clear H
    have H := H1
    clear H1
    obtain rfl := Option.some.inj H
    go_enter Try.func33, Try.ntmps33
    go_wp2_with (first | ((with_reducible refine gate_callee (f := 70) rfl ?_); refine goesL_ (some 6) rfl rfl Try.func70 (by kernel_rfl) rfl #[.int .i64 a0] rfl (by (try simp only [List.map_toArray, List.map_cons, List.map_nil]); first | done | rfl | (simp only [List.length_drop, List.length_take]; rfl)) ?_; (with_reducible refine (impl_IsTrit.calls a0 false _ A2.out).mono ?_); rintro e w' ⟨rfl, ⟨nd, rfl⟩⟩; refine ⟨_, rfl, ?_⟩))
    go_ret
    exact ⟨by first | rfl | (simp; done) | (simp [*]; done), by repeat (first | exact Drawn0.refl _ | apply Drawn0.step)⟩

end Go.Proofs.Ytffohdlbkigehaa.HFnCoins

/- Text for FnExprs: written by a program of this session on the pattern of the kit's print. -/
import Derived.Test.YtjfgcipbbcplmaaDoorHFnExprsx0
import Derived.Test.YtjfgcipbbcplmaaDoorHFnExprsx11
namespace Go.Proofs.YtjfgcipbbcplmaaDoor.HFnExprs
set_option maxHeartbeats 8000000
set_option maxRecDepth 100000
open Go.RowKit Go.Proofs.YtjfgcipbbcplmaaDoorW.PrintWords Go.Proofs.YtjfgcipbbcplmaaDoorW.PrintLast Go.Proofs.YtjfgcipbbcplmaaDoorW.PrintMore
attribute [local go_sem] max2_int min2_int max_two min_two max_three min_three max_four min_four
set_option linter.unusedVariables false
set_option linter.unusedSimpArgs false

/-! ### spec_l10Shape: function 92 -/
mutual
def spec_l10Shape.j0 : Nat → Int → Int → Int → List (S25) → Option (Bool)
 | 0, _, _, _, _ => none
 | k + 1, x3, x603000, x603001, x603002 => (spec_l1In.f x603000 1 8).bind fun t603 => (if t603 = true then (if (x603002.length : Int) = x3 then (if x3 > 0 then (if x603001 = 0 then ((spec_LimitOf.f k 30).bind fun t604 => ((spec_l1In.f x603001 0 t604).bind fun t605 => (spec_l10Shape.j1 k (!t605) x603000 x603001 x603002))) else (spec_l10Shape.j1 k true x603000 x603001 x603002)) else ((spec_LimitOf.f k 30).bind fun t606 => ((spec_l1In.f x603001 0 t606).bind fun t607 => (spec_l10Shape.j1 k (!t607) x603000 x603001 x603002)))) else (spec_l10Shape.j1 k true x603000 x603001 x603002)) else (spec_l10Shape.j1 k true x603000 x603001 x603002))
def spec_l10Shape.j1 : Nat → Bool → Int → Int → List (S25) → Option (Bool)
 | 0, _, _, _, _ => none
 | k + 1, x39, x603000, x603001, x603002 => if x39 = true then (some false) else (spec_l10Shape.l0 k x603002 (x603002.length : Int) 0)
def spec_l10Shape.l0 : Nat → List (S25) → Int → Int → Option (Bool)
 | 0, _, _, _ => none
 | k + 1, x41, x42, x43 => if x43 < x42 then (if 0 ≤ x43 then (if x43 < (x41.length : Int) then ((spec_l10Shape.f k ((rd_T25 x41 x43).f0) ((rd_T25 x41 x43).f1) ((rd_T25 x41 x43).f2)).bind fun t610 => (if t610 = true then (spec_l10Shape.l0 k x41 x42 (wrap64 (x43 + 1))) else (some false))) else (none)) else (none)) else (some true)
def spec_l10Shape.f : Nat → Int → Int → List (S25) → Option (Bool)
 | 0, _, _, _ => none
 | k + 1, a0_0, a0_1, l0_2 => if a0_0 = 1 then (spec_l10Shape.j0 k 0 a0_0 a0_1 l0_2) else (if a0_0 = 2 then (spec_l10Shape.j0 k 1 a0_0 a0_1 l0_2) else (if a0_0 = 3 then (spec_l10Shape.j0 k 1 a0_0 a0_1 l0_2) else (spec_l10Shape.j0 k 2 a0_0 a0_1 l0_2)))
end
theorem spec_l10Shape.calls (k : Nat) : ∀ (a0_0 : Int) (a0_1 : Int) (A0_2 : Option Addr) (c0_2 : Nat) (l0_2 : List (S25)) (r : Bool) (w : World) (hr0_2 : Kd.C k25 w A0_2 l0_2.length l0_2) (hc0_2 : l0_2.length ≤ c0_2) (h : spec_l10Shape.f k a0_0 a0_1 l0_2 = some r),
  Calls Tryd.prog 92 #[.agg #[.int .i64 a0_0, .int .i64 a0_1, .slice A0_2 l0_2.length c0_2]] w fun e w' => e = .returned (.bool r) ∧ Below w.heap.size w w' := by
 induction k using Nat.strongRecOn with
 | _ k ih =>
 intro a0_0 a0_1 A0_2 c0_2 l0_2 r w hr0_2 hc0_2 h
 cases k with
 | zero => exact absurd h (by simp [spec_l10Shape.f])
 | succ k =>
 simp only [spec_l10Shape.f] at h
 have hu25 := Tryd.underlying25
 have HR0_2 := Ak hr0_2
 have HC0_2 := Ak hc0_2
 clear hr0_2 hc0_2
 have HB := Ak (Below.refl w.heap.size w)
 have H : (if a0_0 = 1 then (spec_l10Shape.j0 k 0 a0_0 a0_1 l0_2) else (if a0_0 = 2 then (spec_l10Shape.j0 k 1 a0_0 a0_1 l0_2) else (if a0_0 = 3 then (spec_l10Shape.j0 k 1 a0_0 a0_1 l0_2) else (spec_l10Shape.j0 k 2 a0_0 a0_1 l0_2)))) = some r := h
 clear h
 have HC2 := Ak H
 clear H
 go_enter Tryd.func92, Tryd.ntmps92
 go_upto_block 0 with (first | ((with_reducible refine gate_dst (N := 1) rfl ?_); (try (refine gate_guard (by rfl) ?_; dsimp only)); refine Qk 1 #[.int .i64 a0_0, .int .i64 a0_1, .slice A0_2 l0_2.length c0_2] 25 ?_; intro gb602 hg w3 hbox hb; have BK602 := Ak (hbox); have GW602 := Ak ((Qp hg HB.out : w.heap.size ≤ gb602)); have GE602 := Ak ((Qp hg HB.out : w.heap.size ≤ gb602)); replace HB := Ak (below_step (Qb HB.out) hb); clear hb hbox hg; obtain ⟨hcz4_0, hcz4_1, hcz4_2⟩ := Qu3 BK602.out; have hfz4_0 := blk_frozen BK602.out 0; have hfz4_1 := blk_frozen BK602.out 1; have hfz4_2 := blk_frozen BK602.out 2))
 repeat (go_quiet (first | ((with_reducible refine gate_dst (N := 1) rfl ?_); (try (refine gate_guard (by rfl) ?_; dsimp only)); refine Qk 1 #[.int .i64 a0_0, .int .i64 a0_1, .slice A0_2 l0_2.length c0_2] 25 ?_; intro gb602 hg w3 hbox hb; have BK602 := Ak (hbox); have GW602 := Ak ((Qp hg HB.out : w.heap.size ≤ gb602)); have GE602 := Ak ((Qp hg HB.out : w.heap.size ≤ gb602)); replace HB := Ak (below_step (Qb HB.out) hb); clear hb hbox hg; obtain ⟨hcz4_0, hcz4_1, hcz4_2⟩ := Qu3 BK602.out; have hfz4_0 := blk_frozen BK602.out 0; have hfz4_1 := blk_frozen BK602.out 1; have hfz4_2 := blk_frozen BK602.out 2)); go_upto_block 0 with (first | ((with_reducible refine gate_dst (N := 1) rfl ?_); (try (refine gate_guard (by rfl) ?_; dsimp only)); refine Qk 1 #[.int .i64 a0_0, .int .i64 a0_1, .slice A0_2 l0_2.length c0_2] 25 ?_; intro gb602 hg w3 hbox hb; have BK602 := Ak (hbox); have GW602 := Ak ((Qp hg HB.out : w.heap.size ≤ gb602)); have GE602 := Ak ((Qp hg HB.out : w.heap.size ≤ gb602)); replace HB := Ak (below_step (Qb HB.out) hb); clear hb hbox hg; obtain ⟨hcz4_0, hcz4_1, hcz4_2⟩ := Qu3 BK602.out; have hfz4_0 := blk_frozen BK602.out 0; have hfz4_1 := blk_frozen BK602.out 1; have hfz4_2 := blk_frozen BK602.out 2)))
 (try simp only [Act.put, List.setIfInBounds_toArray, List.set_cons_zero, List.set_cons_succ])
 go_cut [3] (fun v3 wc => ∃ (kq : Nat) (x3_1 : Int), v3 = .int .i64 x3_1 ∧ Aside0 (spec_l10Shape.j0 kq x3_1 a0_0 a0_1 l0_2 = some r) ∧ Aside0 (kq ≤ k) ∧ Aside0 (wc.heap[gb602]? = some (.cells #[.int .i64 a0_0, .int .i64 a0_1, (.slice A0_2 l0_2.length c0_2)] 25 (0, 0))) ∧ Aside0 (Below w.heap.size w wc))
 case first =>
  have H := HC2.out
  clear HC2
  by_cases c5 : a0_0 = 1
  ·rw [if_pos c5] at H
   have c5b0 : (a0_0 == 1) = true := beq_iff_eq.mpr c5
   have c5b1 : (a0_0 != 1) = false := bne_eq_false_iff_eq.mpr c5
   clear c5
   (first | rw [c5b0] | (simp only [i64_w, i32_w]; rw [c5b0]) | skip)
   have H' := Ak H
   clear H
   go_wp2
   repeat (go_quiet (fail); try go_wp2)
   go_meet
   case rel => exact ⟨_, (0), Qi, H', ⟨by first | omega | exact Nat.le_refl _⟩, ⟨by refine Qe ?_; exact BK602.out⟩, ⟨Qb HB.out⟩⟩
  ·rw [if_neg c5] at H
   have c5b0 : (a0_0 == 1) = false := beq_eq_false_iff_ne.mpr c5
   have c5b1 : (a0_0 != 1) = true := bne_iff_ne.mpr c5
   (first | rw [c5b0] | (simp only [i64_w, i32_w]; rw [c5b0]) | skip)
   by_cases c6 : a0_0 = 2
   ·rw [if_pos c6] at H
    have c6b0 : (a0_0 == 2) = true := beq_iff_eq.mpr c6
    have c6b1 : (a0_0 != 2) = false := bne_eq_false_iff_eq.mpr c6
    clear c6
    have H' := Ak H
    clear H
    go_wp2
    repeat (go_quiet (fail); try go_wp2)
    go_meet
    case rel => exact ⟨_, (1), Qi, H', ⟨by first | omega | exact Nat.le_refl _⟩, ⟨by refine Qe ?_; exact BK602.out⟩, ⟨Qb HB.out⟩⟩
   ·rw [if_neg c6] at H
    have c6b0 : (a0_0 == 2) = false := beq_eq_false_iff_ne.mpr c6
    have c6b1 : (a0_0 != 2) = true := bne_iff_ne.mpr c6
    by_cases c7 : a0_0 = 3
    ·rw [if_pos c7] at H
     have c7b0 : (a0_0 == 3) = true := beq_iff_eq.mpr c7
     have c7b1 : (a0_0 != 3) = false := bne_eq_false_iff_eq.mpr c7
     clear c7
     have H' := Ak H
     clear H
     go_wp2
     repeat (go_quiet (fail); try go_wp2)
     go_meet
     case rel => exact ⟨_, (1), Qi, H', ⟨by first | omega | exact Nat.le_refl _⟩, ⟨by refine Qe ?_; exact BK602.out⟩, ⟨Qb HB.out⟩⟩
    ·rw [if_neg c7] at H
     have c7b0 : (a0_0 == 3) = false := beq_eq_false_iff_ne.mpr c7
     have c7b1 : (a0_0 != 3) = true := bne_iff_ne.mpr c7
     have H' := Ak H
     clear H
     go_wp2
     repeat (go_quiet (fail); try go_wp2)
     go_meet
     case rel => exact ⟨_, (2), Qi, H', ⟨by first | omega | exact Nat.le_refl _⟩, ⟨by refine Qe ?_; exact BK602.out⟩, ⟨Qb HB.out⟩⟩
 case rest =>
  clear HC2
  (try clear p2)
  obtain ⟨kq, x3_1, rfl, HA, HJ1, BK602, HB⟩ := hcut
  cases kq with
  | zero => exact absurd HA.out (by simp [spec_l10Shape.j0])
  | succ kj1 =>
   have H := HA.out
   clear HA
   simp only [spec_l10Shape.j0] at H
   have HC8 := Ak H
   clear H
   go_upto_region 8 with (fail)
   repeat (go_quiet (fail); go_upto_region 8 with (fail))
   go_cut [39] (fun v39 wc => ∃ (kq : Nat) (x39_7 : Bool), v39 = .bool x39_7 ∧ Aside0 (spec_l10Shape.j1 kq x39_7 a0_0 a0_1 l0_2 = some r) ∧ Aside0 (kq ≤ kj1) ∧ Aside0 (wc.heap[gb602]? = some (.cells #[.int .i64 a0_0, .int .i64 a0_1, (.slice A0_2 l0_2.length c0_2)] 25 (0, 0))) ∧ Aside0 (Below w.heap.size w wc))
   case first =>
    have H := HC8.out
    clear HC8
    replace H := Option.bind_eq_some_iff.mp H
    obtain ⟨t603, A90, H⟩ := H
    replace H : (if t603 = true then (if (l0_2.length : Int) = x3_1 then (if x3_1 > 0 then (if a0_1 = 0 then ((spec_LimitOf.f kj1 30).bind fun t604 => ((spec_l1In.f a0_1 0 t604).bind fun t605 => (spec_l10Shape.j1 kj1 (!t605) a0_0 a0_1 l0_2))) else (spec_l10Shape.j1 kj1 true a0_0 a0_1 l0_2)) else ((spec_LimitOf.f kj1 30).bind fun t606 => ((spec_l1In.f a0_1 0 t606).bind fun t607 => (spec_l10Shape.j1 kj1 (!t607) a0_0 a0_1 l0_2)))) else (spec_l10Shape.j1 kj1 true a0_0 a0_1 l0_2)) else (spec_l10Shape.j1 kj1 true a0_0 a0_1 l0_2)) = some r := H
    have A9 := Ak A90
    clear A90
    by_cases c10 : t603 = true
    ·(try subst c10)
     have H1 : (if (l0_2.length : Int) = x3_1 then (if x3_1 > 0 then (if a0_1 = 0 then ((spec_LimitOf.f kj1 30).bind fun t604 => ((spec_l1In.f a0_1 0 t604).bind fun t605 => (spec_l10Shape.j1 kj1 (!t605) a0_0 a0_1 l0_2))) else (spec_l10Shape.j1 kj1 true a0_0 a0_1 l0_2)) else ((spec_LimitOf.f kj1 30).bind fun t606 => ((spec_l1In.f a0_1 0 t606).bind fun t607 => (spec_l10Shape.j1 kj1 (!t607) a0_0 a0_1 l0_2)))) else (spec_l10Shape.j1 kj1 true a0_0 a0_1 l0_2)) = some r := by rw [if_pos rfl] at H; exact H
     clear H
     have H := H1
     clear H1
     by_cases c11 : (l0_2.length : Int) = x3_1
     ·rw [if_pos c11] at H
      have c11b0 : ((l0_2.length : Int) == x3_1) = true := beq_iff_eq.mpr c11
      have c11b1 : ((l0_2.length : Int) != x3_1) = false := bne_eq_false_iff_eq.mpr c11
      clear c11
      (first | rw [c11b0] | (simp only [i64_w, i32_w]; rw [c11b0]) | skip)
      by_cases c12 : x3_1 > 0
      ·rw [if_pos c12] at H
       have c12b0 : decide (0 < x3_1) = true := decide_eq_true c12
       clear c12
       by_cases c13 : a0_1 = 0
       ·rw [if_pos c13] at H
        have c13b0 : (a0_1 == 0) = true := beq_iff_eq.mpr c13
        have c13b1 : (a0_1 != 0) = false := bne_eq_false_iff_eq.mpr c13
        clear c13
        replace H := Option.bind_eq_some_iff.mp H
        obtain ⟨t604, A140, H⟩ := H
        replace H : ((spec_l1In.f a0_1 0 t604).bind fun t605 => (spec_l10Shape.j1 kj1 (!t605) a0_0 a0_1 l0_2)) = some r := H
        have A14 := Ak A140
        clear A140
        replace H := Option.bind_eq_some_iff.mp H
        obtain ⟨t605, A150, H⟩ := H
        replace H : (spec_l10Shape.j1 kj1 (!t605) a0_0 a0_1 l0_2) = some r := H
        have A15 := Ak A150
        clear A150
        have H' := Ak H
        clear H
        obtain ⟨hcz16_0, hcz16_1, hcz16_2, hfz16_0, hfz16_1, hfz16_2⟩ := Qv3 BK602.out
        go_wp2_with (first | (go_at_call 98; (with_reducible refine (spec_l1In.calls a0_0 1 8 true _ A9.out).mono ?_); rintro e w' ⟨rfl, ⟨nd, rfl⟩⟩; (try first | exact ⟨rfl, _, World.drewN_drewN _ _ _⟩ | exact ⟨rfl, _, Eq.trans (World.drewN_drewN _ _ _) (congrArg (World.drewN _) (Nat.add_assoc _ _ _))⟩)) | (go_at_call 120; (with_reducible refine (spec_LimitOf.calls kj1 30 t604 _ A14.out).mono ?_); rintro e w' ⟨rfl, ⟨nd, rfl⟩⟩; (try first | exact ⟨rfl, _, World.drewN_drewN _ _ _⟩ | exact ⟨rfl, _, Eq.trans (World.drewN_drewN _ _ _) (congrArg (World.drewN _) (Nat.add_assoc _ _ _))⟩)) | (go_at_call 98; (with_reducible refine (spec_l1In.calls a0_1 0 t604 t605 _ A15.out).mono ?_); rintro e w' ⟨rfl, ⟨nd, rfl⟩⟩; (try first | exact ⟨rfl, _, World.drewN_drewN _ _ _⟩ | exact ⟨rfl, _, Eq.trans (World.drewN_drewN _ _ _) (congrArg (World.drewN _) (Nat.add_assoc _ _ _))⟩)))
        repeat (go_quiet (first | (go_at_call 98; (with_reducible refine (spec_l1In.calls a0_0 1 8 true _ A9.out).mono ?_); rintro e w' ⟨rfl, ⟨nd, rfl⟩⟩; (try first | exact ⟨rfl, _, World.drewN_drewN _ _ _⟩ | exact ⟨rfl, _, Eq.trans (World.drewN_drewN _ _ _) (congrArg (World.drewN _) (Nat.add_assoc _ _ _))⟩)) | (go_at_call 120; (with_reducible refine (spec_LimitOf.calls kj1 30 t604 _ A14.out).mono ?_); rintro e w' ⟨rfl, ⟨nd, rfl⟩⟩; (try first | exact ⟨rfl, _, World.drewN_drewN _ _ _⟩ | exact ⟨rfl, _, Eq.trans (World.drewN_drewN _ _ _) (congrArg (World.drewN _) (Nat.add_assoc _ _ _))⟩)) | (go_at_call 98; (with_reducible refine (spec_l1In.calls a0_1 0 t604 t605 _ A15.out).mono ?_); rintro e w' ⟨rfl, ⟨nd, rfl⟩⟩; (try first | exact ⟨rfl, _, World.drewN_drewN _ _ _⟩ | exact ⟨rfl, _, Eq.trans (World.drewN_drewN _ _ _) (congrArg (World.drewN _) (Nat.add_assoc _ _ _))⟩))); try go_wp2_with (first | (go_at_call 98; (with_reducible refine (spec_l1In.calls a0_0 1 8 true _ A9.out).mono ?_); rintro e w' ⟨rfl, ⟨nd, rfl⟩⟩; (try first | exact ⟨rfl, _, World.drewN_drewN _ _ _⟩ | exact ⟨rfl, _, Eq.trans (World.drewN_drewN _ _ _) (congrArg (World.drewN _) (Nat.add_assoc _ _ _))⟩)) | (go_at_call 120; (with_reducible refine (spec_LimitOf.calls kj1 30 t604 _ A14.out).mono ?_); rintro e w' ⟨rfl, ⟨nd, rfl⟩⟩; (try first | exact ⟨rfl, _, World.drewN_drewN _ _ _⟩ | exact ⟨rfl, _, Eq.trans (World.drewN_drewN _ _ _) (congrArg (World.drewN _) (Nat.add_assoc _ _ _))⟩)) | (go_at_call 98; (with_reducible refine (spec_l1In.calls a0_1 0 t604 t605 _ A15.out).mono ?_); rintro e w' ⟨rfl, ⟨nd, rfl⟩⟩; (try first | exact ⟨rfl, _, World.drewN_drewN _ _ _⟩ | exact ⟨rfl, _, Eq.trans (World.drewN_drewN _ _ _) (congrArg (World.drewN _) (Nat.add_assoc _ _ _))⟩))))
        go_meet
        case rel => exact ⟨_, (!t605), Qi, H', ⟨by have := HJ1.out; first | omega | exact Nat.le_refl _⟩, ⟨by refine Qe ?_; exact BK602.out⟩, ⟨Qb HB.out⟩⟩
       ·rw [if_neg c13] at H
        have c13b0 : (a0_1 == 0) = false := beq_eq_false_iff_ne.mpr c13
        have c13b1 : (a0_1 != 0) = true := bne_iff_ne.mpr c13
        have H' := Ak H
        clear H
        obtain ⟨hcz17_0, hcz17_1, hcz17_2, hfz17_0, hfz17_1, hfz17_2⟩ := Qv3 BK602.out
        go_wp2_with (first | (go_at_call 98; (with_reducible refine (spec_l1In.calls a0_0 1 8 true _ A9.out).mono ?_); rintro e w' ⟨rfl, ⟨nd, rfl⟩⟩; (try first | exact ⟨rfl, _, World.drewN_drewN _ _ _⟩ | exact ⟨rfl, _, Eq.trans (World.drewN_drewN _ _ _) (congrArg (World.drewN _) (Nat.add_assoc _ _ _))⟩)))
        repeat (go_quiet (first | (go_at_call 98; (with_reducible refine (spec_l1In.calls a0_0 1 8 true _ A9.out).mono ?_); rintro e w' ⟨rfl, ⟨nd, rfl⟩⟩; (try first | exact ⟨rfl, _, World.drewN_drewN _ _ _⟩ | exact ⟨rfl, _, Eq.trans (World.drewN_drewN _ _ _) (congrArg (World.drewN _) (Nat.add_assoc _ _ _))⟩))); try go_wp2_with (first | (go_at_call 98; (with_reducible refine (spec_l1In.calls a0_0 1 8 true _ A9.out).mono ?_); rintro e w' ⟨rfl, ⟨nd, rfl⟩⟩; (try first | exact ⟨rfl, _, World.drewN_drewN _ _ _⟩ | exact ⟨rfl, _, Eq.trans (World.drewN_drewN _ _ _) (congrArg (World.drewN _) (Nat.add_assoc _ _ _))⟩))))
        go_meet
        case rel => exact ⟨_, (true), Qi, H', ⟨by have := HJ1.out; first | omega | exact Nat.le_refl _⟩, ⟨by refine Qe ?_; exact BK602.out⟩, ⟨Qb HB.out⟩⟩
      ·rw [if_neg c12] at H
       have c12b0 : decide (0 < x3_1) = false := decide_eq_false c12
       clear c12
       replace H := Option.bind_eq_some_iff.mp H
       obtain ⟨t606, A180, H⟩ := H
       replace H : ((spec_l1In.f a0_1 0 t606).bind fun t607 => (spec_l10Shape.j1 kj1 (!t607) a0_0 a0_1 l0_2)) = some r := H
       have A18 := Ak A180
       clear A180
       replace H := Option.bind_eq_some_iff.mp H
       obtain ⟨t607, A190, H⟩ := H
       replace H : (spec_l10Shape.j1 kj1 (!t607) a0_0 a0_1 l0_2) = some r := H
       have A19 := Ak A190
       clear A190
       have H' := Ak H
       clear H
       obtain ⟨hcz20_0, hcz20_1, hcz20_2, hfz20_0, hfz20_1, hfz20_2⟩ := Qv3 BK602.out
       go_wp2_with (first | (go_at_call 98; (with_reducible refine (spec_l1In.calls a0_0 1 8 true _ A9.out).mono ?_); rintro e w' ⟨rfl, ⟨nd, rfl⟩⟩; (try first | exact ⟨rfl, _, World.drewN_drewN _ _ _⟩ | exact ⟨rfl, _, Eq.trans (World.drewN_drewN _ _ _) (congrArg (World.drewN _) (Nat.add_assoc _ _ _))⟩)) | (go_at_call 120; (with_reducible refine (spec_LimitOf.calls kj1 30 t606 _ A18.out).mono ?_); rintro e w' ⟨rfl, ⟨nd, rfl⟩⟩; (try first | exact ⟨rfl, _, World.drewN_drewN _ _ _⟩ | exact ⟨rfl, _, Eq.trans (World.drewN_drewN _ _ _) (congrArg (World.drewN _) (Nat.add_assoc _ _ _))⟩)) | (go_at_call 98; (with_reducible refine (spec_l1In.calls a0_1 0 t606 t607 _ A19.out).mono ?_); rintro e w' ⟨rfl, ⟨nd, rfl⟩⟩; (try first | exact ⟨rfl, _, World.drewN_drewN _ _ _⟩ | exact ⟨rfl, _, Eq.trans (World.drewN_drewN _ _ _) (congrArg (World.drewN _) (Nat.add_assoc _ _ _))⟩)))
       repeat (go_quiet (first | (go_at_call 98; (with_reducible refine (spec_l1In.calls a0_0 1 8 true _ A9.out).mono ?_); rintro e w' ⟨rfl, ⟨nd, rfl⟩⟩; (try first | exact ⟨rfl, _, World.drewN_drewN _ _ _⟩ | exact ⟨rfl, _, Eq.trans (World.drewN_drewN _ _ _) (congrArg (World.drewN _) (Nat.add_assoc _ _ _))⟩)) | (go_at_call 120; (with_reducible refine (spec_LimitOf.calls kj1 30 t606 _ A18.out).mono ?_); rintro e w' ⟨rfl, ⟨nd, rfl⟩⟩; (try first | exact ⟨rfl, _, World.drewN_drewN _ _ _⟩ | exact ⟨rfl, _, Eq.trans (World.drewN_drewN _ _ _) (congrArg (World.drewN _) (Nat.add_assoc _ _ _))⟩)) | (go_at_call 98; (with_reducible refine (spec_l1In.calls a0_1 0 t606 t607 _ A19.out).mono ?_); rintro e w' ⟨rfl, ⟨nd, rfl⟩⟩; (try first | exact ⟨rfl, _, World.drewN_drewN _ _ _⟩ | exact ⟨rfl, _, Eq.trans (World.drewN_drewN _ _ _) (congrArg (World.drewN _) (Nat.add_assoc _ _ _))⟩))); try go_wp2_with (first | (go_at_call 98; (with_reducible refine (spec_l1In.calls a0_0 1 8 true _ A9.out).mono ?_); rintro e w' ⟨rfl, ⟨nd, rfl⟩⟩; (try first | exact ⟨rfl, _, World.drewN_drewN _ _ _⟩ | exact ⟨rfl, _, Eq.trans (World.drewN_drewN _ _ _) (congrArg (World.drewN _) (Nat.add_assoc _ _ _))⟩)) | (go_at_call 120; (with_reducible refine (spec_LimitOf.calls kj1 30 t606 _ A18.out).mono ?_); rintro e w' ⟨rfl, ⟨nd, rfl⟩⟩; (try first | exact ⟨rfl, _, World.drewN_drewN _ _ _⟩ | exact ⟨rfl, _, Eq.trans (World.drewN_drewN _ _ _) (congrArg (World.drewN _) (Nat.add_assoc _ _ _))⟩)) | (go_at_call 98; (with_reducible refine (spec_l1In.calls a0_1 0 t606 t607 _ A19.out).mono ?_); rintro e w' ⟨rfl, ⟨nd, rfl⟩⟩; (try first | exact ⟨rfl, _, World.drewN_drewN _ _ _⟩ | exact ⟨rfl, _, Eq.trans (World.drewN_drewN _ _ _) (congrArg (World.drewN _) (Nat.add_assoc _ _ _))⟩))))
       go_meet
       case rel => exact ⟨_, (!t607), Qi, H', ⟨by have := HJ1.out; first | omega | exact Nat.le_refl _⟩, ⟨by refine Qe ?_; exact BK602.out⟩, ⟨Qb HB.out⟩⟩
     ·rw [if_neg c11] at H
      have c11b0 : ((l0_2.length : Int) == x3_1) = false := beq_eq_false_iff_ne.mpr c11
      have c11b1 : ((l0_2.length : Int) != x3_1) = true := bne_iff_ne.mpr c11
      (first | rw [c11b0] | (simp only [i64_w, i32_w]; rw [c11b0]) | skip)
      have H' := Ak H
      clear H
      obtain ⟨hcz21_0, hcz21_1, hcz21_2, hfz21_0, hfz21_1, hfz21_2⟩ := Qv3 BK602.out
      go_wp2_with (first | (go_at_call 98; (with_reducible refine (spec_l1In.calls a0_0 1 8 true _ A9.out).mono ?_); rintro e w' ⟨rfl, ⟨nd, rfl⟩⟩; (try first | exact ⟨rfl, _, World.drewN_drewN _ _ _⟩ | exact ⟨rfl, _, Eq.trans (World.drewN_drewN _ _ _) (congrArg (World.drewN _) (Nat.add_assoc _ _ _))⟩)))
      repeat (go_quiet (first | (go_at_call 98; (with_reducible refine (spec_l1In.calls a0_0 1 8 true _ A9.out).mono ?_); rintro e w' ⟨rfl, ⟨nd, rfl⟩⟩; (try first | exact ⟨rfl, _, World.drewN_drewN _ _ _⟩ | exact ⟨rfl, _, Eq.trans (World.drewN_drewN _ _ _) (congrArg (World.drewN _) (Nat.add_assoc _ _ _))⟩))); try go_wp2_with (first | (go_at_call 98; (with_reducible refine (spec_l1In.calls a0_0 1 8 true _ A9.out).mono ?_); rintro e w' ⟨rfl, ⟨nd, rfl⟩⟩; (try first | exact ⟨rfl, _, World.drewN_drewN _ _ _⟩ | exact ⟨rfl, _, Eq.trans (World.drewN_drewN _ _ _) (congrArg (World.drewN _) (Nat.add_assoc _ _ _))⟩))))
      go_meet
      case rel => exact ⟨_, (true), Qi, H', ⟨by have := HJ1.out; first | omega | exact Nat.le_refl _⟩, ⟨by refine Qe ?_; exact BK602.out⟩, ⟨Qb HB.out⟩⟩
    ·replace c10 := Bool.eq_false_iff.mpr c10
     (try subst c10)
     have H1 : (spec_l10Shape.j1 kj1 true a0_0 a0_1 l0_2) = some r := by rw [if_neg (show ¬ (false = true) by decide)] at H; exact H
     clear H
     have H := H1
     clear H1
     have H' := Ak H
     clear H
     obtain ⟨hcz22_0, hcz22_1, hcz22_2, hfz22_0, hfz22_1, hfz22_2⟩ := Qv3 BK602.out
     go_wp2_with (first | (go_at_call 98; (with_reducible refine (spec_l1In.calls a0_0 1 8 false _ A9.out).mono ?_); rintro e w' ⟨rfl, ⟨nd, rfl⟩⟩; (try first | exact ⟨rfl, _, World.drewN_drewN _ _ _⟩ | exact ⟨rfl, _, Eq.trans (World.drewN_drewN _ _ _) (congrArg (World.drewN _) (Nat.add_assoc _ _ _))⟩)))
     repeat (go_quiet (first | (go_at_call 98; (with_reducible refine (spec_l1In.calls a0_0 1 8 false _ A9.out).mono ?_); rintro e w' ⟨rfl, ⟨nd, rfl⟩⟩; (try first | exact ⟨rfl, _, World.drewN_drewN _ _ _⟩ | exact ⟨rfl, _, Eq.trans (World.drewN_drewN _ _ _) (congrArg (World.drewN _) (Nat.add_assoc _ _ _))⟩))); try go_wp2_with (first | (go_at_call 98; (with_reducible refine (spec_l1In.calls a0_0 1 8 false _ A9.out).mono ?_); rintro e w' ⟨rfl, ⟨nd, rfl⟩⟩; (try first | exact ⟨rfl, _, World.drewN_drewN _ _ _⟩ | exact ⟨rfl, _, Eq.trans (World.drewN_drewN _ _ _) (congrArg (World.drewN _) (Nat.add_assoc _ _ _))⟩))))
     go_meet
     case rel => exact ⟨_, (true), Qi, H', ⟨by have := HJ1.out; first | omega | exact Nat.le_refl _⟩, ⟨by refine Qe ?_; exact BK602.out⟩, ⟨Qb HB.out⟩⟩
   case rest =>
    clear HC8
    (try clear c1)
    obtain ⟨kq, x39_7, rfl, HA, HJ7, BK602, HB⟩ := hcut
    cases kq with
    | zero => exact absurd HA.out (by simp [spec_l10Shape.j1])
    | succ kj7 =>
     have H := HA.out
     clear HA
     simp only [spec_l10Shape.j1] at H
     by_cases c23 : x39_7 = true
     ·(try subst c23)
      have H1 : (some false) = some r := by rw [if_pos rfl] at H; exact H
      clear H
      have H := H1
      clear H1
      obtain rfl := Option.some.inj H
      go_wp2
      repeat (go_quiet (fail); try go_wp2)
      go_ret
      exact ⟨Qh, Qb HB.out⟩
     ·replace c23 := Bool.eq_false_iff.mpr c23
      (try subst c23)
      have H1 : (spec_l10Shape.l0 kj7 l0_2 (l0_2.length : Int) 0) = some r := by rw [if_neg (show ¬ (false = true) by decide)] at H; exact H
      clear H
      have H := H1
      clear H1
      have H' := Ak H
      clear H
      obtain ⟨hcz24_0, hcz24_1, hcz24_2, hfz24_0, hfz24_1, hfz24_2⟩ := Qv3 BK602.out
      go_wp2
      repeat (go_quiet (fail); try go_wp2)
      go_loopg [43] kj7 (fun kq v43 w' => ∃ (x43_3 : Int), v43 = .int .i64 x43_3 ∧ Aside0 (spec_l10Shape.l0 kq l0_2 (l0_2.length : Int) x43_3 = some r) ∧ Aside0 (kq ≤ kj7) ∧ Aside0 (w'.heap[gb602]? = some (.cells #[.int .i64 a0_0, .int .i64 a0_1, (.slice A0_2 l0_2.length c0_2)] 25 (0, 0))) ∧ Aside0 (Below w.heap.size w w'))
      case atStart => exact ⟨(0), Qi, H', ⟨Nat.le_refl _⟩, ⟨by refine Qe ?_; exact BK602.out⟩, ⟨Qb HB.out⟩⟩
      case round =>
       clear H'
       (try clear c1)
       obtain ⟨x43_3, rfl, HA, HK3, BK602, HB⟩ := hrel
       cases gk with
       | zero => exact absurd HA.out (by simp [spec_l10Shape.l0])
       | succ k3 =>
        have H := HA.out
        clear HA
        simp only [spec_l10Shape.l0] at H
        by_cases c25 : x43_3 < (l0_2.length : Int)
        ·rw [if_pos c25] at H
         have c25b0 : decide (x43_3 < (l0_2.length : Int)) = true := decide_eq_true c25
         clear c25
         by_cases c26 : 0 ≤ x43_3
         ·rw [if_pos c26] at H
          have c26b0 : decide (0 ≤ x43_3) = true := decide_eq_true c26
          clear c26
          by_cases c27 : x43_3 < (l0_2.length : Int)
          ·rw [if_pos c27] at H
           have c27b0 : decide (x43_3 < (l0_2.length : Int)) = true := decide_eq_true c27
           clear c27
           replace H := Option.bind_eq_some_iff.mp H
           obtain ⟨t610, A280, H⟩ := H
           replace H : (if t610 = true then (spec_l10Shape.l0 k3 l0_2 (l0_2.length : Int) (wrap64 (x43_3 + 1))) else (some false)) = some r := H
           have A28 := Ak A280
           clear A280
           by_cases c29 : t610 = true
           ·(try subst c29)
            have H1 : (spec_l10Shape.l0 k3 l0_2 (l0_2.length : Int) (wrap64 (x43_3 + 1))) = some r := by rw [if_pos rfl] at H; exact H
            clear H
            have H := H1
            clear H1
            have H' := Ak H
            clear H
            have p608 : 0 ≤ (x43_3 : Int) := Qg
            have q608 : x43_3 < (l0_2.length : Int) := Qg
            obtain ⟨ad608, A608_2, c608_2, e608, hx608_0, hx608_1, hx608_2, hl608_2, hi608_2⟩ := at_T25 HR0_2.out x43_3 p608 q608
            cases e608
            (try replace hx608_0 := (HB.out.cell (World.block_lt_of_cell? w _ hx608_0)).trans hx608_0)
            (try replace hx608_1 := (HB.out.cell (World.block_lt_of_cell? w _ hx608_1)).trans hx608_1)
            (try replace hx608_2 := (HB.out.cell (World.block_lt_of_cell? w _ hx608_2)).trans hx608_2)
            have HR608_2 := Ak hi608_2
            have HC608_2 := Ak hl608_2
            clear hi608_2 hl608_2
            replace p608 := eq_true p608
            replace q608 := eq_true q608
            go_wp2_with (first | ((with_reducible refine gate_dst (N := 5) rfl ?_); (try (refine gate_guard (by rfl) ?_; dsimp only)); refine Qk 5 #[.int .i64 0, .int .i64 0, .slice none 0 0] 25 ?_; intro gb609 hg w30 hbox hb; have BK609 := Ak (hbox); have GW609 := Ak ((Qp hg HB.out : w.heap.size ≤ gb609)); have GE609 := Ak ((Qp hg HB.out : w.heap.size ≤ gb609)); replace HB := Ak (below_step (Qb HB.out) hb); have NB602_609 := Ak ((by rw [hg]; exact Nat.ne_of_lt (Qn BK602.out) : gb602 ≠ gb609)); have NB609_602 := Ak ((by rw [hg]; exact Nat.ne_of_gt (Qn BK602.out) : gb609 ≠ gb602)); replace BK602 := Ak (Qm BK602.out hb); clear hb hbox hg; have hnb31 := NB609_602.out; have hnc31 := NB602_609.out; obtain ⟨hcz32_0, hcz32_1, hcz32_2⟩ := Qu3 BK609.out; have hfz32_0 := blk_frozen BK609.out 0; have hfz32_1 := blk_frozen BK609.out 1; have hfz32_2 := blk_frozen BK609.out 2) | (go_at_call 92; (with_reducible refine (ih k3 T_60 ((rd_T25 l0_2 x43_3).f0) ((rd_T25 l0_2 x43_3).f1) _ _ ((rd_T25 l0_2 x43_3).f2) true _ ?side1 ?side2 A28.out).mono ?_); (case side1 => exact U_25); (case side2 => exact HC608_2.out); rintro e w33 ⟨rfl, hb⟩; replace BK602 := Ak (blk_below (g := gb602) (o := .cells #[.int .i64 a0_0, .int .i64 a0_1, .slice (some ad608) l0_2.length c0_2] 25 (0, 0)) T_38 hb); replace BK609 := Ak (blk_below (g := gb609) (o := .cells #[.int .i64 ((rd_T25 l0_2 x43_3).f0), .int .i64 ((rd_T25 l0_2 x43_3).f1), .slice A608_2 ((rd_T25 l0_2 x43_3).f2).length c608_2] 25 (0, 0)) T_21 hb); replace HB := Ak (below_step (Qb HB.out) hb); (try clear hb)))
            repeat (go_quiet (first | ((with_reducible refine gate_dst (N := 5) rfl ?_); (try (refine gate_guard (by rfl) ?_; dsimp only)); refine Qk 5 #[.int .i64 0, .int .i64 0, .slice none 0 0] 25 ?_; intro gb609 hg w30 hbox hb; have BK609 := Ak (hbox); have GW609 := Ak ((Qp hg HB.out : w.heap.size ≤ gb609)); have GE609 := Ak ((Qp hg HB.out : w.heap.size ≤ gb609)); replace HB := Ak (below_step (Qb HB.out) hb); have NB602_609 := Ak ((by rw [hg]; exact Nat.ne_of_lt (Qn BK602.out) : gb602 ≠ gb609)); have NB609_602 := Ak ((by rw [hg]; exact Nat.ne_of_gt (Qn BK602.out) : gb609 ≠ gb602)); replace BK602 := Ak (Qm BK602.out hb); clear hb hbox hg; have hnb31 := NB609_602.out; have hnc31 := NB602_609.out; obtain ⟨hcz32_0, hcz32_1, hcz32_2⟩ := Qu3 BK609.out; have hfz32_0 := blk_frozen BK609.out 0; have hfz32_1 := blk_frozen BK609.out 1; have hfz32_2 := blk_frozen BK609.out 2) | (go_at_call 92; (with_reducible refine (ih k3 T_60 ((rd_T25 l0_2 x43_3).f0) ((rd_T25 l0_2 x43_3).f1) _ _ ((rd_T25 l0_2 x43_3).f2) true _ ?side1 ?side2 A28.out).mono ?_); (case side1 => exact U_25); (case side2 => exact HC608_2.out); rintro e w33 ⟨rfl, hb⟩; replace BK602 := Ak (blk_below (g := gb602) (o := .cells #[.int .i64 a0_0, .int .i64 a0_1, .slice (some ad608) l0_2.length c0_2] 25 (0, 0)) T_38 hb); replace BK609 := Ak (blk_below (g := gb609) (o := .cells #[.int .i64 ((rd_T25 l0_2 x43_3).f0), .int .i64 ((rd_T25 l0_2 x43_3).f1), .slice A608_2 ((rd_T25 l0_2 x43_3).f2).length c608_2] 25 (0, 0)) T_21 hb); replace HB := Ak (below_step (Qb HB.out) hb); (try clear hb))); try go_wp2_with (first | ((with_reducible refine gate_dst (N := 5) rfl ?_); (try (refine gate_guard (by rfl) ?_; dsimp only)); refine Qk 5 #[.int .i64 0, .int .i64 0, .slice none 0 0] 25 ?_; intro gb609 hg w30 hbox hb; have BK609 := Ak (hbox); have GW609 := Ak ((Qp hg HB.out : w.heap.size ≤ gb609)); have GE609 := Ak ((Qp hg HB.out : w.heap.size ≤ gb609)); replace HB := Ak (below_step (Qb HB.out) hb); have NB602_609 := Ak ((by rw [hg]; exact Nat.ne_of_lt (Qn BK602.out) : gb602 ≠ gb609)); have NB609_602 := Ak ((by rw [hg]; exact Nat.ne_of_gt (Qn BK602.out) : gb609 ≠ gb602)); replace BK602 := Ak (Qm BK602.out hb); clear hb hbox hg; have hnb31 := NB609_602.out; have hnc31 := NB602_609.out; obtain ⟨hcz32_0, hcz32_1, hcz32_2⟩ := Qu3 BK609.out; have hfz32_0 := blk_frozen BK609.out 0; have hfz32_1 := blk_frozen BK609.out 1; have hfz32_2 := blk_frozen BK609.out 2) | (go_at_call 92; (with_reducible refine (ih k3 T_60 ((rd_T25 l0_2 x43_3).f0) ((rd_T25 l0_2 x43_3).f1) _ _ ((rd_T25 l0_2 x43_3).f2) true _ ?side1 ?side2 A28.out).mono ?_); (case side1 => exact U_25); (case side2 => exact HC608_2.out); rintro e w33 ⟨rfl, hb⟩; replace BK602 := Ak (blk_below (g := gb602) (o := .cells #[.int .i64 a0_0, .int .i64 a0_1, .slice (some ad608) l0_2.length c0_2] 25 (0, 0)) T_38 hb); replace BK609 := Ak (blk_below (g := gb609) (o := .cells #[.int .i64 ((rd_T25 l0_2 x43_3).f0), .int .i64 ((rd_T25 l0_2 x43_3).f1), .slice A608_2 ((rd_T25 l0_2 x43_3).f2).length c608_2] 25 (0, 0)) T_21 hb); replace HB := Ak (below_step (Qb HB.out) hb); (try clear hb))))
            go_roundg k3
            case measure => have := HJ1.out; have := HJ7.out; have := HK3.out; omega
            case rel => exact ⟨(wrap64 (x43_3 + 1)), Qi, H', ⟨by have := HJ1.out; have := HJ7.out; have := HK3.out; omega⟩, ⟨by refine Qe ?_; exact BK602.out⟩, ⟨Qb HB.out⟩⟩
           ·replace c29 := Bool.eq_false_iff.mpr c29
            (try subst c29)
            have H1 : (some false) = some r := by rw [if_neg (show ¬ (false = true) by decide)] at H; exact H
            clear H
            have H := H1
            clear H1
            obtain rfl := Option.some.inj H
            have p608 : 0 ≤ (x43_3 : Int) := Qg
            have q608 : x43_3 < (l0_2.length : Int) := Qg
            obtain ⟨ad608, A608_2, c608_2, e608, hx608_0, hx608_1, hx608_2, hl608_2, hi608_2⟩ := at_T25 HR0_2.out x43_3 p608 q608
            cases e608
            (try replace hx608_0 := (HB.out.cell (World.block_lt_of_cell? w _ hx608_0)).trans hx608_0)
            (try replace hx608_1 := (HB.out.cell (World.block_lt_of_cell? w _ hx608_1)).trans hx608_1)
            (try replace hx608_2 := (HB.out.cell (World.block_lt_of_cell? w _ hx608_2)).trans hx608_2)
            have HR608_2 := Ak hi608_2
            have HC608_2 := Ak hl608_2
            clear hi608_2 hl608_2
            replace p608 := eq_true p608
            replace q608 := eq_true q608
            go_wp2_with (first | ((with_reducible refine gate_dst (N := 5) rfl ?_); (try (refine gate_guard (by rfl) ?_; dsimp only)); refine Qk 5 #[.int .i64 0, .int .i64 0, .slice none 0 0] 25 ?_; intro gb609 hg w34 hbox hb; have BK609 := Ak (hbox); have GW609 := Ak ((Qp hg HB.out : w.heap.size ≤ gb609)); have GE609 := Ak ((Qp hg HB.out : w.heap.size ≤ gb609)); replace HB := Ak (below_step (Qb HB.out) hb); have NB602_609 := Ak ((by rw [hg]; exact Nat.ne_of_lt (Qn BK602.out) : gb602 ≠ gb609)); have NB609_602 := Ak ((by rw [hg]; exact Nat.ne_of_gt (Qn BK602.out) : gb609 ≠ gb602)); replace BK602 := Ak (Qm BK602.out hb); clear hb hbox hg; have hnb35 := NB609_602.out; have hnc35 := NB602_609.out; obtain ⟨hcz36_0, hcz36_1, hcz36_2⟩ := Qu3 BK609.out; have hfz36_0 := blk_frozen BK609.out 0; have hfz36_1 := blk_frozen BK609.out 1; have hfz36_2 := blk_frozen BK609.out 2) | (go_at_call 92; (with_reducible refine (ih k3 T_60 ((rd_T25 l0_2 x43_3).f0) ((rd_T25 l0_2 x43_3).f1) _ _ ((rd_T25 l0_2 x43_3).f2) false _ ?side1 ?side2 A28.out).mono ?_); (case side1 => exact U_25); (case side2 => exact HC608_2.out); rintro e w37 ⟨rfl, hb⟩; replace BK602 := Ak (blk_below (g := gb602) (o := .cells #[.int .i64 a0_0, .int .i64 a0_1, .slice (some ad608) l0_2.length c0_2] 25 (0, 0)) T_38 hb); replace BK609 := Ak (blk_below (g := gb609) (o := .cells #[.int .i64 ((rd_T25 l0_2 x43_3).f0), .int .i64 ((rd_T25 l0_2 x43_3).f1), .slice A608_2 ((rd_T25 l0_2 x43_3).f2).length c608_2] 25 (0, 0)) T_21 hb); replace HB := Ak (below_step (Qb HB.out) hb); (try clear hb)))
            repeat (go_quiet (first | ((with_reducible refine gate_dst (N := 5) rfl ?_); (try (refine gate_guard (by rfl) ?_; dsimp only)); refine Qk 5 #[.int .i64 0, .int .i64 0, .slice none 0 0] 25 ?_; intro gb609 hg w34 hbox hb; have BK609 := Ak (hbox); have GW609 := Ak ((Qp hg HB.out : w.heap.size ≤ gb609)); have GE609 := Ak ((Qp hg HB.out : w.heap.size ≤ gb609)); replace HB := Ak (below_step (Qb HB.out) hb); have NB602_609 := Ak ((by rw [hg]; exact Nat.ne_of_lt (Qn BK602.out) : gb602 ≠ gb609)); have NB609_602 := Ak ((by rw [hg]; exact Nat.ne_of_gt (Qn BK602.out) : gb609 ≠ gb602)); replace BK602 := Ak (Qm BK602.out hb); clear hb hbox hg; have hnb35 := NB609_602.out; have hnc35 := NB602_609.out; obtain ⟨hcz36_0, hcz36_1, hcz36_2⟩ := Qu3 BK609.out; have hfz36_0 := blk_frozen BK609.out 0; have hfz36_1 := blk_frozen BK609.out 1; have hfz36_2 := blk_frozen BK609.out 2) | (go_at_call 92; (with_reducible refine (ih k3 T_60 ((rd_T25 l0_2 x43_3).f0) ((rd_T25 l0_2 x43_3).f1) _ _ ((rd_T25 l0_2 x43_3).f2) false _ ?side1 ?side2 A28.out).mono ?_); (case side1 => exact U_25); (case side2 => exact HC608_2.out); rintro e w37 ⟨rfl, hb⟩; replace BK602 := Ak (blk_below (g := gb602) (o := .cells #[.int .i64 a0_0, .int .i64 a0_1, .slice (some ad608) l0_2.length c0_2] 25 (0, 0)) T_38 hb); replace BK609 := Ak (blk_below (g := gb609) (o := .cells #[.int .i64 ((rd_T25 l0_2 x43_3).f0), .int .i64 ((rd_T25 l0_2 x43_3).f1), .slice A608_2 ((rd_T25 l0_2 x43_3).f2).length c608_2] 25 (0, 0)) T_21 hb); replace HB := Ak (below_step (Qb HB.out) hb); (try clear hb))); try go_wp2_with (first | ((with_reducible refine gate_dst (N := 5) rfl ?_); (try (refine gate_guard (by rfl) ?_; dsimp only)); refine Qk 5 #[.int .i64 0, .int .i64 0, .slice none 0 0] 25 ?_; intro gb609 hg w34 hbox hb; have BK609 := Ak (hbox); have GW609 := Ak ((Qp hg HB.out : w.heap.size ≤ gb609)); have GE609 := Ak ((Qp hg HB.out : w.heap.size ≤ gb609)); replace HB := Ak (below_step (Qb HB.out) hb); have NB602_609 := Ak ((by rw [hg]; exact Nat.ne_of_lt (Qn BK602.out) : gb602 ≠ gb609)); have NB609_602 := Ak ((by rw [hg]; exact Nat.ne_of_gt (Qn BK602.out) : gb609 ≠ gb602)); replace BK602 := Ak (Qm BK602.out hb); clear hb hbox hg; have hnb35 := NB609_602.out; have hnc35 := NB602_609.out; obtain ⟨hcz36_0, hcz36_1, hcz36_2⟩ := Qu3 BK609.out; have hfz36_0 := blk_frozen BK609.out 0; have hfz36_1 := blk_frozen BK609.out 1; have hfz36_2 := blk_frozen BK609.out 2) | (go_at_call 92; (with_reducible refine (ih k3 T_60 ((rd_T25 l0_2 x43_3).f0) ((rd_T25 l0_2 x43_3).f1) _ _ ((rd_T25 l0_2 x43_3).f2) false _ ?side1 ?side2 A28.out).mono ?_); (case side1 => exact U_25); (case side2 => exact HC608_2.out); rintro e w37 ⟨rfl, hb⟩; replace BK602 := Ak (blk_below (g := gb602) (o := .cells #[.int .i64 a0_0, .int .i64 a0_1, .slice (some ad608) l0_2.length c0_2] 25 (0, 0)) T_38 hb); replace BK609 := Ak (blk_below (g := gb609) (o := .cells #[.int .i64 ((rd_T25 l0_2 x43_3).f0), .int .i64 ((rd_T25 l0_2 x43_3).f1), .slice A608_2 ((rd_T25 l0_2 x43_3).f2).length c608_2] 25 (0, 0)) T_21 hb); replace HB := Ak (below_step (Qb HB.out) hb); (try clear hb))))
            go_ret
            exact ⟨Qh, Qb HB.out⟩
          ·rw [if_neg c27] at H
           exact absurd H (by simp)
         ·rw [if_neg c26] at H
          exact absurd H (by simp)
        ·rw [if_neg c25] at H
         have c25b0 : decide (x43_3 < (l0_2.length : Int)) = false := decide_eq_false c25
         clear c25
         obtain rfl := Option.some.inj H
         go_wp2
         repeat (go_quiet (fail); try go_wp2)
         go_ret
         exact ⟨Qh, Qb HB.out⟩

/-! ### spec_IsExpr: function 50 -/
def spec_IsExpr.f (k : Nat) (a0_0 : Int) (a0_1 : Int) (l0_2 : List (S25)) : Option (Bool) := (spec_l10Size.f k a0_0 a0_1 l0_2).bind fun bt612 => (if bt612.1 ≤ 60 then (if bt612.2 ≤ 12 then ((spec_l10Shape.f k a0_0 a0_1 l0_2).bind fun t614 => (some t614)) else (some false)) else (some false))
theorem spec_IsExpr.calls (k : Nat) (a0_0 : Int) (a0_1 : Int) (A0_2 : Option Addr) (c0_2 : Nat) (l0_2 : List (S25)) (r : Bool) (w : World) (hr0_2 : Kd.C k25 w A0_2 l0_2.length l0_2) (hc0_2 : l0_2.length ≤ c0_2) (h : spec_IsExpr.f k a0_0 a0_1 l0_2 = some r) :
  Calls Tryd.prog 50 #[.agg #[.int .i64 a0_0, .int .i64 a0_1, .slice A0_2 l0_2.length c0_2]] w fun e w' => e = .returned (.bool r) ∧ Below w.heap.size w w' := by
 have hu25 := Tryd.underlying25
 have HR0_2 := Ak hr0_2
 have HC0_2 := Ak hc0_2
 clear hr0_2 hc0_2
 have HB := Ak (Below.refl w.heap.size w)
 have H : ((spec_l10Size.f k a0_0 a0_1 l0_2).bind fun bt612 => (if bt612.1 ≤ 60 then (if bt612.2 ≤ 12 then ((spec_l10Shape.f k a0_0 a0_1 l0_2).bind fun t614 => (some t614)) else (some false)) else (some false))) = some r := h
 clear h
 replace H := Option.bind_eq_some_iff.mp H
 obtain ⟨⟨t612, t613⟩, A20, H⟩ := H
 replace H : (if t612 ≤ 60 then (if t613 ≤ 12 then ((spec_l10Shape.f k a0_0 a0_1 l0_2).bind fun t614 => (some t614)) else (some false)) else (some false)) = some r := H
 have A2 := Ak A20
 clear A20
 by_cases c3 : t612 ≤ 60
 ·rw [if_pos c3] at H
  have c3b0 : decide (t612 ≤ 60) = true := decide_eq_true c3
  clear c3
  by_cases c4 : t613 ≤ 12
  ·rw [if_pos c4] at H
   have c4b0 : decide (t613 ≤ 12) = true := decide_eq_true c4
   clear c4
   replace H := Option.bind_eq_some_iff.mp H
   obtain ⟨t614, A50, H⟩ := H
   replace H : (some t614) = some r := H
   have A5 := Ak A50
   clear A50
   obtain rfl := Option.some.inj H
   go_enter Tryd.func50, Tryd.ntmps50
   go_wp2_with (first | ((with_reducible refine gate_dst (N := 1) rfl ?_); refine Qk 1 #[.int .i64 a0_0, .int .i64 a0_1, .slice A0_2 l0_2.length c0_2] 25 ?_; intro gb611 hg w6 hbox hb; have BK611 := Ak (hbox); have GW611 := Ak ((Qp hg HB.out : w.heap.size ≤ gb611)); have GE611 := Ak ((Qp hg HB.out : w.heap.size ≤ gb611)); replace HB := Ak (below_step (Qb HB.out) hb); clear hb hbox hg; obtain ⟨hcz7_0, hcz7_1, hcz7_2⟩ := Qu3 BK611.out; have hfz7_0 := blk_frozen BK611.out 0; have hfz7_1 := blk_frozen BK611.out 1; have hfz7_2 := blk_frozen BK611.out 2) | ((with_reducible refine gate_callee (f := 91) rfl ?_); refine Qj (some 7) Tryd.func91 #[.agg #[.int .i64 a0_0, .int .i64 a0_1, .slice A0_2 l0_2.length c0_2]] ?_; (with_reducible refine (spec_l10Size.calls k a0_0 a0_1 _ _ l0_2 t612 t613 _ ?side1 ?side2 A2.out).mono ?_); (case side1 => exact U_14); (case side2 => exact U_30); rintro e w8 ⟨rfl, hb⟩; refine ⟨_, rfl, ?_⟩; replace BK611 := Ak (Qm BK611.out hb); replace HB := Ak (below_step (Qb HB.out) hb); (try clear hb); obtain ⟨hcz9_0, hcz9_1, hcz9_2⟩ := Qu3 BK611.out; have hfz9_0 := blk_frozen BK611.out 0; have hfz9_1 := blk_frozen BK611.out 1; have hfz9_2 := blk_frozen BK611.out 2) | (go_at_call 92; (with_reducible refine (spec_l10Shape.calls k a0_0 a0_1 _ _ l0_2 t614 _ ?side1 ?side2 A5.out).mono ?_); (case side1 => exact U_14); (case side2 => exact U_30); rintro e w10 ⟨rfl, hb⟩; replace BK611 := Ak (Qm BK611.out hb); replace HB := Ak (below_step (Qb HB.out) hb); (try clear hb); (try clear hb2); (try clear hk); (try clear hi)))
   go_ret
   exact ⟨Qh, Qb HB.out⟩
  ·rw [if_neg c4] at H
   have c4b0 : decide (t613 ≤ 12) = false := decide_eq_false c4
   clear c4
   obtain rfl := Option.some.inj H
   go_enter Tryd.func50, Tryd.ntmps50
   go_wp2_with (first | ((with_reducible refine gate_dst (N := 1) rfl ?_); refine Qk 1 #[.int .i64 a0_0, .int .i64 a0_1, .slice A0_2 l0_2.length c0_2] 25 ?_; intro gb611 hg w11 hbox hb; have BK611 := Ak (hbox); have GW611 := Ak ((Qp hg HB.out : w.heap.size ≤ gb611)); have GE611 := Ak ((Qp hg HB.out : w.heap.size ≤ gb611)); replace HB := Ak (below_step (Qb HB.out) hb); clear hb hbox hg; obtain ⟨hcz12_0, hcz12_1, hcz12_2⟩ := Qu3 BK611.out; have hfz12_0 := blk_frozen BK611.out 0; have hfz12_1 := blk_frozen BK611.out 1; have hfz12_2 := blk_frozen BK611.out 2) | ((with_reducible refine gate_callee (f := 91) rfl ?_); refine Qj (some 7) Tryd.func91 #[.agg #[.int .i64 a0_0, .int .i64 a0_1, .slice A0_2 l0_2.length c0_2]] ?_; (with_reducible refine (spec_l10Size.calls k a0_0 a0_1 _ _ l0_2 t612 t613 _ ?side1 ?side2 A2.out).mono ?_); (case side1 => exact U_14); (case side2 => exact U_30); rintro e w13 ⟨rfl, hb⟩; refine ⟨_, rfl, ?_⟩; replace BK611 := Ak (Qm BK611.out hb); replace HB := Ak (below_step (Qb HB.out) hb); (try clear hb)))
   go_ret
   exact ⟨Qh, Qb HB.out⟩
 ·rw [if_neg c3] at H
  have c3b0 : decide (t612 ≤ 60) = false := decide_eq_false c3
  clear c3
  obtain rfl := Option.some.inj H
  go_enter Tryd.func50, Tryd.ntmps50
  go_wp2_with (first | ((with_reducible refine gate_dst (N := 1) rfl ?_); refine Qk 1 #[.int .i64 a0_0, .int .i64 a0_1, .slice A0_2 l0_2.length c0_2] 25 ?_; intro gb611 hg w14 hbox hb; have BK611 := Ak (hbox); have GW611 := Ak ((Qp hg HB.out : w.heap.size ≤ gb611)); have GE611 := Ak ((Qp hg HB.out : w.heap.size ≤ gb611)); replace HB := Ak (below_step (Qb HB.out) hb); clear hb hbox hg; obtain ⟨hcz15_0, hcz15_1, hcz15_2⟩ := Qu3 BK611.out; have hfz15_0 := blk_frozen BK611.out 0; have hfz15_1 := blk_frozen BK611.out 1; have hfz15_2 := blk_frozen BK611.out 2) | ((with_reducible refine gate_callee (f := 91) rfl ?_); refine Qj (some 7) Tryd.func91 #[.agg #[.int .i64 a0_0, .int .i64 a0_1, .slice A0_2 l0_2.length c0_2]] ?_; (with_reducible refine (spec_l10Size.calls k a0_0 a0_1 _ _ l0_2 t612 t613 _ ?side1 ?side2 A2.out).mono ?_); (case side1 => exact U_14); (case side2 => exact U_30); rintro e w16 ⟨rfl, hb⟩; refine ⟨_, rfl, ?_⟩; replace BK611 := Ak (Qm BK611.out hb); replace HB := Ak (below_step (Qb HB.out) hb); (try clear hb)))
  go_ret
  exact ⟨Qh, Qb HB.out⟩

end Go.Proofs.YtjfgcipbbcplmaaDoor.HFnExprs

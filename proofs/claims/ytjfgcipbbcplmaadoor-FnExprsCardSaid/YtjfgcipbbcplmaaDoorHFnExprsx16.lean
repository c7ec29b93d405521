/- Text for FnExprs: written by a program of this session on the pattern of the kit's print. -/
import Derived.Test.YtjfgcipbbcplmaaDoorHFnExprsx0
import Derived.Test.YtjfgcipbbcplmaaDoorHFnExprsx15
namespace Go.Proofs.YtjfgcipbbcplmaaDoor.HFnExprs
open Go.RowKit Go.Proofs.YtjfgcipbbcplmaaDoorW.PrintWords Go.Proofs.YtjfgcipbbcplmaaDoorW.PrintLast Go.Proofs.YtjfgcipbbcplmaaDoorW.PrintMore
attribute [local go_sem] max2_int min2_int max_two min_two max_three min_three max_four min_four
set_option linter.unusedVariables false
set_option linter.unusedSimpArgs false

/-! ### impl_evaluated: function 52 -/
mutual
def impl_evaluated.l0 : Nat → List Int → List (S25) → Int → Int → Int → Int → List (S25) → Option (Int × Bool)
 | 0, _, _, _, _, _, _, _ => none
 | k + 1, x4, x15, x16, x17, x707000, x707001, x707002 => if x17 < x16 then (if 0 ≤ x17 then (if x17 < (x15.length : Int) then ((impl_evaluated.f k ((rd_T25 x15 x17).f0) ((rd_T25 x15 x17).f1) ((rd_T25 x15 x17).f2)).bind fun bt712 => (if bt712.2 = true then (if x4.length < 17592186044416 then (impl_evaluated.l0 k (x4 ++ [bt712.1]) x15 x16 (wrap64 (x17 + 1)) x707000 x707001 x707002) else (none)) else (some (0, false)))) else (none)) else (none)) else (if x707000 = 2 then (if 0 < (x4.length : Int) then ((impl_fits.f k (rd x4 0) 30).bind fun t718 => (some (rd x4 0, t718))) else (none)) else (if x707000 = 3 then (if 0 < (x4.length : Int) then ((impl_fits.f k (wrap64 (-(rd x4 0))) 30).bind fun t720 => (some (wrap64 (-(rd x4 0)), t720))) else (none)) else (if x707000 = 4 then (if 0 < (x4.length : Int) then (if 1 < (x4.length : Int) then ((impl_fits.f k (wrap64 ((rd x4 0) + (rd x4 1))) 30).bind fun t723 => (some (wrap64 ((rd x4 0) + (rd x4 1)), t723))) else (none)) else (none)) else (if x707000 = 5 then (if 0 < (x4.length : Int) then (if 1 < (x4.length : Int) then ((impl_fits.f k (wrap64 ((rd x4 0) - (rd x4 1))) 30).bind fun t726 => (some (wrap64 ((rd x4 0) - (rd x4 1)), t726))) else (none)) else (none)) else (if x707000 = 6 then (if 0 < (x4.length : Int) then (if 1 < (x4.length : Int) then ((impl_product.f k (rd x4 0) (rd x4 1)).bind fun bt729 => (if bt729.2 = true then ((impl_fits.f k bt729.1 30).bind fun t731 => (some (bt729.1, t731))) else (some (bt729.1, false)))) else (none)) else (none)) else (if x707000 = 7 then (impl_evaluated.j1 k x4 x707001 true (x707000 == 7) x707000 x707001 x707002) else (impl_evaluated.j1 k x4 x707001 true (x707000 == 8) x707000 x707001 x707002)))))))
def impl_evaluated.j1 : Nat → List Int → Int → Bool → Bool → Int → Int → List (S25) → Option (Int × Bool)
 | 0, _, _, _, _, _, _, _ => none
 | k + 1, x4, x9, x10, x78, x707000, x707001, x707002 => if x78 = true then (if 1 < (x4.length : Int) then (if (rd x4 1) = 0 then (some (0, false)) else (if 0 < (x4.length : Int) then ((impl_divided.f (rd x4 0) (rd x4 1)).bind fun bt735 => (if x707000 = 8 then (if x10 = true then ((impl_fits.f k bt735.2 30).bind fun t737 => (some (bt735.2, t737))) else (some (bt735.2, false))) else (if x10 = true then ((impl_fits.f k bt735.1 30).bind fun t738 => (some (bt735.1, t738))) else (some (bt735.1, false))))) else (none))) else (none)) else (if x10 = true then ((impl_fits.f k x9 30).bind fun t739 => (some (x9, t739))) else (some (x9, false)))
def impl_evaluated.f : Nat → Int → Int → List (S25) → Option (Int × Bool)
 | 0, _, _, _ => none
 | k + 1, a0_0, a0_1, l0_2 => impl_evaluated.l0 k (([] : List Int)) l0_2 (l0_2.length : Int) 0 a0_0 a0_1 l0_2
end
def impl_evaluated.T17 : Bool × List (List Nat × List Nat) := (true, [([], []), ([0], [0]), ([1], [1]), ([], []), ([3], [3]), ([4], [4]), ([2, 5], [2, 5]), ([6, 0, 1, 2, 3, 4, 5, 6], [6])])
def impl_evaluated.B17 : List Nat := [0, 1, 3, 0, 8, 24, 63, 127]
theorem impl_evaluated.tab17 : rtab .any (opsOf Tryd.f52 17) = impl_evaluated.T17 := by kernel_rfl
theorem impl_evaluated.bits17 : waitsOk impl_evaluated.T17.2 impl_evaluated.B17 = true := by kernel_rfl
def impl_evaluated.T19 : Bool × List (List Nat × List Nat) := (true, [([], []), ([0], [0]), ([1], [1]), ([], []), ([3], [3]), ([4], [4]), ([2, 5], [2, 5]), ([6, 0, 1, 2, 3, 4, 5, 6], [6])])
def impl_evaluated.B19 : List Nat := [0, 1, 3, 0, 8, 24, 63, 127]
theorem impl_evaluated.tab19 : rtab .any (opsOf Tryd.f52 19) = impl_evaluated.T19 := by kernel_rfl
theorem impl_evaluated.bits19 : waitsOk impl_evaluated.T19.2 impl_evaluated.B19 = true := by kernel_rfl
def impl_evaluated.T21 : Bool × List (List Nat × List Nat) := (true, [([], []), ([0], [0]), ([1], [1]), ([], []), ([3], [3]), ([4], [4]), ([2, 5], [2, 5]), ([6], [6]), ([7], [7]), ([7], [7]), ([8, 6, 0, 1, 2, 3, 4, 5, 6, 7, 8], [8]), ([9, 10, 0, 1, 2, 3, 4, 5, 6, 7, 8, 9, 10], [9])])
def impl_evaluated.B21 : List Nat := [0, 1, 3, 0, 8, 24, 63, 127, 255, 255, 511, 2047]
theorem impl_evaluated.tab21 : rtab .any (opsOf Tryd.f52 21) = impl_evaluated.T21 := by kernel_rfl
theorem impl_evaluated.bits21 : waitsOk impl_evaluated.T21.2 impl_evaluated.B21 = true := by kernel_rfl
def impl_evaluated.T26 : Bool × List (List Nat × List Nat) := (true, [([], []), ([0], [0]), ([1], [1]), ([], []), ([3], [3]), ([4], [4]), ([2, 5], [2, 5]), ([6], [6]), ([7], [7]), ([7], [7]), ([8, 6, 0, 1, 2, 3, 4, 5, 6, 7, 8], [8]), ([9, 10, 0, 1, 2, 3, 4, 5, 6, 7, 8, 9, 10], [9])])
def impl_evaluated.B26 : List Nat := [0, 1, 3, 0, 8, 24, 63, 127, 255, 255, 511, 2047]
theorem impl_evaluated.tab26 : rtab .any (opsOf Tryd.f52 26) = impl_evaluated.T26 := by kernel_rfl
theorem impl_evaluated.bits26 : waitsOk impl_evaluated.T26.2 impl_evaluated.B26 = true := by kernel_rfl
set_option maxHeartbeats 8000000 in
set_option maxRecDepth 100000 in
theorem impl_evaluated.calls (k : Nat) : ∀ (a0_0 : Int) (a0_1 : Int) (A0_2 : Option Addr) (c0_2 : Nat) (l0_2 : List (S25)) (r1 : Int) (r2 : Bool) (w : World) (hr0_2 : Kd.C k25 w A0_2 l0_2.length l0_2) (hc0_2 : l0_2.length ≤ c0_2) (h : impl_evaluated.f k a0_0 a0_1 l0_2 = some (r1, r2)),
  Calls Tryd.prog 52 #[.agg #[.int .i64 a0_0, .int .i64 a0_1, .slice A0_2 l0_2.length c0_2]] w fun e w' => e = .returned (.tuple #[.int .i64 r1, .bool r2]) ∧ Below w.heap.size w w' := by
 induction k using Nat.strongRecOn with
 | _ k ih =>
 intro a0_0 a0_1 A0_2 c0_2 l0_2 r1 r2 w hr0_2 hc0_2 h
 cases k with
 | zero => exact absurd h (by simp [impl_evaluated.f])
 | succ k =>
 simp only [impl_evaluated.f] at h
 have hu25 := Tryd.underlying25
 have HR0_2 := Ak hr0_2
 have HC0_2 := Ak hc0_2
 clear hr0_2 hc0_2
 have HB := Ak (Below.refl w.heap.size w)
 have H : (impl_evaluated.l0 k (([] : List Int)) l0_2 (l0_2.length : Int) 0 a0_0 a0_1 l0_2) = some (r1, r2) := h
 clear h
 obtain ⟨y707, hy707⟩ : ∃ y_ : List Int, y_ = (([] : List Int)) := ⟨_, rfl⟩
 replace H : (impl_evaluated.l0 k y707 l0_2 (l0_2.length : Int) 0 a0_0 a0_1 l0_2) = some (r1, r2) := by first | (rw [hy707]; with_reducible exact H) | (have H2_ := (Option.bind_some _ _).symm.trans H; rw [hy707]; with_reducible exact H2_) | (have H2_ := (Option.bind_some _ _).symm.trans H; with_reducible exact H2_) | with_reducible exact H | (rw [hy707]; exact H) | exact H
 have Ny707 := Ak hy707
 clear hy707
 have H' := Ak H
 clear H
 go_enter Tryd.func52, Tryd.ntmps52
 go_wp2_with (first | ((with_reducible refine gate_dst (N := 1) rfl ?_); refine Qk 1 #[.int .i64 a0_0, .int .i64 a0_1, .slice A0_2 l0_2.length c0_2] 25 ?_; intro gb706 hg w2 hbox hb; have BK706 := Ak (hbox); have GW706 := Ak ((Qp hg HB.out : w.heap.size ≤ gb706)); have GE706 := Ak ((Qp hg HB.out : w.heap.size ≤ gb706)); replace HB := Ak (below_step (Qb HB.out) hb); clear hb hbox hg) | ((with_reducible refine gate_dst (N := 13) rfl ?_); refine Kd.R_lit (Kd.int .i64) _ 3 ?hg (N := 13) ?hd (xs := ([] : List Int)) (inner := []) (ok := fun _ => True) (okp := fun _ => True) ?hr ?hp (fun _ hk => hk) trivial (Below.refl _ _) (Nat.le_refl _) (by simp) ?_; (case hd => rfl); (case hg => rfl); (case hr => exact U_24); (case hp => exact (Reps.none _ _)); intro v708 w3 ho4 hb hg_ hnew_; clear hg_ hnew_; (first | rw [← Ny707.out] at ho4 | (simp only [Int.reduceToNat] at ho4; rw [← Ny707.out] at ho4)); have HO709 := Ak (Kd.R_lower ho4 (below_size (Qb HB.out))); replace BK706 := Ak (Qm BK706.out hb); replace HB := Ak (below_step (Qb HB.out) hb); clear hb ho4; obtain ⟨hcz5_0, hcz5_1, hcz5_2⟩ := Qu3 BK706.out; have hfz5_0 := blk_frozen BK706.out 0; have hfz5_1 := blk_frozen BK706.out 1; have hfz5_2 := blk_frozen BK706.out 2))
 go_loopg [4, 17] k (fun kq v4 v17 w' => ∃ (x4_1 : List Int) (x17_1 : Int), v17 = .int .i64 x17_1 ∧ Aside0 (impl_evaluated.l0 kq x4_1 l0_2 (l0_2.length : Int) x17_1 a0_0 a0_1 l0_2 = some (r1, r2)) ∧ Aside0 (kq ≤ k) ∧ Aside0 (Kd.R (Kd.int .i64) 3 w' w.heap.size (fun _ => True) v4 x4_1) ∧ Aside0 (w'.heap[gb706]? = some (.cells #[.int .i64 a0_0, .int .i64 a0_1, (.slice A0_2 l0_2.length c0_2)] 25 (0, 0))) ∧ Aside0 (Below w.heap.size w w'))
 case atStart => exact ⟨(y707), (0), Qi, H', ⟨Nat.le_refl _⟩, ⟨by refine Qf ?_; exact HO709.out⟩, ⟨by refine Qe ?_; exact BK706.out⟩, ⟨Qb HB.out⟩⟩
 case round =>
  clear H'
  (try clear p2)
  obtain ⟨x4_1, x17_1, rfl, HA, HK1, HO_4, BK706, HB⟩ := hrel
  cases gk with
  | zero => exact absurd HA.out (by simp [impl_evaluated.l0])
  | succ k1 =>
   have H := HA.out
   clear HA
   simp only [impl_evaluated.l0] at H
   by_cases c6 : x17_1 < (l0_2.length : Int)
   ·rw [if_pos c6] at H
    have c6b0 : decide (x17_1 < (l0_2.length : Int)) = true := decide_eq_true c6
    clear c6
    by_cases c7 : 0 ≤ x17_1
    ·rw [if_pos c7] at H
     have c7b0 : decide (0 ≤ x17_1) = true := decide_eq_true c7
     clear c7
     by_cases c8 : x17_1 < (l0_2.length : Int)
     ·rw [if_pos c8] at H
      have c8b0 : decide (x17_1 < (l0_2.length : Int)) = true := decide_eq_true c8
      clear c8
      replace H := Option.bind_eq_some_iff.mp H
      obtain ⟨⟨t712, t713⟩, A90, H⟩ := H
      replace H : (if t713 = true then (if x4_1.length < 17592186044416 then (impl_evaluated.l0 k1 (x4_1 ++ [t712]) l0_2 (l0_2.length : Int) (wrap64 (x17_1 + 1)) a0_0 a0_1 l0_2) else (none)) else (some (0, false))) = some (r1, r2) := H
      have A9 := Ak A90
      clear A90
      by_cases c10 : t713 = true
      ·(try subst c10)
       have H1 : (if x4_1.length < 17592186044416 then (impl_evaluated.l0 k1 (x4_1 ++ [t712]) l0_2 (l0_2.length : Int) (wrap64 (x17_1 + 1)) a0_0 a0_1 l0_2) else (none)) = some (r1, r2) := by rw [if_pos rfl] at H; exact H
       clear H
       have H := H1
       clear H1
       by_cases c11 : x4_1.length < 17592186044416
       ·rw [if_pos c11] at H
        have LMc11 := Ak c11
        clear c11
        obtain ⟨y714, hy714⟩ : ∃ y_ : List Int, y_ = (x4_1 ++ [t712]) := ⟨_, rfl⟩
        replace H : (impl_evaluated.l0 k1 y714 l0_2 (l0_2.length : Int) (wrap64 (x17_1 + 1)) a0_0 a0_1 l0_2) = some (r1, r2) := by first | (rw [hy714]; with_reducible exact H) | (have H2_ := (Option.bind_some _ _).symm.trans H; rw [hy714]; with_reducible exact H2_) | (have H2_ := (Option.bind_some _ _).symm.trans H; with_reducible exact H2_) | with_reducible exact H | (rw [hy714]; exact H) | exact H
        have Ny714 := Ak hy714
        clear hy714
        have H' := Ak H
        clear H
        have p710 : 0 ≤ (x17_1 : Int) := Qg
        have q710 : x17_1 < (l0_2.length : Int) := Qg
        obtain ⟨ad710, A710_2, c710_2, e710, hx710_0, hx710_1, hx710_2, hl710_2, hi710_2⟩ := at_T25 HR0_2.out x17_1 p710 q710
        cases e710
        (try replace hx710_0 := (HB.out.cell (World.block_lt_of_cell? w _ hx710_0)).trans hx710_0)
        (try replace hx710_1 := (HB.out.cell (World.block_lt_of_cell? w _ hx710_1)).trans hx710_1)
        (try replace hx710_2 := (HB.out.cell (World.block_lt_of_cell? w _ hx710_2)).trans hx710_2)
        have HR710_2 := Ak hi710_2
        have HC710_2 := Ak hl710_2
        clear hi710_2 hl710_2
        replace p710 := eq_true p710
        replace q710 := eq_true q710
        go_wp2_with (first | ((with_reducible refine gate_dst (N := 6) rfl ?_); refine Qk 6 #[.int .i64 0, .int .i64 0, .slice none 0 0] 25 ?_; intro gb711 hg w12 hbox hb; replace HO_4 := Ak (Kd.R_below (Qc HO_4.out) hb); have BK711 := Ak (hbox); have GW711 := Ak ((Qp hg HB.out : w.heap.size ≤ gb711)); have GE711 := Ak ((Qp hg HB.out : w.heap.size ≤ gb711)); replace HB := Ak (below_step (Qb HB.out) hb); have NB706_711 := Ak ((by rw [hg]; exact Nat.ne_of_lt (Qn BK706.out) : gb706 ≠ gb711)); have NB711_706 := Ak ((by rw [hg]; exact Nat.ne_of_gt (Qn BK706.out) : gb711 ≠ gb706)); replace BK706 := Ak (Qm BK706.out hb); clear hb hbox hg; have hnb13 := NB711_706.out; have hnc13 := NB706_711.out; obtain ⟨hcz14_0, hcz14_1, hcz14_2⟩ := Qu3 BK711.out; have hfz14_0 := blk_frozen BK711.out 0; have hfz14_1 := blk_frozen BK711.out 1; have hfz14_2 := blk_frozen BK711.out 2) | ((with_reducible refine gate_callee (f := 52) rfl ?_); refine Qj (some 23) Tryd.func52 #[.agg #[.int .i64 ((rd_T25 l0_2 x17_1).f0), .int .i64 ((rd_T25 l0_2 x17_1).f1), .slice A710_2 ((rd_T25 l0_2 x17_1).f2).length c710_2]] ?_; (with_reducible refine (ih k1 T_61 ((rd_T25 l0_2 x17_1).f0) ((rd_T25 l0_2 x17_1).f1) _ _ ((rd_T25 l0_2 x17_1).f2) t712 true _ ?side1 ?side2 A9.out).mono ?_); (case side1 => exact Kd.C_below HR710_2.out (Qb HB.out)); (case side2 => exact HC710_2.out); rintro e w15 ⟨rfl, hb⟩; refine ⟨_, rfl, ?_⟩; replace HO_4 := Ak (Kd.R_below (by refine Qf ?_; exact (Kd.R_mono (Kd.R_far (p := ⟨gb711, 2, none⟩) (Kd.R_far (p := ⟨gb711, 1, none⟩) (Kd.R_far (p := ⟨gb711, 0, none⟩) (Kd.R_types HO_4.out BK711.out (by decide)) (fun _ hk => hk.2) (.int .i64 ((rd_T25 l0_2 x17_1).f0))) (fun _ hk => hk.2) (.int .i64 ((rd_T25 l0_2 x17_1).f1))) (fun _ hk => hk.2) (.slice A710_2 ((rd_T25 l0_2 x17_1).f2).length c710_2)) (fun _ h_ => h_.1))) hb); replace BK706 := Ak (blk_below (g := gb706) (o := .cells #[.int .i64 a0_0, .int .i64 a0_1, .slice (some ad710) l0_2.length c0_2] 25 (0, 0)) (by refine Qe ?_; refine blk_far ?_ NB706_711.out _; refine Qe ?_; refine blk_far ?_ NB706_711.out _; refine Qe ?_; refine blk_far ?_ NB706_711.out _; exact Qa BK706.out) hb); replace BK711 := Ak (blk_below (g := gb711) (o := .cells #[.int .i64 ((rd_T25 l0_2 x17_1).f0), .int .i64 ((rd_T25 l0_2 x17_1).f1), .slice A710_2 ((rd_T25 l0_2 x17_1).f2).length c710_2] 25 (0, 0)) (by refine Qe ?_; refine blk_put (cs := #[.int .i64 ((rd_T25 l0_2 x17_1).f0), .int .i64 ((rd_T25 l0_2 x17_1).f1), .slice none 0 0]) ?_ 2 _ rfl; refine Qe ?_; refine blk_put (cs := #[.int .i64 ((rd_T25 l0_2 x17_1).f0), .int .i64 0, .slice none 0 0]) ?_ 1 _ rfl; refine Qe ?_; refine blk_put (cs := #[.int .i64 0, .int .i64 0, .slice none 0 0]) ?_ 0 _ rfl; exact Qa BK711.out) hb); replace HB := Ak (below_step (Qb HB.out) hb); (try clear hb); (try clear hk)) | ((with_reducible refine gate_builtin (b := .append) (xs := #[.tmp 28, .tmp 30]) rfl ?_); at_builtin; refine Kd.R_append (Kd.int .i64) (w0 := w) w.heap.size rfl (.tmp 28) (.tmp 30) 57 3 (.int .i64 0) 8 rfl Tryd.underlying57 info3 rfl (by decide) (by omega) u4 x4_1 t712 [.int .i64 t712] (fun _ => True) (fun _ => False) rfl rfl ?aP (fun _ hk => hk.elim) ?aF ?aO ?aB ?aS ?aL ?_; (case aP => exact rfl); (case aB => exact (Qb HB.out)); (case aF => exact (fun _ _ => trivial)); (case aO => exact (Qc HO_4.out)); (case aS => exact U_28); (case aL => have := LMc11.out; omega); intro v715 w16 ho hb hg hat; rw [← Ny714.out] at ho; replace BK706 := Ak (blk_grown (g := gb706) (o := .cells #[.int .i64 a0_0, .int .i64 a0_1, .slice (some ad710) l0_2.length c0_2] 25 (0, 0)) (Qa BK706.out) hg (Kd.R_ne HO_4.out BK706.out (by decide))); replace BK711 := Ak (blk_grown (g := gb711) (o := .cells #[.int .i64 ((rd_T25 l0_2 x17_1).f0), .int .i64 ((rd_T25 l0_2 x17_1).f1), .slice A710_2 ((rd_T25 l0_2 x17_1).f2).length c710_2] 25 (0, 0)) (Qa BK711.out) hg (Kd.R_ne HO_4.out BK711.out (by decide))); replace HB := Ak (hb); have HO716 := Ak (ho); clear HO_4; clear ho hb hg hat))
        go_roundg k1
        case measure => have := HK1.out; omega
        case rel => exact ⟨(y714), (wrap64 (x17_1 + 1)), Qi, H', ⟨by have := HK1.out; omega⟩, ⟨by refine Qf ?_; exact HO716.out⟩, ⟨by refine Qe ?_; exact BK706.out⟩, ⟨Qb HB.out⟩⟩
       ·rw [if_neg c11] at H
        exact absurd H (by simp)
      ·replace c10 := Bool.eq_false_iff.mpr c10
       (try subst c10)
       have H1 : (some (0, false)) = some (r1, r2) := by rw [if_neg (show ¬ (false = true) by decide)] at H; exact H
       clear H
       have H := H1
       clear H1
       simp only [Option.some.injEq, Prod.mk.injEq] at H
       obtain ⟨rfl, rfl⟩ := H
       have p710 : 0 ≤ (x17_1 : Int) := Qg
       have q710 : x17_1 < (l0_2.length : Int) := Qg
       obtain ⟨ad710, A710_2, c710_2, e710, hx710_0, hx710_1, hx710_2, hl710_2, hi710_2⟩ := at_T25 HR0_2.out x17_1 p710 q710
       cases e710
       (try replace hx710_0 := (HB.out.cell (World.block_lt_of_cell? w _ hx710_0)).trans hx710_0)
       (try replace hx710_1 := (HB.out.cell (World.block_lt_of_cell? w _ hx710_1)).trans hx710_1)
       (try replace hx710_2 := (HB.out.cell (World.block_lt_of_cell? w _ hx710_2)).trans hx710_2)
       have HR710_2 := Ak hi710_2
       have HC710_2 := Ak hl710_2
       clear hi710_2 hl710_2
       replace p710 := eq_true p710
       replace q710 := eq_true q710
       go_wp2_with (first | ((with_reducible refine gate_dst (N := 6) rfl ?_); refine Qk 6 #[.int .i64 0, .int .i64 0, .slice none 0 0] 25 ?_; intro gb711 hg w17 hbox hb; replace HO_4 := Ak (Kd.R_below (Qc HO_4.out) hb); have BK711 := Ak (hbox); have GW711 := Ak ((Qp hg HB.out : w.heap.size ≤ gb711)); have GE711 := Ak ((Qp hg HB.out : w.heap.size ≤ gb711)); replace HB := Ak (below_step (Qb HB.out) hb); have NB706_711 := Ak ((by rw [hg]; exact Nat.ne_of_lt (Qn BK706.out) : gb706 ≠ gb711)); have NB711_706 := Ak ((by rw [hg]; exact Nat.ne_of_gt (Qn BK706.out) : gb711 ≠ gb706)); replace BK706 := Ak (Qm BK706.out hb); clear hb hbox hg; have hnb18 := NB711_706.out; have hnc18 := NB706_711.out; obtain ⟨hcz19_0, hcz19_1, hcz19_2⟩ := Qu3 BK711.out; have hfz19_0 := blk_frozen BK711.out 0; have hfz19_1 := blk_frozen BK711.out 1; have hfz19_2 := blk_frozen BK711.out 2) | ((with_reducible refine gate_callee (f := 52) rfl ?_); refine Qj (some 23) Tryd.func52 #[.agg #[.int .i64 ((rd_T25 l0_2 x17_1).f0), .int .i64 ((rd_T25 l0_2 x17_1).f1), .slice A710_2 ((rd_T25 l0_2 x17_1).f2).length c710_2]] ?_; (with_reducible refine (ih k1 T_61 ((rd_T25 l0_2 x17_1).f0) ((rd_T25 l0_2 x17_1).f1) _ _ ((rd_T25 l0_2 x17_1).f2) t712 false _ ?side1 ?side2 A9.out).mono ?_); (case side1 => exact Kd.C_below HR710_2.out (Qb HB.out)); (case side2 => exact HC710_2.out); rintro e w20 ⟨rfl, hb⟩; refine ⟨_, rfl, ?_⟩; replace HO_4 := Ak (Kd.R_below (by refine Qf ?_; exact (Kd.R_mono (Kd.R_far (p := ⟨gb711, 2, none⟩) (Kd.R_far (p := ⟨gb711, 1, none⟩) (Kd.R_far (p := ⟨gb711, 0, none⟩) (Kd.R_types HO_4.out BK711.out (by decide)) (fun _ hk => hk.2) (.int .i64 ((rd_T25 l0_2 x17_1).f0))) (fun _ hk => hk.2) (.int .i64 ((rd_T25 l0_2 x17_1).f1))) (fun _ hk => hk.2) (.slice A710_2 ((rd_T25 l0_2 x17_1).f2).length c710_2)) (fun _ h_ => h_.1))) hb); replace BK706 := Ak (blk_below (g := gb706) (o := .cells #[.int .i64 a0_0, .int .i64 a0_1, .slice (some ad710) l0_2.length c0_2] 25 (0, 0)) (by refine Qe ?_; refine blk_far ?_ NB706_711.out _; refine Qe ?_; refine blk_far ?_ NB706_711.out _; refine Qe ?_; refine blk_far ?_ NB706_711.out _; exact Qa BK706.out) hb); replace BK711 := Ak (blk_below (g := gb711) (o := .cells #[.int .i64 ((rd_T25 l0_2 x17_1).f0), .int .i64 ((rd_T25 l0_2 x17_1).f1), .slice A710_2 ((rd_T25 l0_2 x17_1).f2).length c710_2] 25 (0, 0)) (by refine Qe ?_; refine blk_put (cs := #[.int .i64 ((rd_T25 l0_2 x17_1).f0), .int .i64 ((rd_T25 l0_2 x17_1).f1), .slice none 0 0]) ?_ 2 _ rfl; refine Qe ?_; refine blk_put (cs := #[.int .i64 ((rd_T25 l0_2 x17_1).f0), .int .i64 0, .slice none 0 0]) ?_ 1 _ rfl; refine Qe ?_; refine blk_put (cs := #[.int .i64 0, .int .i64 0, .slice none 0 0]) ?_ 0 _ rfl; exact Qa BK711.out) hb); replace HB := Ak (below_step (Qb HB.out) hb); (try clear hb); (try clear hk)))
       go_ret2
       exact ⟨Qh, Qb HB.out⟩
     ·rw [if_neg c8] at H
      exact absurd H (by simp)
    ·rw [if_neg c7] at H
     exact absurd H (by simp)
   ·rw [if_neg c6] at H
    have c6b0 : decide (x17_1 < (l0_2.length : Int)) = false := decide_eq_false c6
    clear c6
    by_cases c21 : a0_0 = 2
    ·rw [if_pos c21] at H
     have c21b0 : (a0_0 == 2) = true := beq_iff_eq.mpr c21
     have c21b1 : (a0_0 != 2) = false := bne_eq_false_iff_eq.mpr c21
     clear c21
     by_cases c22 : 0 < (x4_1.length : Int)
     ·rw [if_pos c22] at H
      have c22b0 : decide (0 < (x4_1.length : Int)) = true := decide_eq_true c22
      have c22b1 : decide (0 < x4_1.length) = true := decide_eq_true (by omega)
      clear c22
      replace H := Option.bind_eq_some_iff.mp H
      obtain ⟨t718, A230, H⟩ := H
      replace H : (some (rd x4_1 0, t718)) = some (r1, r2) := H
      have A23 := Ak A230
      clear A230
      simp only [Option.some.injEq, Prod.mk.injEq] at H
      obtain ⟨rfl, rfl⟩ := H
      obtain ⟨hcz24_0, hcz24_1, hcz24_2, hfz24_0, hfz24_1, hfz24_2⟩ := Qv3 BK706.out
      obtain ⟨Ao25, co25, eo25⟩ := Kd.R_slice HO_4.out
      subst eo25
      have p717 : 0 ≤ (0 : Int) := (by omega)
      have q717 : 0 < (x4_1.length : Int) := Qg
      obtain ⟨ad717, e717, hx717_0⟩ := Kd.at_int (Kd.R_reads' HO_4.out).2.2 0 p717 q717
      cases e717
      have qi717 : (0 < x4_1.length) = True := eq_true (by omega)
      (try rw [show ((0 : Int)).toNat = 0 from rfl] at hx717_0)
      (try rw [Addr.add_zero'] at hx717_0)
      replace p717 := eq_true p717
      replace q717 := eq_true q717
      go_wp2_with (first | (go_at_call 96; (with_reducible refine (impl_fits.calls k1 (rd x4_1 0) 30 t718 _ A23.out).mono ?_); rintro e w' ⟨rfl, ⟨nd, rfl⟩⟩))
      go_ret2
      exact ⟨Qh, Qb HB.out⟩
     ·rw [if_neg c22] at H
      exact absurd H (by simp)
    ·rw [if_neg c21] at H
     have c21b0 : (a0_0 == 2) = false := beq_eq_false_iff_ne.mpr c21
     have c21b1 : (a0_0 != 2) = true := bne_iff_ne.mpr c21
     by_cases c26 : a0_0 = 3
     ·rw [if_pos c26] at H
      have c26b0 : (a0_0 == 3) = true := beq_iff_eq.mpr c26
      have c26b1 : (a0_0 != 3) = false := bne_eq_false_iff_eq.mpr c26
      clear c26
      by_cases c27 : 0 < (x4_1.length : Int)
      ·rw [if_pos c27] at H
       have c27b0 : decide (0 < (x4_1.length : Int)) = true := decide_eq_true c27
       have c27b1 : decide (0 < x4_1.length) = true := decide_eq_true (by omega)
       clear c27
       replace H := Option.bind_eq_some_iff.mp H
       obtain ⟨t720, A280, H⟩ := H
       replace H : (some (wrap64 (-(rd x4_1 0)), t720)) = some (r1, r2) := H
       have A28 := Ak A280
       clear A280
       simp only [Option.some.injEq, Prod.mk.injEq] at H
       obtain ⟨rfl, rfl⟩ := H
       obtain ⟨hcz29_0, hcz29_1, hcz29_2, hfz29_0, hfz29_1, hfz29_2⟩ := Qv3 BK706.out
       obtain ⟨Ao30, co30, eo30⟩ := Kd.R_slice HO_4.out
       subst eo30
       have p719 : 0 ≤ (0 : Int) := (by omega)
       have q719 : 0 < (x4_1.length : Int) := Qg
       obtain ⟨ad719, e719, hx719_0⟩ := Kd.at_int (Kd.R_reads' HO_4.out).2.2 0 p719 q719
       cases e719
       have qi719 : (0 < x4_1.length) = True := eq_true (by omega)
       (try rw [show ((0 : Int)).toNat = 0 from rfl] at hx719_0)
       (try rw [Addr.add_zero'] at hx719_0)
       replace p719 := eq_true p719
       replace q719 := eq_true q719
       go_wp2_with (first | (go_at_call 96; (with_reducible refine (impl_fits.calls k1 (wrap64 (-(rd x4_1 0))) 30 t720 _ A28.out).mono ?_); rintro e w' ⟨rfl, ⟨nd, rfl⟩⟩))
       go_ret2
       exact ⟨Qh, Qb HB.out⟩
      ·rw [if_neg c27] at H
       exact absurd H (by simp)
     ·rw [if_neg c26] at H
      have c26b0 : (a0_0 == 3) = false := beq_eq_false_iff_ne.mpr c26
      have c26b1 : (a0_0 != 3) = true := bne_iff_ne.mpr c26
      by_cases c31 : a0_0 = 4
      ·rw [if_pos c31] at H
       have c31b0 : (a0_0 == 4) = true := beq_iff_eq.mpr c31
       have c31b1 : (a0_0 != 4) = false := bne_eq_false_iff_eq.mpr c31
       clear c31
       by_cases c32 : 0 < (x4_1.length : Int)
       ·rw [if_pos c32] at H
        have c32b0 : decide (0 < (x4_1.length : Int)) = true := decide_eq_true c32
        have c32b1 : decide (0 < x4_1.length) = true := decide_eq_true (by omega)
        clear c32
        by_cases c33 : 1 < (x4_1.length : Int)
        ·rw [if_pos c33] at H
         have c33b0 : decide (1 < (x4_1.length : Int)) = true := decide_eq_true c33
         have c33b1 : decide (1 < x4_1.length) = true := decide_eq_true (by omega)
         clear c33
         replace H := Option.bind_eq_some_iff.mp H
         obtain ⟨t723, A340, H⟩ := H
         replace H : (some (wrap64 ((rd x4_1 0) + (rd x4_1 1)), t723)) = some (r1, r2) := H
         have A34 := Ak A340
         clear A340
         simp only [Option.some.injEq, Prod.mk.injEq] at H
         obtain ⟨rfl, rfl⟩ := H
         obtain ⟨hcz35_0, hcz35_1, hcz35_2, hfz35_0, hfz35_1, hfz35_2⟩ := Qv3 BK706.out
         try go_wp2
         have n0_ := Ak (Kd.R_drew HO_4.out)
         have n1_ := Ak (blk_drew BK706.out)
         have n2_ := Ak (below_drew1 HB.out)
         clear HO_4 BK706 HB
         have HO_4 := n0_
         have BK706 := n1_
         have HB := n2_
         clear n0_ n1_ n2_
         obtain ⟨Ao37, co37, eo37⟩ := Kd.R_slice HO_4.out
         (first | subst eo37 | (injection eo37 with f1_ f2_ f3_; have f4_ := f1_.symm; have f5_ := f3_.symm; clear f1_ f2_ f3_; subst f4_; subst f5_))
         have p721 : 0 ≤ (0 : Int) := (by omega)
         have q721 : 0 < (x4_1.length : Int) := Qg
         obtain ⟨ad721, e721, hx721_0⟩ := Kd.at_int (Kd.R_reads' HO_4.out).2.2 0 p721 q721
         cases e721
         have qi721 : (0 < x4_1.length) = True := eq_true (by omega)
         (try rw [show ((0 : Int)).toNat = 0 from rfl] at hx721_0)
         (try rw [Addr.add_zero'] at hx721_0)
         replace p721 := eq_true p721
         replace q721 := eq_true q721
         have p722 : 0 ≤ (1 : Int) := (by omega)
         have q722 : 1 < (x4_1.length : Int) := Qg
         obtain ⟨ad722, e722, hx722_0⟩ := Kd.at_int (Kd.R_reads' HO_4.out).2.2 1 p722 q722
         obtain rfl : ad721 = ad722 := (by injection e722)
         (try simp only [show (1 : Int).toNat = 1 from rfl, Nat.reduceMul, Nat.reduceEqDiff, Go.Addr.add, ↓reduceIte] at hx722_0)
         have qi722 : (1 < x4_1.length) = True := eq_true (by omega)
         (try rw [show ((1 : Int)).toNat = 1 from rfl] at hx722_0)
         replace p722 := eq_true p722
         replace q722 := eq_true q722
         refine start_ (n := 8) (S := fun w' => w'.cell? ad721 = some (.int .i64 (rd x4_1 0)) ∧ w'.cell? ⟨ad721.block, ad721.off + 1, none⟩ = some (.int .i64 (rd x4_1 1))) (ds := []) #[false, false, false, false, false, false, false, false] (by kernel_rfl) rfl rfl ⟨hx721_0, hx722_0⟩ (fun hHeld => ?_); refine with_tabW impl_evaluated.tab17 impl_evaluated.bits17 (fun HT_ HW_ => ?_)
         generalize wr.drew = w36 at HO_4 BK706 HB hx721_0 hx722_0 hHeld ⊢
         refine Qq 0 (some 50) ?_
         refine Qq 1 (some 51) ?_
         refine Qq 3 (some 53) ?_
         refine Qq 4 (some 54) ?_
         refine Qr 2 (some 52) hHeld ?_
         refine Qr 5 (some 55) hHeld ?_
         refine Qq 6 (some 56) ?_
         refine Qq 7 (some 9) ?_
         refine done_ (done_of HT_.out (by kernel_rfl)) ?_
         try go_wp2_with (first | (go_at_call 96; (with_reducible refine (impl_fits.calls k1 (wrap64 ((rd x4_1 0) + (rd x4_1 1))) 30 t723 _ A34.out).mono ?_); rintro e w' ⟨rfl, ⟨nd, rfl⟩⟩))
         go_ret2
         exact ⟨Qh, Qb HB.out⟩
        ·rw [if_neg c33] at H
         exact absurd H (by simp)
       ·rw [if_neg c32] at H
        exact absurd H (by simp)
      ·rw [if_neg c31] at H
       have c31b0 : (a0_0 == 4) = false := beq_eq_false_iff_ne.mpr c31
       have c31b1 : (a0_0 != 4) = true := bne_iff_ne.mpr c31
       by_cases c38 : a0_0 = 5
       ·rw [if_pos c38] at H
        have c38b0 : (a0_0 == 5) = true := beq_iff_eq.mpr c38
        have c38b1 : (a0_0 != 5) = false := bne_eq_false_iff_eq.mpr c38
        clear c38
        by_cases c39 : 0 < (x4_1.length : Int)
        ·rw [if_pos c39] at H
         have c39b0 : decide (0 < (x4_1.length : Int)) = true := decide_eq_true c39
         have c39b1 : decide (0 < x4_1.length) = true := decide_eq_true (by omega)
         clear c39
         by_cases c40 : 1 < (x4_1.length : Int)
         ·rw [if_pos c40] at H
          have c40b0 : decide (1 < (x4_1.length : Int)) = true := decide_eq_true c40
          have c40b1 : decide (1 < x4_1.length) = true := decide_eq_true (by omega)
          clear c40
          replace H := Option.bind_eq_some_iff.mp H
          obtain ⟨t726, A410, H⟩ := H
          replace H : (some (wrap64 ((rd x4_1 0) - (rd x4_1 1)), t726)) = some (r1, r2) := H
          have A41 := Ak A410
          clear A410
          simp only [Option.some.injEq, Prod.mk.injEq] at H
          obtain ⟨rfl, rfl⟩ := H
          obtain ⟨hcz42_0, hcz42_1, hcz42_2, hfz42_0, hfz42_1, hfz42_2⟩ := Qv3 BK706.out
          try go_wp2
          have n0_ := Ak (Kd.R_drew HO_4.out)
          have n1_ := Ak (blk_drew BK706.out)
          have n2_ := Ak (below_drew1 HB.out)
          clear HO_4 BK706 HB
          have HO_4 := n0_
          have BK706 := n1_
          have HB := n2_
          clear n0_ n1_ n2_
          obtain ⟨Ao44, co44, eo44⟩ := Kd.R_slice HO_4.out
          (first | subst eo44 | (injection eo44 with f1_ f2_ f3_; have f4_ := f1_.symm; have f5_ := f3_.symm; clear f1_ f2_ f3_; subst f4_; subst f5_))
          have p724 : 0 ≤ (0 : Int) := (by omega)
          have q724 : 0 < (x4_1.length : Int) := Qg
          obtain ⟨ad724, e724, hx724_0⟩ := Kd.at_int (Kd.R_reads' HO_4.out).2.2 0 p724 q724
          cases e724
          have qi724 : (0 < x4_1.length) = True := eq_true (by omega)
          (try rw [show ((0 : Int)).toNat = 0 from rfl] at hx724_0)
          (try rw [Addr.add_zero'] at hx724_0)
          replace p724 := eq_true p724
          replace q724 := eq_true q724
          have p725 : 0 ≤ (1 : Int) := (by omega)
          have q725 : 1 < (x4_1.length : Int) := Qg
          obtain ⟨ad725, e725, hx725_0⟩ := Kd.at_int (Kd.R_reads' HO_4.out).2.2 1 p725 q725
          obtain rfl : ad724 = ad725 := (by injection e725)
          (try simp only [show (1 : Int).toNat = 1 from rfl, Nat.reduceMul, Nat.reduceEqDiff, Go.Addr.add, ↓reduceIte] at hx725_0)
          have qi725 : (1 < x4_1.length) = True := eq_true (by omega)
          (try rw [show ((1 : Int)).toNat = 1 from rfl] at hx725_0)
          replace p725 := eq_true p725
          replace q725 := eq_true q725
          refine start_ (n := 8) (S := fun w' => w'.cell? ad724 = some (.int .i64 (rd x4_1 0)) ∧ w'.cell? ⟨ad724.block, ad724.off + 1, none⟩ = some (.int .i64 (rd x4_1 1))) (ds := []) #[false, false, false, false, false, false, false, false] (by kernel_rfl) rfl rfl ⟨hx724_0, hx725_0⟩ (fun hHeld => ?_); refine with_tabW impl_evaluated.tab19 impl_evaluated.bits19 (fun HT_ HW_ => ?_)
          generalize wr.drew = w43 at HO_4 BK706 HB hx724_0 hx725_0 hHeld ⊢
          refine Qq 0 (some 59) ?_
          refine Qq 1 (some 60) ?_
          refine Qq 3 (some 62) ?_
          refine Qq 4 (some 63) ?_
          refine Qr 2 (some 61) hHeld ?_
          refine Qr 5 (some 64) hHeld ?_
          refine Qq 6 (some 65) ?_
          refine Qq 7 (some 9) ?_
          refine done_ (done_of HT_.out (by kernel_rfl)) ?_
          try go_wp2_with (first | (go_at_call 96; (with_reducible refine (impl_fits.calls k1 (wrap64 ((rd x4_1 0) - (rd x4_1 1))) 30 t726 _ A41.out).mono ?_); rintro e w' ⟨rfl, ⟨nd, rfl⟩⟩))
          go_ret2
          exact ⟨Qh, Qb HB.out⟩
         ·rw [if_neg c40] at H
          exact absurd H (by simp)
        ·rw [if_neg c39] at H
         exact absurd H (by simp)
       ·rw [if_neg c38] at H
        have c38b0 : (a0_0 == 5) = false := beq_eq_false_iff_ne.mpr c38
        have c38b1 : (a0_0 != 5) = true := bne_iff_ne.mpr c38
        by_cases c45 : a0_0 = 6
        ·rw [if_pos c45] at H
         have c45b0 : (a0_0 == 6) = true := beq_iff_eq.mpr c45
         have c45b1 : (a0_0 != 6) = false := bne_eq_false_iff_eq.mpr c45
         clear c45
         by_cases c46 : 0 < (x4_1.length : Int)
         ·rw [if_pos c46] at H
          have c46b0 : decide (0 < (x4_1.length : Int)) = true := decide_eq_true c46
          have c46b1 : decide (0 < x4_1.length) = true := decide_eq_true (by omega)
          clear c46
          by_cases c47 : 1 < (x4_1.length : Int)
          ·rw [if_pos c47] at H
           have c47b0 : decide (1 < (x4_1.length : Int)) = true := decide_eq_true c47
           have c47b1 : decide (1 < x4_1.length) = true := decide_eq_true (by omega)
           clear c47
           replace H := Option.bind_eq_some_iff.mp H
           obtain ⟨⟨t729, t730⟩, A480, H⟩ := H
           replace H : (if t730 = true then ((impl_fits.f k1 t729 30).bind fun t731 => (some (t729, t731))) else (some (t729, false))) = some (r1, r2) := H
           have A48 := Ak A480
           clear A480
           by_cases c49 : t730 = true
           ·(try subst c49)
            have H1 : ((impl_fits.f k1 t729 30).bind fun t731 => (some (t729, t731))) = some (r1, r2) := by rw [if_pos rfl] at H; exact H
            clear H
            have H := H1
            clear H1
            replace H := Option.bind_eq_some_iff.mp H
            obtain ⟨t731, A500, H⟩ := H
            replace H : (some (t729, t731)) = some (r1, r2) := H
            have A50 := Ak A500
            clear A500
            simp only [Option.some.injEq, Prod.mk.injEq] at H
            obtain ⟨rfl, rfl⟩ := H
            obtain ⟨hcz51_0, hcz51_1, hcz51_2, hfz51_0, hfz51_1, hfz51_2⟩ := Qv3 BK706.out
            try go_wp2
            have n0_ := Ak (Kd.R_drew HO_4.out)
            have n1_ := Ak (blk_drew BK706.out)
            have n2_ := Ak (below_drew1 HB.out)
            clear HO_4 BK706 HB
            have HO_4 := n0_
            have BK706 := n1_
            have HB := n2_
            clear n0_ n1_ n2_
            obtain ⟨Ao53, co53, eo53⟩ := Kd.R_slice HO_4.out
            (first | subst eo53 | (injection eo53 with f1_ f2_ f3_; have f4_ := f1_.symm; have f5_ := f3_.symm; clear f1_ f2_ f3_; subst f4_; subst f5_))
            have p727 : 0 ≤ (0 : Int) := (by omega)
            have q727 : 0 < (x4_1.length : Int) := Qg
            obtain ⟨ad727, e727, hx727_0⟩ := Kd.at_int (Kd.R_reads' HO_4.out).2.2 0 p727 q727
            cases e727
            have qi727 : (0 < x4_1.length) = True := eq_true (by omega)
            (try rw [show ((0 : Int)).toNat = 0 from rfl] at hx727_0)
            (try rw [Addr.add_zero'] at hx727_0)
            replace p727 := eq_true p727
            replace q727 := eq_true q727
            have p728 : 0 ≤ (1 : Int) := (by omega)
            have q728 : 1 < (x4_1.length : Int) := Qg
            obtain ⟨ad728, e728, hx728_0⟩ := Kd.at_int (Kd.R_reads' HO_4.out).2.2 1 p728 q728
            obtain rfl : ad727 = ad728 := (by injection e728)
            (try simp only [show (1 : Int).toNat = 1 from rfl, Nat.reduceMul, Nat.reduceEqDiff, Go.Addr.add, ↓reduceIte] at hx728_0)
            have qi728 : (1 < x4_1.length) = True := eq_true (by omega)
            (try rw [show ((1 : Int)).toNat = 1 from rfl] at hx728_0)
            replace p728 := eq_true p728
            replace q728 := eq_true q728
            refine start_ (n := 12) (S := fun w' => w'.cell? ad727 = some (.int .i64 (rd x4_1 0)) ∧ w'.cell? ⟨ad727.block, ad727.off + 1, none⟩ = some (.int .i64 (rd x4_1 1))) (ds := []) #[false, false, false, false, false, false, false, false, false, false, false, false] (by kernel_rfl) rfl rfl ⟨hx727_0, hx728_0⟩ (fun hHeld => ?_); refine with_tabW impl_evaluated.tab21 impl_evaluated.bits21 (fun HT_ HW_ => ?_)
            generalize wr.drew = w52 at HO_4 BK706 HB hx727_0 hx728_0 hHeld ⊢
            refine Qq 0 (some 69) ?_
            refine Qq 1 (some 70) ?_
            refine Qq 3 (some 72) ?_
            refine Qq 4 (some 73) ?_
            refine Qr 2 (some 71) hHeld ?_
            refine Qr 5 (some 74) hHeld ?_
            refine Qs 6 (some 75) (fun K hK => ?_)
            refine goes_ Tryd.func94 (by kernel_rfl) rfl #[.int .i64 (rd x4_1 0), .int .i64 (rd x4_1 1)] (by rfl) rfl rfl T_49 ?_
            with_reducible refine (impl_product.calls k1 (rd x4_1 0) (rd x4_1 1) t729 true _ A48.out).mono ?_
            rintro e w54 ⟨rfl, hb⟩
            have HS0_ := (hb.cell (World.block_lt_of_cell? _ _ (hHeld.1))).trans (hHeld.1)
            have HS1_ := (hb.cell (World.block_lt_of_cell? _ _ (hHeld.2))).trans (hHeld.2)
            refine ⟨_, rfl, ?_⟩
            have n0_ := Ak (Kd.R_below (Qc HO_4.out) hb)
            have n1_ := Ak (Qm BK706.out hb)
            have n2_ := Ak (below_step (Qb HB.out) hb)
            clear HO_4 BK706 HB
            have HO_4 := n0_
            have BK706 := n1_
            have HB := n2_
            clear n0_ n1_ n2_
            (try clear hb)
            refine hK.out _ _ ⟨HS0_, HS1_⟩ (fun hHeld => ?_)
            clear hK K
            refine norm_ (a' := ?_) ?_ ?_
            rotate_left
            ·show Act.put _ (some 75) _ = _
             simp only [Act.put, List.setIfInBounds_toArray, List.set_cons_zero, List.set_cons_succ, i64_w, i32_w]
             rfl
            refine Qq 7 (some 68) ?_
            refine Qq 8 (some 76) ?_
            refine Qq 9 (some 77) ?_
            refine Qq 10 (some 9) ?_
            refine Qq 11 (some 10) ?_
            refine done_ (done_of HT_.out (by kernel_rfl)) ?_
            try go_wp2_with (first | (go_at_call 96; (with_reducible refine (impl_fits.calls k1 t729 30 t731 _ A50.out).mono ?_); rintro e w' ⟨rfl, ⟨nd, rfl⟩⟩))
            go_ret2
            exact ⟨Qh, Qb HB.out⟩
           ·replace c49 := Bool.eq_false_iff.mpr c49
            (try subst c49)
            have H1 : (some (t729, false)) = some (r1, r2) := by rw [if_neg (show ¬ (false = true) by decide)] at H; exact H
            clear H
            have H := H1
            clear H1
            simp only [Option.some.injEq, Prod.mk.injEq] at H
            obtain ⟨rfl, rfl⟩ := H
            obtain ⟨hcz55_0, hcz55_1, hcz55_2, hfz55_0, hfz55_1, hfz55_2⟩ := Qv3 BK706.out
            try go_wp2
            have n0_ := Ak (Kd.R_drew HO_4.out)
            have n1_ := Ak (blk_drew BK706.out)
            have n2_ := Ak (below_drew1 HB.out)
            clear HO_4 BK706 HB
            have HO_4 := n0_
            have BK706 := n1_
            have HB := n2_
            clear n0_ n1_ n2_
            obtain ⟨Ao57, co57, eo57⟩ := Kd.R_slice HO_4.out
            (first | subst eo57 | (injection eo57 with f1_ f2_ f3_; have f4_ := f1_.symm; have f5_ := f3_.symm; clear f1_ f2_ f3_; subst f4_; subst f5_))
            have p727 : 0 ≤ (0 : Int) := (by omega)
            have q727 : 0 < (x4_1.length : Int) := Qg
            obtain ⟨ad727, e727, hx727_0⟩ := Kd.at_int (Kd.R_reads' HO_4.out).2.2 0 p727 q727
            cases e727
            have qi727 : (0 < x4_1.length) = True := eq_true (by omega)
            (try rw [show ((0 : Int)).toNat = 0 from rfl] at hx727_0)
            (try rw [Addr.add_zero'] at hx727_0)
            replace p727 := eq_true p727
            replace q727 := eq_true q727
            have p728 : 0 ≤ (1 : Int) := (by omega)
            have q728 : 1 < (x4_1.length : Int) := Qg
            obtain ⟨ad728, e728, hx728_0⟩ := Kd.at_int (Kd.R_reads' HO_4.out).2.2 1 p728 q728
            obtain rfl : ad727 = ad728 := (by injection e728)
            (try simp only [show (1 : Int).toNat = 1 from rfl, Nat.reduceMul, Nat.reduceEqDiff, Go.Addr.add, ↓reduceIte] at hx728_0)
            have qi728 : (1 < x4_1.length) = True := eq_true (by omega)
            (try rw [show ((1 : Int)).toNat = 1 from rfl] at hx728_0)
            replace p728 := eq_true p728
            replace q728 := eq_true q728
            refine start_ (n := 12) (S := fun w' => w'.cell? ad727 = some (.int .i64 (rd x4_1 0)) ∧ w'.cell? ⟨ad727.block, ad727.off + 1, none⟩ = some (.int .i64 (rd x4_1 1))) (ds := []) #[false, false, false, false, false, false, false, false, false, false, false, false] (by kernel_rfl) rfl rfl ⟨hx727_0, hx728_0⟩ (fun hHeld => ?_); refine with_tabW impl_evaluated.tab21 impl_evaluated.bits21 (fun HT_ HW_ => ?_)
            generalize wr.drew = w56 at HO_4 BK706 HB hx727_0 hx728_0 hHeld ⊢
            refine Qq 0 (some 69) ?_
            refine Qq 1 (some 70) ?_
            refine Qq 3 (some 72) ?_
            refine Qq 4 (some 73) ?_
            refine Qr 2 (some 71) hHeld ?_
            refine Qr 5 (some 74) hHeld ?_
            refine Qs 6 (some 75) (fun K hK => ?_)
            refine goes_ Tryd.func94 (by kernel_rfl) rfl #[.int .i64 (rd x4_1 0), .int .i64 (rd x4_1 1)] (by rfl) rfl rfl T_49 ?_
            with_reducible refine (impl_product.calls k1 (rd x4_1 0) (rd x4_1 1) t729 false _ A48.out).mono ?_
            rintro e w58 ⟨rfl, hb⟩
            have HS0_ := (hb.cell (World.block_lt_of_cell? _ _ (hHeld.1))).trans (hHeld.1)
            have HS1_ := (hb.cell (World.block_lt_of_cell? _ _ (hHeld.2))).trans (hHeld.2)
            refine ⟨_, rfl, ?_⟩
            have n0_ := Ak (Kd.R_below (Qc HO_4.out) hb)
            have n1_ := Ak (Qm BK706.out hb)
            have n2_ := Ak (below_step (Qb HB.out) hb)
            clear HO_4 BK706 HB
            have HO_4 := n0_
            have BK706 := n1_
            have HB := n2_
            clear n0_ n1_ n2_
            (try clear hb)
            refine hK.out _ _ ⟨HS0_, HS1_⟩ (fun hHeld => ?_)
            clear hK K
            refine norm_ (a' := ?_) ?_ ?_
            rotate_left
            ·show Act.put _ (some 75) _ = _
             simp only [Act.put, List.setIfInBounds_toArray, List.set_cons_zero, List.set_cons_succ, i64_w, i32_w]
             rfl
            refine Qq 7 (some 68) ?_
            refine Qq 8 (some 76) ?_
            refine Qq 9 (some 77) ?_
            refine Qq 10 (some 9) ?_
            refine Qq 11 (some 10) ?_
            refine done_ (done_of HT_.out (by kernel_rfl)) ?_
            try go_wp2
            go_ret2
            exact ⟨Qh, Qb HB.out⟩
          ·rw [if_neg c47] at H
           exact absurd H (by simp)
         ·rw [if_neg c46] at H
          exact absurd H (by simp)
        ·rw [if_neg c45] at H
         have c45b0 : (a0_0 == 6) = false := beq_eq_false_iff_ne.mpr c45
         have c45b1 : (a0_0 != 6) = true := bne_iff_ne.mpr c45
         have HC59 := Ak H
         clear H
         obtain ⟨hcz60_0, hcz60_1, hcz60_2, hfz60_0, hfz60_1, hfz60_2⟩ := Qv3 BK706.out
         go_upto_if 78 with (fail)
         go_cut [78] (fun v78 wc => ∃ (kq : Nat) (x78_58 : Bool), v78 = .bool x78_58 ∧ Aside0 (impl_evaluated.j1 kq x4_1 a0_1 true x78_58 a0_0 a0_1 l0_2 = some (r1, r2)) ∧ Aside0 (kq ≤ k1) ∧ Aside0 (Kd.R (Kd.int .i64) 3 wc w.heap.size (fun _ => True) u4 x4_1) ∧ Aside0 (wc.heap[gb706]? = some (.cells #[.int .i64 a0_0, .int .i64 a0_1, (.slice A0_2 l0_2.length c0_2)] 25 (0, 0))) ∧ Aside0 (Below w.heap.size w wc))
         case first =>
          have H := HC59.out
          clear HC59
          by_cases c61 : a0_0 = 7
          ·rw [if_pos c61] at H
           have c61b0 : (a0_0 == 7) = true := beq_iff_eq.mpr c61
           have c61b1 : (a0_0 != 7) = false := bne_eq_false_iff_eq.mpr c61
           clear c61
           (first | rw [c61b0] | (simp only [i64_w, i32_w]; rw [c61b0]) | skip)
           have H' := Ak H
           clear H
           go_wp2
           go_meet
           case rel => exact ⟨_, ((a0_0 == 7)), Qi, H', ⟨by have := HK1.out; first | omega | exact Nat.le_refl _⟩, ⟨by refine Qf ?_; exact HO_4.out⟩, ⟨by refine Qe ?_; exact BK706.out⟩, ⟨Qb HB.out⟩⟩
          ·rw [if_neg c61] at H
           have c61b0 : (a0_0 == 7) = false := beq_eq_false_iff_ne.mpr c61
           have c61b1 : (a0_0 != 7) = true := bne_iff_ne.mpr c61
           (first | rw [c61b0] | (simp only [i64_w, i32_w]; rw [c61b0]) | skip)
           have H' := Ak H
           clear H
           go_wp2
           go_meet
           case rel => exact ⟨_, ((a0_0 == 8)), Qi, H', ⟨by have := HK1.out; first | omega | exact Nat.le_refl _⟩, ⟨by refine Qf ?_; exact HO_4.out⟩, ⟨by refine Qe ?_; exact BK706.out⟩, ⟨Qb HB.out⟩⟩
         case rest =>
          clear HC59
          (try clear p2)
          obtain ⟨kq, x78_58, rfl, HA, HJ58, HO_4, BK706, HB⟩ := hcut
          cases kq with
          | zero => exact absurd HA.out (by simp [impl_evaluated.j1])
          | succ kj58 =>
           have H := HA.out
           clear HA
           simp only [impl_evaluated.j1] at H
           by_cases c62 : x78_58 = true
           ·(try subst c62)
            have H1 : (if 1 < (x4_1.length : Int) then (if (rd x4_1 1) = 0 then (some (0, false)) else (if 0 < (x4_1.length : Int) then ((impl_divided.f (rd x4_1 0) (rd x4_1 1)).bind fun bt735 => (if a0_0 = 8 then (if true = true then ((impl_fits.f kj58 bt735.2 30).bind fun t737 => (some (bt735.2, t737))) else (some (bt735.2, false))) else (if true = true then ((impl_fits.f kj58 bt735.1 30).bind fun t738 => (some (bt735.1, t738))) else (some (bt735.1, false))))) else (none))) else (none)) = some (r1, r2) := by rw [if_pos rfl] at H; exact H
            clear H
            have H := H1
            clear H1
            by_cases c63 : 1 < (x4_1.length : Int)
            ·rw [if_pos c63] at H
             have c63b0 : decide (1 < (x4_1.length : Int)) = true := decide_eq_true c63
             have c63b1 : decide (1 < x4_1.length) = true := decide_eq_true (by omega)
             clear c63
             by_cases c64 : (rd x4_1 1) = 0
             ·rw [if_pos c64] at H
              have c64b0 : ((rd x4_1 1) == 0) = true := beq_iff_eq.mpr c64
              have c64b1 : ((rd x4_1 1) != 0) = false := bne_eq_false_iff_eq.mpr c64
              clear c64
              simp only [Option.some.injEq, Prod.mk.injEq] at H
              obtain ⟨rfl, rfl⟩ := H
              obtain ⟨Ao65, co65, eo65⟩ := Kd.R_slice HO_4.out
              subst eo65
              have p732 : 0 ≤ (1 : Int) := (by omega)
              have q732 : 1 < (x4_1.length : Int) := Qg
              obtain ⟨ad732, e732, hx732_0⟩ := Kd.at_int (Kd.R_reads' HO_4.out).2.2 1 p732 q732
              cases e732
              (try simp only [show (1 : Int).toNat = 1 from rfl, Nat.reduceMul, Nat.reduceEqDiff, Go.Addr.add, ↓reduceIte] at hx732_0)
              have qi732 : (1 < x4_1.length) = True := eq_true (by omega)
              (try rw [show ((1 : Int)).toNat = 1 from rfl] at hx732_0)
              replace p732 := eq_true p732
              replace q732 := eq_true q732
              go_wp2
              go_ret2
              exact ⟨Qh, Qb HB.out⟩
             ·rw [if_neg c64] at H
              have c64b0 : ((rd x4_1 1) == 0) = false := beq_eq_false_iff_ne.mpr c64
              have c64b1 : ((rd x4_1 1) != 0) = true := bne_iff_ne.mpr c64
              by_cases c66 : 0 < (x4_1.length : Int)
              ·rw [if_pos c66] at H
               have c66b0 : decide (0 < (x4_1.length : Int)) = true := decide_eq_true c66
               have c66b1 : decide (0 < x4_1.length) = true := decide_eq_true (by omega)
               clear c66
               replace H := Option.bind_eq_some_iff.mp H
               obtain ⟨⟨t735, t736⟩, A670, H⟩ := H
               replace H : (if a0_0 = 8 then (if true = true then ((impl_fits.f kj58 t736 30).bind fun t737 => (some (t736, t737))) else (some (t736, false))) else (if true = true then ((impl_fits.f kj58 t735 30).bind fun t738 => (some (t735, t738))) else (some (t735, false)))) = some (r1, r2) := H
               have A67 := Ak A670
               clear A670
               by_cases c68 : a0_0 = 8
               ·rw [if_pos c68] at H
                have c68b0 : (a0_0 == 8) = true := beq_iff_eq.mpr c68
                have c68b1 : (a0_0 != 8) = false := bne_eq_false_iff_eq.mpr c68
                clear c68
                by_cases c69 : true = true
                ·(try subst c69)
                 have H1 : ((impl_fits.f kj58 t736 30).bind fun t737 => (some (t736, t737))) = some (r1, r2) := by rw [if_pos rfl] at H; exact H
                 clear H
                 have H := H1
                 clear H1
                 replace H := Option.bind_eq_some_iff.mp H
                 obtain ⟨t737, A700, H⟩ := H
                 replace H : (some (t736, t737)) = some (r1, r2) := H
                 have A70 := Ak A700
                 clear A700
                 simp only [Option.some.injEq, Prod.mk.injEq] at H
                 obtain ⟨rfl, rfl⟩ := H
                 obtain ⟨Ao71, co71, eo71⟩ := Kd.R_slice HO_4.out
                 subst eo71
                 have p732 : 0 ≤ (1 : Int) := (by omega)
                 have q732 : 1 < (x4_1.length : Int) := Qg
                 obtain ⟨ad732, e732, hx732_0⟩ := Kd.at_int (Kd.R_reads' HO_4.out).2.2 1 p732 q732
                 cases e732
                 (try simp only [show (1 : Int).toNat = 1 from rfl, Nat.reduceMul, Nat.reduceEqDiff, Go.Addr.add, ↓reduceIte] at hx732_0)
                 have qi732 : (1 < x4_1.length) = True := eq_true (by omega)
                 (try rw [show ((1 : Int)).toNat = 1 from rfl] at hx732_0)
                 replace p732 := eq_true p732
                 replace q732 := eq_true q732
                 try go_wp2
                 have n0_ := Ak (Kd.R_drew HO_4.out)
                 have n1_ := Ak (blk_drew BK706.out)
                 have n2_ := Ak (below_drew1 HB.out)
                 clear HO_4 BK706 HB
                 have HO_4 := n0_
                 have BK706 := n1_
                 have HB := n2_
                 clear n0_ n1_ n2_
                 have p733 : 0 ≤ (0 : Int) := (by omega)
                 have q733 : 0 < (x4_1.length : Int) := Qg
                 obtain ⟨ad733, e733, hx733_0⟩ := Kd.at_int (Kd.R_reads' HO_4.out).2.2 0 p733 q733
                 obtain rfl : ad732 = ad733 := (by injection e733)
                 have qi733 : (0 < x4_1.length) = True := eq_true (by omega)
                 (try rw [show ((0 : Int)).toNat = 0 from rfl] at hx733_0)
                 (try rw [Addr.add_zero'] at hx733_0)
                 replace p733 := eq_true p733
                 replace q733 := eq_true q733
                 have p734 : 0 ≤ (1 : Int) := (by omega)
                 have q734 : 1 < (x4_1.length : Int) := Qg
                 obtain ⟨ad734, e734, hx734_0⟩ := Kd.at_int (Kd.R_reads' HO_4.out).2.2 1 p734 q734
                 obtain rfl : ad732 = ad734 := (by injection e734)
                 (try simp only [show (1 : Int).toNat = 1 from rfl, Nat.reduceMul, Nat.reduceEqDiff, Go.Addr.add, ↓reduceIte] at hx734_0)
                 have qi734 : (1 < x4_1.length) = True := eq_true (by omega)
                 (try rw [show ((1 : Int)).toNat = 1 from rfl] at hx734_0)
                 replace p734 := eq_true p734
                 replace q734 := eq_true q734
                 refine start_ (n := 12) (S := fun w' => w'.cell? ad732 = some (.int .i64 (rd x4_1 0)) ∧ w'.cell? ⟨ad732.block, ad732.off + 1, none⟩ = some (.int .i64 (rd x4_1 1))) (ds := []) #[false, false, false, false, false, false, false, false, false, false, false, false] (by kernel_rfl) rfl rfl ⟨hx733_0, hx734_0⟩ (fun hHeld => ?_); refine with_tabW impl_evaluated.tab26 impl_evaluated.bits26 (fun HT_ HW_ => ?_)
                 generalize wc.drew = w72 at HO_4 BK706 HB hx733_0 hx734_0 hHeld ⊢
                 refine Qq 0 (some 86) ?_
                 refine Qq 1 (some 87) ?_
                 refine Qq 3 (some 89) ?_
                 refine Qq 4 (some 90) ?_
                 refine Qr 2 (some 88) hHeld ?_
                 refine Qr 5 (some 91) hHeld ?_
                 refine Qs 6 (some 92) (fun K hK => ?_)
                 refine goes_ Tryd.func95 (by kernel_rfl) rfl #[.int .i64 (rd x4_1 0), .int .i64 (rd x4_1 1)] (by rfl) rfl rfl T_49 ?_
                 with_reducible refine (impl_divided.calls (rd x4_1 0) (rd x4_1 1) t735 t736 _ A67.out).mono ?_
                 rintro e w73 ⟨rfl, hb⟩
                 have HS0_ := (hb.cell (World.block_lt_of_cell? _ _ (hHeld.1))).trans (hHeld.1)
                 have HS1_ := (hb.cell (World.block_lt_of_cell? _ _ (hHeld.2))).trans (hHeld.2)
                 refine ⟨_, rfl, ?_⟩
                 have n0_ := Ak (Kd.R_below (Qc HO_4.out) hb)
                 have n1_ := Ak (Qm BK706.out hb)
                 have n2_ := Ak (below_step (Qb HB.out) hb)
                 clear HO_4 BK706 HB
                 have HO_4 := n0_
                 have BK706 := n1_
                 have HB := n2_
                 clear n0_ n1_ n2_
                 (try clear hb)
                 refine hK.out _ _ ⟨HS0_, HS1_⟩ (fun hHeld => ?_)
                 clear hK K
                 refine norm_ (a' := ?_) ?_ ?_
                 rotate_left
                 ·show Act.put _ (some 92) _ = _
                  simp only [Act.put, List.setIfInBounds_toArray, List.set_cons_zero, List.set_cons_succ, i64_w, i32_w]
                  rfl
                 refine Qq 7 (some 85) ?_
                 refine Qq 8 (some 93) ?_
                 refine Qq 9 (some 94) ?_
                 refine Qq 10 (some 11) ?_
                 refine Qq 11 (some 12) ?_
                 refine done_ (done_of HT_.out (by kernel_rfl)) ?_
                 obtain ⟨hcz74_0, hcz74_1, hcz74_2, hfz74_0, hfz74_1, hfz74_2⟩ := Qv3 BK706.out
                 try go_wp2_with (first | (go_at_call 96; (with_reducible refine (impl_fits.calls kj58 t736 30 t737 _ A70.out).mono ?_); rintro e w' ⟨rfl, ⟨nd, rfl⟩⟩))
                 go_ret2
                 exact ⟨Qh, Qb HB.out⟩
                ·exact absurd rfl c69
               ·rw [if_neg c68] at H
                have c68b0 : (a0_0 == 8) = false := beq_eq_false_iff_ne.mpr c68
                have c68b1 : (a0_0 != 8) = true := bne_iff_ne.mpr c68
                by_cases c79 : true = true
                ·(try subst c79)
                 have H1 : ((impl_fits.f kj58 t735 30).bind fun t738 => (some (t735, t738))) = some (r1, r2) := by rw [if_pos rfl] at H; exact H
                 clear H
                 have H := H1
                 clear H1
                 replace H := Option.bind_eq_some_iff.mp H
                 obtain ⟨t738, A800, H⟩ := H
                 replace H : (some (t735, t738)) = some (r1, r2) := H
                 have A80 := Ak A800
                 clear A800
                 simp only [Option.some.injEq, Prod.mk.injEq] at H
                 obtain ⟨rfl, rfl⟩ := H
                 obtain ⟨Ao81, co81, eo81⟩ := Kd.R_slice HO_4.out
                 subst eo81
                 have p732 : 0 ≤ (1 : Int) := (by omega)
                 have q732 : 1 < (x4_1.length : Int) := Qg
                 obtain ⟨ad732, e732, hx732_0⟩ := Kd.at_int (Kd.R_reads' HO_4.out).2.2 1 p732 q732
                 cases e732
                 (try simp only [show (1 : Int).toNat = 1 from rfl, Nat.reduceMul, Nat.reduceEqDiff, Go.Addr.add, ↓reduceIte] at hx732_0)
                 have qi732 : (1 < x4_1.length) = True := eq_true (by omega)
                 (try rw [show ((1 : Int)).toNat = 1 from rfl] at hx732_0)
                 replace p732 := eq_true p732
                 replace q732 := eq_true q732
                 try go_wp2
                 have n0_ := Ak (Kd.R_drew HO_4.out)
                 have n1_ := Ak (blk_drew BK706.out)
                 have n2_ := Ak (below_drew1 HB.out)
                 clear HO_4 BK706 HB
                 have HO_4 := n0_
                 have BK706 := n1_
                 have HB := n2_
                 clear n0_ n1_ n2_
                 have p733 : 0 ≤ (0 : Int) := (by omega)
                 have q733 : 0 < (x4_1.length : Int) := Qg
                 obtain ⟨ad733, e733, hx733_0⟩ := Kd.at_int (Kd.R_reads' HO_4.out).2.2 0 p733 q733
                 obtain rfl : ad732 = ad733 := (by injection e733)
                 have qi733 : (0 < x4_1.length) = True := eq_true (by omega)
                 (try rw [show ((0 : Int)).toNat = 0 from rfl] at hx733_0)
                 (try rw [Addr.add_zero'] at hx733_0)
                 replace p733 := eq_true p733
                 replace q733 := eq_true q733
                 have p734 : 0 ≤ (1 : Int) := (by omega)
                 have q734 : 1 < (x4_1.length : Int) := Qg
                 obtain ⟨ad734, e734, hx734_0⟩ := Kd.at_int (Kd.R_reads' HO_4.out).2.2 1 p734 q734
                 obtain rfl : ad732 = ad734 := (by injection e734)
                 (try simp only [show (1 : Int).toNat = 1 from rfl, Nat.reduceMul, Nat.reduceEqDiff, Go.Addr.add, ↓reduceIte] at hx734_0)
                 have qi734 : (1 < x4_1.length) = True := eq_true (by omega)
                 (try rw [show ((1 : Int)).toNat = 1 from rfl] at hx734_0)
                 replace p734 := eq_true p734
                 replace q734 := eq_true q734
                 refine start_ (n := 12) (S := fun w' => w'.cell? ad732 = some (.int .i64 (rd x4_1 0)) ∧ w'.cell? ⟨ad732.block, ad732.off + 1, none⟩ = some (.int .i64 (rd x4_1 1))) (ds := []) #[false, false, false, false, false, false, false, false, false, false, false, false] (by kernel_rfl) rfl rfl ⟨hx733_0, hx734_0⟩ (fun hHeld => ?_); refine with_tabW impl_evaluated.tab26 impl_evaluated.bits26 (fun HT_ HW_ => ?_)
                 generalize wc.drew = w82 at HO_4 BK706 HB hx733_0 hx734_0 hHeld ⊢
                 refine Qq 0 (some 86) ?_
                 refine Qq 1 (some 87) ?_
                 refine Qq 3 (some 89) ?_
                 refine Qq 4 (some 90) ?_
                 refine Qr 2 (some 88) hHeld ?_
                 refine Qr 5 (some 91) hHeld ?_
                 refine Qs 6 (some 92) (fun K hK => ?_)
                 refine goes_ Tryd.func95 (by kernel_rfl) rfl #[.int .i64 (rd x4_1 0), .int .i64 (rd x4_1 1)] (by rfl) rfl rfl T_49 ?_
                 with_reducible refine (impl_divided.calls (rd x4_1 0) (rd x4_1 1) t735 t736 _ A67.out).mono ?_
                 rintro e w83 ⟨rfl, hb⟩
                 have HS0_ := (hb.cell (World.block_lt_of_cell? _ _ (hHeld.1))).trans (hHeld.1)
                 have HS1_ := (hb.cell (World.block_lt_of_cell? _ _ (hHeld.2))).trans (hHeld.2)
                 refine ⟨_, rfl, ?_⟩
                 have n0_ := Ak (Kd.R_below (Qc HO_4.out) hb)
                 have n1_ := Ak (Qm BK706.out hb)
                 have n2_ := Ak (below_step (Qb HB.out) hb)
                 clear HO_4 BK706 HB
                 have HO_4 := n0_
                 have BK706 := n1_
                 have HB := n2_
                 clear n0_ n1_ n2_
                 (try clear hb)
                 refine hK.out _ _ ⟨HS0_, HS1_⟩ (fun hHeld => ?_)
                 clear hK K
                 refine norm_ (a' := ?_) ?_ ?_
                 rotate_left
                 ·show Act.put _ (some 92) _ = _
                  simp only [Act.put, List.setIfInBounds_toArray, List.set_cons_zero, List.set_cons_succ, i64_w, i32_w]
                  rfl
                 refine Qq 7 (some 85) ?_
                 refine Qq 8 (some 93) ?_
                 refine Qq 9 (some 94) ?_
                 refine Qq 10 (some 11) ?_
                 refine Qq 11 (some 12) ?_
                 refine done_ (done_of HT_.out (by kernel_rfl)) ?_
                 obtain ⟨hcz84_0, hcz84_1, hcz84_2, hfz84_0, hfz84_1, hfz84_2⟩ := Qv3 BK706.out
                 try go_wp2_with (first | (go_at_call 96; (with_reducible refine (impl_fits.calls kj58 t735 30 t738 _ A80.out).mono ?_); rintro e w' ⟨rfl, ⟨nd, rfl⟩⟩))
                 go_ret2
                 exact ⟨Qh, Qb HB.out⟩
                ·exact absurd rfl c79
              ·rw [if_neg c66] at H
               exact absurd H (by simp)
            ·rw [if_neg c63] at H
             exact absurd H (by simp)
           ·replace c62 := Bool.eq_false_iff.mpr c62
            (try subst c62)
            have H1 : (if true = true then ((impl_fits.f kj58 a0_1 30).bind fun t739 => (some (a0_1, t739))) else (some (a0_1, false))) = some (r1, r2) := by rw [if_neg (show ¬ (false = true) by decide)] at H; exact H
            clear H
            have H := H1
            clear H1
            by_cases c89 : true = true
            ·(try subst c89)
             have H1 : ((impl_fits.f kj58 a0_1 30).bind fun t739 => (some (a0_1, t739))) = some (r1, r2) := by rw [if_pos rfl] at H; exact H
             clear H
             have H := H1
             clear H1
             replace H := Option.bind_eq_some_iff.mp H
             obtain ⟨t739, A900, H⟩ := H
             replace H : (some (a0_1, t739)) = some (r1, r2) := H
             have A90 := Ak A900
             clear A900
             simp only [Option.some.injEq, Prod.mk.injEq] at H
             obtain ⟨rfl, rfl⟩ := H
             go_wp2_with (first | (go_at_call 96; (with_reducible refine (impl_fits.calls kj58 a0_1 30 t739 _ A90.out).mono ?_); rintro e w' ⟨rfl, ⟨nd, rfl⟩⟩))
             go_ret2
             exact ⟨Qh, Qb HB.out⟩
            ·exact absurd rfl c89

end Go.Proofs.YtjfgcipbbcplmaaDoor.HFnExprs

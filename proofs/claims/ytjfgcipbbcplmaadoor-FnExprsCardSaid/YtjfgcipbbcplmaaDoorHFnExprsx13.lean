/- Text for FnExprs: written by a program of this session on the pattern of the kit's print. -/
import Derived.Test.YtjfgcipbbcplmaaDoorHFnExprsx0
namespace Go.Proofs.YtjfgcipbbcplmaaDoor.HFnExprs
open Go.RowKit Go.Proofs.YtjfgcipbbcplmaaDoorW.PrintWords Go.Proofs.YtjfgcipbbcplmaaDoorW.PrintLast Go.Proofs.YtjfgcipbbcplmaaDoorW.PrintMore
attribute [local go_sem] max2_int min2_int max_two min_two max_three min_three max_four min_four
set_option linter.unusedVariables false
set_option linter.unusedSimpArgs false

/-! ### spec_l10Copy: function 93 -/
mutual
def spec_l10Copy.l0 : Nat → List (S25) → Int → Int → Int → Int → List (S25) → Option (Int × Int × (List (S25)))
 | 0, _, _, _, _, _, _ => none
 | k + 1, x12, x13, x14, x618000, x618001, x618002 => if x14 < x13 then (if 0 ≤ x14 then (if x14 < (x12.length : Int) then ((spec_l10Copy.f k ((rd_T25 x12 x14).f0) ((rd_T25 x12 x14).f1) ((rd_T25 x12 x14).f2)).bind fun bt620 => (if x618002.length < 3518437208883 then (spec_l10Copy.l0 k x12 x13 (wrap64 (x14 + 1)) x618000 x618001 (x618002 ++ [(⟨bt620.1, bt620.2.1, bt620.2.2⟩ : S25)])) else (none))) else (none)) else (none)) else (some (x618000, x618001, x618002))
def spec_l10Copy.f : Nat → Int → Int → List (S25) → Option (Int × Int × (List (S25)))
 | 0, _, _, _ => none
 | k + 1, a0_0, a0_1, l0_2 => spec_l10Copy.l0 k l0_2 (l0_2.length : Int) 0 a0_0 a0_1 ([] : List (S25))
end
def spec_l10Copy.T5 : Bool × List (List Nat × List Nat) := (true, [([], []), ([0], [0]), ([], []), ([2], [2]), ([3], [3]), ([1, 4, 3], [1, 4]), ([0, 1, 2, 3, 4, 5], []), ([6, 5, 5, 0, 1, 2, 3, 4, 5], [5, 6])])
def spec_l10Copy.B5 : List Nat := [0, 1, 0, 4, 12, 31, 63, 127]
theorem spec_l10Copy.tab5 : rtab .any (opsOf Tryd.f93 5) = spec_l10Copy.T5 := by kernel_rfl
theorem spec_l10Copy.bits5 : waitsOk spec_l10Copy.T5.2 spec_l10Copy.B5 = true := by kernel_rfl
set_option maxHeartbeats 8000000 in
set_option maxRecDepth 100000 in
theorem spec_l10Copy.calls (k : Nat) : ∀ (a0_0 : Int) (a0_1 : Int) (A0_2 : Option Addr) (c0_2 : Nat) (l0_2 : List (S25)) (r1 : Int) (r2 : Int) (r3 : List (S25)) (w : World) (hr0_2 : Kd.C k25 w A0_2 l0_2.length l0_2) (hc0_2 : l0_2.length ≤ c0_2) (h : spec_l10Copy.f k a0_0 a0_1 l0_2 = some (r1, r2, r3)),
  Calls Tryd.prog 93 #[.agg #[.int .i64 a0_0, .int .i64 a0_1, .slice A0_2 l0_2.length c0_2]] w fun e w' => ∃ v2_ : Value, e = .returned (.agg #[.int .i64 r1, .int .i64 r2, v2_]) ∧ Kd.R k25 25 w' w.heap.size (fun _ => True) v2_ r3 ∧ Below w.heap.size w w' := by
 induction k using Nat.strongRecOn with
 | _ k ih =>
 intro a0_0 a0_1 A0_2 c0_2 l0_2 r1 r2 r3 w hr0_2 hc0_2 h
 cases k with
 | zero => exact absurd h (by simp [spec_l10Copy.f])
 | succ k =>
 simp only [spec_l10Copy.f] at h
 have hu25 := Tryd.underlying25
 have HR0_2 := Ak hr0_2
 have HC0_2 := Ak hc0_2
 clear hr0_2 hc0_2
 have HB := Ak (Below.refl w.heap.size w)
 have H : (spec_l10Copy.l0 k l0_2 (l0_2.length : Int) 0 a0_0 a0_1 ([] : List (S25))) = some (r1, r2, r3) := h
 clear h
 have H' := Ak H
 clear H
 go_enter Tryd.func93, Tryd.ntmps93
 go_wp2_with (first | ((with_reducible refine gate_dst (N := 1) rfl ?_); refine Qk 1 #[.int .i64 a0_0, .int .i64 a0_1, .slice A0_2 l0_2.length c0_2] 25 ?_; intro gb615 hg w2 hbox hb; have BK615 := Ak (hbox); have GW615 := Ak ((Qp hg HB.out : w.heap.size ≤ gb615)); have GE615 := Ak ((Qp hg HB.out : w.heap.size ≤ gb615)); replace HB := Ak (below_step (Qb HB.out) hb); clear hb hbox hg) | ((with_reducible refine gate_dst (N := 2) rfl ?_); refine Qk 2 #[.int .i64 0, .int .i64 0, .slice none 0 0] 25 ?_; intro gb616 hg w3 hbox hb; have BK616 := Ak (hbox); have GW616 := Ak ((Qp hg HB.out : w.heap.size ≤ gb616)); have GE616 := Ak ((Qp hg HB.out : w.heap.size ≤ gb616)); replace HB := Ak (below_step (Qb HB.out) hb); have NB615_616 := Ak ((by rw [hg]; exact Nat.ne_of_lt (Qn BK615.out) : gb615 ≠ gb616)); have NB616_615 := Ak ((by rw [hg]; exact Nat.ne_of_gt (Qn BK615.out) : gb616 ≠ gb615)); replace BK615 := Ak (Qm BK615.out hb); clear hb hbox hg; have hnb4 := NB615_616.out; have hnc4 := NB616_615.out; obtain ⟨hcz5_0, hcz5_1, hcz5_2⟩ := Qu3 BK615.out; have hfz5_0 := blk_frozen BK615.out 0; have hfz5_1 := blk_frozen BK615.out 1; have hfz5_2 := blk_frozen BK615.out 2) | ((with_reducible refine gate_dst (N := 3) rfl ?_); refine Qk 3 #[.int .i64 0, .int .i64 0, .slice none 0 0] 25 ?_; intro gb617 hg w6 hbox hb; have BK617 := Ak (hbox); have GW617 := Ak ((Qp hg HB.out : w.heap.size ≤ gb617)); have GE617 := Ak ((Qp hg HB.out : w.heap.size ≤ gb617)); replace HB := Ak (below_step (Qb HB.out) hb); have NB615_617 := Ak ((by rw [hg]; exact Nat.ne_of_lt (Qn BK615.out) : gb615 ≠ gb617)); have NB617_615 := Ak ((by rw [hg]; exact Nat.ne_of_gt (Qn BK615.out) : gb617 ≠ gb615)); replace BK615 := Ak (Qm BK615.out hb); have NB616_617 := Ak ((by rw [hg]; exact Nat.ne_of_lt (Qn BK616.out) : gb616 ≠ gb617)); have NB617_616 := Ak ((by rw [hg]; exact Nat.ne_of_gt (Qn BK616.out) : gb617 ≠ gb616)); replace BK616 := Ak (Qm BK616.out hb); clear hb hbox hg; have hnb7 := NB617_615.out; have hnc7 := NB615_617.out; have hnb8 := NB617_616.out; have hnc8 := NB616_617.out; obtain ⟨hcz9_0, hcz9_1, hcz9_2, hfz9_0, hfz9_1, hfz9_2⟩ := Qv3 BK617.out; obtain ⟨hcz10_0, hcz10_1, hcz10_2⟩ := Qu3 BK615.out; have hfz10_0 := blk_frozen BK615.out 0; have hfz10_1 := blk_frozen BK615.out 1; have hfz10_2 := blk_frozen BK615.out 2))
 go_loopg [14] k (fun kq v14 w' => ∃ (x14_1 : Int) (x618002_1 : List (S25)) (u618002 : Value), v14 = .int .i64 x14_1 ∧ Aside0 (spec_l10Copy.l0 kq l0_2 (l0_2.length : Int) x14_1 a0_0 a0_1 x618002_1 = some (r1, r2, r3)) ∧ Aside0 (kq ≤ k) ∧ Aside0 (Kd.R k25 25 w' w.heap.size (fun k_ => k_ ≠ gb615 ∧ k_ ≠ gb616 ∧ k_ ≠ gb617) u618002 x618002_1) ∧ Aside0 (w'.heap[gb615]? = some (.cells #[.int .i64 a0_0, .int .i64 a0_1, (.slice A0_2 l0_2.length c0_2)] 25 (0, 0))) ∧ Aside0 (w'.heap[gb616]? = some (.cells #[.int .i64 0, .int .i64 0, (.slice none 0 0)] 25 (0, 0))) ∧ Aside0 (w'.heap[gb617]? = some (.cells #[.int .i64 a0_0, .int .i64 a0_1, u618002] 25 (0, 0))) ∧ Aside0 (Below w.heap.size w w'))
 case atStart => exact ⟨(0), (([] : List (S25))), (.slice none 0 0), Qi, H', ⟨Nat.le_refl _⟩, ⟨by first | exact Kd.R_nil _ _ _ _ _ | exact Kd.N_nil _ _ _ _ _ | exact Kd.V_nil _ _ _ _ _ | exact Kd.Q_nil _ _ _ _ _ | exact Kd.S_nil _ _ _ _ _⟩, ⟨by refine Qe ?_; refine blk_far ?_ NB615_617.out _; refine Qe ?_; refine blk_far ?_ NB615_617.out _; refine Qe ?_; refine blk_far ?_ NB615_617.out _; refine Qe ?_; exact BK615.out⟩, ⟨by refine Qe ?_; refine blk_far ?_ NB616_617.out _; refine Qe ?_; refine blk_far ?_ NB616_617.out _; refine Qe ?_; refine blk_far ?_ NB616_617.out _; refine Qe ?_; exact BK616.out⟩, ⟨by refine Qe ?_; refine blk_put (cs := #[.int .i64 a0_0, .int .i64 a0_1, .slice none 0 0]) ?_ 2 _ rfl; refine Qe ?_; refine blk_put (cs := #[.int .i64 a0_0, .int .i64 0, .slice none 0 0]) ?_ 1 _ rfl; refine Qe ?_; refine blk_put (cs := #[.int .i64 0, .int .i64 0, .slice none 0 0]) ?_ 0 _ rfl; refine Qe ?_; exact BK617.out⟩, ⟨Qb HB.out⟩⟩
 case round =>
  clear H'
  (try clear p2)
  obtain ⟨x14_1, x618002_1, u618002, rfl, HA, HK1, HO_618002, BK615, BK616, BK617, HB⟩ := hrel
  cases gk with
  | zero => exact absurd HA.out (by simp [spec_l10Copy.l0])
  | succ k1 =>
   have H := HA.out
   clear HA
   simp only [spec_l10Copy.l0] at H
   by_cases c11 : x14_1 < (l0_2.length : Int)
   ·rw [if_pos c11] at H
    have c11b0 : decide (x14_1 < (l0_2.length : Int)) = true := decide_eq_true c11
    clear c11
    by_cases c12 : 0 ≤ x14_1
    ·rw [if_pos c12] at H
     have c12b0 : decide (0 ≤ x14_1) = true := decide_eq_true c12
     clear c12
     by_cases c13 : x14_1 < (l0_2.length : Int)
     ·rw [if_pos c13] at H
      have c13b0 : decide (x14_1 < (l0_2.length : Int)) = true := decide_eq_true c13
      clear c13
      replace H := Option.bind_eq_some_iff.mp H
      obtain ⟨⟨t620, t621, t622⟩, A140, H⟩ := H
      replace H : (if x618002_1.length < 3518437208883 then (spec_l10Copy.l0 k1 l0_2 (l0_2.length : Int) (wrap64 (x14_1 + 1)) a0_0 a0_1 (x618002_1 ++ [(⟨t620, t621, t622⟩ : S25)])) else (none)) = some (r1, r2, r3) := H
      have A14 := Ak A140
      clear A140
      by_cases c15 : x618002_1.length < 3518437208883
      ·rw [if_pos c15] at H
       have LMc15 := Ak c15
       clear c15
       obtain ⟨y625, hy625⟩ : ∃ y_ : List (S25), y_ = (x618002_1 ++ [(⟨t620, t621, t622⟩ : S25)]) := ⟨_, rfl⟩
       replace H : (spec_l10Copy.l0 k1 l0_2 (l0_2.length : Int) (wrap64 (x14_1 + 1)) a0_0 a0_1 y625) = some (r1, r2, r3) := by first | (rw [hy625]; with_reducible exact H) | (have H2_ := (Option.bind_some _ _).symm.trans H; rw [hy625]; with_reducible exact H2_) | (have H2_ := (Option.bind_some _ _).symm.trans H; with_reducible exact H2_) | with_reducible exact H | (rw [hy625]; exact H) | exact H
       have Ny625 := Ak hy625
       clear hy625
       have H' := Ak H
       clear H
       have p618 : 0 ≤ (x14_1 : Int) := Qg
       have q618 : x14_1 < (l0_2.length : Int) := Qg
       obtain ⟨ad618, A618_2, c618_2, e618, hx618_0, hx618_1, hx618_2, hl618_2, hi618_2⟩ := at_T25 HR0_2.out x14_1 p618 q618
       cases e618
       (try replace hx618_0 := (HB.out.cell (World.block_lt_of_cell? w _ hx618_0)).trans hx618_0)
       (try replace hx618_1 := (HB.out.cell (World.block_lt_of_cell? w _ hx618_1)).trans hx618_1)
       (try replace hx618_2 := (HB.out.cell (World.block_lt_of_cell? w _ hx618_2)).trans hx618_2)
       have HR618_2 := Ak hi618_2
       have HC618_2 := Ak hl618_2
       clear hi618_2 hl618_2
       replace p618 := eq_true p618
       replace q618 := eq_true q618
       try go_wp2_with (first | ((with_reducible refine gate_dst (N := 5) rfl ?_); refine Qk 5 #[.int .i64 0, .int .i64 0, .slice none 0 0] 25 ?_; intro gb619 hg w16 hbox hb; replace HO_618002 := Ak (Kd.R_below (Kd.R_elderB (Qc HO_618002.out) gb619 (Nat.le_of_eq hg.symm)) hb); have BK619 := Ak (hbox); have GW619 := Ak ((Qp hg HB.out : w.heap.size ≤ gb619)); have GE619 := Ak ((Qp hg HB.out : w.heap.size ≤ gb619)); replace HB := Ak (below_step (Qb HB.out) hb); have NB615_619 := Ak ((by rw [hg]; exact Nat.ne_of_lt (Qn BK615.out) : gb615 ≠ gb619)); have NB619_615 := Ak ((by rw [hg]; exact Nat.ne_of_gt (Qn BK615.out) : gb619 ≠ gb615)); replace BK615 := Ak (Qm BK615.out hb); have NB616_619 := Ak ((by rw [hg]; exact Nat.ne_of_lt (Qn BK616.out) : gb616 ≠ gb619)); have NB619_616 := Ak ((by rw [hg]; exact Nat.ne_of_gt (Qn BK616.out) : gb619 ≠ gb616)); replace BK616 := Ak (Qm BK616.out hb); have NB617_619 := Ak ((by rw [hg]; exact Nat.ne_of_lt (Qn BK617.out) : gb617 ≠ gb619)); have NB619_617 := Ak ((by rw [hg]; exact Nat.ne_of_gt (Qn BK617.out) : gb619 ≠ gb617)); replace BK617 := Ak (Qm BK617.out hb); clear hb hbox hg; have hnb17 := NB619_615.out; have hnc17 := NB615_619.out; have hnb18 := NB619_616.out; have hnc18 := NB616_619.out; have hnb19 := NB619_617.out; have hnc19 := NB617_619.out; obtain ⟨hcz20_0, hcz20_1, hcz20_2⟩ := Qu3 BK619.out; have hfz20_0 := blk_frozen BK619.out 0; have hfz20_1 := blk_frozen BK619.out 1; have hfz20_2 := blk_frozen BK619.out 2))
       have n0_ : Aside0 (Kd.R k25 25 (((w16.setCell ⟨gb619, 0, none⟩ (.int .i64 ((rd_T25 l0_2 x14_1).f0))).setCell ⟨gb619, 1, none⟩ (.int .i64 ((rd_T25 l0_2 x14_1).f1))).setCell ⟨gb619, 2, none⟩ (.slice A618_2 ((rd_T25 l0_2 x14_1).f2).length c618_2)) w.heap.size (fun k_ => k_ ≠ gb615 ∧ k_ ≠ gb616 ∧ k_ ≠ gb617 ∧ k_ ≠ gb619) u618002 x618002_1) := ⟨by refine Qf ?_; exact Kd.R_mono (Kd.R_far (p := ⟨gb619, 2, none⟩) (Kd.R_far (p := ⟨gb619, 1, none⟩) (Kd.R_far (p := ⟨gb619, 0, none⟩) (Kd.R_mono HO_618002.out (fun k_ hk => (⟨hk, hk.2⟩ : _ ∧ k_ ≠ gb619))) (fun _ hk => hk.2) (.int .i64 ((rd_T25 l0_2 x14_1).f0))) (fun _ hk => hk.2) (.int .i64 ((rd_T25 l0_2 x14_1).f1))) (fun _ hk => hk.2) (.slice A618_2 ((rd_T25 l0_2 x14_1).f2).length c618_2)) (fun _ hk => ⟨hk.1.1.1, ⟨hk.1.1.2.1, ⟨hk.1.1.2.2, hk.1.2⟩⟩⟩)⟩
       have n1_ : Aside0 ((((w16.setCell ⟨gb619, 0, none⟩ (.int .i64 ((rd_T25 l0_2 x14_1).f0))).setCell ⟨gb619, 1, none⟩ (.int .i64 ((rd_T25 l0_2 x14_1).f1))).setCell ⟨gb619, 2, none⟩ (.slice A618_2 ((rd_T25 l0_2 x14_1).f2).length c618_2)).heap[gb615]? = some (.cells #[.int .i64 a0_0, .int .i64 a0_1, .slice (some ad618) l0_2.length c0_2] 25 (0, 0))) := ⟨by refine Qe ?_; refine blk_far ?_ NB615_619.out _; refine Qe ?_; refine blk_far ?_ NB615_619.out _; refine Qe ?_; refine blk_far ?_ NB615_619.out _; refine Qe ?_; exact BK615.out⟩
       have n2_ : Aside0 ((((w16.setCell ⟨gb619, 0, none⟩ (.int .i64 ((rd_T25 l0_2 x14_1).f0))).setCell ⟨gb619, 1, none⟩ (.int .i64 ((rd_T25 l0_2 x14_1).f1))).setCell ⟨gb619, 2, none⟩ (.slice A618_2 ((rd_T25 l0_2 x14_1).f2).length c618_2)).heap[gb616]? = some (.cells #[.int .i64 0, .int .i64 0, .slice none 0 0] 25 (0, 0))) := ⟨by refine Qe ?_; refine blk_far ?_ NB616_619.out _; refine Qe ?_; refine blk_far ?_ NB616_619.out _; refine Qe ?_; refine blk_far ?_ NB616_619.out _; refine Qe ?_; exact BK616.out⟩
       have n3_ : Aside0 ((((w16.setCell ⟨gb619, 0, none⟩ (.int .i64 ((rd_T25 l0_2 x14_1).f0))).setCell ⟨gb619, 1, none⟩ (.int .i64 ((rd_T25 l0_2 x14_1).f1))).setCell ⟨gb619, 2, none⟩ (.slice A618_2 ((rd_T25 l0_2 x14_1).f2).length c618_2)).heap[gb617]? = some (.cells #[.int .i64 a0_0, .int .i64 a0_1, u618002] 25 (0, 0))) := ⟨by refine Qe ?_; refine blk_far ?_ NB617_619.out _; refine Qe ?_; refine blk_far ?_ NB617_619.out _; refine Qe ?_; refine blk_far ?_ NB617_619.out _; refine Qe ?_; exact BK617.out⟩
       have n4_ : Aside0 ((((w16.setCell ⟨gb619, 0, none⟩ (.int .i64 ((rd_T25 l0_2 x14_1).f0))).setCell ⟨gb619, 1, none⟩ (.int .i64 ((rd_T25 l0_2 x14_1).f1))).setCell ⟨gb619, 2, none⟩ (.slice A618_2 ((rd_T25 l0_2 x14_1).f2).length c618_2)).heap[gb619]? = some (.cells #[.int .i64 ((rd_T25 l0_2 x14_1).f0), .int .i64 ((rd_T25 l0_2 x14_1).f1), .slice A618_2 ((rd_T25 l0_2 x14_1).f2).length c618_2] 25 (0, 0))) := ⟨by refine Qe ?_; refine blk_put (cs := #[.int .i64 ((rd_T25 l0_2 x14_1).f0), .int .i64 ((rd_T25 l0_2 x14_1).f1), .slice none 0 0]) ?_ 2 _ rfl; refine Qe ?_; refine blk_put (cs := #[.int .i64 ((rd_T25 l0_2 x14_1).f0), .int .i64 0, .slice none 0 0]) ?_ 1 _ rfl; refine Qe ?_; refine blk_put (cs := #[.int .i64 0, .int .i64 0, .slice none 0 0]) ?_ 0 _ rfl; refine Qe ?_; exact BK619.out⟩
       have n5_ : Aside0 (Below w.heap.size w (((w16.setCell ⟨gb619, 0, none⟩ (.int .i64 ((rd_T25 l0_2 x14_1).f0))).setCell ⟨gb619, 1, none⟩ (.int .i64 ((rd_T25 l0_2 x14_1).f1))).setCell ⟨gb619, 2, none⟩ (.slice A618_2 ((rd_T25 l0_2 x14_1).f2).length c618_2))) := ⟨Qb HB.out⟩
       (try clear HO_618002)
       generalize (((w16.setCell ⟨gb619, 0, none⟩ (.int .i64 ((rd_T25 l0_2 x14_1).f0))).setCell ⟨gb619, 1, none⟩ (.int .i64 ((rd_T25 l0_2 x14_1).f1))).setCell ⟨gb619, 2, none⟩ (.slice A618_2 ((rd_T25 l0_2 x14_1).f2).length c618_2)) = w21 at n0_ n1_ n2_ n3_ n4_ n5_ ⊢
       have HO_618002 := n0_
       have BK615 := n1_
       have BK616 := n2_
       have BK617 := n3_
       have BK619 := n4_
       have HB := n5_
       clear n0_ n1_ n2_ n3_ n4_ n5_
       have n0_ := Ak (Kd.R_drew HO_618002.out)
       have n1_ := Ak (blk_drew BK615.out)
       have n2_ := Ak (blk_drew BK616.out)
       have n3_ := Ak (blk_drew BK617.out)
       have n4_ := Ak (blk_drew BK619.out)
       have n5_ := Ak (below_drew1 HB.out)
       clear HO_618002 BK615 BK616 BK617 BK619 HB
       have HO_618002 := n0_
       have BK615 := n1_
       have BK616 := n2_
       have BK617 := n3_
       have BK619 := n4_
       have HB := n5_
       clear n0_ n1_ n2_ n3_ n4_ n5_
       refine start_ (n := 8) (S := fun w' => w'.cell? ⟨gb617, 0, none⟩ = some (.int .i64 a0_0) ∧ w'.cell? ⟨gb617, 1, none⟩ = some (.int .i64 a0_1) ∧ w'.cell? ⟨gb617, 2, none⟩ = some (u618002) ∧ w'.cell? ⟨gb619, 0, none⟩ = some (.int .i64 ((rd_T25 l0_2 x14_1).f0)) ∧ w'.cell? ⟨gb619, 1, none⟩ = some (.int .i64 ((rd_T25 l0_2 x14_1).f1)) ∧ w'.cell? ⟨gb619, 2, none⟩ = some (.slice A618_2 ((rd_T25 l0_2 x14_1).f2).length c618_2)) (ds := [7]) #[false, false, false, false, false, false, false, false] (by kernel_rfl) rfl rfl ⟨(blk_cell BK617.out 0).trans rfl, (blk_cell BK617.out 1).trans rfl, (blk_cell BK617.out 2).trans rfl, (blk_cell BK619.out 0).trans rfl, (blk_cell BK619.out 1).trans rfl, (blk_cell BK619.out 2).trans rfl⟩ (fun hHeld => ?_); refine with_tabW spec_l10Copy.tab5 spec_l10Copy.bits5 (fun HT_ HW_ => ?_)
       generalize w21.drew = w22 at HO_618002 BK615 BK616 BK617 BK619 HB hHeld ⊢
       refine Qq 0 (some 18) ?_
       refine Qr 1 (some 19) hHeld ?_
       refine Qr 2 (some 20) hHeld ?_
       refine Qs 3 (some 21) (fun K hK => ?_)
       refine goes_ Tryd.func93 (by kernel_rfl) rfl #[.agg #[.int .i64 ((rd_T25 l0_2 x14_1).f0), .int .i64 ((rd_T25 l0_2 x14_1).f1), .slice A618_2 ((rd_T25 l0_2 x14_1).f2).length c618_2]] (by rfl) rfl rfl T_49 ?_
       with_reducible refine (ih k1 T_61 ((rd_T25 l0_2 x14_1).f0) ((rd_T25 l0_2 x14_1).f1) _ _ ((rd_T25 l0_2 x14_1).f2) t620 t621 t622 _ ?side1 ?side2 A14.out).mono ?_
       (case side1 => repeat (first | exact (Kd.C_below HR618_2.out HB.out) | (with_reducible refine Kd.C_alloc ?_ _) | (with_reducible refine Kd.C_drewN ?_ _) | (with_reducible refine Kd.C_drew ?_)))
       (case side2 => exact HC618_2.out)
       rintro e w23 ⟨v623, rfl, ho0, hb⟩
       refine ⟨_, rfl, ?_⟩
       have n0_ := Ak (Kd.R_elder' (Qc HO_618002.out) (Kd.R_base ho0) hb)
       have n1_ := Ak (Kd.R_lower (Kd.R_newB (Kd.R_newB (Kd.R_newB (Kd.R_newB (Kd.R_new' ho0 (Kd.R_lt (Qc HO_618002.out))) (g := gb615) (o := .cells #[.int .i64 a0_0, .int .i64 a0_1, .slice (some ad618) l0_2.length c0_2] 25 (0, 0)) (Qa BK615.out)) (g := gb616) (o := .cells #[.int .i64 0, .int .i64 0, .slice none 0 0] 25 (0, 0)) (Qa BK616.out)) (g := gb617) (o := .cells #[.int .i64 a0_0, .int .i64 a0_1, u618002] 25 (0, 0)) (Qa BK617.out)) (g := gb619) (o := .cells #[.int .i64 ((rd_T25 l0_2 x14_1).f0), .int .i64 ((rd_T25 l0_2 x14_1).f1), .slice A618_2 ((rd_T25 l0_2 x14_1).f2).length c618_2] 25 (0, 0)) (Qa BK619.out)) (below_size (Qb HB.out)))
       have n2_ := Ak (Qm BK615.out hb)
       have n3_ := Ak (Qm BK616.out hb)
       have n4_ := Ak (Qm BK617.out hb)
       have n5_ := Ak (Qm BK619.out hb)
       have n6_ := Ak (below_step (Qb HB.out) hb)
       clear HO_618002 BK615 BK616 BK617 BK619 HB
       have HO_618002 := n0_
       have HO624 := n1_
       have BK615 := n2_
       have BK616 := n3_
       have BK617 := n4_
       have BK619 := n5_
       have HB := n6_
       clear n0_ n1_ n2_ n3_ n4_ n5_ n6_
       (try clear hb)
       obtain ⟨Ao25, co25, eo25⟩ := Kd.R_slice HO624.out
       (first | subst eo25 | (injection eo25 with f1_ f2_ f3_; have f4_ := f1_.symm; have f5_ := f3_.symm; clear f1_ f2_ f3_; subst f4_; subst f5_))
       refine hK.out _ _ ⟨(blk_cell BK617.out 0).trans rfl, (blk_cell BK617.out 1).trans rfl, (blk_cell BK617.out 2).trans rfl, (blk_cell BK619.out 0).trans rfl, (blk_cell BK619.out 1).trans rfl, (blk_cell BK619.out 2).trans rfl⟩ (fun hHeld => ?_)
       clear hK K
       refine norm_ (a' := ?_) ?_ ?_
       rotate_left
       ·show Act.put _ (some 21) _ = _
        simp only [Act.put, List.setIfInBounds_toArray, List.set_cons_zero, List.set_cons_succ, i64_w, i32_w]
        rfl
       refine Qs 4 (some 22) (fun K hK => ?_)
       refine value_ (w1 := ?_) (v := ?_) (by rfl) rfl ?_ ?_
       rotate_left 2
       ·go_simp
        constructor
        ·rfl
        ·rfl
       refine hK.out _ _ ⟨(blk_cell (blk_alloc BK617.out _) 0).trans rfl, (blk_cell (blk_alloc BK617.out _) 1).trans rfl, (blk_cell (blk_alloc BK617.out _) 2).trans rfl, (blk_cell (blk_alloc BK619.out _) 0).trans rfl, (blk_cell (blk_alloc BK619.out _) 1).trans rfl, (blk_cell (blk_alloc BK619.out _) 2).trans rfl⟩ (fun hHeld => ?_)
       clear hK K
       refine norm_ (a' := ?_) ?_ ?_
       rotate_left
       ·show Act.put _ (some 22) _ = _
        simp only [Act.put, List.setIfInBounds_toArray, List.set_cons_zero, List.set_cons_succ, i64_w, i32_w]
        rfl
       refine Qs 5 (some 23) (fun K hK => ?_)
       refine Kd.R_append_step k25 (w0 := w) w.heap.size (by rfl) (.tmp 19) (.tmp 22) 23 25 (.agg #[(.int .i64 0), (.int .i64 0), (.slice none 0 0)]) 40 rfl Tryd.underlying23 info25 rfl (by decide) (by omega) u618002 x618002_1 (⟨t620, t621, t622⟩ : S25) [.int .i64 t620, .int .i64 t621, .slice Ao25 t622.length co25] (fun k_ => k_ ≠ gb615 ∧ k_ ≠ gb616 ∧ k_ ≠ gb617 ∧ k_ ≠ gb619) (fun k_ => ((fun k_ => k_ ≠ gb615 ∧ k_ ≠ gb616 ∧ k_ ≠ gb617 ∧ k_ ≠ gb619)) k_ ∧ some k_ ≠ (u618002 : Value).ownBlock) rfl rfl ?aP (fun _ hk => hk) ?aF ?aO ?aB ?aS ?aL ?_
       (case aP => exact k25_mkM _ _ _ (⟨t620, t621, t622⟩ : S25) (Kd.R_mono (HO624.out) (fun k_ hk => ⟨⟨hk.1.1.1.2, ⟨hk.1.1.2, ⟨hk.1.2, hk.2⟩⟩⟩, hk.1.1.1.1.2⟩)))
       (case aB => exact (Qb HB.out))
       (case aF => exact (fun k_ hk => ⟨Kd.freshB (g := gb615) (o := .cells #[.int .i64 a0_0, .int .i64 a0_1, .slice (some ad618) l0_2.length c0_2] 25 (0, 0)) (Qa BK615.out) k_ hk, Kd.freshB (g := gb616) (o := .cells #[.int .i64 0, .int .i64 0, .slice none 0 0] 25 (0, 0)) (Qa BK616.out) k_ hk, Kd.freshB (g := gb617) (o := .cells #[.int .i64 a0_0, .int .i64 a0_1, u618002] 25 (0, 0)) (Qa BK617.out) k_ hk, Kd.freshB (g := gb619) (o := .cells #[.int .i64 ((rd_T25 l0_2 x14_1).f0), .int .i64 ((rd_T25 l0_2 x14_1).f1), .slice A618_2 ((rd_T25 l0_2 x14_1).f2).length c618_2] 25 (0, 0)) (Qa BK619.out) k_ hk⟩))
       (case aO => exact (by refine Qf ?_; exact Kd.R_mono HO_618002.out (fun _ hk => ⟨hk.1.1, ⟨hk.1.2.1, ⟨hk.1.2.2.1, hk.1.2.2.2⟩⟩⟩)))
       (case aS => exact U_28)
       (case aL => have := LMc15.out; omega)
       intro v626 w24 ho hb hg hat
       rw [← Ny625.out] at ho
       have n0_ := Ak (blk_grown (g := gb615) (o := .cells #[.int .i64 a0_0, .int .i64 a0_1, .slice (some ad618) l0_2.length c0_2] 25 (0, 0)) (Qa BK615.out) hg (Kd.R_away HO_618002.out (fun _ hk => hk.1.1)))
       have n1_ := Ak (blk_grown (g := gb616) (o := .cells #[.int .i64 0, .int .i64 0, .slice none 0 0] 25 (0, 0)) (Qa BK616.out) hg (Kd.R_away HO_618002.out (fun _ hk => hk.1.2.1)))
       have n2_ := Ak (blk_grown (g := gb617) (o := .cells #[.int .i64 a0_0, .int .i64 a0_1, u618002] 25 (0, 0)) (Qa BK617.out) hg (Kd.R_away HO_618002.out (fun _ hk => hk.1.2.2.1)))
       have n3_ := Ak (blk_grown (g := gb619) (o := .cells #[.int .i64 ((rd_T25 l0_2 x14_1).f0), .int .i64 ((rd_T25 l0_2 x14_1).f1), .slice A618_2 ((rd_T25 l0_2 x14_1).f2).length c618_2] 25 (0, 0)) (Qa BK619.out) hg (Kd.R_away HO_618002.out (fun _ hk => hk.1.2.2.2)))
       have n4_ := Ak (hb)
       have n5_ := Ak (ho)
       clear BK615 BK616 BK617 BK619 HB HO_618002 HO624
       have BK615 := n0_
       have BK616 := n1_
       have BK617 := n2_
       have BK619 := n3_
       have HB := n4_
       have HO627 := n5_
       clear n0_ n1_ n2_ n3_ n4_ n5_
       clear ho hb hg hat
       obtain ⟨Ao26, co26, eo26⟩ := Kd.R_slice HO627.out
       (first | subst eo26 | (injection eo26 with f1_ f2_ f3_; have f4_ := f1_.symm; have f5_ := f3_.symm; clear f1_ f2_ f3_; subst f4_; subst f5_))
       refine hK.out _ _ ⟨(blk_cell BK617.out 0).trans rfl, (blk_cell BK617.out 1).trans rfl, (blk_cell BK617.out 2).trans rfl, (blk_cell BK619.out 0).trans rfl, (blk_cell BK619.out 1).trans rfl, (blk_cell BK619.out 2).trans rfl⟩ (fun hHeld => ?_)
       clear hK K
       refine norm_ (a' := ?_) ?_ ?_
       rotate_left
       ·show Act.put _ (some 23) _ = _
        simp only [Act.put, List.setIfInBounds_toArray, List.set_cons_zero, List.set_cons_succ, i64_w, i32_w]
        rfl
       refine Qq 6 (some 24) ?_
       refine Qt 7 none (fun K hK => ?_)
       have hs27 : w24.cell? ⟨gb617, 2, none⟩ = some (u618002) := (blk_cell BK617.out 2).trans rfl
       have hfs27 := blk_frozen BK617.out 2
       have hns27_0 := NB615_617.out
       have hns27_1 := NB616_617.out
       have hns27_3 := NB619_617.out
       have hms27_0 := NB617_615.out
       have hms27_1 := NB617_616.out
       have hms27_3 := NB617_619.out
       refine skip_ (w1 := ?_) (by rfl) rfl ?_ ?_
       rotate_left
       ·go_simp
        rfl
       refine hK.out _ _ ?_
       clear hK K
       refine done_ (done_of HT_.out (by kernel_rfl)) ?_
       try go_wp2
       go_roundg k1
       case measure => have := HK1.out; omega
       case rel => exact ⟨(wrap64 (x14_1 + 1)), (y625), (.slice Ao26 y625.length co26), Qi, H', ⟨by have := HK1.out; omega⟩, ⟨by refine Qf ?_; exact Kd.R_mono (Kd.R_far (p := ⟨gb617, 2, none⟩) (Kd.R_mono HO627.out (fun k_ hk => (⟨hk, hk.2.2.1⟩ : _ ∧ k_ ≠ gb617))) (fun _ hk => hk.2) (.slice Ao26 y625.length co26)) (fun _ hk => ⟨hk.1.1, ⟨hk.1.2.1, hk.1.2.2.1⟩⟩)⟩, ⟨by refine Qe ?_; refine blk_far ?_ NB615_617.out _; refine Qe ?_; exact BK615.out⟩, ⟨by refine Qe ?_; refine blk_far ?_ NB616_617.out _; refine Qe ?_; exact BK616.out⟩, ⟨by refine Qe ?_; refine blk_put (cs := #[.int .i64 a0_0, .int .i64 a0_1, u618002]) ?_ 2 _ rfl; refine Qe ?_; exact BK617.out⟩, ⟨Qb HB.out⟩⟩
      ·rw [if_neg c15] at H
       exact absurd H (by simp)
     ·rw [if_neg c13] at H
      exact absurd H (by simp)
    ·rw [if_neg c12] at H
     exact absurd H (by simp)
   ·rw [if_neg c11] at H
    have c11b0 : decide (x14_1 < (l0_2.length : Int)) = false := decide_eq_false c11
    clear c11
    simp only [Option.some.injEq, Prod.mk.injEq] at H
    obtain ⟨rfl, rfl, rfl⟩ := H
    have hnb28 := NB617_615.out
    have hnc28 := NB615_617.out
    have hnb29 := NB617_616.out
    have hnc29 := NB616_617.out
    obtain ⟨hcz30_0, hcz30_1, hcz30_2, hfz30_0, hfz30_1, hfz30_2⟩ := Qv3 BK617.out
    have hnb31 := NB616_615.out
    have hnc31 := NB615_616.out
    obtain ⟨hcz32_0, hcz32_1, hcz32_2, hfz32_0, hfz32_1, hfz32_2⟩ := Qv3 BK616.out
    obtain ⟨Ao33, co33, eo33⟩ := Kd.R_slice HO_618002.out
    subst eo33
    go_wp2
    refine bodyPost_ret (results_cell_row rfl _ _ gb616 25 #[.int .i64 a0_0, .int .i64 a0_1, .slice Ao33 x618002_1.length co33] (0, 0) _ rfl (by refine Qe ?_; refine blk_put (cs := #[.int .i64 a0_0, .int .i64 a0_1, .slice none 0 0]) ?_ 2 _ rfl; refine Qe ?_; refine blk_put (cs := #[.int .i64 a0_0, .int .i64 0, .slice none 0 0]) ?_ 1 _ rfl; refine Qe ?_; refine blk_put (cs := #[.int .i64 0, .int .i64 0, .slice none 0 0]) ?_ 0 _ rfl; exact Qa BK616.out) Tryd.underlying25 rfl (by kernel_rfl)) rfl ?_
    exact ⟨_, Qh, by refine Qf ?_; exact Kd.R_mono (Kd.R_far (p := ⟨gb616, 2, none⟩) (Kd.R_far (p := ⟨gb616, 1, none⟩) (Kd.R_far (p := ⟨gb616, 0, none⟩) (Kd.R_mono HO_618002.out (fun k_ hk => (⟨hk, hk.2.1⟩ : _ ∧ k_ ≠ gb616))) (fun _ hk => hk.2) (.int .i64 a0_0)) (fun _ hk => hk.2) (.int .i64 a0_1)) (fun _ hk => hk.2) (.slice Ao33 x618002_1.length co33)) (fun _ hk => trivial), Qb HB.out⟩

end Go.Proofs.YtjfgcipbbcplmaaDoor.HFnExprs

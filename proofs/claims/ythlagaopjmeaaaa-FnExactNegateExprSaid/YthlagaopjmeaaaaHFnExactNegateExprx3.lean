/- Text for FnExactNegateExpr: written by a program of this session on the pattern of the kit's print. -/
import Derived.Test.YthlagaopjmeaaaaHFnExactNegateExprx0
namespace Go.Proofs.Ythlagaopjmeaaaa.HFnExactNegateExpr
open Go.RowKit Go.Proofs.YthlagaopjmeaaaaW.PrintWords Go.Proofs.YthlagaopjmeaaaaW.PrintLast Go.Proofs.YthlagaopjmeaaaaW.PrintMore
attribute [local go_sem] max2_int min2_int max_two min_two max_three min_three max_four min_four
set_option linter.unusedVariables false
set_option linter.unusedSimpArgs false

/-! ### spec_l10Copy: function 34 -/
mutual
def spec_l10Copy.l0 : Nat → List (S28) → Int → Int → Int → Int → List (S28) → Option (Int × Int × (List (S28)))
 | 0, _, _, _, _, _, _ => none
 | k + 1, x12, x13, x14, x127000, x127001, x127002 => if x14 < x13 then (if 0 ≤ x14 then (if x14 < (x12.length : Int) then ((spec_l10Copy.f k ((rd_T28 x12 x14).f0) ((rd_T28 x12 x14).f1) ((rd_T28 x12 x14).f2)).bind fun bt129 => (if x127002.length < 3518437208883 then (spec_l10Copy.l0 k x12 x13 (wrap64 (x14 + 1)) x127000 x127001 (x127002 ++ [(⟨bt129.1, bt129.2.1, bt129.2.2⟩ : S28)])) else (none))) else (none)) else (none)) else (some (x127000, x127001, x127002))
def spec_l10Copy.f : Nat → Int → Int → List (S28) → Option (Int × Int × (List (S28)))
 | 0, _, _, _ => none
 | k + 1, a0_0, a0_1, l0_2 => spec_l10Copy.l0 k l0_2 (l0_2.length : Int) 0 a0_0 a0_1 ([] : List (S28))
end
theorem spec_l10Copy.mono_l : ∀ k, (∀ y0 y1 y2, LeO (spec_l10Copy.f k y0 y1 y2) (spec_l10Copy.f (k + 1) y0 y1 y2)) ∧ (∀ y0 y1 y2 y3 y4 y5, LeO (spec_l10Copy.l0 k y0 y1 y2 y3 y4 y5) (spec_l10Copy.l0 (k + 1) y0 y1 y2 y3 y4 y5))
 | 0 => ⟨fun _ _ _ r h => by simp [spec_l10Copy.f] at h, fun _ _ _ _ _ _ r h => by simp [spec_l10Copy.l0] at h⟩
 | k + 1 => by
  obtain ⟨ih0, ih1⟩ := spec_l10Copy.mono_l k
  refine ⟨?_, ?_⟩
  ·intro y0 y1 y2
   unfold spec_l10Copy.f
   repeat' first
   | (with_reducible exact ih0 _ _ _)
   | (with_reducible exact ih1 _ _ _ _ _ _)
   | (with_reducible exact LeO.refl _)
   | (with_reducible exact LeO.none _)
   | (with_reducible refine LeO.ite ?_ ?_)
   | (with_reducible refine LeO.bind ?_ (fun _ => ?_))
   | exact ih0 _ _ _
   | exact ih1 _ _ _ _ _ _
   | exact LeO.none _
   | refine LeO.ite ?_ ?_
   | refine LeO.bind ?_ (fun _ => ?_)
  ·intro y0 y1 y2 y3 y4 y5
   unfold spec_l10Copy.l0
   repeat' first
   | (with_reducible exact ih0 _ _ _)
   | (with_reducible exact ih1 _ _ _ _ _ _)
   | (with_reducible exact LeO.refl _)
   | (with_reducible exact LeO.none _)
   | (with_reducible refine LeO.ite ?_ ?_)
   | (with_reducible refine LeO.bind ?_ (fun _ => ?_))
   | exact ih0 _ _ _
   | exact ih1 _ _ _ _ _ _
   | exact LeO.none _
   | refine LeO.ite ?_ ?_
   | refine LeO.bind ?_ (fun _ => ?_)
theorem spec_l10Copy.mono : ∀ a0 a1 a2 k, LeO (spec_l10Copy.f k a0 a1 a2) (spec_l10Copy.f (k + 1) a0 a1 a2) := by
 intro a0 a1 a2 k
 obtain ⟨ih0, ih1⟩ := spec_l10Copy.mono_l k
 exact ih0 a0 a1 a2
def spec_l10Copy.T5 : Bool × List (List Nat × List Nat) := (true, [([], []), ([0], [0]), ([], []), ([2], [2]), ([3], [3]), ([1, 4, 3], [1, 4]), ([0, 1, 2, 3, 4, 5], []), ([6, 5, 5, 0, 1, 2, 3, 4, 5], [5, 6])])
def spec_l10Copy.B5 : List Nat := [0, 1, 0, 4, 12, 31, 63, 127]
theorem spec_l10Copy.tab5 : rtab .any (opsOf Try.f34 5) = spec_l10Copy.T5 := by kernel_rfl
theorem spec_l10Copy.bits5 : waitsOk spec_l10Copy.T5.2 spec_l10Copy.B5 = true := by kernel_rfl
set_option maxHeartbeats 8000000 in
set_option maxRecDepth 100000 in
theorem spec_l10Copy.calls (k : Nat) : ∀ (a0_0 : Int) (a0_1 : Int) (A0_2 : Option Addr) (c0_2 : Nat) (l0_2 : List (S28)) (r1 : Int) (r2 : Int) (r3 : List (S28)) (w : World) (hr0_2 : Kd.C k28 w A0_2 l0_2.length l0_2) (hc0_2 : l0_2.length ≤ c0_2) (h : spec_l10Copy.f k a0_0 a0_1 l0_2 = some (r1, r2, r3)),
  Calls Try.prog 34 #[.agg #[.int .i64 a0_0, .int .i64 a0_1, .slice A0_2 l0_2.length c0_2]] w fun e w' => ∃ v2_ : Value, e = .returned (.agg #[.int .i64 r1, .int .i64 r2, v2_]) ∧ Kd.R k28 28 w' w.heap.size (fun _ => True) v2_ r3 ∧ Below w.heap.size w w' := by
 induction k using Nat.strongRecOn with
 | _ k ih =>
 intro a0_0 a0_1 A0_2 c0_2 l0_2 r1 r2 r3 w hr0_2 hc0_2 h
 cases k with
 | zero => exact absurd h (by simp [spec_l10Copy.f])
 | succ k =>
 simp only [spec_l10Copy.f] at h
 have hu28 := Try.underlying28
 have HR0_2 := Ak hr0_2
 have HC0_2 := Ak hc0_2
 clear hr0_2 hc0_2
 have HB := Ak (Below.refl w.heap.size w)
 have H : (spec_l10Copy.l0 k l0_2 (l0_2.length : Int) 0 a0_0 a0_1 ([] : List (S28))) = some (r1, r2, r3) := h
 clear h
 have H' := Ak H
 clear H
 go_enter Try.func34, Try.ntmps34
 go_wp2_with (first | ((with_reducible refine gate_dst (N := 1) rfl ?_); refine Qk 1 #[.int .i64 a0_0, .int .i64 a0_1, .slice A0_2 l0_2.length c0_2] 28 ?_; intro gb124 hg w2 hbox hb; have n0_ := Ak (below_step (Qb HB.out) hb); have n1_ := Ak (hbox); have n2_ := Ak ((Qp hg HB.out : w.heap.size ≤ gb124)); have n3_ := Ak ((Qp hg HB.out : w.heap.size ≤ gb124)); clear HB; have HB := n0_; have BK124 := n1_; have GW124 := n2_; have GE124 := n3_; clear n0_ n1_ n2_ n3_; clear hb hbox hg) | ((with_reducible refine gate_dst (N := 2) rfl ?_); refine Qk 2 #[.int .i64 0, .int .i64 0, .slice none 0 0] 28 ?_; intro gb125 hg w3 hbox hb; have n0_ := Ak (Qm BK124.out hb); have n1_ := Ak (below_step (Qb HB.out) hb); have n2_ := Ak (hbox); have n3_ := Ak ((Qp hg HB.out : w.heap.size ≤ gb125)); have n4_ := Ak ((Qp hg HB.out : w.heap.size ≤ gb125)); have n5_ := Ak ((by rw [hg]; exact Nat.ne_of_lt (Qn BK124.out) : gb124 ≠ gb125)); have n6_ := Ak ((by rw [hg]; exact Nat.ne_of_gt (Qn BK124.out) : gb125 ≠ gb124)); clear BK124 HB; have BK124 := n0_; have HB := n1_; have BK125 := n2_; have GW125 := n3_; have GE125 := n4_; have NB124_125 := n5_; have NB125_124 := n6_; clear n0_ n1_ n2_ n3_ n4_ n5_ n6_; clear hb hbox hg; have hnb4 := NB124_125.out; have hnc4 := NB125_124.out; obtain ⟨hcz5_0, hcz5_1, hcz5_2⟩ := Qu3 BK124.out; have hfz5_0 := blk_frozen BK124.out 0; have hfz5_1 := blk_frozen BK124.out 1; have hfz5_2 := blk_frozen BK124.out 2) | ((with_reducible refine gate_dst (N := 3) rfl ?_); refine Qk 3 #[.int .i64 0, .int .i64 0, .slice none 0 0] 28 ?_; intro gb126 hg w6 hbox hb; have n0_ := Ak (Qm BK124.out hb); have n1_ := Ak (Qm BK125.out hb); have n2_ := Ak (below_step (Qb HB.out) hb); have n3_ := Ak (hbox); have n4_ := Ak ((Qp hg HB.out : w.heap.size ≤ gb126)); have n5_ := Ak ((Qp hg HB.out : w.heap.size ≤ gb126)); have n6_ := Ak ((by rw [hg]; exact Nat.ne_of_lt (Qn BK124.out) : gb124 ≠ gb126)); have n7_ := Ak ((by rw [hg]; exact Nat.ne_of_gt (Qn BK124.out) : gb126 ≠ gb124)); have n8_ := Ak ((by rw [hg]; exact Nat.ne_of_lt (Qn BK125.out) : gb125 ≠ gb126)); have n9_ := Ak ((by rw [hg]; exact Nat.ne_of_gt (Qn BK125.out) : gb126 ≠ gb125)); clear BK124 BK125 HB; have BK124 := n0_; have BK125 := n1_; have HB := n2_; have BK126 := n3_; have GW126 := n4_; have GE126 := n5_; have NB124_126 := n6_; have NB126_124 := n7_; have NB125_126 := n8_; have NB126_125 := n9_; clear n0_ n1_ n2_ n3_ n4_ n5_ n6_ n7_ n8_ n9_; clear hb hbox hg; have hnb7 := NB126_124.out; have hnc7 := NB124_126.out; have hnb8 := NB126_125.out; have hnc8 := NB125_126.out; obtain ⟨hcz9_0, hcz9_1, hcz9_2, hfz9_0, hfz9_1, hfz9_2⟩ := Qv3 BK126.out; obtain ⟨hcz10_0, hcz10_1, hcz10_2⟩ := Qu3 BK124.out; have hfz10_0 := blk_frozen BK124.out 0; have hfz10_1 := blk_frozen BK124.out 1; have hfz10_2 := blk_frozen BK124.out 2))
 go_loopg [14] k (fun kq v14 w' => ∃ (x14_1 : Int) (x127002_1 : List (S28)) (u127002 : Value), v14 = .int .i64 x14_1 ∧ Aside0 (spec_l10Copy.l0 kq l0_2 (l0_2.length : Int) x14_1 a0_0 a0_1 x127002_1 = some (r1, r2, r3)) ∧ Aside0 (kq ≤ k) ∧ Aside0 (Kd.R k28 28 w' w.heap.size (fun k_ => k_ ≠ gb124 ∧ k_ ≠ gb125 ∧ k_ ≠ gb126) u127002 x127002_1) ∧ Aside0 (w'.heap[gb124]? = some (.cells #[.int .i64 a0_0, .int .i64 a0_1, (.slice A0_2 l0_2.length c0_2)] 28 (0, 0))) ∧ Aside0 (w'.heap[gb125]? = some (.cells #[.int .i64 0, .int .i64 0, (.slice none 0 0)] 28 (0, 0))) ∧ Aside0 (w'.heap[gb126]? = some (.cells #[.int .i64 a0_0, .int .i64 a0_1, u127002] 28 (0, 0))) ∧ Aside0 (Below w.heap.size w w'))
 case atStart => exact ⟨(0), (([] : List (S28))), (.slice none 0 0), Qi, H', ⟨Nat.le_refl _⟩, ⟨by first | exact Kd.R_nil _ _ _ _ _ | exact Kd.N_nil _ _ _ _ _ | exact Kd.V_nil _ _ _ _ _ | exact Kd.Q_nil _ _ _ _ _ | exact Kd.S_nil _ _ _ _ _⟩, ⟨by refine Qe ?_; refine blk_far ?_ NB124_126.out _; refine Qe ?_; refine blk_far ?_ NB124_126.out _; refine Qe ?_; refine blk_far ?_ NB124_126.out _; refine Qe ?_; exact BK124.out⟩, ⟨by refine Qe ?_; refine blk_far ?_ NB125_126.out _; refine Qe ?_; refine blk_far ?_ NB125_126.out _; refine Qe ?_; refine blk_far ?_ NB125_126.out _; refine Qe ?_; exact BK125.out⟩, ⟨by refine Qe ?_; refine blk_put (cs := #[.int .i64 a0_0, .int .i64 a0_1, .slice none 0 0]) ?_ 2 _ rfl; refine Qe ?_; refine blk_put (cs := #[.int .i64 a0_0, .int .i64 0, .slice none 0 0]) ?_ 1 _ rfl; refine Qe ?_; refine blk_put (cs := #[.int .i64 0, .int .i64 0, .slice none 0 0]) ?_ 0 _ rfl; refine Qe ?_; exact BK126.out⟩, ⟨Qb HB.out⟩⟩
 case round =>
  clear H'
  (try clear p2); (try clear c3); (try clear c4); (try clear c7); (try clear c8); (try clear hcz10_0); (try clear hcz10_1); (try clear hcz10_2); (try clear hcz5_0); (try clear hcz5_1); (try clear hcz5_2); (try clear hcz9_0); (try clear hcz9_1); (try clear hcz9_2); (try clear hfz10_0); (try clear hfz10_1); (try clear hfz10_2); (try clear hfz5_0); (try clear hfz5_1); (try clear hfz5_2); (try clear hfz9_0); (try clear hfz9_1); (try clear hfz9_2)
  obtain ⟨x14_1, x127002_1, u127002, rfl, HA, HK1, HO_127002, BK124, BK125, BK126, HB⟩ := hrel
  cases gk with
  | zero => exact absurd HA.out (by simp [spec_l10Copy.l0])
  | succ k1 =>
   have H := HA.out
   clear HA
   simp only [spec_l10Copy.l0] at H
   by_cases c11 : x14_1 < (l0_2.length : Int)
   ·rw [if_pos c11] at H
    have c11b0 : decide (x14_1 < (l0_2.length : Int)) = true := decide_eq_true c11
    clear c11
    by_cases c12 : 0 ≤ x14_1
    ·rw [if_pos c12] at H
     have c12b0 : decide (0 ≤ x14_1) = true := decide_eq_true c12
     clear c12
     by_cases c13 : x14_1 < (l0_2.length : Int)
     ·rw [if_pos c13] at H
      have c13b0 : decide (x14_1 < (l0_2.length : Int)) = true := decide_eq_true c13
      clear c13
      replace H := Option.bind_eq_some_iff.mp H
      obtain ⟨⟨t129, t130, t131⟩, A140, H⟩ := H
      replace H : (if x127002_1.length < 3518437208883 then (spec_l10Copy.l0 k1 l0_2 (l0_2.length : Int) (wrap64 (x14_1 + 1)) a0_0 a0_1 (x127002_1 ++ [(⟨t129, t130, t131⟩ : S28)])) else (none)) = some (r1, r2, r3) := H
      have A14 := Ak A140
      clear A140
      by_cases c15 : x127002_1.length < 3518437208883
      ·rw [if_pos c15] at H
       have LMc15 := Ak c15
       clear c15
       obtain ⟨y134, hy134⟩ : ∃ y_ : List (S28), y_ = (x127002_1 ++ [(⟨t129, t130, t131⟩ : S28)]) := ⟨_, rfl⟩
       replace H : (spec_l10Copy.l0 k1 l0_2 (l0_2.length : Int) (wrap64 (x14_1 + 1)) a0_0 a0_1 y134) = some (r1, r2, r3) := by first | (rw [hy134]; with_reducible exact H) | (have H2_ := (Option.bind_some _ _).symm.trans H; rw [hy134]; with_reducible exact H2_) | (have H2_ := (Option.bind_some _ _).symm.trans H; with_reducible exact H2_) | with_reducible exact H | (rw [hy134]; exact H) | exact H
       have Ny134 := Ak hy134
       clear hy134
       have H' := Ak H
       clear H
       have p127 : 0 ≤ (x14_1 : Int) := Qg
       have q127 : x14_1 < (l0_2.length : Int) := Qg
       obtain ⟨ad127, A127_2, c127_2, e127, hx127_0, hx127_1, hx127_2, hl127_2, hi127_2⟩ := at_T28 HR0_2.out x14_1 p127 q127
       cases e127
       (try replace hx127_0 := (HB.out.cell (World.block_lt_of_cell? w _ hx127_0)).trans hx127_0)
       (try replace hx127_1 := (HB.out.cell (World.block_lt_of_cell? w _ hx127_1)).trans hx127_1)
       (try replace hx127_2 := (HB.out.cell (World.block_lt_of_cell? w _ hx127_2)).trans hx127_2)
       have HR127_2 := Ak hi127_2
       have HC127_2 := Ak hl127_2
       clear hi127_2 hl127_2
       replace p127 := eq_true p127
       replace q127 := eq_true q127
       try go_wp2_with (first | ((with_reducible refine gate_dst (N := 5) rfl ?_); refine Qk 5 #[.int .i64 0, .int .i64 0, .slice none 0 0] 28 ?_; intro gb128 hg w16 hbox hb; have n0_ := Ak (Kd.R_below (Kd.R_elderB (Qc HO_127002.out) gb128 (Nat.le_of_eq hg.symm)) hb); have n1_ := Ak (Qm BK124.out hb); have n2_ := Ak (Qm BK125.out hb); have n3_ := Ak (Qm BK126.out hb); have n4_ := Ak (below_step (Qb HB.out) hb); have n5_ := Ak (hbox); have n6_ := Ak ((Qp hg HB.out : w.heap.size ≤ gb128)); have n7_ := Ak ((Qp hg HB.out : w.heap.size ≤ gb128)); have n8_ := Ak ((by rw [hg]; exact Nat.ne_of_lt (Qn BK124.out) : gb124 ≠ gb128)); have n9_ := Ak ((by rw [hg]; exact Nat.ne_of_gt (Qn BK124.out) : gb128 ≠ gb124)); have n10_ := Ak ((by rw [hg]; exact Nat.ne_of_lt (Qn BK125.out) : gb125 ≠ gb128)); have n11_ := Ak ((by rw [hg]; exact Nat.ne_of_gt (Qn BK125.out) : gb128 ≠ gb125)); have n12_ := Ak ((by rw [hg]; exact Nat.ne_of_lt (Qn BK126.out) : gb126 ≠ gb128)); have n13_ := Ak ((by rw [hg]; exact Nat.ne_of_gt (Qn BK126.out) : gb128 ≠ gb126)); clear HO_127002 BK124 BK125 BK126 HB; have HO_127002 := n0_; have BK124 := n1_; have BK125 := n2_; have BK126 := n3_; have HB := n4_; have BK128 := n5_; have GW128 := n6_; have GE128 := n7_; have NB124_128 := n8_; have NB128_124 := n9_; have NB125_128 := n10_; have NB128_125 := n11_; have NB126_128 := n12_; have NB128_126 := n13_; clear n0_ n1_ n2_ n3_ n4_ n5_ n6_ n7_ n8_ n9_ n10_ n11_ n12_ n13_; clear hb hbox hg; have hnb17 := NB128_124.out; have hnc17 := NB124_128.out; have hnb18 := NB128_125.out; have hnc18 := NB125_128.out; have hnb19 := NB128_126.out; have hnc19 := NB126_128.out; obtain ⟨hcz20_0, hcz20_1, hcz20_2⟩ := Qu3 BK128.out; have hfz20_0 := blk_frozen BK128.out 0; have hfz20_1 := blk_frozen BK128.out 1; have hfz20_2 := blk_frozen BK128.out 2))
       have n0_ : Aside0 (Kd.R k28 28 (((w16.setCell ⟨gb128, 0, none⟩ (.int .i64 ((rd_T28 l0_2 x14_1).f0))).setCell ⟨gb128, 1, none⟩ (.int .i64 ((rd_T28 l0_2 x14_1).f1))).setCell ⟨gb128, 2, none⟩ (.slice A127_2 ((rd_T28 l0_2 x14_1).f2).length c127_2)) w.heap.size (fun k_ => k_ ≠ gb124 ∧ k_ ≠ gb125 ∧ k_ ≠ gb126 ∧ k_ ≠ gb128) u127002 x127002_1) := ⟨by refine Qf ?_; exact Kd.R_mono (Kd.R_far (p := ⟨gb128, 2, none⟩) (Kd.R_far (p := ⟨gb128, 1, none⟩) (Kd.R_far (p := ⟨gb128, 0, none⟩) (Kd.R_mono HO_127002.out (fun k_ hk => (⟨hk, hk.2⟩ : _ ∧ k_ ≠ gb128))) (fun _ hk => hk.2) (.int .i64 ((rd_T28 l0_2 x14_1).f0))) (fun _ hk => hk.2) (.int .i64 ((rd_T28 l0_2 x14_1).f1))) (fun _ hk => hk.2) (.slice A127_2 ((rd_T28 l0_2 x14_1).f2).length c127_2)) (fun _ hk => ⟨hk.1.1.1, ⟨hk.1.1.2.1, ⟨hk.1.1.2.2, hk.1.2⟩⟩⟩)⟩
       have n1_ : Aside0 ((((w16.setCell ⟨gb128, 0, none⟩ (.int .i64 ((rd_T28 l0_2 x14_1).f0))).setCell ⟨gb128, 1, none⟩ (.int .i64 ((rd_T28 l0_2 x14_1).f1))).setCell ⟨gb128, 2, none⟩ (.slice A127_2 ((rd_T28 l0_2 x14_1).f2).length c127_2)).heap[gb124]? = some (.cells #[.int .i64 a0_0, .int .i64 a0_1, .slice (some ad127) l0_2.length c0_2] 28 (0, 0))) := ⟨by refine Qe ?_; refine blk_far ?_ NB124_128.out _; refine Qe ?_; refine blk_far ?_ NB124_128.out _; refine Qe ?_; refine blk_far ?_ NB124_128.out _; refine Qe ?_; exact BK124.out⟩
       have n2_ : Aside0 ((((w16.setCell ⟨gb128, 0, none⟩ (.int .i64 ((rd_T28 l0_2 x14_1).f0))).setCell ⟨gb128, 1, none⟩ (.int .i64 ((rd_T28 l0_2 x14_1).f1))).setCell ⟨gb128, 2, none⟩ (.slice A127_2 ((rd_T28 l0_2 x14_1).f2).length c127_2)).heap[gb125]? = some (.cells #[.int .i64 0, .int .i64 0, .slice none 0 0] 28 (0, 0))) := ⟨by refine Qe ?_; refine blk_far ?_ NB125_128.out _; refine Qe ?_; refine blk_far ?_ NB125_128.out _; refine Qe ?_; refine blk_far ?_ NB125_128.out _; refine Qe ?_; exact BK125.out⟩
       have n3_ : Aside0 ((((w16.setCell ⟨gb128, 0, none⟩ (.int .i64 ((rd_T28 l0_2 x14_1).f0))).setCell ⟨gb128, 1, none⟩ (.int .i64 ((rd_T28 l0_2 x14_1).f1))).setCell ⟨gb128, 2, none⟩ (.slice A127_2 ((rd_T28 l0_2 x14_1).f2).length c127_2)).heap[gb126]? = some (.cells #[.int .i64 a0_0, .int .i64 a0_1, u127002] 28 (0, 0))) := ⟨by refine Qe ?_; refine blk_far ?_ NB126_128.out _; refine Qe ?_; refine blk_far ?_ NB126_128.out _; refine Qe ?_; refine blk_far ?_ NB126_128.out _; refine Qe ?_; exact BK126.out⟩
       have n4_ : Aside0 ((((w16.setCell ⟨gb128, 0, none⟩ (.int .i64 ((rd_T28 l0_2 x14_1).f0))).setCell ⟨gb128, 1, none⟩ (.int .i64 ((rd_T28 l0_2 x14_1).f1))).setCell ⟨gb128, 2, none⟩ (.slice A127_2 ((rd_T28 l0_2 x14_1).f2).length c127_2)).heap[gb128]? = some (.cells #[.int .i64 ((rd_T28 l0_2 x14_1).f0), .int .i64 ((rd_T28 l0_2 x14_1).f1), .slice A127_2 ((rd_T28 l0_2 x14_1).f2).length c127_2] 28 (0, 0))) := ⟨by refine Qe ?_; refine blk_put (cs := #[.int .i64 ((rd_T28 l0_2 x14_1).f0), .int .i64 ((rd_T28 l0_2 x14_1).f1), .slice none 0 0]) ?_ 2 _ rfl; refine Qe ?_; refine blk_put (cs := #[.int .i64 ((rd_T28 l0_2 x14_1).f0), .int .i64 0, .slice none 0 0]) ?_ 1 _ rfl; refine Qe ?_; refine blk_put (cs := #[.int .i64 0, .int .i64 0, .slice none 0 0]) ?_ 0 _ rfl; refine Qe ?_; exact BK128.out⟩
       have n5_ : Aside0 (Below w.heap.size w (((w16.setCell ⟨gb128, 0, none⟩ (.int .i64 ((rd_T28 l0_2 x14_1).f0))).setCell ⟨gb128, 1, none⟩ (.int .i64 ((rd_T28 l0_2 x14_1).f1))).setCell ⟨gb128, 2, none⟩ (.slice A127_2 ((rd_T28 l0_2 x14_1).f2).length c127_2))) := ⟨Qb HB.out⟩
       (try clear HO_127002); (try clear BK124); (try clear BK125); (try clear BK126); (try clear BK128); (try clear HB)
       generalize (((w16.setCell ⟨gb128, 0, none⟩ (.int .i64 ((rd_T28 l0_2 x14_1).f0))).setCell ⟨gb128, 1, none⟩ (.int .i64 ((rd_T28 l0_2 x14_1).f1))).setCell ⟨gb128, 2, none⟩ (.slice A127_2 ((rd_T28 l0_2 x14_1).f2).length c127_2)) = w21 at n0_ n1_ n2_ n3_ n4_ n5_ ⊢
       have HO_127002 := n0_
       have BK124 := n1_
       have BK125 := n2_
       have BK126 := n3_
       have BK128 := n4_
       have HB := n5_
       clear n0_ n1_ n2_ n3_ n4_ n5_
       have n0_ := Ak (Kd.R_drew HO_127002.out)
       have n1_ := Ak (blk_drew BK124.out)
       have n2_ := Ak (blk_drew BK125.out)
       have n3_ := Ak (blk_drew BK126.out)
       have n4_ := Ak (blk_drew BK128.out)
       have n5_ := Ak (below_drew1 HB.out)
       clear HO_127002 BK124 BK125 BK126 BK128 HB
       have HO_127002 := n0_
       have BK124 := n1_
       have BK125 := n2_
       have BK126 := n3_
       have BK128 := n4_
       have HB := n5_
       clear n0_ n1_ n2_ n3_ n4_ n5_
       refine start_ (n := 8) (S := fun w' => w'.cell? ⟨gb126, 0, none⟩ = some (.int .i64 a0_0) ∧ w'.cell? ⟨gb126, 1, none⟩ = some (.int .i64 a0_1) ∧ w'.cell? ⟨gb126, 2, none⟩ = some (u127002) ∧ w'.cell? ⟨gb128, 0, none⟩ = some (.int .i64 ((rd_T28 l0_2 x14_1).f0)) ∧ w'.cell? ⟨gb128, 1, none⟩ = some (.int .i64 ((rd_T28 l0_2 x14_1).f1)) ∧ w'.cell? ⟨gb128, 2, none⟩ = some (.slice A127_2 ((rd_T28 l0_2 x14_1).f2).length c127_2)) (ds := [7]) #[false, false, false, false, false, false, false, false] (by kernel_rfl) rfl rfl ⟨(blk_cell BK126.out 0).trans rfl, (blk_cell BK126.out 1).trans rfl, (blk_cell BK126.out 2).trans rfl, (blk_cell BK128.out 0).trans rfl, (blk_cell BK128.out 1).trans rfl, (blk_cell BK128.out 2).trans rfl⟩ (fun hHeld => ?_); refine with_tabW spec_l10Copy.tab5 spec_l10Copy.bits5 (fun HT_ HW_ => ?_)
       generalize w21.drew = w22 at HO_127002 BK124 BK125 BK126 BK128 HB hHeld ⊢
       refine Qq 0 (some 18) ?_
       refine Qr 1 (some 19) hHeld ?_
       refine Qr 2 (some 20) hHeld ?_
       refine Qs 3 (some 21) (fun K hK => ?_)
       refine goes_ Try.func34 (by kernel_rfl) rfl #[.agg #[.int .i64 ((rd_T28 l0_2 x14_1).f0), .int .i64 ((rd_T28 l0_2 x14_1).f1), .slice A127_2 ((rd_T28 l0_2 x14_1).f2).length c127_2]] (by rfl) rfl rfl (by (try simp only [List.map_toArray, List.map_cons, List.map_nil]); first | done | rfl | (simp only [List.length_drop, List.length_take]; rfl)) ?_
       with_reducible refine (ih k1 (by have := HK1.out; omega) ((rd_T28 l0_2 x14_1).f0) ((rd_T28 l0_2 x14_1).f1) _ _ ((rd_T28 l0_2 x14_1).f2) t129 t130 t131 _ ?side1 ?side2 A14.out).mono ?_
       (case side1 => repeat (first | exact (Kd.C_below HR127_2.out HB.out) | (with_reducible refine Kd.C_alloc ?_ _) | (with_reducible refine Kd.C_drewN ?_ _) | (with_reducible refine Kd.C_drew ?_)))
       (case side2 => exact HC127_2.out)
       rintro e w23 ⟨v132, rfl, ho0, hb⟩
       refine ⟨_, rfl, ?_⟩
       have n0_ := Ak (Kd.R_elder' (Qc HO_127002.out) (Kd.R_base ho0) hb)
       have n1_ := Ak (Kd.R_lower (Kd.R_newB (Kd.R_newB (Kd.R_newB (Kd.R_newB (Kd.R_new' ho0 (Kd.R_lt (Qc HO_127002.out))) (g := gb124) (o := .cells #[.int .i64 a0_0, .int .i64 a0_1, .slice (some ad127) l0_2.length c0_2] 28 (0, 0)) (Qa BK124.out)) (g := gb125) (o := .cells #[.int .i64 0, .int .i64 0, .slice none 0 0] 28 (0, 0)) (Qa BK125.out)) (g := gb126) (o := .cells #[.int .i64 a0_0, .int .i64 a0_1, u127002] 28 (0, 0)) (Qa BK126.out)) (g := gb128) (o := .cells #[.int .i64 ((rd_T28 l0_2 x14_1).f0), .int .i64 ((rd_T28 l0_2 x14_1).f1), .slice A127_2 ((rd_T28 l0_2 x14_1).f2).length c127_2] 28 (0, 0)) (Qa BK128.out)) (below_size (Qb HB.out)))
       have n2_ := Ak (Qm BK124.out hb)
       have n3_ := Ak (Qm BK125.out hb)
       have n4_ := Ak (Qm BK126.out hb)
       have n5_ := Ak (Qm BK128.out hb)
       have n6_ := Ak (below_step (Qb HB.out) hb)
       clear HO_127002 BK124 BK125 BK126 BK128 HB
       have HO_127002 := n0_
       have HO133 := n1_
       have BK124 := n2_
       have BK125 := n3_
       have BK126 := n4_
       have BK128 := n5_
       have HB := n6_
       clear n0_ n1_ n2_ n3_ n4_ n5_ n6_
       (try clear hb); (try clear hb2); (try clear hk); (try clear hi); (try clear ho0)
       obtain ⟨Ao25, co25, eo25⟩ := Kd.R_slice HO133.out
       (first | subst eo25 | (injection eo25 with f1_ f2_ f3_; have f4_ := f1_.symm; have f5_ := f3_.symm; clear f1_ f2_ f3_; subst f4_; subst f5_))
       refine hK.out _ _ ⟨(blk_cell BK126.out 0).trans rfl, (blk_cell BK126.out 1).trans rfl, (blk_cell BK126.out 2).trans rfl, (blk_cell BK128.out 0).trans rfl, (blk_cell BK128.out 1).trans rfl, (blk_cell BK128.out 2).trans rfl⟩ (fun hHeld => ?_)
       clear hK K
       refine norm_ (a' := ?_) ?_ ?_
       rotate_left
       ·show Act.put _ (some 21) _ = _
        simp only [Act.put, List.setIfInBounds_toArray, List.set_cons_zero, List.set_cons_succ, i64_w, i32_w]
        rfl
       refine Qs 4 (some 22) (fun K hK => ?_)
       refine value_ (w1 := ?_) (v := ?_) (by rfl) rfl ?_ ?_
       rotate_left 2
       ·go_simp
        constructor
        ·rfl
        ·rfl
       refine hK.out _ _ ⟨(blk_cell (blk_alloc BK126.out _) 0).trans rfl, (blk_cell (blk_alloc BK126.out _) 1).trans rfl, (blk_cell (blk_alloc BK126.out _) 2).trans rfl, (blk_cell (blk_alloc BK128.out _) 0).trans rfl, (blk_cell (blk_alloc BK128.out _) 1).trans rfl, (blk_cell (blk_alloc BK128.out _) 2).trans rfl⟩ (fun hHeld => ?_)
       clear hK K
       refine norm_ (a' := ?_) ?_ ?_
       rotate_left
       ·show Act.put _ (some 22) _ = _
        simp only [Act.put, List.setIfInBounds_toArray, List.set_cons_zero, List.set_cons_succ, i64_w, i32_w]
        rfl
       refine Qs 5 (some 23) (fun K hK => ?_)
       refine Kd.R_append_step k28 (w0 := w) w.heap.size (by rfl) (.tmp 19) (.tmp 22) 26 28 (.agg #[(.int .i64 0), (.int .i64 0), (.slice none 0 0)]) 40 rfl Try.underlying26 info28 rfl (by decide) (by omega) u127002 x127002_1 (⟨t129, t130, t131⟩ : S28) [.int .i64 t129, .int .i64 t130, .slice Ao25 t131.length co25] (fun k_ => k_ ≠ gb124 ∧ k_ ≠ gb125 ∧ k_ ≠ gb126 ∧ k_ ≠ gb128) (fun k_ => ((fun k_ => k_ ≠ gb124 ∧ k_ ≠ gb125 ∧ k_ ≠ gb126 ∧ k_ ≠ gb128)) k_ ∧ some k_ ≠ (u127002 : Value).ownBlock) rfl rfl ?aP (fun _ hk => hk) ?aF ?aO ?aB ?aS ?aL ?_
       (case aP => exact k28_mkM _ _ _ (⟨t129, t130, t131⟩ : S28) (Kd.R_mono (HO133.out) (fun k_ hk => ⟨⟨hk.1.1.1.2, ⟨hk.1.1.2, ⟨hk.1.2, hk.2⟩⟩⟩, hk.1.1.1.1.2⟩)))
       (case aB => exact (Qb HB.out))
       (case aF => exact (fun k_ hk => ⟨Kd.freshB (g := gb124) (o := .cells #[.int .i64 a0_0, .int .i64 a0_1, .slice (some ad127) l0_2.length c0_2] 28 (0, 0)) (Qa BK124.out) k_ hk, Kd.freshB (g := gb125) (o := .cells #[.int .i64 0, .int .i64 0, .slice none 0 0] 28 (0, 0)) (Qa BK125.out) k_ hk, Kd.freshB (g := gb126) (o := .cells #[.int .i64 a0_0, .int .i64 a0_1, u127002] 28 (0, 0)) (Qa BK126.out) k_ hk, Kd.freshB (g := gb128) (o := .cells #[.int .i64 ((rd_T28 l0_2 x14_1).f0), .int .i64 ((rd_T28 l0_2 x14_1).f1), .slice A127_2 ((rd_T28 l0_2 x14_1).f2).length c127_2] 28 (0, 0)) (Qa BK128.out) k_ hk⟩))
       (case aO => exact (by refine Qf ?_; exact Kd.R_mono HO_127002.out (fun _ hk => ⟨hk.1.1, ⟨hk.1.2.1, ⟨hk.1.2.2.1, hk.1.2.2.2⟩⟩⟩)))
       (case aS => exact (below_size (Qb HB.out)))
       (case aL => have := LMc15.out; omega)
       intro v135 w24 ho hb hg hat
       rw [← Ny134.out] at ho
       have n0_ := Ak (blk_grown (g := gb124) (o := .cells #[.int .i64 a0_0, .int .i64 a0_1, .slice (some ad127) l0_2.length c0_2] 28 (0, 0)) (Qa BK124.out) hg (Kd.R_away HO_127002.out (fun _ hk => hk.1.1)))
       have n1_ := Ak (blk_grown (g := gb125) (o := .cells #[.int .i64 0, .int .i64 0, .slice none 0 0] 28 (0, 0)) (Qa BK125.out) hg (Kd.R_away HO_127002.out (fun _ hk => hk.1.2.1)))
       have n2_ := Ak (blk_grown (g := gb126) (o := .cells #[.int .i64 a0_0, .int .i64 a0_1, u127002] 28 (0, 0)) (Qa BK126.out) hg (Kd.R_away HO_127002.out (fun _ hk => hk.1.2.2.1)))
       have n3_ := Ak (blk_grown (g := gb128) (o := .cells #[.int .i64 ((rd_T28 l0_2 x14_1).f0), .int .i64 ((rd_T28 l0_2 x14_1).f1), .slice A127_2 ((rd_T28 l0_2 x14_1).f2).length c127_2] 28 (0, 0)) (Qa BK128.out) hg (Kd.R_away HO_127002.out (fun _ hk => hk.1.2.2.2)))
       have n4_ := Ak (hb)
       have n5_ := Ak (ho)
       clear BK124 BK125 BK126 BK128 HB HO_127002 HO133
       have BK124 := n0_
       have BK125 := n1_
       have BK126 := n2_
       have BK128 := n3_
       have HB := n4_
       have HO136 := n5_
       clear n0_ n1_ n2_ n3_ n4_ n5_
       clear ho hb hg hat
       obtain ⟨Ao26, co26, eo26⟩ := Kd.R_slice HO136.out
       (first | subst eo26 | (injection eo26 with f1_ f2_ f3_; have f4_ := f1_.symm; have f5_ := f3_.symm; clear f1_ f2_ f3_; subst f4_; subst f5_))
       refine hK.out _ _ ⟨(blk_cell BK126.out 0).trans rfl, (blk_cell BK126.out 1).trans rfl, (blk_cell BK126.out 2).trans rfl, (blk_cell BK128.out 0).trans rfl, (blk_cell BK128.out 1).trans rfl, (blk_cell BK128.out 2).trans rfl⟩ (fun hHeld => ?_)
       clear hK K
       refine norm_ (a' := ?_) ?_ ?_
       rotate_left
       ·show Act.put _ (some 23) _ = _
        simp only [Act.put, List.setIfInBounds_toArray, List.set_cons_zero, List.set_cons_succ, i64_w, i32_w]
        rfl
       refine Qq 6 (some 24) ?_
       refine Qt 7 none (fun K hK => ?_)
       have hs27 : w24.cell? ⟨gb126, 2, none⟩ = some (u127002) := (blk_cell BK126.out 2).trans rfl
       have hfs27 := blk_frozen BK126.out 2
       have hns27_0 := NB124_126.out
       have hns27_1 := NB125_126.out
       have hns27_3 := NB128_126.out
       have hms27_0 := NB126_124.out
       have hms27_1 := NB126_125.out
       have hms27_3 := NB126_128.out
       refine skip_ (w1 := ?_) (by rfl) rfl ?_ ?_
       rotate_left
       ·go_simp
        rfl
       refine hK.out _ _ ?_
       clear hK K
       refine done_ (done_of HT_.out (by kernel_rfl)) ?_
       try go_wp2
       go_roundg k1
       case measure => have := HK1.out; omega
       case rel => exact ⟨(wrap64 (x14_1 + 1)), (y134), (.slice Ao26 y134.length co26), Qi, H', ⟨by have := HK1.out; omega⟩, ⟨by refine Qf ?_; exact Kd.R_mono (Kd.R_far (p := ⟨gb126, 2, none⟩) (Kd.R_mono HO136.out (fun k_ hk => (⟨hk, hk.2.2.1⟩ : _ ∧ k_ ≠ gb126))) (fun _ hk => hk.2) (.slice Ao26 y134.length co26)) (fun _ hk => ⟨hk.1.1, ⟨hk.1.2.1, hk.1.2.2.1⟩⟩)⟩, ⟨by refine Qe ?_; refine blk_far ?_ NB124_126.out _; refine Qe ?_; exact BK124.out⟩, ⟨by refine Qe ?_; refine blk_far ?_ NB125_126.out _; refine Qe ?_; exact BK125.out⟩, ⟨by refine Qe ?_; refine blk_put (cs := #[.int .i64 a0_0, .int .i64 a0_1, u127002]) ?_ 2 _ rfl; refine Qe ?_; exact BK126.out⟩, ⟨Qb HB.out⟩⟩
      ·rw [if_neg c15] at H
       exact absurd H (by simp)
     ·rw [if_neg c13] at H
      exact absurd H (by simp)
    ·rw [if_neg c12] at H
     exact absurd H (by simp)
   ·rw [if_neg c11] at H
    have c11b0 : decide (x14_1 < (l0_2.length : Int)) = false := decide_eq_false c11
    clear c11
    simp only [Option.some.injEq, Prod.mk.injEq] at H
    obtain ⟨rfl, rfl, rfl⟩ := H
    have hnb28 := NB126_124.out
    have hnc28 := NB124_126.out
    have hnb29 := NB126_125.out
    have hnc29 := NB125_126.out
    obtain ⟨hcz30_0, hcz30_1, hcz30_2, hfz30_0, hfz30_1, hfz30_2⟩ := Qv3 BK126.out
    have hnb31 := NB125_124.out
    have hnc31 := NB124_125.out
    obtain ⟨hcz32_0, hcz32_1, hcz32_2, hfz32_0, hfz32_1, hfz32_2⟩ := Qv3 BK125.out
    obtain ⟨Ao33, co33, eo33⟩ := Kd.R_slice HO_127002.out
    subst eo33
    go_wp2
    refine bodyPost_ret (results_cell_row rfl _ _ gb125 28 #[.int .i64 a0_0, .int .i64 a0_1, .slice Ao33 x127002_1.length co33] (0, 0) _ rfl (by refine Qe ?_; refine blk_put (cs := #[.int .i64 a0_0, .int .i64 a0_1, .slice none 0 0]) ?_ 2 _ rfl; refine Qe ?_; refine blk_put (cs := #[.int .i64 a0_0, .int .i64 0, .slice none 0 0]) ?_ 1 _ rfl; refine Qe ?_; refine blk_put (cs := #[.int .i64 0, .int .i64 0, .slice none 0 0]) ?_ 0 _ rfl; exact Qa BK125.out) Try.underlying28 rfl (by kernel_rfl)) rfl ?_
    exact ⟨_, Qh, by refine Qf ?_; exact Kd.R_mono (Kd.R_far (p := ⟨gb125, 2, none⟩) (Kd.R_far (p := ⟨gb125, 1, none⟩) (Kd.R_far (p := ⟨gb125, 0, none⟩) (Kd.R_mono HO_127002.out (fun k_ hk => (⟨hk, hk.2.1⟩ : _ ∧ k_ ≠ gb125))) (fun _ hk => hk.2) (.int .i64 a0_0)) (fun _ hk => hk.2) (.int .i64 a0_1)) (fun _ hk => hk.2) (.slice Ao33 x127002_1.length co33)) (fun _ hk => trivial), Qb HB.out⟩

end Go.Proofs.Ythlagaopjmeaaaa.HFnExactNegateExpr

/- Text for FnExactFormatExpr: written by a program of this session on the pattern of the kit's print. -/
import Derived.Test.YtjfgcipbbcplmaaDoorHFnExactFormatExprx0
import Derived.Test.YtjfgcipbbcplmaaDoorHFnExactFormatExprx1
import Derived.Test.YtjfgcipbbcplmaaDoorHFnExactFormatExprx3
namespace Go.Proofs.YtjfgcipbbcplmaaDoor.HFnExactFormatExpr
set_option maxHeartbeats 8000000
set_option maxRecDepth 100000
open Go.RowKit Go.Proofs.YtjfgcipbbcplmaaDoorW.PrintWords Go.Proofs.YtjfgcipbbcplmaaDoorW.PrintLast Go.Proofs.YtjfgcipbbcplmaaDoorW.PrintMore
attribute [local go_sem] max2_int min2_int max_two min_two max_three min_three max_four min_four
set_option linter.unusedVariables false
set_option linter.unusedSimpArgs false

/-! ### impl_kidText: function 86 -/
/-! ### impl_exprText: function 43 -/
mutual
def impl_kidText.j0 : Nat → Int → ByteArray → Bool → Int → Int → List (S25) → Int → Int → List (S25) → Option (ByteArray)
 | 0, _, _, _, _, _, _, _, _, _ => none
 | k + 1, x1, x6, x23, x112000, x112001, x112002, x114000, x114001, x114002 => if x23 = true then (some x6) else ((impl_kids.f k x112000).bind fun t117 => (if t117 = 1 then (if 1 + x6.size ≤ 9223372036854775807 then (if ((⟨#[40]⟩ : ByteArray) ++ x6).size + 1 ≤ 9223372036854775807 then (some (((⟨#[40]⟩ : ByteArray) ++ x6) ++ (⟨#[41]⟩ : ByteArray))) else (none)) else (none)) else ((impl_isTimes.f x112000).bind fun t118 => (if t118 = true then (if x1 = 1 then (if 1 + x6.size ≤ 9223372036854775807 then (if ((⟨#[40]⟩ : ByteArray) ++ x6).size + 1 ≤ 9223372036854775807 then (some (((⟨#[40]⟩ : ByteArray) ++ x6) ++ (⟨#[41]⟩ : ByteArray))) else (none)) else (none)) else ((impl_isSum.f x114000).bind fun t119 => (if t119 = true then (if 1 + x6.size ≤ 9223372036854775807 then (if ((⟨#[40]⟩ : ByteArray) ++ x6).size + 1 ≤ 9223372036854775807 then (some (((⟨#[40]⟩ : ByteArray) ++ x6) ++ (⟨#[41]⟩ : ByteArray))) else (none)) else (none)) else ((impl_isSum.f x112000).bind fun t120 => (if t120 = true then (some x6) else (some x6)))))) else ((impl_isSum.f x112000).bind fun t121 => (if t121 = true then (if x1 = 1 then ((impl_isSum.f x114000).bind fun t122 => (if t122 = true then (if 1 + x6.size ≤ 9223372036854775807 then (if ((⟨#[40]⟩ : ByteArray) ++ x6).size + 1 ≤ 9223372036854775807 then (some (((⟨#[40]⟩ : ByteArray) ++ x6) ++ (⟨#[41]⟩ : ByteArray))) else (none)) else (none)) else (some x6))) else (some x6)) else (some x6)))))))
def impl_kidText.f : Nat → Int → Int → List (S25) → Int → Option (ByteArray)
 | 0, _, _, _, _ => none
 | k + 1, a0_0, a0_1, l0_2, a1 => if 0 ≤ a1 then (if a1 < (l0_2.length : Int) then ((impl_exprText.f k ((rd_T25 l0_2 a1).f0) ((rd_T25 l0_2 a1).f1) ((rd_T25 l0_2 a1).f2)).bind fun t114 => ((impl_isSum.f ((rd_T25 l0_2 a1).f0)).bind fun t115 => (if t115 = true then (impl_kidText.j0 k a1 t114 false a0_0 a0_1 l0_2 ((rd_T25 l0_2 a1).f0) ((rd_T25 l0_2 a1).f1) ((rd_T25 l0_2 a1).f2)) else ((impl_isTimes.f ((rd_T25 l0_2 a1).f0)).bind fun t116 => (impl_kidText.j0 k a1 t114 (!t116) a0_0 a0_1 l0_2 ((rd_T25 l0_2 a1).f0) ((rd_T25 l0_2 a1).f1) ((rd_T25 l0_2 a1).f2)))))) else (none)) else (none)
def impl_exprText.f : Nat → Int → Int → List (S25) → Option (ByteArray)
 | 0, _, _, _ => none
 | k + 1, a0_0, a0_1, l0_2 => if a0_0 = 1 then ((strconv_Itoa.f a0_1).bind fun t124 => (some t124)) else (if a0_0 = 2 then ((impl_kidText.f k a0_0 a0_1 l0_2 0).bind fun t125 => (if 1 + t125.size ≤ 9223372036854775807 then (some ((⟨#[43]⟩ : ByteArray) ++ t125)) else (none))) else (if a0_0 = 3 then ((impl_kidText.f k a0_0 a0_1 l0_2 0).bind fun t126 => (if 1 + t126.size ≤ 9223372036854775807 then (some ((⟨#[45]⟩ : ByteArray) ++ t126)) else (none))) else ((impl_kidText.f k a0_0 a0_1 l0_2 0).bind fun t127 => (if t127.size + 1 ≤ 9223372036854775807 then (if 0 ≤ (wrap64 (a0_0 - 4)) then (if (wrap64 (a0_0 - 4)) ≤ (wrap64 ((wrap64 (a0_0 - 4)) + 1)) then (if (wrap64 ((wrap64 (a0_0 - 4)) + 1)) ≤ 5 then (if (t127 ++ (⟨#[32]⟩ : ByteArray)).size + ((⟨#[43, 45, 42, 47, 37]⟩ : ByteArray).extract ((wrap64 (a0_0 - 4)) : Int).toNat ((wrap64 ((wrap64 (a0_0 - 4)) + 1)) : Int).toNat).size ≤ 9223372036854775807 then (if ((t127 ++ (⟨#[32]⟩ : ByteArray)) ++ ((⟨#[43, 45, 42, 47, 37]⟩ : ByteArray).extract ((wrap64 (a0_0 - 4)) : Int).toNat ((wrap64 ((wrap64 (a0_0 - 4)) + 1)) : Int).toNat)).size + 1 ≤ 9223372036854775807 then ((impl_kidText.f k a0_0 a0_1 l0_2 1).bind fun t128 => (if (((t127 ++ (⟨#[32]⟩ : ByteArray)) ++ ((⟨#[43, 45, 42, 47, 37]⟩ : ByteArray).extract ((wrap64 (a0_0 - 4)) : Int).toNat ((wrap64 ((wrap64 (a0_0 - 4)) + 1)) : Int).toNat)) ++ (⟨#[32]⟩ : ByteArray)).size + t128.size ≤ 9223372036854775807 then (some ((((t127 ++ (⟨#[32]⟩ : ByteArray)) ++ ((⟨#[43, 45, 42, 47, 37]⟩ : ByteArray).extract ((wrap64 (a0_0 - 4)) : Int).toNat ((wrap64 ((wrap64 (a0_0 - 4)) + 1)) : Int).toNat)) ++ (⟨#[32]⟩ : ByteArray)) ++ t128)) else (none))) else (none)) else (none)) else (none)) else (none)) else (none)) else (none)))))
end
theorem impl_kidText.mono_g : ∀ k, (∀ y0 y1 y2 y3, LeO (impl_kidText.f k y0 y1 y2 y3) (impl_kidText.f (k + 1) y0 y1 y2 y3)) ∧ (∀ y0 y1 y2 y3 y4 y5 y6 y7 y8, LeO (impl_kidText.j0 k y0 y1 y2 y3 y4 y5 y6 y7 y8) (impl_kidText.j0 (k + 1) y0 y1 y2 y3 y4 y5 y6 y7 y8)) ∧ (∀ y0 y1 y2, LeO (impl_exprText.f k y0 y1 y2) (impl_exprText.f (k + 1) y0 y1 y2))
 | 0 => ⟨fun _ _ _ _ r h => by simp [impl_kidText.f] at h, fun _ _ _ _ _ _ _ _ _ r h => by simp [impl_kidText.j0] at h, fun _ _ _ r h => by simp [impl_exprText.f] at h⟩
 | k + 1 => by
  obtain ⟨ih0, ih1, ih2⟩ := impl_kidText.mono_g k
  refine ⟨?_, ?_, ?_⟩
  ·intro y0 y1 y2 y3
   unfold impl_kidText.f
   repeat' first
   | (with_reducible exact ih0 _ _ _ _)
   | (with_reducible exact ih1 _ _ _ _ _ _ _ _ _)
   | (with_reducible exact ih2 _ _ _)
   | (with_reducible exact impl_kids.mono _ _)
   | (with_reducible exact LeO.refl _)
   | (with_reducible exact LeO.none _)
   | (with_reducible refine LeO.ite ?_ ?_)
   | (with_reducible refine LeO.bind ?_ (fun _ => ?_))
   | exact ih0 _ _ _ _
   | exact ih1 _ _ _ _ _ _ _ _ _
   | exact ih2 _ _ _
   | exact impl_kids.mono _ _
   | exact LeO.none _
   | refine LeO.ite ?_ ?_
   | refine LeO.bind ?_ (fun _ => ?_)
  ·intro y0 y1 y2 y3 y4 y5 y6 y7 y8
   unfold impl_kidText.j0
   repeat' first
   | (with_reducible exact ih0 _ _ _ _)
   | (with_reducible exact ih1 _ _ _ _ _ _ _ _ _)
   | (with_reducible exact ih2 _ _ _)
   | (with_reducible exact impl_kids.mono _ _)
   | (with_reducible exact LeO.refl _)
   | (with_reducible exact LeO.none _)
   | (with_reducible refine LeO.ite ?_ ?_)
   | (with_reducible refine LeO.bind ?_ (fun _ => ?_))
   | exact ih0 _ _ _ _
   | exact ih1 _ _ _ _ _ _ _ _ _
   | exact ih2 _ _ _
   | exact impl_kids.mono _ _
   | exact LeO.none _
   | refine LeO.ite ?_ ?_
   | refine LeO.bind ?_ (fun _ => ?_)
  ·intro y0 y1 y2
   unfold impl_exprText.f
   repeat' first
   | (with_reducible exact ih0 _ _ _ _)
   | (with_reducible exact ih1 _ _ _ _ _ _ _ _ _)
   | (with_reducible exact ih2 _ _ _)
   | (with_reducible exact impl_kids.mono _ _)
   | (with_reducible exact LeO.refl _)
   | (with_reducible exact LeO.none _)
   | (with_reducible refine LeO.ite ?_ ?_)
   | (with_reducible refine LeO.bind ?_ (fun _ => ?_))
   | exact ih0 _ _ _ _
   | exact ih1 _ _ _ _ _ _ _ _ _
   | exact ih2 _ _ _
   | exact impl_kids.mono _ _
   | exact LeO.none _
   | refine LeO.ite ?_ ?_
   | refine LeO.bind ?_ (fun _ => ?_)
theorem impl_kidText.mono : ∀ a0 a1 a2 a3 k, LeO (impl_kidText.f k a0 a1 a2 a3) (impl_kidText.f (k + 1) a0 a1 a2 a3) := fun a0 a1 a2 a3 k => (impl_kidText.mono_g k).1 a0 a1 a2 a3
theorem impl_exprText.mono : ∀ a0 a1 a2 k, LeO (impl_exprText.f k a0 a1 a2) (impl_exprText.f (k + 1) a0 a1 a2) := fun a0 a1 a2 k => (impl_kidText.mono_g k).2.2 a0 a1 a2
theorem impl_kidText.step (k : Nat) (ihG_86 : ∀ m_, m_ < k → ∀ (a0_0 : Int) (a0_1 : Int) (A0_2 : Option Addr) (c0_2 : Nat) (l0_2 : List (S25)) (a1 : Int) (r : ByteArray) (w : World) (hr0_2 : Kd.C k25 w A0_2 l0_2.length l0_2) (hc0_2 : l0_2.length ≤ c0_2) (hL : Aside0 (Laid w)) (h : impl_kidText.f m_ a0_0 a0_1 l0_2 a1 = some r),
  Calls Tryd.prog 86 #[.agg #[.int .i64 a0_0, .int .i64 a0_1, .slice A0_2 l0_2.length c0_2], .int .i64 a1] w fun e w' => e = .returned (.string r) ∧ Below w.heap.size w w') (ihG_43 : ∀ m_, m_ < k → ∀ (a0_0 : Int) (a0_1 : Int) (A0_2 : Option Addr) (c0_2 : Nat) (l0_2 : List (S25)) (r : ByteArray) (w : World) (hr0_2 : Kd.C k25 w A0_2 l0_2.length l0_2) (hc0_2 : l0_2.length ≤ c0_2) (hL : Aside0 (Laid w)) (h : impl_exprText.f m_ a0_0 a0_1 l0_2 = some r),
  Calls Tryd.prog 43 #[.agg #[.int .i64 a0_0, .int .i64 a0_1, .slice A0_2 l0_2.length c0_2]] w fun e w' => e = .returned (.string r) ∧ Below w.heap.size w w') : ∀ (a0_0 : Int) (a0_1 : Int) (A0_2 : Option Addr) (c0_2 : Nat) (l0_2 : List (S25)) (a1 : Int) (r : ByteArray) (w : World) (hr0_2 : Kd.C k25 w A0_2 l0_2.length l0_2) (hc0_2 : l0_2.length ≤ c0_2) (hL : Aside0 (Laid w)) (h : impl_kidText.f k a0_0 a0_1 l0_2 a1 = some r),
  Calls Tryd.prog 86 #[.agg #[.int .i64 a0_0, .int .i64 a0_1, .slice A0_2 l0_2.length c0_2], .int .i64 a1] w fun e w' => e = .returned (.string r) ∧ Below w.heap.size w w' := by
 intro a0_0 a0_1 A0_2 c0_2 l0_2 a1 r w hr0_2 hc0_2 hL h
 cases k with
 | zero => exact absurd h (by simp [impl_kidText.f])
 | succ k =>
 simp only [impl_kidText.f] at h
 have hu25 := Tryd.underlying25
 have HR0_2 := Ak hr0_2
 have HC0_2 := Ak hc0_2
 clear hr0_2 hc0_2
 have HB := Ak (Below.refl w.heap.size w)
 have H : (if 0 ≤ a1 then (if a1 < (l0_2.length : Int) then ((impl_exprText.f k ((rd_T25 l0_2 a1).f0) ((rd_T25 l0_2 a1).f1) ((rd_T25 l0_2 a1).f2)).bind fun t114 => ((impl_isSum.f ((rd_T25 l0_2 a1).f0)).bind fun t115 => (if t115 = true then (impl_kidText.j0 k a1 t114 false a0_0 a0_1 l0_2 ((rd_T25 l0_2 a1).f0) ((rd_T25 l0_2 a1).f1) ((rd_T25 l0_2 a1).f2)) else ((impl_isTimes.f ((rd_T25 l0_2 a1).f0)).bind fun t116 => (impl_kidText.j0 k a1 t114 (!t116) a0_0 a0_1 l0_2 ((rd_T25 l0_2 a1).f0) ((rd_T25 l0_2 a1).f1) ((rd_T25 l0_2 a1).f2)))))) else (none)) else (none)) = some r := h
 clear h
 by_cases c3 : 0 ≤ a1
 ·rw [if_pos c3] at H
  have c3b0 : decide (0 ≤ a1) = true := decide_eq_true c3
  clear c3
  by_cases c4 : a1 < (l0_2.length : Int)
  ·rw [if_pos c4] at H
   have c4b0 : decide (a1 < (l0_2.length : Int)) = true := decide_eq_true c4
   clear c4
   replace H := Option.bind_eq_some_iff.mp H
   obtain ⟨t114, A50, H⟩ := H
   replace H : ((impl_isSum.f ((rd_T25 l0_2 a1).f0)).bind fun t115 => (if t115 = true then (impl_kidText.j0 k a1 t114 false a0_0 a0_1 l0_2 ((rd_T25 l0_2 a1).f0) ((rd_T25 l0_2 a1).f1) ((rd_T25 l0_2 a1).f2)) else ((impl_isTimes.f ((rd_T25 l0_2 a1).f0)).bind fun t116 => (impl_kidText.j0 k a1 t114 (!t116) a0_0 a0_1 l0_2 ((rd_T25 l0_2 a1).f0) ((rd_T25 l0_2 a1).f1) ((rd_T25 l0_2 a1).f2))))) = some r := H
   have A5 := Ak A50
   clear A50
   have HC6 := Ak H
   clear H
   go_enter Tryd.func86, Tryd.ntmps86
   go_upto_region 3 with (first | ((with_reducible refine gate_dst (N := 2) rfl ?_); refine Qk 2 #[.int .i64 a0_0, .int .i64 a0_1, .slice A0_2 l0_2.length c0_2] 25 ?_; intro gb111 hg w7 hbox hb; have n0_ := Ak (below_step (Qb HB.out) hb); have n1_ := Ak (hbox); have n2_ := Ak ((Qp hg HB.out : w.heap.size ≤ gb111)); have n3_ := Ak ((Qp hg HB.out : w.heap.size ≤ gb111)); clear HB; have HB := n0_; have BK111 := n1_; have GW111 := n2_; have GE111 := n3_; clear n0_ n1_ n2_ n3_; clear hb hbox hg; obtain ⟨hcz8_0, hcz8_1, hcz8_2, hfz8_0, hfz8_1, hfz8_2⟩ := Qv3 BK111.out; have p112 : 0 ≤ (a1 : Int) := Qg; have q112 : a1 < (l0_2.length : Int) := Qg; obtain ⟨ad112, A112_2, c112_2, e112, hx112_0, hx112_1, hx112_2, hl112_2, hi112_2⟩ := at_T25 HR0_2.out a1 p112 q112; cases e112; replace hx112_0 := (HB.out.cell (World.block_lt_of_cell? w _ hx112_0)).trans hx112_0; replace hx112_1 := (HB.out.cell (World.block_lt_of_cell? w _ hx112_1)).trans hx112_1; replace hx112_2 := (HB.out.cell (World.block_lt_of_cell? w _ hx112_2)).trans hx112_2; have HR112_2 := Ak hi112_2; have HC112_2 := Ak hl112_2; clear hi112_2 hl112_2; replace p112 := eq_true p112; replace q112 := eq_true q112) | ((with_reducible refine gate_dst (N := 5) rfl ?_); refine Qk 5 #[.int .i64 0, .int .i64 0, .slice none 0 0] 25 ?_; intro gb113 hg w9 hbox hb; have n0_ := Ak (Qm BK111.out hb); have n1_ := Ak (below_step (Qb HB.out) hb); have n2_ := Ak (hbox); have n3_ := Ak ((Qp hg HB.out : w.heap.size ≤ gb113)); have n4_ := Ak ((Qp hg HB.out : w.heap.size ≤ gb113)); have n5_ := Ak ((by rw [hg]; exact Nat.ne_of_lt (Qn BK111.out) : gb111 ≠ gb113)); have n6_ := Ak ((by rw [hg]; exact Nat.ne_of_gt (Qn BK111.out) : gb113 ≠ gb111)); clear BK111 HB; have BK111 := n0_; have HB := n1_; have BK113 := n2_; have GW113 := n3_; have GE113 := n4_; have NB111_113 := n5_; have NB113_111 := n6_; clear n0_ n1_ n2_ n3_ n4_ n5_ n6_; clear hb hbox hg; have hnb10 := NB113_111.out; have hnc10 := NB111_113.out; obtain ⟨hcz11_0, hcz11_1, hcz11_2⟩ := Qu3 BK113.out; have hfz11_0 := blk_frozen BK113.out 0; have hfz11_1 := blk_frozen BK113.out 1; have hfz11_2 := blk_frozen BK113.out 2) | ((with_reducible refine gate_callee (f := 43) rfl ?_); refine Qj (some 13) Tryd.func43 #[.agg #[.int .i64 ((rd_T25 l0_2 a1).f0), .int .i64 ((rd_T25 l0_2 a1).f1), .slice A112_2 ((rd_T25 l0_2 a1).f2).length c112_2]] ?_; (with_reducible refine (ihG_43 k (by omega) ((rd_T25 l0_2 a1).f0) ((rd_T25 l0_2 a1).f1) _ _ ((rd_T25 l0_2 a1).f2) t114 _ ?side1 ?side2 ?side3 A5.out).mono ?_); (case side1 => exact Kd.C_below HR112_2.out (Qb HB.out)); (case side2 => exact HC112_2.out); (case side3 => exact ⟨hL.out.on (Qb HB.out)⟩); rintro e w12 ⟨rfl, hb⟩; refine ⟨_, rfl, ?_⟩; have n0_ := Ak (blk_below (g := gb111) (o := .cells #[.int .i64 a0_0, .int .i64 a0_1, .slice (some ad112) l0_2.length c0_2] 25 (0, 0)) (by refine Qe ?_; refine blk_far ?_ NB111_113.out _; refine Qe ?_; refine blk_far ?_ NB111_113.out _; refine Qe ?_; refine blk_far ?_ NB111_113.out _; exact Qa BK111.out) hb); have n1_ := Ak (blk_below (g := gb113) (o := .cells #[.int .i64 ((rd_T25 l0_2 a1).f0), .int .i64 ((rd_T25 l0_2 a1).f1), .slice A112_2 ((rd_T25 l0_2 a1).f2).length c112_2] 25 (0, 0)) (by refine Qe ?_; refine blk_put (cs := #[.int .i64 ((rd_T25 l0_2 a1).f0), .int .i64 ((rd_T25 l0_2 a1).f1), .slice none 0 0]) ?_ 2 _ rfl; refine Qe ?_; refine blk_put (cs := #[.int .i64 ((rd_T25 l0_2 a1).f0), .int .i64 0, .slice none 0 0]) ?_ 1 _ rfl; refine Qe ?_; refine blk_put (cs := #[.int .i64 0, .int .i64 0, .slice none 0 0]) ?_ 0 _ rfl; exact Qa BK113.out) hb); have n2_ := Ak (below_step (Qb HB.out) hb); clear BK111 BK113 HB; have BK111 := n0_; have BK113 := n1_; have HB := n2_; clear n0_ n1_ n2_; (try clear hb); (try clear hb2); (try clear hk); (try clear hi)))
   (try simp only [Act.put, List.setIfInBounds_toArray, List.set_cons_zero, List.set_cons_succ])
   go_cut [23] (fun v23 wc => ∃ (kq : Nat) (x23_5 : Bool), v23 = .bool x23_5 ∧ Aside0 (impl_kidText.j0 kq a1 t114 x23_5 a0_0 a0_1 l0_2 ((rd_T25 l0_2 a1).f0) ((rd_T25 l0_2 a1).f1) ((rd_T25 l0_2 a1).f2) = some r) ∧ Aside0 (kq ≤ k) ∧ Aside0 (wc.heap[gb111]? = some (.cells #[.int .i64 a0_0, .int .i64 a0_1, (.slice (some ad112) l0_2.length c0_2)] 25 (0, 0))) ∧ Aside0 (wc.heap[gb113]? = some (.cells #[.int .i64 ((rd_T25 l0_2 a1).f0), .int .i64 ((rd_T25 l0_2 a1).f1), (.slice A112_2 ((rd_T25 l0_2 a1).f2).length c112_2)] 25 (0, 0))) ∧ Aside0 (Below w.heap.size w wc))
   case first =>
    have H := HC6.out
    clear HC6
    replace H := Option.bind_eq_some_iff.mp H
    obtain ⟨t115, A130, H⟩ := H
    replace H : (if t115 = true then (impl_kidText.j0 k a1 t114 false a0_0 a0_1 l0_2 ((rd_T25 l0_2 a1).f0) ((rd_T25 l0_2 a1).f1) ((rd_T25 l0_2 a1).f2)) else ((impl_isTimes.f ((rd_T25 l0_2 a1).f0)).bind fun t116 => (impl_kidText.j0 k a1 t114 (!t116) a0_0 a0_1 l0_2 ((rd_T25 l0_2 a1).f0) ((rd_T25 l0_2 a1).f1) ((rd_T25 l0_2 a1).f2)))) = some r := H
    have A13 := Ak A130
    clear A130
    by_cases c14 : t115 = true
    ·(try subst c14)
     have H1 : (impl_kidText.j0 k a1 t114 false a0_0 a0_1 l0_2 ((rd_T25 l0_2 a1).f0) ((rd_T25 l0_2 a1).f1) ((rd_T25 l0_2 a1).f2)) = some r := by rw [if_pos rfl] at H; exact H
     clear H
     have H := H1
     clear H1
     have H' := Ak H
     clear H
     have hnb15 := NB113_111.out
     have hnc15 := NB111_113.out
     obtain ⟨hcz16_0, hcz16_1, hcz16_2, hfz16_0, hfz16_1, hfz16_2⟩ := Qv3 BK113.out
     go_wp2_with (first | ((with_reducible refine gate_callee (f := 127) rfl ?_); refine Qj (some 16) Tryd.func127 #[.int .i64 ((rd_T25 l0_2 a1).f0)] ?_; (with_reducible refine (impl_isSum.calls ((rd_T25 l0_2 a1).f0) true _ A13.out).mono ?_); rintro e w' ⟨rfl, ⟨nd, rfl⟩⟩; refine ⟨_, rfl, ?_⟩))
     go_meet
     case rel => exact ⟨_, (false), Qi, H', ⟨by first | omega | exact Nat.le_refl _⟩, ⟨by refine Qe ?_; exact BK111.out⟩, ⟨by refine Qe ?_; exact BK113.out⟩, ⟨Qb HB.out⟩⟩
    ·replace c14 := Bool.eq_false_iff.mpr c14
     (try subst c14)
     have H1 : ((impl_isTimes.f ((rd_T25 l0_2 a1).f0)).bind fun t116 => (impl_kidText.j0 k a1 t114 (!t116) a0_0 a0_1 l0_2 ((rd_T25 l0_2 a1).f0) ((rd_T25 l0_2 a1).f1) ((rd_T25 l0_2 a1).f2))) = some r := by rw [if_neg (show ¬ (false = true) by decide)] at H; exact H
     clear H
     have H := H1
     clear H1
     replace H := Option.bind_eq_some_iff.mp H
     obtain ⟨t116, A170, H⟩ := H
     replace H : (impl_kidText.j0 k a1 t114 (!t116) a0_0 a0_1 l0_2 ((rd_T25 l0_2 a1).f0) ((rd_T25 l0_2 a1).f1) ((rd_T25 l0_2 a1).f2)) = some r := H
     have A17 := Ak A170
     clear A170
     have H' := Ak H
     clear H
     have hnb18 := NB113_111.out
     have hnc18 := NB111_113.out
     obtain ⟨hcz19_0, hcz19_1, hcz19_2, hfz19_0, hfz19_1, hfz19_2⟩ := Qv3 BK113.out
     go_wp2_with (first | ((with_reducible refine gate_callee (f := 127) rfl ?_); refine Qj (some 16) Tryd.func127 #[.int .i64 ((rd_T25 l0_2 a1).f0)] ?_; (with_reducible refine (impl_isSum.calls ((rd_T25 l0_2 a1).f0) false _ A13.out).mono ?_); rintro e w' ⟨rfl, ⟨nd, rfl⟩⟩; refine ⟨_, rfl, ?_⟩) | (go_at_call 128; (with_reducible refine (impl_isTimes.calls ((rd_T25 l0_2 a1).f0) t116 _ A17.out).mono ?_); rintro e w' ⟨rfl, ⟨nd, rfl⟩⟩))
     go_meet
     case rel => exact ⟨_, (!t116), Qi, H', ⟨by first | omega | exact Nat.le_refl _⟩, ⟨by refine Qe ?_; exact BK111.out⟩, ⟨by refine Qe ?_; exact BK113.out⟩, ⟨Qb HB.out⟩⟩
   case rest =>
    clear HC6
    (try clear c1); (try clear p1); (try clear q1); (try clear hx1); (try clear p2); (try clear c3); (try clear c3b0); (try clear c4); (try clear c4b0); (try clear c8); (try clear c10); (try clear c11); (try clear p11); (try clear q11); (try clear hx11); (try clear c12); (try clear c14); (try clear c15); (try clear c18); (try clear hcz11_0); (try clear hcz11_1); (try clear hcz11_2); (try clear hcz16_0); (try clear hcz16_1); (try clear hcz16_2); (try clear hcz19_0); (try clear hcz19_1); (try clear hcz19_2); (try clear hcz8_0); (try clear hcz8_1); (try clear hcz8_2); (try clear hfz11_0); (try clear hfz11_1); (try clear hfz11_2); (try clear hfz16_0); (try clear hfz16_1); (try clear hfz16_2); (try clear hfz19_0); (try clear hfz19_1); (try clear hfz19_2); (try clear hfz8_0); (try clear hfz8_1); (try clear hfz8_2); (try clear hx112_0); (try clear hx112_1); (try clear hx112_2); (try clear p112); (try clear q112)
    obtain ⟨kq, x23_5, rfl, HA, HJ5, BK111, BK113, HB⟩ := hcut
    cases kq with
    | zero => exact absurd HA.out (by simp [impl_kidText.j0])
    | succ kj5 =>
     have H := HA.out
     clear HA
     simp only [impl_kidText.j0] at H
     by_cases c20 : x23_5 = true
     ·(try subst c20)
      have H1 : (some t114) = some r := by rw [if_pos rfl] at H; exact H
      clear H
      have H := H1
      clear H1
      obtain rfl := Option.some.inj H
      go_wp2
      go_ret
      exact ⟨Qh, Qb HB.out⟩
     ·replace c20 := Bool.eq_false_iff.mpr c20
      (try subst c20)
      have H1 : ((impl_kids.f kj5 a0_0).bind fun t117 => (if t117 = 1 then (if 1 + t114.size ≤ 9223372036854775807 then (if ((⟨#[40]⟩ : ByteArray) ++ t114).size + 1 ≤ 9223372036854775807 then (some (((⟨#[40]⟩ : ByteArray) ++ t114) ++ (⟨#[41]⟩ : ByteArray))) else (none)) else (none)) else ((impl_isTimes.f a0_0).bind fun t118 => (if t118 = true then (if a1 = 1 then (if 1 + t114.size ≤ 9223372036854775807 then (if ((⟨#[40]⟩ : ByteArray) ++ t114).size + 1 ≤ 9223372036854775807 then (some (((⟨#[40]⟩ : ByteArray) ++ t114) ++ (⟨#[41]⟩ : ByteArray))) else (none)) else (none)) else ((impl_isSum.f ((rd_T25 l0_2 a1).f0)).bind fun t119 => (if t119 = true then (if 1 + t114.size ≤ 9223372036854775807 then (if ((⟨#[40]⟩ : ByteArray) ++ t114).size + 1 ≤ 9223372036854775807 then (some (((⟨#[40]⟩ : ByteArray) ++ t114) ++ (⟨#[41]⟩ : ByteArray))) else (none)) else (none)) else ((impl_isSum.f a0_0).bind fun t120 => (if t120 = true then (some t114) else (some t114)))))) else ((impl_isSum.f a0_0).bind fun t121 => (if t121 = true then (if a1 = 1 then ((impl_isSum.f ((rd_T25 l0_2 a1).f0)).bind fun t122 => (if t122 = true then (if 1 + t114.size ≤ 9223372036854775807 then (if ((⟨#[40]⟩ : ByteArray) ++ t114).size + 1 ≤ 9223372036854775807 then (some (((⟨#[40]⟩ : ByteArray) ++ t114) ++ (⟨#[41]⟩ : ByteArray))) else (none)) else (none)) else (some t114))) else (some t114)) else (some t114))))))) = some r := by rw [if_neg (show ¬ (false = true) by decide)] at H; exact H
      clear H
      have H := H1
      clear H1
      replace H := Option.bind_eq_some_iff.mp H
      obtain ⟨t117, A210, H⟩ := H
      replace H : (if t117 = 1 then (if 1 + t114.size ≤ 9223372036854775807 then (if ((⟨#[40]⟩ : ByteArray) ++ t114).size + 1 ≤ 9223372036854775807 then (some (((⟨#[40]⟩ : ByteArray) ++ t114) ++ (⟨#[41]⟩ : ByteArray))) else (none)) else (none)) else ((impl_isTimes.f a0_0).bind fun t118 => (if t118 = true then (if a1 = 1 then (if 1 + t114.size ≤ 9223372036854775807 then (if ((⟨#[40]⟩ : ByteArray) ++ t114).size + 1 ≤ 9223372036854775807 then (some (((⟨#[40]⟩ : ByteArray) ++ t114) ++ (⟨#[41]⟩ : ByteArray))) else (none)) else (none)) else ((impl_isSum.f ((rd_T25 l0_2 a1).f0)).bind fun t119 => (if t119 = true then (if 1 + t114.size ≤ 9223372036854775807 then (if ((⟨#[40]⟩ : ByteArray) ++ t114).size + 1 ≤ 9223372036854775807 then (some (((⟨#[40]⟩ : ByteArray) ++ t114) ++ (⟨#[41]⟩ : ByteArray))) else (none)) else (none)) else ((impl_isSum.f a0_0).bind fun t120 => (if t120 = true then (some t114) else (some t114)))))) else ((impl_isSum.f a0_0).bind fun t121 => (if t121 = true then (if a1 = 1 then ((impl_isSum.f ((rd_T25 l0_2 a1).f0)).bind fun t122 => (if t122 = true then (if 1 + t114.size ≤ 9223372036854775807 then (if ((⟨#[40]⟩ : ByteArray) ++ t114).size + 1 ≤ 9223372036854775807 then (some (((⟨#[40]⟩ : ByteArray) ++ t114) ++ (⟨#[41]⟩ : ByteArray))) else (none)) else (none)) else (some t114))) else (some t114)) else (some t114)))))) = some r := H
      have A21 := Ak A210
      clear A210
      by_cases c22 : t117 = 1
      ·rw [if_pos c22] at H
       have c22b0 : (t117 == 1) = true := beq_iff_eq.mpr c22
       have c22b1 : (t117 != 1) = false := bne_eq_false_iff_eq.mpr c22
       clear c22
       by_cases c23 : 1 + t114.size ≤ 9223372036854775807
       ·rw [if_pos c23] at H
        have c23b0 := eq_true c23
        have c23b1 : decide (1 + t114.size ≤ 9223372036854775807) = true := decide_eq_true c23
        try have c23b2 : (9223372036854775807 < 1 + t114.size) = False := eq_false (Nat.not_lt.2 c23)
        by_cases c24 : ((⟨#[40]⟩ : ByteArray) ++ t114).size + 1 ≤ 9223372036854775807
        ·rw [if_pos c24] at H
         have c24b0 := eq_true c24
         have c24b1 : decide (((⟨#[40]⟩ : ByteArray) ++ t114).size + 1 ≤ 9223372036854775807) = true := decide_eq_true c24
         try have c24b2 : (9223372036854775807 < ((⟨#[40]⟩ : ByteArray) ++ t114).size + 1) = False := eq_false (Nat.not_lt.2 c24)
         have c24n := c24
         (simp only [ByteArray.size_append', ByteArray.size_mk', ByteArray.size_extract, List.size_toArray, List.length_cons, List.length_nil] at c24n)
         obtain rfl := Option.some.inj H
         have hnb25 := NB111_113.out
         have hnc25 := NB113_111.out
         obtain ⟨hcz26_0, hcz26_1, hcz26_2, hfz26_0, hfz26_1, hfz26_2⟩ := Qv3 BK111.out
         go_wp2_with (first | ((with_reducible refine gate_callee (f := 89) rfl ?_); refine Qj (some 27) Tryd.func89 #[.int .i64 a0_0] ?_; (with_reducible refine (impl_kids.calls kj5 a0_0 t117 _ A21.out).mono ?_); rintro e w' ⟨rfl, ⟨nd, rfl⟩⟩; refine ⟨_, rfl, ?_⟩))
         go_ret
         exact ⟨Qh, Qb HB.out⟩
        ·rw [if_neg c24] at H
         exact absurd H (by simp)
       ·rw [if_neg c23] at H
        exact absurd H (by simp)
      ·rw [if_neg c22] at H
       have c22b0 : (t117 == 1) = false := beq_eq_false_iff_ne.mpr c22
       have c22b1 : (t117 != 1) = true := bne_iff_ne.mpr c22
       replace H := Option.bind_eq_some_iff.mp H
       obtain ⟨t118, A270, H⟩ := H
       replace H : (if t118 = true then (if a1 = 1 then (if 1 + t114.size ≤ 9223372036854775807 then (if ((⟨#[40]⟩ : ByteArray) ++ t114).size + 1 ≤ 9223372036854775807 then (some (((⟨#[40]⟩ : ByteArray) ++ t114) ++ (⟨#[41]⟩ : ByteArray))) else (none)) else (none)) else ((impl_isSum.f ((rd_T25 l0_2 a1).f0)).bind fun t119 => (if t119 = true then (if 1 + t114.size ≤ 9223372036854775807 then (if ((⟨#[40]⟩ : ByteArray) ++ t114).size + 1 ≤ 9223372036854775807 then (some (((⟨#[40]⟩ : ByteArray) ++ t114) ++ (⟨#[41]⟩ : ByteArray))) else (none)) else (none)) else ((impl_isSum.f a0_0).bind fun t120 => (if t120 = true then (some t114) else (some t114)))))) else ((impl_isSum.f a0_0).bind fun t121 => (if t121 = true then (if a1 = 1 then ((impl_isSum.f ((rd_T25 l0_2 a1).f0)).bind fun t122 => (if t122 = true then (if 1 + t114.size ≤ 9223372036854775807 then (if ((⟨#[40]⟩ : ByteArray) ++ t114).size + 1 ≤ 9223372036854775807 then (some (((⟨#[40]⟩ : ByteArray) ++ t114) ++ (⟨#[41]⟩ : ByteArray))) else (none)) else (none)) else (some t114))) else (some t114)) else (some t114)))) = some r := H
       have A27 := Ak A270
       clear A270
       by_cases c28 : t118 = true
       ·(try subst c28)
        have H1 : (if a1 = 1 then (if 1 + t114.size ≤ 9223372036854775807 then (if ((⟨#[40]⟩ : ByteArray) ++ t114).size + 1 ≤ 9223372036854775807 then (some (((⟨#[40]⟩ : ByteArray) ++ t114) ++ (⟨#[41]⟩ : ByteArray))) else (none)) else (none)) else ((impl_isSum.f ((rd_T25 l0_2 a1).f0)).bind fun t119 => (if t119 = true then (if 1 + t114.size ≤ 9223372036854775807 then (if ((⟨#[40]⟩ : ByteArray) ++ t114).size + 1 ≤ 9223372036854775807 then (some (((⟨#[40]⟩ : ByteArray) ++ t114) ++ (⟨#[41]⟩ : ByteArray))) else (none)) else (none)) else ((impl_isSum.f a0_0).bind fun t120 => (if t120 = true then (some t114) else (some t114)))))) = some r := by rw [if_pos rfl] at H; exact H
        clear H
        have H := H1
        clear H1
        by_cases c29 : a1 = 1
        ·rw [if_pos c29] at H
         have c29b0 : (a1 == 1) = true := beq_iff_eq.mpr c29
         have c29b1 : (a1 != 1) = false := bne_eq_false_iff_eq.mpr c29
         clear c29
         by_cases c30 : 1 + t114.size ≤ 9223372036854775807
         ·rw [if_pos c30] at H
          have c30b0 := eq_true c30
          have c30b1 : decide (1 + t114.size ≤ 9223372036854775807) = true := decide_eq_true c30
          try have c30b2 : (9223372036854775807 < 1 + t114.size) = False := eq_false (Nat.not_lt.2 c30)
          by_cases c31 : ((⟨#[40]⟩ : ByteArray) ++ t114).size + 1 ≤ 9223372036854775807
          ·rw [if_pos c31] at H
           have c31b0 := eq_true c31
           have c31b1 : decide (((⟨#[40]⟩ : ByteArray) ++ t114).size + 1 ≤ 9223372036854775807) = true := decide_eq_true c31
           try have c31b2 : (9223372036854775807 < ((⟨#[40]⟩ : ByteArray) ++ t114).size + 1) = False := eq_false (Nat.not_lt.2 c31)
           have c31n := c31
           (simp only [ByteArray.size_append', ByteArray.size_mk', ByteArray.size_extract, List.size_toArray, List.length_cons, List.length_nil] at c31n)
           obtain rfl := Option.some.inj H
           have hnb32 := NB111_113.out
           have hnc32 := NB113_111.out
           obtain ⟨hcz33_0, hcz33_1, hcz33_2, hfz33_0, hfz33_1, hfz33_2⟩ := Qv3 BK111.out
           go_wp2_with (first | ((with_reducible refine gate_callee (f := 89) rfl ?_); refine Qj (some 27) Tryd.func89 #[.int .i64 a0_0] ?_; (with_reducible refine (impl_kids.calls kj5 a0_0 t117 _ A21.out).mono ?_); rintro e w' ⟨rfl, ⟨nd, rfl⟩⟩; refine ⟨_, rfl, ?_⟩) | (go_at_call 128; (with_reducible refine (impl_isTimes.calls a0_0 true _ A27.out).mono ?_); rintro e w' ⟨rfl, ⟨nd, rfl⟩⟩))
           go_ret
           exact ⟨Qh, Qb HB.out⟩
          ·rw [if_neg c31] at H
           exact absurd H (by simp)
         ·rw [if_neg c30] at H
          exact absurd H (by simp)
        ·rw [if_neg c29] at H
         have c29b0 : (a1 == 1) = false := beq_eq_false_iff_ne.mpr c29
         have c29b1 : (a1 != 1) = true := bne_iff_ne.mpr c29
         replace H := Option.bind_eq_some_iff.mp H
         obtain ⟨t119, A340, H⟩ := H
         replace H : (if t119 = true then (if 1 + t114.size ≤ 9223372036854775807 then (if ((⟨#[40]⟩ : ByteArray) ++ t114).size + 1 ≤ 9223372036854775807 then (some (((⟨#[40]⟩ : ByteArray) ++ t114) ++ (⟨#[41]⟩ : ByteArray))) else (none)) else (none)) else ((impl_isSum.f a0_0).bind fun t120 => (if t120 = true then (some t114) else (some t114)))) = some r := H
         have A34 := Ak A340
         clear A340
         by_cases c35 : t119 = true
         ·(try subst c35)
          have H1 : (if 1 + t114.size ≤ 9223372036854775807 then (if ((⟨#[40]⟩ : ByteArray) ++ t114).size + 1 ≤ 9223372036854775807 then (some (((⟨#[40]⟩ : ByteArray) ++ t114) ++ (⟨#[41]⟩ : ByteArray))) else (none)) else (none)) = some r := by rw [if_pos rfl] at H; exact H
          clear H
          have H := H1
          clear H1
          by_cases c36 : 1 + t114.size ≤ 9223372036854775807
          ·rw [if_pos c36] at H
           have c36b0 := eq_true c36
           have c36b1 : decide (1 + t114.size ≤ 9223372036854775807) = true := decide_eq_true c36
           try have c36b2 : (9223372036854775807 < 1 + t114.size) = False := eq_false (Nat.not_lt.2 c36)
           by_cases c37 : ((⟨#[40]⟩ : ByteArray) ++ t114).size + 1 ≤ 9223372036854775807
           ·rw [if_pos c37] at H
            have c37b0 := eq_true c37
            have c37b1 : decide (((⟨#[40]⟩ : ByteArray) ++ t114).size + 1 ≤ 9223372036854775807) = true := decide_eq_true c37
            try have c37b2 : (9223372036854775807 < ((⟨#[40]⟩ : ByteArray) ++ t114).size + 1) = False := eq_false (Nat.not_lt.2 c37)
            have c37n := c37
            (simp only [ByteArray.size_append', ByteArray.size_mk', ByteArray.size_extract, List.size_toArray, List.length_cons, List.length_nil] at c37n)
            obtain rfl := Option.some.inj H
            have hnb38 := NB111_113.out
            have hnc38 := NB113_111.out
            obtain ⟨hcz39_0, hcz39_1, hcz39_2, hfz39_0, hfz39_1, hfz39_2⟩ := Qv3 BK111.out
            go_wp2_with (first | ((with_reducible refine gate_callee (f := 89) rfl ?_); refine Qj (some 27) Tryd.func89 #[.int .i64 a0_0] ?_; (with_reducible refine (impl_kids.calls kj5 a0_0 t117 _ A21.out).mono ?_); rintro e w' ⟨rfl, ⟨nd, rfl⟩⟩; refine ⟨_, rfl, ?_⟩) | (go_at_call 128; (with_reducible refine (impl_isTimes.calls a0_0 true _ A27.out).mono ?_); rintro e w' ⟨rfl, ⟨nd, rfl⟩⟩; obtain ⟨hcz40_0, hcz40_1, hcz40_2⟩ := Qu3 BK113.out; have hfz40_0 := blk_frozen BK113.out 0; have hfz40_1 := blk_frozen BK113.out 1; have hfz40_2 := blk_frozen BK113.out 2) | (go_at_call 127; (with_reducible refine (impl_isSum.calls ((rd_T25 l0_2 a1).f0) true _ A34.out).mono ?_); rintro e w' ⟨rfl, ⟨nd, rfl⟩⟩))
            go_ret
            exact ⟨Qh, Qb HB.out⟩
           ·rw [if_neg c37] at H
            exact absurd H (by simp)
          ·rw [if_neg c36] at H
           exact absurd H (by simp)
         ·replace c35 := Bool.eq_false_iff.mpr c35
          (try subst c35)
          have H1 : ((impl_isSum.f a0_0).bind fun t120 => (if t120 = true then (some t114) else (some t114))) = some r := by rw [if_neg (show ¬ (false = true) by decide)] at H; exact H
          clear H
          have H := H1
          clear H1
          replace H := Option.bind_eq_some_iff.mp H
          obtain ⟨t120, A410, H⟩ := H
          replace H : (if t120 = true then (some t114) else (some t114)) = some r := H
          have A41 := Ak A410
          clear A410
          by_cases c42 : t120 = true
          ·(try subst c42)
           have H1 : (some t114) = some r := by rw [if_pos rfl] at H; exact H
           clear H
           have H := H1
           clear H1
           obtain rfl := Option.some.inj H
           have hnb43 := NB111_113.out
           have hnc43 := NB113_111.out
           obtain ⟨hcz44_0, hcz44_1, hcz44_2, hfz44_0, hfz44_1, hfz44_2⟩ := Qv3 BK111.out
           go_wp2_with (first | ((with_reducible refine gate_callee (f := 89) rfl ?_); refine Qj (some 27) Tryd.func89 #[.int .i64 a0_0] ?_; (with_reducible refine (impl_kids.calls kj5 a0_0 t117 _ A21.out).mono ?_); rintro e w' ⟨rfl, ⟨nd, rfl⟩⟩; refine ⟨_, rfl, ?_⟩) | (go_at_call 128; (with_reducible refine (impl_isTimes.calls a0_0 true _ A27.out).mono ?_); rintro e w' ⟨rfl, ⟨nd, rfl⟩⟩; obtain ⟨hcz45_0, hcz45_1, hcz45_2⟩ := Qu3 BK113.out; have hfz45_0 := blk_frozen BK113.out 0; have hfz45_1 := blk_frozen BK113.out 1; have hfz45_2 := blk_frozen BK113.out 2) | (go_at_call 127; (with_reducible refine (impl_isSum.calls ((rd_T25 l0_2 a1).f0) false _ A34.out).mono ?_); rintro e w' ⟨rfl, ⟨nd, rfl⟩⟩) | (go_at_call 127; (with_reducible refine (impl_isSum.calls a0_0 true _ A41.out).mono ?_); rintro e w' ⟨rfl, ⟨nd, rfl⟩⟩))
           go_ret
           exact ⟨Qh, Qb HB.out⟩
          ·replace c42 := Bool.eq_false_iff.mpr c42
           (try subst c42)
           have H1 : (some t114) = some r := by rw [if_neg (show ¬ (false = true) by decide)] at H; exact H
           clear H
           have H := H1
           clear H1
           obtain rfl := Option.some.inj H
           have hnb46 := NB111_113.out
           have hnc46 := NB113_111.out
           obtain ⟨hcz47_0, hcz47_1, hcz47_2, hfz47_0, hfz47_1, hfz47_2⟩ := Qv3 BK111.out
           go_wp2_with (first | ((with_reducible refine gate_callee (f := 89) rfl ?_); refine Qj (some 27) Tryd.func89 #[.int .i64 a0_0] ?_; (with_reducible refine (impl_kids.calls kj5 a0_0 t117 _ A21.out).mono ?_); rintro e w' ⟨rfl, ⟨nd, rfl⟩⟩; refine ⟨_, rfl, ?_⟩) | (go_at_call 128; (with_reducible refine (impl_isTimes.calls a0_0 true _ A27.out).mono ?_); rintro e w' ⟨rfl, ⟨nd, rfl⟩⟩; obtain ⟨hcz48_0, hcz48_1, hcz48_2⟩ := Qu3 BK113.out; have hfz48_0 := blk_frozen BK113.out 0; have hfz48_1 := blk_frozen BK113.out 1; have hfz48_2 := blk_frozen BK113.out 2) | (go_at_call 127; (with_reducible refine (impl_isSum.calls ((rd_T25 l0_2 a1).f0) false _ A34.out).mono ?_); rintro e w' ⟨rfl, ⟨nd, rfl⟩⟩) | (go_at_call 127; (with_reducible refine (impl_isSum.calls a0_0 false _ A41.out).mono ?_); rintro e w' ⟨rfl, ⟨nd, rfl⟩⟩))
           go_ret
           exact ⟨Qh, Qb HB.out⟩
       ·replace c28 := Bool.eq_false_iff.mpr c28
        (try subst c28)
        have H1 : ((impl_isSum.f a0_0).bind fun t121 => (if t121 = true then (if a1 = 1 then ((impl_isSum.f ((rd_T25 l0_2 a1).f0)).bind fun t122 => (if t122 = true then (if 1 + t114.size ≤ 9223372036854775807 then (if ((⟨#[40]⟩ : ByteArray) ++ t114).size + 1 ≤ 9223372036854775807 then (some (((⟨#[40]⟩ : ByteArray) ++ t114) ++ (⟨#[41]⟩ : ByteArray))) else (none)) else (none)) else (some t114))) else (some t114)) else (some t114))) = some r := by rw [if_neg (show ¬ (false = true) by decide)] at H; exact H
        clear H
        have H := H1
        clear H1
        replace H := Option.bind_eq_some_iff.mp H
        obtain ⟨t121, A490, H⟩ := H
        replace H : (if t121 = true then (if a1 = 1 then ((impl_isSum.f ((rd_T25 l0_2 a1).f0)).bind fun t122 => (if t122 = true then (if 1 + t114.size ≤ 9223372036854775807 then (if ((⟨#[40]⟩ : ByteArray) ++ t114).size + 1 ≤ 9223372036854775807 then (some (((⟨#[40]⟩ : ByteArray) ++ t114) ++ (⟨#[41]⟩ : ByteArray))) else (none)) else (none)) else (some t114))) else (some t114)) else (some t114)) = some r := H
        have A49 := Ak A490
        clear A490
        by_cases c50 : t121 = true
        ·(try subst c50)
         have H1 : (if a1 = 1 then ((impl_isSum.f ((rd_T25 l0_2 a1).f0)).bind fun t122 => (if t122 = true then (if 1 + t114.size ≤ 9223372036854775807 then (if ((⟨#[40]⟩ : ByteArray) ++ t114).size + 1 ≤ 9223372036854775807 then (some (((⟨#[40]⟩ : ByteArray) ++ t114) ++ (⟨#[41]⟩ : ByteArray))) else (none)) else (none)) else (some t114))) else (some t114)) = some r := by rw [if_pos rfl] at H; exact H
         clear H
         have H := H1
         clear H1
         by_cases c51 : a1 = 1
         ·rw [if_pos c51] at H
          have c51b0 : (a1 == 1) = true := beq_iff_eq.mpr c51
          have c51b1 : (a1 != 1) = false := bne_eq_false_iff_eq.mpr c51
          clear c51
          replace H := Option.bind_eq_some_iff.mp H
          obtain ⟨t122, A520, H⟩ := H
          replace H : (if t122 = true then (if 1 + t114.size ≤ 9223372036854775807 then (if ((⟨#[40]⟩ : ByteArray) ++ t114).size + 1 ≤ 9223372036854775807 then (some (((⟨#[40]⟩ : ByteArray) ++ t114) ++ (⟨#[41]⟩ : ByteArray))) else (none)) else (none)) else (some t114)) = some r := H
          have A52 := Ak A520
          clear A520
          by_cases c53 : t122 = true
          ·(try subst c53)
           have H1 : (if 1 + t114.size ≤ 9223372036854775807 then (if ((⟨#[40]⟩ : ByteArray) ++ t114).size + 1 ≤ 9223372036854775807 then (some (((⟨#[40]⟩ : ByteArray) ++ t114) ++ (⟨#[41]⟩ : ByteArray))) else (none)) else (none)) = some r := by rw [if_pos rfl] at H; exact H
           clear H
           have H := H1
           clear H1
           by_cases c54 : 1 + t114.size ≤ 9223372036854775807
           ·rw [if_pos c54] at H
            have c54b0 := eq_true c54
            have c54b1 : decide (1 + t114.size ≤ 9223372036854775807) = true := decide_eq_true c54
            try have c54b2 : (9223372036854775807 < 1 + t114.size) = False := eq_false (Nat.not_lt.2 c54)
            by_cases c55 : ((⟨#[40]⟩ : ByteArray) ++ t114).size + 1 ≤ 9223372036854775807
            ·rw [if_pos c55] at H
             have c55b0 := eq_true c55
             have c55b1 : decide (((⟨#[40]⟩ : ByteArray) ++ t114).size + 1 ≤ 9223372036854775807) = true := decide_eq_true c55
             try have c55b2 : (9223372036854775807 < ((⟨#[40]⟩ : ByteArray) ++ t114).size + 1) = False := eq_false (Nat.not_lt.2 c55)
             have c55n := c55
             (simp only [ByteArray.size_append', ByteArray.size_mk', ByteArray.size_extract, List.size_toArray, List.length_cons, List.length_nil] at c55n)
             obtain rfl := Option.some.inj H
             have hnb56 := NB111_113.out
             have hnc56 := NB113_111.out
             obtain ⟨hcz57_0, hcz57_1, hcz57_2, hfz57_0, hfz57_1, hfz57_2⟩ := Qv3 BK111.out
             go_wp2_with (first | ((with_reducible refine gate_callee (f := 89) rfl ?_); refine Qj (some 27) Tryd.func89 #[.int .i64 a0_0] ?_; (with_reducible refine (impl_kids.calls kj5 a0_0 t117 _ A21.out).mono ?_); rintro e w' ⟨rfl, ⟨nd, rfl⟩⟩; refine ⟨_, rfl, ?_⟩) | (go_at_call 128; (with_reducible refine (impl_isTimes.calls a0_0 false _ A27.out).mono ?_); rintro e w' ⟨rfl, ⟨nd, rfl⟩⟩) | (go_at_call 127; (with_reducible refine (impl_isSum.calls a0_0 true _ A49.out).mono ?_); rintro e w' ⟨rfl, ⟨nd, rfl⟩⟩; obtain ⟨hcz58_0, hcz58_1, hcz58_2⟩ := Qu3 BK113.out; have hfz58_0 := blk_frozen BK113.out 0; have hfz58_1 := blk_frozen BK113.out 1; have hfz58_2 := blk_frozen BK113.out 2) | (go_at_call 127; (with_reducible refine (impl_isSum.calls ((rd_T25 l0_2 a1).f0) true _ A52.out).mono ?_); rintro e w' ⟨rfl, ⟨nd, rfl⟩⟩))
             go_ret
             exact ⟨Qh, Qb HB.out⟩
            ·rw [if_neg c55] at H
             exact absurd H (by simp)
           ·rw [if_neg c54] at H
            exact absurd H (by simp)
          ·replace c53 := Bool.eq_false_iff.mpr c53
           (try subst c53)
           have H1 : (some t114) = some r := by rw [if_neg (show ¬ (false = true) by decide)] at H; exact H
           clear H
           have H := H1
           clear H1
           obtain rfl := Option.some.inj H
           have hnb59 := NB111_113.out
           have hnc59 := NB113_111.out
           obtain ⟨hcz60_0, hcz60_1, hcz60_2, hfz60_0, hfz60_1, hfz60_2⟩ := Qv3 BK111.out
           go_wp2_with (first | ((with_reducible refine gate_callee (f := 89) rfl ?_); refine Qj (some 27) Tryd.func89 #[.int .i64 a0_0] ?_; (with_reducible refine (impl_kids.calls kj5 a0_0 t117 _ A21.out).mono ?_); rintro e w' ⟨rfl, ⟨nd, rfl⟩⟩; refine ⟨_, rfl, ?_⟩) | (go_at_call 128; (with_reducible refine (impl_isTimes.calls a0_0 false _ A27.out).mono ?_); rintro e w' ⟨rfl, ⟨nd, rfl⟩⟩) | (go_at_call 127; (with_reducible refine (impl_isSum.calls a0_0 true _ A49.out).mono ?_); rintro e w' ⟨rfl, ⟨nd, rfl⟩⟩; obtain ⟨hcz61_0, hcz61_1, hcz61_2⟩ := Qu3 BK113.out; have hfz61_0 := blk_frozen BK113.out 0; have hfz61_1 := blk_frozen BK113.out 1; have hfz61_2 := blk_frozen BK113.out 2) | (go_at_call 127; (with_reducible refine (impl_isSum.calls ((rd_T25 l0_2 a1).f0) false _ A52.out).mono ?_); rintro e w' ⟨rfl, ⟨nd, rfl⟩⟩))
           go_ret
           exact ⟨Qh, Qb HB.out⟩
         ·rw [if_neg c51] at H
          have c51b0 : (a1 == 1) = false := beq_eq_false_iff_ne.mpr c51
          have c51b1 : (a1 != 1) = true := bne_iff_ne.mpr c51
          obtain rfl := Option.some.inj H
          have hnb62 := NB111_113.out
          have hnc62 := NB113_111.out
          obtain ⟨hcz63_0, hcz63_1, hcz63_2, hfz63_0, hfz63_1, hfz63_2⟩ := Qv3 BK111.out
          go_wp2_with (first | ((with_reducible refine gate_callee (f := 89) rfl ?_); refine Qj (some 27) Tryd.func89 #[.int .i64 a0_0] ?_; (with_reducible refine (impl_kids.calls kj5 a0_0 t117 _ A21.out).mono ?_); rintro e w' ⟨rfl, ⟨nd, rfl⟩⟩; refine ⟨_, rfl, ?_⟩) | (go_at_call 128; (with_reducible refine (impl_isTimes.calls a0_0 false _ A27.out).mono ?_); rintro e w' ⟨rfl, ⟨nd, rfl⟩⟩) | (go_at_call 127; (with_reducible refine (impl_isSum.calls a0_0 true _ A49.out).mono ?_); rintro e w' ⟨rfl, ⟨nd, rfl⟩⟩))
          go_ret
          exact ⟨Qh, Qb HB.out⟩
        ·replace c50 := Bool.eq_false_iff.mpr c50
         (try subst c50)
         have H1 : (some t114) = some r := by rw [if_neg (show ¬ (false = true) by decide)] at H; exact H
         clear H
         have H := H1
         clear H1
         obtain rfl := Option.some.inj H
         have hnb64 := NB111_113.out
         have hnc64 := NB113_111.out
         obtain ⟨hcz65_0, hcz65_1, hcz65_2, hfz65_0, hfz65_1, hfz65_2⟩ := Qv3 BK111.out
         go_wp2_with (first | ((with_reducible refine gate_callee (f := 89) rfl ?_); refine Qj (some 27) Tryd.func89 #[.int .i64 a0_0] ?_; (with_reducible refine (impl_kids.calls kj5 a0_0 t117 _ A21.out).mono ?_); rintro e w' ⟨rfl, ⟨nd, rfl⟩⟩; refine ⟨_, rfl, ?_⟩) | (go_at_call 128; (with_reducible refine (impl_isTimes.calls a0_0 false _ A27.out).mono ?_); rintro e w' ⟨rfl, ⟨nd, rfl⟩⟩) | (go_at_call 127; (with_reducible refine (impl_isSum.calls a0_0 false _ A49.out).mono ?_); rintro e w' ⟨rfl, ⟨nd, rfl⟩⟩))
         go_ret
         exact ⟨Qh, Qb HB.out⟩
  ·rw [if_neg c4] at H
   exact absurd H (by simp)
 ·rw [if_neg c3] at H
  exact absurd H (by simp)
def impl_exprText.T8 : Bool × List (List Nat × List Nat) := (true, [([], []), ([0], [0]), ([1], [1]), ([], []), ([3], [3]), ([4], [4]), ([], []), ([6], [6]), ([7], [7]), ([8], [8]), ([5, 9], [5, 9]), ([2, 10], [2, 10]), ([11], [11]), ([], []), ([13, 1], [13]), ([12, 14], [12, 14]), ([15, 14, 0, 1, 2, 3, 4, 5, 6, 7, 8, 9, 10, 11, 12, 13, 14, 15], [15])])
def impl_exprText.B8 : List Nat := [0, 1, 3, 0, 8, 24, 0, 64, 192, 448, 1016, 2047, 4095, 0, 8195, 32767, 65535]
theorem impl_exprText.tab8 : rtab .any (opsOf Tryd.f43 8) = impl_exprText.T8 := by kernel_rfl
theorem impl_exprText.bits8 : waitsOk impl_exprText.T8.2 impl_exprText.B8 = true := by kernel_rfl
theorem impl_exprText.step (k : Nat) (ihG_86 : ∀ m_, m_ < k → ∀ (a0_0 : Int) (a0_1 : Int) (A0_2 : Option Addr) (c0_2 : Nat) (l0_2 : List (S25)) (a1 : Int) (r : ByteArray) (w : World) (hr0_2 : Kd.C k25 w A0_2 l0_2.length l0_2) (hc0_2 : l0_2.length ≤ c0_2) (hL : Aside0 (Laid w)) (h : impl_kidText.f m_ a0_0 a0_1 l0_2 a1 = some r),
  Calls Tryd.prog 86 #[.agg #[.int .i64 a0_0, .int .i64 a0_1, .slice A0_2 l0_2.length c0_2], .int .i64 a1] w fun e w' => e = .returned (.string r) ∧ Below w.heap.size w w') (ihG_43 : ∀ m_, m_ < k → ∀ (a0_0 : Int) (a0_1 : Int) (A0_2 : Option Addr) (c0_2 : Nat) (l0_2 : List (S25)) (r : ByteArray) (w : World) (hr0_2 : Kd.C k25 w A0_2 l0_2.length l0_2) (hc0_2 : l0_2.length ≤ c0_2) (hL : Aside0 (Laid w)) (h : impl_exprText.f m_ a0_0 a0_1 l0_2 = some r),
  Calls Tryd.prog 43 #[.agg #[.int .i64 a0_0, .int .i64 a0_1, .slice A0_2 l0_2.length c0_2]] w fun e w' => e = .returned (.string r) ∧ Below w.heap.size w w') : ∀ (a0_0 : Int) (a0_1 : Int) (A0_2 : Option Addr) (c0_2 : Nat) (l0_2 : List (S25)) (r : ByteArray) (w : World) (hr0_2 : Kd.C k25 w A0_2 l0_2.length l0_2) (hc0_2 : l0_2.length ≤ c0_2) (hL : Aside0 (Laid w)) (h : impl_exprText.f k a0_0 a0_1 l0_2 = some r),
  Calls Tryd.prog 43 #[.agg #[.int .i64 a0_0, .int .i64 a0_1, .slice A0_2 l0_2.length c0_2]] w fun e w' => e = .returned (.string r) ∧ Below w.heap.size w w' := by
 intro a0_0 a0_1 A0_2 c0_2 l0_2 r w hr0_2 hc0_2 hL h
 cases k with
 | zero => exact absurd h (by simp [impl_exprText.f])
 | succ k =>
 simp only [impl_exprText.f] at h
 have hu25 := Tryd.underlying25
 have HR0_2 := Ak hr0_2
 have HC0_2 := Ak hc0_2
 clear hr0_2 hc0_2
 have HB := Ak (Below.refl w.heap.size w)
 have H : (if a0_0 = 1 then ((strconv_Itoa.f a0_1).bind fun t124 => (some t124)) else (if a0_0 = 2 then ((impl_kidText.f k a0_0 a0_1 l0_2 0).bind fun t125 => (if 1 + t125.size ≤ 9223372036854775807 then (some ((⟨#[43]⟩ : ByteArray) ++ t125)) else (none))) else (if a0_0 = 3 then ((impl_kidText.f k a0_0 a0_1 l0_2 0).bind fun t126 => (if 1 + t126.size ≤ 9223372036854775807 then (some ((⟨#[45]⟩ : ByteArray) ++ t126)) else (none))) else ((impl_kidText.f k a0_0 a0_1 l0_2 0).bind fun t127 => (if t127.size + 1 ≤ 9223372036854775807 then (if 0 ≤ (wrap64 (a0_0 - 4)) then (if (wrap64 (a0_0 - 4)) ≤ (wrap64 ((wrap64 (a0_0 - 4)) + 1)) then (if (wrap64 ((wrap64 (a0_0 - 4)) + 1)) ≤ 5 then (if (t127 ++ (⟨#[32]⟩ : ByteArray)).size + ((⟨#[43, 45, 42, 47, 37]⟩ : ByteArray).extract ((wrap64 (a0_0 - 4)) : Int).toNat ((wrap64 ((wrap64 (a0_0 - 4)) + 1)) : Int).toNat).size ≤ 9223372036854775807 then (if ((t127 ++ (⟨#[32]⟩ : ByteArray)) ++ ((⟨#[43, 45, 42, 47, 37]⟩ : ByteArray).extract ((wrap64 (a0_0 - 4)) : Int).toNat ((wrap64 ((wrap64 (a0_0 - 4)) + 1)) : Int).toNat)).size + 1 ≤ 9223372036854775807 then ((impl_kidText.f k a0_0 a0_1 l0_2 1).bind fun t128 => (if (((t127 ++ (⟨#[32]⟩ : ByteArray)) ++ ((⟨#[43, 45, 42, 47, 37]⟩ : ByteArray).extract ((wrap64 (a0_0 - 4)) : Int).toNat ((wrap64 ((wrap64 (a0_0 - 4)) + 1)) : Int).toNat)) ++ (⟨#[32]⟩ : ByteArray)).size + t128.size ≤ 9223372036854775807 then (some ((((t127 ++ (⟨#[32]⟩ : ByteArray)) ++ ((⟨#[43, 45, 42, 47, 37]⟩ : ByteArray).extract ((wrap64 (a0_0 - 4)) : Int).toNat ((wrap64 ((wrap64 (a0_0 - 4)) + 1)) : Int).toNat)) ++ (⟨#[32]⟩ : ByteArray)) ++ t128)) else (none))) else (none)) else (none)) else (none)) else (none)) else (none)) else (none)))))) = some r := h
 clear h
 by_cases c2 : a0_0 = 1
 ·rw [if_pos c2] at H
  have c2b0 : (a0_0 == 1) = true := beq_iff_eq.mpr c2
  have c2b1 : (a0_0 != 1) = false := bne_eq_false_iff_eq.mpr c2
  clear c2
  replace H := Option.bind_eq_some_iff.mp H
  obtain ⟨t124, A30, H⟩ := H
  replace H : (some t124) = some r := H
  have A3 := Ak A30
  clear A30
  obtain rfl := Option.some.inj H
  go_enter Tryd.func43, Tryd.ntmps43
  go_wp2_with (first | ((with_reducible refine gate_dst (N := 1) rfl ?_); refine Qk 1 #[.int .i64 a0_0, .int .i64 a0_1, .slice A0_2 l0_2.length c0_2] 25 ?_; intro gb123 hg w4 hbox hb; have n0_ := Ak (below_step (Qb HB.out) hb); have n1_ := Ak (hbox); have n2_ := Ak ((Qp hg HB.out : w.heap.size ≤ gb123)); have n3_ := Ak ((Qp hg HB.out : w.heap.size ≤ gb123)); clear HB; have HB := n0_; have BK123 := n1_; have GW123 := n2_; have GE123 := n3_; clear n0_ n1_ n2_ n3_; clear hb hbox hg; obtain ⟨hcz5_0, hcz5_1, hcz5_2⟩ := Qu3 BK123.out; have hfz5_0 := blk_frozen BK123.out 0; have hfz5_1 := blk_frozen BK123.out 1; have hfz5_2 := blk_frozen BK123.out 2) | ((with_reducible refine gate_callee (f := 65) rfl ?_); refine Qj (some 9) Tryd.func65 #[.int .i64 a0_1] ?_; (with_reducible refine (strconv_Itoa.calls a0_1 t124 _ ?side1 A3.out).mono ?_); (case side1 => exact ⟨hL.out.on (Qb HB.out)⟩); rintro e w6 ⟨rfl, hb⟩; refine ⟨_, rfl, ?_⟩; have n0_ := Ak (Qm BK123.out hb); have n1_ := Ak (below_step (Qb HB.out) hb); clear BK123 HB; have BK123 := n0_; have HB := n1_; clear n0_ n1_; (try clear hb); (try clear hb2); (try clear hk); (try clear hi)))
  go_ret
  exact ⟨Qh, Qb HB.out⟩
 ·rw [if_neg c2] at H
  have c2b0 : (a0_0 == 1) = false := beq_eq_false_iff_ne.mpr c2
  have c2b1 : (a0_0 != 1) = true := bne_iff_ne.mpr c2
  by_cases c7 : a0_0 = 2
  ·rw [if_pos c7] at H
   have c7b0 : (a0_0 == 2) = true := beq_iff_eq.mpr c7
   have c7b1 : (a0_0 != 2) = false := bne_eq_false_iff_eq.mpr c7
   clear c7
   replace H := Option.bind_eq_some_iff.mp H
   obtain ⟨t125, A80, H⟩ := H
   replace H : (if 1 + t125.size ≤ 9223372036854775807 then (some ((⟨#[43]⟩ : ByteArray) ++ t125)) else (none)) = some r := H
   have A8 := Ak A80
   clear A80
   by_cases c9 : 1 + t125.size ≤ 9223372036854775807
   ·rw [if_pos c9] at H
    have c9b0 := eq_true c9
    have c9b1 : decide (1 + t125.size ≤ 9223372036854775807) = true := decide_eq_true c9
    try have c9b2 : (9223372036854775807 < 1 + t125.size) = False := eq_false (Nat.not_lt.2 c9)
    obtain rfl := Option.some.inj H
    go_enter Tryd.func43, Tryd.ntmps43
    go_wp2_with (first | ((with_reducible refine gate_dst (N := 1) rfl ?_); refine Qk 1 #[.int .i64 a0_0, .int .i64 a0_1, .slice A0_2 l0_2.length c0_2] 25 ?_; intro gb123 hg w10 hbox hb; have n0_ := Ak (below_step (Qb HB.out) hb); have n1_ := Ak (hbox); have n2_ := Ak ((Qp hg HB.out : w.heap.size ≤ gb123)); have n3_ := Ak ((Qp hg HB.out : w.heap.size ≤ gb123)); clear HB; have HB := n0_; have BK123 := n1_; have GW123 := n2_; have GE123 := n3_; clear n0_ n1_ n2_ n3_; clear hb hbox hg; obtain ⟨hcz11_0, hcz11_1, hcz11_2⟩ := Qu3 BK123.out; have hfz11_0 := blk_frozen BK123.out 0; have hfz11_1 := blk_frozen BK123.out 1; have hfz11_2 := blk_frozen BK123.out 2) | ((with_reducible refine gate_callee (f := 86) rfl ?_); refine Qj (some 13) Tryd.func86 #[.agg #[.int .i64 a0_0, .int .i64 a0_1, .slice A0_2 l0_2.length c0_2], .int .i64 0] ?_; (with_reducible refine (ihG_86 k (by omega) a0_0 a0_1 _ _ l0_2 0 t125 _ ?side1 ?side2 ?side3 A8.out).mono ?_); (case side1 => repeat (first | exact (Kd.C_below HR0_2.out HB.out) | (with_reducible refine Kd.C_alloc ?_ _) | (with_reducible refine Kd.C_drewN ?_ _) | (with_reducible refine Kd.C_drew ?_))); (case side2 => exact HC0_2.out); (case side3 => exact ⟨hL.out.on (Qb HB.out)⟩); rintro e w12 ⟨rfl, hb⟩; refine ⟨_, rfl, ?_⟩; have n0_ := Ak (Qm BK123.out hb); have n1_ := Ak (below_step (Qb HB.out) hb); clear BK123 HB; have BK123 := n0_; have HB := n1_; clear n0_ n1_; (try clear hb); (try clear hb2); (try clear hk); (try clear hi)))
    go_ret
    exact ⟨Qh, Qb HB.out⟩
   ·rw [if_neg c9] at H
    exact absurd H (by simp)
  ·rw [if_neg c7] at H
   have c7b0 : (a0_0 == 2) = false := beq_eq_false_iff_ne.mpr c7
   have c7b1 : (a0_0 != 2) = true := bne_iff_ne.mpr c7
   by_cases c13 : a0_0 = 3
   ·rw [if_pos c13] at H
    have c13b0 : (a0_0 == 3) = true := beq_iff_eq.mpr c13
    have c13b1 : (a0_0 != 3) = false := bne_eq_false_iff_eq.mpr c13
    clear c13
    replace H := Option.bind_eq_some_iff.mp H
    obtain ⟨t126, A140, H⟩ := H
    replace H : (if 1 + t126.size ≤ 9223372036854775807 then (some ((⟨#[45]⟩ : ByteArray) ++ t126)) else (none)) = some r := H
    have A14 := Ak A140
    clear A140
    by_cases c15 : 1 + t126.size ≤ 9223372036854775807
    ·rw [if_pos c15] at H
     have c15b0 := eq_true c15
     have c15b1 : decide (1 + t126.size ≤ 9223372036854775807) = true := decide_eq_true c15
     try have c15b2 : (9223372036854775807 < 1 + t126.size) = False := eq_false (Nat.not_lt.2 c15)
     obtain rfl := Option.some.inj H
     go_enter Tryd.func43, Tryd.ntmps43
     go_wp2_with (first | ((with_reducible refine gate_dst (N := 1) rfl ?_); refine Qk 1 #[.int .i64 a0_0, .int .i64 a0_1, .slice A0_2 l0_2.length c0_2] 25 ?_; intro gb123 hg w16 hbox hb; have n0_ := Ak (below_step (Qb HB.out) hb); have n1_ := Ak (hbox); have n2_ := Ak ((Qp hg HB.out : w.heap.size ≤ gb123)); have n3_ := Ak ((Qp hg HB.out : w.heap.size ≤ gb123)); clear HB; have HB := n0_; have BK123 := n1_; have GW123 := n2_; have GE123 := n3_; clear n0_ n1_ n2_ n3_; clear hb hbox hg; obtain ⟨hcz17_0, hcz17_1, hcz17_2⟩ := Qu3 BK123.out; have hfz17_0 := blk_frozen BK123.out 0; have hfz17_1 := blk_frozen BK123.out 1; have hfz17_2 := blk_frozen BK123.out 2) | ((with_reducible refine gate_callee (f := 86) rfl ?_); refine Qj (some 18) Tryd.func86 #[.agg #[.int .i64 a0_0, .int .i64 a0_1, .slice A0_2 l0_2.length c0_2], .int .i64 0] ?_; (with_reducible refine (ihG_86 k (by omega) a0_0 a0_1 _ _ l0_2 0 t126 _ ?side1 ?side2 ?side3 A14.out).mono ?_); (case side1 => repeat (first | exact (Kd.C_below HR0_2.out HB.out) | (with_reducible refine Kd.C_alloc ?_ _) | (with_reducible refine Kd.C_drewN ?_ _) | (with_reducible refine Kd.C_drew ?_))); (case side2 => exact HC0_2.out); (case side3 => exact ⟨hL.out.on (Qb HB.out)⟩); rintro e w18 ⟨rfl, hb⟩; refine ⟨_, rfl, ?_⟩; have n0_ := Ak (Qm BK123.out hb); have n1_ := Ak (below_step (Qb HB.out) hb); clear BK123 HB; have BK123 := n0_; have HB := n1_; clear n0_ n1_; (try clear hb); (try clear hb2); (try clear hk); (try clear hi)))
     go_ret
     exact ⟨Qh, Qb HB.out⟩
    ·rw [if_neg c15] at H
     exact absurd H (by simp)
   ·rw [if_neg c13] at H
    have c13b0 : (a0_0 == 3) = false := beq_eq_false_iff_ne.mpr c13
    have c13b1 : (a0_0 != 3) = true := bne_iff_ne.mpr c13
    replace H := Option.bind_eq_some_iff.mp H
    obtain ⟨t127, A190, H⟩ := H
    replace H : (if t127.size + 1 ≤ 9223372036854775807 then (if 0 ≤ (wrap64 (a0_0 - 4)) then (if (wrap64 (a0_0 - 4)) ≤ (wrap64 ((wrap64 (a0_0 - 4)) + 1)) then (if (wrap64 ((wrap64 (a0_0 - 4)) + 1)) ≤ 5 then (if (t127 ++ (⟨#[32]⟩ : ByteArray)).size + ((⟨#[43, 45, 42, 47, 37]⟩ : ByteArray).extract ((wrap64 (a0_0 - 4)) : Int).toNat ((wrap64 ((wrap64 (a0_0 - 4)) + 1)) : Int).toNat).size ≤ 9223372036854775807 then (if ((t127 ++ (⟨#[32]⟩ : ByteArray)) ++ ((⟨#[43, 45, 42, 47, 37]⟩ : ByteArray).extract ((wrap64 (a0_0 - 4)) : Int).toNat ((wrap64 ((wrap64 (a0_0 - 4)) + 1)) : Int).toNat)).size + 1 ≤ 9223372036854775807 then ((impl_kidText.f k a0_0 a0_1 l0_2 1).bind fun t128 => (if (((t127 ++ (⟨#[32]⟩ : ByteArray)) ++ ((⟨#[43, 45, 42, 47, 37]⟩ : ByteArray).extract ((wrap64 (a0_0 - 4)) : Int).toNat ((wrap64 ((wrap64 (a0_0 - 4)) + 1)) : Int).toNat)) ++ (⟨#[32]⟩ : ByteArray)).size + t128.size ≤ 9223372036854775807 then (some ((((t127 ++ (⟨#[32]⟩ : ByteArray)) ++ ((⟨#[43, 45, 42, 47, 37]⟩ : ByteArray).extract ((wrap64 (a0_0 - 4)) : Int).toNat ((wrap64 ((wrap64 (a0_0 - 4)) + 1)) : Int).toNat)) ++ (⟨#[32]⟩ : ByteArray)) ++ t128)) else (none))) else (none)) else (none)) else (none)) else (none)) else (none)) else (none)) = some r := H
    have A19 := Ak A190
    clear A190
    by_cases c20 : t127.size + 1 ≤ 9223372036854775807
    ·rw [if_pos c20] at H
     have c20b0 := eq_true c20
     have c20b1 : decide (t127.size + 1 ≤ 9223372036854775807) = true := decide_eq_true c20
     try have c20b2 : (9223372036854775807 < t127.size + 1) = False := eq_false (Nat.not_lt.2 c20)
     obtain ⟨ji21, hji21⟩ : ∃ j_ : Int, (wrap64 (a0_0 - 4)) = j_ := ⟨_, rfl⟩
     replace H : (if 0 ≤ (ji21) then (if (ji21) ≤ (wrap64 ((ji21) + 1)) then (if (wrap64 ((ji21) + 1)) ≤ 5 then (if (t127 ++ (⟨#[32]⟩ : ByteArray)).size + ((⟨#[43, 45, 42, 47, 37]⟩ : ByteArray).extract ((ji21) : Int).toNat ((wrap64 ((ji21) + 1)) : Int).toNat).size ≤ 9223372036854775807 then (if ((t127 ++ (⟨#[32]⟩ : ByteArray)) ++ ((⟨#[43, 45, 42, 47, 37]⟩ : ByteArray).extract ((ji21) : Int).toNat ((wrap64 ((ji21) + 1)) : Int).toNat)).size + 1 ≤ 9223372036854775807 then ((impl_kidText.f k a0_0 a0_1 l0_2 1).bind fun t128 => (if (((t127 ++ (⟨#[32]⟩ : ByteArray)) ++ ((⟨#[43, 45, 42, 47, 37]⟩ : ByteArray).extract ((ji21) : Int).toNat ((wrap64 ((ji21) + 1)) : Int).toNat)) ++ (⟨#[32]⟩ : ByteArray)).size + t128.size ≤ 9223372036854775807 then (some ((((t127 ++ (⟨#[32]⟩ : ByteArray)) ++ ((⟨#[43, 45, 42, 47, 37]⟩ : ByteArray).extract ((ji21) : Int).toNat ((wrap64 ((ji21) + 1)) : Int).toNat)) ++ (⟨#[32]⟩ : ByteArray)) ++ t128)) else (none))) else (none)) else (none)) else (none)) else (none)) else (none)) = some r := by first | (rw [hji21] at H; exact H) | (simp only [hji21] at H ⊢; exact H)
     (try rw [hji21] at A19)
     have hji21w : (IntKind.i64.wrap (a0_0 - 4)) = ji21 := (i64_w _).trans hji21
     by_cases c22 : 0 ≤ (ji21)
     ·rw [if_pos c22] at H
      have c22b0 := eq_true c22
      have c22b1 : decide (0 ≤ (ji21)) = true := decide_eq_true c22
      clear c22
      by_cases c23 : (ji21) ≤ (wrap64 ((ji21) + 1))
      ·rw [if_pos c23] at H
       have c23b0 := eq_true c23
       have c23b1 : decide ((ji21) ≤ (wrap64 ((ji21) + 1))) = true := decide_eq_true c23
       by_cases c24 : (wrap64 ((ji21) + 1)) ≤ 5
       ·rw [if_pos c24] at H
        have c24b0 := eq_true c24
        have c24b1 : decide ((wrap64 ((ji21) + 1)) ≤ 5) = true := decide_eq_true c24
        by_cases c25 : (t127 ++ (⟨#[32]⟩ : ByteArray)).size + ((⟨#[43, 45, 42, 47, 37]⟩ : ByteArray).extract ((ji21) : Int).toNat ((wrap64 ((ji21) + 1)) : Int).toNat).size ≤ 9223372036854775807
        ·rw [if_pos c25] at H
         have c25b0 := eq_true c25
         have c25b1 : decide ((t127 ++ (⟨#[32]⟩ : ByteArray)).size + ((⟨#[43, 45, 42, 47, 37]⟩ : ByteArray).extract ((ji21) : Int).toNat ((wrap64 ((ji21) + 1)) : Int).toNat).size ≤ 9223372036854775807) = true := decide_eq_true c25
         try have c25b2 : (9223372036854775807 < (t127 ++ (⟨#[32]⟩ : ByteArray)).size + ((⟨#[43, 45, 42, 47, 37]⟩ : ByteArray).extract ((ji21) : Int).toNat ((wrap64 ((ji21) + 1)) : Int).toNat).size) = False := eq_false (Nat.not_lt.2 c25)
         have c25n := c25
         (simp only [ByteArray.size_append', ByteArray.size_mk', ByteArray.size_extract, List.size_toArray, List.length_cons, List.length_nil] at c25n)
         by_cases c26 : ((t127 ++ (⟨#[32]⟩ : ByteArray)) ++ ((⟨#[43, 45, 42, 47, 37]⟩ : ByteArray).extract ((ji21) : Int).toNat ((wrap64 ((ji21) + 1)) : Int).toNat)).size + 1 ≤ 9223372036854775807
         ·rw [if_pos c26] at H
          have c26b0 := eq_true c26
          have c26b1 : decide (((t127 ++ (⟨#[32]⟩ : ByteArray)) ++ ((⟨#[43, 45, 42, 47, 37]⟩ : ByteArray).extract ((ji21) : Int).toNat ((wrap64 ((ji21) + 1)) : Int).toNat)).size + 1 ≤ 9223372036854775807) = true := decide_eq_true c26
          try have c26b2 : (9223372036854775807 < ((t127 ++ (⟨#[32]⟩ : ByteArray)) ++ ((⟨#[43, 45, 42, 47, 37]⟩ : ByteArray).extract ((ji21) : Int).toNat ((wrap64 ((ji21) + 1)) : Int).toNat)).size + 1) = False := eq_false (Nat.not_lt.2 c26)
          have c26n := c26
          (simp only [ByteArray.size_append', ByteArray.size_mk', ByteArray.size_extract, List.size_toArray, List.length_cons, List.length_nil] at c26n)
          replace H := Option.bind_eq_some_iff.mp H
          obtain ⟨t128, A270, H⟩ := H
          replace H : (if (((t127 ++ (⟨#[32]⟩ : ByteArray)) ++ ((⟨#[43, 45, 42, 47, 37]⟩ : ByteArray).extract ((ji21) : Int).toNat ((wrap64 ((ji21) + 1)) : Int).toNat)) ++ (⟨#[32]⟩ : ByteArray)).size + t128.size ≤ 9223372036854775807 then (some ((((t127 ++ (⟨#[32]⟩ : ByteArray)) ++ ((⟨#[43, 45, 42, 47, 37]⟩ : ByteArray).extract ((ji21) : Int).toNat ((wrap64 ((ji21) + 1)) : Int).toNat)) ++ (⟨#[32]⟩ : ByteArray)) ++ t128)) else (none)) = some r := H
          have A27 := Ak A270
          clear A270
          by_cases c28 : (((t127 ++ (⟨#[32]⟩ : ByteArray)) ++ ((⟨#[43, 45, 42, 47, 37]⟩ : ByteArray).extract ((ji21) : Int).toNat ((wrap64 ((ji21) + 1)) : Int).toNat)) ++ (⟨#[32]⟩ : ByteArray)).size + t128.size ≤ 9223372036854775807
          ·rw [if_pos c28] at H
           have c28b0 := eq_true c28
           have c28b1 : decide ((((t127 ++ (⟨#[32]⟩ : ByteArray)) ++ ((⟨#[43, 45, 42, 47, 37]⟩ : ByteArray).extract ((ji21) : Int).toNat ((wrap64 ((ji21) + 1)) : Int).toNat)) ++ (⟨#[32]⟩ : ByteArray)).size + t128.size ≤ 9223372036854775807) = true := decide_eq_true c28
           try have c28b2 : (9223372036854775807 < (((t127 ++ (⟨#[32]⟩ : ByteArray)) ++ ((⟨#[43, 45, 42, 47, 37]⟩ : ByteArray).extract ((ji21) : Int).toNat ((wrap64 ((ji21) + 1)) : Int).toNat)) ++ (⟨#[32]⟩ : ByteArray)).size + t128.size) = False := eq_false (Nat.not_lt.2 c28)
           have c28n := c28
           (simp only [ByteArray.size_append', ByteArray.size_mk', ByteArray.size_extract, List.size_toArray, List.length_cons, List.length_nil] at c28n)
           obtain rfl := Option.some.inj H
           go_enter Tryd.func43, Tryd.ntmps43
           try go_wp2_with (first | ((with_reducible refine gate_dst (N := 1) rfl ?_); refine Qk 1 #[.int .i64 a0_0, .int .i64 a0_1, .slice A0_2 l0_2.length c0_2] 25 ?_; intro gb123 hg w29 hbox hb; have n0_ := Ak (below_step (Qb HB.out) hb); have n1_ := Ak (hbox); have n2_ := Ak ((Qp hg HB.out : w.heap.size ≤ gb123)); have n3_ := Ak ((Qp hg HB.out : w.heap.size ≤ gb123)); clear HB; have HB := n0_; have BK123 := n1_; have GW123 := n2_; have GE123 := n3_; clear n0_ n1_ n2_ n3_; clear hb hbox hg; obtain ⟨hcz30_0, hcz30_1, hcz30_2⟩ := Qu3 BK123.out; have hfz30_0 := blk_frozen BK123.out 0; have hfz30_1 := blk_frozen BK123.out 1; have hfz30_2 := blk_frozen BK123.out 2))
           have n0_ := Ak (blk_drew BK123.out)
           have n1_ := Ak (below_drew1 HB.out)
           clear BK123 HB
           have BK123 := n0_
           have HB := n1_
           clear n0_ n1_
           refine start_ (n := 17) (S := fun w' => w'.cell? ⟨gb123, 0, none⟩ = some (.int .i64 a0_0) ∧ w'.cell? ⟨gb123, 1, none⟩ = some (.int .i64 a0_1) ∧ w'.cell? ⟨gb123, 2, none⟩ = some (.slice A0_2 l0_2.length c0_2)) (ds := []) #[false, false, false, false, false, false, false, false, false, false, false, false, false, false, false, false, false] (by kernel_rfl) rfl rfl ⟨(blk_cell BK123.out 0).trans rfl, (blk_cell BK123.out 1).trans rfl, (blk_cell BK123.out 2).trans rfl⟩ (fun hHeld => ?_); refine with_tabW impl_exprText.tab8 impl_exprText.bits8 (fun HT_ HW_ => ?_)
           generalize w29.drew = w31 at BK123 HB hHeld ⊢
           refine pure_ (i := 3) (N := some 23) (v := ?_) (a' := ?_) #[false, false, false, true, false, false, false, false, false, false, false, false, false, false, false, false, false] rfl rfl (any_of HT_.out (by kernel_rfl)) (fun _ _ _ h => h) (Or.inl ⟨by rfl, ?_⟩) ?_ ?_
           rotate_left
           ·intro w'
            first | (go_simp; with_reducible rfl) | (go_simp; refine (if_neg (by omega)).trans ?_; with_reducible rfl)
           rotate_left
           ·simp only [Act.put, List.setIfInBounds_toArray, List.set_cons_zero, List.set_cons_succ, i64_w, i32_w]
            rfl
           refine pure_ (i := 6) (N := some 26) (v := ?_) (a' := ?_) #[false, false, false, true, false, false, true, false, false, false, false, false, false, false, false, false, false] rfl rfl (any_of HT_.out (by kernel_rfl)) (fun _ _ _ h => h) (Or.inl ⟨by rfl, ?_⟩) ?_ ?_
           rotate_left
           ·intro w'
            first | (go_simp; with_reducible rfl) | (go_simp; refine (if_neg (by omega)).trans ?_; with_reducible rfl)
           rotate_left
           ·simp only [Act.put, List.setIfInBounds_toArray, List.set_cons_zero, List.set_cons_succ, i64_w, i32_w]
            rfl
           refine take_ (i := 0) (N := some 20) (v := ?_) (a' := ?_) #[true, false, false, true, false, false, true, false, false, false, false, false, false, false, false, false, false] rfl rfl (take_ofW HT_.out HW_.out (by kernel_rfl)) (fun _ _ _ h => h) (Or.inl ⟨by rfl, ?_⟩) hHeld ?_ ?_
           rotate_left
           ·rintro w' ⟨s0, s1, s2⟩
            first | (go_simp; with_reducible rfl) | (go_simp; refine (if_neg (by omega)).trans ?_; with_reducible rfl)
           rotate_left
           ·simp only [Act.put, List.setIfInBounds_toArray, List.set_cons_zero, List.set_cons_succ, i64_w, i32_w]
            rfl
           refine take_ (i := 4) (N := some 24) (v := ?_) (a' := ?_) #[true, false, false, true, true, false, true, false, false, false, false, false, false, false, false, false, false] rfl rfl (take_ofW HT_.out HW_.out (by kernel_rfl)) (fun _ _ _ h => h) (Or.inl ⟨by rfl, ?_⟩) hHeld ?_ ?_
           rotate_left
           ·rintro w' ⟨s0, s1, s2⟩
            first | (go_simp; with_reducible rfl) | (go_simp; refine (if_neg (by omega)).trans ?_; with_reducible rfl)
           rotate_left
           ·simp only [Act.put, List.setIfInBounds_toArray, List.set_cons_zero, List.set_cons_succ, i64_w, i32_w]
            rfl
           refine pure_ (i := 5) (N := some 25) (v := ?_) (a' := ?_) #[true, false, false, true, true, true, true, false, false, false, false, false, false, false, false, false, false] rfl rfl (any_of HT_.out (by kernel_rfl)) (fun _ _ _ h => h) (Or.inl ⟨by rfl, ?_⟩) ?_ ?_
           rotate_left
           ·intro w'
            first | (go_simp; with_reducible rfl) | (go_simp; refine (if_neg (by omega)).trans ?_; with_reducible rfl)
           rotate_left
           ·simp only [Act.put, List.setIfInBounds_toArray, List.set_cons_zero, List.set_cons_succ, i64_w, i32_w]
            rfl
           refine take_ (i := 7) (N := some 27) (v := ?_) (a' := ?_) #[true, false, false, true, true, true, true, true, false, false, false, false, false, false, false, false, false] rfl rfl (take_ofW HT_.out HW_.out (by kernel_rfl)) (fun _ _ _ h => h) (Or.inl ⟨by rfl, ?_⟩) hHeld ?_ ?_
           rotate_left
           ·rintro w' ⟨s0, s1, s2⟩
            first | (go_simp; with_reducible rfl) | (go_simp; refine (if_neg (by omega)).trans ?_; with_reducible rfl)
           rotate_left
           ·simp only [Act.put, List.setIfInBounds_toArray, List.set_cons_zero, List.set_cons_succ, i64_w, i32_w]
            rfl
           refine pure_ (i := 8) (N := some 28) (v := ?_) (a' := ?_) #[true, false, false, true, true, true, true, true, true, false, false, false, false, false, false, false, false] rfl rfl (any_of HT_.out (by kernel_rfl)) (fun _ _ _ h => h) (Or.inl ⟨by rfl, ?_⟩) ?_ ?_
           rotate_left
           ·intro w'
            first | (go_simp; with_reducible rfl) | (go_simp; refine (if_neg (by omega)).trans ?_; with_reducible rfl)
           rotate_left
           ·simp only [Act.put, List.setIfInBounds_toArray, List.set_cons_zero, List.set_cons_succ, i64_w, i32_w]
            rfl
           refine pure_ (i := 9) (N := some 29) (v := ?_) (a' := ?_) #[true, false, false, true, true, true, true, true, true, true, false, false, false, false, false, false, false] rfl rfl (any_of HT_.out (by kernel_rfl)) (fun _ _ _ h => h) (Or.inl ⟨by rfl, ?_⟩) ?_ ?_
           rotate_left
           ·intro w'
            first | (go_simp; with_reducible rfl) | (go_simp; refine (if_neg (by omega)).trans ?_; with_reducible rfl)
           rotate_left
           ·simp only [Act.put, List.setIfInBounds_toArray, List.set_cons_zero, List.set_cons_succ, i64_w, i32_w]
            rfl
           refine pure_ (i := 10) (N := some 30) (v := ?_) (a' := ?_) #[true, false, false, true, true, true, true, true, true, true, true, false, false, false, false, false, false] rfl rfl (any_of HT_.out (by kernel_rfl)) (fun _ _ _ h => h) (Or.inl ⟨by rfl, ?_⟩) ?_ ?_
           rotate_left
           ·intro w'
            first | (go_simp; with_reducible rfl) | (go_simp; refine (if_neg (by omega)).trans ?_; with_reducible rfl)
           rotate_left
           ·simp only [Act.put, List.setIfInBounds_toArray, List.set_cons_zero, List.set_cons_succ, i64_w, i32_w]
            rfl
           refine take_ (i := 13) (N := some 33) (v := ?_) (a' := ?_) #[true, false, false, true, true, true, true, true, true, true, true, false, false, true, false, false, false] rfl rfl (take_ofW HT_.out HW_.out (by kernel_rfl)) (fun _ _ _ h => h) (Or.inl ⟨by rfl, ?_⟩) hHeld ?_ ?_
           rotate_left
           ·rintro w' ⟨s0, s1, s2⟩
            first | (go_simp; with_reducible rfl) | (go_simp; refine (if_neg (by omega)).trans ?_; with_reducible rfl)
           rotate_left
           ·simp only [Act.put, List.setIfInBounds_toArray, List.set_cons_zero, List.set_cons_succ, i64_w, i32_w]
            rfl
           refine Qs 1 (some 21) (fun K hK => ?_)
           refine goes_ Tryd.func86 (by kernel_rfl) rfl #[.agg #[.int .i64 a0_0, .int .i64 a0_1, .slice A0_2 l0_2.length c0_2], .int .i64 0] (by rfl) rfl rfl (by (try simp only [List.map_toArray, List.map_cons, List.map_nil]); first | done | rfl | (simp only [List.length_drop, List.length_take]; rfl)) ?_
           with_reducible refine (ihG_86 k (by omega) a0_0 a0_1 _ _ l0_2 0 t127 _ ?side1 ?side2 ?side3 A19.out).mono ?_
           (case side1 => repeat (first | exact (Kd.C_below HR0_2.out HB.out) | (with_reducible refine Kd.C_alloc ?_ _) | (with_reducible refine Kd.C_drewN ?_ _) | (with_reducible refine Kd.C_drew ?_)))
           (case side2 => exact HC0_2.out)
           (case side3 => exact ⟨hL.out.on (Qb HB.out)⟩)
           rintro e w32 ⟨rfl, hb⟩
           refine ⟨_, rfl, ?_⟩
           have n0_ := Ak (Qm BK123.out hb)
           have n1_ := Ak (below_step (Qb HB.out) hb)
           clear BK123 HB
           have BK123 := n0_
           have HB := n1_
           clear n0_ n1_
           (try clear hb); (try clear hb2); (try clear hk); (try clear hi)
           refine hK.out _ _ ⟨(blk_cell BK123.out 0).trans rfl, (blk_cell BK123.out 1).trans rfl, (blk_cell BK123.out 2).trans rfl⟩ (fun hHeld => ?_)
           clear hK K
           refine norm_ (a' := ?_) ?_ ?_
           rotate_left
           ·show Act.put _ (some 21) _ = _
            simp only [Act.put, List.setIfInBounds_toArray, List.set_cons_zero, List.set_cons_succ, i64_w, i32_w]
            rfl
           refine pure_ (i := 2) (N := some 22) (v := ?_) (a' := ?_) #[true, true, true, true, true, true, true, true, true, true, true, false, false, true, false, false, false] rfl rfl (any_of HT_.out (by kernel_rfl)) (fun _ _ _ h => h) (Or.inl ⟨by rfl, ?_⟩) ?_ ?_
           rotate_left
           ·intro w'
            first | (go_simp; with_reducible rfl) | (go_simp; refine (if_neg (by omega)).trans ?_; with_reducible rfl)
           rotate_left
           ·simp only [Act.put, List.setIfInBounds_toArray, List.set_cons_zero, List.set_cons_succ, i64_w, i32_w]
            rfl
           refine pure_ (i := 11) (N := some 31) (v := ?_) (a' := ?_) #[true, true, true, true, true, true, true, true, true, true, true, true, false, true, false, false, false] rfl rfl (any_of HT_.out (by kernel_rfl)) (fun _ _ _ h => h) (Or.inl ⟨by rfl, ?_⟩) ?_ ?_
           rotate_left
           ·intro w'
            first | (go_simp; with_reducible rfl) | (go_simp; refine (if_neg (by omega)).trans ?_; with_reducible rfl)
           rotate_left
           ·simp only [Act.put, List.setIfInBounds_toArray, List.set_cons_zero, List.set_cons_succ, i64_w, i32_w]
            rfl
           refine pure_ (i := 12) (N := some 32) (v := ?_) (a' := ?_) #[true, true, true, true, true, true, true, true, true, true, true, true, true, true, false, false, false] rfl rfl (any_of HT_.out (by kernel_rfl)) (fun _ _ _ h => h) (Or.inl ⟨by rfl, ?_⟩) ?_ ?_
           rotate_left
           ·intro w'
            first | (go_simp; with_reducible rfl) | (go_simp; refine (if_neg (by omega)).trans ?_; with_reducible rfl)
           rotate_left
           ·simp only [Act.put, List.setIfInBounds_toArray, List.set_cons_zero, List.set_cons_succ, i64_w, i32_w]
            rfl
           refine Qs 14 (some 34) (fun K hK => ?_)
           refine goes_ Tryd.func86 (by kernel_rfl) rfl #[.agg #[.int .i64 a0_0, .int .i64 a0_1, .slice A0_2 l0_2.length c0_2], .int .i64 1] (by rfl) rfl rfl (by (try simp only [List.map_toArray, List.map_cons, List.map_nil]); first | done | rfl | (simp only [List.length_drop, List.length_take]; rfl)) ?_
           with_reducible refine (ihG_86 k (by omega) a0_0 a0_1 _ _ l0_2 1 t128 _ ?side1 ?side2 ?side3 A27.out).mono ?_
           (case side1 => repeat (first | exact (Kd.C_below HR0_2.out HB.out) | (with_reducible refine Kd.C_alloc ?_ _) | (with_reducible refine Kd.C_drewN ?_ _) | (with_reducible refine Kd.C_drew ?_)))
           (case side2 => exact HC0_2.out)
           (case side3 => exact ⟨hL.out.on (Qb HB.out)⟩)
           rintro e w33 ⟨rfl, hb⟩
           refine ⟨_, rfl, ?_⟩
           have n0_ := Ak (Qm BK123.out hb)
           have n1_ := Ak (below_step (Qb HB.out) hb)
           clear BK123 HB
           have BK123 := n0_
           have HB := n1_
           clear n0_ n1_
           (try clear hb); (try clear hb2); (try clear hk); (try clear hi)
           refine hK.out _ _ ⟨(blk_cell BK123.out 0).trans rfl, (blk_cell BK123.out 1).trans rfl, (blk_cell BK123.out 2).trans rfl⟩ (fun hHeld => ?_)
           clear hK K
           refine norm_ (a' := ?_) ?_ ?_
           rotate_left
           ·show Act.put _ (some 34) _ = _
            simp only [Act.put, List.setIfInBounds_toArray, List.set_cons_zero, List.set_cons_succ, i64_w, i32_w]
            rfl
           refine pure_ (i := 15) (N := some 35) (v := ?_) (a' := ?_) #[true, true, true, true, true, true, true, true, true, true, true, true, true, true, true, true, false] rfl rfl (any_of HT_.out (by kernel_rfl)) (fun _ _ _ h => h) (Or.inl ⟨by rfl, ?_⟩) ?_ ?_
           rotate_left
           ·intro w'
            first | (go_simp; with_reducible rfl) | (go_simp; refine (if_neg (by omega)).trans ?_; with_reducible rfl)
           rotate_left
           ·simp only [Act.put, List.setIfInBounds_toArray, List.set_cons_zero, List.set_cons_succ, i64_w, i32_w]
            rfl
           refine pure_ (i := 16) (N := some 2) (v := ?_) (a' := ?_) #[true, true, true, true, true, true, true, true, true, true, true, true, true, true, true, true, true] rfl rfl (any_of HT_.out (by kernel_rfl)) (fun _ _ _ h => h) (Or.inl ⟨by rfl, ?_⟩) ?_ ?_
           rotate_left
           ·intro w'
            first | (go_simp; with_reducible rfl) | (go_simp; refine (if_neg (by omega)).trans ?_; with_reducible rfl)
           rotate_left
           ·simp only [Act.put, List.setIfInBounds_toArray, List.set_cons_zero, List.set_cons_succ, i64_w, i32_w]
            rfl
           refine done_ (done_of HT_.out (by kernel_rfl)) ?_
           try go_wp2
           go_ret
           exact ⟨by first | rfl | (simp [errW_none, errW_some] <;> rfl) | (simp only [← hji21]; first | rfl | (simp [errW_none, errW_some] <;> rfl)) | (simp [*, errW_none, errW_some] <;> rfl), Qb HB.out⟩
          ·rw [if_neg c28] at H
           exact absurd H (by simp)
         ·rw [if_neg c26] at H
          exact absurd H (by simp)
        ·rw [if_neg c25] at H
         exact absurd H (by simp)
       ·rw [if_neg c24] at H
        exact absurd H (by simp)
      ·rw [if_neg c23] at H
       exact absurd H (by simp)
     ·rw [if_neg c22] at H
      exact absurd H (by simp)
    ·rw [if_neg c20] at H
     exact absurd H (by simp)
theorem impl_kidText.calls_g (k : Nat) : (∀ (a0_0 : Int) (a0_1 : Int) (A0_2 : Option Addr) (c0_2 : Nat) (l0_2 : List (S25)) (a1 : Int) (r : ByteArray) (w : World) (hr0_2 : Kd.C k25 w A0_2 l0_2.length l0_2) (hc0_2 : l0_2.length ≤ c0_2) (hL : Aside0 (Laid w)) (h : impl_kidText.f k a0_0 a0_1 l0_2 a1 = some r),
  Calls Tryd.prog 86 #[.agg #[.int .i64 a0_0, .int .i64 a0_1, .slice A0_2 l0_2.length c0_2], .int .i64 a1] w fun e w' => e = .returned (.string r) ∧ Below w.heap.size w w') ∧ (∀ (a0_0 : Int) (a0_1 : Int) (A0_2 : Option Addr) (c0_2 : Nat) (l0_2 : List (S25)) (r : ByteArray) (w : World) (hr0_2 : Kd.C k25 w A0_2 l0_2.length l0_2) (hc0_2 : l0_2.length ≤ c0_2) (hL : Aside0 (Laid w)) (h : impl_exprText.f k a0_0 a0_1 l0_2 = some r),
  Calls Tryd.prog 43 #[.agg #[.int .i64 a0_0, .int .i64 a0_1, .slice A0_2 l0_2.length c0_2]] w fun e w' => e = .returned (.string r) ∧ Below w.heap.size w w') := by
 induction k using Nat.strongRecOn with
 | _ k ih =>
 exact ⟨impl_kidText.step k (fun m_ hm_ => (ih m_ hm_).1) (fun m_ hm_ => (ih m_ hm_).2), impl_exprText.step k (fun m_ hm_ => (ih m_ hm_).1) (fun m_ hm_ => (ih m_ hm_).2)⟩
theorem impl_kidText.calls (k : Nat) : ∀ (a0_0 : Int) (a0_1 : Int) (A0_2 : Option Addr) (c0_2 : Nat) (l0_2 : List (S25)) (a1 : Int) (r : ByteArray) (w : World) (hr0_2 : Kd.C k25 w A0_2 l0_2.length l0_2) (hc0_2 : l0_2.length ≤ c0_2) (hL : Aside0 (Laid w)) (h : impl_kidText.f k a0_0 a0_1 l0_2 a1 = some r),
  Calls Tryd.prog 86 #[.agg #[.int .i64 a0_0, .int .i64 a0_1, .slice A0_2 l0_2.length c0_2], .int .i64 a1] w fun e w' => e = .returned (.string r) ∧ Below w.heap.size w w' := (impl_kidText.calls_g k).1
theorem impl_exprText.calls (k : Nat) : ∀ (a0_0 : Int) (a0_1 : Int) (A0_2 : Option Addr) (c0_2 : Nat) (l0_2 : List (S25)) (r : ByteArray) (w : World) (hr0_2 : Kd.C k25 w A0_2 l0_2.length l0_2) (hc0_2 : l0_2.length ≤ c0_2) (hL : Aside0 (Laid w)) (h : impl_exprText.f k a0_0 a0_1 l0_2 = some r),
  Calls Tryd.prog 43 #[.agg #[.int .i64 a0_0, .int .i64 a0_1, .slice A0_2 l0_2.length c0_2]] w fun e w' => e = .returned (.string r) ∧ Below w.heap.size w w' := (impl_kidText.calls_g k).2

end Go.Proofs.YtjfgcipbbcplmaaDoor.HFnExactFormatExpr

/- Text for FnExprs: written by a program of this session on the pattern of the kit's print. -/
import Derived.Test.YtjfgcipbbcplmaaDoorHFnExprsx0
import Derived.Test.YtjfgcipbbcplmaaDoorHFnExprsx1
import Derived.Test.YtjfgcipbbcplmaaDoorHFnExprsx4
namespace Go.Proofs.YtjfgcipbbcplmaaDoor.HFnExprs
set_option maxHeartbeats 8000000
set_option maxRecDepth 100000
open Go.RowKit Go.Proofs.YtjfgcipbbcplmaaDoorW.PrintWords Go.Proofs.YtjfgcipbbcplmaaDoorW.PrintLast Go.Proofs.YtjfgcipbbcplmaaDoorW.PrintMore
attribute [local go_sem] max2_int min2_int max_two min_two max_three min_three max_four min_four
set_option linter.unusedVariables false
set_option linter.unusedSimpArgs false

/-! ### impl_kidText: function 86 -/
/-! ### impl_exprText: function 43 -/
mutual
def impl_kidText.j0 : Nat → Int → ByteArray → Bool → Int → Int → List (S25) → Int → Int → List (S25) → Option (ByteArray)
 | 0, _, _, _, _, _, _, _, _, _ => none
 | k + 1, x1, x6, x23, x199000, x199001, x199002, x201000, x201001, x201002 => if x23 = true then (some x6) else ((impl_kids.f k x199000).bind fun t204 => (if t204 = 1 then (if 1 + x6.size ≤ 9223372036854775807 then (if ((⟨#[40]⟩ : ByteArray) ++ x6).size + 1 ≤ 9223372036854775807 then (some (((⟨#[40]⟩ : ByteArray) ++ x6) ++ (⟨#[41]⟩ : ByteArray))) else (none)) else (none)) else ((impl_isTimes.f x199000).bind fun t205 => (if t205 = true then (if x1 = 1 then (if 1 + x6.size ≤ 9223372036854775807 then (if ((⟨#[40]⟩ : ByteArray) ++ x6).size + 1 ≤ 9223372036854775807 then (some (((⟨#[40]⟩ : ByteArray) ++ x6) ++ (⟨#[41]⟩ : ByteArray))) else (none)) else (none)) else ((impl_isSum.f x201000).bind fun t206 => (if t206 = true then (if 1 + x6.size ≤ 9223372036854775807 then (if ((⟨#[40]⟩ : ByteArray) ++ x6).size + 1 ≤ 9223372036854775807 then (some (((⟨#[40]⟩ : ByteArray) ++ x6) ++ (⟨#[41]⟩ : ByteArray))) else (none)) else (none)) else ((impl_isSum.f x199000).bind fun t207 => (if t207 = true then (some x6) else (some x6)))))) else ((impl_isSum.f x199000).bind fun t208 => (if t208 = true then (if x1 = 1 then ((impl_isSum.f x201000).bind fun t209 => (if t209 = true then (if 1 + x6.size ≤ 9223372036854775807 then (if ((⟨#[40]⟩ : ByteArray) ++ x6).size + 1 ≤ 9223372036854775807 then (some (((⟨#[40]⟩ : ByteArray) ++ x6) ++ (⟨#[41]⟩ : ByteArray))) else (none)) else (none)) else (some x6))) else (some x6)) else (some x6)))))))
def impl_kidText.f : Nat → Int → Int → List (S25) → Int → Option (ByteArray)
 | 0, _, _, _, _ => none
 | k + 1, a0_0, a0_1, l0_2, a1 => if 0 ≤ a1 then (if a1 < (l0_2.length : Int) then ((impl_exprText.f k ((rd_T25 l0_2 a1).f0) ((rd_T25 l0_2 a1).f1) ((rd_T25 l0_2 a1).f2)).bind fun t201 => ((impl_isSum.f ((rd_T25 l0_2 a1).f0)).bind fun t202 => (if t202 = true then (impl_kidText.j0 k a1 t201 false a0_0 a0_1 l0_2 ((rd_T25 l0_2 a1).f0) ((rd_T25 l0_2 a1).f1) ((rd_T25 l0_2 a1).f2)) else ((impl_isTimes.f ((rd_T25 l0_2 a1).f0)).bind fun t203 => (impl_kidText.j0 k a1 t201 (!t203) a0_0 a0_1 l0_2 ((rd_T25 l0_2 a1).f0) ((rd_T25 l0_2 a1).f1) ((rd_T25 l0_2 a1).f2)))))) else (none)) else (none)
def impl_exprText.f : Nat → Int → Int → List (S25) → Option (ByteArray)
 | 0, _, _, _ => none
 | k + 1, a0_0, a0_1, l0_2 => if a0_0 = 1 then ((strconv_Itoa.f a0_1).bind fun t211 => (some t211)) else (if a0_0 = 2 then ((impl_kidText.f k a0_0 a0_1 l0_2 0).bind fun t212 => (if 1 + t212.size ≤ 9223372036854775807 then (some ((⟨#[43]⟩ : ByteArray) ++ t212)) else (none))) else (if a0_0 = 3 then ((impl_kidText.f k a0_0 a0_1 l0_2 0).bind fun t213 => (if 1 + t213.size ≤ 9223372036854775807 then (some ((⟨#[45]⟩ : ByteArray) ++ t213)) else (none))) else ((impl_kidText.f k a0_0 a0_1 l0_2 0).bind fun t214 => (if t214.size + 1 ≤ 9223372036854775807 then (if 0 ≤ (wrap64 (a0_0 - 4)) then (if (wrap64 (a0_0 - 4)) ≤ (wrap64 ((wrap64 (a0_0 - 4)) + 1)) then (if (wrap64 ((wrap64 (a0_0 - 4)) + 1)) ≤ 5 then (if (t214 ++ (⟨#[32]⟩ : ByteArray)).size + ((⟨#[43, 45, 42, 47, 37]⟩ : ByteArray).extract ((wrap64 (a0_0 - 4)) : Int).toNat ((wrap64 ((wrap64 (a0_0 - 4)) + 1)) : Int).toNat).size ≤ 9223372036854775807 then (if ((t214 ++ (⟨#[32]⟩ : ByteArray)) ++ ((⟨#[43, 45, 42, 47, 37]⟩ : ByteArray).extract ((wrap64 (a0_0 - 4)) : Int).toNat ((wrap64 ((wrap64 (a0_0 - 4)) + 1)) : Int).toNat)).size + 1 ≤ 9223372036854775807 then ((impl_kidText.f k a0_0 a0_1 l0_2 1).bind fun t215 => (if (((t214 ++ (⟨#[32]⟩ : ByteArray)) ++ ((⟨#[43, 45, 42, 47, 37]⟩ : ByteArray).extract ((wrap64 (a0_0 - 4)) : Int).toNat ((wrap64 ((wrap64 (a0_0 - 4)) + 1)) : Int).toNat)) ++ (⟨#[32]⟩ : ByteArray)).size + t215.size ≤ 9223372036854775807 then (some ((((t214 ++ (⟨#[32]⟩ : ByteArray)) ++ ((⟨#[43, 45, 42, 47, 37]⟩ : ByteArray).extract ((wrap64 (a0_0 - 4)) : Int).toNat ((wrap64 ((wrap64 (a0_0 - 4)) + 1)) : Int).toNat)) ++ (⟨#[32]⟩ : ByteArray)) ++ t215)) else (none))) else (none)) else (none)) else (none)) else (none)) else (none)) else (none)))))
end
theorem impl_kidText.step (k : Nat) (ihG_86 : ∀ m_, m_ < k → ∀ (a0_0 : Int) (a0_1 : Int) (A0_2 : Option Addr) (c0_2 : Nat) (l0_2 : List (S25)) (a1 : Int) (r : ByteArray) (w : World) (hr0_2 : Kd.C k25 w A0_2 l0_2.length l0_2) (hc0_2 : l0_2.length ≤ c0_2) (hL : Aside0 (Laid w)) (h : impl_kidText.f m_ a0_0 a0_1 l0_2 a1 = some r),
  Calls Tryd.prog 86 #[.agg #[.int .i64 a0_0, .int .i64 a0_1, .slice A0_2 l0_2.length c0_2], .int .i64 a1] w fun e w' => e = .returned (.string r) ∧ Below w.heap.size w w') (ihG_43 : ∀ m_, m_ < k → ∀ (a0_0 : Int) (a0_1 : Int) (A0_2 : Option Addr) (c0_2 : Nat) (l0_2 : List (S25)) (r : ByteArray) (w : World) (hr0_2 : Kd.C k25 w A0_2 l0_2.length l0_2) (hc0_2 : l0_2.length ≤ c0_2) (hL : Aside0 (Laid w)) (h : impl_exprText.f m_ a0_0 a0_1 l0_2 = some r),
  Calls Tryd.prog 43 #[.agg #[.int .i64 a0_0, .int .i64 a0_1, .slice A0_2 l0_2.length c0_2]] w fun e w' => e = .returned (.string r) ∧ Below w.heap.size w w') : ∀ (a0_0 : Int) (a0_1 : Int) (A0_2 : Option Addr) (c0_2 : Nat) (l0_2 : List (S25)) (a1 : Int) (r : ByteArray) (w : World) (hr0_2 : Kd.C k25 w A0_2 l0_2.length l0_2) (hc0_2 : l0_2.length ≤ c0_2) (hL : Aside0 (Laid w)) (h : impl_kidText.f k a0_0 a0_1 l0_2 a1 = some r),
  Calls Tryd.prog 86 #[.agg #[.int .i64 a0_0, .int .i64 a0_1, .slice A0_2 l0_2.length c0_2], .int .i64 a1] w fun e w' => e = .returned (.string r) ∧ Below w.heap.size w w' := by
 intro a0_0 a0_1 A0_2 c0_2 l0_2 a1 r w hr0_2 hc0_2 hL h
 cases k with
 | zero => exact absurd h (by simp [impl_kidText.f])
 | succ k =>
 simp only [impl_kidText.f] at h
 have hu25 := Tryd.underlying25
 have HR0_2 := Ak hr0_2
 have HC0_2 := Ak hc0_2
 clear hr0_2 hc0_2
 have HB := Ak (Below.refl w.heap.size w)
 have H : (if 0 ≤ a1 then (if a1 < (l0_2.length : Int) then ((impl_exprText.f k ((rd_T25 l0_2 a1).f0) ((rd_T25 l0_2 a1).f1) ((rd_T25 l0_2 a1).f2)).bind fun t201 => ((impl_isSum.f ((rd_T25 l0_2 a1).f0)).bind fun t202 => (if t202 = true then (impl_kidText.j0 k a1 t201 false a0_0 a0_1 l0_2 ((rd_T25 l0_2 a1).f0) ((rd_T25 l0_2 a1).f1) ((rd_T25 l0_2 a1).f2)) else ((impl_isTimes.f ((rd_T25 l0_2 a1).f0)).bind fun t203 => (impl_kidText.j0 k a1 t201 (!t203) a0_0 a0_1 l0_2 ((rd_T25 l0_2 a1).f0) ((rd_T25 l0_2 a1).f1) ((rd_T25 l0_2 a1).f2)))))) else (none)) else (none)) = some r := h
 clear h
 by_cases c3 : 0 ≤ a1
 ·rw [if_pos c3] at H
  have c3b0 : decide (0 ≤ a1) = true := decide_eq_true c3
  clear c3
  by_cases c4 : a1 < (l0_2.length : Int)
  ·rw [if_pos c4] at H
   have c4b0 : decide (a1 < (l0_2.length : Int)) = true := decide_eq_true c4
   clear c4
   replace H := Option.bind_eq_some_iff.mp H
   obtain ⟨t201, A50, H⟩ := H
   replace H : ((impl_isSum.f ((rd_T25 l0_2 a1).f0)).bind fun t202 => (if t202 = true then (impl_kidText.j0 k a1 t201 false a0_0 a0_1 l0_2 ((rd_T25 l0_2 a1).f0) ((rd_T25 l0_2 a1).f1) ((rd_T25 l0_2 a1).f2)) else ((impl_isTimes.f ((rd_T25 l0_2 a1).f0)).bind fun t203 => (impl_kidText.j0 k a1 t201 (!t203) a0_0 a0_1 l0_2 ((rd_T25 l0_2 a1).f0) ((rd_T25 l0_2 a1).f1) ((rd_T25 l0_2 a1).f2))))) = some r := H
   have A5 := Ak A50
   clear A50
   have HC6 := Ak H
   clear H
   go_enter Tryd.func86, Tryd.ntmps86
   go_upto_region 3 with (first | ((with_reducible refine gate_dst (N := 2) rfl ?_); refine Qk 2 #[.int .i64 a0_0, .int .i64 a0_1, .slice A0_2 l0_2.length c0_2] 25 ?_; intro gb198 hg w7 hbox hb; have BK198 := Ak (hbox); have GW198 := Ak ((Qp hg HB.out : w.heap.size ≤ gb198)); have GE198 := Ak ((Qp hg HB.out : w.heap.size ≤ gb198)); replace HB := Ak (below_step (Qb HB.out) hb); clear hb hbox hg; obtain ⟨hcz8_0, hcz8_1, hcz8_2, hfz8_0, hfz8_1, hfz8_2⟩ := Qv3 BK198.out; have p199 : 0 ≤ (a1 : Int) := Qg; have q199 : a1 < (l0_2.length : Int) := Qg; obtain ⟨ad199, A199_2, c199_2, e199, hx199_0, hx199_1, hx199_2, hl199_2, hi199_2⟩ := at_T25 HR0_2.out a1 p199 q199; cases e199; replace hx199_0 := (HB.out.cell (World.block_lt_of_cell? w _ hx199_0)).trans hx199_0; replace hx199_1 := (HB.out.cell (World.block_lt_of_cell? w _ hx199_1)).trans hx199_1; replace hx199_2 := (HB.out.cell (World.block_lt_of_cell? w _ hx199_2)).trans hx199_2; have HR199_2 := Ak hi199_2; have HC199_2 := Ak hl199_2; clear hi199_2 hl199_2; replace p199 := eq_true p199; replace q199 := eq_true q199) | ((with_reducible refine gate_dst (N := 5) rfl ?_); refine Qk 5 #[.int .i64 0, .int .i64 0, .slice none 0 0] 25 ?_; intro gb200 hg w9 hbox hb; have BK200 := Ak (hbox); have GW200 := Ak ((Qp hg HB.out : w.heap.size ≤ gb200)); have GE200 := Ak ((Qp hg HB.out : w.heap.size ≤ gb200)); replace HB := Ak (below_step (Qb HB.out) hb); have NB198_200 := Ak ((by rw [hg]; exact Nat.ne_of_lt (Qn BK198.out) : gb198 ≠ gb200)); have NB200_198 := Ak ((by rw [hg]; exact Nat.ne_of_gt (Qn BK198.out) : gb200 ≠ gb198)); replace BK198 := Ak (Qm BK198.out hb); clear hb hbox hg; have hnb10 := NB200_198.out; have hnc10 := NB198_200.out; obtain ⟨hcz11_0, hcz11_1, hcz11_2⟩ := Qu3 BK200.out; have hfz11_0 := blk_frozen BK200.out 0; have hfz11_1 := blk_frozen BK200.out 1; have hfz11_2 := blk_frozen BK200.out 2) | ((with_reducible refine gate_callee (f := 43) rfl ?_); refine Qj (some 13) Tryd.func43 #[.agg #[.int .i64 ((rd_T25 l0_2 a1).f0), .int .i64 ((rd_T25 l0_2 a1).f1), .slice A199_2 ((rd_T25 l0_2 a1).f2).length c199_2]] ?_; (with_reducible refine (ihG_43 k (by omega) ((rd_T25 l0_2 a1).f0) ((rd_T25 l0_2 a1).f1) _ _ ((rd_T25 l0_2 a1).f2) t201 _ ?side1 ?side2 ?side3 A5.out).mono ?_); (case side1 => exact Kd.C_below HR199_2.out (Qb HB.out)); (case side2 => exact HC199_2.out); (case side3 => exact U_29); rintro e w12 ⟨rfl, hb⟩; refine ⟨_, rfl, ?_⟩; replace BK198 := Ak (blk_below (g := gb198) (o := .cells #[.int .i64 a0_0, .int .i64 a0_1, .slice (some ad199) l0_2.length c0_2] 25 (0, 0)) (by refine Qe ?_; refine blk_far ?_ NB198_200.out _; refine Qe ?_; refine blk_far ?_ NB198_200.out _; refine Qe ?_; refine blk_far ?_ NB198_200.out _; exact Qa BK198.out) hb); replace BK200 := Ak (blk_below (g := gb200) (o := .cells #[.int .i64 ((rd_T25 l0_2 a1).f0), .int .i64 ((rd_T25 l0_2 a1).f1), .slice A199_2 ((rd_T25 l0_2 a1).f2).length c199_2] 25 (0, 0)) (by refine Qe ?_; refine blk_put (cs := #[.int .i64 ((rd_T25 l0_2 a1).f0), .int .i64 ((rd_T25 l0_2 a1).f1), .slice none 0 0]) ?_ 2 _ rfl; refine Qe ?_; refine blk_put (cs := #[.int .i64 ((rd_T25 l0_2 a1).f0), .int .i64 0, .slice none 0 0]) ?_ 1 _ rfl; refine Qe ?_; refine blk_put (cs := #[.int .i64 0, .int .i64 0, .slice none 0 0]) ?_ 0 _ rfl; exact Qa BK200.out) hb); replace HB := Ak (below_step (Qb HB.out) hb); (try clear hb)))
   (try simp only [Act.put, List.setIfInBounds_toArray, List.set_cons_zero, List.set_cons_succ])
   go_cut [23] (fun v23 wc => ∃ (kq : Nat) (x23_5 : Bool), v23 = .bool x23_5 ∧ Aside0 (impl_kidText.j0 kq a1 t201 x23_5 a0_0 a0_1 l0_2 ((rd_T25 l0_2 a1).f0) ((rd_T25 l0_2 a1).f1) ((rd_T25 l0_2 a1).f2) = some r) ∧ Aside0 (kq ≤ k) ∧ Aside0 (wc.heap[gb198]? = some (.cells #[.int .i64 a0_0, .int .i64 a0_1, (.slice (some ad199) l0_2.length c0_2)] 25 (0, 0))) ∧ Aside0 (wc.heap[gb200]? = some (.cells #[.int .i64 ((rd_T25 l0_2 a1).f0), .int .i64 ((rd_T25 l0_2 a1).f1), (.slice A199_2 ((rd_T25 l0_2 a1).f2).length c199_2)] 25 (0, 0))) ∧ Aside0 (Below w.heap.size w wc))
   case first =>
    have H := HC6.out
    clear HC6
    replace H := Option.bind_eq_some_iff.mp H
    obtain ⟨t202, A130, H⟩ := H
    replace H : (if t202 = true then (impl_kidText.j0 k a1 t201 false a0_0 a0_1 l0_2 ((rd_T25 l0_2 a1).f0) ((rd_T25 l0_2 a1).f1) ((rd_T25 l0_2 a1).f2)) else ((impl_isTimes.f ((rd_T25 l0_2 a1).f0)).bind fun t203 => (impl_kidText.j0 k a1 t201 (!t203) a0_0 a0_1 l0_2 ((rd_T25 l0_2 a1).f0) ((rd_T25 l0_2 a1).f1) ((rd_T25 l0_2 a1).f2)))) = some r := H
    have A13 := Ak A130
    clear A130
    by_cases c14 : t202 = true
    ·(try subst c14)
     have H1 : (impl_kidText.j0 k a1 t201 false a0_0 a0_1 l0_2 ((rd_T25 l0_2 a1).f0) ((rd_T25 l0_2 a1).f1) ((rd_T25 l0_2 a1).f2)) = some r := by rw [if_pos rfl] at H; exact H
     clear H
     have H := H1
     clear H1
     have H' := Ak H
     clear H
     have hnb15 := NB200_198.out
     have hnc15 := NB198_200.out
     obtain ⟨hcz16_0, hcz16_1, hcz16_2, hfz16_0, hfz16_1, hfz16_2⟩ := Qv3 BK200.out
     go_wp2_with (first | ((with_reducible refine gate_callee (f := 127) rfl ?_); refine Qj (some 16) Tryd.func127 #[.int .i64 ((rd_T25 l0_2 a1).f0)] ?_; (with_reducible refine (impl_isSum.calls ((rd_T25 l0_2 a1).f0) true _ A13.out).mono ?_); rintro e w' ⟨rfl, ⟨nd, rfl⟩⟩; refine ⟨_, rfl, ?_⟩))
     go_meet
     case rel => exact ⟨_, (false), Qi, H', ⟨by first | omega | exact Nat.le_refl _⟩, ⟨by refine Qe ?_; exact BK198.out⟩, ⟨by refine Qe ?_; exact BK200.out⟩, ⟨Qb HB.out⟩⟩
    ·replace c14 := Bool.eq_false_iff.mpr c14
     (try subst c14)
     have H1 : ((impl_isTimes.f ((rd_T25 l0_2 a1).f0)).bind fun t203 => (impl_kidText.j0 k a1 t201 (!t203) a0_0 a0_1 l0_2 ((rd_T25 l0_2 a1).f0) ((rd_T25 l0_2 a1).f1) ((rd_T25 l0_2 a1).f2))) = some r := by rw [if_neg (show ¬ (false = true) by decide)] at H; exact H
     clear H
     have H := H1
     clear H1
     replace H := Option.bind_eq_some_iff.mp H
     obtain ⟨t203, A170, H⟩ := H
     replace H : (impl_kidText.j0 k a1 t201 (!t203) a0_0 a0_1 l0_2 ((rd_T25 l0_2 a1).f0) ((rd_T25 l0_2 a1).f1) ((rd_T25 l0_2 a1).f2)) = some r := H
     have A17 := Ak A170
     clear A170
     have H' := Ak H
     clear H
     have hnb18 := NB200_198.out
     have hnc18 := NB198_200.out
     obtain ⟨hcz19_0, hcz19_1, hcz19_2, hfz19_0, hfz19_1, hfz19_2⟩ := Qv3 BK200.out
     go_wp2_with (first | ((with_reducible refine gate_callee (f := 127) rfl ?_); refine Qj (some 16) Tryd.func127 #[.int .i64 ((rd_T25 l0_2 a1).f0)] ?_; (with_reducible refine (impl_isSum.calls ((rd_T25 l0_2 a1).f0) false _ A13.out).mono ?_); rintro e w' ⟨rfl, ⟨nd, rfl⟩⟩; refine ⟨_, rfl, ?_⟩) | (go_at_call 128; (with_reducible refine (impl_isTimes.calls ((rd_T25 l0_2 a1).f0) t203 _ A17.out).mono ?_); rintro e w' ⟨rfl, ⟨nd, rfl⟩⟩))
     go_meet
     case rel => exact ⟨_, (!t203), Qi, H', ⟨by first | omega | exact Nat.le_refl _⟩, ⟨by refine Qe ?_; exact BK198.out⟩, ⟨by refine Qe ?_; exact BK200.out⟩, ⟨Qb HB.out⟩⟩
   case rest =>
    clear HC6
    (try clear c1)
    obtain ⟨kq, x23_5, rfl, HA, HJ5, BK198, BK200, HB⟩ := hcut
    cases kq with
    | zero => exact absurd HA.out (by simp [impl_kidText.j0])
    | succ kj5 =>
     have H := HA.out
     clear HA
     simp only [impl_kidText.j0] at H
     by_cases c20 : x23_5 = true
     ·(try subst c20)
      have H1 : (some t201) = some r := by rw [if_pos rfl] at H; exact H
      clear H
      have H := H1
      clear H1
      obtain rfl := Option.some.inj H
      go_wp2
      go_ret
      exact ⟨Qh, Qb HB.out⟩
     ·replace c20 := Bool.eq_false_iff.mpr c20
      (try subst c20)
      have H1 : ((impl_kids.f kj5 a0_0).bind fun t204 => (if t204 = 1 then (if 1 + t201.size ≤ 9223372036854775807 then (if ((⟨#[40]⟩ : ByteArray) ++ t201).size + 1 ≤ 9223372036854775807 then (some (((⟨#[40]⟩ : ByteArray) ++ t201) ++ (⟨#[41]⟩ : ByteArray))) else (none)) else (none)) else ((impl_isTimes.f a0_0).bind fun t205 => (if t205 = true then (if a1 = 1 then (if 1 + t201.size ≤ 9223372036854775807 then (if ((⟨#[40]⟩ : ByteArray) ++ t201).size + 1 ≤ 9223372036854775807 then (some (((⟨#[40]⟩ : ByteArray) ++ t201) ++ (⟨#[41]⟩ : ByteArray))) else (none)) else (none)) else ((impl_isSum.f ((rd_T25 l0_2 a1).f0)).bind fun t206 => (if t206 = true then (if 1 + t201.size ≤ 9223372036854775807 then (if ((⟨#[40]⟩ : ByteArray) ++ t201).size + 1 ≤ 9223372036854775807 then (some (((⟨#[40]⟩ : ByteArray) ++ t201) ++ (⟨#[41]⟩ : ByteArray))) else (none)) else (none)) else ((impl_isSum.f a0_0).bind fun t207 => (if t207 = true then (some t201) else (some t201)))))) else ((impl_isSum.f a0_0).bind fun t208 => (if t208 = true then (if a1 = 1 then ((impl_isSum.f ((rd_T25 l0_2 a1).f0)).bind fun t209 => (if t209 = true then (if 1 + t201.size ≤ 9223372036854775807 then (if ((⟨#[40]⟩ : ByteArray) ++ t201).size + 1 ≤ 9223372036854775807 then (some (((⟨#[40]⟩ : ByteArray) ++ t201) ++ (⟨#[41]⟩ : ByteArray))) else (none)) else (none)) else (some t201))) else (some t201)) else (some t201))))))) = some r := by rw [if_neg (show ¬ (false = true) by decide)] at H; exact H
      clear H
      have H := H1
      clear H1
      replace H := Option.bind_eq_some_iff.mp H
      obtain ⟨t204, A210, H⟩ := H
      replace H : (if t204 = 1 then (if 1 + t201.size ≤ 9223372036854775807 then (if ((⟨#[40]⟩ : ByteArray) ++ t201).size + 1 ≤ 9223372036854775807 then (some (((⟨#[40]⟩ : ByteArray) ++ t201) ++ (⟨#[41]⟩ : ByteArray))) else (none)) else (none)) else ((impl_isTimes.f a0_0).bind fun t205 => (if t205 = true then (if a1 = 1 then (if 1 + t201.size ≤ 9223372036854775807 then (if ((⟨#[40]⟩ : ByteArray) ++ t201).size + 1 ≤ 9223372036854775807 then (some (((⟨#[40]⟩ : ByteArray) ++ t201) ++ (⟨#[41]⟩ : ByteArray))) else (none)) else (none)) else ((impl_isSum.f ((rd_T25 l0_2 a1).f0)).bind fun t206 => (if t206 = true then (if 1 + t201.size ≤ 9223372036854775807 then (if ((⟨#[40]⟩ : ByteArray) ++ t201).size + 1 ≤ 9223372036854775807 then (some (((⟨#[40]⟩ : ByteArray) ++ t201) ++ (⟨#[41]⟩ : ByteArray))) else (none)) else (none)) else ((impl_isSum.f a0_0).bind fun t207 => (if t207 = true then (some t201) else (some t201)))))) else ((impl_isSum.f a0_0).bind fun t208 => (if t208 = true then (if a1 = 1 then ((impl_isSum.f ((rd_T25 l0_2 a1).f0)).bind fun t209 => (if t209 = true then (if 1 + t201.size ≤ 9223372036854775807 then (if ((⟨#[40]⟩ : ByteArray) ++ t201).size + 1 ≤ 9223372036854775807 then (some (((⟨#[40]⟩ : ByteArray) ++ t201) ++ (⟨#[41]⟩ : ByteArray))) else (none)) else (none)) else (some t201))) else (some t201)) else (some t201)))))) = some r := H
      have A21 := Ak A210
      clear A210
      by_cases c22 : t204 = 1
      ·rw [if_pos c22] at H
       have c22b0 : (t204 == 1) = true := beq_iff_eq.mpr c22
       have c22b1 : (t204 != 1) = false := bne_eq_false_iff_eq.mpr c22
       clear c22
       by_cases c23 : 1 + t201.size ≤ 9223372036854775807
       ·rw [if_pos c23] at H
        have c23b0 := eq_true c23
        have c23b1 : decide (1 + t201.size ≤ 9223372036854775807) = true := decide_eq_true c23
        try have c23b2 : (9223372036854775807 < 1 + t201.size) = False := eq_false (Nat.not_lt.2 c23)
        by_cases c24 : ((⟨#[40]⟩ : ByteArray) ++ t201).size + 1 ≤ 9223372036854775807
        ·rw [if_pos c24] at H
         have c24b0 := eq_true c24
         have c24b1 : decide (((⟨#[40]⟩ : ByteArray) ++ t201).size + 1 ≤ 9223372036854775807) = true := decide_eq_true c24
         try have c24b2 : (9223372036854775807 < ((⟨#[40]⟩ : ByteArray) ++ t201).size + 1) = False := eq_false (Nat.not_lt.2 c24)
         have c24n := c24
         (simp only [ByteArray.size_append', ByteArray.size_mk', ByteArray.size_extract, List.size_toArray, List.length_cons, List.length_nil] at c24n)
         obtain rfl := Option.some.inj H
         have hnb25 := NB198_200.out
         have hnc25 := NB200_198.out
         obtain ⟨hcz26_0, hcz26_1, hcz26_2, hfz26_0, hfz26_1, hfz26_2⟩ := Qv3 BK198.out
         go_wp2_with (first | ((with_reducible refine gate_callee (f := 89) rfl ?_); refine Qj (some 27) Tryd.func89 #[.int .i64 a0_0] ?_; (with_reducible refine (impl_kids.calls kj5 a0_0 t204 _ A21.out).mono ?_); rintro e w' ⟨rfl, ⟨nd, rfl⟩⟩; refine ⟨_, rfl, ?_⟩))
         go_ret
         exact ⟨Qh, Qb HB.out⟩
        ·rw [if_neg c24] at H
         exact absurd H (by simp)
       ·rw [if_neg c23] at H
        exact absurd H (by simp)
      ·rw [if_neg c22] at H
       have c22b0 : (t204 == 1) = false := beq_eq_false_iff_ne.mpr c22
       have c22b1 : (t204 != 1) = true := bne_iff_ne.mpr c22
       replace H := Option.bind_eq_some_iff.mp H
       obtain ⟨t205, A270, H⟩ := H
       replace H : (if t205 = true then (if a1 = 1 then (if 1 + t201.size ≤ 9223372036854775807 then (if ((⟨#[40]⟩ : ByteArray) ++ t201).size + 1 ≤ 9223372036854775807 then (some (((⟨#[40]⟩ : ByteArray) ++ t201) ++ (⟨#[41]⟩ : ByteArray))) else (none)) else (none)) else ((impl_isSum.f ((rd_T25 l0_2 a1).f0)).bind fun t206 => (if t206 = true then (if 1 + t201.size ≤ 9223372036854775807 then (if ((⟨#[40]⟩ : ByteArray) ++ t201).size + 1 ≤ 9223372036854775807 then (some (((⟨#[40]⟩ : ByteArray) ++ t201) ++ (⟨#[41]⟩ : ByteArray))) else (none)) else (none)) else ((impl_isSum.f a0_0).bind fun t207 => (if t207 = true then (some t201) else (some t201)))))) else ((impl_isSum.f a0_0).bind fun t208 => (if t208 = true then (if a1 = 1 then ((impl_isSum.f ((rd_T25 l0_2 a1).f0)).bind fun t209 => (if t209 = true then (if 1 + t201.size ≤ 9223372036854775807 then (if ((⟨#[40]⟩ : ByteArray) ++ t201).size + 1 ≤ 9223372036854775807 then (some (((⟨#[40]⟩ : ByteArray) ++ t201) ++ (⟨#[41]⟩ : ByteArray))) else (none)) else (none)) else (some t201))) else (some t201)) else (some t201)))) = some r := H
       have A27 := Ak A270
       clear A270
       by_cases c28 : t205 = true
       ·(try subst c28)
        have H1 : (if a1 = 1 then (if 1 + t201.size ≤ 9223372036854775807 then (if ((⟨#[40]⟩ : ByteArray) ++ t201).size + 1 ≤ 9223372036854775807 then (some (((⟨#[40]⟩ : ByteArray) ++ t201) ++ (⟨#[41]⟩ : ByteArray))) else (none)) else (none)) else ((impl_isSum.f ((rd_T25 l0_2 a1).f0)).bind fun t206 => (if t206 = true then (if 1 + t201.size ≤ 9223372036854775807 then (if ((⟨#[40]⟩ : ByteArray) ++ t201).size + 1 ≤ 9223372036854775807 then (some (((⟨#[40]⟩ : ByteArray) ++ t201) ++ (⟨#[41]⟩ : ByteArray))) else (none)) else (none)) else ((impl_isSum.f a0_0).bind fun t207 => (if t207 = true then (some t201) else (some t201)))))) = some r := by rw [if_pos rfl] at H; exact H
        clear H
        have H := H1
        clear H1
        by_cases c29 : a1 = 1
        ·rw [if_pos c29] at H
         have c29b0 : (a1 == 1) = true := beq_iff_eq.mpr c29
         have c29b1 : (a1 != 1) = false := bne_eq_false_iff_eq.mpr c29
         clear c29
         by_cases c30 : 1 + t201.size ≤ 9223372036854775807
         ·rw [if_pos c30] at H
          have c30b0 := eq_true c30
          have c30b1 : decide (1 + t201.size ≤ 9223372036854775807) = true := decide_eq_true c30
          try have c30b2 : (9223372036854775807 < 1 + t201.size) = False := eq_false (Nat.not_lt.2 c30)
          by_cases c31 : ((⟨#[40]⟩ : ByteArray) ++ t201).size + 1 ≤ 9223372036854775807
          ·rw [if_pos c31] at H
           have c31b0 := eq_true c31
           have c31b1 : decide (((⟨#[40]⟩ : ByteArray) ++ t201).size + 1 ≤ 9223372036854775807) = true := decide_eq_true c31
           try have c31b2 : (9223372036854775807 < ((⟨#[40]⟩ : ByteArray) ++ t201).size + 1) = False := eq_false (Nat.not_lt.2 c31)
           have c31n := c31
           (simp only [ByteArray.size_append', ByteArray.size_mk', ByteArray.size_extract, List.size_toArray, List.length_cons, List.length_nil] at c31n)
           obtain rfl := Option.some.inj H
           have hnb32 := NB198_200.out
           have hnc32 := NB200_198.out
           obtain ⟨hcz33_0, hcz33_1, hcz33_2, hfz33_0, hfz33_1, hfz33_2⟩ := Qv3 BK198.out
           go_wp2_with (first | ((with_reducible refine gate_callee (f := 89) rfl ?_); refine Qj (some 27) Tryd.func89 #[.int .i64 a0_0] ?_; (with_reducible refine (impl_kids.calls kj5 a0_0 t204 _ A21.out).mono ?_); rintro e w' ⟨rfl, ⟨nd, rfl⟩⟩; refine ⟨_, rfl, ?_⟩) | (go_at_call 128; (with_reducible refine (impl_isTimes.calls a0_0 true _ A27.out).mono ?_); rintro e w' ⟨rfl, ⟨nd, rfl⟩⟩))
           go_ret
           exact ⟨Qh, Qb HB.out⟩
          ·rw [if_neg c31] at H
           exact absurd H (by simp)
         ·rw [if_neg c30] at H
          exact absurd H (by simp)
        ·rw [if_neg c29] at H
         have c29b0 : (a1 == 1) = false := beq_eq_false_iff_ne.mpr c29
         have c29b1 : (a1 != 1) = true := bne_iff_ne.mpr c29
         replace H := Option.bind_eq_some_iff.mp H
         obtain ⟨t206, A340, H⟩ := H
         replace H : (if t206 = true then (if 1 + t201.size ≤ 9223372036854775807 then (if ((⟨#[40]⟩ : ByteArray) ++ t201).size + 1 ≤ 9223372036854775807 then (some (((⟨#[40]⟩ : ByteArray) ++ t201) ++ (⟨#[41]⟩ : ByteArray))) else (none)) else (none)) else ((impl_isSum.f a0_0).bind fun t207 => (if t207 = true then (some t201) else (some t201)))) = some r := H
         have A34 := Ak A340
         clear A340
         by_cases c35 : t206 = true
         ·(try subst c35)
          have H1 : (if 1 + t201.size ≤ 9223372036854775807 then (if ((⟨#[40]⟩ : ByteArray) ++ t201).size + 1 ≤ 9223372036854775807 then (some (((⟨#[40]⟩ : ByteArray) ++ t201) ++ (⟨#[41]⟩ : ByteArray))) else (none)) else (none)) = some r := by rw [if_pos rfl] at H; exact H
          clear H
          have H := H1
          clear H1
          by_cases c36 : 1 + t201.size ≤ 9223372036854775807
          ·rw [if_pos c36] at H
           have c36b0 := eq_true c36
           have c36b1 : decide (1 + t201.size ≤ 9223372036854775807) = true := decide_eq_true c36
           try have c36b2 : (9223372036854775807 < 1 + t201.size) = False := eq_false (Nat.not_lt.2 c36)
           by_cases c37 : ((⟨#[40]⟩ : ByteArray) ++ t201).size + 1 ≤ 9223372036854775807
           ·rw [if_pos c37] at H
            have c37b0 := eq_true c37
            have c37b1 : decide (((⟨#[40]⟩ : ByteArray) ++ t201).size + 1 ≤ 9223372036854775807) = true := decide_eq_true c37
            try have c37b2 : (9223372036854775807 < ((⟨#[40]⟩ : ByteArray) ++ t201).size + 1) = False := eq_false (Nat.not_lt.2 c37)
            have c37n := c37
            (simp only [ByteArray.size_append', ByteArray.size_mk', ByteArray.size_extract, List.size_toArray, List.length_cons, List.length_nil] at c37n)
            obtain rfl := Option.some.inj H
            have hnb38 := NB198_200.out
            have hnc38 := NB200_198.out
            obtain ⟨hcz39_0, hcz39_1, hcz39_2, hfz39_0, hfz39_1, hfz39_2⟩ := Qv3 BK198.out
            go_wp2_with (first | ((with_reducible refine gate_callee (f := 89) rfl ?_); refine Qj (some 27) Tryd.func89 #[.int .i64 a0_0] ?_; (with_reducible refine (impl_kids.calls kj5 a0_0 t204 _ A21.out).mono ?_); rintro e w' ⟨rfl, ⟨nd, rfl⟩⟩; refine ⟨_, rfl, ?_⟩) | (go_at_call 128; (with_reducible refine (impl_isTimes.calls a0_0 true _ A27.out).mono ?_); rintro e w' ⟨rfl, ⟨nd, rfl⟩⟩; obtain ⟨hcz40_0, hcz40_1, hcz40_2⟩ := Qu3 BK200.out; have hfz40_0 := blk_frozen BK200.out 0; have hfz40_1 := blk_frozen BK200.out 1; have hfz40_2 := blk_frozen BK200.out 2) | (go_at_call 127; (with_reducible refine (impl_isSum.calls ((rd_T25 l0_2 a1).f0) true _ A34.out).mono ?_); rintro e w' ⟨rfl, ⟨nd, rfl⟩⟩))
            go_ret
            exact ⟨Qh, Qb HB.out⟩
           ·rw [if_neg c37] at H
            exact absurd H (by simp)
          ·rw [if_neg c36] at H
           exact absurd H (by simp)
         ·replace c35 := Bool.eq_false_iff.mpr c35
          (try subst c35)
          have H1 : ((impl_isSum.f a0_0).bind fun t207 => (if t207 = true then (some t201) else (some t201))) = some r := by rw [if_neg (show ¬ (false = true) by decide)] at H; exact H
          clear H
          have H := H1
          clear H1
          replace H := Option.bind_eq_some_iff.mp H
          obtain ⟨t207, A410, H⟩ := H
          replace H : (if t207 = true then (some t201) else (some t201)) = some r := H
          have A41 := Ak A410
          clear A410
          by_cases c42 : t207 = true
          ·(try subst c42)
           have H1 : (some t201) = some r := by rw [if_pos rfl] at H; exact H
           clear H
           have H := H1
           clear H1
           obtain rfl := Option.some.inj H
           have hnb43 := NB198_200.out
           have hnc43 := NB200_198.out
           obtain ⟨hcz44_0, hcz44_1, hcz44_2, hfz44_0, hfz44_1, hfz44_2⟩ := Qv3 BK198.out
           go_wp2_with (first | ((with_reducible refine gate_callee (f := 89) rfl ?_); refine Qj (some 27) Tryd.func89 #[.int .i64 a0_0] ?_; (with_reducible refine (impl_kids.calls kj5 a0_0 t204 _ A21.out).mono ?_); rintro e w' ⟨rfl, ⟨nd, rfl⟩⟩; refine ⟨_, rfl, ?_⟩) | (go_at_call 128; (with_reducible refine (impl_isTimes.calls a0_0 true _ A27.out).mono ?_); rintro e w' ⟨rfl, ⟨nd, rfl⟩⟩; obtain ⟨hcz45_0, hcz45_1, hcz45_2⟩ := Qu3 BK200.out; have hfz45_0 := blk_frozen BK200.out 0; have hfz45_1 := blk_frozen BK200.out 1; have hfz45_2 := blk_frozen BK200.out 2) | (go_at_call 127; (with_reducible refine (impl_isSum.calls ((rd_T25 l0_2 a1).f0) false _ A34.out).mono ?_); rintro e w' ⟨rfl, ⟨nd, rfl⟩⟩) | (go_at_call 127; (with_reducible refine (impl_isSum.calls a0_0 true _ A41.out).mono ?_); rintro e w' ⟨rfl, ⟨nd, rfl⟩⟩))
           go_ret
           exact ⟨Qh, Qb HB.out⟩
          ·replace c42 := Bool.eq_false_iff.mpr c42
           (try subst c42)
           have H1 : (some t201) = some r := by rw [if_neg (show ¬ (false = true) by decide)] at H; exact H
           clear H
           have H := H1
           clear H1
           obtain rfl := Option.some.inj H
           have hnb46 := NB198_200.out
           have hnc46 := NB200_198.out
           obtain ⟨hcz47_0, hcz47_1, hcz47_2, hfz47_0, hfz47_1, hfz47_2⟩ := Qv3 BK198.out
           go_wp2_with (first | ((with_reducible refine gate_callee (f := 89) rfl ?_); refine Qj (some 27) Tryd.func89 #[.int .i64 a0_0] ?_; (with_reducible refine (impl_kids.calls kj5 a0_0 t204 _ A21.out).mono ?_); rintro e w' ⟨rfl, ⟨nd, rfl⟩⟩; refine ⟨_, rfl, ?_⟩) | (go_at_call 128; (with_reducible refine (impl_isTimes.calls a0_0 true _ A27.out).mono ?_); rintro e w' ⟨rfl, ⟨nd, rfl⟩⟩; obtain ⟨hcz48_0, hcz48_1, hcz48_2⟩ := Qu3 BK200.out; have hfz48_0 := blk_frozen BK200.out 0; have hfz48_1 := blk_frozen BK200.out 1; have hfz48_2 := blk_frozen BK200.out 2) | (go_at_call 127; (with_reducible refine (impl_isSum.calls ((rd_T25 l0_2 a1).f0) false _ A34.out).mono ?_); rintro e w' ⟨rfl, ⟨nd, rfl⟩⟩) | (go_at_call 127; (with_reducible refine (impl_isSum.calls a0_0 false _ A41.out).mono ?_); rintro e w' ⟨rfl, ⟨nd, rfl⟩⟩))
           go_ret
           exact ⟨Qh, Qb HB.out⟩
       ·replace c28 := Bool.eq_false_iff.mpr c28
        (try subst c28)
        have H1 : ((impl_isSum.f a0_0).bind fun t208 => (if t208 = true then (if a1 = 1 then ((impl_isSum.f ((rd_T25 l0_2 a1).f0)).bind fun t209 => (if t209 = true then (if 1 + t201.size ≤ 9223372036854775807 then (if ((⟨#[40]⟩ : ByteArray) ++ t201).size + 1 ≤ 9223372036854775807 then (some (((⟨#[40]⟩ : ByteArray) ++ t201) ++ (⟨#[41]⟩ : ByteArray))) else (none)) else (none)) else (some t201))) else (some t201)) else (some t201))) = some r := by rw [if_neg (show ¬ (false = true) by decide)] at H; exact H
        clear H
        have H := H1
        clear H1
        replace H := Option.bind_eq_some_iff.mp H
        obtain ⟨t208, A490, H⟩ := H
        replace H : (if t208 = true then (if a1 = 1 then ((impl_isSum.f ((rd_T25 l0_2 a1).f0)).bind fun t209 => (if t209 = true then (if 1 + t201.size ≤ 9223372036854775807 then (if ((⟨#[40]⟩ : ByteArray) ++ t201).size + 1 ≤ 9223372036854775807 then (some (((⟨#[40]⟩ : ByteArray) ++ t201) ++ (⟨#[41]⟩ : ByteArray))) else (none)) else (none)) else (some t201))) else (some t201)) else (some t201)) = some r := H
        have A49 := Ak A490
        clear A490
        by_cases c50 : t208 = true
        ·(try subst c50)
         have H1 : (if a1 = 1 then ((impl_isSum.f ((rd_T25 l0_2 a1).f0)).bind fun t209 => (if t209 = true then (if 1 + t201.size ≤ 9223372036854775807 then (if ((⟨#[40]⟩ : ByteArray) ++ t201).size + 1 ≤ 9223372036854775807 then (some (((⟨#[40]⟩ : ByteArray) ++ t201) ++ (⟨#[41]⟩ : ByteArray))) else (none)) else (none)) else (some t201))) else (some t201)) = some r := by rw [if_pos rfl] at H; exact H
         clear H
         have H := H1
         clear H1
         by_cases c51 : a1 = 1
         ·rw [if_pos c51] at H
          have c51b0 : (a1 == 1) = true := beq_iff_eq.mpr c51
          have c51b1 : (a1 != 1) = false := bne_eq_false_iff_eq.mpr c51
          clear c51
          replace H := Option.bind_eq_some_iff.mp H
          obtain ⟨t209, A520, H⟩ := H
          replace H : (if t209 = true then (if 1 + t201.size ≤ 9223372036854775807 then (if ((⟨#[40]⟩ : ByteArray) ++ t201).size + 1 ≤ 9223372036854775807 then (some (((⟨#[40]⟩ : ByteArray) ++ t201) ++ (⟨#[41]⟩ : ByteArray))) else (none)) else (none)) else (some t201)) = some r := H
          have A52 := Ak A520
          clear A520
          by_cases c53 : t209 = true
          ·(try subst c53)
           have H1 : (if 1 + t201.size ≤ 9223372036854775807 then (if ((⟨#[40]⟩ : ByteArray) ++ t201).size + 1 ≤ 9223372036854775807 then (some (((⟨#[40]⟩ : ByteArray) ++ t201) ++ (⟨#[41]⟩ : ByteArray))) else (none)) else (none)) = some r := by rw [if_pos rfl] at H; exact H
           clear H
           have H := H1
           clear H1
           by_cases c54 : 1 + t201.size ≤ 9223372036854775807
           ·rw [if_pos c54] at H
            have c54b0 := eq_true c54
            have c54b1 : decide (1 + t201.size ≤ 9223372036854775807) = true := decide_eq_true c54
            try have c54b2 : (9223372036854775807 < 1 + t201.size) = False := eq_false (Nat.not_lt.2 c54)
            by_cases c55 : ((⟨#[40]⟩ : ByteArray) ++ t201).size + 1 ≤ 9223372036854775807
            ·rw [if_pos c55] at H
             have c55b0 := eq_true c55
             have c55b1 : decide (((⟨#[40]⟩ : ByteArray) ++ t201).size + 1 ≤ 9223372036854775807) = true := decide_eq_true c55
             try have c55b2 : (9223372036854775807 < ((⟨#[40]⟩ : ByteArray) ++ t201).size + 1) = False := eq_false (Nat.not_lt.2 c55)
             have c55n := c55
             (simp only [ByteArray.size_append', ByteArray.size_mk', ByteArray.size_extract, List.size_toArray, List.length_cons, List.length_nil] at c55n)
             obtain rfl := Option.some.inj H
             have hnb56 := NB198_200.out
             have hnc56 := NB200_198.out
             obtain ⟨hcz57_0, hcz57_1, hcz57_2, hfz57_0, hfz57_1, hfz57_2⟩ := Qv3 BK198.out
             go_wp2_with (first | ((with_reducible refine gate_callee (f := 89) rfl ?_); refine Qj (some 27) Tryd.func89 #[.int .i64 a0_0] ?_; (with_reducible refine (impl_kids.calls kj5 a0_0 t204 _ A21.out).mono ?_); rintro e w' ⟨rfl, ⟨nd, rfl⟩⟩; refine ⟨_, rfl, ?_⟩) | (go_at_call 128; (with_reducible refine (impl_isTimes.calls a0_0 false _ A27.out).mono ?_); rintro e w' ⟨rfl, ⟨nd, rfl⟩⟩) | (go_at_call 127; (with_reducible refine (impl_isSum.calls a0_0 true _ A49.out).mono ?_); rintro e w' ⟨rfl, ⟨nd, rfl⟩⟩; obtain ⟨hcz58_0, hcz58_1, hcz58_2⟩ := Qu3 BK200.out; have hfz58_0 := blk_frozen BK200.out 0; have hfz58_1 := blk_frozen BK200.out 1; have hfz58_2 := blk_frozen BK200.out 2) | (go_at_call 127; (with_reducible refine (impl_isSum.calls ((rd_T25 l0_2 a1).f0) true _ A52.out).mono ?_); rintro e w' ⟨rfl, ⟨nd, rfl⟩⟩))
             go_ret
             exact ⟨Qh, Qb HB.out⟩
            ·rw [if_neg c55] at H
             exact absurd H (by simp)
           ·rw [if_neg c54] at H
            exact absurd H (by simp)
          ·replace c53 := Bool.eq_false_iff.mpr c53
           (try subst c53)
           have H1 : (some t201) = some r := by rw [if_neg (show ¬ (false = true) by decide)] at H; exact H
           clear H
           have H := H1
           clear H1
           obtain rfl := Option.some.inj H
           have hnb59 := NB198_200.out
           have hnc59 := NB200_198.out
           obtain ⟨hcz60_0, hcz60_1, hcz60_2, hfz60_0, hfz60_1, hfz60_2⟩ := Qv3 BK198.out
           go_wp2_with (first | ((with_reducible refine gate_callee (f := 89) rfl ?_); refine Qj (some 27) Tryd.func89 #[.int .i64 a0_0] ?_; (with_reducible refine (impl_kids.calls kj5 a0_0 t204 _ A21.out).mono ?_); rintro e w' ⟨rfl, ⟨nd, rfl⟩⟩; refine ⟨_, rfl, ?_⟩) | (go_at_call 128; (with_reducible refine (impl_isTimes.calls a0_0 false _ A27.out).mono ?_); rintro e w' ⟨rfl, ⟨nd, rfl⟩⟩) | (go_at_call 127; (with_reducible refine (impl_isSum.calls a0_0 true _ A49.out).mono ?_); rintro e w' ⟨rfl, ⟨nd, rfl⟩⟩; obtain ⟨hcz61_0, hcz61_1, hcz61_2⟩ := Qu3 BK200.out; have hfz61_0 := blk_frozen BK200.out 0; have hfz61_1 := blk_frozen BK200.out 1; have hfz61_2 := blk_frozen BK200.out 2) | (go_at_call 127; (with_reducible refine (impl_isSum.calls ((rd_T25 l0_2 a1).f0) false _ A52.out).mono ?_); rintro e w' ⟨rfl, ⟨nd, rfl⟩⟩))
           go_ret
           exact ⟨Qh, Qb HB.out⟩
         ·rw [if_neg c51] at H
          have c51b0 : (a1 == 1) = false := beq_eq_false_iff_ne.mpr c51
          have c51b1 : (a1 != 1) = true := bne_iff_ne.mpr c51
          obtain rfl := Option.some.inj H
          have hnb62 := NB198_200.out
          have hnc62 := NB200_198.out
          obtain ⟨hcz63_0, hcz63_1, hcz63_2, hfz63_0, hfz63_1, hfz63_2⟩ := Qv3 BK198.out
          go_wp2_with (first | ((with_reducible refine gate_callee (f := 89) rfl ?_); refine Qj (some 27) Tryd.func89 #[.int .i64 a0_0] ?_; (with_reducible refine (impl_kids.calls kj5 a0_0 t204 _ A21.out).mono ?_); rintro e w' ⟨rfl, ⟨nd, rfl⟩⟩; refine ⟨_, rfl, ?_⟩) | (go_at_call 128; (with_reducible refine (impl_isTimes.calls a0_0 false _ A27.out).mono ?_); rintro e w' ⟨rfl, ⟨nd, rfl⟩⟩) | (go_at_call 127; (with_reducible refine (impl_isSum.calls a0_0 true _ A49.out).mono ?_); rintro e w' ⟨rfl, ⟨nd, rfl⟩⟩))
          go_ret
          exact ⟨Qh, Qb HB.out⟩
        ·replace c50 := Bool.eq_false_iff.mpr c50
         (try subst c50)
         have H1 : (some t201) = some r := by rw [if_neg (show ¬ (false = true) by decide)] at H; exact H
         clear H
         have H := H1
         clear H1
         obtain rfl := Option.some.inj H
         have hnb64 := NB198_200.out
         have hnc64 := NB200_198.out
         obtain ⟨hcz65_0, hcz65_1, hcz65_2, hfz65_0, hfz65_1, hfz65_2⟩ := Qv3 BK198.out
         go_wp2_with (first | ((with_reducible refine gate_callee (f := 89) rfl ?_); refine Qj (some 27) Tryd.func89 #[.int .i64 a0_0] ?_; (with_reducible refine (impl_kids.calls kj5 a0_0 t204 _ A21.out).mono ?_); rintro e w' ⟨rfl, ⟨nd, rfl⟩⟩; refine ⟨_, rfl, ?_⟩) | (go_at_call 128; (with_reducible refine (impl_isTimes.calls a0_0 false _ A27.out).mono ?_); rintro e w' ⟨rfl, ⟨nd, rfl⟩⟩) | (go_at_call 127; (with_reducible refine (impl_isSum.calls a0_0 false _ A49.out).mono ?_); rintro e w' ⟨rfl, ⟨nd, rfl⟩⟩))
         go_ret
         exact ⟨Qh, Qb HB.out⟩
  ·rw [if_neg c4] at H
   exact absurd H (by simp)
 ·rw [if_neg c3] at H
  exact absurd H (by simp)
def impl_exprText.T8 : Bool × List (List Nat × List Nat) := (true, [([], []), ([0], [0]), ([1], [1]), ([], []), ([3], [3]), ([4], [4]), ([], []), ([6], [6]), ([7], [7]), ([8], [8]), ([5, 9], [5, 9]), ([2, 10], [2, 10]), ([11], [11]), ([], []), ([13, 1], [13]), ([12, 14], [12, 14]), ([15, 14, 0, 1, 2, 3, 4, 5, 6, 7, 8, 9, 10, 11, 12, 13, 14, 15], [15])])
def impl_exprText.B8 : List Nat := [0, 1, 3, 0, 8, 24, 0, 64, 192, 448, 1016, 2047, 4095, 0, 8195, 32767, 65535]
theorem impl_exprText.tab8 : rtab .any (opsOf Tryd.f43 8) = impl_exprText.T8 := by kernel_rfl
theorem impl_exprText.bits8 : waitsOk impl_exprText.T8.2 impl_exprText.B8 = true := by kernel_rfl
theorem impl_exprText.step (k : Nat) (ihG_86 : ∀ m_, m_ < k → ∀ (a0_0 : Int) (a0_1 : Int) (A0_2 : Option Addr) (c0_2 : Nat) (l0_2 : List (S25)) (a1 : Int) (r : ByteArray) (w : World) (hr0_2 : Kd.C k25 w A0_2 l0_2.length l0_2) (hc0_2 : l0_2.length ≤ c0_2) (hL : Aside0 (Laid w)) (h : impl_kidText.f m_ a0_0 a0_1 l0_2 a1 = some r),
  Calls Tryd.prog 86 #[.agg #[.int .i64 a0_0, .int .i64 a0_1, .slice A0_2 l0_2.length c0_2], .int .i64 a1] w fun e w' => e = .returned (.string r) ∧ Below w.heap.size w w') (ihG_43 : ∀ m_, m_ < k → ∀ (a0_0 : Int) (a0_1 : Int) (A0_2 : Option Addr) (c0_2 : Nat) (l0_2 : List (S25)) (r : ByteArray) (w : World) (hr0_2 : Kd.C k25 w A0_2 l0_2.length l0_2) (hc0_2 : l0_2.length ≤ c0_2) (hL : Aside0 (Laid w)) (h : impl_exprText.f m_ a0_0 a0_1 l0_2 = some r),
  Calls Tryd.prog 43 #[.agg #[.int .i64 a0_0, .int .i64 a0_1, .slice A0_2 l0_2.length c0_2]] w fun e w' => e = .returned (.string r) ∧ Below w.heap.size w w') : ∀ (a0_0 : Int) (a0_1 : Int) (A0_2 : Option Addr) (c0_2 : Nat) (l0_2 : List (S25)) (r : ByteArray) (w : World) (hr0_2 : Kd.C k25 w A0_2 l0_2.length l0_2) (hc0_2 : l0_2.length ≤ c0_2) (hL : Aside0 (Laid w)) (h : impl_exprText.f k a0_0 a0_1 l0_2 = some r),
  Calls Tryd.prog 43 #[.agg #[.int .i64 a0_0, .int .i64 a0_1, .slice A0_2 l0_2.length c0_2]] w fun e w' => e = .returned (.string r) ∧ Below w.heap.size w w' := by
 intro a0_0 a0_1 A0_2 c0_2 l0_2 r w hr0_2 hc0_2 hL h
 cases k with
 | zero => exact absurd h (by simp [impl_exprText.f])
 | succ k =>
 simp only [impl_exprText.f] at h
 have hu25 := Tryd.underlying25
 have HR0_2 := Ak hr0_2
 have HC0_2 := Ak hc0_2
 clear hr0_2 hc0_2
 have HB := Ak (Below.refl w.heap.size w)
 have H : (if a0_0 = 1 then ((strconv_Itoa.f a0_1).bind fun t211 => (some t211)) else (if a0_0 = 2 then ((impl_kidText.f k a0_0 a0_1 l0_2 0).bind fun t212 => (if 1 + t212.size ≤ 9223372036854775807 then (some ((⟨#[43]⟩ : ByteArray) ++ t212)) else (none))) else (if a0_0 = 3 then ((impl_kidText.f k a0_0 a0_1 l0_2 0).bind fun t213 => (if 1 + t213.size ≤ 9223372036854775807 then (some ((⟨#[45]⟩ : ByteArray) ++ t213)) else (none))) else ((impl_kidText.f k a0_0 a0_1 l0_2 0).bind fun t214 => (if t214.size + 1 ≤ 9223372036854775807 then (if 0 ≤ (wrap64 (a0_0 - 4)) then (if (wrap64 (a0_0 - 4)) ≤ (wrap64 ((wrap64 (a0_0 - 4)) + 1)) then (if (wrap64 ((wrap64 (a0_0 - 4)) + 1)) ≤ 5 then (if (t214 ++ (⟨#[32]⟩ : ByteArray)).size + ((⟨#[43, 45, 42, 47, 37]⟩ : ByteArray).extract ((wrap64 (a0_0 - 4)) : Int).toNat ((wrap64 ((wrap64 (a0_0 - 4)) + 1)) : Int).toNat).size ≤ 9223372036854775807 then (if ((t214 ++ (⟨#[32]⟩ : ByteArray)) ++ ((⟨#[43, 45, 42, 47, 37]⟩ : ByteArray).extract ((wrap64 (a0_0 - 4)) : Int).toNat ((wrap64 ((wrap64 (a0_0 - 4)) + 1)) : Int).toNat)).size + 1 ≤ 9223372036854775807 then ((impl_kidText.f k a0_0 a0_1 l0_2 1).bind fun t215 => (if (((t214 ++ (⟨#[32]⟩ : ByteArray)) ++ ((⟨#[43, 45, 42, 47, 37]⟩ : ByteArray).extract ((wrap64 (a0_0 - 4)) : Int).toNat ((wrap64 ((wrap64 (a0_0 - 4)) + 1)) : Int).toNat)) ++ (⟨#[32]⟩ : ByteArray)).size + t215.size ≤ 9223372036854775807 then (some ((((t214 ++ (⟨#[32]⟩ : ByteArray)) ++ ((⟨#[43, 45, 42, 47, 37]⟩ : ByteArray).extract ((wrap64 (a0_0 - 4)) : Int).toNat ((wrap64 ((wrap64 (a0_0 - 4)) + 1)) : Int).toNat)) ++ (⟨#[32]⟩ : ByteArray)) ++ t215)) else (none))) else (none)) else (none)) else (none)) else (none)) else (none)) else (none)))))) = some r := h
 clear h
 by_cases c2 : a0_0 = 1
 ·rw [if_pos c2] at H
  have c2b0 : (a0_0 == 1) = true := beq_iff_eq.mpr c2
  have c2b1 : (a0_0 != 1) = false := bne_eq_false_iff_eq.mpr c2
  clear c2
  replace H := Option.bind_eq_some_iff.mp H
  obtain ⟨t211, A30, H⟩ := H
  replace H : (some t211) = some r := H
  have A3 := Ak A30
  clear A30
  obtain rfl := Option.some.inj H
  go_enter Tryd.func43, Tryd.ntmps43
  go_wp2_with (first | ((with_reducible refine gate_dst (N := 1) rfl ?_); refine Qk 1 #[.int .i64 a0_0, .int .i64 a0_1, .slice A0_2 l0_2.length c0_2] 25 ?_; intro gb210 hg w4 hbox hb; have BK210 := Ak (hbox); have GW210 := Ak ((Qp hg HB.out : w.heap.size ≤ gb210)); have GE210 := Ak ((Qp hg HB.out : w.heap.size ≤ gb210)); replace HB := Ak (below_step (Qb HB.out) hb); clear hb hbox hg; obtain ⟨hcz5_0, hcz5_1, hcz5_2⟩ := Qu3 BK210.out; have hfz5_0 := blk_frozen BK210.out 0; have hfz5_1 := blk_frozen BK210.out 1; have hfz5_2 := blk_frozen BK210.out 2) | ((with_reducible refine gate_callee (f := 65) rfl ?_); refine Qj (some 9) Tryd.func65 #[.int .i64 a0_1] ?_; (with_reducible refine (strconv_Itoa.calls a0_1 t211 _ ?side1 A3.out).mono ?_); (case side1 => exact U_29); rintro e w6 ⟨rfl, hb⟩; refine ⟨_, rfl, ?_⟩; replace BK210 := Ak (Qm BK210.out hb); replace HB := Ak (below_step (Qb HB.out) hb); (try clear hb)))
  go_ret
  exact ⟨Qh, Qb HB.out⟩
 ·rw [if_neg c2] at H
  have c2b0 : (a0_0 == 1) = false := beq_eq_false_iff_ne.mpr c2
  have c2b1 : (a0_0 != 1) = true := bne_iff_ne.mpr c2
  by_cases c7 : a0_0 = 2
  ·rw [if_pos c7] at H
   have c7b0 : (a0_0 == 2) = true := beq_iff_eq.mpr c7
   have c7b1 : (a0_0 != 2) = false := bne_eq_false_iff_eq.mpr c7
   clear c7
   replace H := Option.bind_eq_some_iff.mp H
   obtain ⟨t212, A80, H⟩ := H
   replace H : (if 1 + t212.size ≤ 9223372036854775807 then (some ((⟨#[43]⟩ : ByteArray) ++ t212)) else (none)) = some r := H
   have A8 := Ak A80
   clear A80
   by_cases c9 : 1 + t212.size ≤ 9223372036854775807
   ·rw [if_pos c9] at H
    have c9b0 := eq_true c9
    have c9b1 : decide (1 + t212.size ≤ 9223372036854775807) = true := decide_eq_true c9
    try have c9b2 : (9223372036854775807 < 1 + t212.size) = False := eq_false (Nat.not_lt.2 c9)
    obtain rfl := Option.some.inj H
    go_enter Tryd.func43, Tryd.ntmps43
    go_wp2_with (first | ((with_reducible refine gate_dst (N := 1) rfl ?_); refine Qk 1 #[.int .i64 a0_0, .int .i64 a0_1, .slice A0_2 l0_2.length c0_2] 25 ?_; intro gb210 hg w10 hbox hb; have BK210 := Ak (hbox); have GW210 := Ak ((Qp hg HB.out : w.heap.size ≤ gb210)); have GE210 := Ak ((Qp hg HB.out : w.heap.size ≤ gb210)); replace HB := Ak (below_step (Qb HB.out) hb); clear hb hbox hg; obtain ⟨hcz11_0, hcz11_1, hcz11_2⟩ := Qu3 BK210.out; have hfz11_0 := blk_frozen BK210.out 0; have hfz11_1 := blk_frozen BK210.out 1; have hfz11_2 := blk_frozen BK210.out 2) | ((with_reducible refine gate_callee (f := 86) rfl ?_); refine Qj (some 13) Tryd.func86 #[.agg #[.int .i64 a0_0, .int .i64 a0_1, .slice A0_2 l0_2.length c0_2], .int .i64 0] ?_; (with_reducible refine (ihG_86 k (by omega) a0_0 a0_1 _ _ l0_2 0 t212 _ ?side1 ?side2 ?side3 A8.out).mono ?_); (case side1 => exact U_14); (case side2 => exact U_30); (case side3 => exact U_29); rintro e w12 ⟨rfl, hb⟩; refine ⟨_, rfl, ?_⟩; replace BK210 := Ak (Qm BK210.out hb); replace HB := Ak (below_step (Qb HB.out) hb); (try clear hb)))
    go_ret
    exact ⟨Qh, Qb HB.out⟩
   ·rw [if_neg c9] at H
    exact absurd H (by simp)
  ·rw [if_neg c7] at H
   have c7b0 : (a0_0 == 2) = false := beq_eq_false_iff_ne.mpr c7
   have c7b1 : (a0_0 != 2) = true := bne_iff_ne.mpr c7
   by_cases c13 : a0_0 = 3
   ·rw [if_pos c13] at H
    have c13b0 : (a0_0 == 3) = true := beq_iff_eq.mpr c13
    have c13b1 : (a0_0 != 3) = false := bne_eq_false_iff_eq.mpr c13
    clear c13
    replace H := Option.bind_eq_some_iff.mp H
    obtain ⟨t213, A140, H⟩ := H
    replace H : (if 1 + t213.size ≤ 9223372036854775807 then (some ((⟨#[45]⟩ : ByteArray) ++ t213)) else (none)) = some r := H
    have A14 := Ak A140
    clear A140
    by_cases c15 : 1 + t213.size ≤ 9223372036854775807
    ·rw [if_pos c15] at H
     have c15b0 := eq_true c15
     have c15b1 : decide (1 + t213.size ≤ 9223372036854775807) = true := decide_eq_true c15
     try have c15b2 : (9223372036854775807 < 1 + t213.size) = False := eq_false (Nat.not_lt.2 c15)
     obtain rfl := Option.some.inj H
     go_enter Tryd.func43, Tryd.ntmps43
     go_wp2_with (first | ((with_reducible refine gate_dst (N := 1) rfl ?_); refine Qk 1 #[.int .i64 a0_0, .int .i64 a0_1, .slice A0_2 l0_2.length c0_2] 25 ?_; intro gb210 hg w16 hbox hb; have BK210 := Ak (hbox); have GW210 := Ak ((Qp hg HB.out : w.heap.size ≤ gb210)); have GE210 := Ak ((Qp hg HB.out : w.heap.size ≤ gb210)); replace HB := Ak (below_step (Qb HB.out) hb); clear hb hbox hg; obtain ⟨hcz17_0, hcz17_1, hcz17_2⟩ := Qu3 BK210.out; have hfz17_0 := blk_frozen BK210.out 0; have hfz17_1 := blk_frozen BK210.out 1; have hfz17_2 := blk_frozen BK210.out 2) | ((with_reducible refine gate_callee (f := 86) rfl ?_); refine Qj (some 18) Tryd.func86 #[.agg #[.int .i64 a0_0, .int .i64 a0_1, .slice A0_2 l0_2.length c0_2], .int .i64 0] ?_; (with_reducible refine (ihG_86 k (by omega) a0_0 a0_1 _ _ l0_2 0 t213 _ ?side1 ?side2 ?side3 A14.out).mono ?_); (case side1 => exact U_14); (case side2 => exact U_30); (case side3 => exact U_29); rintro e w18 ⟨rfl, hb⟩; refine ⟨_, rfl, ?_⟩; replace BK210 := Ak (Qm BK210.out hb); replace HB := Ak (below_step (Qb HB.out) hb); (try clear hb)))
     go_ret
     exact ⟨Qh, Qb HB.out⟩
    ·rw [if_neg c15] at H
     exact absurd H (by simp)
   ·rw [if_neg c13] at H
    have c13b0 : (a0_0 == 3) = false := beq_eq_false_iff_ne.mpr c13
    have c13b1 : (a0_0 != 3) = true := bne_iff_ne.mpr c13
    replace H := Option.bind_eq_some_iff.mp H
    obtain ⟨t214, A190, H⟩ := H
    replace H : (if t214.size + 1 ≤ 9223372036854775807 then (if 0 ≤ (wrap64 (a0_0 - 4)) then (if (wrap64 (a0_0 - 4)) ≤ (wrap64 ((wrap64 (a0_0 - 4)) + 1)) then (if (wrap64 ((wrap64 (a0_0 - 4)) + 1)) ≤ 5 then (if (t214 ++ (⟨#[32]⟩ : ByteArray)).size + ((⟨#[43, 45, 42, 47, 37]⟩ : ByteArray).extract ((wrap64 (a0_0 - 4)) : Int).toNat ((wrap64 ((wrap64 (a0_0 - 4)) + 1)) : Int).toNat).size ≤ 9223372036854775807 then (if ((t214 ++ (⟨#[32]⟩ : ByteArray)) ++ ((⟨#[43, 45, 42, 47, 37]⟩ : ByteArray).extract ((wrap64 (a0_0 - 4)) : Int).toNat ((wrap64 ((wrap64 (a0_0 - 4)) + 1)) : Int).toNat)).size + 1 ≤ 9223372036854775807 then ((impl_kidText.f k a0_0 a0_1 l0_2 1).bind fun t215 => (if (((t214 ++ (⟨#[32]⟩ : ByteArray)) ++ ((⟨#[43, 45, 42, 47, 37]⟩ : ByteArray).extract ((wrap64 (a0_0 - 4)) : Int).toNat ((wrap64 ((wrap64 (a0_0 - 4)) + 1)) : Int).toNat)) ++ (⟨#[32]⟩ : ByteArray)).size + t215.size ≤ 9223372036854775807 then (some ((((t214 ++ (⟨#[32]⟩ : ByteArray)) ++ ((⟨#[43, 45, 42, 47, 37]⟩ : ByteArray).extract ((wrap64 (a0_0 - 4)) : Int).toNat ((wrap64 ((wrap64 (a0_0 - 4)) + 1)) : Int).toNat)) ++ (⟨#[32]⟩ : ByteArray)) ++ t215)) else (none))) else (none)) else (none)) else (none)) else (none)) else (none)) else (none)) = some r := H
    have A19 := Ak A190
    clear A190
    by_cases c20 : t214.size + 1 ≤ 9223372036854775807
    ·rw [if_pos c20] at H
     have c20b0 := eq_true c20
     have c20b1 : decide (t214.size + 1 ≤ 9223372036854775807) = true := decide_eq_true c20
     try have c20b2 : (9223372036854775807 < t214.size + 1) = False := eq_false (Nat.not_lt.2 c20)
     obtain ⟨ji21, hji21⟩ : ∃ j_ : Int, (wrap64 (a0_0 - 4)) = j_ := ⟨_, rfl⟩
     replace H : (if 0 ≤ (ji21) then (if (ji21) ≤ (wrap64 ((ji21) + 1)) then (if (wrap64 ((ji21) + 1)) ≤ 5 then (if (t214 ++ (⟨#[32]⟩ : ByteArray)).size + ((⟨#[43, 45, 42, 47, 37]⟩ : ByteArray).extract ((ji21) : Int).toNat ((wrap64 ((ji21) + 1)) : Int).toNat).size ≤ 9223372036854775807 then (if ((t214 ++ (⟨#[32]⟩ : ByteArray)) ++ ((⟨#[43, 45, 42, 47, 37]⟩ : ByteArray).extract ((ji21) : Int).toNat ((wrap64 ((ji21) + 1)) : Int).toNat)).size + 1 ≤ 9223372036854775807 then ((impl_kidText.f k a0_0 a0_1 l0_2 1).bind fun t215 => (if (((t214 ++ (⟨#[32]⟩ : ByteArray)) ++ ((⟨#[43, 45, 42, 47, 37]⟩ : ByteArray).extract ((ji21) : Int).toNat ((wrap64 ((ji21) + 1)) : Int).toNat)) ++ (⟨#[32]⟩ : ByteArray)).size + t215.size ≤ 9223372036854775807 then (some ((((t214 ++ (⟨#[32]⟩ : ByteArray)) ++ ((⟨#[43, 45, 42, 47, 37]⟩ : ByteArray).extract ((ji21) : Int).toNat ((wrap64 ((ji21) + 1)) : Int).toNat)) ++ (⟨#[32]⟩ : ByteArray)) ++ t215)) else (none))) else (none)) else (none)) else (none)) else (none)) else (none)) = some r := by first | (rw [hji21] at H; exact H) | (simp only [hji21] at H ⊢; exact H)
     (try rw [hji21] at A19)
     have hji21w : (IntKind.i64.wrap (a0_0 - 4)) = ji21 := (i64_w _).trans hji21
     by_cases c22 : 0 ≤ (ji21)
     ·rw [if_pos c22] at H
      have c22b0 := eq_true c22
      have c22b1 : decide (0 ≤ (ji21)) = true := decide_eq_true c22
      clear c22
      by_cases c23 : (ji21) ≤ (wrap64 ((ji21) + 1))
      ·rw [if_pos c23] at H
       have c23b0 := eq_true c23
       have c23b1 : decide ((ji21) ≤ (wrap64 ((ji21) + 1))) = true := decide_eq_true c23
       by_cases c24 : (wrap64 ((ji21) + 1)) ≤ 5
       ·rw [if_pos c24] at H
        have c24b0 := eq_true c24
        have c24b1 : decide ((wrap64 ((ji21) + 1)) ≤ 5) = true := decide_eq_true c24
        by_cases c25 : (t214 ++ (⟨#[32]⟩ : ByteArray)).size + ((⟨#[43, 45, 42, 47, 37]⟩ : ByteArray).extract ((ji21) : Int).toNat ((wrap64 ((ji21) + 1)) : Int).toNat).size ≤ 9223372036854775807
        ·rw [if_pos c25] at H
         have c25b0 := eq_true c25
         have c25b1 : decide ((t214 ++ (⟨#[32]⟩ : ByteArray)).size + ((⟨#[43, 45, 42, 47, 37]⟩ : ByteArray).extract ((ji21) : Int).toNat ((wrap64 ((ji21) + 1)) : Int).toNat).size ≤ 9223372036854775807) = true := decide_eq_true c25
         try have c25b2 : (9223372036854775807 < (t214 ++ (⟨#[32]⟩ : ByteArray)).size + ((⟨#[43, 45, 42, 47, 37]⟩ : ByteArray).extract ((ji21) : Int).toNat ((wrap64 ((ji21) + 1)) : Int).toNat).size) = False := eq_false (Nat.not_lt.2 c25)
         have c25n := c25
         (simp only [ByteArray.size_append', ByteArray.size_mk', ByteArray.size_extract, List.size_toArray, List.length_cons, List.length_nil] at c25n)
         by_cases c26 : ((t214 ++ (⟨#[32]⟩ : ByteArray)) ++ ((⟨#[43, 45, 42, 47, 37]⟩ : ByteArray).extract ((ji21) : Int).toNat ((wrap64 ((ji21) + 1)) : Int).toNat)).size + 1 ≤ 9223372036854775807
         ·rw [if_pos c26] at H
          have c26b0 := eq_true c26
          have c26b1 : decide (((t214 ++ (⟨#[32]⟩ : ByteArray)) ++ ((⟨#[43, 45, 42, 47, 37]⟩ : ByteArray).extract ((ji21) : Int).toNat ((wrap64 ((ji21) + 1)) : Int).toNat)).size + 1 ≤ 9223372036854775807) = true := decide_eq_true c26
          try have c26b2 : (9223372036854775807 < ((t214 ++ (⟨#[32]⟩ : ByteArray)) ++ ((⟨#[43, 45, 42, 47, 37]⟩ : ByteArray).extract ((ji21) : Int).toNat ((wrap64 ((ji21) + 1)) : Int).toNat)).size + 1) = False := eq_false (Nat.not_lt.2 c26)
          have c26n := c26
          (simp only [ByteArray.size_append', ByteArray.size_mk', ByteArray.size_extract, List.size_toArray, List.length_cons, List.length_nil] at c26n)
          replace H := Option.bind_eq_some_iff.mp H
          obtain ⟨t215, A270, H⟩ := H
          replace H : (if (((t214 ++ (⟨#[32]⟩ : ByteArray)) ++ ((⟨#[43, 45, 42, 47, 37]⟩ : ByteArray).extract ((ji21) : Int).toNat ((wrap64 ((ji21) + 1)) : Int).toNat)) ++ (⟨#[32]⟩ : ByteArray)).size + t215.size ≤ 9223372036854775807 then (some ((((t214 ++ (⟨#[32]⟩ : ByteArray)) ++ ((⟨#[43, 45, 42, 47, 37]⟩ : ByteArray).extract ((ji21) : Int).toNat ((wrap64 ((ji21) + 1)) : Int).toNat)) ++ (⟨#[32]⟩ : ByteArray)) ++ t215)) else (none)) = some r := H
          have A27 := Ak A270
          clear A270
          by_cases c28 : (((t214 ++ (⟨#[32]⟩ : ByteArray)) ++ ((⟨#[43, 45, 42, 47, 37]⟩ : ByteArray).extract ((ji21) : Int).toNat ((wrap64 ((ji21) + 1)) : Int).toNat)) ++ (⟨#[32]⟩ : ByteArray)).size + t215.size ≤ 9223372036854775807
          ·rw [if_pos c28] at H
           have c28b0 := eq_true c28
           have c28b1 : decide ((((t214 ++ (⟨#[32]⟩ : ByteArray)) ++ ((⟨#[43, 45, 42, 47, 37]⟩ : ByteArray).extract ((ji21) : Int).toNat ((wrap64 ((ji21) + 1)) : Int).toNat)) ++ (⟨#[32]⟩ : ByteArray)).size + t215.size ≤ 9223372036854775807) = true := decide_eq_true c28
           try have c28b2 : (9223372036854775807 < (((t214 ++ (⟨#[32]⟩ : ByteArray)) ++ ((⟨#[43, 45, 42, 47, 37]⟩ : ByteArray).extract ((ji21) : Int).toNat ((wrap64 ((ji21) + 1)) : Int).toNat)) ++ (⟨#[32]⟩ : ByteArray)).size + t215.size) = False := eq_false (Nat.not_lt.2 c28)
           have c28n := c28
           (simp only [ByteArray.size_append', ByteArray.size_mk', ByteArray.size_extract, List.size_toArray, List.length_cons, List.length_nil] at c28n)
           obtain rfl := Option.some.inj H
           go_enter Tryd.func43, Tryd.ntmps43
           try go_wp2_with (first | ((with_reducible refine gate_dst (N := 1) rfl ?_); refine Qk 1 #[.int .i64 a0_0, .int .i64 a0_1, .slice A0_2 l0_2.length c0_2] 25 ?_; intro gb210 hg w29 hbox hb; have BK210 := Ak (hbox); have GW210 := Ak ((Qp hg HB.out : w.heap.size ≤ gb210)); have GE210 := Ak ((Qp hg HB.out : w.heap.size ≤ gb210)); replace HB := Ak (below_step (Qb HB.out) hb); clear hb hbox hg; obtain ⟨hcz30_0, hcz30_1, hcz30_2⟩ := Qu3 BK210.out; have hfz30_0 := blk_frozen BK210.out 0; have hfz30_1 := blk_frozen BK210.out 1; have hfz30_2 := blk_frozen BK210.out 2))
           have n0_ := Ak (blk_drew BK210.out)
           have n1_ := Ak (below_drew1 HB.out)
           clear BK210 HB
           have BK210 := n0_
           have HB := n1_
           clear n0_ n1_
           refine start_ (n := 17) (S := fun w' => w'.cell? ⟨gb210, 0, none⟩ = some (.int .i64 a0_0) ∧ w'.cell? ⟨gb210, 1, none⟩ = some (.int .i64 a0_1) ∧ w'.cell? ⟨gb210, 2, none⟩ = some (.slice A0_2 l0_2.length c0_2)) (ds := []) #[false, false, false, false, false, false, false, false, false, false, false, false, false, false, false, false, false] (by kernel_rfl) rfl rfl ⟨(blk_cell BK210.out 0).trans rfl, (blk_cell BK210.out 1).trans rfl, (blk_cell BK210.out 2).trans rfl⟩ (fun hHeld => ?_); refine with_tabW impl_exprText.tab8 impl_exprText.bits8 (fun HT_ HW_ => ?_)
           generalize w29.drew = w31 at BK210 HB hHeld ⊢
           refine pure_ (i := 3) (N := some 23) (v := ?_) (a' := ?_) #[false, false, false, true, false, false, false, false, false, false, false, false, false, false, false, false, false] rfl rfl (any_of HT_.out (by kernel_rfl)) (fun _ _ _ h => h) (Or.inl ⟨by rfl, ?_⟩) ?_ ?_
           rotate_left
           ·intro w'
            first | (go_simp; with_reducible rfl) | (go_simp; refine (if_neg (by omega)).trans ?_; with_reducible rfl)
           rotate_left
           ·simp only [Act.put, List.setIfInBounds_toArray, List.set_cons_zero, List.set_cons_succ, i64_w, i32_w]
            rfl
           refine pure_ (i := 6) (N := some 26) (v := ?_) (a' := ?_) #[false, false, false, true, false, false, true, false, false, false, false, false, false, false, false, false, false] rfl rfl (any_of HT_.out (by kernel_rfl)) (fun _ _ _ h => h) (Or.inl ⟨by rfl, ?_⟩) ?_ ?_
           rotate_left
           ·intro w'
            first | (go_simp; with_reducible rfl) | (go_simp; refine (if_neg (by omega)).trans ?_; with_reducible rfl)
           rotate_left
           ·simp only [Act.put, List.setIfInBounds_toArray, List.set_cons_zero, List.set_cons_succ, i64_w, i32_w]
            rfl
           refine take_ (i := 0) (N := some 20) (v := ?_) (a' := ?_) #[true, false, false, true, false, false, true, false, false, false, false, false, false, false, false, false, false] rfl rfl (take_ofW HT_.out HW_.out (by kernel_rfl)) (fun _ _ _ h => h) (Or.inl ⟨by rfl, ?_⟩) hHeld ?_ ?_
           rotate_left
           ·rintro w' ⟨s0, s1, s2⟩
            first | (go_simp; with_reducible rfl) | (go_simp; refine (if_neg (by omega)).trans ?_; with_reducible rfl)
           rotate_left
           ·simp only [Act.put, List.setIfInBounds_toArray, List.set_cons_zero, List.set_cons_succ, i64_w, i32_w]
            rfl
           refine take_ (i := 4) (N := some 24) (v := ?_) (a' := ?_) #[true, false, false, true, true, false, true, false, false, false, false, false, false, false, false, false, false] rfl rfl (take_ofW HT_.out HW_.out (by kernel_rfl)) (fun _ _ _ h => h) (Or.inl ⟨by rfl, ?_⟩) hHeld ?_ ?_
           rotate_left
           ·rintro w' ⟨s0, s1, s2⟩
            first | (go_simp; with_reducible rfl) | (go_simp; refine (if_neg (by omega)).trans ?_; with_reducible rfl)
           rotate_left
           ·simp only [Act.put, List.setIfInBounds_toArray, List.set_cons_zero, List.set_cons_succ, i64_w, i32_w]
            rfl
           refine pure_ (i := 5) (N := some 25) (v := ?_) (a' := ?_) #[true, false, false, true, true, true, true, false, false, false, false, false, false, false, false, false, false] rfl rfl (any_of HT_.out (by kernel_rfl)) (fun _ _ _ h => h) (Or.inl ⟨by rfl, ?_⟩) ?_ ?_
           rotate_left
           ·intro w'
            first | (go_simp; with_reducible rfl) | (go_simp; refine (if_neg (by omega)).trans ?_; with_reducible rfl)
           rotate_left
           ·simp only [Act.put, List.setIfInBounds_toArray, List.set_cons_zero, List.set_cons_succ, i64_w, i32_w]
            rfl
           refine take_ (i := 7) (N := some 27) (v := ?_) (a' := ?_) #[true, false, false, true, true, true, true, true, false, false, false, false, false, false, false, false, false] rfl rfl (take_ofW HT_.out HW_.out (by kernel_rfl)) (fun _ _ _ h => h) (Or.inl ⟨by rfl, ?_⟩) hHeld ?_ ?_
           rotate_left
           ·rintro w' ⟨s0, s1, s2⟩
            first | (go_simp; with_reducible rfl) | (go_simp; refine (if_neg (by omega)).trans ?_; with_reducible rfl)
           rotate_left
           ·simp only [Act.put, List.setIfInBounds_toArray, List.set_cons_zero, List.set_cons_succ, i64_w, i32_w]
            rfl
           refine pure_ (i := 8) (N := some 28) (v := ?_) (a' := ?_) #[true, false, false, true, true, true, true, true, true, false, false, false, false, false, false, false, false] rfl rfl (any_of HT_.out (by kernel_rfl)) (fun _ _ _ h => h) (Or.inl ⟨by rfl, ?_⟩) ?_ ?_
           rotate_left
           ·intro w'
            first | (go_simp; with_reducible rfl) | (go_simp; refine (if_neg (by omega)).trans ?_; with_reducible rfl)
           rotate_left
           ·simp only [Act.put, List.setIfInBounds_toArray, List.set_cons_zero, List.set_cons_succ, i64_w, i32_w]
            rfl
           refine pure_ (i := 9) (N := some 29) (v := ?_) (a' := ?_) #[true, false, false, true, true, true, true, true, true, true, false, false, false, false, false, false, false] rfl rfl (any_of HT_.out (by kernel_rfl)) (fun _ _ _ h => h) (Or.inl ⟨by rfl, ?_⟩) ?_ ?_
           rotate_left
           ·intro w'
            first | (go_simp; with_reducible rfl) | (go_simp; refine (if_neg (by omega)).trans ?_; with_reducible rfl)
           rotate_left
           ·simp only [Act.put, List.setIfInBounds_toArray, List.set_cons_zero, List.set_cons_succ, i64_w, i32_w]
            rfl
           refine pure_ (i := 10) (N := some 30) (v := ?_) (a' := ?_) #[true, false, false, true, true, true, true, true, true, true, true, false, false, false, false, false, false] rfl rfl (any_of HT_.out (by kernel_rfl)) (fun _ _ _ h => h) (Or.inl ⟨by rfl, ?_⟩) ?_ ?_
           rotate_left
           ·intro w'
            first | (go_simp; with_reducible rfl) | (go_simp; refine (if_neg (by omega)).trans ?_; with_reducible rfl)
           rotate_left
           ·simp only [Act.put, List.setIfInBounds_toArray, List.set_cons_zero, List.set_cons_succ, i64_w, i32_w]
            rfl
           refine take_ (i := 13) (N := some 33) (v := ?_) (a' := ?_) #[true, false, false, true, true, true, true, true, true, true, true, false, false, true, false, false, false] rfl rfl (take_ofW HT_.out HW_.out (by kernel_rfl)) (fun _ _ _ h => h) (Or.inl ⟨by rfl, ?_⟩) hHeld ?_ ?_
           rotate_left
           ·rintro w' ⟨s0, s1, s2⟩
            first | (go_simp; with_reducible rfl) | (go_simp; refine (if_neg (by omega)).trans ?_; with_reducible rfl)
           rotate_left
           ·simp only [Act.put, List.setIfInBounds_toArray, List.set_cons_zero, List.set_cons_succ, i64_w, i32_w]
            rfl
           refine Qs 1 (some 21) (fun K hK => ?_)
           refine goes_ Tryd.func86 (by kernel_rfl) rfl #[.agg #[.int .i64 a0_0, .int .i64 a0_1, .slice A0_2 l0_2.length c0_2], .int .i64 0] (by rfl) rfl rfl T_49 ?_
           with_reducible refine (ihG_86 k (by omega) a0_0 a0_1 _ _ l0_2 0 t214 _ ?side1 ?side2 ?side3 A19.out).mono ?_
           (case side1 => exact U_14)
           (case side2 => exact U_30)
           (case side3 => exact U_29)
           rintro e w32 ⟨rfl, hb⟩
           refine ⟨_, rfl, ?_⟩
           have n0_ := Ak (Qm BK210.out hb)
           have n1_ := Ak (below_step (Qb HB.out) hb)
           clear BK210 HB
           have BK210 := n0_
           have HB := n1_
           clear n0_ n1_
           (try clear hb)
           refine hK.out _ _ ⟨(blk_cell BK210.out 0).trans rfl, (blk_cell BK210.out 1).trans rfl, (blk_cell BK210.out 2).trans rfl⟩ (fun hHeld => ?_)
           clear hK K
           refine norm_ (a' := ?_) ?_ ?_
           rotate_left
           ·show Act.put _ (some 21) _ = _
            simp only [Act.put, List.setIfInBounds_toArray, List.set_cons_zero, List.set_cons_succ, i64_w, i32_w]
            rfl
           refine pure_ (i := 2) (N := some 22) (v := ?_) (a' := ?_) #[true, true, true, true, true, true, true, true, true, true, true, false, false, true, false, false, false] rfl rfl (any_of HT_.out (by kernel_rfl)) (fun _ _ _ h => h) (Or.inl ⟨by rfl, ?_⟩) ?_ ?_
           rotate_left
           ·intro w'
            first | (go_simp; with_reducible rfl) | (go_simp; refine (if_neg (by omega)).trans ?_; with_reducible rfl)
           rotate_left
           ·simp only [Act.put, List.setIfInBounds_toArray, List.set_cons_zero, List.set_cons_succ, i64_w, i32_w]
            rfl
           refine pure_ (i := 11) (N := some 31) (v := ?_) (a' := ?_) #[true, true, true, true, true, true, true, true, true, true, true, true, false, true, false, false, false] rfl rfl (any_of HT_.out (by kernel_rfl)) (fun _ _ _ h => h) (Or.inl ⟨by rfl, ?_⟩) ?_ ?_
           rotate_left
           ·intro w'
            first | (go_simp; with_reducible rfl) | (go_simp; refine (if_neg (by omega)).trans ?_; with_reducible rfl)
           rotate_left
           ·simp only [Act.put, List.setIfInBounds_toArray, List.set_cons_zero, List.set_cons_succ, i64_w, i32_w]
            rfl
           refine pure_ (i := 12) (N := some 32) (v := ?_) (a' := ?_) #[true, true, true, true, true, true, true, true, true, true, true, true, true, true, false, false, false] rfl rfl (any_of HT_.out (by kernel_rfl)) (fun _ _ _ h => h) (Or.inl ⟨by rfl, ?_⟩) ?_ ?_
           rotate_left
           ·intro w'
            first | (go_simp; with_reducible rfl) | (go_simp; refine (if_neg (by omega)).trans ?_; with_reducible rfl)
           rotate_left
           ·simp only [Act.put, List.setIfInBounds_toArray, List.set_cons_zero, List.set_cons_succ, i64_w, i32_w]
            rfl
           refine Qs 14 (some 34) (fun K hK => ?_)
           refine goes_ Tryd.func86 (by kernel_rfl) rfl #[.agg #[.int .i64 a0_0, .int .i64 a0_1, .slice A0_2 l0_2.length c0_2], .int .i64 1] (by rfl) rfl rfl T_49 ?_
           with_reducible refine (ihG_86 k (by omega) a0_0 a0_1 _ _ l0_2 1 t215 _ ?side1 ?side2 ?side3 A27.out).mono ?_
           (case side1 => exact U_14)
           (case side2 => exact U_30)
           (case side3 => exact U_29)
           rintro e w33 ⟨rfl, hb⟩
           refine ⟨_, rfl, ?_⟩
           have n0_ := Ak (Qm BK210.out hb)
           have n1_ := Ak (below_step (Qb HB.out) hb)
           clear BK210 HB
           have BK210 := n0_
           have HB := n1_
           clear n0_ n1_
           (try clear hb)
           refine hK.out _ _ ⟨(blk_cell BK210.out 0).trans rfl, (blk_cell BK210.out 1).trans rfl, (blk_cell BK210.out 2).trans rfl⟩ (fun hHeld => ?_)
           clear hK K
           refine norm_ (a' := ?_) ?_ ?_
           rotate_left
           ·show Act.put _ (some 34) _ = _
            simp only [Act.put, List.setIfInBounds_toArray, List.set_cons_zero, List.set_cons_succ, i64_w, i32_w]
            rfl
           refine pure_ (i := 15) (N := some 35) (v := ?_) (a' := ?_) #[true, true, true, true, true, true, true, true, true, true, true, true, true, true, true, true, false] rfl rfl (any_of HT_.out (by kernel_rfl)) (fun _ _ _ h => h) (Or.inl ⟨by rfl, ?_⟩) ?_ ?_
           rotate_left
           ·intro w'
            first | (go_simp; with_reducible rfl) | (go_simp; refine (if_neg (by omega)).trans ?_; with_reducible rfl)
           rotate_left
           ·simp only [Act.put, List.setIfInBounds_toArray, List.set_cons_zero, List.set_cons_succ, i64_w, i32_w]
            rfl
           refine pure_ (i := 16) (N := some 2) (v := ?_) (a' := ?_) #[true, true, true, true, true, true, true, true, true, true, true, true, true, true, true, true, true] rfl rfl (any_of HT_.out (by kernel_rfl)) (fun _ _ _ h => h) (Or.inl ⟨by rfl, ?_⟩) ?_ ?_
           rotate_left
           ·intro w'
            first | (go_simp; with_reducible rfl) | (go_simp; refine (if_neg (by omega)).trans ?_; with_reducible rfl)
           rotate_left
           ·simp only [Act.put, List.setIfInBounds_toArray, List.set_cons_zero, List.set_cons_succ, i64_w, i32_w]
            rfl
           refine done_ (done_of HT_.out (by kernel_rfl)) ?_
           try go_wp2
           go_ret
           exact ⟨by first | rfl | (simp [errW_none, errW_some] <;> rfl) | (simp only [← hji21]; first | rfl | (simp [errW_none, errW_some] <;> rfl)) | (simp [*, errW_none, errW_some] <;> rfl), Qb HB.out⟩
          ·rw [if_neg c28] at H
           exact absurd H (by simp)
         ·rw [if_neg c26] at H
          exact absurd H (by simp)
        ·rw [if_neg c25] at H
         exact absurd H (by simp)
       ·rw [if_neg c24] at H
        exact absurd H (by simp)
      ·rw [if_neg c23] at H
       exact absurd H (by simp)
     ·rw [if_neg c22] at H
      exact absurd H (by simp)
    ·rw [if_neg c20] at H
     exact absurd H (by simp)
theorem impl_kidText.calls_g (k : Nat) : (∀ (a0_0 : Int) (a0_1 : Int) (A0_2 : Option Addr) (c0_2 : Nat) (l0_2 : List (S25)) (a1 : Int) (r : ByteArray) (w : World) (hr0_2 : Kd.C k25 w A0_2 l0_2.length l0_2) (hc0_2 : l0_2.length ≤ c0_2) (hL : Aside0 (Laid w)) (h : impl_kidText.f k a0_0 a0_1 l0_2 a1 = some r),
  Calls Tryd.prog 86 #[.agg #[.int .i64 a0_0, .int .i64 a0_1, .slice A0_2 l0_2.length c0_2], .int .i64 a1] w fun e w' => e = .returned (.string r) ∧ Below w.heap.size w w') ∧ (∀ (a0_0 : Int) (a0_1 : Int) (A0_2 : Option Addr) (c0_2 : Nat) (l0_2 : List (S25)) (r : ByteArray) (w : World) (hr0_2 : Kd.C k25 w A0_2 l0_2.length l0_2) (hc0_2 : l0_2.length ≤ c0_2) (hL : Aside0 (Laid w)) (h : impl_exprText.f k a0_0 a0_1 l0_2 = some r),
  Calls Tryd.prog 43 #[.agg #[.int .i64 a0_0, .int .i64 a0_1, .slice A0_2 l0_2.length c0_2]] w fun e w' => e = .returned (.string r) ∧ Below w.heap.size w w') := by
 induction k using Nat.strongRecOn with
 | _ k ih =>
 exact ⟨impl_kidText.step k (fun m_ hm_ => (ih m_ hm_).1) (fun m_ hm_ => (ih m_ hm_).2), impl_exprText.step k (fun m_ hm_ => (ih m_ hm_).1) (fun m_ hm_ => (ih m_ hm_).2)⟩
theorem impl_exprText.calls (k : Nat) : ∀ (a0_0 : Int) (a0_1 : Int) (A0_2 : Option Addr) (c0_2 : Nat) (l0_2 : List (S25)) (r : ByteArray) (w : World) (hr0_2 : Kd.C k25 w A0_2 l0_2.length l0_2) (hc0_2 : l0_2.length ≤ c0_2) (hL : Aside0 (Laid w)) (h : impl_exprText.f k a0_0 a0_1 l0_2 = some r),
  Calls Tryd.prog 43 #[.agg #[.int .i64 a0_0, .int .i64 a0_1, .slice A0_2 l0_2.length c0_2]] w fun e w' => e = .returned (.string r) ∧ Below w.heap.size w w' := (impl_kidText.calls_g k).2

end Go.Proofs.YtjfgcipbbcplmaaDoor.HFnExprs

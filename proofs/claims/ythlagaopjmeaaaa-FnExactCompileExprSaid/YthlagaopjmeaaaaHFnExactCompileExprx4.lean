/- Text for FnExactCompileExpr: written by a program of this session on the pattern of the kit's print. -/
import Derived.Test.YthlagaopjmeaaaaHFnExactCompileExprx0
import Derived.Test.YthlagaopjmeaaaaHFnExactCompileExprx3
namespace Go.Proofs.Ythlagaopjmeaaaa.HFnExactCompileExpr
set_option maxHeartbeats 8000000
set_option maxRecDepth 100000
open Go.RowKit Go.Proofs.YthlagaopjmeaaaaW.PrintWords Go.Proofs.YthlagaopjmeaaaaW.PrintLast Go.Proofs.YthlagaopjmeaaaaW.PrintMore
attribute [local go_sem] max2_int min2_int max_two min_two max_three min_three max_four min_four
set_option linter.unusedVariables false
set_option linter.unusedSimpArgs false

/-! ### spec_IsExpr: function 18 -/
def spec_IsExpr.f (k : Nat) (a0_0 : Int) (a0_1 : Int) (l0_2 : List (S28)) : Option (Bool) := (spec_l10Size.f k a0_0 a0_1 l0_2).bind fun bt143 => (if bt143.1 ≤ 60 then (if bt143.2 ≤ 12 then ((spec_l10Shape.f k a0_0 a0_1 l0_2).bind fun t145 => (some t145)) else (some false)) else (some false))
theorem spec_IsExpr.mono : ∀ a0 a1 a2 k, LeO (spec_IsExpr.f k a0 a1 a2) (spec_IsExpr.f (k + 1) a0 a1 a2) := by
 intro a0 a1 a2 k
 unfold spec_IsExpr.f
 repeat' first
   | (with_reducible exact spec_l10Shape.mono _ _ _ _)
   | (with_reducible exact spec_l10Size.mono _ _ _ _)
   | (with_reducible exact LeO.refl _)
   | (with_reducible exact LeO.none _)
   | (with_reducible refine LeO.ite ?_ ?_)
   | (with_reducible refine LeO.bind ?_ (fun _ => ?_))
   | exact spec_l10Shape.mono _ _ _ _
   | exact spec_l10Size.mono _ _ _ _
   | exact LeO.none _
   | refine LeO.ite ?_ ?_
   | refine LeO.bind ?_ (fun _ => ?_)
theorem spec_IsExpr.calls (k : Nat) (a0_0 : Int) (a0_1 : Int) (A0_2 : Option Addr) (c0_2 : Nat) (l0_2 : List (S28)) (r : Bool) (w : World) (hr0_2 : Kd.C k28 w A0_2 l0_2.length l0_2) (hc0_2 : l0_2.length ≤ c0_2) (h : spec_IsExpr.f k a0_0 a0_1 l0_2 = some r) :
  Calls Try.prog 18 #[.agg #[.int .i64 a0_0, .int .i64 a0_1, .slice A0_2 l0_2.length c0_2]] w fun e w' => e = .returned (.bool r) ∧ Below w.heap.size w w' := by
 have hu28 := Try.underlying28
 have HR0_2 := Ak hr0_2
 have HC0_2 := Ak hc0_2
 clear hr0_2 hc0_2
 have HB := Ak (Below.refl w.heap.size w)
 have H : ((spec_l10Size.f k a0_0 a0_1 l0_2).bind fun bt143 => (if bt143.1 ≤ 60 then (if bt143.2 ≤ 12 then ((spec_l10Shape.f k a0_0 a0_1 l0_2).bind fun t145 => (some t145)) else (some false)) else (some false))) = some r := h
 clear h
 replace H := Option.bind_eq_some_iff.mp H
 obtain ⟨⟨t143, t144⟩, A20, H⟩ := H
 replace H : (if t143 ≤ 60 then (if t144 ≤ 12 then ((spec_l10Shape.f k a0_0 a0_1 l0_2).bind fun t145 => (some t145)) else (some false)) else (some false)) = some r := H
 have A2 := Ak A20
 clear A20
 by_cases c3 : t143 ≤ 60
 ·rw [if_pos c3] at H
  have c3b0 : decide (t143 ≤ 60) = true := decide_eq_true c3
  clear c3
  by_cases c4 : t144 ≤ 12
  ·rw [if_pos c4] at H
   have c4b0 : decide (t144 ≤ 12) = true := decide_eq_true c4
   clear c4
   replace H := Option.bind_eq_some_iff.mp H
   obtain ⟨t145, A50, H⟩ := H
   replace H : (some t145) = some r := H
   have A5 := Ak A50
   clear A50
   obtain rfl := Option.some.inj H
   go_enter Try.func18, Try.ntmps18
   go_wp2_with (first | ((with_reducible refine gate_dst (N := 1) rfl ?_); refine Qk 1 #[.int .i64 a0_0, .int .i64 a0_1, .slice A0_2 l0_2.length c0_2] 28 ?_; intro gb142 hg w6 hbox hb; have n0_ := Ak (below_step (Qb HB.out) hb); have n1_ := Ak (hbox); have n2_ := Ak ((Qp hg HB.out : w.heap.size ≤ gb142)); have n3_ := Ak ((Qp hg HB.out : w.heap.size ≤ gb142)); clear HB; have HB := n0_; have BK142 := n1_; have GW142 := n2_; have GE142 := n3_; clear n0_ n1_ n2_ n3_; clear hb hbox hg; obtain ⟨hcz7_0, hcz7_1, hcz7_2⟩ := Qu3 BK142.out; have hfz7_0 := blk_frozen BK142.out 0; have hfz7_1 := blk_frozen BK142.out 1; have hfz7_2 := blk_frozen BK142.out 2) | ((with_reducible refine gate_callee (f := 32) rfl ?_); refine Qj (some 7) Try.func32 #[.agg #[.int .i64 a0_0, .int .i64 a0_1, .slice A0_2 l0_2.length c0_2]] ?_; (with_reducible refine (spec_l10Size.calls k a0_0 a0_1 _ _ l0_2 t143 t144 _ ?side1 ?side2 A2.out).mono ?_); (case side1 => repeat (first | exact (Kd.C_below HR0_2.out HB.out) | (with_reducible refine Kd.C_alloc ?_ _) | (with_reducible refine Kd.C_drewN ?_ _) | (with_reducible refine Kd.C_drew ?_))); (case side2 => exact HC0_2.out); rintro e w8 ⟨rfl, hb⟩; refine ⟨_, rfl, ?_⟩; have n0_ := Ak (Qm BK142.out hb); have n1_ := Ak (below_step (Qb HB.out) hb); clear BK142 HB; have BK142 := n0_; have HB := n1_; clear n0_ n1_; (try clear hb); (try clear hb2); (try clear hk); (try clear hi); obtain ⟨hcz9_0, hcz9_1, hcz9_2⟩ := Qu3 BK142.out; have hfz9_0 := blk_frozen BK142.out 0; have hfz9_1 := blk_frozen BK142.out 1; have hfz9_2 := blk_frozen BK142.out 2) | (go_at_call 33; (with_reducible refine (spec_l10Shape.calls k a0_0 a0_1 _ _ l0_2 t145 _ ?side1 ?side2 A5.out).mono ?_); (case side1 => repeat (first | exact (Kd.C_below HR0_2.out HB.out) | (with_reducible refine Kd.C_alloc ?_ _) | (with_reducible refine Kd.C_drewN ?_ _) | (with_reducible refine Kd.C_drew ?_))); (case side2 => exact HC0_2.out); rintro e w10 ⟨rfl, hb⟩; have n0_ := Ak (Qm BK142.out hb); have n1_ := Ak (below_step (Qb HB.out) hb); clear BK142 HB; have BK142 := n0_; have HB := n1_; clear n0_ n1_; (try clear hb); (try clear hb2); (try clear hk); (try clear hi)))
   go_ret
   exact ⟨Qh, Qb HB.out⟩
  ·rw [if_neg c4] at H
   have c4b0 : decide (t144 ≤ 12) = false := decide_eq_false c4
   clear c4
   obtain rfl := Option.some.inj H
   go_enter Try.func18, Try.ntmps18
   go_wp2_with (first | ((with_reducible refine gate_dst (N := 1) rfl ?_); refine Qk 1 #[.int .i64 a0_0, .int .i64 a0_1, .slice A0_2 l0_2.length c0_2] 28 ?_; intro gb142 hg w11 hbox hb; have n0_ := Ak (below_step (Qb HB.out) hb); have n1_ := Ak (hbox); have n2_ := Ak ((Qp hg HB.out : w.heap.size ≤ gb142)); have n3_ := Ak ((Qp hg HB.out : w.heap.size ≤ gb142)); clear HB; have HB := n0_; have BK142 := n1_; have GW142 := n2_; have GE142 := n3_; clear n0_ n1_ n2_ n3_; clear hb hbox hg; obtain ⟨hcz12_0, hcz12_1, hcz12_2⟩ := Qu3 BK142.out; have hfz12_0 := blk_frozen BK142.out 0; have hfz12_1 := blk_frozen BK142.out 1; have hfz12_2 := blk_frozen BK142.out 2) | ((with_reducible refine gate_callee (f := 32) rfl ?_); refine Qj (some 7) Try.func32 #[.agg #[.int .i64 a0_0, .int .i64 a0_1, .slice A0_2 l0_2.length c0_2]] ?_; (with_reducible refine (spec_l10Size.calls k a0_0 a0_1 _ _ l0_2 t143 t144 _ ?side1 ?side2 A2.out).mono ?_); (case side1 => repeat (first | exact (Kd.C_below HR0_2.out HB.out) | (with_reducible refine Kd.C_alloc ?_ _) | (with_reducible refine Kd.C_drewN ?_ _) | (with_reducible refine Kd.C_drew ?_))); (case side2 => exact HC0_2.out); rintro e w13 ⟨rfl, hb⟩; refine ⟨_, rfl, ?_⟩; have n0_ := Ak (Qm BK142.out hb); have n1_ := Ak (below_step (Qb HB.out) hb); clear BK142 HB; have BK142 := n0_; have HB := n1_; clear n0_ n1_; (try clear hb); (try clear hb2); (try clear hk); (try clear hi)))
   go_ret
   exact ⟨Qh, Qb HB.out⟩
 ·rw [if_neg c3] at H
  have c3b0 : decide (t143 ≤ 60) = false := decide_eq_false c3
  clear c3
  obtain rfl := Option.some.inj H
  go_enter Try.func18, Try.ntmps18
  go_wp2_with (first | ((with_reducible refine gate_dst (N := 1) rfl ?_); refine Qk 1 #[.int .i64 a0_0, .int .i64 a0_1, .slice A0_2 l0_2.length c0_2] 28 ?_; intro gb142 hg w14 hbox hb; have n0_ := Ak (below_step (Qb HB.out) hb); have n1_ := Ak (hbox); have n2_ := Ak ((Qp hg HB.out : w.heap.size ≤ gb142)); have n3_ := Ak ((Qp hg HB.out : w.heap.size ≤ gb142)); clear HB; have HB := n0_; have BK142 := n1_; have GW142 := n2_; have GE142 := n3_; clear n0_ n1_ n2_ n3_; clear hb hbox hg; obtain ⟨hcz15_0, hcz15_1, hcz15_2⟩ := Qu3 BK142.out; have hfz15_0 := blk_frozen BK142.out 0; have hfz15_1 := blk_frozen BK142.out 1; have hfz15_2 := blk_frozen BK142.out 2) | ((with_reducible refine gate_callee (f := 32) rfl ?_); refine Qj (some 7) Try.func32 #[.agg #[.int .i64 a0_0, .int .i64 a0_1, .slice A0_2 l0_2.length c0_2]] ?_; (with_reducible refine (spec_l10Size.calls k a0_0 a0_1 _ _ l0_2 t143 t144 _ ?side1 ?side2 A2.out).mono ?_); (case side1 => repeat (first | exact (Kd.C_below HR0_2.out HB.out) | (with_reducible refine Kd.C_alloc ?_ _) | (with_reducible refine Kd.C_drewN ?_ _) | (with_reducible refine Kd.C_drew ?_))); (case side2 => exact HC0_2.out); rintro e w16 ⟨rfl, hb⟩; refine ⟨_, rfl, ?_⟩; have n0_ := Ak (Qm BK142.out hb); have n1_ := Ak (below_step (Qb HB.out) hb); clear BK142 HB; have BK142 := n0_; have HB := n1_; clear n0_ n1_; (try clear hb); (try clear hb2); (try clear hk); (try clear hi)))
  go_ret
  exact ⟨Qh, Qb HB.out⟩

/-! ### spec_WrapCell: function 36 -/
def spec_WrapCell.f (a0 : Int) : Option (Int) := if (Int.tmod a0 19683) > 9841 then (if (wrap64 ((Int.tmod a0 19683) - 19683)) < (-9841) then (some (wrap64 ((wrap64 ((Int.tmod a0 19683) - 19683)) + 19683))) else (some (wrap64 ((Int.tmod a0 19683) - 19683)))) else (if (Int.tmod a0 19683) < (-9841) then (some (wrap64 ((Int.tmod a0 19683) + 19683))) else (some (Int.tmod a0 19683)))
theorem spec_WrapCell.calls (a0 : Int) (r : Int) (w : World) (h : spec_WrapCell.f a0 = some r) :
  Calls Try.prog 36 #[.int .i64 a0] w fun e w' => e = .returned (.int .i64 r) ∧ Drawn0 w w' := by
 have H : (if (Int.tmod a0 19683) > 9841 then (if (wrap64 ((Int.tmod a0 19683) - 19683)) < (-9841) then (some (wrap64 ((wrap64 ((Int.tmod a0 19683) - 19683)) + 19683))) else (some (wrap64 ((Int.tmod a0 19683) - 19683)))) else (if (Int.tmod a0 19683) < (-9841) then (some (wrap64 ((Int.tmod a0 19683) + 19683))) else (some (Int.tmod a0 19683)))) = some r := h
 clear h
 by_cases c2 : (Int.tmod a0 19683) > 9841
 ·rw [if_pos c2] at H
  have c2b0 : decide (9841 < (Int.tmod a0 19683)) = true := decide_eq_true c2
  clear c2
  by_cases c3 : (wrap64 ((Int.tmod a0 19683) - 19683)) < (-9841)
  ·rw [if_pos c3] at H
   have c3b0 : decide ((wrap64 ((Int.tmod a0 19683) - 19683)) < (-9841)) = true := decide_eq_true c3
   clear c3
   obtain rfl := Option.some.inj H
   go_enter Try.func36, Try.ntmps36
   go_wp2
   go_ret
   exact ⟨Qi, Ql⟩
  ·rw [if_neg c3] at H
   have c3b0 : decide ((wrap64 ((Int.tmod a0 19683) - 19683)) < (-9841)) = false := decide_eq_false c3
   clear c3
   obtain rfl := Option.some.inj H
   go_enter Try.func36, Try.ntmps36
   go_wp2
   go_ret
   exact ⟨Qi, Ql⟩
 ·rw [if_neg c2] at H
  have c2b0 : decide (9841 < (Int.tmod a0 19683)) = false := decide_eq_false c2
  clear c2
  by_cases c4 : (Int.tmod a0 19683) < (-9841)
  ·rw [if_pos c4] at H
   have c4b0 : decide ((Int.tmod a0 19683) < (-9841)) = true := decide_eq_true c4
   clear c4
   obtain rfl := Option.some.inj H
   go_enter Try.func36, Try.ntmps36
   go_wp2
   go_ret
   exact ⟨Qi, Ql⟩
  ·rw [if_neg c4] at H
   have c4b0 : decide ((Int.tmod a0 19683) < (-9841)) = false := decide_eq_false c4
   clear c4
   obtain rfl := Option.some.inj H
   go_enter Try.func36, Try.ntmps36
   go_wp2
   go_ret
   exact ⟨Qi, Ql⟩

/-! ### spec_l10Code: function 27 -/
theorem spec_l10Code.newer {w W : World} {P0 : Nat → Prop} (h : Kept w W P0) : ∀ k, W.heap.size ≤ k → (P0 k ∨ w.heap.size ≤ k) := fun k hk => .inr (Nat.le_trans h.1 hk)
def spec_l10Code.fin (k : Nat) (a b : Int) (xs : List S50) : Option (List S50 × Bool) := if a = 1 then (spec_WrapCell.f b).bind fun t => if xs.length < 4398046511104 then some (xs ++ [⟨1, t, 0, 0⟩], true) else none
 else if a = 2 then some (xs, true) else if a = 3 then (if xs.length < 4398046511104 then some (xs ++ [⟨5, 0, 0, 0⟩], true) else none)
 else if a = 4 ∨ a = 5 ∨ a = 6 then (if xs.length < 4398046511104 then some (xs ++ [⟨wrap64 (wrap64 (2 + a) - 4), 0, 0, 0⟩], true) else none) else some ([], false)
theorem spec_l10Code.fin_mono (k : Nat) (a b : Int) (xs : List S50) : LeO (spec_l10Code.fin k a b xs) (spec_l10Code.fin (k + 1) a b xs) := LeO.refl _
mutual
def spec_l10Code.l0 : Nat → List S28 → Int → Int → Int → List S50 → Option (List S50 × Bool)
 | 0, _, _, _, _, _ => none
 | k + 1, l, i, a, b, xs => if i < (l.length : Int) then (spec_l10Code.f k (rd_T28 l i).f0 (rd_T28 l i).f1 (rd_T28 l i).f2 xs).bind fun t => if t.2 = true then spec_l10Code.l0 k l (wrap64 (i + 1)) a b t.1 else some ([], false)
  else spec_l10Code.fin k a b xs
def spec_l10Code.f : Nat → Int → Int → List S28 → List S50 → Option (List S50 × Bool)
 | 0, _, _, _, _ => none
 | k + 1, a, b, l, xs => spec_l10Code.l0 k l 0 a b xs
end
theorem spec_l10Code.mono_l : ∀ k, (∀ a b l xs, LeO (spec_l10Code.f k a b l xs) (spec_l10Code.f (k + 1) a b l xs)) ∧ (∀ l i a b xs, LeO (spec_l10Code.l0 k l i a b xs) (spec_l10Code.l0 (k + 1) l i a b xs))
 | 0 => ⟨fun _ _ _ _ r h => by simp [spec_l10Code.f] at h, fun _ _ _ _ _ r h => by simp [spec_l10Code.l0] at h⟩
 | k + 1 => by
  obtain ⟨ih0, ih1⟩ := spec_l10Code.mono_l k
  refine ⟨fun a b l xs => ?_, fun l i a b xs => ?_⟩
  ·rw [spec_l10Code.f.eq_2, spec_l10Code.f.eq_2]
   exact ih1 _ _ _ _ _
  ·rw [spec_l10Code.l0.eq_2, spec_l10Code.l0.eq_2]
   exact LeO.ite (LeO.bind (ih0 _ _ _ _) fun t => LeO.ite (ih1 _ _ _ _ _) (LeO.refl _)) (spec_l10Code.fin_mono _ _ _ _)
theorem spec_l10Code.mono : ∀ a b l xs k, LeO (spec_l10Code.f k a b l xs) (spec_l10Code.f (k + 1) a b l xs) := fun a b l xs k => (spec_l10Code.mono_l k).1 a b l xs
theorem spec_l10Code.callsR (k : Nat) : ∀ (P0 : Nat → Prop) (a b : Int) (A : Option Addr) (c : Nat) (l : List S28) (u : Value) (xs r1 : List S50) (r2 : Bool) (w0 w : World) (_ : Below w0.heap.size w0 w) (_ : Kd.C k28 w0 A l.length l) (_ : l.length ≤ c) (_ : Kd.R k50 50 w w0.heap.size P0 u xs) (_ : spec_l10Code.f k a b l xs = some (r1, r2)),
  Calls Try.prog 27 #[.agg #[.int .i64 a, .int .i64 b, .slice A l.length c], u] w fun e w' => ∃ v : Value, e = .returned (.tuple #[v, .bool r2]) ∧ Kd.R k50 50 w' w0.heap.size (fun k_ => P0 k_ ∨ w.heap.size ≤ k_) v r1 ∧ Below w0.heap.size w0 w' ∧ Kept w w' (fun k_ => P0 k_) := by
 induction k using Nat.strongRecOn with
 | _ k ih =>
 intro P0 a b A c l u xs r1 r2 w0 w hB hC hc ho h
 cases k with
 | zero => exact absurd h (by simp [spec_l10Code.f])
 | succ k =>
 rw [spec_l10Code.f.eq_2] at h
 have IH := Ak (ih k (Nat.lt_succ_self k))
 have IH2 := Ak ih
 clear ih IH
 have HR := Ak hC
 have HC := Ak hc
 have hu28 := Try.underlying28
 have hmax : l.length ≤ 9223372036854775807 := hC.2.1
 obtain ⟨Au, cu, rfl⟩ := Kd.R_slice ho
 have al := below_alloc (Below.refl w.heap.size w) (.cells #[.int .i64 a, .int .i64 b, .slice A l.length c] 28)
 have K1 := Ak (blk_new w (.cells #[.int .i64 a, .int .i64 b, .slice A l.length c] 28))
 have HB := Ak (below_step hB al)
 have HK := Ak (Kept.of_below al (fun k_ => P0 k_))
 have hlt : w.heap.size < (w.alloc (.cells #[.int .i64 a, .int .i64 b, .slice A l.length c] 28)).heap.size := by simp
 have HO := Ak (Kd.R_below (Kd.R_mono (Kd.R_bound ho) (ok' := fun k_ => (P0 k_ ∨ w.heap.size ≤ k_) ∧ k_ ≠ w.heap.size) (fun k_ hk => ⟨.inl hk.1, by have := hk.2.2.1; omega⟩)) al)
 have H' := Ak h
 clear al h hB hC hc ho
 go_enter Try.func27, Try.ntmps27
 go_upto_region 1 with fail
 generalize w.alloc (.cells #[.int .i64 a, .int .i64 b, .slice A l.length c] 28) = W at K1 HB HK HO hlt ⊢
 obtain ⟨gb, egb⟩ : ∃ g, g = w.heap.size := ⟨_, rfl⟩
 rw [← egb] at K1 hlt ⊢
 replace HO := Ak (Kd.R_mono HO.out (ok' := fun k_ => (P0 k_ ∨ w.heap.size ≤ k_) ∧ k_ ≠ gb) (fun k_ hk => ⟨hk.1, by rw [egb]; exact hk.2⟩))
 replace egb := Ak egb
 replace hlt := Ak hlt
 obtain ⟨m0, m1, m2⟩ := Qu3 K1.out
 go_wp2
 go_loopg [1, 13] k (fun kq v1 v13 w' => ∃ (x1 : List S50) (i : Int), v13 = .int .i64 i ∧ Aside0 (spec_l10Code.l0 kq l i a b x1 = some (r1, r2)) ∧ Aside0 (kq ≤ k) ∧ Aside0 (0 ≤ i) ∧ Aside0 (Kd.R k50 50 w' w0.heap.size (fun k_ => (P0 k_ ∨ w.heap.size ≤ k_) ∧ k_ ≠ gb) v1 x1) ∧ Aside0 (w'.heap[gb]? = some (.cells #[.int .i64 a, .int .i64 b, .slice A l.length c] 28 (0, 0))) ∧ Aside0 (gb < w'.heap.size) ∧ Aside0 (Below w0.heap.size w0 w') ∧ Aside0 (Kept w w' (fun k_ => P0 k_)))
 case atStart => exact ⟨xs, 0, rfl, H', ⟨Nat.le_refl _⟩, ⟨by omega⟩, HO, K1, hlt, HB, HK⟩
 case round =>
  clear H' m0 m1 m2 K1 HO HB HK hlt
  obtain ⟨x1, i, rfl, HA, HK1, Hi, HO, K1, hlt, HB, HK⟩ := hrel
  cases gk with
  | zero => exact absurd HA.out (by simp [spec_l10Code.l0])
  | succ k1 =>
  have H := HA.out
  clear HA
  rw [spec_l10Code.l0.eq_2] at H
  obtain ⟨Ax, cx, rfl⟩ := Kd.R_slice HO.out
  by_cases ci : i < (l.length : Int)
  ·rw [if_pos ci] at H
   have bi : decide (i < (l.length : Int)) = true := decide_eq_true ci
   replace H := Option.bind_eq_some_iff.1 H
   obtain ⟨⟨t1, t2⟩, ht, H⟩ := H
   (try dsimp only at H)
   replace ht := Ak ht
   have p0 := Hi.out
   obtain ⟨ad, A2, c2, e2, y0, y1, y2, l2, hi2⟩ := at_T28 HR.out i p0 ci
   cases e2
   replace y0 := pw_cell_below HB.out y0
   replace y1 := pw_cell_below HB.out y1
   replace y2 := pw_cell_below HB.out y2
   replace l2 := Ak l2
   replace hi2 := Ak hi2
   have ihk := Ak (IH2.out k1 (by have := HK1.out; omega))
   replace p0 := eq_true p0
   have q0 : (i < (l.length : Int)) = True := eq_true ci
   have iw : wrap64 (i + 1) = i + 1 := by have := Hi.out; unfold wrap64; omega
   clear ci
   go_upto_region 4 with fail
   have al := below_alloc (Below.refl wr.heap.size wr) (.cells #[.int .i64 (rd_T28 l i).f0, .int .i64 (rd_T28 l i).f1, .slice A2 (rd_T28 l i).f2.length c2] 28)
   have KE := Ak (blk_new wr (.cells #[.int .i64 (rd_T28 l i).f0, .int .i64 (rd_T28 l i).f1, .slice A2 (rd_T28 l i).f2.length c2] 28))
   replace K1 := Ak (blk_below K1.out al)
   replace hlt := Ak (Nat.lt_of_lt_of_le hlt.out al.size)
   replace HB := Ak (below_step HB.out al)
   replace HK := Ak (Kept.below HK.out al)
   replace HO := Ak (Kd.R_below HO.out al)
   clear al y0 y1 y2
   generalize wr.alloc (.cells #[.int .i64 (rd_T28 l i).f0, .int .i64 (rd_T28 l i).f1, .slice A2 (rd_T28 l i).f2.length c2] 28) = W2 at KE K1 hlt HB HK HO ⊢
   generalize wr.heap.size = ge at KE ⊢
   obtain ⟨f0, f1, f2⟩ := Qu3 KE.out
   have hfin : ∀ (W3 : World) (v : Value), Kd.R k50 50 W3 w0.heap.size (fun k_ => ((P0 k_ ∨ w.heap.size ≤ k_) ∧ k_ ≠ gb) ∨ W2.heap.size ≤ k_) v t1 → Kept W2 W3 (fun k_ => (P0 k_ ∨ w.heap.size ≤ k_) ∧ k_ ≠ gb) → Kd.R k50 50 W3 w0.heap.size (fun k_ => (P0 k_ ∨ w.heap.size ≤ k_) ∧ k_ ≠ gb) v t1 ∧ W3.heap[gb]? = some (.cells #[.int .i64 a, .int .i64 b, .slice (some ad) l.length c] 28 (0, 0)) ∧ gb < W3.heap.size ∧ Kept w W3 (fun k_ => P0 k_) := fun W3 v ho hk =>
    ⟨Kd.R_mono ho (fun k_ hk_ => hk_.elim id (fun h2 => ⟨.inr (Nat.le_trans HK.out.1 h2), by have := hlt.out; omega⟩)), blk_kept K1.out hk (fun h => h.2 rfl), Nat.lt_of_lt_of_le hlt.out hk.1, Kept.then_ HK.out hk (fun k_ hk_ => hk_.1)⟩
   replace hfin := Ak hfin
   cases t2 with
   | true =>
    rw [if_pos rfl] at H
    have H' := Ak H
    clear H
    go_wp2_with ((go_at_call 27; with_reducible refine (ihk.out (fun k_ => (P0 k_ ∨ w.heap.size ≤ k_) ∧ k_ ≠ gb) (rd_T28 l i).f0 (rd_T28 l i).f1 A2 c2 (rd_T28 l i).f2 (.slice Ax x1.length cx) x1 t1 true w0 _ HB.out hi2.out l2.out HO.out ht.out).mono ?_; rintro e W3 ⟨v, rfl, ho, hb, hk⟩); obtain ⟨Av, cv, rfl⟩ := Kd.R_slice ho; replace ho := Ak ho; replace hb := Ak hb; replace hk := Ak hk)
    obtain ⟨n1, n2, n3, n4⟩ := hfin.out W3 _ ho.out hk.out
    go_roundg k1
    case measure => have := HK1.out; omega
    case rel => exact ⟨t1, i + 1, by go_num, ⟨by rw [← iw]; exact H'.out⟩, ⟨by have := HK1.out; omega⟩, ⟨by have := Hi.out; omega⟩, ⟨n1⟩, ⟨n2⟩, ⟨n3⟩, ⟨hb.out⟩, ⟨n4⟩⟩
   | false =>
    rw [if_neg (by simp)] at H
    simp only [Option.some.injEq, Prod.mk.injEq] at H
    obtain ⟨rfl, rfl⟩ := H
    go_wp2_with ((go_at_call 27; with_reducible refine (ihk.out (fun k_ => (P0 k_ ∨ w.heap.size ≤ k_) ∧ k_ ≠ gb) (rd_T28 l i).f0 (rd_T28 l i).f1 A2 c2 (rd_T28 l i).f2 (.slice Ax x1.length cx) x1 t1 false w0 _ HB.out hi2.out l2.out HO.out ht.out).mono ?_; rintro e W3 ⟨v, rfl, ho, hb, hk⟩); obtain ⟨Av, cv, rfl⟩ := Kd.R_slice ho; replace ho := Ak ho; replace hb := Ak hb; replace hk := Ak hk)
    obtain ⟨n1, n2, n3, n4⟩ := hfin.out W3 _ ho.out hk.out
    go_ret2
    exact ⟨_, rfl, Kd.R_nil _ _ _ _ _, hb.out, n4⟩
  ·rw [if_neg ci] at H
   have bi : decide (i < (l.length : Int)) = false := decide_eq_false ci
   clear ci
   unfold spec_l10Code.fin at H
   have hown : ∀ k_, (Value.slice Ax x1.length cx).ownBlock = some k_ → (P0 k_ ∨ w.heap.size ≤ k_) := fun k_ e => (HO.out.1 k_ e).1
   replace hown := Ak hown
   have HL := Ak (Kd.R_mono HO.out (ok' := fun k_ => P0 k_ ∨ w.heap.size ≤ k_) (fun k_ hk => hk.1))
   obtain ⟨m0, m1, m2⟩ := Qu3 K1.out
   by_cases q1 : a = 1
   ·rw [if_pos q1] at H
    have b1 : (a == 1) = true := beq_iff_eq.mpr q1
    replace H := Option.bind_eq_some_iff.1 H
    obtain ⟨t, ht, H⟩ := H
    replace ht := Ak ht
    by_cases LM0 : x1.length < 4398046511104
    case neg => rw [if_neg LM0] at H; exact absurd H (by simp)
    rw [if_pos LM0] at H
    have LM := Ak LM0
    clear LM0
    simp only [Option.some.injEq, Prod.mk.injEq] at H
    obtain ⟨rfl, rfl⟩ := H
    go_wp2_with (first | ((go_at_call 36; with_reducible refine (spec_WrapCell.calls b t _ ht.out).mono ?_; rintro e W3 ⟨rfl, hd⟩); replace HL := Ak (Kd.R_below HL.out hd.below); replace HB := Ak (below_step HB.out hd.below); replace HK := Ak (Kept.below HK.out hd.below); clear hd) | ((with_reducible refine gate_builtin (b := .append) (xs := #[.tmp 31, .tmp 36]) rfl ?_); at_builtin; refine Kd.R_append k50 (w0 := w0) w0.heap.size rfl (.tmp 31) (.tmp 36) 35 50 (.agg #[(.int .i64 0), (.int .i64 0), (.int .i64 0), (.int .i64 0)]) 32 rfl Try.underlying35 info50 rfl (by decide) (by omega) (.slice Ax x1.length cx) x1 (⟨1, t, 0, 0⟩ : S50) [.int .i64 1, .int .i64 t, .int .i64 0, .int .i64 0] (fun k_ => P0 k_ ∨ w.heap.size ≤ k_) (fun _ => False) rfl rfl ?aP (fun _ hk => hk.elim) ?aF ?aO ?aB ?aS ?aL ?_; (case aP => exact k50_mkM _ _ _ (⟨1, t, 0, 0⟩ : S50)); (case aB => exact (Qb HB.out)); (case aF => exact spec_l10Code.newer HK.out); (case aO => exact (Qc HL.out)); (case aS => exact (below_size (Qb HB.out))); (case aL => have := LM.out; omega); intro v2 w3 ho hb hg hat; have HO3 := Ak ho; have HB3 := Ak hb; have HK3 := Ak (Kept.of_grown hg (Qd HK.out) hown.out); clear ho hb hg hat))
    go_ret2
    exact ⟨_, rfl, HO3.out, HB3.out, HK3.out⟩
   rw [if_neg q1] at H
   have b1 : (a == 1) = false := beq_eq_false_iff_ne.mpr q1
   by_cases q2 : a = 2
   ·rw [if_pos q2] at H
    have b2 : (a == 2) = true := beq_iff_eq.mpr q2
    simp only [Option.some.injEq, Prod.mk.injEq] at H
    obtain ⟨rfl, rfl⟩ := H
    go_wp2
    go_ret2
    exact ⟨_, rfl, HL.out, HB.out, HK.out⟩
   rw [if_neg q2] at H
   have b2 : (a == 2) = false := beq_eq_false_iff_ne.mpr q2
   by_cases q3 : a = 3
   ·rw [if_pos q3] at H
    have b3 : (a == 3) = true := beq_iff_eq.mpr q3
    by_cases LM0 : x1.length < 4398046511104
    case neg => rw [if_neg LM0] at H; exact absurd H (by simp)
    rw [if_pos LM0] at H
    have LM := Ak LM0
    clear LM0
    simp only [Option.some.injEq, Prod.mk.injEq] at H
    obtain ⟨rfl, rfl⟩ := H
    go_wp2_with ((with_reducible refine gate_builtin (b := .append) (xs := #[.tmp 43, .tmp 45]) rfl ?_); at_builtin; refine Kd.R_append k50 (w0 := w0) w0.heap.size rfl (.tmp 43) (.tmp 45) 35 50 (.agg #[(.int .i64 0), (.int .i64 0), (.int .i64 0), (.int .i64 0)]) 32 rfl Try.underlying35 info50 rfl (by decide) (by omega) (.slice Ax x1.length cx) x1 (⟨5, 0, 0, 0⟩ : S50) [.int .i64 5, .int .i64 0, .int .i64 0, .int .i64 0] (fun k_ => P0 k_ ∨ w.heap.size ≤ k_) (fun _ => False) rfl rfl ?aP (fun _ hk => hk.elim) ?aF ?aO ?aB ?aS ?aL ?_; (case aP => exact k50_mkM _ _ _ (⟨5, 0, 0, 0⟩ : S50)); (case aB => exact (Qb HB.out)); (case aF => exact spec_l10Code.newer HK.out); (case aO => exact (Qc HL.out)); (case aS => exact (below_size (Qb HB.out))); (case aL => have := LM.out; omega); intro v2 w3 ho hb hg hat; have HO3 := Ak ho; have HB3 := Ak hb; have HK3 := Ak (Kept.of_grown hg (Qd HK.out) hown.out); clear ho hb hg hat)
    go_ret2
    exact ⟨_, rfl, HO3.out, HB3.out, HK3.out⟩
   rw [if_neg q3] at H
   have b3 : (a == 3) = false := beq_eq_false_iff_ne.mpr q3
   by_cases q4 : a = 4
   ·rw [if_pos (by omega)] at H
    have b4 : (a == 4) = true := beq_iff_eq.mpr q4
    clear q4
    by_cases LM0 : x1.length < 4398046511104
    case neg => rw [if_neg LM0] at H; exact absurd H (by simp)
    rw [if_pos LM0] at H
    have LM := Ak LM0
    clear LM0
    simp only [Option.some.injEq, Prod.mk.injEq] at H
    obtain ⟨rfl, rfl⟩ := H
    go_wp2_with ((with_reducible refine gate_builtin (b := .append) (xs := #[.tmp 51, .tmp 57]) rfl ?_); at_builtin; refine Kd.R_append k50 (w0 := w0) w0.heap.size rfl (.tmp 51) (.tmp 57) 35 50 (.agg #[(.int .i64 0), (.int .i64 0), (.int .i64 0), (.int .i64 0)]) 32 rfl Try.underlying35 info50 rfl (by decide) (by omega) (.slice Ax x1.length cx) x1 (⟨wrap64 (wrap64 (2 + a) - 4), 0, 0, 0⟩ : S50) [.int .i64 (wrap64 (wrap64 (2 + a) - 4)), .int .i64 0, .int .i64 0, .int .i64 0] (fun k_ => P0 k_ ∨ w.heap.size ≤ k_) (fun _ => False) rfl rfl ?aP (fun _ hk => hk.elim) ?aF ?aO ?aB ?aS ?aL ?_; (case aP => exact k50_mkM _ _ _ (⟨wrap64 (wrap64 (2 + a) - 4), 0, 0, 0⟩ : S50)); (case aB => exact (Qb HB.out)); (case aF => exact spec_l10Code.newer HK.out); (case aO => exact (Qc HL.out)); (case aS => exact (below_size (Qb HB.out))); (case aL => have := LM.out; omega); intro v2 w3 ho hb hg hat; have HO3 := Ak ho; have HB3 := Ak hb; have HK3 := Ak (Kept.of_grown hg (Qd HK.out) hown.out); clear ho hb hg hat)
    go_ret2
    exact ⟨_, rfl, HO3.out, HB3.out, HK3.out⟩
   have b4 : (a == 4) = false := beq_eq_false_iff_ne.mpr q4
   by_cases q5 : a = 5
   ·rw [if_pos (by omega)] at H
    have b5 : (a == 5) = true := beq_iff_eq.mpr q5
    clear q5
    by_cases LM0 : x1.length < 4398046511104
    case neg => rw [if_neg LM0] at H; exact absurd H (by simp)
    rw [if_pos LM0] at H
    have LM := Ak LM0
    clear LM0
    simp only [Option.some.injEq, Prod.mk.injEq] at H
    obtain ⟨rfl, rfl⟩ := H
    go_wp2_with ((with_reducible refine gate_builtin (b := .append) (xs := #[.tmp 51, .tmp 57]) rfl ?_); at_builtin; refine Kd.R_append k50 (w0 := w0) w0.heap.size rfl (.tmp 51) (.tmp 57) 35 50 (.agg #[(.int .i64 0), (.int .i64 0), (.int .i64 0), (.int .i64 0)]) 32 rfl Try.underlying35 info50 rfl (by decide) (by omega) (.slice Ax x1.length cx) x1 (⟨wrap64 (wrap64 (2 + a) - 4), 0, 0, 0⟩ : S50) [.int .i64 (wrap64 (wrap64 (2 + a) - 4)), .int .i64 0, .int .i64 0, .int .i64 0] (fun k_ => P0 k_ ∨ w.heap.size ≤ k_) (fun _ => False) rfl rfl ?aP (fun _ hk => hk.elim) ?aF ?aO ?aB ?aS ?aL ?_; (case aP => exact k50_mkM _ _ _ (⟨wrap64 (wrap64 (2 + a) - 4), 0, 0, 0⟩ : S50)); (case aB => exact (Qb HB.out)); (case aF => exact spec_l10Code.newer HK.out); (case aO => exact (Qc HL.out)); (case aS => exact (below_size (Qb HB.out))); (case aL => have := LM.out; omega); intro v2 w3 ho hb hg hat; have HO3 := Ak ho; have HB3 := Ak hb; have HK3 := Ak (Kept.of_grown hg (Qd HK.out) hown.out); clear ho hb hg hat)
    go_ret2
    exact ⟨_, rfl, HO3.out, HB3.out, HK3.out⟩
   have b5 : (a == 5) = false := beq_eq_false_iff_ne.mpr q5
   by_cases q6 : a = 6
   ·rw [if_pos (by omega)] at H
    have b6 : (a == 6) = true := beq_iff_eq.mpr q6
    clear q6
    by_cases LM0 : x1.length < 4398046511104
    case neg => rw [if_neg LM0] at H; exact absurd H (by simp)
    rw [if_pos LM0] at H
    have LM := Ak LM0
    clear LM0
    simp only [Option.some.injEq, Prod.mk.injEq] at H
    obtain ⟨rfl, rfl⟩ := H
    go_wp2_with ((with_reducible refine gate_builtin (b := .append) (xs := #[.tmp 51, .tmp 57]) rfl ?_); at_builtin; refine Kd.R_append k50 (w0 := w0) w0.heap.size rfl (.tmp 51) (.tmp 57) 35 50 (.agg #[(.int .i64 0), (.int .i64 0), (.int .i64 0), (.int .i64 0)]) 32 rfl Try.underlying35 info50 rfl (by decide) (by omega) (.slice Ax x1.length cx) x1 (⟨wrap64 (wrap64 (2 + a) - 4), 0, 0, 0⟩ : S50) [.int .i64 (wrap64 (wrap64 (2 + a) - 4)), .int .i64 0, .int .i64 0, .int .i64 0] (fun k_ => P0 k_ ∨ w.heap.size ≤ k_) (fun _ => False) rfl rfl ?aP (fun _ hk => hk.elim) ?aF ?aO ?aB ?aS ?aL ?_; (case aP => exact k50_mkM _ _ _ (⟨wrap64 (wrap64 (2 + a) - 4), 0, 0, 0⟩ : S50)); (case aB => exact (Qb HB.out)); (case aF => exact spec_l10Code.newer HK.out); (case aO => exact (Qc HL.out)); (case aS => exact (below_size (Qb HB.out))); (case aL => have := LM.out; omega); intro v2 w3 ho hb hg hat; have HO3 := Ak ho; have HB3 := Ak hb; have HK3 := Ak (Kept.of_grown hg (Qd HK.out) hown.out); clear ho hb hg hat)
    go_ret2
    exact ⟨_, rfl, HO3.out, HB3.out, HK3.out⟩
   have b6 : (a == 6) = false := beq_eq_false_iff_ne.mpr q6
   rw [if_neg (by omega)] at H
   simp only [Option.some.injEq, Prod.mk.injEq] at H
   obtain ⟨rfl, rfl⟩ := H
   go_wp2
   go_ret2
   exact ⟨_, rfl, Kd.R_nil _ _ _ _ _, HB.out, HK.out⟩

/-! ### spec_l7Cell: function 38 -/
def spec_l7Cell.f (a0 : Int) : Option (Bool) := (spec_l1In.f a0 (-9841) 9841).bind fun t146 => (some t146)
theorem spec_l7Cell.calls (a0 : Int) (r : Bool) (w : World) (h : spec_l7Cell.f a0 = some r) :
  Calls Try.prog 38 #[.int .i64 a0] w fun e w' => e = .returned (.bool r) ∧ Drawn0 w w' := by
 have H : ((spec_l1In.f a0 (-9841) 9841).bind fun t146 => (some t146)) = some r := h
 clear h
 replace H := Option.bind_eq_some_iff.mp H
 obtain ⟨t146, A20, H⟩ := H
 replace H : (some t146) = some r := H
 have A2 := Ak A20
 clear A20
 obtain rfl := Option.some.inj H
 go_enter Try.func38, Try.ntmps38
 go_wp2_with (first | ((with_reducible refine gate_callee (f := 37) rfl ?_); refine Qj (some 4) Try.func37 #[.int .i64 a0, .int .i64 (-9841), .int .i64 9841] ?_; (with_reducible refine (spec_l1In.calls a0 (-9841) 9841 t146 _ A2.out).mono ?_); rintro e w' ⟨rfl, ⟨nd, rfl⟩⟩; refine ⟨_, rfl, ?_⟩))
 go_ret
 exact ⟨Qi, Ql⟩

end Go.Proofs.Ythlagaopjmeaaaa.HFnExactCompileExpr

/- Text for FnExprs: written by a program of this session on the pattern of the kit's print. -/
import Derived.Test.YtjfgcipbbcplmaaDoorHFnExprsx0
import Derived.Test.YtjfgcipbbcplmaaDoorHFnExprsx1
import Derived.Test.YtjfgcipbbcplmaaDoorHFnExprsx2
namespace Go.Proofs.YtjfgcipbbcplmaaDoor.HFnExprs
open Go.RowKit Go.Proofs.YtjfgcipbbcplmaaDoorW.PrintWords Go.Proofs.YtjfgcipbbcplmaaDoorW.PrintLast Go.Proofs.YtjfgcipbbcplmaaDoorW.PrintMore
attribute [local go_sem] max2_int min2_int max_two min_two max_three min_three max_four min_four
set_option linter.unusedVariables false
set_option linter.unusedSimpArgs false

/-! ### impl_nodes: function 47 -/
mutual
def impl_nodes.j0 : Nat → Int → Int → Bool → Int → Int → List (S25) → Option (Int)
 | 0, _, _, _, _, _, _ => none
 | k + 1, x1, x2, x46, x190000, x190001, x190002 => if x46 = true then (some (-1)) else (impl_nodes.l0 k x1 x2 x190002 (x190002.length : Int) 0)
def impl_nodes.l0 : Nat → Int → Int → List (S25) → Int → Int → Option (Int)
 | 0, _, _, _, _, _ => none
 | k + 1, x1, x2, x48, x49, x50 => if x50 < x49 then (if 0 ≤ x50 then (if x50 < (x48.length : Int) then ((impl_nodes.f k ((rd_T25 x48 x50).f0) ((rd_T25 x48 x50).f1) ((rd_T25 x48 x50).f2) x1 (wrap64 (x2 - 1))).bind fun t195 => (if t195 < 0 then (some (-1)) else (impl_nodes.l0 k t195 x2 x48 x49 (wrap64 (x50 + 1))))) else (none)) else (none)) else (some x1)
def impl_nodes.f : Nat → Int → Int → List (S25) → Int → Int → Option (Int)
 | 0, _, _, _, _, _ => none
 | k + 1, a0_0, a0_1, l0_2, a1, a2 => if a2 = 0 then (impl_nodes.j0 k (wrap64 (a1 - 1)) a2 true a0_0 a0_1 l0_2) else (if (wrap64 (a1 - 1)) < 0 then (impl_nodes.j0 k (wrap64 (a1 - 1)) a2 true a0_0 a0_1 l0_2) else ((impl_kids.f k a0_0).bind fun t190 => (if (l0_2.length : Int) = t190 then (if a0_1 = 0 then (if a0_1 < 0 then (impl_nodes.j0 k (wrap64 (a1 - 1)) a2 true a0_0 a0_1 l0_2) else ((impl_LimitOf.f k 30).bind fun t191 => (impl_nodes.j0 k (wrap64 (a1 - 1)) a2 (decide (a0_1 > t191)) a0_0 a0_1 l0_2))) else (if a0_0 = 1 then (if a0_1 < 0 then (impl_nodes.j0 k (wrap64 (a1 - 1)) a2 true a0_0 a0_1 l0_2) else ((impl_LimitOf.f k 30).bind fun t192 => (impl_nodes.j0 k (wrap64 (a1 - 1)) a2 (decide (a0_1 > t192)) a0_0 a0_1 l0_2))) else (impl_nodes.j0 k (wrap64 (a1 - 1)) a2 true a0_0 a0_1 l0_2))) else (impl_nodes.j0 k (wrap64 (a1 - 1)) a2 true a0_0 a0_1 l0_2))))
end
def impl_nodes.T2 : Bool × List (List Nat × List Nat) := (true, [([], []), ([0], [0]), ([1], [1]), ([2], [2]), ([3, 2], [2, 3]), ([2, 4], [2, 4]), ([5, 2], [5]), ([6], [6]), ([7, 6], [6, 7]), ([8, 6], [6, 8]), ([6], [6]), ([10, 6], [6, 10]), ([11, 6, 6], [6, 11]), ([9, 12, 6], [6, 9, 12]), ([6, 13], [6, 13]), ([14, 12], [14]), ([15], [15]), ([16, 15], [15, 16]), ([17, 15], [15, 17]), ([18, 15, 15], [15, 18]), ([19], [19]), ([20, 19], [19, 20]), ([21, 19], [19, 21]), ([19, 22, 15], [15, 19, 22]), ([15, 23], [15, 23]), ([24, 19], [24]), ([25], [25]), ([26, 25], [25, 26]), ([27, 25], [25, 27]), ([25, 28], [25, 28]), ([29, 25], [29]), ([30], [30]), ([31, 30], [30, 31]), ([30, 30], [30]), ([32, 33, 30], [30, 32, 33]), ([30, 34], [30, 34])])
def impl_nodes.B2 : List Nat := [0, 1, 3, 7, 15, 31, 63, 127, 255, 511, 127, 1151, 3199, 8191, 16383, 32767, 65535, 131071, 262143, 524287, 1048575, 2097151, 4194303, 8388607, 16777215, 33554431, 67108863, 134217727, 268435455, 536870911, 1073741823, 2147483647, 4294967295, 2147483647, 17179869183, 34359738367]
theorem impl_nodes.tab2 : rtab .any (opsOf Tryd.f47 2) = impl_nodes.T2 := by kernel_rfl
theorem impl_nodes.bits2 : waitsOk impl_nodes.T2.2 impl_nodes.B2 = true := by kernel_rfl
set_option maxHeartbeats 8000000 in
set_option maxRecDepth 100000 in
theorem impl_nodes.calls (k : Nat) : ∀ (a0_0 : Int) (a0_1 : Int) (A0_2 : Option Addr) (c0_2 : Nat) (l0_2 : List (S25)) (a1 : Int) (a2 : Int) (r : Int) (w : World) (hr0_2 : Kd.C k25 w A0_2 l0_2.length l0_2) (hc0_2 : l0_2.length ≤ c0_2) (h : impl_nodes.f k a0_0 a0_1 l0_2 a1 a2 = some r),
  Calls Tryd.prog 47 #[.agg #[.int .i64 a0_0, .int .i64 a0_1, .slice A0_2 l0_2.length c0_2], .int .i64 a1, .int .i64 a2] w fun e w' => e = .returned (.int .i64 r) ∧ Below w.heap.size w w' := by
 induction k using Nat.strongRecOn with
 | _ k ih =>
 intro a0_0 a0_1 A0_2 c0_2 l0_2 a1 a2 r w hr0_2 hc0_2 h
 cases k with
 | zero => exact absurd h (by simp [impl_nodes.f])
 | succ k =>
 simp only [impl_nodes.f] at h
 have hu25 := Tryd.underlying25
 have HR0_2 := Ak hr0_2
 have HC0_2 := Ak hc0_2
 clear hr0_2 hc0_2
 have HB := Ak (Below.refl w.heap.size w)
 have H : (if a2 = 0 then (impl_nodes.j0 k (wrap64 (a1 - 1)) a2 true a0_0 a0_1 l0_2) else (if (wrap64 (a1 - 1)) < 0 then (impl_nodes.j0 k (wrap64 (a1 - 1)) a2 true a0_0 a0_1 l0_2) else ((impl_kids.f k a0_0).bind fun t190 => (if (l0_2.length : Int) = t190 then (if a0_1 = 0 then (if a0_1 < 0 then (impl_nodes.j0 k (wrap64 (a1 - 1)) a2 true a0_0 a0_1 l0_2) else ((impl_LimitOf.f k 30).bind fun t191 => (impl_nodes.j0 k (wrap64 (a1 - 1)) a2 (decide (a0_1 > t191)) a0_0 a0_1 l0_2))) else (if a0_0 = 1 then (if a0_1 < 0 then (impl_nodes.j0 k (wrap64 (a1 - 1)) a2 true a0_0 a0_1 l0_2) else ((impl_LimitOf.f k 30).bind fun t192 => (impl_nodes.j0 k (wrap64 (a1 - 1)) a2 (decide (a0_1 > t192)) a0_0 a0_1 l0_2))) else (impl_nodes.j0 k (wrap64 (a1 - 1)) a2 true a0_0 a0_1 l0_2))) else (impl_nodes.j0 k (wrap64 (a1 - 1)) a2 true a0_0 a0_1 l0_2))))) = some r := h
 clear h
 have HC4 := Ak H
 clear H
 go_enter Tryd.func47, Tryd.ntmps47
 go_upto_region 2 with (first | ((with_reducible refine gate_dst (N := 3) rfl ?_); (try (refine gate_guard (by rfl) ?_; dsimp only)); refine Qk 3 #[.int .i64 a0_0, .int .i64 a0_1, .slice A0_2 l0_2.length c0_2] 25 ?_; intro gb189 hg w5 hbox hb; have BK189 := Ak (hbox); have GW189 := Ak ((Qp hg HB.out : w.heap.size ≤ gb189)); have GE189 := Ak ((Qp hg HB.out : w.heap.size ≤ gb189)); replace HB := Ak (below_step (Qb HB.out) hb); clear hb hbox hg))
 (try simp only [Act.put, List.setIfInBounds_toArray, List.set_cons_zero, List.set_cons_succ])
 go_cut [46] (fun v46 wc => ∃ (kq : Nat) (x46_3 : Bool), v46 = .bool x46_3 ∧ Aside0 (impl_nodes.j0 kq (wrap64 (a1 - 1)) a2 x46_3 a0_0 a0_1 l0_2 = some r) ∧ Aside0 (kq ≤ k) ∧ Aside0 (wc.heap[gb189]? = some (.cells #[.int .i64 a0_0, .int .i64 a0_1, (.slice A0_2 l0_2.length c0_2)] 25 (0, 0))) ∧ Aside0 (Below w.heap.size w wc))
 case first =>
  have H := HC4.out
  clear HC4
  by_cases c6 : a2 = 0
  ·rw [if_pos c6] at H
   have c6b0 : (a2 == 0) = true := beq_iff_eq.mpr c6
   have c6b1 : (a2 != 0) = false := bne_eq_false_iff_eq.mpr c6
   clear c6
   (first | rw [c6b0] | (simp only [i64_w, i32_w]; rw [c6b0]) | skip)
   have H' := Ak H
   clear H
   try go_wp2
   have n0_ := Ak (blk_drew BK189.out)
   have n1_ := Ak (below_drew1 HB.out)
   clear BK189 HB
   have BK189 := n0_
   have HB := n1_
   clear n0_ n1_
   refine start_ (n := 36) (S := fun w' => True) (ds := []) #[false, false, false, false, false, false, false, false, false, false, false, false, false, false, false, false, false, false, false, false, false, false, false, false, false, false, false, false, false, false, false, false, false, false, false, false] (by kernel_rfl) rfl rfl trivial (fun hHeld => ?_); refine with_tabW impl_nodes.tab2 impl_nodes.bits2 (fun HT_ HW_ => ?_)
   generalize w5.drew = w7 at BK189 HB hHeld ⊢
   refine Qq 0 (some 11) ?_
   refine Qq 1 (some 12) ?_
   refine Qq 2 (some 13) ?_
   refine pure_ (i := 3) (N := some 14) (v := undef) (a' := ?_) (.replicate 4 true ++ .replicate 32 false) rfl rfl (any_of HT_.out (by kernel_rfl)) (fun _ _ _ h => h) (Or.inr ⟨by rfl, rfl⟩) ?_ ?_
   rotate_left
   ·simp only [Act.put, List.setIfInBounds_toArray, List.set_cons_zero, List.set_cons_succ, i64_w, i32_w]
    rfl
   refine pure_ (i := 4) (N := some 15) (v := undef) (a' := ?_) (.replicate 5 true ++ .replicate 31 false) rfl rfl (any_of HT_.out (by kernel_rfl)) (fun _ _ _ h => h) (Or.inr ⟨by rfl, rfl⟩) ?_ ?_
   rotate_left
   ·simp only [Act.put, List.setIfInBounds_toArray, List.set_cons_zero, List.set_cons_succ, i64_w, i32_w]
    rfl
   refine pure_ (i := 5) (N := some 16) (v := ?_) (a' := ?_) (.replicate 6 true ++ .replicate 30 false) rfl rfl (any_of HT_.out (by kernel_rfl)) (fun _ _ _ h => h) (Or.inl ⟨by rfl, ?_⟩) ?_ ?_
   rotate_left
   ·intro w'
    go_simp
    with_reducible rfl
   rotate_left
   ·simp only [Act.put, List.setIfInBounds_toArray, List.set_cons_zero, List.set_cons_succ, i64_w, i32_w]
    rfl
   refine pure_ (i := 6) (N := some 17) (v := ?_) (a' := ?_) (.replicate 7 true ++ .replicate 29 false) rfl rfl (any_of HT_.out (by kernel_rfl)) (fun _ _ _ h => h) (Or.inl ⟨by rfl, ?_⟩) ?_ ?_
   rotate_left
   ·intro w'
    go_simp
    with_reducible rfl
   rotate_left
   ·simp only [Act.put, List.setIfInBounds_toArray, List.set_cons_zero, List.set_cons_succ, i64_w, i32_w]
    rfl
   refine pure_ (i := 7) (N := some 18) (v := undef) (a' := ?_) (.replicate 8 true ++ .replicate 28 false) rfl rfl (any_of HT_.out (by kernel_rfl)) (fun _ _ _ h => h) (Or.inr ⟨by rfl, rfl⟩) ?_ ?_
   rotate_left
   ·simp only [Act.put, List.setIfInBounds_toArray, List.set_cons_zero, List.set_cons_succ, i64_w, i32_w]
    rfl
   refine pure_ (i := 8) (N := some 19) (v := undef) (a' := ?_) (.replicate 9 true ++ .replicate 27 false) rfl rfl (any_of HT_.out (by kernel_rfl)) (fun _ _ _ h => h) (Or.inr ⟨by rfl, rfl⟩) ?_ ?_
   rotate_left
   ·simp only [Act.put, List.setIfInBounds_toArray, List.set_cons_zero, List.set_cons_succ, i64_w, i32_w]
    rfl
   refine pure_ (i := 9) (N := some 20) (v := undef) (a' := ?_) (.replicate 10 true ++ .replicate 26 false) rfl rfl (any_of HT_.out (by kernel_rfl)) (fun _ _ _ h => h) (Or.inr ⟨by rfl, rfl⟩) ?_ ?_
   rotate_left
   ·simp only [Act.put, List.setIfInBounds_toArray, List.set_cons_zero, List.set_cons_succ, i64_w, i32_w]
    rfl
   refine pure_ (i := 10) (N := some 21) (v := undef) (a' := ?_) (.replicate 11 true ++ .replicate 25 false) rfl rfl (any_of HT_.out (by kernel_rfl)) (fun _ _ _ h => h) (Or.inr ⟨by rfl, rfl⟩) ?_ ?_
   rotate_left
   ·simp only [Act.put, List.setIfInBounds_toArray, List.set_cons_zero, List.set_cons_succ, i64_w, i32_w]
    rfl
   refine pure_ (i := 11) (N := some 22) (v := undef) (a' := ?_) (.replicate 12 true ++ .replicate 24 false) rfl rfl (any_of HT_.out (by kernel_rfl)) (fun _ _ _ h => h) (Or.inr ⟨by rfl, rfl⟩) ?_ ?_
   rotate_left
   ·simp only [Act.put, List.setIfInBounds_toArray, List.set_cons_zero, List.set_cons_succ, i64_w, i32_w]
    rfl
   refine pure_ (i := 12) (N := some 23) (v := undef) (a' := ?_) (.replicate 13 true ++ .replicate 23 false) rfl rfl (any_of HT_.out (by kernel_rfl)) (fun _ _ _ h => h) (Or.inr ⟨by rfl, rfl⟩) ?_ ?_
   rotate_left
   ·simp only [Act.put, List.setIfInBounds_toArray, List.set_cons_zero, List.set_cons_succ, i64_w, i32_w]
    rfl
   refine pure_ (i := 13) (N := some 24) (v := undef) (a' := ?_) (.replicate 14 true ++ .replicate 22 false) rfl rfl (any_of HT_.out (by kernel_rfl)) (fun _ _ _ h => h) (Or.inr ⟨by rfl, rfl⟩) ?_ ?_
   rotate_left
   ·simp only [Act.put, List.setIfInBounds_toArray, List.set_cons_zero, List.set_cons_succ, i64_w, i32_w]
    rfl
   refine pure_ (i := 14) (N := some 25) (v := ?_) (a' := ?_) (.replicate 15 true ++ .replicate 21 false) rfl rfl (any_of HT_.out (by kernel_rfl)) (fun _ _ _ h => h) (Or.inl ⟨by rfl, ?_⟩) ?_ ?_
   rotate_left
   ·intro w'
    go_simp
    with_reducible rfl
   rotate_left
   ·simp only [Act.put, List.setIfInBounds_toArray, List.set_cons_zero, List.set_cons_succ, i64_w, i32_w]
    rfl
   refine pure_ (i := 15) (N := some 26) (v := ?_) (a' := ?_) (.replicate 16 true ++ .replicate 20 false) rfl rfl (any_of HT_.out (by kernel_rfl)) (fun _ _ _ h => h) (Or.inl ⟨by rfl, ?_⟩) ?_ ?_
   rotate_left
   ·intro w'
    go_simp
    with_reducible rfl
   rotate_left
   ·simp only [Act.put, List.setIfInBounds_toArray, List.set_cons_zero, List.set_cons_succ, i64_w, i32_w]
    rfl
   refine pure_ (i := 16) (N := some 27) (v := undef) (a' := ?_) (.replicate 17 true ++ .replicate 19 false) rfl rfl (any_of HT_.out (by kernel_rfl)) (fun _ _ _ h => h) (Or.inr ⟨by rfl, rfl⟩) ?_ ?_
   rotate_left
   ·simp only [Act.put, List.setIfInBounds_toArray, List.set_cons_zero, List.set_cons_succ, i64_w, i32_w]
    rfl
   refine pure_ (i := 17) (N := some 28) (v := undef) (a' := ?_) (.replicate 18 true ++ .replicate 18 false) rfl rfl (any_of HT_.out (by kernel_rfl)) (fun _ _ _ h => h) (Or.inr ⟨by rfl, rfl⟩) ?_ ?_
   rotate_left
   ·simp only [Act.put, List.setIfInBounds_toArray, List.set_cons_zero, List.set_cons_succ, i64_w, i32_w]
    rfl
   refine pure_ (i := 18) (N := some 29) (v := undef) (a' := ?_) (.replicate 19 true ++ .replicate 17 false) rfl rfl (any_of HT_.out (by kernel_rfl)) (fun _ _ _ h => h) (Or.inr ⟨by rfl, rfl⟩) ?_ ?_
   rotate_left
   ·simp only [Act.put, List.setIfInBounds_toArray, List.set_cons_zero, List.set_cons_succ, i64_w, i32_w]
    rfl
   refine pure_ (i := 19) (N := some 30) (v := undef) (a' := ?_) (.replicate 20 true ++ .replicate 16 false) rfl rfl (any_of HT_.out (by kernel_rfl)) (fun _ _ _ h => h) (Or.inr ⟨by rfl, rfl⟩) ?_ ?_
   rotate_left
   ·simp only [Act.put, List.setIfInBounds_toArray, List.set_cons_zero, List.set_cons_succ, i64_w, i32_w]
    rfl
   refine pure_ (i := 20) (N := some 31) (v := undef) (a' := ?_) (.replicate 21 true ++ .replicate 15 false) rfl rfl (any_of HT_.out (by kernel_rfl)) (fun _ _ _ h => h) (Or.inr ⟨by rfl, rfl⟩) ?_ ?_
   rotate_left
   ·simp only [Act.put, List.setIfInBounds_toArray, List.set_cons_zero, List.set_cons_succ, i64_w, i32_w]
    rfl
   refine pure_ (i := 21) (N := some 32) (v := undef) (a' := ?_) (.replicate 22 true ++ .replicate 14 false) rfl rfl (any_of HT_.out (by kernel_rfl)) (fun _ _ _ h => h) (Or.inr ⟨by rfl, rfl⟩) ?_ ?_
   rotate_left
   ·simp only [Act.put, List.setIfInBounds_toArray, List.set_cons_zero, List.set_cons_succ, i64_w, i32_w]
    rfl
   refine pure_ (i := 22) (N := some 33) (v := undef) (a' := ?_) (.replicate 23 true ++ .replicate 13 false) rfl rfl (any_of HT_.out (by kernel_rfl)) (fun _ _ _ h => h) (Or.inr ⟨by rfl, rfl⟩) ?_ ?_
   rotate_left
   ·simp only [Act.put, List.setIfInBounds_toArray, List.set_cons_zero, List.set_cons_succ, i64_w, i32_w]
    rfl
   refine pure_ (i := 23) (N := some 34) (v := undef) (a' := ?_) (.replicate 24 true ++ .replicate 12 false) rfl rfl (any_of HT_.out (by kernel_rfl)) (fun _ _ _ h => h) (Or.inr ⟨by rfl, rfl⟩) ?_ ?_
   rotate_left
   ·simp only [Act.put, List.setIfInBounds_toArray, List.set_cons_zero, List.set_cons_succ, i64_w, i32_w]
    rfl
   refine pure_ (i := 24) (N := some 35) (v := ?_) (a' := ?_) (.replicate 25 true ++ .replicate 11 false) rfl rfl (any_of HT_.out (by kernel_rfl)) (fun _ _ _ h => h) (Or.inl ⟨by rfl, ?_⟩) ?_ ?_
   rotate_left
   ·intro w'
    go_simp
    with_reducible rfl
   rotate_left
   ·simp only [Act.put, List.setIfInBounds_toArray, List.set_cons_zero, List.set_cons_succ, i64_w, i32_w]
    rfl
   refine pure_ (i := 25) (N := some 36) (v := ?_) (a' := ?_) (.replicate 26 true ++ .replicate 10 false) rfl rfl (any_of HT_.out (by kernel_rfl)) (fun _ _ _ h => h) (Or.inl ⟨by rfl, ?_⟩) ?_ ?_
   rotate_left
   ·intro w'
    go_simp
    with_reducible rfl
   rotate_left
   ·simp only [Act.put, List.setIfInBounds_toArray, List.set_cons_zero, List.set_cons_succ, i64_w, i32_w]
    rfl
   refine pure_ (i := 26) (N := some 37) (v := undef) (a' := ?_) (.replicate 27 true ++ .replicate 9 false) rfl rfl (any_of HT_.out (by kernel_rfl)) (fun _ _ _ h => h) (Or.inr ⟨by rfl, rfl⟩) ?_ ?_
   rotate_left
   ·simp only [Act.put, List.setIfInBounds_toArray, List.set_cons_zero, List.set_cons_succ, i64_w, i32_w]
    rfl
   refine pure_ (i := 27) (N := some 38) (v := undef) (a' := ?_) (.replicate 28 true ++ .replicate 8 false) rfl rfl (any_of HT_.out (by kernel_rfl)) (fun _ _ _ h => h) (Or.inr ⟨by rfl, rfl⟩) ?_ ?_
   rotate_left
   ·simp only [Act.put, List.setIfInBounds_toArray, List.set_cons_zero, List.set_cons_succ, i64_w, i32_w]
    rfl
   refine pure_ (i := 28) (N := some 39) (v := undef) (a' := ?_) (.replicate 29 true ++ .replicate 7 false) rfl rfl (any_of HT_.out (by kernel_rfl)) (fun _ _ _ h => h) (Or.inr ⟨by rfl, rfl⟩) ?_ ?_
   rotate_left
   ·simp only [Act.put, List.setIfInBounds_toArray, List.set_cons_zero, List.set_cons_succ, i64_w, i32_w]
    rfl
   refine pure_ (i := 29) (N := some 40) (v := ?_) (a' := ?_) (.replicate 30 true ++ .replicate 6 false) rfl rfl (any_of HT_.out (by kernel_rfl)) (fun _ _ _ h => h) (Or.inl ⟨by rfl, ?_⟩) ?_ ?_
   rotate_left
   ·intro w'
    go_simp
    with_reducible rfl
   rotate_left
   ·simp only [Act.put, List.setIfInBounds_toArray, List.set_cons_zero, List.set_cons_succ, i64_w, i32_w]
    rfl
   refine pure_ (i := 30) (N := some 41) (v := ?_) (a' := ?_) (.replicate 31 true ++ .replicate 5 false) rfl rfl (any_of HT_.out (by kernel_rfl)) (fun _ _ _ h => h) (Or.inl ⟨by rfl, ?_⟩) ?_ ?_
   rotate_left
   ·intro w'
    go_simp
    with_reducible rfl
   rotate_left
   ·simp only [Act.put, List.setIfInBounds_toArray, List.set_cons_zero, List.set_cons_succ, i64_w, i32_w]
    rfl
   refine pure_ (i := 31) (N := some 42) (v := undef) (a' := ?_) (.replicate 32 true ++ .replicate 4 false) rfl rfl (any_of HT_.out (by kernel_rfl)) (fun _ _ _ h => h) (Or.inr ⟨by rfl, rfl⟩) ?_ ?_
   rotate_left
   ·simp only [Act.put, List.setIfInBounds_toArray, List.set_cons_zero, List.set_cons_succ, i64_w, i32_w]
    rfl
   refine pure_ (i := 32) (N := some 43) (v := undef) (a' := ?_) (.replicate 33 true ++ .replicate 3 false) rfl rfl (any_of HT_.out (by kernel_rfl)) (fun _ _ _ h => h) (Or.inr ⟨by rfl, rfl⟩) ?_ ?_
   rotate_left
   ·simp only [Act.put, List.setIfInBounds_toArray, List.set_cons_zero, List.set_cons_succ, i64_w, i32_w]
    rfl
   refine pure_ (i := 33) (N := some 44) (v := undef) (a' := ?_) (.replicate 34 true ++ .replicate 2 false) rfl rfl (any_of HT_.out (by kernel_rfl)) (fun _ _ _ h => h) (Or.inr ⟨by rfl, rfl⟩) ?_ ?_
   rotate_left
   ·simp only [Act.put, List.setIfInBounds_toArray, List.set_cons_zero, List.set_cons_succ, i64_w, i32_w]
    rfl
   refine pure_ (i := 34) (N := some 45) (v := undef) (a' := ?_) (.replicate 35 true ++ .replicate 1 false) rfl rfl (any_of HT_.out (by kernel_rfl)) (fun _ _ _ h => h) (Or.inr ⟨by rfl, rfl⟩) ?_ ?_
   rotate_left
   ·simp only [Act.put, List.setIfInBounds_toArray, List.set_cons_zero, List.set_cons_succ, i64_w, i32_w]
    rfl
   refine pure_ (i := 35) (N := some 46) (v := ?_) (a' := ?_) (.replicate 36 true) rfl rfl (any_of HT_.out (by kernel_rfl)) (fun _ _ _ h => h) (Or.inl ⟨by rfl, ?_⟩) ?_ ?_
   rotate_left
   ·intro w'
    go_simp
    with_reducible rfl
   rotate_left
   ·simp only [Act.put, List.setIfInBounds_toArray, List.set_cons_zero, List.set_cons_succ, i64_w, i32_w]
    rfl
   refine done_ (done_of HT_.out (by kernel_rfl)) ?_
   try go_wp2
   go_meet
   case rel => exact ⟨_, (true), Qi, H', ⟨by first | omega | exact Nat.le_refl _⟩, ⟨by refine Qe ?_; exact BK189.out⟩, ⟨Qb HB.out⟩⟩
  ·rw [if_neg c6] at H
   have c6b0 : (a2 == 0) = false := beq_eq_false_iff_ne.mpr c6
   have c6b1 : (a2 != 0) = true := bne_iff_ne.mpr c6
   (first | rw [c6b0] | (simp only [i64_w, i32_w]; rw [c6b0]) | skip)
   by_cases c8 : (wrap64 (a1 - 1)) < 0
   ·rw [if_pos c8] at H
    have c8b0 : decide ((wrap64 (a1 - 1)) < 0) = true := decide_eq_true c8
    clear c8
    have H' := Ak H
    clear H
    try go_wp2
    have n0_ := Ak (blk_drew BK189.out)
    have n1_ := Ak (below_drew1 HB.out)
    clear BK189 HB
    have BK189 := n0_
    have HB := n1_
    clear n0_ n1_
    refine start_ (n := 36) (S := fun w' => True) (ds := []) #[false, false, false, false, false, false, false, false, false, false, false, false, false, false, false, false, false, false, false, false, false, false, false, false, false, false, false, false, false, false, false, false, false, false, false, false] (by kernel_rfl) rfl rfl trivial (fun hHeld => ?_); refine with_tabW impl_nodes.tab2 impl_nodes.bits2 (fun HT_ HW_ => ?_)
    generalize w5.drew = w9 at BK189 HB hHeld ⊢
    refine Qq 0 (some 11) ?_
    refine Qq 1 (some 12) ?_
    refine Qq 2 (some 13) ?_
    refine Qq 3 (some 14) ?_
    refine Qq 4 (some 15) ?_
    refine Qq 5 (some 16) ?_
    refine Qq 6 (some 17) ?_
    refine pure_ (i := 7) (N := some 18) (v := undef) (a' := ?_) (.replicate 8 true ++ .replicate 28 false) rfl rfl (any_of HT_.out (by kernel_rfl)) (fun _ _ _ h => h) (Or.inr ⟨by rfl, rfl⟩) ?_ ?_
    rotate_left
    ·simp only [Act.put, List.setIfInBounds_toArray, List.set_cons_zero, List.set_cons_succ, i64_w, i32_w]
     rfl
    refine pure_ (i := 8) (N := some 19) (v := undef) (a' := ?_) (.replicate 9 true ++ .replicate 27 false) rfl rfl (any_of HT_.out (by kernel_rfl)) (fun _ _ _ h => h) (Or.inr ⟨by rfl, rfl⟩) ?_ ?_
    rotate_left
    ·simp only [Act.put, List.setIfInBounds_toArray, List.set_cons_zero, List.set_cons_succ, i64_w, i32_w]
     rfl
    refine pure_ (i := 9) (N := some 20) (v := undef) (a' := ?_) (.replicate 10 true ++ .replicate 26 false) rfl rfl (any_of HT_.out (by kernel_rfl)) (fun _ _ _ h => h) (Or.inr ⟨by rfl, rfl⟩) ?_ ?_
    rotate_left
    ·simp only [Act.put, List.setIfInBounds_toArray, List.set_cons_zero, List.set_cons_succ, i64_w, i32_w]
     rfl
    refine pure_ (i := 10) (N := some 21) (v := undef) (a' := ?_) (.replicate 11 true ++ .replicate 25 false) rfl rfl (any_of HT_.out (by kernel_rfl)) (fun _ _ _ h => h) (Or.inr ⟨by rfl, rfl⟩) ?_ ?_
    rotate_left
    ·simp only [Act.put, List.setIfInBounds_toArray, List.set_cons_zero, List.set_cons_succ, i64_w, i32_w]
     rfl
    refine pure_ (i := 11) (N := some 22) (v := undef) (a' := ?_) (.replicate 12 true ++ .replicate 24 false) rfl rfl (any_of HT_.out (by kernel_rfl)) (fun _ _ _ h => h) (Or.inr ⟨by rfl, rfl⟩) ?_ ?_
    rotate_left
    ·simp only [Act.put, List.setIfInBounds_toArray, List.set_cons_zero, List.set_cons_succ, i64_w, i32_w]
     rfl
    refine pure_ (i := 12) (N := some 23) (v := undef) (a' := ?_) (.replicate 13 true ++ .replicate 23 false) rfl rfl (any_of HT_.out (by kernel_rfl)) (fun _ _ _ h => h) (Or.inr ⟨by rfl, rfl⟩) ?_ ?_
    rotate_left
    ·simp only [Act.put, List.setIfInBounds_toArray, List.set_cons_zero, List.set_cons_succ, i64_w, i32_w]
     rfl
    refine pure_ (i := 13) (N := some 24) (v := undef) (a' := ?_) (.replicate 14 true ++ .replicate 22 false) rfl rfl (any_of HT_.out (by kernel_rfl)) (fun _ _ _ h => h) (Or.inr ⟨by rfl, rfl⟩) ?_ ?_
    rotate_left
    ·simp only [Act.put, List.setIfInBounds_toArray, List.set_cons_zero, List.set_cons_succ, i64_w, i32_w]
     rfl
    refine pure_ (i := 14) (N := some 25) (v := ?_) (a' := ?_) (.replicate 15 true ++ .replicate 21 false) rfl rfl (any_of HT_.out (by kernel_rfl)) (fun _ _ _ h => h) (Or.inl ⟨by rfl, ?_⟩) ?_ ?_
    rotate_left
    ·intro w'
     go_simp
     with_reducible rfl
    rotate_left
    ·simp only [Act.put, List.setIfInBounds_toArray, List.set_cons_zero, List.set_cons_succ, i64_w, i32_w]
     rfl
    refine pure_ (i := 15) (N := some 26) (v := ?_) (a' := ?_) (.replicate 16 true ++ .replicate 20 false) rfl rfl (any_of HT_.out (by kernel_rfl)) (fun _ _ _ h => h) (Or.inl ⟨by rfl, ?_⟩) ?_ ?_
    rotate_left
    ·intro w'
     go_simp
     with_reducible rfl
    rotate_left
    ·simp only [Act.put, List.setIfInBounds_toArray, List.set_cons_zero, List.set_cons_succ, i64_w, i32_w]
     rfl
    refine pure_ (i := 16) (N := some 27) (v := undef) (a' := ?_) (.replicate 17 true ++ .replicate 19 false) rfl rfl (any_of HT_.out (by kernel_rfl)) (fun _ _ _ h => h) (Or.inr ⟨by rfl, rfl⟩) ?_ ?_
    rotate_left
    ·simp only [Act.put, List.setIfInBounds_toArray, List.set_cons_zero, List.set_cons_succ, i64_w, i32_w]
     rfl
    refine pure_ (i := 17) (N := some 28) (v := undef) (a' := ?_) (.replicate 18 true ++ .replicate 18 false) rfl rfl (any_of HT_.out (by kernel_rfl)) (fun _ _ _ h => h) (Or.inr ⟨by rfl, rfl⟩) ?_ ?_
    rotate_left
    ·simp only [Act.put, List.setIfInBounds_toArray, List.set_cons_zero, List.set_cons_succ, i64_w, i32_w]
     rfl
    refine pure_ (i := 18) (N := some 29) (v := undef) (a' := ?_) (.replicate 19 true ++ .replicate 17 false) rfl rfl (any_of HT_.out (by kernel_rfl)) (fun _ _ _ h => h) (Or.inr ⟨by rfl, rfl⟩) ?_ ?_
    rotate_left
    ·simp only [Act.put, List.setIfInBounds_toArray, List.set_cons_zero, List.set_cons_succ, i64_w, i32_w]
     rfl
    refine pure_ (i := 19) (N := some 30) (v := undef) (a' := ?_) (.replicate 20 true ++ .replicate 16 false) rfl rfl (any_of HT_.out (by kernel_rfl)) (fun _ _ _ h => h) (Or.inr ⟨by rfl, rfl⟩) ?_ ?_
    rotate_left
    ·simp only [Act.put, List.setIfInBounds_toArray, List.set_cons_zero, List.set_cons_succ, i64_w, i32_w]
     rfl
    refine pure_ (i := 20) (N := some 31) (v := undef) (a' := ?_) (.replicate 21 true ++ .replicate 15 false) rfl rfl (any_of HT_.out (by kernel_rfl)) (fun _ _ _ h => h) (Or.inr ⟨by rfl, rfl⟩) ?_ ?_
    rotate_left
    ·simp only [Act.put, List.setIfInBounds_toArray, List.set_cons_zero, List.set_cons_succ, i64_w, i32_w]
     rfl
    refine pure_ (i := 21) (N := some 32) (v := undef) (a' := ?_) (.replicate 22 true ++ .replicate 14 false) rfl rfl (any_of HT_.out (by kernel_rfl)) (fun _ _ _ h => h) (Or.inr ⟨by rfl, rfl⟩) ?_ ?_
    rotate_left
    ·simp only [Act.put, List.setIfInBounds_toArray, List.set_cons_zero, List.set_cons_succ, i64_w, i32_w]
     rfl
    refine pure_ (i := 22) (N := some 33) (v := undef) (a' := ?_) (.replicate 23 true ++ .replicate 13 false) rfl rfl (any_of HT_.out (by kernel_rfl)) (fun _ _ _ h => h) (Or.inr ⟨by rfl, rfl⟩) ?_ ?_
    rotate_left
    ·simp only [Act.put, List.setIfInBounds_toArray, List.set_cons_zero, List.set_cons_succ, i64_w, i32_w]
     rfl
    refine pure_ (i := 23) (N := some 34) (v := undef) (a' := ?_) (.replicate 24 true ++ .replicate 12 false) rfl rfl (any_of HT_.out (by kernel_rfl)) (fun _ _ _ h => h) (Or.inr ⟨by rfl, rfl⟩) ?_ ?_
    rotate_left
    ·simp only [Act.put, List.setIfInBounds_toArray, List.set_cons_zero, List.set_cons_succ, i64_w, i32_w]
     rfl
    refine pure_ (i := 24) (N := some 35) (v := ?_) (a' := ?_) (.replicate 25 true ++ .replicate 11 false) rfl rfl (any_of HT_.out (by kernel_rfl)) (fun _ _ _ h => h) (Or.inl ⟨by rfl, ?_⟩) ?_ ?_
    rotate_left
    ·intro w'
     go_simp
     with_reducible rfl
    rotate_left
    ·simp only [Act.put, List.setIfInBounds_toArray, List.set_cons_zero, List.set_cons_succ, i64_w, i32_w]
     rfl
    refine pure_ (i := 25) (N := some 36) (v := ?_) (a' := ?_) (.replicate 26 true ++ .replicate 10 false) rfl rfl (any_of HT_.out (by kernel_rfl)) (fun _ _ _ h => h) (Or.inl ⟨by rfl, ?_⟩) ?_ ?_
    rotate_left
    ·intro w'
     go_simp
     with_reducible rfl
    rotate_left
    ·simp only [Act.put, List.setIfInBounds_toArray, List.set_cons_zero, List.set_cons_succ, i64_w, i32_w]
     rfl
    refine pure_ (i := 26) (N := some 37) (v := undef) (a' := ?_) (.replicate 27 true ++ .replicate 9 false) rfl rfl (any_of HT_.out (by kernel_rfl)) (fun _ _ _ h => h) (Or.inr ⟨by rfl, rfl⟩) ?_ ?_
    rotate_left
    ·simp only [Act.put, List.setIfInBounds_toArray, List.set_cons_zero, List.set_cons_succ, i64_w, i32_w]
     rfl
    refine pure_ (i := 27) (N := some 38) (v := undef) (a' := ?_) (.replicate 28 true ++ .replicate 8 false) rfl rfl (any_of HT_.out (by kernel_rfl)) (fun _ _ _ h => h) (Or.inr ⟨by rfl, rfl⟩) ?_ ?_
    rotate_left
    ·simp only [Act.put, List.setIfInBounds_toArray, List.set_cons_zero, List.set_cons_succ, i64_w, i32_w]
     rfl
    refine pure_ (i := 28) (N := some 39) (v := undef) (a' := ?_) (.replicate 29 true ++ .replicate 7 false) rfl rfl (any_of HT_.out (by kernel_rfl)) (fun _ _ _ h => h) (Or.inr ⟨by rfl, rfl⟩) ?_ ?_
    rotate_left
    ·simp only [Act.put, List.setIfInBounds_toArray, List.set_cons_zero, List.set_cons_succ, i64_w, i32_w]
     rfl
    refine pure_ (i := 29) (N := some 40) (v := ?_) (a' := ?_) (.replicate 30 true ++ .replicate 6 false) rfl rfl (any_of HT_.out (by kernel_rfl)) (fun _ _ _ h => h) (Or.inl ⟨by rfl, ?_⟩) ?_ ?_
    rotate_left
    ·intro w'
     go_simp
     with_reducible rfl
    rotate_left
    ·simp only [Act.put, List.setIfInBounds_toArray, List.set_cons_zero, List.set_cons_succ, i64_w, i32_w]
     rfl
    refine pure_ (i := 30) (N := some 41) (v := ?_) (a' := ?_) (.replicate 31 true ++ .replicate 5 false) rfl rfl (any_of HT_.out (by kernel_rfl)) (fun _ _ _ h => h) (Or.inl ⟨by rfl, ?_⟩) ?_ ?_
    rotate_left
    ·intro w'
     go_simp
     with_reducible rfl
    rotate_left
    ·simp only [Act.put, List.setIfInBounds_toArray, List.set_cons_zero, List.set_cons_succ, i64_w, i32_w]
     rfl
    refine pure_ (i := 31) (N := some 42) (v := undef) (a' := ?_) (.replicate 32 true ++ .replicate 4 false) rfl rfl (any_of HT_.out (by kernel_rfl)) (fun _ _ _ h => h) (Or.inr ⟨by rfl, rfl⟩) ?_ ?_
    rotate_left
    ·simp only [Act.put, List.setIfInBounds_toArray, List.set_cons_zero, List.set_cons_succ, i64_w, i32_w]
     rfl
    refine pure_ (i := 32) (N := some 43) (v := undef) (a' := ?_) (.replicate 33 true ++ .replicate 3 false) rfl rfl (any_of HT_.out (by kernel_rfl)) (fun _ _ _ h => h) (Or.inr ⟨by rfl, rfl⟩) ?_ ?_
    rotate_left
    ·simp only [Act.put, List.setIfInBounds_toArray, List.set_cons_zero, List.set_cons_succ, i64_w, i32_w]
     rfl
    refine pure_ (i := 33) (N := some 44) (v := undef) (a' := ?_) (.replicate 34 true ++ .replicate 2 false) rfl rfl (any_of HT_.out (by kernel_rfl)) (fun _ _ _ h => h) (Or.inr ⟨by rfl, rfl⟩) ?_ ?_
    rotate_left
    ·simp only [Act.put, List.setIfInBounds_toArray, List.set_cons_zero, List.set_cons_succ, i64_w, i32_w]
     rfl
    refine pure_ (i := 34) (N := some 45) (v := undef) (a' := ?_) (.replicate 35 true ++ .replicate 1 false) rfl rfl (any_of HT_.out (by kernel_rfl)) (fun _ _ _ h => h) (Or.inr ⟨by rfl, rfl⟩) ?_ ?_
    rotate_left
    ·simp only [Act.put, List.setIfInBounds_toArray, List.set_cons_zero, List.set_cons_succ, i64_w, i32_w]
     rfl
    refine pure_ (i := 35) (N := some 46) (v := ?_) (a' := ?_) (.replicate 36 true) rfl rfl (any_of HT_.out (by kernel_rfl)) (fun _ _ _ h => h) (Or.inl ⟨by rfl, ?_⟩) ?_ ?_
    rotate_left
    ·intro w'
     go_simp
     with_reducible rfl
    rotate_left
    ·simp only [Act.put, List.setIfInBounds_toArray, List.set_cons_zero, List.set_cons_succ, i64_w, i32_w]
     rfl
    refine done_ (done_of HT_.out (by kernel_rfl)) ?_
    try go_wp2
    go_meet
    case rel => exact ⟨_, (true), Qi, H', ⟨by first | omega | exact Nat.le_refl _⟩, ⟨by refine Qe ?_; exact BK189.out⟩, ⟨Qb HB.out⟩⟩
   ·rw [if_neg c8] at H
    have c8b0 : decide ((wrap64 (a1 - 1)) < 0) = false := decide_eq_false c8
    clear c8
    replace H := Option.bind_eq_some_iff.mp H
    obtain ⟨t190, A100, H⟩ := H
    replace H : (if (l0_2.length : Int) = t190 then (if a0_1 = 0 then (if a0_1 < 0 then (impl_nodes.j0 k (wrap64 (a1 - 1)) a2 true a0_0 a0_1 l0_2) else ((impl_LimitOf.f k 30).bind fun t191 => (impl_nodes.j0 k (wrap64 (a1 - 1)) a2 (decide (a0_1 > t191)) a0_0 a0_1 l0_2))) else (if a0_0 = 1 then (if a0_1 < 0 then (impl_nodes.j0 k (wrap64 (a1 - 1)) a2 true a0_0 a0_1 l0_2) else ((impl_LimitOf.f k 30).bind fun t192 => (impl_nodes.j0 k (wrap64 (a1 - 1)) a2 (decide (a0_1 > t192)) a0_0 a0_1 l0_2))) else (impl_nodes.j0 k (wrap64 (a1 - 1)) a2 true a0_0 a0_1 l0_2))) else (impl_nodes.j0 k (wrap64 (a1 - 1)) a2 true a0_0 a0_1 l0_2)) = some r := H
    have A10 := Ak A100
    clear A100
    by_cases c11 : (l0_2.length : Int) = t190
    ·rw [if_pos c11] at H
     have c11b0 : ((l0_2.length : Int) == t190) = true := beq_iff_eq.mpr c11
     have c11b1 : ((l0_2.length : Int) != t190) = false := bne_eq_false_iff_eq.mpr c11
     clear c11
     by_cases c12 : a0_1 = 0
     ·rw [if_pos c12] at H
      have c12b0 : (a0_1 == 0) = true := beq_iff_eq.mpr c12
      have c12b1 : (a0_1 != 0) = false := bne_eq_false_iff_eq.mpr c12
      clear c12
      by_cases c13 : a0_1 < 0
      ·rw [if_pos c13] at H
       have c13b0 : decide (a0_1 < 0) = true := decide_eq_true c13
       clear c13
       have H' := Ak H
       clear H
       try go_wp2
       have n0_ := Ak (blk_drew BK189.out)
       have n1_ := Ak (below_drew1 HB.out)
       clear BK189 HB
       have BK189 := n0_
       have HB := n1_
       clear n0_ n1_
       refine start_ (n := 36) (S := fun w' => w'.cell? ⟨gb189, 0, none⟩ = some (.int .i64 a0_0) ∧ w'.cell? ⟨gb189, 1, none⟩ = some (.int .i64 a0_1) ∧ w'.cell? ⟨gb189, 2, none⟩ = some (.slice A0_2 l0_2.length c0_2)) (ds := []) #[false, false, false, false, false, false, false, false, false, false, false, false, false, false, false, false, false, false, false, false, false, false, false, false, false, false, false, false, false, false, false, false, false, false, false, false] (by kernel_rfl) rfl rfl ⟨(blk_cell BK189.out 0).trans rfl, (blk_cell BK189.out 1).trans rfl, (blk_cell BK189.out 2).trans rfl⟩ (fun hHeld => ?_); refine with_tabW impl_nodes.tab2 impl_nodes.bits2 (fun HT_ HW_ => ?_)
       generalize w5.drew = w14 at BK189 HB hHeld ⊢
       refine Qq 0 (some 11) ?_
       refine Qq 1 (some 12) ?_
       refine Qq 2 (some 13) ?_
       refine Qq 3 (some 14) ?_
       refine Qq 4 (some 15) ?_
       refine Qq 5 (some 16) ?_
       refine Qq 6 (some 17) ?_
       refine Qq 7 (some 18) ?_
       refine Qq 10 (some 21) ?_
       refine Qr 8 (some 19) hHeld ?_
       refine Qq 9 (some 20) ?_
       refine Qr 11 (some 22) hHeld ?_
       refine Qs 12 (some 23) (fun K hK => ?_)
       refine goes_ Tryd.func89 (by kernel_rfl) rfl #[.int .i64 a0_0] (by rfl) rfl rfl T_49 ?_
       with_reducible refine (impl_kids.calls k a0_0 t190 _ A10.out).mono ?_
       rintro e w' ⟨rfl, ⟨nd, rfl⟩⟩
       refine ⟨_, rfl, ?_⟩
       refine hK.out _ _ ⟨(blk_cell BK189.out 0).trans rfl, (blk_cell BK189.out 1).trans rfl, (blk_cell BK189.out 2).trans rfl⟩ (fun hHeld => ?_)
       clear hK K
       refine norm_ (a' := ?_) ?_ ?_
       rotate_left
       ·show Act.put _ (some 23) _ = _
        simp only [Act.put, List.setIfInBounds_toArray, List.set_cons_zero, List.set_cons_succ, i64_w, i32_w]
        rfl
       refine Qq 13 (some 24) ?_
       refine Qq 14 (some 25) ?_
       refine Qq 15 (some 26) ?_
       refine Qq 16 (some 27) ?_
       refine Qr 17 (some 28) hHeld ?_
       refine Qq 18 (some 29) ?_
       refine Qq 19 (some 30) ?_
       refine pure_ (i := 20) (N := some 31) (v := undef) (a' := ?_) (.replicate 21 true ++ .replicate 15 false) rfl rfl (any_of HT_.out (by kernel_rfl)) (fun _ _ _ h => h) (Or.inr ⟨by rfl, rfl⟩) ?_ ?_
       rotate_left
       ·simp only [Act.put, List.setIfInBounds_toArray, List.set_cons_zero, List.set_cons_succ, i64_w, i32_w]
        rfl
       refine pure_ (i := 21) (N := some 32) (v := undef) (a' := ?_) (.replicate 22 true ++ .replicate 14 false) rfl rfl (any_of HT_.out (by kernel_rfl)) (fun _ _ _ h => h) (Or.inr ⟨by rfl, rfl⟩) ?_ ?_
       rotate_left
       ·simp only [Act.put, List.setIfInBounds_toArray, List.set_cons_zero, List.set_cons_succ, i64_w, i32_w]
        rfl
       refine pure_ (i := 22) (N := some 33) (v := undef) (a' := ?_) (.replicate 23 true ++ .replicate 13 false) rfl rfl (any_of HT_.out (by kernel_rfl)) (fun _ _ _ h => h) (Or.inr ⟨by rfl, rfl⟩) ?_ ?_
       rotate_left
       ·simp only [Act.put, List.setIfInBounds_toArray, List.set_cons_zero, List.set_cons_succ, i64_w, i32_w]
        rfl
       refine pure_ (i := 23) (N := some 34) (v := ?_) (a' := ?_) (.replicate 24 true ++ .replicate 12 false) rfl rfl (any_of HT_.out (by kernel_rfl)) (fun _ _ _ h => h) (Or.inl ⟨by rfl, ?_⟩) ?_ ?_
       rotate_left
       ·intro w'
        go_simp
        with_reducible rfl
       rotate_left
       ·simp only [Act.put, List.setIfInBounds_toArray, List.set_cons_zero, List.set_cons_succ, i64_w, i32_w]
        rfl
       refine pure_ (i := 24) (N := some 35) (v := ?_) (a' := ?_) (.replicate 25 true ++ .replicate 11 false) rfl rfl (any_of HT_.out (by kernel_rfl)) (fun _ _ _ h => h) (Or.inl ⟨by rfl, ?_⟩) ?_ ?_
       rotate_left
       ·intro w'
        go_simp
        with_reducible rfl
       rotate_left
       ·simp only [Act.put, List.setIfInBounds_toArray, List.set_cons_zero, List.set_cons_succ, i64_w, i32_w]
        rfl
       refine pure_ (i := 25) (N := some 36) (v := ?_) (a' := ?_) (.replicate 26 true ++ .replicate 10 false) rfl rfl (any_of HT_.out (by kernel_rfl)) (fun _ _ _ h => h) (Or.inl ⟨by rfl, ?_⟩) ?_ ?_
       rotate_left
       ·intro w'
        go_simp
        with_reducible rfl
       rotate_left
       ·simp only [Act.put, List.setIfInBounds_toArray, List.set_cons_zero, List.set_cons_succ, i64_w, i32_w]
        rfl
       refine pure_ (i := 26) (N := some 37) (v := ?_) (a' := ?_) (.replicate 27 true ++ .replicate 9 false) rfl rfl (any_of HT_.out (by kernel_rfl)) (fun _ _ _ h => h) (Or.inl ⟨by rfl, ?_⟩) ?_ ?_
       rotate_left
       ·intro w'
        go_simp
        with_reducible rfl
       rotate_left
       ·simp only [Act.put, List.setIfInBounds_toArray, List.set_cons_zero, List.set_cons_succ, i64_w, i32_w]
        rfl
       refine take_ (i := 27) (N := some 38) (v := ?_) (a' := ?_) #[true, true, true, true, true, true, true, true, true, true, true, true, true, true, true, true, true, true, true, true, true, true, true, true, true, true, true, true, false, false, false, false, false, false, false, false] rfl rfl (take_ofW HT_.out HW_.out (by kernel_rfl)) (fun _ _ _ h => h) (Or.inl ⟨by rfl, ?_⟩) hHeld ?_ ?_
       rotate_left
       ·rintro w' ⟨s0, s1, s2⟩
        go_simp
        with_reducible rfl
       rotate_left
       ·simp only [Act.put, List.setIfInBounds_toArray, List.set_cons_zero, List.set_cons_succ, i64_w, i32_w]
        rfl
       refine pure_ (i := 28) (N := some 39) (v := ?_) (a' := ?_) (.replicate 29 true ++ .replicate 7 false) rfl rfl (any_of HT_.out (by kernel_rfl)) (fun _ _ _ h => h) (Or.inl ⟨by rfl, ?_⟩) ?_ ?_
       rotate_left
       ·intro w'
        go_simp
        with_reducible rfl
       rotate_left
       ·simp only [Act.put, List.setIfInBounds_toArray, List.set_cons_zero, List.set_cons_succ, i64_w, i32_w]
        rfl
       refine pure_ (i := 29) (N := some 40) (v := ?_) (a' := ?_) (.replicate 30 true ++ .replicate 6 false) rfl rfl (any_of HT_.out (by kernel_rfl)) (fun _ _ _ h => h) (Or.inl ⟨by rfl, ?_⟩) ?_ ?_
       rotate_left
       ·intro w'
        go_simp
        with_reducible rfl
       rotate_left
       ·simp only [Act.put, List.setIfInBounds_toArray, List.set_cons_zero, List.set_cons_succ, i64_w, i32_w]
        rfl
       refine pure_ (i := 30) (N := some 41) (v := ?_) (a' := ?_) (.replicate 31 true ++ .replicate 5 false) rfl rfl (any_of HT_.out (by kernel_rfl)) (fun _ _ _ h => h) (Or.inl ⟨by rfl, ?_⟩) ?_ ?_
       rotate_left
       ·intro w'
        go_simp
        with_reducible rfl
       rotate_left
       ·simp only [Act.put, List.setIfInBounds_toArray, List.set_cons_zero, List.set_cons_succ, i64_w, i32_w]
        rfl
       refine pure_ (i := 31) (N := some 42) (v := undef) (a' := ?_) (.replicate 32 true ++ .replicate 4 false) rfl rfl (any_of HT_.out (by kernel_rfl)) (fun _ _ _ h => h) (Or.inr ⟨by rfl, rfl⟩) ?_ ?_
       rotate_left
       ·simp only [Act.put, List.setIfInBounds_toArray, List.set_cons_zero, List.set_cons_succ, i64_w, i32_w]
        rfl
       refine pure_ (i := 32) (N := some 43) (v := undef) (a' := ?_) (.replicate 33 true ++ .replicate 3 false) rfl rfl (any_of HT_.out (by kernel_rfl)) (fun _ _ _ h => h) (Or.inr ⟨by rfl, rfl⟩) ?_ ?_
       rotate_left
       ·simp only [Act.put, List.setIfInBounds_toArray, List.set_cons_zero, List.set_cons_succ, i64_w, i32_w]
        rfl
       refine pure_ (i := 33) (N := some 44) (v := undef) (a' := ?_) (.replicate 34 true ++ .replicate 2 false) rfl rfl (any_of HT_.out (by kernel_rfl)) (fun _ _ _ h => h) (Or.inr ⟨by rfl, rfl⟩) ?_ ?_
       rotate_left
       ·simp only [Act.put, List.setIfInBounds_toArray, List.set_cons_zero, List.set_cons_succ, i64_w, i32_w]
        rfl
       refine pure_ (i := 34) (N := some 45) (v := undef) (a' := ?_) (.replicate 35 true ++ .replicate 1 false) rfl rfl (any_of HT_.out (by kernel_rfl)) (fun _ _ _ h => h) (Or.inr ⟨by rfl, rfl⟩) ?_ ?_
       rotate_left
       ·simp only [Act.put, List.setIfInBounds_toArray, List.set_cons_zero, List.set_cons_succ, i64_w, i32_w]
        rfl
       refine pure_ (i := 35) (N := some 46) (v := ?_) (a' := ?_) (.replicate 36 true) rfl rfl (any_of HT_.out (by kernel_rfl)) (fun _ _ _ h => h) (Or.inl ⟨by rfl, ?_⟩) ?_ ?_
       rotate_left
       ·intro w'
        go_simp
        with_reducible rfl
       rotate_left
       ·simp only [Act.put, List.setIfInBounds_toArray, List.set_cons_zero, List.set_cons_succ, i64_w, i32_w]
        rfl
       refine done_ (done_of HT_.out (by kernel_rfl)) ?_
       try go_wp2
       go_meet
       case rel => exact ⟨_, (true), Qi, H', ⟨by first | omega | exact Nat.le_refl _⟩, ⟨by refine Qe ?_; exact BK189.out⟩, ⟨Qb HB.out⟩⟩
      ·rw [if_neg c13] at H
       have c13b0 : decide (a0_1 < 0) = false := decide_eq_false c13
       clear c13
       replace H := Option.bind_eq_some_iff.mp H
       obtain ⟨t191, A150, H⟩ := H
       replace H : (impl_nodes.j0 k (wrap64 (a1 - 1)) a2 (decide (a0_1 > t191)) a0_0 a0_1 l0_2) = some r := H
       have A15 := Ak A150
       clear A150
       have H' := Ak H
       clear H
       try go_wp2
       have n0_ := Ak (blk_drew BK189.out)
       have n1_ := Ak (below_drew1 HB.out)
       clear BK189 HB
       have BK189 := n0_
       have HB := n1_
       clear n0_ n1_
       refine start_ (n := 36) (S := fun w' => w'.cell? ⟨gb189, 0, none⟩ = some (.int .i64 a0_0) ∧ w'.cell? ⟨gb189, 1, none⟩ = some (.int .i64 a0_1) ∧ w'.cell? ⟨gb189, 2, none⟩ = some (.slice A0_2 l0_2.length c0_2)) (ds := []) #[false, false, false, false, false, false, false, false, false, false, false, false, false, false, false, false, false, false, false, false, false, false, false, false, false, false, false, false, false, false, false, false, false, false, false, false] (by kernel_rfl) rfl rfl ⟨(blk_cell BK189.out 0).trans rfl, (blk_cell BK189.out 1).trans rfl, (blk_cell BK189.out 2).trans rfl⟩ (fun hHeld => ?_); refine with_tabW impl_nodes.tab2 impl_nodes.bits2 (fun HT_ HW_ => ?_)
       generalize w5.drew = w16 at BK189 HB hHeld ⊢
       refine Qq 0 (some 11) ?_
       refine Qq 1 (some 12) ?_
       refine Qq 2 (some 13) ?_
       refine Qq 3 (some 14) ?_
       refine Qq 4 (some 15) ?_
       refine Qq 5 (some 16) ?_
       refine Qq 6 (some 17) ?_
       refine Qq 7 (some 18) ?_
       refine Qq 10 (some 21) ?_
       refine Qr 8 (some 19) hHeld ?_
       refine Qq 9 (some 20) ?_
       refine Qr 11 (some 22) hHeld ?_
       refine Qs 12 (some 23) (fun K hK => ?_)
       refine goes_ Tryd.func89 (by kernel_rfl) rfl #[.int .i64 a0_0] (by rfl) rfl rfl T_49 ?_
       with_reducible refine (impl_kids.calls k a0_0 t190 _ A10.out).mono ?_
       rintro e w' ⟨rfl, ⟨nd, rfl⟩⟩
       refine ⟨_, rfl, ?_⟩
       refine hK.out _ _ ⟨(blk_cell BK189.out 0).trans rfl, (blk_cell BK189.out 1).trans rfl, (blk_cell BK189.out 2).trans rfl⟩ (fun hHeld => ?_)
       clear hK K
       refine norm_ (a' := ?_) ?_ ?_
       rotate_left
       ·show Act.put _ (some 23) _ = _
        simp only [Act.put, List.setIfInBounds_toArray, List.set_cons_zero, List.set_cons_succ, i64_w, i32_w]
        rfl
       refine Qq 13 (some 24) ?_
       refine Qq 14 (some 25) ?_
       refine Qq 15 (some 26) ?_
       refine Qq 16 (some 27) ?_
       refine Qr 17 (some 28) hHeld ?_
       refine Qq 18 (some 29) ?_
       refine Qq 19 (some 30) ?_
       refine pure_ (i := 20) (N := some 31) (v := undef) (a' := ?_) (.replicate 21 true ++ .replicate 15 false) rfl rfl (any_of HT_.out (by kernel_rfl)) (fun _ _ _ h => h) (Or.inr ⟨by rfl, rfl⟩) ?_ ?_
       rotate_left
       ·simp only [Act.put, List.setIfInBounds_toArray, List.set_cons_zero, List.set_cons_succ, i64_w, i32_w]
        rfl
       refine pure_ (i := 21) (N := some 32) (v := undef) (a' := ?_) (.replicate 22 true ++ .replicate 14 false) rfl rfl (any_of HT_.out (by kernel_rfl)) (fun _ _ _ h => h) (Or.inr ⟨by rfl, rfl⟩) ?_ ?_
       rotate_left
       ·simp only [Act.put, List.setIfInBounds_toArray, List.set_cons_zero, List.set_cons_succ, i64_w, i32_w]
        rfl
       refine pure_ (i := 22) (N := some 33) (v := undef) (a' := ?_) (.replicate 23 true ++ .replicate 13 false) rfl rfl (any_of HT_.out (by kernel_rfl)) (fun _ _ _ h => h) (Or.inr ⟨by rfl, rfl⟩) ?_ ?_
       rotate_left
       ·simp only [Act.put, List.setIfInBounds_toArray, List.set_cons_zero, List.set_cons_succ, i64_w, i32_w]
        rfl
       refine pure_ (i := 23) (N := some 34) (v := ?_) (a' := ?_) (.replicate 24 true ++ .replicate 12 false) rfl rfl (any_of HT_.out (by kernel_rfl)) (fun _ _ _ h => h) (Or.inl ⟨by rfl, ?_⟩) ?_ ?_
       rotate_left
       ·intro w'
        go_simp
        with_reducible rfl
       rotate_left
       ·simp only [Act.put, List.setIfInBounds_toArray, List.set_cons_zero, List.set_cons_succ, i64_w, i32_w]
        rfl
       refine pure_ (i := 24) (N := some 35) (v := ?_) (a' := ?_) (.replicate 25 true ++ .replicate 11 false) rfl rfl (any_of HT_.out (by kernel_rfl)) (fun _ _ _ h => h) (Or.inl ⟨by rfl, ?_⟩) ?_ ?_
       rotate_left
       ·intro w'
        go_simp
        with_reducible rfl
       rotate_left
       ·simp only [Act.put, List.setIfInBounds_toArray, List.set_cons_zero, List.set_cons_succ, i64_w, i32_w]
        rfl
       refine pure_ (i := 25) (N := some 36) (v := ?_) (a' := ?_) (.replicate 26 true ++ .replicate 10 false) rfl rfl (any_of HT_.out (by kernel_rfl)) (fun _ _ _ h => h) (Or.inl ⟨by rfl, ?_⟩) ?_ ?_
       rotate_left
       ·intro w'
        go_simp
        with_reducible rfl
       rotate_left
       ·simp only [Act.put, List.setIfInBounds_toArray, List.set_cons_zero, List.set_cons_succ, i64_w, i32_w]
        rfl
       refine pure_ (i := 26) (N := some 37) (v := ?_) (a' := ?_) (.replicate 27 true ++ .replicate 9 false) rfl rfl (any_of HT_.out (by kernel_rfl)) (fun _ _ _ h => h) (Or.inl ⟨by rfl, ?_⟩) ?_ ?_
       rotate_left
       ·intro w'
        go_simp
        with_reducible rfl
       rotate_left
       ·simp only [Act.put, List.setIfInBounds_toArray, List.set_cons_zero, List.set_cons_succ, i64_w, i32_w]
        rfl
       refine take_ (i := 27) (N := some 38) (v := ?_) (a' := ?_) #[true, true, true, true, true, true, true, true, true, true, true, true, true, true, true, true, true, true, true, true, true, true, true, true, true, true, true, true, false, false, false, false, false, false, false, false] rfl rfl (take_ofW HT_.out HW_.out (by kernel_rfl)) (fun _ _ _ h => h) (Or.inl ⟨by rfl, ?_⟩) hHeld ?_ ?_
       rotate_left
       ·rintro w' ⟨s0, s1, s2⟩
        go_simp
        with_reducible rfl
       rotate_left
       ·simp only [Act.put, List.setIfInBounds_toArray, List.set_cons_zero, List.set_cons_succ, i64_w, i32_w]
        rfl
       refine pure_ (i := 28) (N := some 39) (v := ?_) (a' := ?_) (.replicate 29 true ++ .replicate 7 false) rfl rfl (any_of HT_.out (by kernel_rfl)) (fun _ _ _ h => h) (Or.inl ⟨by rfl, ?_⟩) ?_ ?_
       rotate_left
       ·intro w'
        go_simp
        with_reducible rfl
       rotate_left
       ·simp only [Act.put, List.setIfInBounds_toArray, List.set_cons_zero, List.set_cons_succ, i64_w, i32_w]
        rfl
       refine pure_ (i := 29) (N := some 40) (v := ?_) (a' := ?_) (.replicate 30 true ++ .replicate 6 false) rfl rfl (any_of HT_.out (by kernel_rfl)) (fun _ _ _ h => h) (Or.inl ⟨by rfl, ?_⟩) ?_ ?_
       rotate_left
       ·intro w'
        go_simp
        with_reducible rfl
       rotate_left
       ·simp only [Act.put, List.setIfInBounds_toArray, List.set_cons_zero, List.set_cons_succ, i64_w, i32_w]
        rfl
       refine pure_ (i := 30) (N := some 41) (v := ?_) (a' := ?_) (.replicate 31 true ++ .replicate 5 false) rfl rfl (any_of HT_.out (by kernel_rfl)) (fun _ _ _ h => h) (Or.inl ⟨by rfl, ?_⟩) ?_ ?_
       rotate_left
       ·intro w'
        go_simp
        with_reducible rfl
       rotate_left
       ·simp only [Act.put, List.setIfInBounds_toArray, List.set_cons_zero, List.set_cons_succ, i64_w, i32_w]
        rfl
       refine pure_ (i := 31) (N := some 42) (v := ?_) (a' := ?_) (.replicate 32 true ++ .replicate 4 false) rfl rfl (any_of HT_.out (by kernel_rfl)) (fun _ _ _ h => h) (Or.inl ⟨by rfl, ?_⟩) ?_ ?_
       rotate_left
       ·intro w'
        go_simp
        with_reducible rfl
       rotate_left
       ·simp only [Act.put, List.setIfInBounds_toArray, List.set_cons_zero, List.set_cons_succ, i64_w, i32_w]
        rfl
       refine take_ (i := 32) (N := some 43) (v := ?_) (a' := ?_) #[true, true, true, true, true, true, true, true, true, true, true, true, true, true, true, true, true, true, true, true, true, true, true, true, true, true, true, true, true, true, true, true, true, false, false, false] rfl rfl (take_ofW HT_.out HW_.out (by kernel_rfl)) (fun _ _ _ h => h) (Or.inl ⟨by rfl, ?_⟩) hHeld ?_ ?_
       rotate_left
       ·rintro w' ⟨s0, s1, s2⟩
        go_simp
        with_reducible rfl
       rotate_left
       ·simp only [Act.put, List.setIfInBounds_toArray, List.set_cons_zero, List.set_cons_succ, i64_w, i32_w]
        rfl
       refine Qs 33 (some 44) (fun K hK => ?_)
       refine goes_ Tryd.func90 (by kernel_rfl) rfl #[.int .i64 30] (by rfl) rfl rfl T_49 ?_
       with_reducible refine (impl_LimitOf.calls k 30 t191 _ A15.out).mono ?_
       rintro e w' ⟨rfl, ⟨nd, rfl⟩⟩
       refine ⟨_, rfl, ?_⟩
       refine hK.out _ _ ⟨(blk_cell BK189.out 0).trans rfl, (blk_cell BK189.out 1).trans rfl, (blk_cell BK189.out 2).trans rfl⟩ (fun hHeld => ?_)
       clear hK K
       refine norm_ (a' := ?_) ?_ ?_
       rotate_left
       ·show Act.put _ (some 44) _ = _
        simp only [Act.put, List.setIfInBounds_toArray, List.set_cons_zero, List.set_cons_succ, i64_w, i32_w]
        rfl
       refine pure_ (i := 34) (N := some 45) (v := ?_) (a' := ?_) (.replicate 35 true ++ .replicate 1 false) rfl rfl (any_of HT_.out (by kernel_rfl)) (fun _ _ _ h => h) (Or.inl ⟨by rfl, ?_⟩) ?_ ?_
       rotate_left
       ·intro w'
        go_simp
        with_reducible rfl
       rotate_left
       ·simp only [Act.put, List.setIfInBounds_toArray, List.set_cons_zero, List.set_cons_succ, i64_w, i32_w]
        rfl
       refine pure_ (i := 35) (N := some 46) (v := ?_) (a' := ?_) (.replicate 36 true) rfl rfl (any_of HT_.out (by kernel_rfl)) (fun _ _ _ h => h) (Or.inl ⟨by rfl, ?_⟩) ?_ ?_
       rotate_left
       ·intro w'
        go_simp
        with_reducible rfl
       rotate_left
       ·simp only [Act.put, List.setIfInBounds_toArray, List.set_cons_zero, List.set_cons_succ, i64_w, i32_w]
        rfl
       refine done_ (done_of HT_.out (by kernel_rfl)) ?_
       try go_wp2
       go_meet
       case rel => exact ⟨_, (decide (a0_1 > t191)), Qi, H', ⟨by first | omega | exact Nat.le_refl _⟩, ⟨by refine Qe ?_; exact BK189.out⟩, ⟨Qb HB.out⟩⟩
     ·rw [if_neg c12] at H
      have c12b0 : (a0_1 == 0) = false := beq_eq_false_iff_ne.mpr c12
      have c12b1 : (a0_1 != 0) = true := bne_iff_ne.mpr c12
      by_cases c17 : a0_0 = 1
      ·rw [if_pos c17] at H
       have c17b0 : (a0_0 == 1) = true := beq_iff_eq.mpr c17
       have c17b1 : (a0_0 != 1) = false := bne_eq_false_iff_eq.mpr c17
       clear c17
       by_cases c18 : a0_1 < 0
       ·rw [if_pos c18] at H
        have c18b0 : decide (a0_1 < 0) = true := decide_eq_true c18
        clear c18
        have H' := Ak H
        clear H
        try go_wp2
        have n0_ := Ak (blk_drew BK189.out)
        have n1_ := Ak (below_drew1 HB.out)
        clear BK189 HB
        have BK189 := n0_
        have HB := n1_
        clear n0_ n1_
        refine start_ (n := 36) (S := fun w' => w'.cell? ⟨gb189, 0, none⟩ = some (.int .i64 a0_0) ∧ w'.cell? ⟨gb189, 1, none⟩ = some (.int .i64 a0_1) ∧ w'.cell? ⟨gb189, 2, none⟩ = some (.slice A0_2 l0_2.length c0_2)) (ds := []) #[false, false, false, false, false, false, false, false, false, false, false, false, false, false, false, false, false, false, false, false, false, false, false, false, false, false, false, false, false, false, false, false, false, false, false, false] (by kernel_rfl) rfl rfl ⟨(blk_cell BK189.out 0).trans rfl, (blk_cell BK189.out 1).trans rfl, (blk_cell BK189.out 2).trans rfl⟩ (fun hHeld => ?_); refine with_tabW impl_nodes.tab2 impl_nodes.bits2 (fun HT_ HW_ => ?_)
        generalize w5.drew = w19 at BK189 HB hHeld ⊢
        refine Qq 0 (some 11) ?_
        refine Qq 1 (some 12) ?_
        refine Qq 2 (some 13) ?_
        refine Qq 3 (some 14) ?_
        refine Qq 4 (some 15) ?_
        refine Qq 5 (some 16) ?_
        refine Qq 6 (some 17) ?_
        refine Qq 7 (some 18) ?_
        refine Qq 10 (some 21) ?_
        refine Qr 8 (some 19) hHeld ?_
        refine Qq 9 (some 20) ?_
        refine Qr 11 (some 22) hHeld ?_
        refine Qs 12 (some 23) (fun K hK => ?_)
        refine goes_ Tryd.func89 (by kernel_rfl) rfl #[.int .i64 a0_0] (by rfl) rfl rfl T_49 ?_
        with_reducible refine (impl_kids.calls k a0_0 t190 _ A10.out).mono ?_
        rintro e w' ⟨rfl, ⟨nd, rfl⟩⟩
        refine ⟨_, rfl, ?_⟩
        refine hK.out _ _ ⟨(blk_cell BK189.out 0).trans rfl, (blk_cell BK189.out 1).trans rfl, (blk_cell BK189.out 2).trans rfl⟩ (fun hHeld => ?_)
        clear hK K
        refine norm_ (a' := ?_) ?_ ?_
        rotate_left
        ·show Act.put _ (some 23) _ = _
         simp only [Act.put, List.setIfInBounds_toArray, List.set_cons_zero, List.set_cons_succ, i64_w, i32_w]
         rfl
        refine Qq 13 (some 24) ?_
        refine Qq 14 (some 25) ?_
        refine Qq 15 (some 26) ?_
        refine Qq 16 (some 27) ?_
        refine Qr 17 (some 28) hHeld ?_
        refine Qq 18 (some 29) ?_
        refine Qq 19 (some 30) ?_
        refine Qq 20 (some 31) ?_
        refine Qr 21 (some 32) hHeld ?_
        refine Qq 22 (some 33) ?_
        refine Qq 23 (some 34) ?_
        refine Qq 24 (some 35) ?_
        refine Qq 25 (some 36) ?_
        refine Qq 26 (some 37) ?_
        refine Qr 27 (some 38) hHeld ?_
        refine Qq 28 (some 39) ?_
        refine Qq 29 (some 40) ?_
        refine Qq 30 (some 41) ?_
        refine pure_ (i := 31) (N := some 42) (v := undef) (a' := ?_) (.replicate 32 true ++ .replicate 4 false) rfl rfl (any_of HT_.out (by kernel_rfl)) (fun _ _ _ h => h) (Or.inr ⟨by rfl, rfl⟩) ?_ ?_
        rotate_left
        ·simp only [Act.put, List.setIfInBounds_toArray, List.set_cons_zero, List.set_cons_succ, i64_w, i32_w]
         rfl
        refine pure_ (i := 32) (N := some 43) (v := undef) (a' := ?_) (.replicate 33 true ++ .replicate 3 false) rfl rfl (any_of HT_.out (by kernel_rfl)) (fun _ _ _ h => h) (Or.inr ⟨by rfl, rfl⟩) ?_ ?_
        rotate_left
        ·simp only [Act.put, List.setIfInBounds_toArray, List.set_cons_zero, List.set_cons_succ, i64_w, i32_w]
         rfl
        refine pure_ (i := 33) (N := some 44) (v := undef) (a' := ?_) (.replicate 34 true ++ .replicate 2 false) rfl rfl (any_of HT_.out (by kernel_rfl)) (fun _ _ _ h => h) (Or.inr ⟨by rfl, rfl⟩) ?_ ?_
        rotate_left
        ·simp only [Act.put, List.setIfInBounds_toArray, List.set_cons_zero, List.set_cons_succ, i64_w, i32_w]
         rfl
        refine pure_ (i := 34) (N := some 45) (v := undef) (a' := ?_) (.replicate 35 true ++ .replicate 1 false) rfl rfl (any_of HT_.out (by kernel_rfl)) (fun _ _ _ h => h) (Or.inr ⟨by rfl, rfl⟩) ?_ ?_
        rotate_left
        ·simp only [Act.put, List.setIfInBounds_toArray, List.set_cons_zero, List.set_cons_succ, i64_w, i32_w]
         rfl
        refine pure_ (i := 35) (N := some 46) (v := ?_) (a' := ?_) (.replicate 36 true) rfl rfl (any_of HT_.out (by kernel_rfl)) (fun _ _ _ h => h) (Or.inl ⟨by rfl, ?_⟩) ?_ ?_
        rotate_left
        ·intro w'
         go_simp
         with_reducible rfl
        rotate_left
        ·simp only [Act.put, List.setIfInBounds_toArray, List.set_cons_zero, List.set_cons_succ, i64_w, i32_w]
         rfl
        refine done_ (done_of HT_.out (by kernel_rfl)) ?_
        try go_wp2
        go_meet
        case rel => exact ⟨_, (true), Qi, H', ⟨by first | omega | exact Nat.le_refl _⟩, ⟨by refine Qe ?_; exact BK189.out⟩, ⟨Qb HB.out⟩⟩
       ·rw [if_neg c18] at H
        have c18b0 : decide (a0_1 < 0) = false := decide_eq_false c18
        clear c18
        replace H := Option.bind_eq_some_iff.mp H
        obtain ⟨t192, A200, H⟩ := H
        replace H : (impl_nodes.j0 k (wrap64 (a1 - 1)) a2 (decide (a0_1 > t192)) a0_0 a0_1 l0_2) = some r := H
        have A20 := Ak A200
        clear A200
        have H' := Ak H
        clear H
        try go_wp2
        have n0_ := Ak (blk_drew BK189.out)
        have n1_ := Ak (below_drew1 HB.out)
        clear BK189 HB
        have BK189 := n0_
        have HB := n1_
        clear n0_ n1_
        refine start_ (n := 36) (S := fun w' => w'.cell? ⟨gb189, 0, none⟩ = some (.int .i64 a0_0) ∧ w'.cell? ⟨gb189, 1, none⟩ = some (.int .i64 a0_1) ∧ w'.cell? ⟨gb189, 2, none⟩ = some (.slice A0_2 l0_2.length c0_2)) (ds := []) #[false, false, false, false, false, false, false, false, false, false, false, false, false, false, false, false, false, false, false, false, false, false, false, false, false, false, false, false, false, false, false, false, false, false, false, false] (by kernel_rfl) rfl rfl ⟨(blk_cell BK189.out 0).trans rfl, (blk_cell BK189.out 1).trans rfl, (blk_cell BK189.out 2).trans rfl⟩ (fun hHeld => ?_); refine with_tabW impl_nodes.tab2 impl_nodes.bits2 (fun HT_ HW_ => ?_)
        generalize w5.drew = w21 at BK189 HB hHeld ⊢
        refine Qq 0 (some 11) ?_
        refine Qq 1 (some 12) ?_
        refine Qq 2 (some 13) ?_
        refine Qq 3 (some 14) ?_
        refine Qq 4 (some 15) ?_
        refine Qq 5 (some 16) ?_
        refine Qq 6 (some 17) ?_
        refine Qq 7 (some 18) ?_
        refine Qq 10 (some 21) ?_
        refine Qr 8 (some 19) hHeld ?_
        refine Qq 9 (some 20) ?_
        refine Qr 11 (some 22) hHeld ?_
        refine Qs 12 (some 23) (fun K hK => ?_)
        refine goes_ Tryd.func89 (by kernel_rfl) rfl #[.int .i64 a0_0] (by rfl) rfl rfl T_49 ?_
        with_reducible refine (impl_kids.calls k a0_0 t190 _ A10.out).mono ?_
        rintro e w' ⟨rfl, ⟨nd, rfl⟩⟩
        refine ⟨_, rfl, ?_⟩
        refine hK.out _ _ ⟨(blk_cell BK189.out 0).trans rfl, (blk_cell BK189.out 1).trans rfl, (blk_cell BK189.out 2).trans rfl⟩ (fun hHeld => ?_)
        clear hK K
        refine norm_ (a' := ?_) ?_ ?_
        rotate_left
        ·show Act.put _ (some 23) _ = _
         simp only [Act.put, List.setIfInBounds_toArray, List.set_cons_zero, List.set_cons_succ, i64_w, i32_w]
         rfl
        refine Qq 13 (some 24) ?_
        refine Qq 14 (some 25) ?_
        refine Qq 15 (some 26) ?_
        refine Qq 16 (some 27) ?_
        refine Qr 17 (some 28) hHeld ?_
        refine Qq 18 (some 29) ?_
        refine Qq 19 (some 30) ?_
        refine Qq 20 (some 31) ?_
        refine Qr 21 (some 32) hHeld ?_
        refine Qq 22 (some 33) ?_
        refine Qq 23 (some 34) ?_
        refine Qq 24 (some 35) ?_
        refine Qq 25 (some 36) ?_
        refine Qq 26 (some 37) ?_
        refine Qr 27 (some 38) hHeld ?_
        refine Qq 28 (some 39) ?_
        refine Qq 29 (some 40) ?_
        refine Qq 30 (some 41) ?_
        refine Qq 31 (some 42) ?_
        refine Qr 32 (some 43) hHeld ?_
        refine Qs 33 (some 44) (fun K hK => ?_)
        refine goes_ Tryd.func90 (by kernel_rfl) rfl #[.int .i64 30] (by rfl) rfl rfl T_49 ?_
        with_reducible refine (impl_LimitOf.calls k 30 t192 _ A20.out).mono ?_
        rintro e w' ⟨rfl, ⟨nd, rfl⟩⟩
        refine ⟨_, rfl, ?_⟩
        refine hK.out _ _ ⟨(blk_cell BK189.out 0).trans rfl, (blk_cell BK189.out 1).trans rfl, (blk_cell BK189.out 2).trans rfl⟩ (fun hHeld => ?_)
        clear hK K
        refine norm_ (a' := ?_) ?_ ?_
        rotate_left
        ·show Act.put _ (some 44) _ = _
         simp only [Act.put, List.setIfInBounds_toArray, List.set_cons_zero, List.set_cons_succ, i64_w, i32_w]
         rfl
        refine Qq 34 (some 45) ?_
        refine Qq 35 (some 46) ?_
        refine done_ (done_of HT_.out (by kernel_rfl)) ?_
        try go_wp2
        go_meet
        case rel => exact ⟨_, (decide (a0_1 > t192)), Qi, H', ⟨by first | omega | exact Nat.le_refl _⟩, ⟨by refine Qe ?_; exact BK189.out⟩, ⟨Qb HB.out⟩⟩
      ·rw [if_neg c17] at H
       have c17b0 : (a0_0 == 1) = false := beq_eq_false_iff_ne.mpr c17
       have c17b1 : (a0_0 != 1) = true := bne_iff_ne.mpr c17
       have H' := Ak H
       clear H
       try go_wp2
       have n0_ := Ak (blk_drew BK189.out)
       have n1_ := Ak (below_drew1 HB.out)
       clear BK189 HB
       have BK189 := n0_
       have HB := n1_
       clear n0_ n1_
       refine start_ (n := 36) (S := fun w' => w'.cell? ⟨gb189, 0, none⟩ = some (.int .i64 a0_0) ∧ w'.cell? ⟨gb189, 1, none⟩ = some (.int .i64 a0_1) ∧ w'.cell? ⟨gb189, 2, none⟩ = some (.slice A0_2 l0_2.length c0_2)) (ds := []) #[false, false, false, false, false, false, false, false, false, false, false, false, false, false, false, false, false, false, false, false, false, false, false, false, false, false, false, false, false, false, false, false, false, false, false, false] (by kernel_rfl) rfl rfl ⟨(blk_cell BK189.out 0).trans rfl, (blk_cell BK189.out 1).trans rfl, (blk_cell BK189.out 2).trans rfl⟩ (fun hHeld => ?_); refine with_tabW impl_nodes.tab2 impl_nodes.bits2 (fun HT_ HW_ => ?_)
       generalize w5.drew = w22 at BK189 HB hHeld ⊢
       refine Qq 0 (some 11) ?_
       refine Qq 1 (some 12) ?_
       refine Qq 2 (some 13) ?_
       refine Qq 3 (some 14) ?_
       refine Qq 4 (some 15) ?_
       refine Qq 5 (some 16) ?_
       refine Qq 6 (some 17) ?_
       refine Qq 7 (some 18) ?_
       refine Qq 10 (some 21) ?_
       refine Qr 8 (some 19) hHeld ?_
       refine Qq 9 (some 20) ?_
       refine Qr 11 (some 22) hHeld ?_
       refine Qs 12 (some 23) (fun K hK => ?_)
       refine goes_ Tryd.func89 (by kernel_rfl) rfl #[.int .i64 a0_0] (by rfl) rfl rfl T_49 ?_
       with_reducible refine (impl_kids.calls k a0_0 t190 _ A10.out).mono ?_
       rintro e w' ⟨rfl, ⟨nd, rfl⟩⟩
       refine ⟨_, rfl, ?_⟩
       refine hK.out _ _ ⟨(blk_cell BK189.out 0).trans rfl, (blk_cell BK189.out 1).trans rfl, (blk_cell BK189.out 2).trans rfl⟩ (fun hHeld => ?_)
       clear hK K
       refine norm_ (a' := ?_) ?_ ?_
       rotate_left
       ·show Act.put _ (some 23) _ = _
        simp only [Act.put, List.setIfInBounds_toArray, List.set_cons_zero, List.set_cons_succ, i64_w, i32_w]
        rfl
       refine Qq 13 (some 24) ?_
       refine Qq 14 (some 25) ?_
       refine Qq 15 (some 26) ?_
       refine Qq 16 (some 27) ?_
       refine Qr 17 (some 28) hHeld ?_
       refine Qq 18 (some 29) ?_
       refine Qq 19 (some 30) ?_
       refine Qq 20 (some 31) ?_
       refine Qr 21 (some 32) hHeld ?_
       refine Qq 22 (some 33) ?_
       refine Qq 23 (some 34) ?_
       refine Qq 24 (some 35) ?_
       refine Qq 25 (some 36) ?_
       refine pure_ (i := 26) (N := some 37) (v := undef) (a' := ?_) (.replicate 27 true ++ .replicate 9 false) rfl rfl (any_of HT_.out (by kernel_rfl)) (fun _ _ _ h => h) (Or.inr ⟨by rfl, rfl⟩) ?_ ?_
       rotate_left
       ·simp only [Act.put, List.setIfInBounds_toArray, List.set_cons_zero, List.set_cons_succ, i64_w, i32_w]
        rfl
       refine pure_ (i := 27) (N := some 38) (v := undef) (a' := ?_) (.replicate 28 true ++ .replicate 8 false) rfl rfl (any_of HT_.out (by kernel_rfl)) (fun _ _ _ h => h) (Or.inr ⟨by rfl, rfl⟩) ?_ ?_
       rotate_left
       ·simp only [Act.put, List.setIfInBounds_toArray, List.set_cons_zero, List.set_cons_succ, i64_w, i32_w]
        rfl
       refine pure_ (i := 28) (N := some 39) (v := undef) (a' := ?_) (.replicate 29 true ++ .replicate 7 false) rfl rfl (any_of HT_.out (by kernel_rfl)) (fun _ _ _ h => h) (Or.inr ⟨by rfl, rfl⟩) ?_ ?_
       rotate_left
       ·simp only [Act.put, List.setIfInBounds_toArray, List.set_cons_zero, List.set_cons_succ, i64_w, i32_w]
        rfl
       refine pure_ (i := 29) (N := some 40) (v := ?_) (a' := ?_) (.replicate 30 true ++ .replicate 6 false) rfl rfl (any_of HT_.out (by kernel_rfl)) (fun _ _ _ h => h) (Or.inl ⟨by rfl, ?_⟩) ?_ ?_
       rotate_left
       ·intro w'
        go_simp
        with_reducible rfl
       rotate_left
       ·simp only [Act.put, List.setIfInBounds_toArray, List.set_cons_zero, List.set_cons_succ, i64_w, i32_w]
        rfl
       refine pure_ (i := 30) (N := some 41) (v := ?_) (a' := ?_) (.replicate 31 true ++ .replicate 5 false) rfl rfl (any_of HT_.out (by kernel_rfl)) (fun _ _ _ h => h) (Or.inl ⟨by rfl, ?_⟩) ?_ ?_
       rotate_left
       ·intro w'
        go_simp
        with_reducible rfl
       rotate_left
       ·simp only [Act.put, List.setIfInBounds_toArray, List.set_cons_zero, List.set_cons_succ, i64_w, i32_w]
        rfl
       refine pure_ (i := 31) (N := some 42) (v := undef) (a' := ?_) (.replicate 32 true ++ .replicate 4 false) rfl rfl (any_of HT_.out (by kernel_rfl)) (fun _ _ _ h => h) (Or.inr ⟨by rfl, rfl⟩) ?_ ?_
       rotate_left
       ·simp only [Act.put, List.setIfInBounds_toArray, List.set_cons_zero, List.set_cons_succ, i64_w, i32_w]
        rfl
       refine pure_ (i := 32) (N := some 43) (v := undef) (a' := ?_) (.replicate 33 true ++ .replicate 3 false) rfl rfl (any_of HT_.out (by kernel_rfl)) (fun _ _ _ h => h) (Or.inr ⟨by rfl, rfl⟩) ?_ ?_
       rotate_left
       ·simp only [Act.put, List.setIfInBounds_toArray, List.set_cons_zero, List.set_cons_succ, i64_w, i32_w]
        rfl
       refine pure_ (i := 33) (N := some 44) (v := undef) (a' := ?_) (.replicate 34 true ++ .replicate 2 false) rfl rfl (any_of HT_.out (by kernel_rfl)) (fun _ _ _ h => h) (Or.inr ⟨by rfl, rfl⟩) ?_ ?_
       rotate_left
       ·simp only [Act.put, List.setIfInBounds_toArray, List.set_cons_zero, List.set_cons_succ, i64_w, i32_w]
        rfl
       refine pure_ (i := 34) (N := some 45) (v := undef) (a' := ?_) (.replicate 35 true ++ .replicate 1 false) rfl rfl (any_of HT_.out (by kernel_rfl)) (fun _ _ _ h => h) (Or.inr ⟨by rfl, rfl⟩) ?_ ?_
       rotate_left
       ·simp only [Act.put, List.setIfInBounds_toArray, List.set_cons_zero, List.set_cons_succ, i64_w, i32_w]
        rfl
       refine pure_ (i := 35) (N := some 46) (v := ?_) (a' := ?_) (.replicate 36 true) rfl rfl (any_of HT_.out (by kernel_rfl)) (fun _ _ _ h => h) (Or.inl ⟨by rfl, ?_⟩) ?_ ?_
       rotate_left
       ·intro w'
        go_simp
        with_reducible rfl
       rotate_left
       ·simp only [Act.put, List.setIfInBounds_toArray, List.set_cons_zero, List.set_cons_succ, i64_w, i32_w]
        rfl
       refine done_ (done_of HT_.out (by kernel_rfl)) ?_
       try go_wp2
       go_meet
       case rel => exact ⟨_, (true), Qi, H', ⟨by first | omega | exact Nat.le_refl _⟩, ⟨by refine Qe ?_; exact BK189.out⟩, ⟨Qb HB.out⟩⟩
    ·rw [if_neg c11] at H
     have c11b0 : ((l0_2.length : Int) == t190) = false := beq_eq_false_iff_ne.mpr c11
     have c11b1 : ((l0_2.length : Int) != t190) = true := bne_iff_ne.mpr c11
     have H' := Ak H
     clear H
     try go_wp2
     have n0_ := Ak (blk_drew BK189.out)
     have n1_ := Ak (below_drew1 HB.out)
     clear BK189 HB
     have BK189 := n0_
     have HB := n1_
     clear n0_ n1_
     refine start_ (n := 36) (S := fun w' => w'.cell? ⟨gb189, 0, none⟩ = some (.int .i64 a0_0) ∧ w'.cell? ⟨gb189, 1, none⟩ = some (.int .i64 a0_1) ∧ w'.cell? ⟨gb189, 2, none⟩ = some (.slice A0_2 l0_2.length c0_2)) (ds := []) #[false, false, false, false, false, false, false, false, false, false, false, false, false, false, false, false, false, false, false, false, false, false, false, false, false, false, false, false, false, false, false, false, false, false, false, false] (by kernel_rfl) rfl rfl ⟨(blk_cell BK189.out 0).trans rfl, (blk_cell BK189.out 1).trans rfl, (blk_cell BK189.out 2).trans rfl⟩ (fun hHeld => ?_); refine with_tabW impl_nodes.tab2 impl_nodes.bits2 (fun HT_ HW_ => ?_)
     generalize w5.drew = w23 at BK189 HB hHeld ⊢
     refine Qq 0 (some 11) ?_
     refine Qq 1 (some 12) ?_
     refine Qq 2 (some 13) ?_
     refine Qq 3 (some 14) ?_
     refine Qq 4 (some 15) ?_
     refine Qq 5 (some 16) ?_
     refine Qq 6 (some 17) ?_
     refine Qq 7 (some 18) ?_
     refine Qq 10 (some 21) ?_
     refine Qr 8 (some 19) hHeld ?_
     refine Qq 9 (some 20) ?_
     refine Qr 11 (some 22) hHeld ?_
     refine Qs 12 (some 23) (fun K hK => ?_)
     refine goes_ Tryd.func89 (by kernel_rfl) rfl #[.int .i64 a0_0] (by rfl) rfl rfl T_49 ?_
     with_reducible refine (impl_kids.calls k a0_0 t190 _ A10.out).mono ?_
     rintro e w' ⟨rfl, ⟨nd, rfl⟩⟩
     refine ⟨_, rfl, ?_⟩
     refine hK.out _ _ ⟨(blk_cell BK189.out 0).trans rfl, (blk_cell BK189.out 1).trans rfl, (blk_cell BK189.out 2).trans rfl⟩ (fun hHeld => ?_)
     clear hK K
     refine norm_ (a' := ?_) ?_ ?_
     rotate_left
     ·show Act.put _ (some 23) _ = _
      simp only [Act.put, List.setIfInBounds_toArray, List.set_cons_zero, List.set_cons_succ, i64_w, i32_w]
      rfl
     refine Qq 13 (some 24) ?_
     refine Qq 14 (some 25) ?_
     refine Qq 15 (some 26) ?_
     refine pure_ (i := 16) (N := some 27) (v := undef) (a' := ?_) (.replicate 17 true ++ .replicate 19 false) rfl rfl (any_of HT_.out (by kernel_rfl)) (fun _ _ _ h => h) (Or.inr ⟨by rfl, rfl⟩) ?_ ?_
     rotate_left
     ·simp only [Act.put, List.setIfInBounds_toArray, List.set_cons_zero, List.set_cons_succ, i64_w, i32_w]
      rfl
     refine pure_ (i := 17) (N := some 28) (v := undef) (a' := ?_) (.replicate 18 true ++ .replicate 18 false) rfl rfl (any_of HT_.out (by kernel_rfl)) (fun _ _ _ h => h) (Or.inr ⟨by rfl, rfl⟩) ?_ ?_
     rotate_left
     ·simp only [Act.put, List.setIfInBounds_toArray, List.set_cons_zero, List.set_cons_succ, i64_w, i32_w]
      rfl
     refine pure_ (i := 18) (N := some 29) (v := undef) (a' := ?_) (.replicate 19 true ++ .replicate 17 false) rfl rfl (any_of HT_.out (by kernel_rfl)) (fun _ _ _ h => h) (Or.inr ⟨by rfl, rfl⟩) ?_ ?_
     rotate_left
     ·simp only [Act.put, List.setIfInBounds_toArray, List.set_cons_zero, List.set_cons_succ, i64_w, i32_w]
      rfl
     refine pure_ (i := 19) (N := some 30) (v := undef) (a' := ?_) (.replicate 20 true ++ .replicate 16 false) rfl rfl (any_of HT_.out (by kernel_rfl)) (fun _ _ _ h => h) (Or.inr ⟨by rfl, rfl⟩) ?_ ?_
     rotate_left
     ·simp only [Act.put, List.setIfInBounds_toArray, List.set_cons_zero, List.set_cons_succ, i64_w, i32_w]
      rfl
     refine pure_ (i := 20) (N := some 31) (v := undef) (a' := ?_) (.replicate 21 true ++ .replicate 15 false) rfl rfl (any_of HT_.out (by kernel_rfl)) (fun _ _ _ h => h) (Or.inr ⟨by rfl, rfl⟩) ?_ ?_
     rotate_left
     ·simp only [Act.put, List.setIfInBounds_toArray, List.set_cons_zero, List.set_cons_succ, i64_w, i32_w]
      rfl
     refine pure_ (i := 21) (N := some 32) (v := undef) (a' := ?_) (.replicate 22 true ++ .replicate 14 false) rfl rfl (any_of HT_.out (by kernel_rfl)) (fun _ _ _ h => h) (Or.inr ⟨by rfl, rfl⟩) ?_ ?_
     rotate_left
     ·simp only [Act.put, List.setIfInBounds_toArray, List.set_cons_zero, List.set_cons_succ, i64_w, i32_w]
      rfl
     refine pure_ (i := 22) (N := some 33) (v := undef) (a' := ?_) (.replicate 23 true ++ .replicate 13 false) rfl rfl (any_of HT_.out (by kernel_rfl)) (fun _ _ _ h => h) (Or.inr ⟨by rfl, rfl⟩) ?_ ?_
     rotate_left
     ·simp only [Act.put, List.setIfInBounds_toArray, List.set_cons_zero, List.set_cons_succ, i64_w, i32_w]
      rfl
     refine pure_ (i := 23) (N := some 34) (v := undef) (a' := ?_) (.replicate 24 true ++ .replicate 12 false) rfl rfl (any_of HT_.out (by kernel_rfl)) (fun _ _ _ h => h) (Or.inr ⟨by rfl, rfl⟩) ?_ ?_
     rotate_left
     ·simp only [Act.put, List.setIfInBounds_toArray, List.set_cons_zero, List.set_cons_succ, i64_w, i32_w]
      rfl
     refine pure_ (i := 24) (N := some 35) (v := ?_) (a' := ?_) (.replicate 25 true ++ .replicate 11 false) rfl rfl (any_of HT_.out (by kernel_rfl)) (fun _ _ _ h => h) (Or.inl ⟨by rfl, ?_⟩) ?_ ?_
     rotate_left
     ·intro w'
      go_simp
      with_reducible rfl
     rotate_left
     ·simp only [Act.put, List.setIfInBounds_toArray, List.set_cons_zero, List.set_cons_succ, i64_w, i32_w]
      rfl
     refine pure_ (i := 25) (N := some 36) (v := ?_) (a' := ?_) (.replicate 26 true ++ .replicate 10 false) rfl rfl (any_of HT_.out (by kernel_rfl)) (fun _ _ _ h => h) (Or.inl ⟨by rfl, ?_⟩) ?_ ?_
     rotate_left
     ·intro w'
      go_simp
      with_reducible rfl
     rotate_left
     ·simp only [Act.put, List.setIfInBounds_toArray, List.set_cons_zero, List.set_cons_succ, i64_w, i32_w]
      rfl
     refine pure_ (i := 26) (N := some 37) (v := undef) (a' := ?_) (.replicate 27 true ++ .replicate 9 false) rfl rfl (any_of HT_.out (by kernel_rfl)) (fun _ _ _ h => h) (Or.inr ⟨by rfl, rfl⟩) ?_ ?_
     rotate_left
     ·simp only [Act.put, List.setIfInBounds_toArray, List.set_cons_zero, List.set_cons_succ, i64_w, i32_w]
      rfl
     refine pure_ (i := 27) (N := some 38) (v := undef) (a' := ?_) (.replicate 28 true ++ .replicate 8 false) rfl rfl (any_of HT_.out (by kernel_rfl)) (fun _ _ _ h => h) (Or.inr ⟨by rfl, rfl⟩) ?_ ?_
     rotate_left
     ·simp only [Act.put, List.setIfInBounds_toArray, List.set_cons_zero, List.set_cons_succ, i64_w, i32_w]
      rfl
     refine pure_ (i := 28) (N := some 39) (v := undef) (a' := ?_) (.replicate 29 true ++ .replicate 7 false) rfl rfl (any_of HT_.out (by kernel_rfl)) (fun _ _ _ h => h) (Or.inr ⟨by rfl, rfl⟩) ?_ ?_
     rotate_left
     ·simp only [Act.put, List.setIfInBounds_toArray, List.set_cons_zero, List.set_cons_succ, i64_w, i32_w]
      rfl
     refine pure_ (i := 29) (N := some 40) (v := ?_) (a' := ?_) (.replicate 30 true ++ .replicate 6 false) rfl rfl (any_of HT_.out (by kernel_rfl)) (fun _ _ _ h => h) (Or.inl ⟨by rfl, ?_⟩) ?_ ?_
     rotate_left
     ·intro w'
      go_simp
      with_reducible rfl
     rotate_left
     ·simp only [Act.put, List.setIfInBounds_toArray, List.set_cons_zero, List.set_cons_succ, i64_w, i32_w]
      rfl
     refine pure_ (i := 30) (N := some 41) (v := ?_) (a' := ?_) (.replicate 31 true ++ .replicate 5 false) rfl rfl (any_of HT_.out (by kernel_rfl)) (fun _ _ _ h => h) (Or.inl ⟨by rfl, ?_⟩) ?_ ?_
     rotate_left
     ·intro w'
      go_simp
      with_reducible rfl
     rotate_left
     ·simp only [Act.put, List.setIfInBounds_toArray, List.set_cons_zero, List.set_cons_succ, i64_w, i32_w]
      rfl
     refine pure_ (i := 31) (N := some 42) (v := undef) (a' := ?_) (.replicate 32 true ++ .replicate 4 false) rfl rfl (any_of HT_.out (by kernel_rfl)) (fun _ _ _ h => h) (Or.inr ⟨by rfl, rfl⟩) ?_ ?_
     rotate_left
     ·simp only [Act.put, List.setIfInBounds_toArray, List.set_cons_zero, List.set_cons_succ, i64_w, i32_w]
      rfl
     refine pure_ (i := 32) (N := some 43) (v := undef) (a' := ?_) (.replicate 33 true ++ .replicate 3 false) rfl rfl (any_of HT_.out (by kernel_rfl)) (fun _ _ _ h => h) (Or.inr ⟨by rfl, rfl⟩) ?_ ?_
     rotate_left
     ·simp only [Act.put, List.setIfInBounds_toArray, List.set_cons_zero, List.set_cons_succ, i64_w, i32_w]
      rfl
     refine pure_ (i := 33) (N := some 44) (v := undef) (a' := ?_) (.replicate 34 true ++ .replicate 2 false) rfl rfl (any_of HT_.out (by kernel_rfl)) (fun _ _ _ h => h) (Or.inr ⟨by rfl, rfl⟩) ?_ ?_
     rotate_left
     ·simp only [Act.put, List.setIfInBounds_toArray, List.set_cons_zero, List.set_cons_succ, i64_w, i32_w]
      rfl
     refine pure_ (i := 34) (N := some 45) (v := undef) (a' := ?_) (.replicate 35 true ++ .replicate 1 false) rfl rfl (any_of HT_.out (by kernel_rfl)) (fun _ _ _ h => h) (Or.inr ⟨by rfl, rfl⟩) ?_ ?_
     rotate_left
     ·simp only [Act.put, List.setIfInBounds_toArray, List.set_cons_zero, List.set_cons_succ, i64_w, i32_w]
      rfl
     refine pure_ (i := 35) (N := some 46) (v := ?_) (a' := ?_) (.replicate 36 true) rfl rfl (any_of HT_.out (by kernel_rfl)) (fun _ _ _ h => h) (Or.inl ⟨by rfl, ?_⟩) ?_ ?_
     rotate_left
     ·intro w'
      go_simp
      with_reducible rfl
     rotate_left
     ·simp only [Act.put, List.setIfInBounds_toArray, List.set_cons_zero, List.set_cons_succ, i64_w, i32_w]
      rfl
     refine done_ (done_of HT_.out (by kernel_rfl)) ?_
     try go_wp2
     go_meet
     case rel => exact ⟨_, (true), Qi, H', ⟨by first | omega | exact Nat.le_refl _⟩, ⟨by refine Qe ?_; exact BK189.out⟩, ⟨Qb HB.out⟩⟩
 case rest =>
  clear HC4
  (try clear c1)
  obtain ⟨kq, x46_3, rfl, HA, HJ3, BK189, HB⟩ := hcut
  cases kq with
  | zero => exact absurd HA.out (by simp [impl_nodes.j0])
  | succ kj3 =>
   have H := HA.out
   clear HA
   simp only [impl_nodes.j0] at H
   by_cases c24 : x46_3 = true
   ·(try subst c24)
    have H1 : (some (-1)) = some r := by rw [if_pos rfl] at H; exact H
    clear H
    have H := H1
    clear H1
    obtain rfl := Option.some.inj H
    go_wp2
    go_ret
    exact ⟨Qh, Qb HB.out⟩
   ·replace c24 := Bool.eq_false_iff.mpr c24
    (try subst c24)
    have H1 : (impl_nodes.l0 kj3 (wrap64 (a1 - 1)) a2 l0_2 (l0_2.length : Int) 0) = some r := by rw [if_neg (show ¬ (false = true) by decide)] at H; exact H
    clear H
    have H := H1
    clear H1
    have H' := Ak H
    clear H
    obtain ⟨hcz25_0, hcz25_1, hcz25_2, hfz25_0, hfz25_1, hfz25_2⟩ := Qv3 BK189.out
    go_wp2
    go_loopg [1, 50] kj3 (fun kq v1 v50 w' => ∃ (x1_2 : Int) (x50_2 : Int), v1 = .int .i64 x1_2 ∧ v50 = .int .i64 x50_2 ∧ Aside0 (impl_nodes.l0 kq x1_2 a2 l0_2 (l0_2.length : Int) x50_2 = some r) ∧ Aside0 (kq ≤ kj3) ∧ Aside0 (w'.heap[gb189]? = some (.cells #[.int .i64 a0_0, .int .i64 a0_1, (.slice A0_2 l0_2.length c0_2)] 25 (0, 0))) ∧ Aside0 (Below w.heap.size w w'))
    case atStart => exact ⟨((wrap64 (a1 - 1))), (0), Qi, Qi, H', ⟨Nat.le_refl _⟩, ⟨by refine Qe ?_; exact BK189.out⟩, ⟨Qb HB.out⟩⟩
    case round =>
     clear H'
     (try clear c1)
     obtain ⟨x1_2, x50_2, rfl, rfl, HA, HK2, BK189, HB⟩ := hrel
     cases gk with
     | zero => exact absurd HA.out (by simp [impl_nodes.l0])
     | succ k2 =>
      have H := HA.out
      clear HA
      simp only [impl_nodes.l0] at H
      by_cases c26 : x50_2 < (l0_2.length : Int)
      ·rw [if_pos c26] at H
       have c26b0 : decide (x50_2 < (l0_2.length : Int)) = true := decide_eq_true c26
       clear c26
       by_cases c27 : 0 ≤ x50_2
       ·rw [if_pos c27] at H
        have c27b0 : decide (0 ≤ x50_2) = true := decide_eq_true c27
        clear c27
        by_cases c28 : x50_2 < (l0_2.length : Int)
        ·rw [if_pos c28] at H
         have c28b0 : decide (x50_2 < (l0_2.length : Int)) = true := decide_eq_true c28
         clear c28
         replace H := Option.bind_eq_some_iff.mp H
         obtain ⟨t195, A290, H⟩ := H
         replace H : (if t195 < 0 then (some (-1)) else (impl_nodes.l0 k2 t195 a2 l0_2 (l0_2.length : Int) (wrap64 (x50_2 + 1)))) = some r := H
         have A29 := Ak A290
         clear A290
         by_cases c30 : t195 < 0
         ·rw [if_pos c30] at H
          have c30b0 : decide (t195 < 0) = true := decide_eq_true c30
          clear c30
          obtain rfl := Option.some.inj H
          have p193 : 0 ≤ (x50_2 : Int) := Qg
          have q193 : x50_2 < (l0_2.length : Int) := Qg
          obtain ⟨ad193, A193_2, c193_2, e193, hx193_0, hx193_1, hx193_2, hl193_2, hi193_2⟩ := at_T25 HR0_2.out x50_2 p193 q193
          cases e193
          (try replace hx193_0 := (HB.out.cell (World.block_lt_of_cell? w _ hx193_0)).trans hx193_0)
          (try replace hx193_1 := (HB.out.cell (World.block_lt_of_cell? w _ hx193_1)).trans hx193_1)
          (try replace hx193_2 := (HB.out.cell (World.block_lt_of_cell? w _ hx193_2)).trans hx193_2)
          have HR193_2 := Ak hi193_2
          have HC193_2 := Ak hl193_2
          clear hi193_2 hl193_2
          replace p193 := eq_true p193
          replace q193 := eq_true q193
          go_wp2_with (first | ((with_reducible refine gate_dst (N := 8) rfl ?_); (try (refine gate_guard (by rfl) ?_; dsimp only)); refine Qk 8 #[.int .i64 0, .int .i64 0, .slice none 0 0] 25 ?_; intro gb194 hg w31 hbox hb; have BK194 := Ak (hbox); have GW194 := Ak ((Qp hg HB.out : w.heap.size ≤ gb194)); have GE194 := Ak ((Qp hg HB.out : w.heap.size ≤ gb194)); replace HB := Ak (below_step (Qb HB.out) hb); have NB189_194 := Ak ((by rw [hg]; exact Nat.ne_of_lt (Qn BK189.out) : gb189 ≠ gb194)); have NB194_189 := Ak ((by rw [hg]; exact Nat.ne_of_gt (Qn BK189.out) : gb194 ≠ gb189)); replace BK189 := Ak (Qm BK189.out hb); clear hb hbox hg; have hnb32 := NB194_189.out; have hnc32 := NB189_194.out; obtain ⟨hcz33_0, hcz33_1, hcz33_2⟩ := Qu3 BK194.out; have hfz33_0 := blk_frozen BK194.out 0; have hfz33_1 := blk_frozen BK194.out 1; have hfz33_2 := blk_frozen BK194.out 2) | ((with_reducible refine gate_callee (f := 47) rfl ?_); refine Qj (some 58) Tryd.func47 #[.agg #[.int .i64 ((rd_T25 l0_2 x50_2).f0), .int .i64 ((rd_T25 l0_2 x50_2).f1), .slice A193_2 ((rd_T25 l0_2 x50_2).f2).length c193_2], .int .i64 x1_2, .int .i64 (wrap64 (a2 - 1))] ?_; (with_reducible refine (ih k2 (by have := HJ3.out; have := HK2.out; omega) ((rd_T25 l0_2 x50_2).f0) ((rd_T25 l0_2 x50_2).f1) _ _ ((rd_T25 l0_2 x50_2).f2) x1_2 (wrap64 (a2 - 1)) t195 _ ?side1 ?side2 A29.out).mono ?_); (case side1 => exact Kd.C_below HR193_2.out (Qb HB.out)); (case side2 => exact HC193_2.out); rintro e w34 ⟨rfl, hb⟩; refine ⟨_, rfl, ?_⟩; replace BK189 := Ak (blk_below (g := gb189) (o := .cells #[.int .i64 a0_0, .int .i64 a0_1, .slice (some ad193) l0_2.length c0_2] 25 (0, 0)) (by refine Qe ?_; refine blk_far ?_ NB189_194.out _; refine Qe ?_; refine blk_far ?_ NB189_194.out _; refine Qe ?_; refine blk_far ?_ NB189_194.out _; exact Qa BK189.out) hb); replace BK194 := Ak (blk_below (g := gb194) (o := .cells #[.int .i64 ((rd_T25 l0_2 x50_2).f0), .int .i64 ((rd_T25 l0_2 x50_2).f1), .slice A193_2 ((rd_T25 l0_2 x50_2).f2).length c193_2] 25 (0, 0)) (by refine Qe ?_; refine blk_put (cs := #[.int .i64 ((rd_T25 l0_2 x50_2).f0), .int .i64 ((rd_T25 l0_2 x50_2).f1), .slice none 0 0]) ?_ 2 _ rfl; refine Qe ?_; refine blk_put (cs := #[.int .i64 ((rd_T25 l0_2 x50_2).f0), .int .i64 0, .slice none 0 0]) ?_ 1 _ rfl; refine Qe ?_; refine blk_put (cs := #[.int .i64 0, .int .i64 0, .slice none 0 0]) ?_ 0 _ rfl; exact Qa BK194.out) hb); replace HB := Ak (below_step (Qb HB.out) hb); (try clear hb)))
          go_ret
          exact ⟨Qh, Qb HB.out⟩
         ·rw [if_neg c30] at H
          have c30b0 : decide (t195 < 0) = false := decide_eq_false c30
          clear c30
          have H' := Ak H
          clear H
          have p193 : 0 ≤ (x50_2 : Int) := Qg
          have q193 : x50_2 < (l0_2.length : Int) := Qg
          obtain ⟨ad193, A193_2, c193_2, e193, hx193_0, hx193_1, hx193_2, hl193_2, hi193_2⟩ := at_T25 HR0_2.out x50_2 p193 q193
          cases e193
          (try replace hx193_0 := (HB.out.cell (World.block_lt_of_cell? w _ hx193_0)).trans hx193_0)
          (try replace hx193_1 := (HB.out.cell (World.block_lt_of_cell? w _ hx193_1)).trans hx193_1)
          (try replace hx193_2 := (HB.out.cell (World.block_lt_of_cell? w _ hx193_2)).trans hx193_2)
          have HR193_2 := Ak hi193_2
          have HC193_2 := Ak hl193_2
          clear hi193_2 hl193_2
          replace p193 := eq_true p193
          replace q193 := eq_true q193
          go_wp2_with (first | ((with_reducible refine gate_dst (N := 8) rfl ?_); (try (refine gate_guard (by rfl) ?_; dsimp only)); refine Qk 8 #[.int .i64 0, .int .i64 0, .slice none 0 0] 25 ?_; intro gb194 hg w35 hbox hb; have BK194 := Ak (hbox); have GW194 := Ak ((Qp hg HB.out : w.heap.size ≤ gb194)); have GE194 := Ak ((Qp hg HB.out : w.heap.size ≤ gb194)); replace HB := Ak (below_step (Qb HB.out) hb); have NB189_194 := Ak ((by rw [hg]; exact Nat.ne_of_lt (Qn BK189.out) : gb189 ≠ gb194)); have NB194_189 := Ak ((by rw [hg]; exact Nat.ne_of_gt (Qn BK189.out) : gb194 ≠ gb189)); replace BK189 := Ak (Qm BK189.out hb); clear hb hbox hg; have hnb36 := NB194_189.out; have hnc36 := NB189_194.out; obtain ⟨hcz37_0, hcz37_1, hcz37_2⟩ := Qu3 BK194.out; have hfz37_0 := blk_frozen BK194.out 0; have hfz37_1 := blk_frozen BK194.out 1; have hfz37_2 := blk_frozen BK194.out 2) | ((with_reducible refine gate_callee (f := 47) rfl ?_); refine Qj (some 58) Tryd.func47 #[.agg #[.int .i64 ((rd_T25 l0_2 x50_2).f0), .int .i64 ((rd_T25 l0_2 x50_2).f1), .slice A193_2 ((rd_T25 l0_2 x50_2).f2).length c193_2], .int .i64 x1_2, .int .i64 (wrap64 (a2 - 1))] ?_; (with_reducible refine (ih k2 (by have := HJ3.out; have := HK2.out; omega) ((rd_T25 l0_2 x50_2).f0) ((rd_T25 l0_2 x50_2).f1) _ _ ((rd_T25 l0_2 x50_2).f2) x1_2 (wrap64 (a2 - 1)) t195 _ ?side1 ?side2 A29.out).mono ?_); (case side1 => exact Kd.C_below HR193_2.out (Qb HB.out)); (case side2 => exact HC193_2.out); rintro e w38 ⟨rfl, hb⟩; refine ⟨_, rfl, ?_⟩; replace BK189 := Ak (blk_below (g := gb189) (o := .cells #[.int .i64 a0_0, .int .i64 a0_1, .slice (some ad193) l0_2.length c0_2] 25 (0, 0)) (by refine Qe ?_; refine blk_far ?_ NB189_194.out _; refine Qe ?_; refine blk_far ?_ NB189_194.out _; refine Qe ?_; refine blk_far ?_ NB189_194.out _; exact Qa BK189.out) hb); replace BK194 := Ak (blk_below (g := gb194) (o := .cells #[.int .i64 ((rd_T25 l0_2 x50_2).f0), .int .i64 ((rd_T25 l0_2 x50_2).f1), .slice A193_2 ((rd_T25 l0_2 x50_2).f2).length c193_2] 25 (0, 0)) (by refine Qe ?_; refine blk_put (cs := #[.int .i64 ((rd_T25 l0_2 x50_2).f0), .int .i64 ((rd_T25 l0_2 x50_2).f1), .slice none 0 0]) ?_ 2 _ rfl; refine Qe ?_; refine blk_put (cs := #[.int .i64 ((rd_T25 l0_2 x50_2).f0), .int .i64 0, .slice none 0 0]) ?_ 1 _ rfl; refine Qe ?_; refine blk_put (cs := #[.int .i64 0, .int .i64 0, .slice none 0 0]) ?_ 0 _ rfl; exact Qa BK194.out) hb); replace HB := Ak (below_step (Qb HB.out) hb); (try clear hb)))
          go_roundg k2
          case measure => have := HJ3.out; have := HK2.out; omega
          case rel => exact ⟨(t195), (wrap64 (x50_2 + 1)), Qi, Qi, H', ⟨by have := HJ3.out; have := HK2.out; omega⟩, ⟨by refine Qe ?_; exact BK189.out⟩, ⟨Qb HB.out⟩⟩
        ·rw [if_neg c28] at H
         exact absurd H (by simp)
       ·rw [if_neg c27] at H
        exact absurd H (by simp)
      ·rw [if_neg c26] at H
       have c26b0 : decide (x50_2 < (l0_2.length : Int)) = false := decide_eq_false c26
       clear c26
       obtain rfl := Option.some.inj H
       go_wp2
       go_ret
       exact ⟨Qh, Qb HB.out⟩

end Go.Proofs.YtjfgcipbbcplmaaDoor.HFnExprs

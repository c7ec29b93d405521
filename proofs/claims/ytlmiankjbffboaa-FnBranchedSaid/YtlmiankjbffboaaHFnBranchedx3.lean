/- Text for FnBranched: written by a program of this session on the pattern of the kit's print. -/
import Derived.Test.YtlmiankjbffboaaHFnBranchedx0
import Derived.Test.YtlmiankjbffboaaHFnBranchedx1
import Derived.Test.YtlmiankjbffboaaHFnBranchedx2
namespace Go.Proofs.Ytlmiankjbffboaa.HFnBranched
set_option maxHeartbeats 8000000
set_option maxRecDepth 100000
open Go.RowKit Go.Proofs.YtlmiankjbffboaaW.PrintWords Go.Proofs.YtlmiankjbffboaaW.PrintLast Go.Proofs.YtlmiankjbffboaaW.PrintMore
attribute [local go_sem] max2_int min2_int max_two min_two max_three min_three max_four min_four
set_option linter.unusedVariables false
set_option linter.unusedSimpArgs false

/-! ### slices_Concat_int_int: function 60 -/
mutual
def slices_Concat_int_int.l0 : Nat → List (List Int) → Int → List (List Int) → Int → Int → Option (List Int)
 | 0, _, _, _, _, _ => none
 | k + 1, x0, x3, x9, x10, x11 => if x11 < x10 then (if 0 ≤ x11 then (if x11 < (x9.length : Int) then (if (wrap64 (x3 + ((rd_L2 x9 x11).length : Int))) < 0 then (none) else (slices_Concat_int_int.l0 k x0 (wrap64 (x3 + ((rd_L2 x9 x11).length : Int))) x9 x10 (wrap64 (x11 + 1)))) else (none)) else (none)) else ((slices_Grow_int_int.f ([] : List Int) x3).bind fun t129 => (slices_Concat_int_int.l1 k t129 x0 (x0.length : Int) 0))
def slices_Concat_int_int.l1 : Nat → List Int → List (List Int) → Int → Int → Option (List Int)
 | 0, _, _, _, _ => none
 | k + 1, x6, x25, x26, x27 => if x27 < x26 then (if 0 ≤ x27 then (if x27 < (x25.length : Int) then (if x6.length + (rd_L2 x25 x27).length < 17592186044416 then (slices_Concat_int_int.l1 k (x6 ++ (rd_L2 x25 x27)) x25 x26 (wrap64 (x27 + 1))) else (none)) else (none)) else (none)) else (some x6)
end
def slices_Concat_int_int.f (k : Nat) (l0 : List (List Int)) : Option (List Int) := slices_Concat_int_int.l0 k l0 0 l0 (l0.length : Int) 0
theorem slices_Concat_int_int.mono_l : ∀ k, (∀ y0 y1 y2 y3 y4, LeO (slices_Concat_int_int.l0 k y0 y1 y2 y3 y4) (slices_Concat_int_int.l0 (k + 1) y0 y1 y2 y3 y4)) ∧ (∀ y0 y1 y2 y3, LeO (slices_Concat_int_int.l1 k y0 y1 y2 y3) (slices_Concat_int_int.l1 (k + 1) y0 y1 y2 y3))
 | 0 => ⟨fun _ _ _ _ _ r h => by simp [slices_Concat_int_int.l0] at h, fun _ _ _ _ r h => by simp [slices_Concat_int_int.l1] at h⟩
 | k + 1 => by
  obtain ⟨ih0, ih1⟩ := slices_Concat_int_int.mono_l k
  refine ⟨?_, ?_⟩
  ·intro y0 y1 y2 y3 y4
   unfold slices_Concat_int_int.l0
   repeat' first
   | (with_reducible exact ih0 _ _ _ _ _)
   | (with_reducible exact ih1 _ _ _ _)
   | (with_reducible exact LeO.refl _)
   | (with_reducible exact LeO.none _)
   | (with_reducible refine LeO.ite ?_ ?_)
   | (with_reducible refine LeO.bind ?_ (fun _ => ?_))
   | exact ih0 _ _ _ _ _
   | exact ih1 _ _ _ _
   | exact LeO.none _
   | refine LeO.ite ?_ ?_
   | refine LeO.bind ?_ (fun _ => ?_)
  ·intro y0 y1 y2 y3
   unfold slices_Concat_int_int.l1
   repeat' first
   | (with_reducible exact ih0 _ _ _ _ _)
   | (with_reducible exact ih1 _ _ _ _)
   | (with_reducible exact LeO.refl _)
   | (with_reducible exact LeO.none _)
   | (with_reducible refine LeO.ite ?_ ?_)
   | (with_reducible refine LeO.bind ?_ (fun _ => ?_))
   | exact ih0 _ _ _ _ _
   | exact ih1 _ _ _ _
   | exact LeO.none _
   | refine LeO.ite ?_ ?_
   | refine LeO.bind ?_ (fun _ => ?_)
theorem slices_Concat_int_int.mono : ∀ a0 k, LeO (slices_Concat_int_int.f k a0) (slices_Concat_int_int.f (k + 1) a0) := by
 intro a0 k
 obtain ⟨ih0, ih1⟩ := slices_Concat_int_int.mono_l k
 unfold slices_Concat_int_int.f
 repeat' first
   | (with_reducible exact ih0 _ _ _ _ _)
   | (with_reducible exact ih1 _ _ _ _)
   | (with_reducible exact LeO.refl _)
   | (with_reducible exact LeO.none _)
   | (with_reducible refine LeO.ite ?_ ?_)
   | (with_reducible refine LeO.bind ?_ (fun _ => ?_))
   | exact ih0 _ _ _ _ _
   | exact ih1 _ _ _ _
   | exact LeO.none _
   | refine LeO.ite ?_ ?_
   | refine LeO.bind ?_ (fun _ => ?_)
theorem slices_Concat_int_int.calls (k : Nat) (A0 : Option Addr) (c0 : Nat) (l0 : List (List Int)) (r : List Int) (w : World) (hr0 : Kd.C (Kd.slice 3 (Kd.int .i64)) w A0 l0.length l0) (hc0 : l0.length ≤ c0) (h : slices_Concat_int_int.f k l0 = some r) :
  Calls Try.prog 60 #[.slice A0 l0.length c0] w fun e w' => ∃ v0_ : Value, e = .returned (v0_) ∧ Kd.R (Kd.int .i64) 3 w' w.heap.size (fun _ => True) v0_ r ∧ Below w.heap.size w w' := by
 have HR0 := Ak hr0
 have HC0 := Ak hc0
 clear hr0 hc0
 have HB := Ak (Below.refl w.heap.size w)
 have H : (slices_Concat_int_int.l0 k l0 0 l0 (l0.length : Int) 0) = some r := h
 clear h
 have H' := Ak H
 clear H
 go_enter Try.func60, Try.ntmps60
 go_wp2
 go_loopg [3, 11] k (fun kq v3 v11 w' => ∃ (x3_1 : Int) (x11_1 : Int), v3 = .int .i64 x3_1 ∧ v11 = .int .i64 x11_1 ∧ Aside0 (slices_Concat_int_int.l0 kq l0 x3_1 l0 (l0.length : Int) x11_1 = some r) ∧ Aside0 (kq ≤ k) ∧ Aside0 (Below w.heap.size w w'))
 case atStart => exact ⟨(0), (0), Qi, Qi, H', ⟨Nat.le_refl _⟩, ⟨Qb HB.out⟩⟩
 case round =>
  clear H'
  obtain ⟨x3_1, x11_1, rfl, rfl, HA, HK1, HB⟩ := hrel
  cases gk with
  | zero => exact absurd HA.out (by simp [slices_Concat_int_int.l0])
  | succ k1 =>
   have H := HA.out
   clear HA
   simp only [slices_Concat_int_int.l0] at H
   by_cases c2 : x11_1 < (l0.length : Int)
   ·rw [if_pos c2] at H
    have c2b0 : decide (x11_1 < (l0.length : Int)) = true := decide_eq_true c2
    clear c2
    by_cases c3 : 0 ≤ x11_1
    ·rw [if_pos c3] at H
     have c3b0 : decide (0 ≤ x11_1) = true := decide_eq_true c3
     clear c3
     by_cases c4 : x11_1 < (l0.length : Int)
     ·rw [if_pos c4] at H
      have c4b0 : decide (x11_1 < (l0.length : Int)) = true := decide_eq_true c4
      clear c4
      by_cases c5 : (wrap64 (x3_1 + ((rd_L2 l0 x11_1).length : Int))) < 0
      ·rw [if_pos c5] at H
       exact absurd H (by simp)
      ·rw [if_neg c5] at H
       have c5b0 : decide ((wrap64 (x3_1 + ((rd_L2 l0 x11_1).length : Int))) < 0) = false := decide_eq_false c5
       clear c5
       have H' := Ak H
       clear H
       have p128 : 0 ≤ (x11_1 : Int) := Qg
       have q128 : x11_1 < (l0.length : Int) := Qg
       obtain ⟨ad128, A128_0, c128_0, e128, hx128_0, hl128_0, hi128_0⟩ := at_L2 HR0.out x11_1 p128 q128
       cases e128
       (try replace hx128_0 := (HB.out.cell (World.block_lt_of_cell? w _ hx128_0)).trans hx128_0)
       have HR128_0 := Ak hi128_0
       have HC128_0 := Ak hl128_0
       clear hi128_0 hl128_0
       replace p128 := eq_true p128
       replace q128 := eq_true q128
       go_wp2
       go_roundg k1
       case measure => have := HK1.out; omega
       case rel => exact ⟨(wrap64 (x3_1 + ((rd_L2 l0 x11_1).length : Int))), (wrap64 (x11_1 + 1)), Qi, Qi, H', ⟨by have := HK1.out; omega⟩, ⟨Qb HB.out⟩⟩
     ·rw [if_neg c4] at H
      exact absurd H (by simp)
    ·rw [if_neg c3] at H
     exact absurd H (by simp)
   ·rw [if_neg c2] at H
    have c2b0 : decide (x11_1 < (l0.length : Int)) = false := decide_eq_false c2
    clear c2
    replace H := Option.bind_eq_some_iff.mp H
    obtain ⟨t129, A60, H⟩ := H
    replace H : (slices_Concat_int_int.l1 k1 t129 l0 (l0.length : Int) 0) = some r := H
    have A6 := Ak A60
    clear A60
    have H' := Ak H
    clear H
    go_wp2_with (first | ((with_reducible refine gate_callee (f := 81) rfl ?_); refine Qj (some 24) Try.func81 #[.slice none 0 0, .int .i64 x3_1] ?_; (refine (slices_Grow_int_int.callsNil x3_1 t129 _ A6.out).mono ?_); rintro e w7 ⟨v130, rfl, ho0, hb⟩; refine ⟨_, rfl, ?_⟩; have n0_ := Ak (Kd.R_lower ho0 (below_size (Qb HB.out))); have n1_ := Ak (below_step (Qb HB.out) hb); clear HB; have HO131 := n0_; have HB := n1_; clear n0_ n1_; (try clear hb); (try clear hb2); (try clear hk); (try clear hi); (try clear ho0)))
    go_loopg [6, 27] k1 (fun kq v6 v27 w' => ∃ (x6_2 : List Int) (x27_2 : Int), v27 = .int .i64 x27_2 ∧ Aside0 (slices_Concat_int_int.l1 kq x6_2 l0 (l0.length : Int) x27_2 = some r) ∧ Aside0 (kq ≤ k1) ∧ Aside0 (Kd.R (Kd.int .i64) 3 w' w.heap.size (fun _ => True) v6 x6_2) ∧ Aside0 (Below w.heap.size w w'))
    case atStart => exact ⟨(t129), (0), Qi, H', ⟨Nat.le_refl _⟩, ⟨by refine Qf ?_; exact HO131.out⟩, ⟨Qb HB.out⟩⟩
    case round =>
     clear H'
     (try clear c1); (try clear p1); (try clear q1); (try clear hx1); (try clear c2); (try clear c2b0); (try clear p2); (try clear c3); (try clear c3b0); (try clear c4); (try clear c4b0); (try clear c5); (try clear c5b0); (try clear c6); (try clear p6); (try clear hx128_0); (try clear p128); (try clear q128)
     obtain ⟨x6_2, x27_2, rfl, HA, HK2, HO_6, HB⟩ := hrel
     cases gk with
     | zero => exact absurd HA.out (by simp [slices_Concat_int_int.l1])
     | succ k2 =>
      have H := HA.out
      clear HA
      simp only [slices_Concat_int_int.l1] at H
      by_cases c8 : x27_2 < (l0.length : Int)
      ·rw [if_pos c8] at H
       have c8b0 : decide (x27_2 < (l0.length : Int)) = true := decide_eq_true c8
       clear c8
       by_cases c9 : 0 ≤ x27_2
       ·rw [if_pos c9] at H
        have c9b0 : decide (0 ≤ x27_2) = true := decide_eq_true c9
        clear c9
        by_cases c10 : x27_2 < (l0.length : Int)
        ·rw [if_pos c10] at H
         have c10b0 : decide (x27_2 < (l0.length : Int)) = true := decide_eq_true c10
         clear c10
         by_cases c11 : x6_2.length + (rd_L2 l0 x27_2).length < 17592186044416
         ·rw [if_pos c11] at H
          have LMc11 := Ak c11
          clear c11
          obtain ⟨y133, hy133⟩ : ∃ y_ : List Int, y_ = (x6_2 ++ (rd_L2 l0 x27_2)) := ⟨_, rfl⟩
          replace H : (slices_Concat_int_int.l1 k2 y133 l0 (l0.length : Int) (wrap64 (x27_2 + 1))) = some r := by first | (rw [hy133]; with_reducible exact H) | (have H2_ := (Option.bind_some _ _).symm.trans H; rw [hy133]; with_reducible exact H2_) | (have H2_ := (Option.bind_some _ _).symm.trans H; with_reducible exact H2_) | with_reducible exact H | (rw [hy133]; exact H) | exact H
          have Ny133 := Ak hy133
          clear hy133
          have H' := Ak H
          clear H
          have p132 : 0 ≤ (x27_2 : Int) := Qg
          have q132 : x27_2 < (l0.length : Int) := Qg
          obtain ⟨ad132, A132_0, c132_0, e132, hx132_0, hl132_0, hi132_0⟩ := at_L2 HR0.out x27_2 p132 q132
          cases e132
          (try replace hx132_0 := (HB.out.cell (World.block_lt_of_cell? w _ hx132_0)).trans hx132_0)
          have HR132_0 := Ak hi132_0
          have HC132_0 := Ak hl132_0
          clear hi132_0 hl132_0
          replace p132 := eq_true p132
          replace q132 := eq_true q132
          go_wp2_with (first | ((with_reducible refine gate_builtin (b := .append) (xs := #[.tmp 31, .tmp 32]) rfl ?_); at_builtin; refine Kd.R_append_rows (Kd.int .i64) (w0 := w) w.heap.size rfl (.tmp 31) (.tmp 32) 23 3 (.int .i64 0) 8 rfl Try.underlying23 info3 rfl (by decide) (by omega) u6 x6_2 (rd_L2 l0 x27_2) _ _ _ (fun _ => True) (fun _ => False) rfl rfl ?aO ?aR (fun _ _ h => h) (fun _ h => h.elim) ?aF ?aB ?aS ?aL ?_; (case aR => repeat (first | exact (Kd.C_below HR132_0.out HB.out) | (with_reducible refine Kd.C_alloc ?_ _) | (with_reducible refine Kd.C_drewN ?_ _) | (with_reducible refine Kd.C_drew ?_))); (case aB => exact (Qb HB.out)); (case aF => exact (fun _ _ => trivial)); (case aO => exact (Qc HO_6.out)); (case aS => exact (below_size (Qb HB.out))); (case aL => have := LMc11.out; omega); intro v134 w12 ho hb hg hat; rw [← Ny133.out] at ho; have n0_ := Ak (hb); have n1_ := Ak (ho); clear HB HO_6; have HB := n0_; have HO135 := n1_; clear n0_ n1_; clear ho hb hg hat))
          go_roundg k2
          case measure => have := HK1.out; have := HK2.out; omega
          case rel => exact ⟨(y133), (wrap64 (x27_2 + 1)), Qi, H', ⟨by have := HK1.out; have := HK2.out; omega⟩, ⟨by refine Qf ?_; exact HO135.out⟩, ⟨Qb HB.out⟩⟩
         ·rw [if_neg c11] at H
          exact absurd H (by simp)
        ·rw [if_neg c10] at H
         exact absurd H (by simp)
       ·rw [if_neg c9] at H
        exact absurd H (by simp)
      ·rw [if_neg c8] at H
       have c8b0 : decide (x27_2 < (l0.length : Int)) = false := decide_eq_false c8
       clear c8
       obtain rfl := Option.some.inj H
       go_wp2
       go_ret
       exact ⟨_, Qh, by refine Qf ?_; exact HO_6.out, Qb HB.out⟩

/-! ### impl_ShiftWord: function 30 -/
def impl_ShiftWord.j0 : Nat → List Int → Int → Bool → Option (List Int × Bool)
 | 0, _, _, _ => none
 | k + 1, x0, x1, x6 => if x6 = true then (some (([] : List Int), false)) else (if x1 ≤ (wrap64 (-(x0.length : Int))) then (some ((([0] : List Int)), true)) else (if x1 < 0 then (if 0 ≤ (wrap64 (-x1)) then (if (wrap64 (-x1)) ≤ (x0.length : Int) then ((slices_Clone_int_int.f (x0.drop ((wrap64 (-x1)) : Int).toNat)).bind fun t145 => (some (t145, true))) else (none)) else (none)) else (if 0 ≤ x1 then (if (x1 : Int).toNat ≤ 35184372088832 then ((slices_Concat_int_int.f k (([(List.replicate (x1 : Int).toNat 0), x0] : List (List Int)))).bind fun t154 => (some (t154, true))) else (none)) else (none))))
def impl_ShiftWord.f (k : Nat) (l0 : List Int) (a1 : Int) : Option (List Int × Bool) := (impl_IsWord.f k l0).bind fun t136 => (if t136 = true then (impl_ShiftWord.j0 k l0 a1 (decide (a1 > (wrap64 (30 - (l0.length : Int)))))) else (impl_ShiftWord.j0 k l0 a1 true))
theorem impl_ShiftWord.mono_l : ∀ k, (∀ y0 y1 y2, LeO (impl_ShiftWord.j0 k y0 y1 y2) (impl_ShiftWord.j0 (k + 1) y0 y1 y2))
 | 0 => fun _ _ _ r h => by simp [impl_ShiftWord.j0] at h
 | k + 1 => by
  have ih0 := impl_ShiftWord.mono_l k
  ·intro y0 y1 y2
   unfold impl_ShiftWord.j0
   repeat' first
   | (with_reducible exact ih0 _ _ _)
   | (with_reducible exact impl_IsWord.mono _ _)
   | (with_reducible exact slices_Concat_int_int.mono _ _)
   | (with_reducible exact LeO.refl _)
   | (with_reducible exact LeO.none _)
   | (with_reducible refine LeO.ite ?_ ?_)
   | (with_reducible refine LeO.bind ?_ (fun _ => ?_))
   | exact ih0 _ _ _
   | exact impl_IsWord.mono _ _
   | exact slices_Concat_int_int.mono _ _
   | exact LeO.none _
   | refine LeO.ite ?_ ?_
   | refine LeO.bind ?_ (fun _ => ?_)
theorem impl_ShiftWord.mono : ∀ a0 a1 k, LeO (impl_ShiftWord.f k a0 a1) (impl_ShiftWord.f (k + 1) a0 a1) := by
 intro a0 a1 k
 have ih0 := impl_ShiftWord.mono_l k
 unfold impl_ShiftWord.f
 repeat' first
   | (with_reducible exact ih0 _ _ _)
   | (with_reducible exact impl_IsWord.mono _ _)
   | (with_reducible exact slices_Concat_int_int.mono _ _)
   | (with_reducible exact LeO.refl _)
   | (with_reducible exact LeO.none _)
   | (with_reducible refine LeO.ite ?_ ?_)
   | (with_reducible refine LeO.bind ?_ (fun _ => ?_))
   | exact ih0 _ _ _
   | exact impl_IsWord.mono _ _
   | exact slices_Concat_int_int.mono _ _
   | exact LeO.none _
   | refine LeO.ite ?_ ?_
   | refine LeO.bind ?_ (fun _ => ?_)
theorem impl_ShiftWord.calls (k : Nat) (P0_ : Nat → Prop) (A0 : Option Addr) (c0 : Nat) (l0 : List Int) (a1 : Int) (r1 : List Int) (r2 : Bool) (w : World) (hs0 : Kd.V (Kd.int .i64) 3 w w.heap.size (fun k_ => P0_ k_) (.slice A0 l0.length c0) l0) (h : impl_ShiftWord.f k l0 a1 = some (r1, r2)) :
  Calls Try.prog 30 #[.slice A0 l0.length c0, .int .i64 a1] w fun e w' => ∃ v0_ : Value, e = .returned (.tuple #[v0_, .bool r2]) ∧ Kd.R (Kd.int .i64) 3 w' w.heap.size (fun k_ => (w.heap.size ≤ k_)) v0_ r1 ∧ Below w.heap.size w w' := by
 have HO0 := Ak (show Kd.V (Kd.int .i64) 3 w w.heap.size (fun k_ => (P0_ k_ ∨ w.heap.size ≤ k_)) (.slice A0 l0.length c0) l0 from Kd.V_mono hs0 (fun k_ hk => .inl hk))
 have HB := Ak (Below.refl w.heap.size w)
 have H : ((impl_IsWord.f k l0).bind fun t136 => (if t136 = true then (impl_ShiftWord.j0 k l0 a1 (decide (a1 > (wrap64 (30 - (l0.length : Int)))))) else (impl_ShiftWord.j0 k l0 a1 true))) = some (r1, r2) := h
 clear h
 have HC3 := Ak H
 clear H
 go_enter Try.func30, Try.ntmps30
 go_upto_region 1 with (fail)
 go_cut [6] (fun v6 wc => ∃ (kq : Nat) (x6_2 : Bool), v6 = .bool x6_2 ∧ Aside0 (impl_ShiftWord.j0 kq l0 a1 x6_2 = some (r1, r2)) ∧ Aside0 (kq ≤ k) ∧ Aside0 (Kd.V (Kd.int .i64) 3 wc w.heap.size (fun k_ => (P0_ k_ ∨ w.heap.size ≤ k_)) (.slice A0 l0.length c0) l0) ∧ Aside0 (Below w.heap.size w wc))
 case first =>
  have H := HC3.out
  clear HC3
  replace H := Option.bind_eq_some_iff.mp H
  obtain ⟨t136, A40, H⟩ := H
  replace H : (if t136 = true then (impl_ShiftWord.j0 k l0 a1 (decide (a1 > (wrap64 (30 - (l0.length : Int)))))) else (impl_ShiftWord.j0 k l0 a1 true)) = some (r1, r2) := H
  have A4 := Ak A40
  clear A40
  by_cases c5 : t136 = true
  ·(try subst c5)
   have H1 : (impl_ShiftWord.j0 k l0 a1 (decide (a1 > (wrap64 (30 - (l0.length : Int)))))) = some (r1, r2) := by rw [if_pos rfl] at H; exact H
   clear H
   have H := H1
   clear H1
   have H' := Ak H
   clear H
   go_wp2_with (first | ((with_reducible refine gate_callee (f := 58) rfl ?_); refine Qj (some 8) Try.func58 #[.slice A0 l0.length c0] ?_; (with_reducible refine (impl_IsWord.calls k _ _ l0 true _ ?side1 ?side2 A4.out).mono ?_); (case side1 => repeat (first | exact (Kd.V_reads' HO0.out).2.2 | (with_reducible refine Kd.C_alloc ?_ _) | (with_reducible refine Kd.C_drewN ?_ _) | (with_reducible refine Kd.C_drew ?_))); (case side2 => exact (Kd.V_reads' HO0.out).2.1); rintro e w' ⟨rfl, ⟨nd, rfl⟩⟩; refine ⟨_, rfl, ?_⟩))
   go_meet
   case rel => exact ⟨_, (decide (a1 > (wrap64 (30 - (l0.length : Int))))), Qi, H', ⟨by first | omega | exact Nat.le_refl _⟩, ⟨by (with_reducible repeat (first | apply Kd.V_alloc | apply Kd.V_drewN | apply Kd.V_drew)); exact HO0.out⟩, ⟨Qb HB.out⟩⟩
  ·replace c5 := Bool.eq_false_iff.mpr c5
   (try subst c5)
   have H1 : (impl_ShiftWord.j0 k l0 a1 true) = some (r1, r2) := by rw [if_neg (show ¬ (false = true) by decide)] at H; exact H
   clear H
   have H := H1
   clear H1
   have H' := Ak H
   clear H
   go_wp2_with (first | ((with_reducible refine gate_callee (f := 58) rfl ?_); refine Qj (some 8) Try.func58 #[.slice A0 l0.length c0] ?_; (with_reducible refine (impl_IsWord.calls k _ _ l0 false _ ?side1 ?side2 A4.out).mono ?_); (case side1 => repeat (first | exact (Kd.V_reads' HO0.out).2.2 | (with_reducible refine Kd.C_alloc ?_ _) | (with_reducible refine Kd.C_drewN ?_ _) | (with_reducible refine Kd.C_drew ?_))); (case side2 => exact (Kd.V_reads' HO0.out).2.1); rintro e w' ⟨rfl, ⟨nd, rfl⟩⟩; refine ⟨_, rfl, ?_⟩))
   go_meet
   case rel => exact ⟨_, (true), Qi, H', ⟨by first | omega | exact Nat.le_refl _⟩, ⟨by (with_reducible repeat (first | apply Kd.V_alloc | apply Kd.V_drewN | apply Kd.V_drew)); exact HO0.out⟩, ⟨Qb HB.out⟩⟩
 case rest =>
  clear HC3
  (try clear p2); (try clear c3); (try clear c5)
  obtain ⟨kq, x6_2, rfl, HA, HJ2, HO_0, HB⟩ := hcut
  cases kq with
  | zero => exact absurd HA.out (by simp [impl_ShiftWord.j0])
  | succ kj2 =>
   have H := HA.out
   clear HA
   simp only [impl_ShiftWord.j0] at H
   by_cases c6 : x6_2 = true
   ·(try subst c6)
    have H1 : (some (([] : List Int), false)) = some (r1, r2) := by rw [if_pos rfl] at H; exact H
    clear H
    have H := H1
    clear H1
    simp only [Option.some.injEq, Prod.mk.injEq] at H
    obtain ⟨rfl, rfl⟩ := H
    go_wp2
    go_ret2
    exact ⟨_, Qh, by first | exact Kd.R_nil _ _ _ _ _ | exact Kd.N_nil _ _ _ _ _ | exact Kd.V_nil _ _ _ _ _ | exact Kd.Q_nil _ _ _ _ _ | exact Kd.S_nil _ _ _ _ _, Qb HB.out⟩
   ·replace c6 := Bool.eq_false_iff.mpr c6
    (try subst c6)
    have H1 : (if a1 ≤ (wrap64 (-(l0.length : Int))) then (some ((([0] : List Int)), true)) else (if a1 < 0 then (if 0 ≤ (wrap64 (-a1)) then (if (wrap64 (-a1)) ≤ (l0.length : Int) then ((slices_Clone_int_int.f (l0.drop ((wrap64 (-a1)) : Int).toNat)).bind fun t145 => (some (t145, true))) else (none)) else (none)) else (if 0 ≤ a1 then (if (a1 : Int).toNat ≤ 35184372088832 then ((slices_Concat_int_int.f kj2 (([(List.replicate (a1 : Int).toNat 0), l0] : List (List Int)))).bind fun t154 => (some (t154, true))) else (none)) else (none)))) = some (r1, r2) := by rw [if_neg (show ¬ (false = true) by decide)] at H; exact H
    clear H
    have H := H1
    clear H1
    by_cases c7 : a1 ≤ (wrap64 (-(l0.length : Int)))
    ·rw [if_pos c7] at H
     have c7b0 : decide (a1 ≤ (wrap64 (-(l0.length : Int)))) = true := decide_eq_true c7
     clear c7
     obtain ⟨y137, hy137⟩ : ∃ y_ : List Int, y_ = (([0] : List Int)) := ⟨_, rfl⟩
     replace H : (some (y137, true)) = some (r1, r2) := by first | (rw [hy137]; with_reducible exact H) | (have H2_ := (Option.bind_some _ _).symm.trans H; rw [hy137]; with_reducible exact H2_) | (have H2_ := (Option.bind_some _ _).symm.trans H; with_reducible exact H2_) | with_reducible exact H | (rw [hy137]; exact H) | exact H
     have Ny137 := Ak hy137
     clear hy137
     simp only [Option.some.injEq, Prod.mk.injEq] at H
     obtain ⟨rfl, rfl⟩ := H
     go_wp2_with (first | ((with_reducible refine gate_dst (N := 23) rfl ?_); (try (refine gate_guard (by rfl) ?_; dsimp only)); refine Kd.R_lit (Kd.int .i64) _ 3 ?hg (N := 23) ?hd (xs := ([0] : List Int)) (inner := [.int .i64 0]) (ok := fun _ => True) (okp := fun _ => True) ?hr ?hp (fun _ hk => hk) trivial (Below.refl _ _) (Nat.le_refl _) (by simp) ?_; (case hd => rfl); (case hg => rfl); (case hr => first | (go_simp; done) | (go_simp; rfl)); (case hp => exact (Reps.one (show Kd.M (Kd.int .i64) _ _ _ 0 [.int .i64 0] from rfl) (Reps.none _ _))); intro v138 w8 ho9 hb hg_ hnew_; clear hg_ hnew_; (first | rw [← Ny137.out] at ho9 | (simp only [Int.reduceToNat] at ho9; rw [← Ny137.out] at ho9)); have n0_ := Ak (Kd.V_elder' (by (with_reducible repeat (first | apply Kd.V_alloc | apply Kd.V_drewN | apply Kd.V_drew)); exact HO_0.out) (Kd.R_base ho9) hb); have n1_ := Ak (Kd.R_lower (Kd.R_newM (M := fun k_ => (w.heap.size ≤ k_)) ho9 (below_size (Qb HB.out)) (fun k_ h_ => h_)) (below_size (Qb HB.out))); have n2_ := Ak (below_step (Qb HB.out) hb); clear HO_0 HB; have HO_0 := n0_; have HO139 := n1_; have HB := n2_; clear n0_ n1_ n2_; clear hb ho9))
     go_ret2
     exact ⟨_, Qh, by refine Qf ?_; exact Kd.R_mono HO139.out (fun _ hk => hk.1), Qb HB.out⟩
    ·rw [if_neg c7] at H
     have c7b0 : decide (a1 ≤ (wrap64 (-(l0.length : Int)))) = false := decide_eq_false c7
     clear c7
     by_cases c10 : a1 < 0
     ·rw [if_pos c10] at H
      have c10b0 : decide (a1 < 0) = true := decide_eq_true c10
      clear c10
      obtain ⟨ji11, hji11⟩ : ∃ j_ : Int, (wrap64 (-a1)) = j_ := ⟨_, rfl⟩
      replace H : (if 0 ≤ (ji11) then (if (ji11) ≤ (l0.length : Int) then ((slices_Clone_int_int.f (l0.drop ((ji11) : Int).toNat)).bind fun t145 => (some (t145, true))) else (none)) else (none)) = some (r1, r2) := by first | (rw [hji11] at H; exact H) | (simp only [hji11] at H ⊢; exact H)
      have hji11w : (IntKind.i64.wrap (-a1)) = ji11 := (i64_w _).trans hji11
      by_cases c12 : 0 ≤ (ji11)
      ·rw [if_pos c12] at H
       have c12b0 := eq_true c12
       have c12b1 : decide (0 ≤ (ji11)) = true := decide_eq_true c12
       clear c12
       by_cases c13 : (ji11) ≤ (l0.length : Int)
       ·rw [if_pos c13] at H
        have c13b0 := eq_true c13
        have c13b1 : decide ((ji11) ≤ (l0.length : Int)) = true := decide_eq_true c13
        clear c13
        obtain ⟨y140, hy140⟩ : ∃ y_ : List Int, y_ = (l0.drop ((ji11) : Int).toNat) := ⟨_, rfl⟩
        replace H : ((slices_Clone_int_int.f y140).bind fun t145 => (some (t145, true))) = some (r1, r2) := by first | (rw [hy140]; with_reducible exact H) | (have H2_ := (Option.bind_some _ _).symm.trans H; rw [hy140]; with_reducible exact H2_) | (have H2_ := (Option.bind_some _ _).symm.trans H; with_reducible exact H2_) | with_reducible exact H | (rw [hy140]; exact H) | exact H
        have Ny140 := Ak hy140
        clear hy140
        replace H := Option.bind_eq_some_iff.mp H
        obtain ⟨t145, A140, H⟩ := H
        replace H : (some (t145, true)) = some (r1, r2) := H
        have A14 := Ak A140
        clear A140
        simp only [Option.some.injEq, Prod.mk.injEq] at H
        obtain ⟨rfl, rfl⟩ := H
        have q15 : ((ji11) : Int) ≤ ((l0.length : Int) : Int) := Qg
        obtain ⟨i015, hi015, _, hsz15, _⟩ := info_parts info3
        have hroom15 : l0.length ≤ c0 := (Kd.V_reads' HO_0.out).2.1
        have hC15 : Kd.F (Kd.int .i64) _ _ A0 l0.length l0 := (Kd.V_at (base := w.heap.size) HO_0.out).2.2
        have q015 : (0 : Int) ≤ ((ji11) : Int) := Qg
        have hcut15 := cut_from (P := Try.prog) 23 3 .i64 Try.underlying23 hi015 1 hsz15 A0 l0.length c0 (ji11) q015 q15
        have hr15 := Kd.F_cut (m := ((ji11) : Int).toNat) (c := c0) hC15 (by omega) hroom15
        obtain ⟨A15, hA15⟩ : ∃ A1, A1 = (if c0 = ((ji11) : Int).toNat then A0 else (A0 : Option Addr).map (·.add (((ji11) : Int).toNat * 1))) := ⟨_, rfl⟩
        obtain ⟨c15, hc15⟩ : ∃ c1, c1 = c0 - ((ji11) : Int).toNat := ⟨_, rfl⟩
        have hy15 : y140.length = l0.length - ((ji11) : Int).toNat := (by rw [Ny140.out, List.length_drop] <;> omega)
        rw [show (l0).drop ((ji11) : Int).toNat = y140 from Ny140.out.symm] at hr15
        replace hr15 : Kd.F (Kd.int .i64) _ _ A15 y140.length y140 := (by rw [hA15]; exact hr15)
        rw [← hy15, ← hA15, ← hc15] at hcut15
        have HO144 := Ak (show Kd.V (Kd.int .i64) 3 _ w.heap.size _ (.slice A15 y140.length c15) y140 from Kd.V_mk (by rw [hy15, hc15]; exact Nat.sub_le_sub_right hroom15 _) hr15)
        have HC144 := Ak (show y140.length ≤ c15 from by rw [hy15, hc15]; exact Nat.sub_le_sub_right hroom15 _)
        clear hr15 hC15 hroom15 hi015 hsz15 hc15
        have KY15 := Ak hy15
        have KA15 := Ak hA15
        clear hy15 hA15
        replace q15 := eq_true q15
        go_wp2_with (first | ((with_reducible refine gate_callee (f := 59) rfl ?_); refine Qj (some 31) Try.func59 #[.slice A15 y140.length c15] ?_; (with_reducible refine (slices_Clone_int_int.calls _ _ y140 t145 _ ?side1 ?side2 A14.out).mono ?_); (case side1 => repeat (first | exact (Kd.V_reads' HO144.out).2.2 | (with_reducible refine Kd.C_alloc ?_ _) | (with_reducible refine Kd.C_drewN ?_ _) | (with_reducible refine Kd.C_drew ?_))); (case side2 => exact (Kd.V_reads' HO144.out).2.1); rintro e w16 ⟨v146, rfl, ho0, hb⟩; refine ⟨_, rfl, ?_⟩; have n0_ := Ak (Kd.V_elder' (by (with_reducible repeat (first | apply Kd.V_alloc | apply Kd.V_drewN | apply Kd.V_drew)); exact HO_0.out) (Kd.R_base ho0) hb); have n1_ := Ak (Kd.V_elder' (by (with_reducible repeat (first | apply Kd.V_alloc | apply Kd.V_drewN | apply Kd.V_drew)); exact HO144.out) (Kd.R_base ho0) hb); have n2_ := Ak (Kd.R_lower (Kd.R_newM (M := fun k_ => (w.heap.size ≤ k_)) ho0 (below_size (Qb HB.out)) (fun k_ h_ => h_)) (below_size (Qb HB.out))); have n3_ := Ak (below_step (Qb HB.out) hb); clear HO_0 HO144 HB; have HO_0 := n0_; have HO144 := n1_; have HO147 := n2_; have HB := n3_; clear n0_ n1_ n2_ n3_; (try clear hb); (try clear hb2); (try clear hk); (try clear hi); (try clear ho0)))
        go_ret2
        exact ⟨_, by first | rfl | (simp [errW_none, errW_some] <;> rfl) | (simp only [← hji11]; first | rfl | (simp [errW_none, errW_some] <;> rfl)) | (simp [*, errW_none, errW_some] <;> rfl), by refine Qf ?_; exact Kd.R_mono HO147.out (fun _ hk => hk.1), Qb HB.out⟩
       ·rw [if_neg c13] at H
        exact absurd H (by simp)
      ·rw [if_neg c12] at H
       exact absurd H (by simp)
     ·rw [if_neg c10] at H
      have c10b0 : decide (a1 < 0) = false := decide_eq_false c10
      clear c10
      by_cases c17 : 0 ≤ a1
      ·rw [if_pos c17] at H
       have c17b0 := eq_true c17
       have c17b1 : decide (0 ≤ a1) = true := decide_eq_true c17
       clear c17
       by_cases c18 : (a1 : Int).toNat ≤ 35184372088832
       ·rw [if_pos c18] at H
        have c18b0 := eq_true c18
        have c18b1 : decide ((a1 : Int).toNat ≤ 35184372088832) = true := decide_eq_true c18
        clear c18
        obtain ⟨y148, hy148⟩ : ∃ y_ : List Int, y_ = (List.replicate (a1 : Int).toNat 0) := ⟨_, rfl⟩
        replace H : ((slices_Concat_int_int.f kj2 (([y148, l0] : List (List Int)))).bind fun t154 => (some (t154, true))) = some (r1, r2) := by first | (rw [hy148]; with_reducible exact H) | (have H2_ := (Option.bind_some _ _).symm.trans H; rw [hy148]; with_reducible exact H2_) | (have H2_ := (Option.bind_some _ _).symm.trans H; with_reducible exact H2_) | with_reducible exact H | (rw [hy148]; exact H) | exact H
        have Ny148 := Ak hy148
        clear hy148
        obtain ⟨y151, hy151⟩ : ∃ y_ : List (List Int), y_ = (([y148, l0] : List (List Int))) := ⟨_, rfl⟩
        replace H : ((slices_Concat_int_int.f kj2 y151).bind fun t154 => (some (t154, true))) = some (r1, r2) := by first | (rw [hy151]; with_reducible exact H) | (have H2_ := (Option.bind_some _ _).symm.trans H; rw [hy151]; with_reducible exact H2_) | (have H2_ := (Option.bind_some _ _).symm.trans H; with_reducible exact H2_) | with_reducible exact H | (rw [hy151]; exact H) | exact H
        have Ny151 := Ak hy151
        clear hy151
        replace H := Option.bind_eq_some_iff.mp H
        obtain ⟨t154, A190, H⟩ := H
        replace H : (some (t154, true)) = some (r1, r2) := H
        have A19 := Ak A190
        clear A190
        simp only [Option.some.injEq, Prod.mk.injEq] at H
        obtain ⟨rfl, rfl⟩ := H
        go_wp2_with (first | ((with_reducible refine gate_dst (N := 33) rfl ?_); (try (refine gate_guard (by rfl) ?_; dsimp only)); refine Kd.R_make (Kd.int .i64) _ 3 rfl (N := 33) rfl 23 _ _ rfl a1 rfl rfl Try.underlying23 (.int .i64 0) 8 info3 rfl (by decide) (by omega) 0 (ok := fun _ => True) (okp := fun _ => True) rfl (fun _ hk => hk) trivial (Qg) (Nat.le_trans (Nat.mul_le_mul_right _ (Qg : a1.toNat ≤ 35184372088832)) (by omega)) (Below.refl _ _) (Nat.le_refl _) ?_; intro v149 w20 ho21 hb hg_ hnew_; clear hg_ hnew_; (first | rw [← Ny148.out] at ho21 | (simp only [Int.reduceToNat] at ho21; rw [← Ny148.out] at ho21)); have n0_ := Ak (Kd.V_elder' (by (with_reducible repeat (first | apply Kd.V_alloc | apply Kd.V_drewN | apply Kd.V_drew)); exact HO_0.out) (Kd.R_base ho21) hb); have n1_ := Ak (Kd.R_lower (Kd.R_newM (M := fun k_ => (w.heap.size ≤ k_)) ho21 (below_size (Qb HB.out)) (fun k_ h_ => h_)) (below_size (Qb HB.out))); have n2_ := Ak (below_step (Qb HB.out) hb); clear HO_0 HB; have HO_0 := n0_; have HO150 := n1_; have HB := n2_; clear n0_ n1_ n2_; clear hb ho21; obtain ⟨Ao22, co22, eo22⟩ := Kd.R_slice HO150.out; subst eo22) | ((with_reducible refine gate_dst (N := 35) rfl ?_); (try (refine gate_guard (by rfl) ?_; dsimp only)); refine Kd.N_lit (Kd.slice 3 (Kd.int .i64)) _ 23 ?hg (N' := 35) ?hd (xs := ([y148, l0] : List (List Int))) (inner := [.slice Ao22 y148.length co22, .slice A0 l0.length c0]) (ok := (fun k_ => (P0_ k_ ∨ w.heap.size ≤ k_))) (okp := (fun k_ => (P0_ k_ ∨ w.heap.size ≤ k_))) ?hr ?hp (fun _ hk => hk) ((show ∀ k_, w20.heap.size ≤ k_ → (fun k_ => (P0_ k_ ∨ w.heap.size ≤ k_)) k_ from fun k_ hk => (.inr (Nat.le_trans (below_size (Qb HB.out)) hk))) _ (Nat.le_refl _)) (Below.refl _ _) (Nat.le_refl _) (by simp) ?_; (case hd => rfl); (case hg => rfl); (case hr => first | (go_simp; done) | (go_simp; rfl)); (case hp => exact (Reps.one (show Kd.FK (Kd.slice 3 (Kd.int .i64)) _ _ y148 [.slice Ao22 y148.length co22] from (Kd.FK_slice_mk (Kd.R_reads' (Kd.R_mono (ok' := (fun k_ => (P0_ k_ ∨ w.heap.size ≤ k_))) (HO150.out) (fun k_ hk => (.inr (hk.1))))).2.1 (Kd.R_F (Kd.R_mono (ok' := (fun k_ => (P0_ k_ ∨ w.heap.size ≤ k_))) (HO150.out) (fun k_ hk => (.inr (hk.1))))))) (Reps.one (show Kd.FK (Kd.slice 3 (Kd.int .i64)) _ _ l0 [.slice A0 l0.length c0] from (Kd.FK_slice_mk (Kd.V_reads' (Kd.V_mono (ok' := (fun k_ => (P0_ k_ ∨ w.heap.size ≤ k_))) (HO_0.out) (fun k_ hk => hk.1))).2.1 (Kd.V_F (Kd.V_mono (ok' := (fun k_ => (P0_ k_ ∨ w.heap.size ≤ k_))) (HO_0.out) (fun k_ hk => hk.1))))) (Reps.none _ _)))); intro v152 w23 ho24 hb hg_ hnew_; clear hg_ hnew_; (first | rw [← Ny151.out] at ho24 | (simp only [Int.reduceToNat] at ho24; rw [← Ny151.out] at ho24)); have n0_ := Ak (Kd.V_elder' (by (with_reducible repeat (first | apply Kd.V_alloc | apply Kd.V_drewN | apply Kd.V_drew)); exact HO_0.out) (Kd.N_base ho24) hb); have n1_ := Ak (Kd.N_lower ho24 (below_size (Qb HB.out))); have n2_ := Ak (below_step (Qb HB.out) hb); clear HO_0 HB HO150; have HO_0 := n0_; have HO153 := n1_; have HB := n2_; clear n0_ n1_ n2_; clear hb ho24; obtain ⟨Ao25, co25, eo25⟩ := Kd.N_slice HO153.out; subst eo25) | ((with_reducible refine gate_callee (f := 60) rfl ?_); refine Qj (some 36) Try.func60 #[.slice Ao25 y151.length co25] ?_; (with_reducible refine (slices_Concat_int_int.calls kj2 _ _ y151 t154 _ ?side1 ?side2 A19.out).mono ?_); (case side1 => repeat (first | exact (Kd.N_reads' HO153.out).2.2 | (with_reducible refine Kd.C_alloc ?_ _) | (with_reducible refine Kd.C_drewN ?_ _) | (with_reducible refine Kd.C_drew ?_))); (case side2 => exact (Kd.N_reads' HO153.out).2.1); rintro e w26 ⟨v155, rfl, ho0, hb⟩; refine ⟨_, rfl, ?_⟩; have n0_ := Ak (Kd.V_elder' (by (with_reducible repeat (first | apply Kd.V_alloc | apply Kd.V_drewN | apply Kd.V_drew)); exact HO_0.out) (Kd.R_base ho0) hb); have n1_ := Ak (Kd.N_elder' (by (with_reducible repeat (first | apply Kd.N_alloc | apply Kd.N_drewN | apply Kd.N_drew)); exact HO153.out) (Kd.R_base ho0) hb); have n2_ := Ak (Kd.R_lower (Kd.R_newM (M := fun k_ => (w.heap.size ≤ k_)) ho0 (below_size (Qb HB.out)) (fun k_ h_ => h_)) (below_size (Qb HB.out))); have n3_ := Ak (below_step (Qb HB.out) hb); clear HO_0 HO153 HB; have HO_0 := n0_; have HO153 := n1_; have HO156 := n2_; have HB := n3_; clear n0_ n1_ n2_ n3_; (try clear hb); (try clear hb2); (try clear hk); (try clear hi); (try clear ho0)))
        go_ret2
        exact ⟨_, Qh, by refine Qf ?_; exact Kd.R_mono HO156.out (fun _ hk => hk.1), Qb HB.out⟩
       ·rw [if_neg c18] at H
        exact absurd H (by simp)
      ·rw [if_neg c17] at H
       exact absurd H (by simp)

/-! ### impl_carried: function 100 -/
def impl_carried.f (a0 : Int) : Option (Int × Int) := if a0 > 1 then (some (wrap64 (a0 - 3), 1)) else (if a0 < (-1) then (some (wrap64 (a0 + 3), (-1))) else (some (a0, 0)))
theorem impl_carried.calls (a0 : Int) (r1 : Int) (r2 : Int) (w : World) (h : impl_carried.f a0 = some (r1, r2)) :
  Calls Try.prog 100 #[.int .i64 a0] w fun e w' => e = .returned (.tuple #[.int .i64 r1, .int .i64 r2]) ∧ Drawn0 w w' := by
 have H : (if a0 > 1 then (some (wrap64 (a0 - 3), 1)) else (if a0 < (-1) then (some (wrap64 (a0 + 3), (-1))) else (some (a0, 0)))) = some (r1, r2) := h
 clear h
 by_cases c2 : a0 > 1
 ·rw [if_pos c2] at H
  have c2b0 : decide (1 < a0) = true := decide_eq_true c2
  clear c2
  simp only [Option.some.injEq, Prod.mk.injEq] at H
  obtain ⟨rfl, rfl⟩ := H
  go_enter Try.func100, Try.ntmps100
  go_wp2
  go_ret2
  exact ⟨Qi, Ql⟩
 ·rw [if_neg c2] at H
  have c2b0 : decide (1 < a0) = false := decide_eq_false c2
  clear c2
  by_cases c3 : a0 < (-1)
  ·rw [if_pos c3] at H
   have c3b0 : decide (a0 < (-1)) = true := decide_eq_true c3
   clear c3
   simp only [Option.some.injEq, Prod.mk.injEq] at H
   obtain ⟨rfl, rfl⟩ := H
   go_enter Try.func100, Try.ntmps100
   go_wp2
   go_ret2
   exact ⟨Qi, Ql⟩
  ·rw [if_neg c3] at H
   have c3b0 : decide (a0 < (-1)) = false := decide_eq_false c3
   clear c3
   simp only [Option.some.injEq, Prod.mk.injEq] at H
   obtain ⟨rfl, rfl⟩ := H
   go_enter Try.func100, Try.ntmps100
   go_wp2
   go_ret2
   exact ⟨Qi, Ql⟩

/-! ### impl_WordOf: function 90 -/
mutual
def impl_WordOf.j0 : Nat → Int → Int → Bool → Option (List Int × Bool)
 | 0, _, _, _ => none
 | k + 1, x0, x1, x20 => if x20 = true then (some (([] : List Int), false)) else (impl_WordOf.l0 k x0 (([] : List Int)) x1 0)
def impl_WordOf.l0 : Nat → Int → List Int → Int → Int → Option (List Int × Bool)
 | 0, _, _, _, _ => none
 | k + 1, x0, x6, x22, x23 => if x23 < x22 then ((impl_carried.f (Int.tmod x0 3)).bind fun bt161 => (if x6.length < 17592186044416 then (impl_WordOf.l0 k (wrap64 (Int.tdiv (wrap64 (x0 - bt161.1)) 3)) (x6 ++ [bt161.1]) x22 (wrap64 (x23 + 1))) else (none))) else (some (x6, true))
end
def impl_WordOf.f (k : Nat) (a0 : Int) (a1 : Int) : Option (List Int × Bool) := if a1 < 1 then (impl_WordOf.j0 k a0 a1 true) else (if a1 > 30 then (impl_WordOf.j0 k a0 a1 true) else ((impl_fits.f k a0 a1).bind fun t157 => (impl_WordOf.j0 k a0 a1 (!t157))))
theorem impl_WordOf.mono_l : ∀ k, (∀ y0 y1 y2, LeO (impl_WordOf.j0 k y0 y1 y2) (impl_WordOf.j0 (k + 1) y0 y1 y2)) ∧ (∀ y0 y1 y2 y3, LeO (impl_WordOf.l0 k y0 y1 y2 y3) (impl_WordOf.l0 (k + 1) y0 y1 y2 y3))
 | 0 => ⟨fun _ _ _ r h => by simp [impl_WordOf.j0] at h, fun _ _ _ _ r h => by simp [impl_WordOf.l0] at h⟩
 | k + 1 => by
  obtain ⟨ih0, ih1⟩ := impl_WordOf.mono_l k
  refine ⟨?_, ?_⟩
  ·intro y0 y1 y2
   unfold impl_WordOf.j0
   repeat' first
   | (with_reducible exact ih0 _ _ _)
   | (with_reducible exact ih1 _ _ _ _)
   | (with_reducible exact impl_fits.mono _ _ _)
   | (with_reducible exact LeO.refl _)
   | (with_reducible exact LeO.none _)
   | (with_reducible refine LeO.ite ?_ ?_)
   | (with_reducible refine LeO.bind ?_ (fun _ => ?_))
   | exact ih0 _ _ _
   | exact ih1 _ _ _ _
   | exact impl_fits.mono _ _ _
   | exact LeO.none _
   | refine LeO.ite ?_ ?_
   | refine LeO.bind ?_ (fun _ => ?_)
  ·intro y0 y1 y2 y3
   unfold impl_WordOf.l0
   repeat' first
   | (with_reducible exact ih0 _ _ _)
   | (with_reducible exact ih1 _ _ _ _)
   | (with_reducible exact impl_fits.mono _ _ _)
   | (with_reducible exact LeO.refl _)
   | (with_reducible exact LeO.none _)
   | (with_reducible refine LeO.ite ?_ ?_)
   | (with_reducible refine LeO.bind ?_ (fun _ => ?_))
   | exact ih0 _ _ _
   | exact ih1 _ _ _ _
   | exact impl_fits.mono _ _ _
   | exact LeO.none _
   | refine LeO.ite ?_ ?_
   | refine LeO.bind ?_ (fun _ => ?_)
theorem impl_WordOf.mono : ∀ a0 a1 k, LeO (impl_WordOf.f k a0 a1) (impl_WordOf.f (k + 1) a0 a1) := by
 intro a0 a1 k
 obtain ⟨ih0, ih1⟩ := impl_WordOf.mono_l k
 unfold impl_WordOf.f
 repeat' first
   | (with_reducible exact ih0 _ _ _)
   | (with_reducible exact ih1 _ _ _ _)
   | (with_reducible exact impl_fits.mono _ _ _)
   | (with_reducible exact LeO.refl _)
   | (with_reducible exact LeO.none _)
   | (with_reducible refine LeO.ite ?_ ?_)
   | (with_reducible refine LeO.bind ?_ (fun _ => ?_))
   | exact ih0 _ _ _
   | exact ih1 _ _ _ _
   | exact impl_fits.mono _ _ _
   | exact LeO.none _
   | refine LeO.ite ?_ ?_
   | refine LeO.bind ?_ (fun _ => ?_)
theorem impl_WordOf.calls (k : Nat) (a0 : Int) (a1 : Int) (r1 : List Int) (r2 : Bool) (w : World) (h : impl_WordOf.f k a0 a1 = some (r1, r2)) :
  Calls Try.prog 90 #[.int .i64 a0, .int .i64 a1] w fun e w' => ∃ v0_ : Value, e = .returned (.tuple #[v0_, .bool r2]) ∧ Kd.R (Kd.int .i64) 3 w' w.heap.size (fun _ => True) v0_ r1 ∧ Below w.heap.size w w' := by
 have HB := Ak (Below.refl w.heap.size w)
 have H : (if a1 < 1 then (impl_WordOf.j0 k a0 a1 true) else (if a1 > 30 then (impl_WordOf.j0 k a0 a1 true) else ((impl_fits.f k a0 a1).bind fun t157 => (impl_WordOf.j0 k a0 a1 (!t157))))) = some (r1, r2) := h
 clear h
 have HC3 := Ak H
 clear H
 go_enter Try.func90, Try.ntmps90
 go_upto_region 1 with (fail)
 go_cut [20] (fun v20 wc => ∃ (kq : Nat) (x20_2 : Bool), v20 = .bool x20_2 ∧ Aside0 (impl_WordOf.j0 kq a0 a1 x20_2 = some (r1, r2)) ∧ Aside0 (kq ≤ k) ∧ Aside0 (Below w.heap.size w wc))
 case first =>
  have H := HC3.out
  clear HC3
  by_cases c4 : a1 < 1
  ·rw [if_pos c4] at H
   have c4b0 : decide (a1 < 1) = true := decide_eq_true c4
   clear c4
   (first | rw [c4b0] | (simp only [i64_w, i32_w]; rw [c4b0]) | skip)
   have H' := Ak H
   clear H
   go_wp2
   go_meet
   case rel => exact ⟨_, (true), Qi, H', ⟨by first | omega | exact Nat.le_refl _⟩, ⟨Qb HB.out⟩⟩
  ·rw [if_neg c4] at H
   have c4b0 : decide (a1 < 1) = false := decide_eq_false c4
   clear c4
   (first | rw [c4b0] | (simp only [i64_w, i32_w]; rw [c4b0]) | skip)
   by_cases c5 : a1 > 30
   ·rw [if_pos c5] at H
    have c5b0 : decide (30 < a1) = true := decide_eq_true c5
    clear c5
    have H' := Ak H
    clear H
    go_wp2
    go_meet
    case rel => exact ⟨_, (true), Qi, H', ⟨by first | omega | exact Nat.le_refl _⟩, ⟨Qb HB.out⟩⟩
   ·rw [if_neg c5] at H
    have c5b0 : decide (30 < a1) = false := decide_eq_false c5
    clear c5
    replace H := Option.bind_eq_some_iff.mp H
    obtain ⟨t157, A60, H⟩ := H
    replace H : (impl_WordOf.j0 k a0 a1 (!t157)) = some (r1, r2) := H
    have A6 := Ak A60
    clear A60
    have H' := Ak H
    clear H
    go_wp2_with (first | (go_at_call 89; (with_reducible refine (impl_fits.calls k a0 a1 t157 _ A6.out).mono ?_); rintro e w' ⟨rfl, ⟨nd, rfl⟩⟩))
    go_meet
    case rel => exact ⟨_, (!t157), Qi, H', ⟨by first | omega | exact Nat.le_refl _⟩, ⟨Qb HB.out⟩⟩
 case rest =>
  clear HC3
  (try clear p2); (try clear c4); (try clear c4b0); (try clear c5); (try clear c5b0)
  obtain ⟨kq, x20_2, rfl, HA, HJ2, HB⟩ := hcut
  cases kq with
  | zero => exact absurd HA.out (by simp [impl_WordOf.j0])
  | succ kj2 =>
   have H := HA.out
   clear HA
   simp only [impl_WordOf.j0] at H
   by_cases c7 : x20_2 = true
   ·(try subst c7)
    have H1 : (some (([] : List Int), false)) = some (r1, r2) := by rw [if_pos rfl] at H; exact H
    clear H
    have H := H1
    clear H1
    simp only [Option.some.injEq, Prod.mk.injEq] at H
    obtain ⟨rfl, rfl⟩ := H
    go_wp2
    go_ret2
    exact ⟨_, Qh, by first | exact Kd.R_nil _ _ _ _ _ | exact Kd.N_nil _ _ _ _ _ | exact Kd.V_nil _ _ _ _ _ | exact Kd.Q_nil _ _ _ _ _ | exact Kd.S_nil _ _ _ _ _, Qb HB.out⟩
   ·replace c7 := Bool.eq_false_iff.mpr c7
    (try subst c7)
    have H1 : (impl_WordOf.l0 kj2 a0 (([] : List Int)) a1 0) = some (r1, r2) := by rw [if_neg (show ¬ (false = true) by decide)] at H; exact H
    clear H
    have H := H1
    clear H1
    obtain ⟨y158, hy158⟩ : ∃ y_ : List Int, y_ = (([] : List Int)) := ⟨_, rfl⟩
    replace H : (impl_WordOf.l0 kj2 a0 y158 a1 0) = some (r1, r2) := by first | (rw [hy158]; with_reducible exact H) | (have H2_ := (Option.bind_some _ _).symm.trans H; rw [hy158]; with_reducible exact H2_) | (have H2_ := (Option.bind_some _ _).symm.trans H; with_reducible exact H2_) | with_reducible exact H | (rw [hy158]; exact H) | exact H
    have Ny158 := Ak hy158
    clear hy158
    have H' := Ak H
    clear H
    go_wp2_with (first | ((with_reducible refine gate_dst (N := 21) rfl ?_); refine Kd.R_lit (Kd.int .i64) _ 3 ?hg (N := 21) ?hd (xs := ([] : List Int)) (inner := []) (ok := fun _ => True) (okp := fun _ => True) ?hr ?hp (fun _ hk => hk) trivial (Below.refl _ _) (Nat.le_refl _) (by simp) ?_; (case hd => rfl); (case hg => rfl); (case hr => first | (go_simp; done) | (go_simp; rfl)); (case hp => exact (Reps.none _ _)); intro v159 w8 ho9 hb hg_ hnew_; clear hg_ hnew_; (first | rw [← Ny158.out] at ho9 | (simp only [Int.reduceToNat] at ho9; rw [← Ny158.out] at ho9)); have n0_ := Ak (Kd.R_lower ho9 (below_size (Qb HB.out))); have n1_ := Ak (below_step (Qb HB.out) hb); clear HB; have HO160 := n0_; have HB := n1_; clear n0_ n1_; clear hb ho9))
    go_loopg [0, 6, 23] kj2 (fun kq v0 v6 v23 w' => ∃ (x0_2 : Int) (x6_2 : List Int) (x23_2 : Int), v0 = .int .i64 x0_2 ∧ v23 = .int .i64 x23_2 ∧ Aside0 (impl_WordOf.l0 kq x0_2 x6_2 a1 x23_2 = some (r1, r2)) ∧ Aside0 (kq ≤ kj2) ∧ Aside0 (Kd.R (Kd.int .i64) 3 w' w.heap.size (fun _ => True) v6 x6_2) ∧ Aside0 (Below w.heap.size w w'))
    case atStart => exact ⟨(a0), (y158), (0), Qi, Qi, H', ⟨Nat.le_refl _⟩, ⟨by refine Qf ?_; exact HO160.out⟩, ⟨Qb HB.out⟩⟩
    case round =>
     clear H'
     (try clear p2); (try clear c4); (try clear c4b0); (try clear c5); (try clear c5b0); (try clear c7); (try clear c9); (try clear p2)
     obtain ⟨x0_2, x6_2, x23_2, rfl, rfl, HA, HK2, HO_6, HB⟩ := hrel
     cases gk with
     | zero => exact absurd HA.out (by simp [impl_WordOf.l0])
     | succ k2 =>
      have H := HA.out
      clear HA
      simp only [impl_WordOf.l0] at H
      by_cases c10 : x23_2 < a1
      ·rw [if_pos c10] at H
       have c10b0 : decide (x23_2 < a1) = true := decide_eq_true c10
       clear c10
       replace H := Option.bind_eq_some_iff.mp H
       obtain ⟨⟨t161, t162⟩, A110, H⟩ := H
       replace H : (if x6_2.length < 17592186044416 then (impl_WordOf.l0 k2 (wrap64 (Int.tdiv (wrap64 (x0_2 - t161)) 3)) (x6_2 ++ [t161]) a1 (wrap64 (x23_2 + 1))) else (none)) = some (r1, r2) := H
       have A11 := Ak A110
       clear A110
       by_cases c12 : x6_2.length < 17592186044416
       ·rw [if_pos c12] at H
        have LMc12 := Ak c12
        clear c12
        obtain ⟨y163, hy163⟩ : ∃ y_ : List Int, y_ = (x6_2 ++ [t161]) := ⟨_, rfl⟩
        replace H : (impl_WordOf.l0 k2 (wrap64 (Int.tdiv (wrap64 (x0_2 - t161)) 3)) y163 a1 (wrap64 (x23_2 + 1))) = some (r1, r2) := by first | (rw [hy163]; with_reducible exact H) | (have H2_ := (Option.bind_some _ _).symm.trans H; rw [hy163]; with_reducible exact H2_) | (have H2_ := (Option.bind_some _ _).symm.trans H; with_reducible exact H2_) | with_reducible exact H | (rw [hy163]; exact H) | exact H
        have Ny163 := Ak hy163
        clear hy163
        have H' := Ak H
        clear H
        go_wp2_with (first | ((with_reducible refine gate_callee (f := 100) rfl ?_); refine Qj (some 28) Try.func100 #[.int .i64 (Int.tmod x0_2 3)] ?_; (with_reducible refine (impl_carried.calls (Int.tmod x0_2 3) t161 t162 _ A11.out).mono ?_); rintro e w' ⟨rfl, ⟨nd, rfl⟩⟩; refine ⟨_, rfl, ?_⟩) | ((with_reducible refine gate_builtin (b := .append) (xs := #[.tmp 31, .tmp 33]) rfl ?_); at_builtin; refine Kd.R_append (Kd.int .i64) (w0 := w) w.heap.size rfl (.tmp 31) (.tmp 33) 23 3 (.int .i64 0) 8 rfl Try.underlying23 info3 rfl (by decide) (by omega) u6 x6_2 t161 [.int .i64 t161] (fun _ => True) (fun _ => False) rfl rfl ?aP (fun _ hk => hk.elim) ?aF ?aO ?aB ?aS ?aL ?_; (case aP => exact rfl); (case aB => exact (Qb HB.out)); (case aF => exact (fun _ _ => trivial)); (case aO => exact (Qc HO_6.out)); (case aS => exact (below_size (Qb HB.out))); (case aL => have := LMc12.out; omega); intro v164 w13 ho hb hg hat; rw [← Ny163.out] at ho; have n0_ := Ak (hb); have n1_ := Ak (ho); clear HB HO_6; have HB := n0_; have HO165 := n1_; clear n0_ n1_; clear ho hb hg hat))
        go_roundg k2
        case measure => have := HJ2.out; have := HK2.out; omega
        case rel => exact ⟨(wrap64 (Int.tdiv (wrap64 (x0_2 - t161)) 3)), (y163), (wrap64 (x23_2 + 1)), Qi, Qi, H', ⟨by have := HJ2.out; have := HK2.out; omega⟩, ⟨by refine Qf ?_; exact HO165.out⟩, ⟨Qb HB.out⟩⟩
       ·rw [if_neg c12] at H
        exact absurd H (by simp)
      ·rw [if_neg c10] at H
       have c10b0 : decide (x23_2 < a1) = false := decide_eq_false c10
       clear c10
       simp only [Option.some.injEq, Prod.mk.injEq] at H
       obtain ⟨rfl, rfl⟩ := H
       go_wp2
       go_ret2
       exact ⟨_, Qh, by refine Qf ?_; exact HO_6.out, Qb HB.out⟩

/-! ### impl_value: function 91 -/
def impl_value.l0 : Nat → List Int → Int → Int → Option (Int)
 | 0, _, _, _ => none
 | k + 1, x0, x3, x4 => if x4 ≥ 0 then (if 0 ≤ x4 then (if x4 < (x0.length : Int) then (impl_value.l0 k x0 (wrap64 ((wrap64 (3 * x3)) + (rd x0 x4))) (wrap64 (x4 - 1))) else (none)) else (none)) else (some x3)
def impl_value.f (k : Nat) (l0 : List Int) : Option (Int) := impl_value.l0 k l0 0 (wrap64 ((l0.length : Int) - 1))
theorem impl_value.mono_l : ∀ k, (∀ y0 y1 y2, LeO (impl_value.l0 k y0 y1 y2) (impl_value.l0 (k + 1) y0 y1 y2))
 | 0 => fun _ _ _ r h => by simp [impl_value.l0] at h
 | k + 1 => by
  have ih0 := impl_value.mono_l k
  ·intro y0 y1 y2
   unfold impl_value.l0
   repeat' first
   | (with_reducible exact ih0 _ _ _)
   | (with_reducible exact LeO.refl _)
   | (with_reducible exact LeO.none _)
   | (with_reducible refine LeO.ite ?_ ?_)
   | (with_reducible refine LeO.bind ?_ (fun _ => ?_))
   | exact ih0 _ _ _
   | exact LeO.none _
   | refine LeO.ite ?_ ?_
   | refine LeO.bind ?_ (fun _ => ?_)
theorem impl_value.mono : ∀ a0 k, LeO (impl_value.f k a0) (impl_value.f (k + 1) a0) := by
 intro a0 k
 have ih0 := impl_value.mono_l k
 unfold impl_value.f
 repeat' first
   | (with_reducible exact ih0 _ _ _)
   | (with_reducible exact LeO.refl _)
   | (with_reducible exact LeO.none _)
   | (with_reducible refine LeO.ite ?_ ?_)
   | (with_reducible refine LeO.bind ?_ (fun _ => ?_))
   | exact ih0 _ _ _
   | exact LeO.none _
   | refine LeO.ite ?_ ?_
   | refine LeO.bind ?_ (fun _ => ?_)
theorem impl_value.calls (k : Nat) (A0 : Option Addr) (c0 : Nat) (l0 : List Int) (r : Int) (w : World) (hr0 : Kd.C (Kd.int .i64) w A0 l0.length l0) (hc0 : l0.length ≤ c0) (h : impl_value.f k l0 = some r) :
  Calls Try.prog 91 #[.slice A0 l0.length c0] w fun e w' => e = .returned (.int .i64 r) ∧ Drawn0 w w' := by
 have HR0 := Ak hr0
 have HC0 := Ak hc0
 clear hr0 hc0
 have H : (impl_value.l0 k l0 0 (wrap64 ((l0.length : Int) - 1))) = some r := h
 clear h
 have H' := Ak H
 clear H
 go_enter Try.func91, Try.ntmps91
 go_wp2
 go_loopg [3, 4] k (fun kq v3 v4 w' => ∃ (x3_1 : Int) (x4_1 : Int), v3 = .int .i64 x3_1 ∧ v4 = .int .i64 x4_1 ∧ Aside0 (impl_value.l0 kq l0 x3_1 x4_1 = some r) ∧ Aside0 (kq ≤ k) ∧ Drawn0 w w')
 case atStart => exact ⟨(0), (wrap64 ((l0.length : Int) - 1)), Qi, Qi, H', ⟨Nat.le_refl _⟩, Ql⟩
 case round =>
  clear H'
  obtain ⟨x3_1, x4_1, rfl, rfl, HA, HK1, ⟨m1, rfl⟩⟩ := hrel
  cases gk with
  | zero => exact absurd HA.out (by simp [impl_value.l0])
  | succ k1 =>
   have H := HA.out
   clear HA
   simp only [impl_value.l0] at H
   by_cases c2 : x4_1 ≥ 0
   ·rw [if_pos c2] at H
    have c2b0 : decide (0 ≤ x4_1) = true := decide_eq_true c2
    clear c2
    by_cases c3 : 0 ≤ x4_1
    ·rw [if_pos c3] at H
     have c3b0 : decide (0 ≤ x4_1) = true := decide_eq_true c3
     clear c3
     by_cases c4 : x4_1 < (l0.length : Int)
     ·rw [if_pos c4] at H
      have c4b0 : decide (x4_1 < (l0.length : Int)) = true := decide_eq_true c4
      clear c4
      have H' := Ak H
      clear H
      have p166 : 0 ≤ (x4_1 : Int) := Qg
      have q166 : x4_1 < (l0.length : Int) := Qg
      obtain ⟨ad166, e166, hx166_0⟩ := Kd.at_int HR0.out x4_1 p166 q166
      cases e166
      replace p166 := eq_true p166
      replace q166 := eq_true q166
      go_wp2
      go_roundg k1
      case measure => have := HK1.out; omega
      case rel => exact ⟨(wrap64 ((wrap64 (3 * x3_1)) + (rd l0 x4_1))), (wrap64 (x4_1 - 1)), Qi, Qi, H', ⟨by have := HK1.out; omega⟩, Ql⟩
     ·rw [if_neg c4] at H
      exact absurd H (by simp)
    ·rw [if_neg c3] at H
     exact absurd H (by simp)
   ·rw [if_neg c2] at H
    have c2b0 : decide (0 ≤ x4_1) = false := decide_eq_false c2
    clear c2
    obtain rfl := Option.some.inj H
    go_wp2
    go_ret
    exact ⟨Qi, Ql⟩

/-! ### impl_shifted: function 75 -/
def impl_shifted.f (k : Nat) (a0 : Int) (a1 : Int) : Option (Int) := (impl_WordOf.f k a0 9).bind fun bt167 => ((impl_ShiftWord.f k bt167.1 a1).bind fun bt171 => (if 0 ≤ (mn (bt171.1.length : Int) 9) then (if (mn (bt171.1.length : Int) 9) ≤ (bt171.1.length : Int) then ((impl_value.f k (bt171.1.take ((mn (bt171.1.length : Int) 9) : Int).toNat)).bind fun t179 => (some t179)) else (none)) else (none)))
theorem impl_shifted.mono : ∀ a0 a1 k, LeO (impl_shifted.f k a0 a1) (impl_shifted.f (k + 1) a0 a1) := by
 intro a0 a1 k
 unfold impl_shifted.f
 repeat' first
   | (with_reducible exact impl_ShiftWord.mono _ _ _)
   | (with_reducible exact impl_WordOf.mono _ _ _)
   | (with_reducible exact impl_value.mono _ _)
   | (with_reducible exact LeO.refl _)
   | (with_reducible exact LeO.none _)
   | (with_reducible refine LeO.ite ?_ ?_)
   | (with_reducible refine LeO.bind ?_ (fun _ => ?_))
   | exact impl_ShiftWord.mono _ _ _
   | exact impl_WordOf.mono _ _ _
   | exact impl_value.mono _ _
   | exact LeO.none _
   | refine LeO.ite ?_ ?_
   | refine LeO.bind ?_ (fun _ => ?_)
theorem impl_shifted.calls (k : Nat) (a0 : Int) (a1 : Int) (r : Int) (w : World) (h : impl_shifted.f k a0 a1 = some r) :
  Calls Try.prog 75 #[.int .i64 a0, .int .i64 a1] w fun e w' => e = .returned (.int .i64 r) ∧ Below w.heap.size w w' := by
 have HB := Ak (Below.refl w.heap.size w)
 have H : ((impl_WordOf.f k a0 9).bind fun bt167 => ((impl_ShiftWord.f k bt167.1 a1).bind fun bt171 => (if 0 ≤ (mn (bt171.1.length : Int) 9) then (if (mn (bt171.1.length : Int) 9) ≤ (bt171.1.length : Int) then ((impl_value.f k (bt171.1.take ((mn (bt171.1.length : Int) 9) : Int).toNat)).bind fun t179 => (some t179)) else (none)) else (none)))) = some r := h
 clear h
 replace H := Option.bind_eq_some_iff.mp H
 obtain ⟨⟨t167, t168⟩, A30, H⟩ := H
 replace H : ((impl_ShiftWord.f k t167 a1).bind fun bt171 => (if 0 ≤ (mn (bt171.1.length : Int) 9) then (if (mn (bt171.1.length : Int) 9) ≤ (bt171.1.length : Int) then ((impl_value.f k (bt171.1.take ((mn (bt171.1.length : Int) 9) : Int).toNat)).bind fun t179 => (some t179)) else (none)) else (none))) = some r := H
 have A3 := Ak A30
 clear A30
 replace H := Option.bind_eq_some_iff.mp H
 obtain ⟨⟨t171, t174⟩, A40, H⟩ := H
 replace H : (if 0 ≤ (mn (t171.length : Int) 9) then (if (mn (t171.length : Int) 9) ≤ (t171.length : Int) then ((impl_value.f k (t171.take ((mn (t171.length : Int) 9) : Int).toNat)).bind fun t179 => (some t179)) else (none)) else (none)) = some r := H
 have A4 := Ak A40
 clear A40
 obtain ⟨ji5, hji5⟩ : ∃ j_ : Int, (mn (t171.length : Int) 9) = j_ := ⟨_, rfl⟩
 replace H : (if 0 ≤ (ji5) then (if (ji5) ≤ (t171.length : Int) then ((impl_value.f k (t171.take ((ji5) : Int).toNat)).bind fun t179 => (some t179)) else (none)) else (none)) = some r := by first | (rw [hji5] at H; exact H) | (simp only [hji5] at H ⊢; exact H)
 (try rw [hji5] at A3)
 (try rw [hji5] at A4)
 (try (have hji5h : ji5 ≤ 9 := by (rw [← hji5]; unfold mn; (repeat' split) <;> omega)))
 (try (have hji5g : ji5 ≤ 64 := by omega))
 (try (have hji5l : 0 ≤ ji5 := by (rw [← hji5]; unfold mn; (repeat' split) <;> omega)))
 (try (have hji5m : 0 ≤ ji5 := by omega))
 have hji5_ : (if 9 < (t171.length : Int) then 9 else (t171.length : Int)) = ji5 := hji5
 by_cases c6 : 0 ≤ (ji5)
 ·rw [if_pos c6] at H
  have c6b0 := eq_true c6
  have c6b1 : decide (0 ≤ (ji5)) = true := decide_eq_true c6
  clear c6
  by_cases c7 : (ji5) ≤ (t171.length : Int)
  ·rw [if_pos c7] at H
   have c7b0 := eq_true c7
   have c7b1 : decide ((ji5) ≤ (t171.length : Int)) = true := decide_eq_true c7
   clear c7
   obtain ⟨y175, hy175⟩ : ∃ y_ : List Int, y_ = (t171.take ((ji5) : Int).toNat) := ⟨_, rfl⟩
   replace H : ((impl_value.f k y175).bind fun t179 => (some t179)) = some r := by first | (rw [hy175]; with_reducible exact H) | (have H2_ := (Option.bind_some _ _).symm.trans H; rw [hy175]; with_reducible exact H2_) | (have H2_ := (Option.bind_some _ _).symm.trans H; with_reducible exact H2_) | with_reducible exact H | (rw [hy175]; exact H) | exact H
   have Ny175 := Ak hy175
   clear hy175
   replace H := Option.bind_eq_some_iff.mp H
   obtain ⟨t179, A80, H⟩ := H
   replace H : (some t179) = some r := H
   have A8 := Ak A80
   clear A80
   obtain rfl := Option.some.inj H
   go_enter Try.func75, Try.ntmps75
   go_wp2_with (first | ((with_reducible refine gate_callee (f := 90) rfl ?_); refine Qj (some 9) Try.func90 #[.int .i64 a0, .int .i64 9] ?_; (with_reducible refine (impl_WordOf.calls k a0 9 t167 t168 _ A3.out).mono ?_); rintro e w9 ⟨v169, rfl, ho0, hb⟩; refine ⟨_, rfl, ?_⟩; have n0_ := Ak (Kd.R_lower ho0 (below_size (Qb HB.out))); have n1_ := Ak (below_step (Qb HB.out) hb); clear HB; have HO170 := n0_; have HB := n1_; clear n0_ n1_; (try clear hb); (try clear hb2); (try clear hk); (try clear hi); (try clear ho0); obtain ⟨Ao10, co10, eo10⟩ := Kd.R_slice HO170.out; subst eo10) | ((with_reducible refine gate_callee (f := 30) rfl ?_); refine Qj (some 15) Try.func30 #[.slice Ao10 t167.length co10, .int .i64 a1] ?_; (with_reducible refine (impl_ShiftWord.calls k (fun k_ => some k_ = (.slice Ao10 t167.length co10 : Value).ownBlock) _ _ t167 a1 t171 t174 _ ?side1 A4.out).mono ?_); (case side1 => exact Kd.R_V (Kd.R_tight rfl (HO170.out))); rintro e w11 ⟨v172, rfl, ho0, hb⟩; refine ⟨_, rfl, ?_⟩; have n0_ := Ak (Kd.R_elder' (Qc HO170.out) (Kd.R_base ho0) hb); have n1_ := Ak (Kd.R_lower (Kd.R_new' (Kd.R_mono (ok' := fun k_ => True) ho0 (fun _ hk_ => trivial)) (Kd.R_lt (Qc HO170.out))) (below_size (Qb HB.out))); have n2_ := Ak (below_step (Qb HB.out) hb); clear HO170 HB; have HO170 := n0_; have HO173 := n1_; have HB := n2_; clear n0_ n1_ n2_; (try clear hb); (try clear hb2); (try clear hk); (try clear hi); (try clear ho0); obtain ⟨Ao12, co12, eo12⟩ := Kd.R_slice HO173.out; subst eo12; have q13 : ((ji5) : Int) ≤ ((t171.length : Int) : Int) := Qg; obtain ⟨i013, hi013, _, hsz13, _⟩ := info_parts info3; have hroom13 : t171.length ≤ co12 := (Kd.R_reads' HO173.out).2.1; have hC13 : Kd.C (Kd.int .i64) _ Ao12 t171.length t171 := (Kd.R_reads' HO173.out).2.2; have hcut13 := cut_to (P := Try.prog) 23 3 .i64 Try.underlying23 hi013 Ao12 t171.length co12 (ji5) (Qg) q13 hroom13; have hr13 := Kd.C_take (m := ((ji5) : Int).toNat) hC13 (by omega); have hy13 : y175.length = ((ji5) : Int).toNat := (by rw [Ny175.out, List.length_take]; omega); rw [← Ny175.out] at hr13; rw [← hy13] at hcut13; have HR178 := Ak hr13; have HC178 := Ak (show y175.length ≤ co12 from by omega); clear hr13 hC13 hroom13 hi013 hsz13; have KY13 := Ak hy13; clear hy13; have KL13 := Ak (show ((ji5) : Int).toNat ≤ t171.length from by omega); replace q13 := eq_true q13) | ((with_reducible refine gate_callee (f := 91) rfl ?_); refine Qj (some 23) Try.func91 #[.slice Ao12 y175.length co12] ?_; (with_reducible refine (impl_value.calls k _ _ y175 t179 _ ?side1 ?side2 A8.out).mono ?_); (case side1 => repeat (first | exact (by repeat (first | (with_reducible exact HR178.out) | (with_reducible refine Kd.C_alloc ?_ _) | (with_reducible refine Kd.C_drewN ?_ _) | (with_reducible refine Kd.C_drew ?_) | exact HR178.out)) | (with_reducible refine Kd.C_alloc ?_ _) | (with_reducible refine Kd.C_drewN ?_ _) | (with_reducible refine Kd.C_drew ?_))); (case side2 => exact HC178.out); rintro e w' ⟨rfl, ⟨nd, rfl⟩⟩; refine ⟨_, rfl, ?_⟩))
   go_ret
   exact ⟨by first | rfl | (simp [errW_none, errW_some] <;> rfl) | (simp only [← hji5]; first | rfl | (simp [errW_none, errW_some] <;> rfl)) | (simp [*, errW_none, errW_some] <;> rfl), Qb HB.out⟩
  ·rw [if_neg c7] at H
   exact absurd H (by simp)
 ·rw [if_neg c6] at H
  exact absurd H (by simp)

end Go.Proofs.Ytlmiankjbffboaa.HFnBranched

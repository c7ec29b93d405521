/- Text for FnExprs: written by a program of this session on the pattern of the kit's print. -/
import Derived.Test.YtjfgcipbbcplmaaDoorHFnExprsx0
import Derived.Test.YtjfgcipbbcplmaaDoorHFnExprsx4
import Derived.Test.YtjfgcipbbcplmaaDoorHFnExprsx6
namespace Go.Proofs.YtjfgcipbbcplmaaDoor.HFnExprs
set_option maxHeartbeats 8000000
set_option maxRecDepth 100000
open Go.RowKit Go.Proofs.YtjfgcipbbcplmaaDoorW.PrintWords Go.Proofs.YtjfgcipbbcplmaaDoorW.PrintLast Go.Proofs.YtjfgcipbbcplmaaDoorW.PrintMore
attribute [local go_sem] max2_int min2_int max_two min_two max_three min_three max_four min_four
set_option linter.unusedVariables false
set_option linter.unusedSimpArgs false

/-! ### impl_tritsOf: function 142 -/
def impl_tritsOf.l0 : Nat → ByteArray → List Int → Int → Int → Option (List Int × Bool)
 | 0, _, _, _, _ => none
 | k + 1, x0, x4, x8, x9 => if x9 < x8 then (if 0 ≤ x9 then (if x9 < (x0.size : Int) then (if (bt x0 x9) = 45 then (if x4.length < 17592186044416 then (impl_tritsOf.l0 k x0 (x4 ++ [(-1)]) x8 (wrap64 (x9 + 1))) else (none)) else (if (bt x0 x9) = 48 then (if x4.length < 17592186044416 then (impl_tritsOf.l0 k x0 (x4 ++ [0]) x8 (wrap64 (x9 + 1))) else (none)) else (if (bt x0 x9) = 43 then (if x4.length < 17592186044416 then (impl_tritsOf.l0 k x0 (x4 ++ [1]) x8 (wrap64 (x9 + 1))) else (none)) else (some (([] : List Int), false))))) else (none)) else (none)) else (some (x4, true))
def impl_tritsOf.f (k : Nat) (a0 : ByteArray) : Option (List Int × Bool) := impl_tritsOf.l0 k a0 (([] : List Int)) (a0.size : Int) 0
theorem impl_tritsOf.calls (k : Nat) (a0 : ByteArray) (r1 : List Int) (r2 : Bool) (w : World) (h : impl_tritsOf.f k a0 = some (r1, r2)) :
  Calls Tryd.prog 142 #[.string a0] w fun e w' => ∃ v0_ : Value, e = .returned (.tuple #[v0_, .bool r2]) ∧ Kd.R (Kd.int .i64) 3 w' w.heap.size (fun _ => True) v0_ r1 ∧ Below w.heap.size w w' := by
 have HB := Ak (Below.refl w.heap.size w)
 have H : (impl_tritsOf.l0 k a0 (([] : List Int)) (a0.size : Int) 0) = some (r1, r2) := h
 clear h
 obtain ⟨y233, hy233⟩ : ∃ y_ : List Int, y_ = (([] : List Int)) := ⟨_, rfl⟩
 replace H : (impl_tritsOf.l0 k a0 y233 (a0.size : Int) 0) = some (r1, r2) := by first | (rw [hy233]; with_reducible exact H) | (have H2_ := (Option.bind_some _ _).symm.trans H; rw [hy233]; with_reducible exact H2_) | (have H2_ := (Option.bind_some _ _).symm.trans H; with_reducible exact H2_) | with_reducible exact H | (rw [hy233]; exact H) | exact H
 have Ny233 := Ak hy233
 clear hy233
 have H' := Ak H
 clear H
 go_enter Tryd.func142, Tryd.ntmps142
 go_wp2_with (first | ((with_reducible refine gate_dst (N := 6) rfl ?_); refine Kd.R_lit (Kd.int .i64) _ 3 ?hg (N := 6) ?hd (xs := ([] : List Int)) (inner := []) (ok := fun _ => True) (okp := fun _ => True) ?hr ?hp (fun _ hk => hk) trivial (Below.refl _ _) (Nat.le_refl _) (by simp) ?_; (case hd => rfl); (case hg => rfl); (case hr => exact U_24); (case hp => exact (Reps.none _ _)); intro v234 w2 ho3 hb hg_ hnew_; clear hg_ hnew_; (first | rw [← Ny233.out] at ho3 | (simp only [Int.reduceToNat] at ho3; rw [← Ny233.out] at ho3)); have HO235 := Ak (Kd.R_lower ho3 (below_size (Qb HB.out))); replace HB := Ak (below_step (Qb HB.out) hb); clear hb ho3))
 go_loopg [4, 9] k (fun kq v4 v9 w' => ∃ (x4_1 : List Int) (x9_1 : Int), v9 = .int .i64 x9_1 ∧ Aside0 (impl_tritsOf.l0 kq a0 x4_1 (a0.size : Int) x9_1 = some (r1, r2)) ∧ Aside0 (kq ≤ k) ∧ Aside0 (Kd.R (Kd.int .i64) 3 w' w.heap.size (fun _ => True) v4 x4_1) ∧ Aside0 (Below w.heap.size w w'))
 case atStart => exact ⟨(y233), (0), Qi, H', ⟨Nat.le_refl _⟩, ⟨by refine Qf ?_; exact HO235.out⟩, ⟨Qb HB.out⟩⟩
 case round =>
  clear H'
  (try clear c1)
  obtain ⟨x4_1, x9_1, rfl, HA, HK1, HO_4, HB⟩ := hrel
  cases gk with
  | zero => exact absurd HA.out (by simp [impl_tritsOf.l0])
  | succ k1 =>
   have H := HA.out
   clear HA
   simp only [impl_tritsOf.l0] at H
   by_cases c4 : x9_1 < (a0.size : Int)
   ·rw [if_pos c4] at H
    have c4b0 : decide (x9_1 < (a0.size : Int)) = true := decide_eq_true c4
    clear c4
    by_cases c5 : 0 ≤ x9_1
    ·rw [if_pos c5] at H
     have c5b0 : decide (0 ≤ x9_1) = true := decide_eq_true c5
     clear c5
     by_cases c6 : x9_1 < (a0.size : Int)
     ·rw [if_pos c6] at H
      have c6b0 : decide (x9_1 < (a0.size : Int)) = true := decide_eq_true c6
      clear c6
      by_cases c8 : (bt a0 x9_1) = 45
      ·rw [if_pos c8] at H
       have c8b0 : ((bt a0 x9_1) == 45) = true := beq_iff_eq.mpr c8
       have c8b1 : ((bt a0 x9_1) != 45) = false := bne_eq_false_iff_eq.mpr c8
       clear c8
       by_cases c9 : x4_1.length < 17592186044416
       ·rw [if_pos c9] at H
        have LMc9 := Ak c9
        clear c9
        obtain ⟨y236, hy236⟩ : ∃ y_ : List Int, y_ = (x4_1 ++ [(-1)]) := ⟨_, rfl⟩
        replace H : (impl_tritsOf.l0 k1 a0 y236 (a0.size : Int) (wrap64 (x9_1 + 1))) = some (r1, r2) := by first | (rw [hy236]; with_reducible exact H) | (have H2_ := (Option.bind_some _ _).symm.trans H; rw [hy236]; with_reducible exact H2_) | (have H2_ := (Option.bind_some _ _).symm.trans H; with_reducible exact H2_) | with_reducible exact H | (rw [hy236]; exact H) | exact H
        have Ny236 := Ak hy236
        clear hy236
        have H' := Ak H
        clear H
        have p7 : 0 ≤ (x9_1 : Int) := Qg
        have q7 : x9_1 < (a0.size : Int) := Qg
        have hx7 := bt_at a0 x9_1
        replace p7 := eq_true p7
        replace q7 := eq_true q7
        go_wp2_with (first | ((with_reducible refine gate_builtin (b := .append) (xs := #[.tmp 17, .tmp 18]) rfl ?_); at_builtin; refine Kd.R_append (Kd.int .i64) (w0 := w) w.heap.size rfl (.tmp 17) (.tmp 18) 57 3 (.int .i64 0) 8 rfl Tryd.underlying57 info3 rfl (by decide) (by omega) u4 x4_1 (-1) [.int .i64 (-1)] (fun _ => True) (fun _ => False) rfl rfl ?aP (fun _ hk => hk.elim) ?aF ?aO ?aB ?aS ?aL ?_; (case aP => exact rfl); (case aB => exact (Qb HB.out)); (case aF => exact (fun _ _ => trivial)); (case aO => exact (Qc HO_4.out)); (case aS => exact U_28); (case aL => have := LMc9.out; omega); intro v237 w10 ho hb hg hat; rw [← Ny236.out] at ho; replace HB := Ak (hb); have HO238 := Ak (ho); clear HO_4; clear ho hb hg hat))
        go_roundg k1
        case measure => have := HK1.out; omega
        case rel => exact ⟨(y236), (wrap64 (x9_1 + 1)), Qi, H', ⟨by have := HK1.out; omega⟩, ⟨by refine Qf ?_; exact HO238.out⟩, ⟨Qb HB.out⟩⟩
       ·rw [if_neg c9] at H
        exact absurd H (by simp)
      ·rw [if_neg c8] at H
       have c8b0 : ((bt a0 x9_1) == 45) = false := beq_eq_false_iff_ne.mpr c8
       have c8b1 : ((bt a0 x9_1) != 45) = true := bne_iff_ne.mpr c8
       by_cases c11 : (bt a0 x9_1) = 48
       ·rw [if_pos c11] at H
        have c11b0 : ((bt a0 x9_1) == 48) = true := beq_iff_eq.mpr c11
        have c11b1 : ((bt a0 x9_1) != 48) = false := bne_eq_false_iff_eq.mpr c11
        clear c11
        by_cases c12 : x4_1.length < 17592186044416
        ·rw [if_pos c12] at H
         have LMc12 := Ak c12
         clear c12
         obtain ⟨y239, hy239⟩ : ∃ y_ : List Int, y_ = (x4_1 ++ [0]) := ⟨_, rfl⟩
         replace H : (impl_tritsOf.l0 k1 a0 y239 (a0.size : Int) (wrap64 (x9_1 + 1))) = some (r1, r2) := by first | (rw [hy239]; with_reducible exact H) | (have H2_ := (Option.bind_some _ _).symm.trans H; rw [hy239]; with_reducible exact H2_) | (have H2_ := (Option.bind_some _ _).symm.trans H; with_reducible exact H2_) | with_reducible exact H | (rw [hy239]; exact H) | exact H
         have Ny239 := Ak hy239
         clear hy239
         have H' := Ak H
         clear H
         have p7 : 0 ≤ (x9_1 : Int) := Qg
         have q7 : x9_1 < (a0.size : Int) := Qg
         have hx7 := bt_at a0 x9_1
         replace p7 := eq_true p7
         replace q7 := eq_true q7
         go_wp2_with (first | ((with_reducible refine gate_builtin (b := .append) (xs := #[.tmp 22, .tmp 23]) rfl ?_); at_builtin; refine Kd.R_append (Kd.int .i64) (w0 := w) w.heap.size rfl (.tmp 22) (.tmp 23) 57 3 (.int .i64 0) 8 rfl Tryd.underlying57 info3 rfl (by decide) (by omega) u4 x4_1 0 [.int .i64 0] (fun _ => True) (fun _ => False) rfl rfl ?aP (fun _ hk => hk.elim) ?aF ?aO ?aB ?aS ?aL ?_; (case aP => exact rfl); (case aB => exact (Qb HB.out)); (case aF => exact (fun _ _ => trivial)); (case aO => exact (Qc HO_4.out)); (case aS => exact U_28); (case aL => have := LMc12.out; omega); intro v240 w13 ho hb hg hat; rw [← Ny239.out] at ho; replace HB := Ak (hb); have HO241 := Ak (ho); clear HO_4; clear ho hb hg hat))
         go_roundg k1
         case measure => have := HK1.out; omega
         case rel => exact ⟨(y239), (wrap64 (x9_1 + 1)), Qi, H', ⟨by have := HK1.out; omega⟩, ⟨by refine Qf ?_; exact HO241.out⟩, ⟨Qb HB.out⟩⟩
        ·rw [if_neg c12] at H
         exact absurd H (by simp)
       ·rw [if_neg c11] at H
        have c11b0 : ((bt a0 x9_1) == 48) = false := beq_eq_false_iff_ne.mpr c11
        have c11b1 : ((bt a0 x9_1) != 48) = true := bne_iff_ne.mpr c11
        by_cases c14 : (bt a0 x9_1) = 43
        ·rw [if_pos c14] at H
         have c14b0 : ((bt a0 x9_1) == 43) = true := beq_iff_eq.mpr c14
         have c14b1 : ((bt a0 x9_1) != 43) = false := bne_eq_false_iff_eq.mpr c14
         clear c14
         by_cases c15 : x4_1.length < 17592186044416
         ·rw [if_pos c15] at H
          have LMc15 := Ak c15
          clear c15
          obtain ⟨y242, hy242⟩ : ∃ y_ : List Int, y_ = (x4_1 ++ [1]) := ⟨_, rfl⟩
          replace H : (impl_tritsOf.l0 k1 a0 y242 (a0.size : Int) (wrap64 (x9_1 + 1))) = some (r1, r2) := by first | (rw [hy242]; with_reducible exact H) | (have H2_ := (Option.bind_some _ _).symm.trans H; rw [hy242]; with_reducible exact H2_) | (have H2_ := (Option.bind_some _ _).symm.trans H; with_reducible exact H2_) | with_reducible exact H | (rw [hy242]; exact H) | exact H
          have Ny242 := Ak hy242
          clear hy242
          have H' := Ak H
          clear H
          have p7 : 0 ≤ (x9_1 : Int) := Qg
          have q7 : x9_1 < (a0.size : Int) := Qg
          have hx7 := bt_at a0 x9_1
          replace p7 := eq_true p7
          replace q7 := eq_true q7
          go_wp2_with (first | ((with_reducible refine gate_builtin (b := .append) (xs := #[.tmp 27, .tmp 28]) rfl ?_); at_builtin; refine Kd.R_append (Kd.int .i64) (w0 := w) w.heap.size rfl (.tmp 27) (.tmp 28) 57 3 (.int .i64 0) 8 rfl Tryd.underlying57 info3 rfl (by decide) (by omega) u4 x4_1 1 [.int .i64 1] (fun _ => True) (fun _ => False) rfl rfl ?aP (fun _ hk => hk.elim) ?aF ?aO ?aB ?aS ?aL ?_; (case aP => exact rfl); (case aB => exact (Qb HB.out)); (case aF => exact (fun _ _ => trivial)); (case aO => exact (Qc HO_4.out)); (case aS => exact U_28); (case aL => have := LMc15.out; omega); intro v243 w16 ho hb hg hat; rw [← Ny242.out] at ho; replace HB := Ak (hb); have HO244 := Ak (ho); clear HO_4; clear ho hb hg hat))
          go_roundg k1
          case measure => have := HK1.out; omega
          case rel => exact ⟨(y242), (wrap64 (x9_1 + 1)), Qi, H', ⟨by have := HK1.out; omega⟩, ⟨by refine Qf ?_; exact HO244.out⟩, ⟨Qb HB.out⟩⟩
         ·rw [if_neg c15] at H
          exact absurd H (by simp)
        ·rw [if_neg c14] at H
         have c14b0 : ((bt a0 x9_1) == 43) = false := beq_eq_false_iff_ne.mpr c14
         have c14b1 : ((bt a0 x9_1) != 43) = true := bne_iff_ne.mpr c14
         simp only [Option.some.injEq, Prod.mk.injEq] at H
         obtain ⟨rfl, rfl⟩ := H
         have p7 : 0 ≤ (x9_1 : Int) := Qg
         have q7 : x9_1 < (a0.size : Int) := Qg
         have hx7 := bt_at a0 x9_1
         replace p7 := eq_true p7
         replace q7 := eq_true q7
         go_wp2
         go_ret2
         exact ⟨_, Qh, by first | exact Kd.R_nil _ _ _ _ _ | exact Kd.N_nil _ _ _ _ _ | exact Kd.V_nil _ _ _ _ _ | exact Kd.Q_nil _ _ _ _ _ | exact Kd.S_nil _ _ _ _ _, Qb HB.out⟩
     ·rw [if_neg c6] at H
      exact absurd H (by simp)
    ·rw [if_neg c5] at H
     exact absurd H (by simp)
   ·rw [if_neg c4] at H
    have c4b0 : decide (x9_1 < (a0.size : Int)) = false := decide_eq_false c4
    clear c4
    simp only [Option.some.injEq, Prod.mk.injEq] at H
    obtain ⟨rfl, rfl⟩ := H
    go_wp2
    go_ret2
    exact ⟨_, Qh, by refine Qf ?_; exact HO_4.out, Qb HB.out⟩

/-! ### impl_ParseWord: function 113 -/
def impl_ParseWord.f (k : Nat) (a0 : ByteArray) : Option (List Int × Bool) := if (a0.size : Int) > 30 then (some (([] : List Int), false)) else ((impl_tritsOf.f k a0).bind fun bt245 => (if bt245.2 = true then (if (bt245.1.length : Int) < 1 then (some (([] : List Int), false)) else ((impl_backwards.f k bt245.1).bind fun t249 => (some (t249, true)))) else (some (([] : List Int), false))))
theorem impl_ParseWord.calls (k : Nat) (a0 : ByteArray) (r1 : List Int) (r2 : Bool) (w : World) (h : impl_ParseWord.f k a0 = some (r1, r2)) :
  Calls Tryd.prog 113 #[.string a0] w fun e w' => ∃ v0_ : Value, e = .returned (.tuple #[v0_, .bool r2]) ∧ Kd.R (Kd.int .i64) 3 w' w.heap.size (fun _ => True) v0_ r1 ∧ Below w.heap.size w w' := by
 have HB := Ak (Below.refl w.heap.size w)
 have H : (if (a0.size : Int) > 30 then (some (([] : List Int), false)) else ((impl_tritsOf.f k a0).bind fun bt245 => (if bt245.2 = true then (if (bt245.1.length : Int) < 1 then (some (([] : List Int), false)) else ((impl_backwards.f k bt245.1).bind fun t249 => (some (t249, true)))) else (some (([] : List Int), false))))) = some (r1, r2) := h
 clear h
 by_cases c2 : (a0.size : Int) > 30
 ·rw [if_pos c2] at H
  have c2b0 : decide (30 < (a0.size : Int)) = true := decide_eq_true c2
  have c2b1 : decide (30 < a0.size) = true := decide_eq_true (by omega)
  clear c2
  simp only [Option.some.injEq, Prod.mk.injEq] at H
  obtain ⟨rfl, rfl⟩ := H
  go_enter Tryd.func113, Tryd.ntmps113
  go_wp2
  go_ret2
  exact ⟨_, Qh, by first | exact Kd.R_nil _ _ _ _ _ | exact Kd.N_nil _ _ _ _ _ | exact Kd.V_nil _ _ _ _ _ | exact Kd.Q_nil _ _ _ _ _ | exact Kd.S_nil _ _ _ _ _, Qb HB.out⟩
 ·rw [if_neg c2] at H
  have c2b0 : decide (30 < (a0.size : Int)) = false := decide_eq_false c2
  have c2b1 : decide (30 < a0.size) = false := decide_eq_false (by omega)
  clear c2
  replace H := Option.bind_eq_some_iff.mp H
  obtain ⟨⟨t245, t246⟩, A30, H⟩ := H
  replace H : (if t246 = true then (if (t245.length : Int) < 1 then (some (([] : List Int), false)) else ((impl_backwards.f k t245).bind fun t249 => (some (t249, true)))) else (some (([] : List Int), false))) = some (r1, r2) := H
  have A3 := Ak A30
  clear A30
  by_cases c4 : t246 = true
  ·(try subst c4)
   have H1 : (if (t245.length : Int) < 1 then (some (([] : List Int), false)) else ((impl_backwards.f k t245).bind fun t249 => (some (t249, true)))) = some (r1, r2) := by rw [if_pos rfl] at H; exact H
   clear H
   have H := H1
   clear H1
   by_cases c5 : (t245.length : Int) < 1
   ·rw [if_pos c5] at H
    have c5b0 : decide ((t245.length : Int) < 1) = true := decide_eq_true c5
    have c5b1 : decide (t245.length < 1) = true := decide_eq_true (by omega)
    clear c5
    simp only [Option.some.injEq, Prod.mk.injEq] at H
    obtain ⟨rfl, rfl⟩ := H
    go_enter Tryd.func113, Tryd.ntmps113
    go_wp2_with (first | ((with_reducible refine gate_callee (f := 142) rfl ?_); refine Qj (some 11) Tryd.func142 #[.string a0] ?_; (with_reducible refine (impl_tritsOf.calls k a0 t245 true _ A3.out).mono ?_); rintro e w6 ⟨v247, rfl, ho0, hb⟩; refine ⟨_, rfl, ?_⟩; have HO248 := Ak (Kd.R_lower ho0 (below_size (Qb HB.out))); replace HB := Ak (below_step (Qb HB.out) hb); (try clear hb); (try clear ho0); obtain ⟨Ao7, co7, eo7⟩ := Kd.R_slice HO248.out; subst eo7))
    go_ret2
    exact ⟨_, Qh, by first | exact Kd.R_nil _ _ _ _ _ | exact Kd.N_nil _ _ _ _ _ | exact Kd.V_nil _ _ _ _ _ | exact Kd.Q_nil _ _ _ _ _ | exact Kd.S_nil _ _ _ _ _, Qb HB.out⟩
   ·rw [if_neg c5] at H
    have c5b0 : decide ((t245.length : Int) < 1) = false := decide_eq_false c5
    have c5b1 : decide (t245.length < 1) = false := decide_eq_false (by omega)
    clear c5
    replace H := Option.bind_eq_some_iff.mp H
    obtain ⟨t249, A80, H⟩ := H
    replace H : (some (t249, true)) = some (r1, r2) := H
    have A8 := Ak A80
    clear A80
    simp only [Option.some.injEq, Prod.mk.injEq] at H
    obtain ⟨rfl, rfl⟩ := H
    go_enter Tryd.func113, Tryd.ntmps113
    go_wp2_with (first | ((with_reducible refine gate_callee (f := 142) rfl ?_); refine Qj (some 11) Tryd.func142 #[.string a0] ?_; (with_reducible refine (impl_tritsOf.calls k a0 t245 true _ A3.out).mono ?_); rintro e w9 ⟨v247, rfl, ho0, hb⟩; refine ⟨_, rfl, ?_⟩; have HO248 := Ak (Kd.R_lower ho0 (below_size (Qb HB.out))); replace HB := Ak (below_step (Qb HB.out) hb); (try clear hb); (try clear ho0); obtain ⟨Ao10, co10, eo10⟩ := Kd.R_slice HO248.out; subst eo10) | ((with_reducible refine gate_callee (f := 79) rfl ?_); refine Qj (some 22) Tryd.func79 #[.slice Ao10 t245.length co10] ?_; (with_reducible refine (impl_backwards.calls k _ _ t245 t249 _ ?side1 ?side2 A8.out).mono ?_); (case side1 => repeat (first | exact (Kd.R_reads' HO248.out).2.2 | (with_reducible refine Kd.C_alloc ?_ _) | (with_reducible refine Kd.C_drewN ?_ _) | (with_reducible refine Kd.C_drew ?_))); (case side2 => exact (Kd.R_reads' HO248.out).2.1); rintro e w11 ⟨v250, rfl, ho0, hb⟩; refine ⟨_, rfl, ?_⟩; have HO251 := Ak (Kd.R_lower (Kd.R_new' ho0 (Kd.R_lt (Qc HO248.out))) (below_size (Qb HB.out))); replace HO248 := Ak (Kd.R_elder' (Qc HO248.out) (Kd.R_base ho0) hb); replace HB := Ak (below_step (Qb HB.out) hb); (try clear hb); (try clear ho0)))
    go_ret2
    exact ⟨_, Qh, by refine Qf ?_; exact Kd.R_mono HO251.out (fun _ hk => trivial), Qb HB.out⟩
  ·replace c4 := Bool.eq_false_iff.mpr c4
   (try subst c4)
   have H1 : (some (([] : List Int), false)) = some (r1, r2) := by rw [if_neg (show ¬ (false = true) by decide)] at H; exact H
   clear H
   have H := H1
   clear H1
   simp only [Option.some.injEq, Prod.mk.injEq] at H
   obtain ⟨rfl, rfl⟩ := H
   go_enter Tryd.func113, Tryd.ntmps113
   go_wp2_with (first | ((with_reducible refine gate_callee (f := 142) rfl ?_); refine Qj (some 11) Tryd.func142 #[.string a0] ?_; (with_reducible refine (impl_tritsOf.calls k a0 t245 false _ A3.out).mono ?_); rintro e w12 ⟨v247, rfl, ho0, hb⟩; refine ⟨_, rfl, ?_⟩; have HO248 := Ak (Kd.R_lower ho0 (below_size (Qb HB.out))); replace HB := Ak (below_step (Qb HB.out) hb); (try clear hb); (try clear ho0)))
   go_ret2
   exact ⟨_, Qh, by first | exact Kd.R_nil _ _ _ _ _ | exact Kd.N_nil _ _ _ _ _ | exact Kd.V_nil _ _ _ _ _ | exact Kd.Q_nil _ _ _ _ _ | exact Kd.S_nil _ _ _ _ _, Qb HB.out⟩

/-! ### impl_number: function 114 -/
theorem number_below {w w1 : World} {e : TypeId} (h : w1 = w ∨ ∃ t, w1 = Lib.bytesWorld w e t) : Below w.heap.size w w1 := by
 rcases h with rfl | ⟨t, rfl⟩
 ·exact Below.refl _ _
 ·exact Lib.bytesWorld_below _ _ _
/-- A decimal number, and whether the text is just its numeral. -/
def numP (l : List UInt8) : Int × Bool := match Lib.atoiAll l with
 | .ok v => (v, decide (Lib.itoa v = l))
 | .range => (Lib.atoiSat l, false)
 | _ => (0, false)
def impl_number.f (a0 : ByteArray) : Option (Int × Bool) := if a0.size ≤ 281474976710656 then some (numP a0.data.toList) else none
theorem impl_number.calls (a0 : ByteArray) (r1 : Int) (r2 : Bool) (w : World) (hL : Aside0 (Laid w)) (h : impl_number.f a0 = some (r1, r2)) :
  Calls Tryd.prog 114 #[.string a0] w fun e w' => e = .returned (.tuple #[.int .i64 r1, .bool r2]) ∧ Below w.heap.size w w' := by
 unfold impl_number.f at h
 by_cases hc : a0.size ≤ 281474976710656
 ·rw [if_pos hc] at h
  obtain ⟨tp1, pv1, hsyn⟩ := hL.out.here.syn
  obtain ⟨tp2, pv2, hrng⟩ := hL.out.here.rng
  have H := Option.some.inj h
  clear h
  unfold numP at H
  cases he : Lib.atoiAll a0.data.toList with
  | ok v =>
   rw [he] at H
   injection H with h1 h2
   subst h1
   have hb := Lib.atoiAll_bounds he
   have HE := Ak he
   have H2 := Ak h2
   have HC := Ak hc
   have HBV := Ak hb
   clear he hsyn hrng h2 hc hb
   go_enter Tryd.func114, Tryd.ntmps114
   go_wp2_with (first
    | (go_at_call 143; refine (Tryd.strconv_Atoi_ok a0 (by have := HC.out; omega) v HE.out w).mono ?_; rintro e w1 ⟨rfl, hw⟩; have hb1 := Ak (number_below hw); clear hw)
    | (go_at_call 65; refine (strconv_Itoa.calls v (⟨(Lib.itoa v).toArray⟩ : ByteArray) _ ⟨hL.out.on (Qb hb1.out)⟩ (by unfold strconv_Itoa.f; rw [if_pos HBV.out])).mono ?_; rintro e w2 ⟨rfl, hb2⟩; have hb3 := Ak (below_step (Qb hb1.out) hb2); clear hb2))
   go_ret2
   have e2 : (Lib.itoa v == a0.toList) = r2 := by
    rw [← H2.out, ByteArray.toList_eq, Bool.eq_iff_iff]
    simp
   exact ⟨by rw [e2]; rfl, Qb hb3.out⟩
  | range =>
   rw [he] at H
   injection H with h1 h2
   subst h1 h2
   have HE := Ak he
   have HC := Ak hc
   have HV := Ak hrng
   clear he hsyn hrng hc
   go_enter Tryd.func114, Tryd.ntmps114
   go_wp2_with (first
    | (go_at_call 143; refine (Tryd.strconv_Atoi_range_var a0 HC.out HE.out tp2 pv2 w HV.out).mono ?_; rintro e w1 ⟨N, rfl, _, _, hb1⟩; have HB := Ak hb1; clear hb1))
   go_ret2
   exact ⟨rfl, Qb HB.out⟩
  | _ =>
   rw [he] at H
   injection H with h1 h2
   subst h1 h2
   have HE := Ak (he.trans (rfl : _ = Lib.atoiAll []))
   have HC := Ak hc
   have HV := Ak hsyn
   clear he hsyn hrng hc
   go_enter Tryd.func114, Tryd.ntmps114
   go_wp2_with (first
    | (go_at_call 143; refine (Tryd.strconv_Atoi_syntax_var a0 HC.out HE.out tp1 pv1 w HV.out).mono ?_; rintro e w1 ⟨N, rfl, _, _, hb1⟩; have HB := Ak hb1; clear hb1))
   go_ret2
   exact ⟨rfl, Qb HB.out⟩
 ·rw [if_neg hc] at h
  exact absurd h (by simp)

/-! ### impl_exprReader_while: function 148 -/
def impl_exprReader_while.l0 : Nat → ByteArray → Int → ByteArray → Int → Bool → Option (ByteArray × ByteArray × Int × Bool)
 | 0, _, _, _, _, _ => none
 | k + 1, x1, x5, x1000, x1001, x1002 => if x1001 < (x1000.size : Int) then (if 0 ≤ x1001 then ((strings_IndexByte.f x1 (bt x1000 x1001)).bind fun t252 => (if t252 ≥ 0 then (impl_exprReader_while.l0 k x1 x5 x1000 (wrap64 (x1001 + 1)) x1002) else (if 0 ≤ x5 then (if x5 ≤ x1001 then (if x1001 ≤ (x1000.size : Int) then (some (x1000.extract (x5 : Int).toNat (x1001 : Int).toNat, x1000, x1001, x1002)) else (none)) else (none)) else (none)))) else (none)) else (if 0 ≤ x5 then (if x5 ≤ x1001 then (if x1001 ≤ (x1000.size : Int) then (some (x1000.extract (x5 : Int).toNat (x1001 : Int).toNat, x1000, x1001, x1002)) else (none)) else (none)) else (none))
def impl_exprReader_while.f (k : Nat) (s0_0 : ByteArray) (s0_1 : Int) (s0_2 : Bool) (a1 : ByteArray) : Option (ByteArray × ByteArray × Int × Bool) := impl_exprReader_while.l0 k a1 s0_1 s0_0 s0_1 s0_2
theorem impl_exprReader_while.calls (k : Nat) (g : Nat) (s0_0 : ByteArray) (s0_1 : Int) (s0_2 : Bool) (a1 : ByteArray) (r1 : ByteArray) (r2 : ByteArray) (r3 : Int) (r4 : Bool) (w0 w : World) (hI : IsS68 w0 w g s0_0 s0_1 s0_2) (hB : Below w0.heap.size w0 w) (h : impl_exprReader_while.f k s0_0 s0_1 s0_2 a1 = some (r1, r2, r3, r4)) :
  Calls Tryd.prog 148 #[.pointer (some ⟨g, 0, none⟩), .string a1] w fun e w' => e = .returned (.string r1) ∧ IsS68 w0 w' g r2 r3 r4 ∧ Below w0.heap.size w0 w' ∧ KeepBut w w' g none := by
 have HI0 := Ak hI
 have HK := Ak (KeepBut.refl w g none)
 have HL := Ak hB.size
 clear hI
 have HW0 := Ak hB.size
 have HB := Ak hB
 clear hB
 have H : (impl_exprReader_while.l0 k a1 s0_1 s0_0 s0_1 s0_2) = some (r1, r2, r3, r4) := h
 clear h
 have H' := Ak H
 clear H
 obtain ⟨HGz3, hgz3⟩ := HI0.out
 have hcz3_0 := cellS68_0 HGz3
 have hcz3_1 := cellS68_1 HGz3
 have hcz3_2 := cellS68_2 HGz3
 have hfz3_0 := blk_frozen HGz3 0
 have hfz3_1 := blk_frozen HGz3 1
 have hfz3_2 := blk_frozen HGz3 2
 clear HGz3 hgz3
 go_enter Tryd.func148, Tryd.ntmps148
 go_wp2
 repeat (go_quiet (fail); try go_wp2)
 go_loopg [] k (fun kq w' => ∃ (x1001_1 : Int), Aside0 (impl_exprReader_while.l0 kq a1 s0_1 s0_0 x1001_1 s0_2 = some (r1, r2, r3, r4)) ∧ Aside0 (kq ≤ k) ∧ Aside0 (IsS68 w0 w' g s0_0 x1001_1 s0_2) ∧ Aside0 (KeepBut w w' g none) ∧ Aside0 (Below w0.heap.size w0 w'))
 case atStart => exact ⟨(s0_1), H', ⟨Nat.le_refl _⟩, ⟨by repeat (first | (with_reducible first | exact HI0.out | apply IsS68.alloc | apply IsS68.drewN | apply IsS68.drew | apply IsS68.set_0 | apply IsS68.set_1 | apply IsS68.set_2) | exact HI0.out)⟩, ⟨by repeat (first | (with_reducible first | exact HK.out | apply KeepBut.set_ | apply keep_drewN | apply keep_drew | apply keep_alloc) | exact HK.out)⟩, ⟨by repeat (first | (with_reducible first | exact HB.out | apply below_alloc | apply pw_below_drewN | apply below_drew1 | refine below_set ?_ (IsS68.ge HI0.out)) | exact HB.out)⟩⟩
 case round =>
  clear H'
  (try clear c1)
  obtain ⟨x1001_1, HA, HK1, HI0, HK, HB⟩ := hrel
  cases gk with
  | zero => exact absurd HA.out (by simp [impl_exprReader_while.l0])
  | succ k1 =>
   have H := HA.out
   clear HA
   simp only [impl_exprReader_while.l0] at H
   by_cases c4 : x1001_1 < (s0_0.size : Int)
   ·rw [if_pos c4] at H
    have c4b0 : decide (x1001_1 < (s0_0.size : Int)) = true := decide_eq_true c4
    clear c4
    by_cases c5 : 0 ≤ x1001_1
    ·rw [if_pos c5] at H
     have c5b0 : decide (0 ≤ x1001_1) = true := decide_eq_true c5
     clear c5
     replace H := Option.bind_eq_some_iff.mp H
     obtain ⟨t252, A70, H⟩ := H
     replace H : (if t252 ≥ 0 then (impl_exprReader_while.l0 k1 a1 s0_1 s0_0 (wrap64 (x1001_1 + 1)) s0_2) else (if 0 ≤ s0_1 then (if s0_1 ≤ x1001_1 then (if x1001_1 ≤ (s0_0.size : Int) then (some (s0_0.extract (s0_1 : Int).toNat (x1001_1 : Int).toNat, s0_0, x1001_1, s0_2)) else (none)) else (none)) else (none))) = some (r1, r2, r3, r4) := H
     have A7 := Ak A70
     clear A70
     by_cases c8 : t252 ≥ 0
     ·rw [if_pos c8] at H
      have c8b0 : decide (0 ≤ t252) = true := decide_eq_true c8
      clear c8
      have H' := Ak H
      clear H
      obtain ⟨HGz9, hgz9⟩ := HI0.out
      have hcz9_0 := cellS68_0 HGz9
      have hcz9_1 := cellS68_1 HGz9
      have hcz9_2 := cellS68_2 HGz9
      have hfz9_0 := blk_frozen HGz9 0
      have hfz9_1 := blk_frozen HGz9 1
      have hfz9_2 := blk_frozen HGz9 2
      clear HGz9 hgz9
      have p6 : 0 ≤ (x1001_1 : Int) := Qg
      have q6 : x1001_1 < (s0_0.size : Int) := Qg
      have hx6 := bt_at s0_0 x1001_1
      replace p6 := eq_true p6
      replace q6 := eq_true q6
      go_wp2_with (first | (go_at_call 130; (with_reducible refine (strings_IndexByte.calls a1 (bt s0_0 x1001_1) t252 _ A7.out).mono ?_); rintro e w' ⟨rfl, ⟨nd, rfl⟩⟩; (try first | exact ⟨rfl, _, World.drewN_drewN _ _ _⟩ | exact ⟨rfl, _, Eq.trans (World.drewN_drewN _ _ _) (congrArg (World.drewN _) (Nat.add_assoc _ _ _))⟩)))
      repeat (go_quiet (first | (go_at_call 130; (with_reducible refine (strings_IndexByte.calls a1 (bt s0_0 x1001_1) t252 _ A7.out).mono ?_); rintro e w' ⟨rfl, ⟨nd, rfl⟩⟩; (try first | exact ⟨rfl, _, World.drewN_drewN _ _ _⟩ | exact ⟨rfl, _, Eq.trans (World.drewN_drewN _ _ _) (congrArg (World.drewN _) (Nat.add_assoc _ _ _))⟩))); try go_wp2_with (first | (go_at_call 130; (with_reducible refine (strings_IndexByte.calls a1 (bt s0_0 x1001_1) t252 _ A7.out).mono ?_); rintro e w' ⟨rfl, ⟨nd, rfl⟩⟩; (try first | exact ⟨rfl, _, World.drewN_drewN _ _ _⟩ | exact ⟨rfl, _, Eq.trans (World.drewN_drewN _ _ _) (congrArg (World.drewN _) (Nat.add_assoc _ _ _))⟩))))
      go_roundg k1
      case measure => have := HK1.out; omega
      case rel => exact ⟨(wrap64 (x1001_1 + 1)), H', ⟨by have := HK1.out; omega⟩, ⟨by repeat (first | (with_reducible first | exact HI0.out | apply IsS68.alloc | apply IsS68.drewN | apply IsS68.drew | apply IsS68.set_0 | apply IsS68.set_1 | apply IsS68.set_2) | exact HI0.out)⟩, ⟨by repeat (first | (with_reducible first | exact HK.out | apply KeepBut.set_ | apply keep_drewN | apply keep_drew | apply keep_alloc) | exact HK.out)⟩, ⟨by repeat (first | (with_reducible first | exact HB.out | apply below_alloc | apply pw_below_drewN | apply below_drew1 | refine below_set ?_ (IsS68.ge HI0.out)) | exact HB.out)⟩⟩
     ·rw [if_neg c8] at H
      have c8b0 : decide (0 ≤ t252) = false := decide_eq_false c8
      clear c8
      by_cases c10 : 0 ≤ s0_1
      ·rw [if_pos c10] at H
       have c10b0 := eq_true c10
       have c10b1 : decide (0 ≤ s0_1) = true := decide_eq_true c10
       clear c10
       by_cases c11 : s0_1 ≤ x1001_1
       ·rw [if_pos c11] at H
        have c11b0 := eq_true c11
        have c11b1 : decide (s0_1 ≤ x1001_1) = true := decide_eq_true c11
        clear c11
        by_cases c12 : x1001_1 ≤ (s0_0.size : Int)
        ·rw [if_pos c12] at H
         have c12b0 := eq_true c12
         have c12b1 : decide (x1001_1 ≤ (s0_0.size : Int)) = true := decide_eq_true c12
         clear c12
         simp only [Option.some.injEq, Prod.mk.injEq] at H
         obtain ⟨rfl, rfl, rfl, rfl⟩ := H
         obtain ⟨HGz13, hgz13⟩ := HI0.out
         have hcz13_0 := cellS68_0 HGz13
         have hcz13_1 := cellS68_1 HGz13
         have hcz13_2 := cellS68_2 HGz13
         have hfz13_0 := blk_frozen HGz13 0
         have hfz13_1 := blk_frozen HGz13 1
         have hfz13_2 := blk_frozen HGz13 2
         clear HGz13 hgz13
         have p6 : 0 ≤ (x1001_1 : Int) := Qg
         have q6 : x1001_1 < (s0_0.size : Int) := Qg
         have hx6 := bt_at s0_0 x1001_1
         replace p6 := eq_true p6
         replace q6 := eq_true q6
         go_wp2_with (first | (go_at_call 130; (with_reducible refine (strings_IndexByte.calls a1 (bt s0_0 x1001_1) t252 _ A7.out).mono ?_); rintro e w' ⟨rfl, ⟨nd, rfl⟩⟩; (try first | exact ⟨rfl, _, World.drewN_drewN _ _ _⟩ | exact ⟨rfl, _, Eq.trans (World.drewN_drewN _ _ _) (congrArg (World.drewN _) (Nat.add_assoc _ _ _))⟩)))
         repeat (go_quiet (first | (go_at_call 130; (with_reducible refine (strings_IndexByte.calls a1 (bt s0_0 x1001_1) t252 _ A7.out).mono ?_); rintro e w' ⟨rfl, ⟨nd, rfl⟩⟩; (try first | exact ⟨rfl, _, World.drewN_drewN _ _ _⟩ | exact ⟨rfl, _, Eq.trans (World.drewN_drewN _ _ _) (congrArg (World.drewN _) (Nat.add_assoc _ _ _))⟩))); try go_wp2_with (first | (go_at_call 130; (with_reducible refine (strings_IndexByte.calls a1 (bt s0_0 x1001_1) t252 _ A7.out).mono ?_); rintro e w' ⟨rfl, ⟨nd, rfl⟩⟩; (try first | exact ⟨rfl, _, World.drewN_drewN _ _ _⟩ | exact ⟨rfl, _, Eq.trans (World.drewN_drewN _ _ _) (congrArg (World.drewN _) (Nat.add_assoc _ _ _))⟩))))
         go_ret
         exact ⟨Qh, by repeat (first | (with_reducible first | exact HI0.out | apply IsS68.alloc | apply IsS68.drewN | apply IsS68.drew | apply IsS68.set_0 | apply IsS68.set_1 | apply IsS68.set_2) | exact HI0.out), by repeat (first | (with_reducible first | exact HB.out | apply below_alloc | apply pw_below_drewN | apply below_drew1 | refine below_set ?_ (IsS68.ge HI0.out)) | exact HB.out), by repeat (first | (with_reducible first | exact HK.out | apply KeepBut.set_ | apply keep_drewN | apply keep_drew | apply keep_alloc) | exact HK.out)⟩
        ·rw [if_neg c12] at H
         exact absurd H (by simp)
       ·rw [if_neg c11] at H
        exact absurd H (by simp)
      ·rw [if_neg c10] at H
       exact absurd H (by simp)
    ·rw [if_neg c5] at H
     exact absurd H (by simp)
   ·rw [if_neg c4] at H
    have c4b0 : decide (x1001_1 < (s0_0.size : Int)) = false := decide_eq_false c4
    clear c4
    by_cases c14 : 0 ≤ s0_1
    ·rw [if_pos c14] at H
     have c14b0 := eq_true c14
     have c14b1 : decide (0 ≤ s0_1) = true := decide_eq_true c14
     clear c14
     by_cases c15 : s0_1 ≤ x1001_1
     ·rw [if_pos c15] at H
      have c15b0 := eq_true c15
      have c15b1 : decide (s0_1 ≤ x1001_1) = true := decide_eq_true c15
      clear c15
      by_cases c16 : x1001_1 ≤ (s0_0.size : Int)
      ·rw [if_pos c16] at H
       have c16b0 := eq_true c16
       have c16b1 : decide (x1001_1 ≤ (s0_0.size : Int)) = true := decide_eq_true c16
       clear c16
       simp only [Option.some.injEq, Prod.mk.injEq] at H
       obtain ⟨rfl, rfl, rfl, rfl⟩ := H
       obtain ⟨HGz17, hgz17⟩ := HI0.out
       have hcz17_0 := cellS68_0 HGz17
       have hcz17_1 := cellS68_1 HGz17
       have hcz17_2 := cellS68_2 HGz17
       have hfz17_0 := blk_frozen HGz17 0
       have hfz17_1 := blk_frozen HGz17 1
       have hfz17_2 := blk_frozen HGz17 2
       clear HGz17 hgz17
       go_wp2
       repeat (go_quiet (fail); try go_wp2)
       go_ret
       exact ⟨Qh, by repeat (first | (with_reducible first | exact HI0.out | apply IsS68.alloc | apply IsS68.drewN | apply IsS68.drew | apply IsS68.set_0 | apply IsS68.set_1 | apply IsS68.set_2) | exact HI0.out), by repeat (first | (with_reducible first | exact HB.out | apply below_alloc | apply pw_below_drewN | apply below_drew1 | refine below_set ?_ (IsS68.ge HI0.out)) | exact HB.out), by repeat (first | (with_reducible first | exact HK.out | apply KeepBut.set_ | apply keep_drewN | apply keep_drew | apply keep_alloc) | exact HK.out)⟩
      ·rw [if_neg c16] at H
       exact absurd H (by simp)
     ·rw [if_neg c15] at H
      exact absurd H (by simp)
    ·rw [if_neg c14] at H
     exact absurd H (by simp)

end Go.Proofs.YtjfgcipbbcplmaaDoor.HFnExprs

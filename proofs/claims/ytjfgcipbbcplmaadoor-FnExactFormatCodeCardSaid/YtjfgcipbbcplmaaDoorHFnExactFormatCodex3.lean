/- Text for FnExactFormatCode: written by a program of this session on the pattern of the kit's print. -/
import Derived.Test.YtjfgcipbbcplmaaDoorHFnExactFormatCodex0
import Derived.Test.YtjfgcipbbcplmaaDoorHFnExactFormatCodex1
import Derived.Test.YtjfgcipbbcplmaaDoorHFnExactFormatCodex2
namespace Go.Proofs.YtjfgcipbbcplmaaDoor.HFnExactFormatCode
set_option maxHeartbeats 8000000
set_option maxRecDepth 100000
open Go.RowKit Go.Proofs.YtjfgcipbbcplmaaDoorW.PrintWords Go.Proofs.YtjfgcipbbcplmaaDoorW.PrintLast Go.Proofs.YtjfgcipbbcplmaaDoorW.PrintMore
attribute [local go_sem] max2_int min2_int max_two min_two max_three min_three max_four min_four
set_option linter.unusedVariables false
set_option linter.unusedSimpArgs false

/-! ### spec_FormatCode: function 23 -/
mutual
def spec_FormatCode.l0 : Nat → ByteArray → List (S54) → Int → Int → Option (ByteArray)
 | 0, _, _, _, _ => none
 | k + 1, x3, x9, x10, x11 => if x11 < x10 then (if 0 ≤ x11 then (if x11 < (x9.length : Int) then (if x11 > 0 then (if x3.size + 1 ≤ 9223372036854775807 then (spec_FormatCode.j1 k (x3 ++ (⟨#[59]⟩ : ByteArray)) x9 x10 x11 ((rd_T54 x9 x11).f0) ((rd_T54 x9 x11).f1) ((rd_T54 x9 x11).f2) ((rd_T54 x9 x11).f3)) else (none)) else (spec_FormatCode.j1 k x3 x9 x10 x11 ((rd_T54 x9 x11).f0) ((rd_T54 x9 x11).f1) ((rd_T54 x9 x11).f2) ((rd_T54 x9 x11).f3))) else (none)) else (none)) else (some x3)
def spec_FormatCode.j1 : Nat → ByteArray → List (S54) → Int → Int → Int → Int → Int → Int → Option (ByteArray)
 | 0, _, _, _, _, _, _, _, _ => none
 | k + 1, x3, x9, x10, x11, x156000, x156001, x156002, x156003 => (spec_OpName.f x156000).bind fun t156 => (if x3.size + t156.size ≤ 9223372036854775807 then (if x156000 = 1 then (if (x3 ++ t156).size + 1 ≤ 9223372036854775807 then ((spec_l2Word.f k x156001 9).bind fun t157 => ((spec_FormatWord.f k t157).bind fun t160 => (if ((x3 ++ t156) ++ (⟨#[32]⟩ : ByteArray)).size + t160.size ≤ 9223372036854775807 then (spec_FormatCode.l0 k (((x3 ++ t156) ++ (⟨#[32]⟩ : ByteArray)) ++ t160) x9 x10 (wrap64 (x11 + 1))) else (none)))) else (none)) else (if x156000 = 10 then (spec_FormatCode.j2 k (x3 ++ t156) x9 x10 x11 x156000 (x156000 == 10) x156000 x156001 x156002 x156003) else (spec_FormatCode.j2 k (x3 ++ t156) x9 x10 x11 x156000 (x156000 == 13) x156000 x156001 x156002 x156003))) else (none))
def spec_FormatCode.j2 : Nat → ByteArray → List (S54) → Int → Int → Int → Bool → Int → Int → Int → Int → Option (ByteArray)
 | 0, _, _, _, _, _, _, _, _, _, _ => none
 | k + 1, x3, x9, x10, x11, x26, x36, x156000, x156001, x156002, x156003 => if x36 = true then (if x3.size + 1 ≤ 9223372036854775807 then ((spec_l5Number.f k x156001).bind fun t161 => (if (x3 ++ (⟨#[32]⟩ : ByteArray)).size + t161.size ≤ 9223372036854775807 then (spec_FormatCode.l0 k ((x3 ++ (⟨#[32]⟩ : ByteArray)) ++ t161) x9 x10 (wrap64 (x11 + 1))) else (none))) else (none)) else (if x26 = 14 then (if x3.size + 1 ≤ 9223372036854775807 then ((spec_l5Number.f k x156001).bind fun t162 => (if (x3 ++ (⟨#[32]⟩ : ByteArray)).size + t162.size ≤ 9223372036854775807 then (if ((x3 ++ (⟨#[32]⟩ : ByteArray)) ++ t162).size + 1 ≤ 9223372036854775807 then ((spec_l5Number.f k x156002).bind fun t163 => (if (((x3 ++ (⟨#[32]⟩ : ByteArray)) ++ t162) ++ (⟨#[32]⟩ : ByteArray)).size + t163.size ≤ 9223372036854775807 then (if ((((x3 ++ (⟨#[32]⟩ : ByteArray)) ++ t162) ++ (⟨#[32]⟩ : ByteArray)) ++ t163).size + 1 ≤ 9223372036854775807 then ((spec_l5Number.f k x156003).bind fun t164 => (if (((((x3 ++ (⟨#[32]⟩ : ByteArray)) ++ t162) ++ (⟨#[32]⟩ : ByteArray)) ++ t163) ++ (⟨#[32]⟩ : ByteArray)).size + t164.size ≤ 9223372036854775807 then (spec_FormatCode.l0 k ((((((x3 ++ (⟨#[32]⟩ : ByteArray)) ++ t162) ++ (⟨#[32]⟩ : ByteArray)) ++ t163) ++ (⟨#[32]⟩ : ByteArray)) ++ t164) x9 x10 (wrap64 (x11 + 1))) else (none))) else (none)) else (none))) else (none)) else (none))) else (none)) else (spec_FormatCode.l0 k x3 x9 x10 (wrap64 (x11 + 1))))
end
def spec_FormatCode.f (k : Nat) (l0 : List (S54)) : Option (ByteArray) := (spec_IsCode.f k l0).bind fun t153 => (if t153 = true then (spec_FormatCode.l0 k (⟨#[]⟩ : ByteArray) l0 (l0.length : Int) 0) else (some (⟨#[]⟩ : ByteArray)))
theorem spec_FormatCode.mono_l : ∀ k, (∀ y0 y1 y2 y3, LeO (spec_FormatCode.l0 k y0 y1 y2 y3) (spec_FormatCode.l0 (k + 1) y0 y1 y2 y3)) ∧ (∀ y0 y1 y2 y3 y4 y5 y6 y7, LeO (spec_FormatCode.j1 k y0 y1 y2 y3 y4 y5 y6 y7) (spec_FormatCode.j1 (k + 1) y0 y1 y2 y3 y4 y5 y6 y7)) ∧ (∀ y0 y1 y2 y3 y4 y5 y6 y7 y8 y9, LeO (spec_FormatCode.j2 k y0 y1 y2 y3 y4 y5 y6 y7 y8 y9) (spec_FormatCode.j2 (k + 1) y0 y1 y2 y3 y4 y5 y6 y7 y8 y9))
 | 0 => ⟨fun _ _ _ _ r h => by simp [spec_FormatCode.l0] at h, fun _ _ _ _ _ _ _ _ r h => by simp [spec_FormatCode.j1] at h, fun _ _ _ _ _ _ _ _ _ _ r h => by simp [spec_FormatCode.j2] at h⟩
 | k + 1 => by
  obtain ⟨ih0, ih1, ih2⟩ := spec_FormatCode.mono_l k
  refine ⟨?_, ?_, ?_⟩
  ·intro y0 y1 y2 y3
   unfold spec_FormatCode.l0
   repeat' first
   | (with_reducible exact ih0 _ _ _ _)
   | (with_reducible exact ih1 _ _ _ _ _ _ _ _)
   | (with_reducible exact ih2 _ _ _ _ _ _ _ _ _ _)
   | (with_reducible exact spec_FormatWord.mono _ _)
   | (with_reducible exact spec_IsCode.mono _ _)
   | (with_reducible exact spec_l2Word.mono _ _ _)
   | (with_reducible exact spec_l5Number.mono _ _)
   | (with_reducible exact LeO.refl _)
   | (with_reducible exact LeO.none _)
   | (with_reducible refine LeO.ite ?_ ?_)
   | (with_reducible refine LeO.bind ?_ (fun _ => ?_))
   | exact ih0 _ _ _ _
   | exact ih1 _ _ _ _ _ _ _ _
   | exact ih2 _ _ _ _ _ _ _ _ _ _
   | exact spec_FormatWord.mono _ _
   | exact spec_IsCode.mono _ _
   | exact spec_l2Word.mono _ _ _
   | exact spec_l5Number.mono _ _
   | exact LeO.none _
   | refine LeO.ite ?_ ?_
   | refine LeO.bind ?_ (fun _ => ?_)
  ·intro y0 y1 y2 y3 y4 y5 y6 y7
   unfold spec_FormatCode.j1
   repeat' first
   | (with_reducible exact ih0 _ _ _ _)
   | (with_reducible exact ih1 _ _ _ _ _ _ _ _)
   | (with_reducible exact ih2 _ _ _ _ _ _ _ _ _ _)
   | (with_reducible exact spec_FormatWord.mono _ _)
   | (with_reducible exact spec_IsCode.mono _ _)
   | (with_reducible exact spec_l2Word.mono _ _ _)
   | (with_reducible exact spec_l5Number.mono _ _)
   | (with_reducible exact LeO.refl _)
   | (with_reducible exact LeO.none _)
   | (with_reducible refine LeO.ite ?_ ?_)
   | (with_reducible refine LeO.bind ?_ (fun _ => ?_))
   | exact ih0 _ _ _ _
   | exact ih1 _ _ _ _ _ _ _ _
   | exact ih2 _ _ _ _ _ _ _ _ _ _
   | exact spec_FormatWord.mono _ _
   | exact spec_IsCode.mono _ _
   | exact spec_l2Word.mono _ _ _
   | exact spec_l5Number.mono _ _
   | exact LeO.none _
   | refine LeO.ite ?_ ?_
   | refine LeO.bind ?_ (fun _ => ?_)
  ·intro y0 y1 y2 y3 y4 y5 y6 y7 y8 y9
   unfold spec_FormatCode.j2
   repeat' first
   | (with_reducible exact ih0 _ _ _ _)
   | (with_reducible exact ih1 _ _ _ _ _ _ _ _)
   | (with_reducible exact ih2 _ _ _ _ _ _ _ _ _ _)
   | (with_reducible exact spec_FormatWord.mono _ _)
   | (with_reducible exact spec_IsCode.mono _ _)
   | (with_reducible exact spec_l2Word.mono _ _ _)
   | (with_reducible exact spec_l5Number.mono _ _)
   | (with_reducible exact LeO.refl _)
   | (with_reducible exact LeO.none _)
   | (with_reducible refine LeO.ite ?_ ?_)
   | (with_reducible refine LeO.bind ?_ (fun _ => ?_))
   | exact ih0 _ _ _ _
   | exact ih1 _ _ _ _ _ _ _ _
   | exact ih2 _ _ _ _ _ _ _ _ _ _
   | exact spec_FormatWord.mono _ _
   | exact spec_IsCode.mono _ _
   | exact spec_l2Word.mono _ _ _
   | exact spec_l5Number.mono _ _
   | exact LeO.none _
   | refine LeO.ite ?_ ?_
   | refine LeO.bind ?_ (fun _ => ?_)
theorem spec_FormatCode.mono : ∀ a0 k, LeO (spec_FormatCode.f k a0) (spec_FormatCode.f (k + 1) a0) := by
 intro a0 k
 obtain ⟨ih0, ih1, ih2⟩ := spec_FormatCode.mono_l k
 unfold spec_FormatCode.f
 repeat' first
   | (with_reducible exact ih0 _ _ _ _)
   | (with_reducible exact ih1 _ _ _ _ _ _ _ _)
   | (with_reducible exact ih2 _ _ _ _ _ _ _ _ _ _)
   | (with_reducible exact spec_FormatWord.mono _ _)
   | (with_reducible exact spec_IsCode.mono _ _)
   | (with_reducible exact spec_l2Word.mono _ _ _)
   | (with_reducible exact spec_l5Number.mono _ _)
   | (with_reducible exact LeO.refl _)
   | (with_reducible exact LeO.none _)
   | (with_reducible refine LeO.ite ?_ ?_)
   | (with_reducible refine LeO.bind ?_ (fun _ => ?_))
   | exact ih0 _ _ _ _
   | exact ih1 _ _ _ _ _ _ _ _
   | exact ih2 _ _ _ _ _ _ _ _ _ _
   | exact spec_FormatWord.mono _ _
   | exact spec_IsCode.mono _ _
   | exact spec_l2Word.mono _ _ _
   | exact spec_l5Number.mono _ _
   | exact LeO.none _
   | refine LeO.ite ?_ ?_
   | refine LeO.bind ?_ (fun _ => ?_)
def spec_FormatCode.T17 : Bool × List (List Nat × List Nat) := (true, [([], []), ([0], [0]), ([], []), ([2], [2]), ([3], [3]), ([1, 4], [1, 4]), ([5], [5]), ([], []), ([7], [7]), ([8, 4], [8]), ([6, 9], [6, 9]), ([10], [10]), ([], []), ([12], [12]), ([13, 9], [13]), ([11, 14], [11, 14]), ([15, 14, 0, 1, 2, 3, 4, 5, 6, 7, 8, 9, 10, 11, 12, 13, 14, 15], [0, 15])])
def spec_FormatCode.B17 : List Nat := [0, 1, 0, 4, 12, 31, 63, 0, 128, 412, 1023, 2047, 0, 4096, 13212, 32767, 65535]
theorem spec_FormatCode.tab17 : rtab .any (opsOf Tryd.f23 17) = spec_FormatCode.T17 := by kernel_rfl
theorem spec_FormatCode.bits17 : waitsOk spec_FormatCode.T17.2 spec_FormatCode.B17 = true := by kernel_rfl
theorem spec_FormatCode.calls (k : Nat) (A0 : Option Addr) (c0 : Nat) (l0 : List (S54)) (r : ByteArray) (w : World) (hr0 : Kd.C k54 w A0 l0.length l0) (hc0 : l0.length ≤ c0) (h : spec_FormatCode.f k l0 = some r) :
  Calls Tryd.prog 23 #[.slice A0 l0.length c0] w fun e w' => e = .returned (.string r) ∧ Below w.heap.size w w' := by
 have hu54 := Tryd.underlying54
 have HR0 := Ak hr0
 have HC0 := Ak hc0
 clear hr0 hc0
 have HB := Ak (Below.refl w.heap.size w)
 have H : ((spec_IsCode.f k l0).bind fun t153 => (if t153 = true then (spec_FormatCode.l0 k (⟨#[]⟩ : ByteArray) l0 (l0.length : Int) 0) else (some (⟨#[]⟩ : ByteArray)))) = some r := h
 clear h
 replace H := Option.bind_eq_some_iff.mp H
 obtain ⟨t153, A20, H⟩ := H
 replace H : (if t153 = true then (spec_FormatCode.l0 k (⟨#[]⟩ : ByteArray) l0 (l0.length : Int) 0) else (some (⟨#[]⟩ : ByteArray))) = some r := H
 have A2 := Ak A20
 clear A20
 by_cases c3 : t153 = true
 ·(try subst c3)
  have H1 : (spec_FormatCode.l0 k (⟨#[]⟩ : ByteArray) l0 (l0.length : Int) 0) = some r := by rw [if_pos rfl] at H; exact H
  clear H
  have H := H1
  clear H1
  have H' := Ak H
  clear H
  go_enter Tryd.func23, Tryd.ntmps23
  go_wp2_with (first | ((with_reducible refine gate_callee (f := 57) rfl ?_); refine Qj (some 7) Tryd.func57 #[.slice A0 l0.length c0] ?_; (with_reducible refine (spec_IsCode.calls k _ _ l0 true _ ?side1 ?side2 A2.out).mono ?_); (case side1 => repeat (first | exact HR0.out | (with_reducible refine Kd.C_alloc ?_ _) | (with_reducible refine Kd.C_drewN ?_ _) | (with_reducible refine Kd.C_drew ?_))); (case side2 => exact HC0.out); rintro e w4 ⟨rfl, hb⟩; refine ⟨_, rfl, ?_⟩; have n0_ := Ak (below_step (Qb HB.out) hb); clear HB; have HB := n0_; clear n0_; (try clear hb); (try clear hb2); (try clear hk); (try clear hi)))
  go_loopg [3, 11] k (fun kq v3 v11 w' => ∃ (x3_1 : ByteArray) (x11_1 : Int), v3 = .string x3_1 ∧ v11 = .int .i64 x11_1 ∧ Aside0 (spec_FormatCode.l0 kq x3_1 l0 (l0.length : Int) x11_1 = some r) ∧ Aside0 (kq ≤ k) ∧ Aside0 (Below w.heap.size w w'))
  case atStart => exact ⟨((⟨#[]⟩ : ByteArray)), (0), Qi, Qi, H', ⟨Nat.le_refl _⟩, ⟨Qb HB.out⟩⟩
  case round =>
   clear H'
   (try clear c2); (try clear p2); (try clear c3)
   obtain ⟨x3_1, x11_1, rfl, rfl, HA, HK1, HB⟩ := hrel
   cases gk with
   | zero => exact absurd HA.out (by simp [spec_FormatCode.l0])
   | succ k1 =>
    have H := HA.out
    clear HA
    simp only [spec_FormatCode.l0] at H
    by_cases c5 : x11_1 < (l0.length : Int)
    ·rw [if_pos c5] at H
     have c5b0 : decide (x11_1 < (l0.length : Int)) = true := decide_eq_true c5
     clear c5
     by_cases c6 : 0 ≤ x11_1
     ·rw [if_pos c6] at H
      have c6b0 : decide (0 ≤ x11_1) = true := decide_eq_true c6
      clear c6
      by_cases c7 : x11_1 < (l0.length : Int)
      ·rw [if_pos c7] at H
       have c7b0 : decide (x11_1 < (l0.length : Int)) = true := decide_eq_true c7
       clear c7
       have HC8 := Ak H
       clear H
       have p154 : 0 ≤ (x11_1 : Int) := Qg
       have q154 : x11_1 < (l0.length : Int) := Qg
       obtain ⟨ad154, e154, hx154_0, hx154_1, hx154_2, hx154_3⟩ := at_T54 HR0.out x11_1 p154 q154
       cases e154
       (try replace hx154_0 := (HB.out.cell (World.block_lt_of_cell? w _ hx154_0)).trans hx154_0)
       (try replace hx154_1 := (HB.out.cell (World.block_lt_of_cell? w _ hx154_1)).trans hx154_1)
       (try replace hx154_2 := (HB.out.cell (World.block_lt_of_cell? w _ hx154_2)).trans hx154_2)
       (try replace hx154_3 := (HB.out.cell (World.block_lt_of_cell? w _ hx154_3)).trans hx154_3)
       replace p154 := eq_true p154
       replace q154 := eq_true q154
       go_upto_if 17 with (first | ((with_reducible refine gate_dst (N := 5) rfl ?_); refine Qk 5 #[.int .i64 0, .int .i64 0, .int .i64 0, .int .i64 0] 54 ?_; intro gb155 hg w9 hbox hb; have n0_ := Ak (below_step (Qb HB.out) hb); have n1_ := Ak (hbox); have n2_ := Ak ((Qp hg HB.out : w.heap.size ≤ gb155)); have n3_ := Ak ((Qp hg HB.out : w.heap.size ≤ gb155)); clear HB; have HB := n0_; have BK155 := n1_; have GW155 := n2_; have GE155 := n3_; clear n0_ n1_ n2_ n3_; clear hb hbox hg; obtain ⟨hcz10_0, hcz10_1, hcz10_2, hcz10_3⟩ := Qu4 BK155.out; have hfz10_0 := blk_frozen BK155.out 0; have hfz10_1 := blk_frozen BK155.out 1; have hfz10_2 := blk_frozen BK155.out 2; have hfz10_3 := blk_frozen BK155.out 3))
       (try simp only [Act.put, List.setIfInBounds_toArray, List.set_cons_zero, List.set_cons_succ])
       go_cut [3] (fun v3 wc => ∃ (kq : Nat) (x3_7 : ByteArray), v3 = .string x3_7 ∧ Aside0 (spec_FormatCode.j1 kq x3_7 l0 (l0.length : Int) x11_1 ((rd_T54 l0 x11_1).f0) ((rd_T54 l0 x11_1).f1) ((rd_T54 l0 x11_1).f2) ((rd_T54 l0 x11_1).f3) = some r) ∧ Aside0 (kq ≤ k1) ∧ Aside0 (wc.heap[gb155]? = some (.cells #[.int .i64 ((rd_T54 l0 x11_1).f0), .int .i64 ((rd_T54 l0 x11_1).f1), .int .i64 ((rd_T54 l0 x11_1).f2), .int .i64 ((rd_T54 l0 x11_1).f3)] 54 (0, 0))) ∧ Aside0 (Below w.heap.size w wc))
       case first =>
        have H := HC8.out
        clear HC8
        by_cases c11 : x11_1 > 0
        ·rw [if_pos c11] at H
         have c11b0 : decide (0 < x11_1) = true := decide_eq_true c11
         clear c11
         (first | rw [c11b0] | (simp only [i64_w, i32_w]; rw [c11b0]) | skip)
         by_cases c12 : x3_1.size + 1 ≤ 9223372036854775807
         ·rw [if_pos c12] at H
          have c12b0 := eq_true c12
          have c12b1 : decide (x3_1.size + 1 ≤ 9223372036854775807) = true := decide_eq_true c12
          try have c12b2 : (9223372036854775807 < x3_1.size + 1) = False := eq_false (Nat.not_lt.2 c12)
          have H' := Ak H
          clear H
          go_wp2
          go_meet
          case rel => exact ⟨_, (x3_1 ++ (⟨#[59]⟩ : ByteArray)), Qi, H', ⟨by have := HK1.out; first | omega | exact Nat.le_refl _⟩, ⟨by refine Qe ?_; refine blk_put (cs := #[.int .i64 ((rd_T54 l0 x11_1).f0), .int .i64 ((rd_T54 l0 x11_1).f1), .int .i64 ((rd_T54 l0 x11_1).f2), .int .i64 0]) ?_ 3 _ rfl; refine Qe ?_; refine blk_put (cs := #[.int .i64 ((rd_T54 l0 x11_1).f0), .int .i64 ((rd_T54 l0 x11_1).f1), .int .i64 0, .int .i64 0]) ?_ 2 _ rfl; refine Qe ?_; refine blk_put (cs := #[.int .i64 ((rd_T54 l0 x11_1).f0), .int .i64 0, .int .i64 0, .int .i64 0]) ?_ 1 _ rfl; refine Qe ?_; refine blk_put (cs := #[.int .i64 0, .int .i64 0, .int .i64 0, .int .i64 0]) ?_ 0 _ rfl; refine Qe ?_; exact BK155.out⟩, ⟨Qb HB.out⟩⟩
         ·rw [if_neg c12] at H
          exact absurd H (by simp)
        ·rw [if_neg c11] at H
         have c11b0 : decide (0 < x11_1) = false := decide_eq_false c11
         clear c11
         (first | rw [c11b0] | (simp only [i64_w, i32_w]; rw [c11b0]) | skip)
         have H' := Ak H
         clear H
         go_wp2
         go_meet
         case rel => exact ⟨_, (x3_1), Qi, H', ⟨by have := HK1.out; first | omega | exact Nat.le_refl _⟩, ⟨by refine Qe ?_; refine blk_put (cs := #[.int .i64 ((rd_T54 l0 x11_1).f0), .int .i64 ((rd_T54 l0 x11_1).f1), .int .i64 ((rd_T54 l0 x11_1).f2), .int .i64 0]) ?_ 3 _ rfl; refine Qe ?_; refine blk_put (cs := #[.int .i64 ((rd_T54 l0 x11_1).f0), .int .i64 ((rd_T54 l0 x11_1).f1), .int .i64 0, .int .i64 0]) ?_ 2 _ rfl; refine Qe ?_; refine blk_put (cs := #[.int .i64 ((rd_T54 l0 x11_1).f0), .int .i64 0, .int .i64 0, .int .i64 0]) ?_ 1 _ rfl; refine Qe ?_; refine blk_put (cs := #[.int .i64 0, .int .i64 0, .int .i64 0, .int .i64 0]) ?_ 0 _ rfl; refine Qe ?_; exact BK155.out⟩, ⟨Qb HB.out⟩⟩
       case rest =>
        clear HC8
        (try clear c1); (try clear p1); (try clear q1); (try clear hx1); (try clear c2); (try clear p2); (try clear c3); (try clear c5); (try clear c5b0); (try clear c6); (try clear c6b0); (try clear c7); (try clear c7b0); (try clear c11); (try clear c11b0); (try clear c12); (try clear c12b0); (try clear c12b1); (try clear c12b2); (try clear hcz10_0); (try clear hcz10_1); (try clear hcz10_2); (try clear hcz10_3); (try clear hfz10_0); (try clear hfz10_1); (try clear hfz10_2); (try clear hfz10_3); (try clear hx154_0); (try clear hx154_1); (try clear hx154_2); (try clear hx154_3); (try clear p154); (try clear p2); (try clear q154)
        obtain ⟨kq, x3_7, rfl, HA, HJ7, BK155, HB⟩ := hcut
        cases kq with
        | zero => exact absurd HA.out (by simp [spec_FormatCode.j1])
        | succ kj7 =>
         have H := HA.out
         clear HA
         simp only [spec_FormatCode.j1] at H
         replace H := Option.bind_eq_some_iff.mp H
         obtain ⟨t156, A130, H⟩ := H
         replace H : (if x3_7.size + t156.size ≤ 9223372036854775807 then (if ((rd_T54 l0 x11_1).f0) = 1 then (if (x3_7 ++ t156).size + 1 ≤ 9223372036854775807 then ((spec_l2Word.f kj7 ((rd_T54 l0 x11_1).f1) 9).bind fun t157 => ((spec_FormatWord.f kj7 t157).bind fun t160 => (if ((x3_7 ++ t156) ++ (⟨#[32]⟩ : ByteArray)).size + t160.size ≤ 9223372036854775807 then (spec_FormatCode.l0 kj7 (((x3_7 ++ t156) ++ (⟨#[32]⟩ : ByteArray)) ++ t160) l0 (l0.length : Int) (wrap64 (x11_1 + 1))) else (none)))) else (none)) else (if ((rd_T54 l0 x11_1).f0) = 10 then (spec_FormatCode.j2 kj7 (x3_7 ++ t156) l0 (l0.length : Int) x11_1 ((rd_T54 l0 x11_1).f0) (((rd_T54 l0 x11_1).f0) == 10) ((rd_T54 l0 x11_1).f0) ((rd_T54 l0 x11_1).f1) ((rd_T54 l0 x11_1).f2) ((rd_T54 l0 x11_1).f3)) else (spec_FormatCode.j2 kj7 (x3_7 ++ t156) l0 (l0.length : Int) x11_1 ((rd_T54 l0 x11_1).f0) (((rd_T54 l0 x11_1).f0) == 13) ((rd_T54 l0 x11_1).f0) ((rd_T54 l0 x11_1).f1) ((rd_T54 l0 x11_1).f2) ((rd_T54 l0 x11_1).f3)))) else (none)) = some r := H
         have A13 := Ak A130
         clear A130
         by_cases c14 : x3_7.size + t156.size ≤ 9223372036854775807
         ·rw [if_pos c14] at H
          have c14b0 := eq_true c14
          have c14b1 : decide (x3_7.size + t156.size ≤ 9223372036854775807) = true := decide_eq_true c14
          try have c14b2 : (9223372036854775807 < x3_7.size + t156.size) = False := eq_false (Nat.not_lt.2 c14)
          by_cases c15 : ((rd_T54 l0 x11_1).f0) = 1
          ·rw [if_pos c15] at H
           have c15b0 : (((rd_T54 l0 x11_1).f0) == 1) = true := beq_iff_eq.mpr c15
           have c15b1 : (((rd_T54 l0 x11_1).f0) != 1) = false := bne_eq_false_iff_eq.mpr c15
           clear c15
           by_cases c16 : (x3_7 ++ t156).size + 1 ≤ 9223372036854775807
           ·rw [if_pos c16] at H
            have c16b0 := eq_true c16
            have c16b1 : decide ((x3_7 ++ t156).size + 1 ≤ 9223372036854775807) = true := decide_eq_true c16
            try have c16b2 : (9223372036854775807 < (x3_7 ++ t156).size + 1) = False := eq_false (Nat.not_lt.2 c16)
            have c16n := c16
            (simp only [ByteArray.size_append', ByteArray.size_mk', ByteArray.size_extract, List.size_toArray, List.length_cons, List.length_nil] at c16n)
            replace H := Option.bind_eq_some_iff.mp H
            obtain ⟨t157, A170, H⟩ := H
            replace H : ((spec_FormatWord.f kj7 t157).bind fun t160 => (if ((x3_7 ++ t156) ++ (⟨#[32]⟩ : ByteArray)).size + t160.size ≤ 9223372036854775807 then (spec_FormatCode.l0 kj7 (((x3_7 ++ t156) ++ (⟨#[32]⟩ : ByteArray)) ++ t160) l0 (l0.length : Int) (wrap64 (x11_1 + 1))) else (none))) = some r := H
            have A17 := Ak A170
            clear A170
            replace H := Option.bind_eq_some_iff.mp H
            obtain ⟨t160, A180, H⟩ := H
            replace H : (if ((x3_7 ++ t156) ++ (⟨#[32]⟩ : ByteArray)).size + t160.size ≤ 9223372036854775807 then (spec_FormatCode.l0 kj7 (((x3_7 ++ t156) ++ (⟨#[32]⟩ : ByteArray)) ++ t160) l0 (l0.length : Int) (wrap64 (x11_1 + 1))) else (none)) = some r := H
            have A18 := Ak A180
            clear A180
            by_cases c19 : ((x3_7 ++ t156) ++ (⟨#[32]⟩ : ByteArray)).size + t160.size ≤ 9223372036854775807
            ·rw [if_pos c19] at H
             have c19b0 := eq_true c19
             have c19b1 : decide (((x3_7 ++ t156) ++ (⟨#[32]⟩ : ByteArray)).size + t160.size ≤ 9223372036854775807) = true := decide_eq_true c19
             try have c19b2 : (9223372036854775807 < ((x3_7 ++ t156) ++ (⟨#[32]⟩ : ByteArray)).size + t160.size) = False := eq_false (Nat.not_lt.2 c19)
             have c19n := c19
             (simp only [ByteArray.size_append', ByteArray.size_mk', ByteArray.size_extract, List.size_toArray, List.length_cons, List.length_nil] at c19n)
             have H' := Ak H
             clear H
             obtain ⟨hcz20_0, hcz20_1, hcz20_2, hcz20_3, hfz20_0, hfz20_1, hfz20_2, hfz20_3⟩ := Qv4 BK155.out
             go_wp2_with (first | ((with_reducible refine gate_callee (f := 58) rfl ?_); refine Qj (some 23) Tryd.func58 #[.int .i64 ((rd_T54 l0 x11_1).f0)] ?_; (with_reducible refine (spec_OpName.calls ((rd_T54 l0 x11_1).f0) t156 _ A13.out).mono ?_); rintro e w21 ⟨rfl, hb⟩; refine ⟨_, rfl, ?_⟩; have n0_ := Ak (Qm BK155.out hb); have n1_ := Ak (below_step (Qb HB.out) hb); clear BK155 HB; have BK155 := n0_; have HB := n1_; clear n0_ n1_; (try clear hb); (try clear hb2); (try clear hk); (try clear hi); obtain ⟨hcz22_0, hcz22_1, hcz22_2, hcz22_3⟩ := Qu4 BK155.out; have hfz22_0 := blk_frozen BK155.out 0; have hfz22_1 := blk_frozen BK155.out 1; have hfz22_2 := blk_frozen BK155.out 2; have hfz22_3 := blk_frozen BK155.out 3) | ((with_reducible refine gate_callee (f := 60) rfl ?_); refine Qj (some 33) Tryd.func60 #[.int .i64 ((rd_T54 l0 x11_1).f1), .int .i64 9] ?_; (with_reducible refine (spec_l2Word.calls kj7 ((rd_T54 l0 x11_1).f1) 9 t157 _ A17.out).mono ?_); rintro e w23 ⟨v158, rfl, ho0, hb⟩; refine ⟨_, rfl, ?_⟩; have n0_ := Ak (Kd.R_lower ho0 (below_size (Qb HB.out))); have n1_ := Ak (Qm BK155.out hb); have n2_ := Ak (below_step (Qb HB.out) hb); clear BK155 HB; have HO159 := n0_; have BK155 := n1_; have HB := n2_; clear n0_ n1_ n2_; (try clear hb); (try clear hb2); (try clear hk); (try clear hi); (try clear ho0); obtain ⟨Ao24, co24, eo24⟩ := Kd.R_slice HO159.out; subst eo24) | ((with_reducible refine gate_callee (f := 59) rfl ?_); refine Qj (some 34) Tryd.func59 #[.slice Ao24 t157.length co24] ?_; (with_reducible refine (spec_FormatWord.calls kj7 _ _ t157 t160 _ ?side1 ?side2 A18.out).mono ?_); (case side1 => repeat (first | exact (Kd.R_reads' HO159.out).2.2 | (with_reducible refine Kd.C_alloc ?_ _) | (with_reducible refine Kd.C_drewN ?_ _) | (with_reducible refine Kd.C_drew ?_))); (case side2 => exact (Kd.R_reads' HO159.out).2.1); rintro e w25 ⟨rfl, hb⟩; refine ⟨_, rfl, ?_⟩; have n0_ := Ak (Kd.R_below (Qc HO159.out) hb); have n1_ := Ak (Qm BK155.out hb); have n2_ := Ak (below_step (Qb HB.out) hb); clear HO159 BK155 HB; have HO159 := n0_; have BK155 := n1_; have HB := n2_; clear n0_ n1_ n2_; (try clear hb); (try clear hb2); (try clear hk); (try clear hi)))
             go_roundg kj7
             case measure => have := HK1.out; have := HJ7.out; omega
             case rel => exact ⟨(((x3_7 ++ t156) ++ (⟨#[32]⟩ : ByteArray)) ++ t160), (wrap64 (x11_1 + 1)), Qi, Qi, H', ⟨by have := HK1.out; have := HJ7.out; omega⟩, ⟨Qb HB.out⟩⟩
            ·rw [if_neg c19] at H
             exact absurd H (by simp)
           ·rw [if_neg c16] at H
            exact absurd H (by simp)
          ·rw [if_neg c15] at H
           have c15b0 : (((rd_T54 l0 x11_1).f0) == 1) = false := beq_eq_false_iff_ne.mpr c15
           have c15b1 : (((rd_T54 l0 x11_1).f0) != 1) = true := bne_iff_ne.mpr c15
           have HC26 := Ak H
           clear H
           obtain ⟨hcz27_0, hcz27_1, hcz27_2, hcz27_3, hfz27_0, hfz27_1, hfz27_2, hfz27_3⟩ := Qv4 BK155.out
           go_upto_if 36 with (first | ((with_reducible refine gate_callee (f := 58) rfl ?_); refine Qj (some 23) Tryd.func58 #[.int .i64 ((rd_T54 l0 x11_1).f0)] ?_; (with_reducible refine (spec_OpName.calls ((rd_T54 l0 x11_1).f0) t156 _ A13.out).mono ?_); rintro e w28 ⟨rfl, hb⟩; refine ⟨_, rfl, ?_⟩; have n0_ := Ak (Qm BK155.out hb); have n1_ := Ak (below_step (Qb HB.out) hb); clear BK155 HB; have BK155 := n0_; have HB := n1_; clear n0_ n1_; (try clear hb); (try clear hb2); (try clear hk); (try clear hi); obtain ⟨hcz29_0, hcz29_1, hcz29_2, hcz29_3⟩ := Qu4 BK155.out; have hfz29_0 := blk_frozen BK155.out 0; have hfz29_1 := blk_frozen BK155.out 1; have hfz29_2 := blk_frozen BK155.out 2; have hfz29_3 := blk_frozen BK155.out 3))
           (try simp only [Act.put, List.setIfInBounds_toArray, List.set_cons_zero, List.set_cons_succ])
           go_cut [36] (fun v36 wc => ∃ (kq : Nat) (x36_25 : Bool), v36 = .bool x36_25 ∧ Aside0 (spec_FormatCode.j2 kq (x3_7 ++ t156) l0 (l0.length : Int) x11_1 ((rd_T54 l0 x11_1).f0) x36_25 ((rd_T54 l0 x11_1).f0) ((rd_T54 l0 x11_1).f1) ((rd_T54 l0 x11_1).f2) ((rd_T54 l0 x11_1).f3) = some r) ∧ Aside0 (kq ≤ kj7) ∧ Aside0 (wc.heap[gb155]? = some (.cells #[.int .i64 ((rd_T54 l0 x11_1).f0), .int .i64 ((rd_T54 l0 x11_1).f1), .int .i64 ((rd_T54 l0 x11_1).f2), .int .i64 ((rd_T54 l0 x11_1).f3)] 54 (0, 0))) ∧ Aside0 (Below w.heap.size w wc))
           case first =>
            have H := HC26.out
            clear HC26
            by_cases c30 : ((rd_T54 l0 x11_1).f0) = 10
            ·rw [if_pos c30] at H
             have c30b0 : (((rd_T54 l0 x11_1).f0) == 10) = true := beq_iff_eq.mpr c30
             have c30b1 : (((rd_T54 l0 x11_1).f0) != 10) = false := bne_eq_false_iff_eq.mpr c30
             clear c30
             (first | rw [c30b0] | (simp only [i64_w, i32_w]; rw [c30b0]) | skip)
             have H' := Ak H
             clear H
             go_wp2
             go_meet
             case rel => exact ⟨_, ((((rd_T54 l0 x11_1).f0) == 10)), Qi, H', ⟨by have := HK1.out; have := HJ7.out; first | omega | exact Nat.le_refl _⟩, ⟨by refine Qe ?_; exact BK155.out⟩, ⟨Qb HB.out⟩⟩
            ·rw [if_neg c30] at H
             have c30b0 : (((rd_T54 l0 x11_1).f0) == 10) = false := beq_eq_false_iff_ne.mpr c30
             have c30b1 : (((rd_T54 l0 x11_1).f0) != 10) = true := bne_iff_ne.mpr c30
             (first | rw [c30b0] | (simp only [i64_w, i32_w]; rw [c30b0]) | skip)
             have H' := Ak H
             clear H
             go_wp2
             go_meet
             case rel => exact ⟨_, ((((rd_T54 l0 x11_1).f0) == 13)), Qi, H', ⟨by have := HK1.out; have := HJ7.out; first | omega | exact Nat.le_refl _⟩, ⟨by refine Qe ?_; exact BK155.out⟩, ⟨Qb HB.out⟩⟩
           case rest =>
            clear HC26
            (try clear c1); (try clear p1); (try clear q1); (try clear hx1); (try clear c2); (try clear p2); (try clear c3); (try clear c5); (try clear c5b0); (try clear c6); (try clear c6b0); (try clear p6); (try clear c7); (try clear c7b0); (try clear c11); (try clear c11b0); (try clear c12); (try clear c12b0); (try clear c12b1); (try clear c12b2); (try clear c14); (try clear c14b0); (try clear c14b1); (try clear c14b2); (try clear c15); (try clear c15b0); (try clear c15b1); (try clear p15); (try clear q15); (try clear hx15); (try clear c16); (try clear c16b0); (try clear c16b1); (try clear c16b2); (try clear c19); (try clear c19b0); (try clear c19b1); (try clear c19b2); (try clear c23); (try clear c30); (try clear c30b0); (try clear c30b1); (try clear hcz10_0); (try clear hcz10_1); (try clear hcz10_2); (try clear hcz10_3); (try clear hcz20_0); (try clear hcz20_1); (try clear hcz20_2); (try clear hcz20_3); (try clear hcz22_0); (try clear hcz22_1); (try clear hcz22_2); (try clear hcz22_3); (try clear hcz27_0); (try clear hcz27_1); (try clear hcz27_2); (try clear hcz27_3); (try clear hcz29_0); (try clear hcz29_1); (try clear hcz29_2); (try clear hcz29_3); (try clear hfz10_0); (try clear hfz10_1); (try clear hfz10_2); (try clear hfz10_3); (try clear hfz20_0); (try clear hfz20_1); (try clear hfz20_2); (try clear hfz20_3); (try clear hfz22_0); (try clear hfz22_1); (try clear hfz22_2); (try clear hfz22_3); (try clear hfz27_0); (try clear hfz27_1); (try clear hfz27_2); (try clear hfz27_3); (try clear hfz29_0); (try clear hfz29_1); (try clear hfz29_2); (try clear hfz29_3); (try clear hx154_0); (try clear hx154_1); (try clear hx154_2); (try clear hx154_3); (try clear p1); (try clear p154); (try clear p2); (try clear q1); (try clear q154)
            obtain ⟨kq, x36_25, rfl, HA, HJ25, BK155, HB⟩ := hcut
            cases kq with
            | zero => exact absurd HA.out (by simp [spec_FormatCode.j2])
            | succ kj25 =>
             have H := HA.out
             clear HA
             simp only [spec_FormatCode.j2] at H
             by_cases c31 : x36_25 = true
             ·(try subst c31)
              have H1 : (if (x3_7 ++ t156).size + 1 ≤ 9223372036854775807 then ((spec_l5Number.f kj25 ((rd_T54 l0 x11_1).f1)).bind fun t161 => (if ((x3_7 ++ t156) ++ (⟨#[32]⟩ : ByteArray)).size + t161.size ≤ 9223372036854775807 then (spec_FormatCode.l0 kj25 (((x3_7 ++ t156) ++ (⟨#[32]⟩ : ByteArray)) ++ t161) l0 (l0.length : Int) (wrap64 (x11_1 + 1))) else (none))) else (none)) = some r := by rw [if_pos rfl] at H; exact H
              clear H
              have H := H1
              clear H1
              by_cases c32 : (x3_7 ++ t156).size + 1 ≤ 9223372036854775807
              ·rw [if_pos c32] at H
               have c32b0 := eq_true c32
               have c32b1 : decide ((x3_7 ++ t156).size + 1 ≤ 9223372036854775807) = true := decide_eq_true c32
               try have c32b2 : (9223372036854775807 < (x3_7 ++ t156).size + 1) = False := eq_false (Nat.not_lt.2 c32)
               have c32n := c32
               (simp only [ByteArray.size_append', ByteArray.size_mk', ByteArray.size_extract, List.size_toArray, List.length_cons, List.length_nil] at c32n)
               replace H := Option.bind_eq_some_iff.mp H
               obtain ⟨t161, A330, H⟩ := H
               replace H : (if ((x3_7 ++ t156) ++ (⟨#[32]⟩ : ByteArray)).size + t161.size ≤ 9223372036854775807 then (spec_FormatCode.l0 kj25 (((x3_7 ++ t156) ++ (⟨#[32]⟩ : ByteArray)) ++ t161) l0 (l0.length : Int) (wrap64 (x11_1 + 1))) else (none)) = some r := H
               have A33 := Ak A330
               clear A330
               by_cases c34 : ((x3_7 ++ t156) ++ (⟨#[32]⟩ : ByteArray)).size + t161.size ≤ 9223372036854775807
               ·rw [if_pos c34] at H
                have c34b0 := eq_true c34
                have c34b1 : decide (((x3_7 ++ t156) ++ (⟨#[32]⟩ : ByteArray)).size + t161.size ≤ 9223372036854775807) = true := decide_eq_true c34
                try have c34b2 : (9223372036854775807 < ((x3_7 ++ t156) ++ (⟨#[32]⟩ : ByteArray)).size + t161.size) = False := eq_false (Nat.not_lt.2 c34)
                have c34n := c34
                (simp only [ByteArray.size_append', ByteArray.size_mk', ByteArray.size_extract, List.size_toArray, List.length_cons, List.length_nil] at c34n)
                have H' := Ak H
                clear H
                obtain ⟨hcz35_0, hcz35_1, hcz35_2, hcz35_3, hfz35_0, hfz35_1, hfz35_2, hfz35_3⟩ := Qv4 BK155.out
                go_wp2_with (first | ((with_reducible refine gate_callee (f := 61) rfl ?_); refine Qj (some 43) Tryd.func61 #[.int .i64 ((rd_T54 l0 x11_1).f1)] ?_; (with_reducible refine (spec_l5Number.calls kj25 ((rd_T54 l0 x11_1).f1) t161 _ A33.out).mono ?_); rintro e w36 ⟨rfl, hb⟩; refine ⟨_, rfl, ?_⟩; have n0_ := Ak (Qm BK155.out hb); have n1_ := Ak (below_step (Qb HB.out) hb); clear BK155 HB; have BK155 := n0_; have HB := n1_; clear n0_ n1_; (try clear hb); (try clear hb2); (try clear hk); (try clear hi)))
                go_roundg kj25
                case measure => have := HK1.out; have := HJ7.out; have := HJ25.out; omega
                case rel => exact ⟨(((x3_7 ++ t156) ++ (⟨#[32]⟩ : ByteArray)) ++ t161), (wrap64 (x11_1 + 1)), Qi, Qi, H', ⟨by have := HK1.out; have := HJ7.out; have := HJ25.out; omega⟩, ⟨Qb HB.out⟩⟩
               ·rw [if_neg c34] at H
                exact absurd H (by simp)
              ·rw [if_neg c32] at H
               exact absurd H (by simp)
             ·replace c31 := Bool.eq_false_iff.mpr c31
              (try subst c31)
              have H1 : (if ((rd_T54 l0 x11_1).f0) = 14 then (if (x3_7 ++ t156).size + 1 ≤ 9223372036854775807 then ((spec_l5Number.f kj25 ((rd_T54 l0 x11_1).f1)).bind fun t162 => (if ((x3_7 ++ t156) ++ (⟨#[32]⟩ : ByteArray)).size + t162.size ≤ 9223372036854775807 then (if (((x3_7 ++ t156) ++ (⟨#[32]⟩ : ByteArray)) ++ t162).size + 1 ≤ 9223372036854775807 then ((spec_l5Number.f kj25 ((rd_T54 l0 x11_1).f2)).bind fun t163 => (if ((((x3_7 ++ t156) ++ (⟨#[32]⟩ : ByteArray)) ++ t162) ++ (⟨#[32]⟩ : ByteArray)).size + t163.size ≤ 9223372036854775807 then (if (((((x3_7 ++ t156) ++ (⟨#[32]⟩ : ByteArray)) ++ t162) ++ (⟨#[32]⟩ : ByteArray)) ++ t163).size + 1 ≤ 9223372036854775807 then ((spec_l5Number.f kj25 ((rd_T54 l0 x11_1).f3)).bind fun t164 => (if ((((((x3_7 ++ t156) ++ (⟨#[32]⟩ : ByteArray)) ++ t162) ++ (⟨#[32]⟩ : ByteArray)) ++ t163) ++ (⟨#[32]⟩ : ByteArray)).size + t164.size ≤ 9223372036854775807 then (spec_FormatCode.l0 kj25 (((((((x3_7 ++ t156) ++ (⟨#[32]⟩ : ByteArray)) ++ t162) ++ (⟨#[32]⟩ : ByteArray)) ++ t163) ++ (⟨#[32]⟩ : ByteArray)) ++ t164) l0 (l0.length : Int) (wrap64 (x11_1 + 1))) else (none))) else (none)) else (none))) else (none)) else (none))) else (none)) else (spec_FormatCode.l0 kj25 (x3_7 ++ t156) l0 (l0.length : Int) (wrap64 (x11_1 + 1)))) = some r := by rw [if_neg (show ¬ (false = true) by decide)] at H; exact H
              clear H
              have H := H1
              clear H1
              by_cases c37 : ((rd_T54 l0 x11_1).f0) = 14
              ·rw [if_pos c37] at H
               have c37b0 : (((rd_T54 l0 x11_1).f0) == 14) = true := beq_iff_eq.mpr c37
               have c37b1 : (((rd_T54 l0 x11_1).f0) != 14) = false := bne_eq_false_iff_eq.mpr c37
               clear c37
               by_cases c38 : (x3_7 ++ t156).size + 1 ≤ 9223372036854775807
               ·rw [if_pos c38] at H
                have c38b0 := eq_true c38
                have c38b1 : decide ((x3_7 ++ t156).size + 1 ≤ 9223372036854775807) = true := decide_eq_true c38
                try have c38b2 : (9223372036854775807 < (x3_7 ++ t156).size + 1) = False := eq_false (Nat.not_lt.2 c38)
                have c38n := c38
                (simp only [ByteArray.size_append', ByteArray.size_mk', ByteArray.size_extract, List.size_toArray, List.length_cons, List.length_nil] at c38n)
                replace H := Option.bind_eq_some_iff.mp H
                obtain ⟨t162, A390, H⟩ := H
                replace H : (if ((x3_7 ++ t156) ++ (⟨#[32]⟩ : ByteArray)).size + t162.size ≤ 9223372036854775807 then (if (((x3_7 ++ t156) ++ (⟨#[32]⟩ : ByteArray)) ++ t162).size + 1 ≤ 9223372036854775807 then ((spec_l5Number.f kj25 ((rd_T54 l0 x11_1).f2)).bind fun t163 => (if ((((x3_7 ++ t156) ++ (⟨#[32]⟩ : ByteArray)) ++ t162) ++ (⟨#[32]⟩ : ByteArray)).size + t163.size ≤ 9223372036854775807 then (if (((((x3_7 ++ t156) ++ (⟨#[32]⟩ : ByteArray)) ++ t162) ++ (⟨#[32]⟩ : ByteArray)) ++ t163).size + 1 ≤ 9223372036854775807 then ((spec_l5Number.f kj25 ((rd_T54 l0 x11_1).f3)).bind fun t164 => (if ((((((x3_7 ++ t156) ++ (⟨#[32]⟩ : ByteArray)) ++ t162) ++ (⟨#[32]⟩ : ByteArray)) ++ t163) ++ (⟨#[32]⟩ : ByteArray)).size + t164.size ≤ 9223372036854775807 then (spec_FormatCode.l0 kj25 (((((((x3_7 ++ t156) ++ (⟨#[32]⟩ : ByteArray)) ++ t162) ++ (⟨#[32]⟩ : ByteArray)) ++ t163) ++ (⟨#[32]⟩ : ByteArray)) ++ t164) l0 (l0.length : Int) (wrap64 (x11_1 + 1))) else (none))) else (none)) else (none))) else (none)) else (none)) = some r := H
                have A39 := Ak A390
                clear A390
                by_cases c40 : ((x3_7 ++ t156) ++ (⟨#[32]⟩ : ByteArray)).size + t162.size ≤ 9223372036854775807
                ·rw [if_pos c40] at H
                 have c40b0 := eq_true c40
                 have c40b1 : decide (((x3_7 ++ t156) ++ (⟨#[32]⟩ : ByteArray)).size + t162.size ≤ 9223372036854775807) = true := decide_eq_true c40
                 try have c40b2 : (9223372036854775807 < ((x3_7 ++ t156) ++ (⟨#[32]⟩ : ByteArray)).size + t162.size) = False := eq_false (Nat.not_lt.2 c40)
                 have c40n := c40
                 (simp only [ByteArray.size_append', ByteArray.size_mk', ByteArray.size_extract, List.size_toArray, List.length_cons, List.length_nil] at c40n)
                 by_cases c41 : (((x3_7 ++ t156) ++ (⟨#[32]⟩ : ByteArray)) ++ t162).size + 1 ≤ 9223372036854775807
                 ·rw [if_pos c41] at H
                  have c41b0 := eq_true c41
                  have c41b1 : decide ((((x3_7 ++ t156) ++ (⟨#[32]⟩ : ByteArray)) ++ t162).size + 1 ≤ 9223372036854775807) = true := decide_eq_true c41
                  try have c41b2 : (9223372036854775807 < (((x3_7 ++ t156) ++ (⟨#[32]⟩ : ByteArray)) ++ t162).size + 1) = False := eq_false (Nat.not_lt.2 c41)
                  have c41n := c41
                  (simp only [ByteArray.size_append', ByteArray.size_mk', ByteArray.size_extract, List.size_toArray, List.length_cons, List.length_nil] at c41n)
                  replace H := Option.bind_eq_some_iff.mp H
                  obtain ⟨t163, A420, H⟩ := H
                  replace H : (if ((((x3_7 ++ t156) ++ (⟨#[32]⟩ : ByteArray)) ++ t162) ++ (⟨#[32]⟩ : ByteArray)).size + t163.size ≤ 9223372036854775807 then (if (((((x3_7 ++ t156) ++ (⟨#[32]⟩ : ByteArray)) ++ t162) ++ (⟨#[32]⟩ : ByteArray)) ++ t163).size + 1 ≤ 9223372036854775807 then ((spec_l5Number.f kj25 ((rd_T54 l0 x11_1).f3)).bind fun t164 => (if ((((((x3_7 ++ t156) ++ (⟨#[32]⟩ : ByteArray)) ++ t162) ++ (⟨#[32]⟩ : ByteArray)) ++ t163) ++ (⟨#[32]⟩ : ByteArray)).size + t164.size ≤ 9223372036854775807 then (spec_FormatCode.l0 kj25 (((((((x3_7 ++ t156) ++ (⟨#[32]⟩ : ByteArray)) ++ t162) ++ (⟨#[32]⟩ : ByteArray)) ++ t163) ++ (⟨#[32]⟩ : ByteArray)) ++ t164) l0 (l0.length : Int) (wrap64 (x11_1 + 1))) else (none))) else (none)) else (none)) = some r := H
                  have A42 := Ak A420
                  clear A420
                  by_cases c43 : ((((x3_7 ++ t156) ++ (⟨#[32]⟩ : ByteArray)) ++ t162) ++ (⟨#[32]⟩ : ByteArray)).size + t163.size ≤ 9223372036854775807
                  ·rw [if_pos c43] at H
                   have c43b0 := eq_true c43
                   have c43b1 : decide (((((x3_7 ++ t156) ++ (⟨#[32]⟩ : ByteArray)) ++ t162) ++ (⟨#[32]⟩ : ByteArray)).size + t163.size ≤ 9223372036854775807) = true := decide_eq_true c43
                   try have c43b2 : (9223372036854775807 < ((((x3_7 ++ t156) ++ (⟨#[32]⟩ : ByteArray)) ++ t162) ++ (⟨#[32]⟩ : ByteArray)).size + t163.size) = False := eq_false (Nat.not_lt.2 c43)
                   have c43n := c43
                   (simp only [ByteArray.size_append', ByteArray.size_mk', ByteArray.size_extract, List.size_toArray, List.length_cons, List.length_nil] at c43n)
                   by_cases c44 : (((((x3_7 ++ t156) ++ (⟨#[32]⟩ : ByteArray)) ++ t162) ++ (⟨#[32]⟩ : ByteArray)) ++ t163).size + 1 ≤ 9223372036854775807
                   ·rw [if_pos c44] at H
                    have c44b0 := eq_true c44
                    have c44b1 : decide ((((((x3_7 ++ t156) ++ (⟨#[32]⟩ : ByteArray)) ++ t162) ++ (⟨#[32]⟩ : ByteArray)) ++ t163).size + 1 ≤ 9223372036854775807) = true := decide_eq_true c44
                    try have c44b2 : (9223372036854775807 < (((((x3_7 ++ t156) ++ (⟨#[32]⟩ : ByteArray)) ++ t162) ++ (⟨#[32]⟩ : ByteArray)) ++ t163).size + 1) = False := eq_false (Nat.not_lt.2 c44)
                    have c44n := c44
                    (simp only [ByteArray.size_append', ByteArray.size_mk', ByteArray.size_extract, List.size_toArray, List.length_cons, List.length_nil] at c44n)
                    replace H := Option.bind_eq_some_iff.mp H
                    obtain ⟨t164, A450, H⟩ := H
                    replace H : (if ((((((x3_7 ++ t156) ++ (⟨#[32]⟩ : ByteArray)) ++ t162) ++ (⟨#[32]⟩ : ByteArray)) ++ t163) ++ (⟨#[32]⟩ : ByteArray)).size + t164.size ≤ 9223372036854775807 then (spec_FormatCode.l0 kj25 (((((((x3_7 ++ t156) ++ (⟨#[32]⟩ : ByteArray)) ++ t162) ++ (⟨#[32]⟩ : ByteArray)) ++ t163) ++ (⟨#[32]⟩ : ByteArray)) ++ t164) l0 (l0.length : Int) (wrap64 (x11_1 + 1))) else (none)) = some r := H
                    have A45 := Ak A450
                    clear A450
                    by_cases c46 : ((((((x3_7 ++ t156) ++ (⟨#[32]⟩ : ByteArray)) ++ t162) ++ (⟨#[32]⟩ : ByteArray)) ++ t163) ++ (⟨#[32]⟩ : ByteArray)).size + t164.size ≤ 9223372036854775807
                    ·rw [if_pos c46] at H
                     have c46b0 := eq_true c46
                     have c46b1 : decide (((((((x3_7 ++ t156) ++ (⟨#[32]⟩ : ByteArray)) ++ t162) ++ (⟨#[32]⟩ : ByteArray)) ++ t163) ++ (⟨#[32]⟩ : ByteArray)).size + t164.size ≤ 9223372036854775807) = true := decide_eq_true c46
                     try have c46b2 : (9223372036854775807 < ((((((x3_7 ++ t156) ++ (⟨#[32]⟩ : ByteArray)) ++ t162) ++ (⟨#[32]⟩ : ByteArray)) ++ t163) ++ (⟨#[32]⟩ : ByteArray)).size + t164.size) = False := eq_false (Nat.not_lt.2 c46)
                     have c46n := c46
                     (simp only [ByteArray.size_append', ByteArray.size_mk', ByteArray.size_extract, List.size_toArray, List.length_cons, List.length_nil] at c46n)
                     have H' := Ak H
                     clear H
                     try go_wp2
                     have n0_ := Ak (blk_drew BK155.out)
                     have n1_ := Ak (below_drew1 HB.out)
                     clear BK155 HB
                     have BK155 := n0_
                     have HB := n1_
                     clear n0_ n1_
                     refine start_ (n := 17) (S := fun w' => w'.cell? ⟨gb155, 0, none⟩ = some (.int .i64 ((rd_T54 l0 x11_1).f0)) ∧ w'.cell? ⟨gb155, 1, none⟩ = some (.int .i64 ((rd_T54 l0 x11_1).f1)) ∧ w'.cell? ⟨gb155, 2, none⟩ = some (.int .i64 ((rd_T54 l0 x11_1).f2)) ∧ w'.cell? ⟨gb155, 3, none⟩ = some (.int .i64 ((rd_T54 l0 x11_1).f3))) (ds := []) #[false, false, false, false, false, false, false, false, false, false, false, false, false, false, false, false, false] (by kernel_rfl) rfl rfl ⟨(blk_cell BK155.out 0).trans rfl, (blk_cell BK155.out 1).trans rfl, (blk_cell BK155.out 2).trans rfl, (blk_cell BK155.out 3).trans rfl⟩ (fun hHeld => ?_); refine with_tabW spec_FormatCode.tab17 spec_FormatCode.bits17 (fun HT_ HW_ => ?_)
                     generalize wc.drew = w47 at BK155 HB hHeld ⊢
                     refine pure_ (i := 0) (N := some 47) (v := ?_) (a' := ?_) #[true, false, false, false, false, false, false, false, false, false, false, false, false, false, false, false, false] rfl rfl (any_of HT_.out (by kernel_rfl)) (fun _ _ _ h => h) (Or.inl ⟨by rfl, ?_⟩) ?_ ?_
                     rotate_left
                     ·intro w'
                      first | (go_simp; with_reducible rfl) | (go_simp; refine (if_neg (by omega)).trans ?_; with_reducible rfl)
                     rotate_left
                     ·simp only [Act.put, List.setIfInBounds_toArray, List.set_cons_zero, List.set_cons_succ, i64_w, i32_w]
                      rfl
                     refine pure_ (i := 1) (N := some 48) (v := ?_) (a' := ?_) #[true, true, false, false, false, false, false, false, false, false, false, false, false, false, false, false, false] rfl rfl (any_of HT_.out (by kernel_rfl)) (fun _ _ _ h => h) (Or.inl ⟨by rfl, ?_⟩) ?_ ?_
                     rotate_left
                     ·intro w'
                      first | (go_simp; with_reducible rfl) | (go_simp; refine (if_neg (by omega)).trans ?_; with_reducible rfl)
                     rotate_left
                     ·simp only [Act.put, List.setIfInBounds_toArray, List.set_cons_zero, List.set_cons_succ, i64_w, i32_w]
                      rfl
                     refine pure_ (i := 2) (N := some 49) (v := ?_) (a' := ?_) #[true, true, true, false, false, false, false, false, false, false, false, false, false, false, false, false, false] rfl rfl (any_of HT_.out (by kernel_rfl)) (fun _ _ _ h => h) (Or.inl ⟨by rfl, ?_⟩) ?_ ?_
                     rotate_left
                     ·intro w'
                      first | (go_simp; with_reducible rfl) | (go_simp; refine (if_neg (by omega)).trans ?_; with_reducible rfl)
                     rotate_left
                     ·simp only [Act.put, List.setIfInBounds_toArray, List.set_cons_zero, List.set_cons_succ, i64_w, i32_w]
                      rfl
                     refine pure_ (i := 7) (N := some 54) (v := ?_) (a' := ?_) #[true, true, true, false, false, false, false, true, false, false, false, false, false, false, false, false, false] rfl rfl (any_of HT_.out (by kernel_rfl)) (fun _ _ _ h => h) (Or.inl ⟨by rfl, ?_⟩) ?_ ?_
                     rotate_left
                     ·intro w'
                      first | (go_simp; with_reducible rfl) | (go_simp; refine (if_neg (by omega)).trans ?_; with_reducible rfl)
                     rotate_left
                     ·simp only [Act.put, List.setIfInBounds_toArray, List.set_cons_zero, List.set_cons_succ, i64_w, i32_w]
                      rfl
                     refine pure_ (i := 12) (N := some 59) (v := ?_) (a' := ?_) #[true, true, true, false, false, false, false, true, false, false, false, false, true, false, false, false, false] rfl rfl (any_of HT_.out (by kernel_rfl)) (fun _ _ _ h => h) (Or.inl ⟨by rfl, ?_⟩) ?_ ?_
                     rotate_left
                     ·intro w'
                      first | (go_simp; with_reducible rfl) | (go_simp; refine (if_neg (by omega)).trans ?_; with_reducible rfl)
                     rotate_left
                     ·simp only [Act.put, List.setIfInBounds_toArray, List.set_cons_zero, List.set_cons_succ, i64_w, i32_w]
                      rfl
                     refine take_ (i := 3) (N := some 50) (v := ?_) (a' := ?_) #[true, true, true, true, false, false, false, true, false, false, false, false, true, false, false, false, false] rfl rfl (take_ofW HT_.out HW_.out (by kernel_rfl)) (fun _ _ _ h => h) (Or.inl ⟨by rfl, ?_⟩) hHeld ?_ ?_
                     rotate_left
                     ·rintro w' ⟨s0, s1, s2, s3⟩
                      first | (go_simp; with_reducible rfl) | (go_simp; refine (if_neg (by omega)).trans ?_; with_reducible rfl)
                     rotate_left
                     ·simp only [Act.put, List.setIfInBounds_toArray, List.set_cons_zero, List.set_cons_succ, i64_w, i32_w]
                      rfl
                     refine take_ (i := 8) (N := some 55) (v := ?_) (a' := ?_) #[true, true, true, true, false, false, false, true, true, false, false, false, true, false, false, false, false] rfl rfl (take_ofW HT_.out HW_.out (by kernel_rfl)) (fun _ _ _ h => h) (Or.inl ⟨by rfl, ?_⟩) hHeld ?_ ?_
                     rotate_left
                     ·rintro w' ⟨s0, s1, s2, s3⟩
                      first | (go_simp; with_reducible rfl) | (go_simp; refine (if_neg (by omega)).trans ?_; with_reducible rfl)
                     rotate_left
                     ·simp only [Act.put, List.setIfInBounds_toArray, List.set_cons_zero, List.set_cons_succ, i64_w, i32_w]
                      rfl
                     refine take_ (i := 13) (N := some 60) (v := ?_) (a' := ?_) #[true, true, true, true, false, false, false, true, true, false, false, false, true, true, false, false, false] rfl rfl (take_ofW HT_.out HW_.out (by kernel_rfl)) (fun _ _ _ h => h) (Or.inl ⟨by rfl, ?_⟩) hHeld ?_ ?_
                     rotate_left
                     ·rintro w' ⟨s0, s1, s2, s3⟩
                      first | (go_simp; with_reducible rfl) | (go_simp; refine (if_neg (by omega)).trans ?_; with_reducible rfl)
                     rotate_left
                     ·simp only [Act.put, List.setIfInBounds_toArray, List.set_cons_zero, List.set_cons_succ, i64_w, i32_w]
                      rfl
                     refine Qs 4 (some 51) (fun K hK => ?_)
                     refine goes_ Tryd.func61 (by kernel_rfl) rfl #[.int .i64 ((rd_T54 l0 x11_1).f1)] (by rfl) rfl rfl (by (try simp only [List.map_toArray, List.map_cons, List.map_nil]); first | done | rfl | (simp only [List.length_drop, List.length_take]; rfl)) ?_
                     with_reducible refine (spec_l5Number.calls kj25 ((rd_T54 l0 x11_1).f1) t162 _ A39.out).mono ?_
                     rintro e w48 ⟨rfl, hb⟩
                     refine ⟨_, rfl, ?_⟩
                     have n0_ := Ak (Qm BK155.out hb)
                     have n1_ := Ak (below_step (Qb HB.out) hb)
                     clear BK155 HB
                     have BK155 := n0_
                     have HB := n1_
                     clear n0_ n1_
                     (try clear hb); (try clear hb2); (try clear hk); (try clear hi)
                     refine hK.out _ _ ⟨(blk_cell BK155.out 0).trans rfl, (blk_cell BK155.out 1).trans rfl, (blk_cell BK155.out 2).trans rfl, (blk_cell BK155.out 3).trans rfl⟩ (fun hHeld => ?_)
                     clear hK K
                     refine norm_ (a' := ?_) ?_ ?_
                     rotate_left
                     ·show Act.put _ (some 51) _ = _
                      simp only [Act.put, List.setIfInBounds_toArray, List.set_cons_zero, List.set_cons_succ, i64_w, i32_w]
                      rfl
                     refine pure_ (i := 5) (N := some 52) (v := ?_) (a' := ?_) #[true, true, true, true, true, true, false, true, true, false, false, false, true, true, false, false, false] rfl rfl (any_of HT_.out (by kernel_rfl)) (fun _ _ _ h => h) (Or.inl ⟨by rfl, ?_⟩) ?_ ?_
                     rotate_left
                     ·intro w'
                      first | (go_simp; with_reducible rfl) | (go_simp; refine (if_neg (by omega)).trans ?_; with_reducible rfl)
                     rotate_left
                     ·simp only [Act.put, List.setIfInBounds_toArray, List.set_cons_zero, List.set_cons_succ, i64_w, i32_w]
                      rfl
                     refine pure_ (i := 6) (N := some 53) (v := ?_) (a' := ?_) #[true, true, true, true, true, true, true, true, true, false, false, false, true, true, false, false, false] rfl rfl (any_of HT_.out (by kernel_rfl)) (fun _ _ _ h => h) (Or.inl ⟨by rfl, ?_⟩) ?_ ?_
                     rotate_left
                     ·intro w'
                      first | (go_simp; with_reducible rfl) | (go_simp; refine (if_neg (by omega)).trans ?_; with_reducible rfl)
                     rotate_left
                     ·simp only [Act.put, List.setIfInBounds_toArray, List.set_cons_zero, List.set_cons_succ, i64_w, i32_w]
                      rfl
                     refine Qs 9 (some 56) (fun K hK => ?_)
                     refine goes_ Tryd.func61 (by kernel_rfl) rfl #[.int .i64 ((rd_T54 l0 x11_1).f2)] (by rfl) rfl rfl (by (try simp only [List.map_toArray, List.map_cons, List.map_nil]); first | done | rfl | (simp only [List.length_drop, List.length_take]; rfl)) ?_
                     with_reducible refine (spec_l5Number.calls kj25 ((rd_T54 l0 x11_1).f2) t163 _ A42.out).mono ?_
                     rintro e w49 ⟨rfl, hb⟩
                     refine ⟨_, rfl, ?_⟩
                     have n0_ := Ak (Qm BK155.out hb)
                     have n1_ := Ak (below_step (Qb HB.out) hb)
                     clear BK155 HB
                     have BK155 := n0_
                     have HB := n1_
                     clear n0_ n1_
                     (try clear hb); (try clear hb2); (try clear hk); (try clear hi)
                     refine hK.out _ _ ⟨(blk_cell BK155.out 0).trans rfl, (blk_cell BK155.out 1).trans rfl, (blk_cell BK155.out 2).trans rfl, (blk_cell BK155.out 3).trans rfl⟩ (fun hHeld => ?_)
                     clear hK K
                     refine norm_ (a' := ?_) ?_ ?_
                     rotate_left
                     ·show Act.put _ (some 56) _ = _
                      simp only [Act.put, List.setIfInBounds_toArray, List.set_cons_zero, List.set_cons_succ, i64_w, i32_w]
                      rfl
                     refine pure_ (i := 10) (N := some 57) (v := ?_) (a' := ?_) #[true, true, true, true, true, true, true, true, true, true, true, false, true, true, false, false, false] rfl rfl (any_of HT_.out (by kernel_rfl)) (fun _ _ _ h => h) (Or.inl ⟨by rfl, ?_⟩) ?_ ?_
                     rotate_left
                     ·intro w'
                      first | (go_simp; with_reducible rfl) | (go_simp; refine (if_neg (by omega)).trans ?_; with_reducible rfl)
                     rotate_left
                     ·simp only [Act.put, List.setIfInBounds_toArray, List.set_cons_zero, List.set_cons_succ, i64_w, i32_w]
                      rfl
                     refine pure_ (i := 11) (N := some 58) (v := ?_) (a' := ?_) #[true, true, true, true, true, true, true, true, true, true, true, true, true, true, false, false, false] rfl rfl (any_of HT_.out (by kernel_rfl)) (fun _ _ _ h => h) (Or.inl ⟨by rfl, ?_⟩) ?_ ?_
                     rotate_left
                     ·intro w'
                      first | (go_simp; with_reducible rfl) | (go_simp; refine (if_neg (by omega)).trans ?_; with_reducible rfl)
                     rotate_left
                     ·simp only [Act.put, List.setIfInBounds_toArray, List.set_cons_zero, List.set_cons_succ, i64_w, i32_w]
                      rfl
                     refine Qs 14 (some 61) (fun K hK => ?_)
                     refine goes_ Tryd.func61 (by kernel_rfl) rfl #[.int .i64 ((rd_T54 l0 x11_1).f3)] (by rfl) rfl rfl (by (try simp only [List.map_toArray, List.map_cons, List.map_nil]); first | done | rfl | (simp only [List.length_drop, List.length_take]; rfl)) ?_
                     with_reducible refine (spec_l5Number.calls kj25 ((rd_T54 l0 x11_1).f3) t164 _ A45.out).mono ?_
                     rintro e w50 ⟨rfl, hb⟩
                     refine ⟨_, rfl, ?_⟩
                     have n0_ := Ak (Qm BK155.out hb)
                     have n1_ := Ak (below_step (Qb HB.out) hb)
                     clear BK155 HB
                     have BK155 := n0_
                     have HB := n1_
                     clear n0_ n1_
                     (try clear hb); (try clear hb2); (try clear hk); (try clear hi)
                     refine hK.out _ _ ⟨(blk_cell BK155.out 0).trans rfl, (blk_cell BK155.out 1).trans rfl, (blk_cell BK155.out 2).trans rfl, (blk_cell BK155.out 3).trans rfl⟩ (fun hHeld => ?_)
                     clear hK K
                     refine norm_ (a' := ?_) ?_ ?_
                     rotate_left
                     ·show Act.put _ (some 61) _ = _
                      simp only [Act.put, List.setIfInBounds_toArray, List.set_cons_zero, List.set_cons_succ, i64_w, i32_w]
                      rfl
                     refine pure_ (i := 15) (N := some 62) (v := ?_) (a' := ?_) #[true, true, true, true, true, true, true, true, true, true, true, true, true, true, true, true, false] rfl rfl (any_of HT_.out (by kernel_rfl)) (fun _ _ _ h => h) (Or.inl ⟨by rfl, ?_⟩) ?_ ?_
                     rotate_left
                     ·intro w'
                      first | (go_simp; with_reducible rfl) | (go_simp; refine (if_neg (by omega)).trans ?_; with_reducible rfl)
                     rotate_left
                     ·simp only [Act.put, List.setIfInBounds_toArray, List.set_cons_zero, List.set_cons_succ, i64_w, i32_w]
                      rfl
                     refine pure_ (i := 16) (N := some 3) (v := ?_) (a' := ?_) #[true, true, true, true, true, true, true, true, true, true, true, true, true, true, true, true, true] rfl rfl (any_of HT_.out (by kernel_rfl)) (fun _ _ _ h => h) (Or.inl ⟨by rfl, ?_⟩) ?_ ?_
                     rotate_left
                     ·intro w'
                      first | (go_simp; with_reducible rfl) | (go_simp; refine (if_neg (by omega)).trans ?_; with_reducible rfl)
                     rotate_left
                     ·simp only [Act.put, List.setIfInBounds_toArray, List.set_cons_zero, List.set_cons_succ, i64_w, i32_w]
                      rfl
                     refine done_ (done_of HT_.out (by kernel_rfl)) ?_
                     try go_wp2
                     go_roundg kj25
                     case measure => have := HK1.out; have := HJ7.out; have := HJ25.out; omega
                     case rel => exact ⟨(((((((x3_7 ++ t156) ++ (⟨#[32]⟩ : ByteArray)) ++ t162) ++ (⟨#[32]⟩ : ByteArray)) ++ t163) ++ (⟨#[32]⟩ : ByteArray)) ++ t164), (wrap64 (x11_1 + 1)), Qi, Qi, H', ⟨by have := HK1.out; have := HJ7.out; have := HJ25.out; omega⟩, ⟨Qb HB.out⟩⟩
                    ·rw [if_neg c46] at H
                     exact absurd H (by simp)
                   ·rw [if_neg c44] at H
                    exact absurd H (by simp)
                  ·rw [if_neg c43] at H
                   exact absurd H (by simp)
                 ·rw [if_neg c41] at H
                  exact absurd H (by simp)
                ·rw [if_neg c40] at H
                 exact absurd H (by simp)
               ·rw [if_neg c38] at H
                exact absurd H (by simp)
              ·rw [if_neg c37] at H
               have c37b0 : (((rd_T54 l0 x11_1).f0) == 14) = false := beq_eq_false_iff_ne.mpr c37
               have c37b1 : (((rd_T54 l0 x11_1).f0) != 14) = true := bne_iff_ne.mpr c37
               have H' := Ak H
               clear H
               go_wp2
               go_roundg kj25
               case measure => have := HK1.out; have := HJ7.out; have := HJ25.out; omega
               case rel => exact ⟨((x3_7 ++ t156)), (wrap64 (x11_1 + 1)), Qi, Qi, H', ⟨by have := HK1.out; have := HJ7.out; have := HJ25.out; omega⟩, ⟨Qb HB.out⟩⟩
         ·rw [if_neg c14] at H
          exact absurd H (by simp)
      ·rw [if_neg c7] at H
       exact absurd H (by simp)
     ·rw [if_neg c6] at H
      exact absurd H (by simp)
    ·rw [if_neg c5] at H
     have c5b0 : decide (x11_1 < (l0.length : Int)) = false := decide_eq_false c5
     clear c5
     obtain rfl := Option.some.inj H
     go_wp2
     go_ret
     exact ⟨Qh, Qb HB.out⟩
 ·replace c3 := Bool.eq_false_iff.mpr c3
  (try subst c3)
  have H1 : (some (⟨#[]⟩ : ByteArray)) = some r := by rw [if_neg (show ¬ (false = true) by decide)] at H; exact H
  clear H
  have H := H1
  clear H1
  obtain rfl := Option.some.inj H
  go_enter Tryd.func23, Tryd.ntmps23
  go_wp2_with (first | ((with_reducible refine gate_callee (f := 57) rfl ?_); refine Qj (some 7) Tryd.func57 #[.slice A0 l0.length c0] ?_; (with_reducible refine (spec_IsCode.calls k _ _ l0 false _ ?side1 ?side2 A2.out).mono ?_); (case side1 => repeat (first | exact HR0.out | (with_reducible refine Kd.C_alloc ?_ _) | (with_reducible refine Kd.C_drewN ?_ _) | (with_reducible refine Kd.C_drew ?_))); (case side2 => exact HC0.out); rintro e w51 ⟨rfl, hb⟩; refine ⟨_, rfl, ?_⟩; have n0_ := Ak (below_step (Qb HB.out) hb); clear HB; have HB := n0_; clear n0_; (try clear hb); (try clear hb2); (try clear hk); (try clear hi)))
  go_ret
  exact ⟨Qh, Qb HB.out⟩

/-! ### laws_toOp: function 62 -/
def laws_toOp.f (a0_0 : Int) (a0_1 : Int) (a0_2 : Int) (a0_3 : Int) : Option (Int × Int × Int × Int) := some (a0_0, a0_1, a0_2, a0_3)
theorem laws_toOp.calls (a0_0 : Int) (a0_1 : Int) (a0_2 : Int) (a0_3 : Int) (r1 : Int) (r2 : Int) (r3 : Int) (r4 : Int) (w : World) (h : laws_toOp.f a0_0 a0_1 a0_2 a0_3 = some (r1, r2, r3, r4)) :
  Calls Tryd.prog 62 #[.agg #[.int .i64 a0_0, .int .i64 a0_1, .int .i64 a0_2, .int .i64 a0_3]] w fun e w' => e = .returned (.agg #[.int .i64 r1, .int .i64 r2, .int .i64 r3, .int .i64 r4]) ∧ Below w.heap.size w w' := by
 have hu81 := Tryd.underlying81
 have hu54 := Tryd.underlying54
 have HB := Ak (Below.refl w.heap.size w)
 have H : (some (a0_0, a0_1, a0_2, a0_3)) = some (r1, r2, r3, r4) := h
 clear h
 simp only [Option.some.injEq, Prod.mk.injEq] at H
 obtain ⟨rfl, rfl, rfl, rfl⟩ := H
 go_enter Tryd.func62, Tryd.ntmps62
 go_wp2_with (first | ((with_reducible refine gate_dst (N := 1) rfl ?_); refine Qk 1 #[.int .i64 a0_0, .int .i64 a0_1, .int .i64 a0_2, .int .i64 a0_3] 81 ?_; intro gb165 hg w2 hbox hb; have n0_ := Ak (below_step (Qb HB.out) hb); have n1_ := Ak (hbox); have n2_ := Ak ((Qp hg HB.out : w.heap.size ≤ gb165)); have n3_ := Ak ((Qp hg HB.out : w.heap.size ≤ gb165)); clear HB; have HB := n0_; have BK165 := n1_; have GW165 := n2_; have GE165 := n3_; clear n0_ n1_ n2_ n3_; clear hb hbox hg) | ((with_reducible refine gate_dst (N := 2) rfl ?_); refine Qk 2 #[.int .i64 0, .int .i64 0, .int .i64 0, .int .i64 0] 54 ?_; intro gb166 hg w3 hbox hb; have n0_ := Ak (Qm BK165.out hb); have n1_ := Ak (below_step (Qb HB.out) hb); have n2_ := Ak (hbox); have n3_ := Ak ((Qp hg HB.out : w.heap.size ≤ gb166)); have n4_ := Ak ((Qp hg HB.out : w.heap.size ≤ gb166)); have n5_ := Ak ((by rw [hg]; exact Nat.ne_of_lt (Qn BK165.out) : gb165 ≠ gb166)); have n6_ := Ak ((by rw [hg]; exact Nat.ne_of_gt (Qn BK165.out) : gb166 ≠ gb165)); clear BK165 HB; have BK165 := n0_; have HB := n1_; have BK166 := n2_; have GW166 := n3_; have GE166 := n4_; have NB165_166 := n5_; have NB166_165 := n6_; clear n0_ n1_ n2_ n3_ n4_ n5_ n6_; clear hb hbox hg) | ((with_reducible refine gate_dst (N := 3) rfl ?_); refine Qk 3 #[.int .i64 0, .int .i64 0, .int .i64 0, .int .i64 0] 54 ?_; intro gb167 hg w4 hbox hb; have n0_ := Ak (Qm BK165.out hb); have n1_ := Ak (Qm BK166.out hb); have n2_ := Ak (below_step (Qb HB.out) hb); have n3_ := Ak (hbox); have n4_ := Ak ((Qp hg HB.out : w.heap.size ≤ gb167)); have n5_ := Ak ((Qp hg HB.out : w.heap.size ≤ gb167)); have n6_ := Ak ((by rw [hg]; exact Nat.ne_of_lt (Qn BK165.out) : gb165 ≠ gb167)); have n7_ := Ak ((by rw [hg]; exact Nat.ne_of_gt (Qn BK165.out) : gb167 ≠ gb165)); have n8_ := Ak ((by rw [hg]; exact Nat.ne_of_lt (Qn BK166.out) : gb166 ≠ gb167)); have n9_ := Ak ((by rw [hg]; exact Nat.ne_of_gt (Qn BK166.out) : gb167 ≠ gb166)); clear BK165 BK166 HB; have BK165 := n0_; have BK166 := n1_; have HB := n2_; have BK167 := n3_; have GW167 := n4_; have GE167 := n5_; have NB165_167 := n6_; have NB167_165 := n7_; have NB166_167 := n8_; have NB167_166 := n9_; clear n0_ n1_ n2_ n3_ n4_ n5_ n6_ n7_ n8_ n9_; clear hb hbox hg; have hnb5 := NB165_166.out; have hnc5 := NB166_165.out; have hnb6 := NB165_167.out; have hnc6 := NB167_165.out; obtain ⟨hcz7_0, hcz7_1, hcz7_2, hcz7_3, hfz7_0, hfz7_1, hfz7_2, hfz7_3⟩ := Qv4 BK165.out; have hnb8 := NB167_166.out; have hnc8 := NB166_167.out; obtain ⟨hcz9_0, hcz9_1, hcz9_2, hcz9_3, hfz9_0, hfz9_1, hfz9_2, hfz9_3⟩ := Qv4 BK167.out; obtain ⟨hcz10_0, hcz10_1, hcz10_2, hcz10_3⟩ := Qu4 BK166.out; have hfz10_0 := blk_frozen BK166.out 0; have hfz10_1 := blk_frozen BK166.out 1; have hfz10_2 := blk_frozen BK166.out 2; have hfz10_3 := blk_frozen BK166.out 3))
 refine bodyPost_ret (results_cell_row rfl _ _ gb166 54 #[.int .i64 a0_0, .int .i64 a0_1, .int .i64 a0_2, .int .i64 a0_3] (0, 0) _ rfl (by refine Qe ?_; refine blk_put (cs := #[.int .i64 a0_0, .int .i64 a0_1, .int .i64 a0_2, .int .i64 0]) ?_ 3 _ rfl; refine Qe ?_; refine blk_put (cs := #[.int .i64 a0_0, .int .i64 a0_1, .int .i64 0, .int .i64 0]) ?_ 2 _ rfl; refine Qe ?_; refine blk_put (cs := #[.int .i64 a0_0, .int .i64 0, .int .i64 0, .int .i64 0]) ?_ 1 _ rfl; refine Qe ?_; refine blk_put (cs := #[.int .i64 0, .int .i64 0, .int .i64 0, .int .i64 0]) ?_ 0 _ rfl; refine Qe ?_; refine blk_far ?_ NB166_167.out _; refine Qe ?_; refine blk_far ?_ NB166_167.out _; refine Qe ?_; refine blk_far ?_ NB166_167.out _; refine Qe ?_; refine blk_far ?_ NB166_167.out _; exact Qa BK166.out) Tryd.underlying54 rfl (by kernel_rfl)) rfl ?_
 exact ⟨Qh, Qb HB.out⟩

end Go.Proofs.YtjfgcipbbcplmaaDoor.HFnExactFormatCode

/- Text for FnExactFormatCode: written by a program of this session on the pattern of the kit's print. -/
import Derived.Test.YtjfgcipbbcplmaaDoorHFnExactFormatCodex0
import Derived.Test.YtjfgcipbbcplmaaDoorHFnExactFormatCodex4
import Derived.Test.YtjfgcipbbcplmaaDoorHFnExactFormatCodex5
namespace Go.Proofs.YtjfgcipbbcplmaaDoor.HFnExactFormatCode
set_option maxHeartbeats 8000000
set_option maxRecDepth 100000
open Go.RowKit Go.Proofs.YtjfgcipbbcplmaaDoorW.PrintWords Go.Proofs.YtjfgcipbbcplmaaDoorW.PrintLast Go.Proofs.YtjfgcipbbcplmaaDoorW.PrintMore
attribute [local go_sem] max2_int min2_int max_two min_two max_three min_three max_four min_four
set_option linter.unusedVariables false
set_option linter.unusedSimpArgs false

/-! ### impl_FormatCode: function 25 -/
mutual
def impl_FormatCode.l0 : Nat → List ByteArray → List (S54) → Int → Int → Option (ByteArray)
 | 0, _, _, _, _ => none
 | k + 1, x3, x13, x14, x15 => if x15 < x14 then (if 0 ≤ x15 then (if x15 < (x13.length : Int) then ((impl_OpName.f ((rd_T54 x13 x15).f0)).bind fun t226 => (if ((rd_T54 x13 x15).f0) = 1 then ((impl_WordOf.f k ((rd_T54 x13 x15).f1) 9).bind fun bt227 => ((impl_FormatWord.f k bt227.1).bind fun t231 => (if 1 + t231.size ≤ 9223372036854775807 then (if t226.size + ((⟨#[32]⟩ : ByteArray) ++ t231).size ≤ 9223372036854775807 then (if x3.length < 8796093022208 then (impl_FormatCode.l0 k (x3 ++ [t226 ++ ((⟨#[32]⟩ : ByteArray) ++ t231)]) x13 x14 (wrap64 (x15 + 1))) else (none)) else (none)) else (none)))) else (if ((rd_T54 x13 x15).f0) = 10 then (impl_FormatCode.j1 k x3 t226 x13 x14 x15 ((rd_T54 x13 x15).f0) (((rd_T54 x13 x15).f0) == 10) ((rd_T54 x13 x15).f0) ((rd_T54 x13 x15).f1) ((rd_T54 x13 x15).f2) ((rd_T54 x13 x15).f3)) else (impl_FormatCode.j1 k x3 t226 x13 x14 x15 ((rd_T54 x13 x15).f0) (((rd_T54 x13 x15).f0) == 13) ((rd_T54 x13 x15).f0) ((rd_T54 x13 x15).f1) ((rd_T54 x13 x15).f2) ((rd_T54 x13 x15).f3))))) else (none)) else (none)) else ((strings_Join.f x3 (⟨#[59]⟩ : ByteArray)).bind fun t223 => (some t223))
def impl_FormatCode.j1 : Nat → List ByteArray → ByteArray → List (S54) → Int → Int → Int → Bool → Int → Int → Int → Int → Option (ByteArray)
 | 0, _, _, _, _, _, _, _, _, _, _, _ => none
 | k + 1, x3, x6, x13, x14, x15, x23, x37, x226000, x226001, x226002, x226003 => if x37 = true then ((strconv_Itoa.f x226001).bind fun t235 => (if 1 + t235.size ≤ 9223372036854775807 then (if x6.size + ((⟨#[32]⟩ : ByteArray) ++ t235).size ≤ 9223372036854775807 then (if x3.length < 8796093022208 then (impl_FormatCode.l0 k (x3 ++ [x6 ++ ((⟨#[32]⟩ : ByteArray) ++ t235)]) x13 x14 (wrap64 (x15 + 1))) else (none)) else (none)) else (none))) else (if x23 = 14 then ((strconv_Itoa.f x226001).bind fun t239 => (if 1 + t239.size ≤ 9223372036854775807 then (if ((⟨#[32]⟩ : ByteArray) ++ t239).size + 1 ≤ 9223372036854775807 then ((strconv_Itoa.f x226002).bind fun t240 => (if (((⟨#[32]⟩ : ByteArray) ++ t239) ++ (⟨#[32]⟩ : ByteArray)).size + t240.size ≤ 9223372036854775807 then (if ((((⟨#[32]⟩ : ByteArray) ++ t239) ++ (⟨#[32]⟩ : ByteArray)) ++ t240).size + 1 ≤ 9223372036854775807 then ((strconv_Itoa.f x226003).bind fun t241 => (if (((((⟨#[32]⟩ : ByteArray) ++ t239) ++ (⟨#[32]⟩ : ByteArray)) ++ t240) ++ (⟨#[32]⟩ : ByteArray)).size + t241.size ≤ 9223372036854775807 then (if x6.size + ((((((⟨#[32]⟩ : ByteArray) ++ t239) ++ (⟨#[32]⟩ : ByteArray)) ++ t240) ++ (⟨#[32]⟩ : ByteArray)) ++ t241).size ≤ 9223372036854775807 then (if x3.length < 8796093022208 then (impl_FormatCode.l0 k (x3 ++ [x6 ++ ((((((⟨#[32]⟩ : ByteArray) ++ t239) ++ (⟨#[32]⟩ : ByteArray)) ++ t240) ++ (⟨#[32]⟩ : ByteArray)) ++ t241)]) x13 x14 (wrap64 (x15 + 1))) else (none)) else (none)) else (none))) else (none)) else (none))) else (none)) else (none))) else (if x3.length < 8796093022208 then (impl_FormatCode.l0 k (x3 ++ [x6]) x13 x14 (wrap64 (x15 + 1))) else (none)))
end
def impl_FormatCode.f (k : Nat) (l0 : List (S54)) : Option (ByteArray) := (impl_IsCode.f k l0).bind fun t219 => (if t219 = true then (impl_FormatCode.l0 k (([] : List ByteArray)) l0 (l0.length : Int) 0) else (some (⟨#[]⟩ : ByteArray)))
theorem impl_FormatCode.mono_l : ∀ k, (∀ y0 y1 y2 y3, LeO (impl_FormatCode.l0 k y0 y1 y2 y3) (impl_FormatCode.l0 (k + 1) y0 y1 y2 y3)) ∧ (∀ y0 y1 y2 y3 y4 y5 y6 y7 y8 y9 y10, LeO (impl_FormatCode.j1 k y0 y1 y2 y3 y4 y5 y6 y7 y8 y9 y10) (impl_FormatCode.j1 (k + 1) y0 y1 y2 y3 y4 y5 y6 y7 y8 y9 y10))
 | 0 => ⟨fun _ _ _ _ r h => by simp [impl_FormatCode.l0] at h, fun _ _ _ _ _ _ _ _ _ _ _ r h => by simp [impl_FormatCode.j1] at h⟩
 | k + 1 => by
  obtain ⟨ih0, ih1⟩ := impl_FormatCode.mono_l k
  refine ⟨?_, ?_⟩
  ·intro y0 y1 y2 y3
   unfold impl_FormatCode.l0
   repeat' first
   | (with_reducible exact ih0 _ _ _ _)
   | (with_reducible exact ih1 _ _ _ _ _ _ _ _ _ _ _)
   | (with_reducible exact impl_FormatWord.mono _ _)
   | (with_reducible exact impl_IsCode.mono _ _)
   | (with_reducible exact impl_WordOf.mono _ _ _)
   | (with_reducible exact LeO.refl _)
   | (with_reducible exact LeO.none _)
   | (with_reducible refine LeO.ite ?_ ?_)
   | (with_reducible refine LeO.bind ?_ (fun _ => ?_))
   | exact ih0 _ _ _ _
   | exact ih1 _ _ _ _ _ _ _ _ _ _ _
   | exact impl_FormatWord.mono _ _
   | exact impl_IsCode.mono _ _
   | exact impl_WordOf.mono _ _ _
   | exact LeO.none _
   | refine LeO.ite ?_ ?_
   | refine LeO.bind ?_ (fun _ => ?_)
  ·intro y0 y1 y2 y3 y4 y5 y6 y7 y8 y9 y10
   unfold impl_FormatCode.j1
   repeat' first
   | (with_reducible exact ih0 _ _ _ _)
   | (with_reducible exact ih1 _ _ _ _ _ _ _ _ _ _ _)
   | (with_reducible exact impl_FormatWord.mono _ _)
   | (with_reducible exact impl_IsCode.mono _ _)
   | (with_reducible exact impl_WordOf.mono _ _ _)
   | (with_reducible exact LeO.refl _)
   | (with_reducible exact LeO.none _)
   | (with_reducible refine LeO.ite ?_ ?_)
   | (with_reducible refine LeO.bind ?_ (fun _ => ?_))
   | exact ih0 _ _ _ _
   | exact ih1 _ _ _ _ _ _ _ _ _ _ _
   | exact impl_FormatWord.mono _ _
   | exact impl_IsCode.mono _ _
   | exact impl_WordOf.mono _ _ _
   | exact LeO.none _
   | refine LeO.ite ?_ ?_
   | refine LeO.bind ?_ (fun _ => ?_)
theorem impl_FormatCode.mono : ∀ a0 k, LeO (impl_FormatCode.f k a0) (impl_FormatCode.f (k + 1) a0) := by
 intro a0 k
 obtain ⟨ih0, ih1⟩ := impl_FormatCode.mono_l k
 unfold impl_FormatCode.f
 repeat' first
   | (with_reducible exact ih0 _ _ _ _)
   | (with_reducible exact ih1 _ _ _ _ _ _ _ _ _ _ _)
   | (with_reducible exact impl_FormatWord.mono _ _)
   | (with_reducible exact impl_IsCode.mono _ _)
   | (with_reducible exact impl_WordOf.mono _ _ _)
   | (with_reducible exact LeO.refl _)
   | (with_reducible exact LeO.none _)
   | (with_reducible refine LeO.ite ?_ ?_)
   | (with_reducible refine LeO.bind ?_ (fun _ => ?_))
   | exact ih0 _ _ _ _
   | exact ih1 _ _ _ _ _ _ _ _ _ _ _
   | exact impl_FormatWord.mono _ _
   | exact impl_IsCode.mono _ _
   | exact impl_WordOf.mono _ _ _
   | exact LeO.none _
   | refine LeO.ite ?_ ?_
   | refine LeO.bind ?_ (fun _ => ?_)
def impl_FormatCode.T16 : Bool × List (List Nat × List Nat) := (true, [([], []), ([], []), ([1], [1]), ([2], [2]), ([3], [3]), ([4], [4]), ([], []), ([6], [6]), ([7, 3], [7]), ([5, 8], [5, 8]), ([9], [9]), ([], []), ([11], [11]), ([12, 8], [12]), ([10, 13], [10, 13]), ([0, 14], [0, 14]), ([15, 13, 0, 1, 2, 3, 4, 5, 6, 7, 8, 9, 10, 11, 12, 13, 14, 15], [0, 15])])
def impl_FormatCode.B16 : List Nat := [0, 0, 2, 6, 14, 30, 0, 64, 206, 510, 1022, 0, 2048, 6606, 16382, 32767, 65535]
theorem impl_FormatCode.tab16 : rtab .any (opsOf Tryd.f25 16) = impl_FormatCode.T16 := by kernel_rfl
theorem impl_FormatCode.bits16 : waitsOk impl_FormatCode.T16.2 impl_FormatCode.B16 = true := by kernel_rfl
theorem impl_FormatCode.calls (k : Nat) (A0 : Option Addr) (c0 : Nat) (l0 : List (S54)) (r : ByteArray) (w : World) (hr0 : Kd.C k54 w A0 l0.length l0) (hc0 : l0.length ≤ c0) (hL : Aside0 (Laid w)) (h : impl_FormatCode.f k l0 = some r) :
  Calls Tryd.prog 25 #[.slice A0 l0.length c0] w fun e w' => e = .returned (.string r) ∧ Below w.heap.size w w' := by
 have hu54 := Tryd.underlying54
 have HR0 := Ak hr0
 have HC0 := Ak hc0
 clear hr0 hc0
 have HB := Ak (Below.refl w.heap.size w)
 have H : ((impl_IsCode.f k l0).bind fun t219 => (if t219 = true then (impl_FormatCode.l0 k (([] : List ByteArray)) l0 (l0.length : Int) 0) else (some (⟨#[]⟩ : ByteArray)))) = some r := h
 clear h
 replace H := Option.bind_eq_some_iff.mp H
 obtain ⟨t219, A20, H⟩ := H
 replace H : (if t219 = true then (impl_FormatCode.l0 k (([] : List ByteArray)) l0 (l0.length : Int) 0) else (some (⟨#[]⟩ : ByteArray))) = some r := H
 have A2 := Ak A20
 clear A20
 by_cases c3 : t219 = true
 ·(try subst c3)
  have H1 : (impl_FormatCode.l0 k (([] : List ByteArray)) l0 (l0.length : Int) 0) = some r := by rw [if_pos rfl] at H; exact H
  clear H
  have H := H1
  clear H1
  obtain ⟨y220, hy220⟩ : ∃ y_ : List ByteArray, y_ = (([] : List ByteArray)) := ⟨_, rfl⟩
  replace H : (impl_FormatCode.l0 k y220 l0 (l0.length : Int) 0) = some r := by first | (rw [hy220]; with_reducible exact H) | (have H2_ := (Option.bind_some _ _).symm.trans H; rw [hy220]; with_reducible exact H2_) | (have H2_ := (Option.bind_some _ _).symm.trans H; with_reducible exact H2_) | with_reducible exact H | (rw [hy220]; exact H) | exact H
  have Ny220 := Ak hy220
  clear hy220
  have H' := Ak H
  clear H
  go_enter Tryd.func25, Tryd.ntmps25
  go_wp2_with (first | ((with_reducible refine gate_callee (f := 63) rfl ?_); refine Qj (some 10) Tryd.func63 #[.slice A0 l0.length c0] ?_; (with_reducible refine (impl_IsCode.calls k _ _ l0 true _ ?side1 ?side2 A2.out).mono ?_); (case side1 => repeat (first | exact HR0.out | (with_reducible refine Kd.C_alloc ?_ _) | (with_reducible refine Kd.C_drewN ?_ _) | (with_reducible refine Kd.C_drew ?_))); (case side2 => exact HC0.out); rintro e w4 ⟨rfl, hb⟩; refine ⟨_, rfl, ?_⟩; have n0_ := Ak (below_step (Qb HB.out) hb); clear HB; have HB := n0_; clear n0_; (try clear hb); (try clear hb2); (try clear hk); (try clear hi)) | ((with_reducible refine gate_dst (N := 12) rfl ?_); refine Kd.R_lit Kd.string _ 9 ?hg (N := 12) ?hd (xs := ([] : List ByteArray)) (inner := []) (ok := fun _ => True) (okp := fun _ => True) ?hr ?hp (fun _ hk => hk) trivial (Below.refl _ _) (Nat.le_refl _) (by simp) ?_; (case hd => rfl); (case hg => rfl); (case hr => first | (go_simp; done) | (go_simp; rfl)); (case hp => exact (Reps.none _ _)); intro v221 w5 ho6 hb hg_ hnew_; clear hg_ hnew_; (first | rw [← Ny220.out] at ho6 | (simp only [Int.reduceToNat] at ho6; rw [← Ny220.out] at ho6)); have n0_ := Ak (Kd.R_lower ho6 (below_size (Qb HB.out))); have n1_ := Ak (below_step (Qb HB.out) hb); clear HB; have HO222 := n0_; have HB := n1_; clear n0_ n1_; clear hb ho6))
  go_loopg [3, 15] k (fun kq v3 v15 w' => ∃ (x3_1 : List ByteArray) (x15_1 : Int), v15 = .int .i64 x15_1 ∧ Aside0 (impl_FormatCode.l0 kq x3_1 l0 (l0.length : Int) x15_1 = some r) ∧ Aside0 (kq ≤ k) ∧ Aside0 (Kd.R Kd.string 9 w' w.heap.size (fun _ => True) v3 x3_1) ∧ Aside0 (Below w.heap.size w w'))
  case atStart => exact ⟨(y220), (0), Qi, H', ⟨Nat.le_refl _⟩, ⟨by refine Qf ?_; exact HO222.out⟩, ⟨Qb HB.out⟩⟩
  case round =>
   clear H'
   (try clear c2); (try clear p2); (try clear c3); (try clear c6)
   obtain ⟨x3_1, x15_1, rfl, HA, HK1, HO_3, HB⟩ := hrel
   cases gk with
   | zero => exact absurd HA.out (by simp [impl_FormatCode.l0])
   | succ k1 =>
    have H := HA.out
    clear HA
    simp only [impl_FormatCode.l0] at H
    by_cases c7 : x15_1 < (l0.length : Int)
    ·rw [if_pos c7] at H
     have c7b0 : decide (x15_1 < (l0.length : Int)) = true := decide_eq_true c7
     clear c7
     by_cases c8 : 0 ≤ x15_1
     ·rw [if_pos c8] at H
      have c8b0 : decide (0 ≤ x15_1) = true := decide_eq_true c8
      clear c8
      by_cases c9 : x15_1 < (l0.length : Int)
      ·rw [if_pos c9] at H
       have c9b0 : decide (x15_1 < (l0.length : Int)) = true := decide_eq_true c9
       clear c9
       replace H := Option.bind_eq_some_iff.mp H
       obtain ⟨t226, A100, H⟩ := H
       replace H : (if ((rd_T54 l0 x15_1).f0) = 1 then ((impl_WordOf.f k1 ((rd_T54 l0 x15_1).f1) 9).bind fun bt227 => ((impl_FormatWord.f k1 bt227.1).bind fun t231 => (if 1 + t231.size ≤ 9223372036854775807 then (if t226.size + ((⟨#[32]⟩ : ByteArray) ++ t231).size ≤ 9223372036854775807 then (if x3_1.length < 8796093022208 then (impl_FormatCode.l0 k1 (x3_1 ++ [t226 ++ ((⟨#[32]⟩ : ByteArray) ++ t231)]) l0 (l0.length : Int) (wrap64 (x15_1 + 1))) else (none)) else (none)) else (none)))) else (if ((rd_T54 l0 x15_1).f0) = 10 then (impl_FormatCode.j1 k1 x3_1 t226 l0 (l0.length : Int) x15_1 ((rd_T54 l0 x15_1).f0) (((rd_T54 l0 x15_1).f0) == 10) ((rd_T54 l0 x15_1).f0) ((rd_T54 l0 x15_1).f1) ((rd_T54 l0 x15_1).f2) ((rd_T54 l0 x15_1).f3)) else (impl_FormatCode.j1 k1 x3_1 t226 l0 (l0.length : Int) x15_1 ((rd_T54 l0 x15_1).f0) (((rd_T54 l0 x15_1).f0) == 13) ((rd_T54 l0 x15_1).f0) ((rd_T54 l0 x15_1).f1) ((rd_T54 l0 x15_1).f2) ((rd_T54 l0 x15_1).f3)))) = some r := H
       have A10 := Ak A100
       clear A100
       by_cases c11 : ((rd_T54 l0 x15_1).f0) = 1
       ·rw [if_pos c11] at H
        have c11b0 : (((rd_T54 l0 x15_1).f0) == 1) = true := beq_iff_eq.mpr c11
        have c11b1 : (((rd_T54 l0 x15_1).f0) != 1) = false := bne_eq_false_iff_eq.mpr c11
        clear c11
        replace H := Option.bind_eq_some_iff.mp H
        obtain ⟨⟨t227, t228⟩, A120, H⟩ := H
        replace H : ((impl_FormatWord.f k1 t227).bind fun t231 => (if 1 + t231.size ≤ 9223372036854775807 then (if t226.size + ((⟨#[32]⟩ : ByteArray) ++ t231).size ≤ 9223372036854775807 then (if x3_1.length < 8796093022208 then (impl_FormatCode.l0 k1 (x3_1 ++ [t226 ++ ((⟨#[32]⟩ : ByteArray) ++ t231)]) l0 (l0.length : Int) (wrap64 (x15_1 + 1))) else (none)) else (none)) else (none))) = some r := H
        have A12 := Ak A120
        clear A120
        replace H := Option.bind_eq_some_iff.mp H
        obtain ⟨t231, A130, H⟩ := H
        replace H : (if 1 + t231.size ≤ 9223372036854775807 then (if t226.size + ((⟨#[32]⟩ : ByteArray) ++ t231).size ≤ 9223372036854775807 then (if x3_1.length < 8796093022208 then (impl_FormatCode.l0 k1 (x3_1 ++ [t226 ++ ((⟨#[32]⟩ : ByteArray) ++ t231)]) l0 (l0.length : Int) (wrap64 (x15_1 + 1))) else (none)) else (none)) else (none)) = some r := H
        have A13 := Ak A130
        clear A130
        by_cases c14 : 1 + t231.size ≤ 9223372036854775807
        ·rw [if_pos c14] at H
         have c14b0 := eq_true c14
         have c14b1 : decide (1 + t231.size ≤ 9223372036854775807) = true := decide_eq_true c14
         try have c14b2 : (9223372036854775807 < 1 + t231.size) = False := eq_false (Nat.not_lt.2 c14)
         by_cases c15 : t226.size + ((⟨#[32]⟩ : ByteArray) ++ t231).size ≤ 9223372036854775807
         ·rw [if_pos c15] at H
          have c15b0 := eq_true c15
          have c15b1 : decide (t226.size + ((⟨#[32]⟩ : ByteArray) ++ t231).size ≤ 9223372036854775807) = true := decide_eq_true c15
          try have c15b2 : (9223372036854775807 < t226.size + ((⟨#[32]⟩ : ByteArray) ++ t231).size) = False := eq_false (Nat.not_lt.2 c15)
          have c15n := c15
          (simp only [ByteArray.size_append', ByteArray.size_mk', ByteArray.size_extract, List.size_toArray, List.length_cons, List.length_nil] at c15n)
          by_cases c16 : x3_1.length < 8796093022208
          ·rw [if_pos c16] at H
           have LMc16 := Ak c16
           clear c16
           obtain ⟨y232, hy232⟩ : ∃ y_ : List ByteArray, y_ = (x3_1 ++ [t226 ++ ((⟨#[32]⟩ : ByteArray) ++ t231)]) := ⟨_, rfl⟩
           replace H : (impl_FormatCode.l0 k1 y232 l0 (l0.length : Int) (wrap64 (x15_1 + 1))) = some r := by first | (rw [hy232]; with_reducible exact H) | (have H2_ := (Option.bind_some _ _).symm.trans H; rw [hy232]; with_reducible exact H2_) | (have H2_ := (Option.bind_some _ _).symm.trans H; with_reducible exact H2_) | with_reducible exact H | (rw [hy232]; exact H) | exact H
           have Ny232 := Ak hy232
           clear hy232
           have H' := Ak H
           clear H
           have p224 : 0 ≤ (x15_1 : Int) := Qg
           have q224 : x15_1 < (l0.length : Int) := Qg
           obtain ⟨ad224, e224, hx224_0, hx224_1, hx224_2, hx224_3⟩ := at_T54 HR0.out x15_1 p224 q224
           cases e224
           (try replace hx224_0 := (HB.out.cell (World.block_lt_of_cell? w _ hx224_0)).trans hx224_0)
           (try replace hx224_1 := (HB.out.cell (World.block_lt_of_cell? w _ hx224_1)).trans hx224_1)
           (try replace hx224_2 := (HB.out.cell (World.block_lt_of_cell? w _ hx224_2)).trans hx224_2)
           (try replace hx224_3 := (HB.out.cell (World.block_lt_of_cell? w _ hx224_3)).trans hx224_3)
           replace p224 := eq_true p224
           replace q224 := eq_true q224
           go_wp2_with (first | ((with_reducible refine gate_dst (N := 5) rfl ?_); refine Qk 5 #[.int .i64 0, .int .i64 0, .int .i64 0, .int .i64 0] 54 ?_; intro gb225 hg w17 hbox hb; have n0_ := Ak (Kd.R_below (Qc HO_3.out) hb); have n1_ := Ak (below_step (Qb HB.out) hb); have n2_ := Ak (hbox); have n3_ := Ak ((Qp hg HB.out : w.heap.size ≤ gb225)); have n4_ := Ak ((Qp hg HB.out : w.heap.size ≤ gb225)); clear HO_3 HB; have HO_3 := n0_; have HB := n1_; have BK225 := n2_; have GW225 := n3_; have GE225 := n4_; clear n0_ n1_ n2_ n3_ n4_; clear hb hbox hg; obtain ⟨hcz18_0, hcz18_1, hcz18_2, hcz18_3⟩ := Qu4 BK225.out; have hfz18_0 := blk_frozen BK225.out 0; have hfz18_1 := blk_frozen BK225.out 1; have hfz18_2 := blk_frozen BK225.out 2; have hfz18_3 := blk_frozen BK225.out 3) | ((with_reducible refine gate_callee (f := 27) rfl ?_); refine Qj (some 21) Tryd.func27 #[.int .i64 ((rd_T54 l0 x15_1).f0)] ?_; (with_reducible refine (impl_OpName.calls ((rd_T54 l0 x15_1).f0) t226 _ A10.out).mono ?_); rintro e w19 ⟨rfl, hb⟩; refine ⟨_, rfl, ?_⟩; have n0_ := Ak (Kd.R_below (by refine Qf ?_; exact (Kd.R_mono (Kd.R_far (p := ⟨gb225, 3, none⟩) (Kd.R_far (p := ⟨gb225, 2, none⟩) (Kd.R_far (p := ⟨gb225, 1, none⟩) (Kd.R_far (p := ⟨gb225, 0, none⟩) (Kd.R_types HO_3.out BK225.out (by decide)) (fun _ hk => hk.2) (.int .i64 ((rd_T54 l0 x15_1).f0))) (fun _ hk => hk.2) (.int .i64 ((rd_T54 l0 x15_1).f1))) (fun _ hk => hk.2) (.int .i64 ((rd_T54 l0 x15_1).f2))) (fun _ hk => hk.2) (.int .i64 ((rd_T54 l0 x15_1).f3))) (fun _ h_ => h_.1))) hb); have n1_ := Ak (blk_below (g := gb225) (o := .cells #[.int .i64 ((rd_T54 l0 x15_1).f0), .int .i64 ((rd_T54 l0 x15_1).f1), .int .i64 ((rd_T54 l0 x15_1).f2), .int .i64 ((rd_T54 l0 x15_1).f3)] 54 (0, 0)) (by refine Qe ?_; refine blk_put (cs := #[.int .i64 ((rd_T54 l0 x15_1).f0), .int .i64 ((rd_T54 l0 x15_1).f1), .int .i64 ((rd_T54 l0 x15_1).f2), .int .i64 0]) ?_ 3 _ rfl; refine Qe ?_; refine blk_put (cs := #[.int .i64 ((rd_T54 l0 x15_1).f0), .int .i64 ((rd_T54 l0 x15_1).f1), .int .i64 0, .int .i64 0]) ?_ 2 _ rfl; refine Qe ?_; refine blk_put (cs := #[.int .i64 ((rd_T54 l0 x15_1).f0), .int .i64 0, .int .i64 0, .int .i64 0]) ?_ 1 _ rfl; refine Qe ?_; refine blk_put (cs := #[.int .i64 0, .int .i64 0, .int .i64 0, .int .i64 0]) ?_ 0 _ rfl; exact Qa BK225.out) hb); have n2_ := Ak (below_step (Qb HB.out) hb); clear HO_3 BK225 HB; have HO_3 := n0_; have BK225 := n1_; have HB := n2_; clear n0_ n1_ n2_; (try clear hb); (try clear hb2); (try clear hk); (try clear hi); obtain ⟨hcz20_0, hcz20_1, hcz20_2, hcz20_3⟩ := Qu4 BK225.out; have hfz20_0 := blk_frozen BK225.out 0; have hfz20_1 := blk_frozen BK225.out 1; have hfz20_2 := blk_frozen BK225.out 2; have hfz20_3 := blk_frozen BK225.out 3) | ((with_reducible refine gate_callee (f := 64) rfl ?_); refine Qj (some 29) Tryd.func64 #[.int .i64 ((rd_T54 l0 x15_1).f1), .int .i64 9] ?_; (with_reducible refine (impl_WordOf.calls k1 ((rd_T54 l0 x15_1).f1) 9 t227 t228 _ A12.out).mono ?_); rintro e w21 ⟨v229, rfl, ho0, hb⟩; refine ⟨_, rfl, ?_⟩; have n0_ := Ak (Kd.R_below (Qc HO_3.out) hb); have n1_ := Ak (Kd.R_lower ho0 (below_size (Qb HB.out))); have n2_ := Ak (Qm BK225.out hb); have n3_ := Ak (below_step (Qb HB.out) hb); clear HO_3 BK225 HB; have HO_3 := n0_; have HO230 := n1_; have BK225 := n2_; have HB := n3_; clear n0_ n1_ n2_ n3_; (try clear hb); (try clear hb2); (try clear hk); (try clear hi); (try clear ho0); obtain ⟨Ao22, co22, eo22⟩ := Kd.R_slice HO230.out; subst eo22) | ((with_reducible refine gate_callee (f := 35) rfl ?_); refine Qj (some 34) Tryd.func35 #[.slice Ao22 t227.length co22] ?_; (with_reducible refine (impl_FormatWord.calls k1 _ _ t227 t231 _ ?side1 ?side2 A13.out).mono ?_); (case side1 => repeat (first | exact (Kd.R_reads' HO230.out).2.2 | (with_reducible refine Kd.C_alloc ?_ _) | (with_reducible refine Kd.C_drewN ?_ _) | (with_reducible refine Kd.C_drew ?_))); (case side2 => exact (Kd.R_reads' HO230.out).2.1); rintro e w23 ⟨rfl, hb⟩; refine ⟨_, rfl, ?_⟩; have n0_ := Ak (Kd.R_below (Qc HO_3.out) hb); have n1_ := Ak (Kd.R_below (Qc HO230.out) hb); have n2_ := Ak (Qm BK225.out hb); have n3_ := Ak (below_step (Qb HB.out) hb); clear HO_3 HO230 BK225 HB; have HO_3 := n0_; have HO230 := n1_; have BK225 := n2_; have HB := n3_; clear n0_ n1_ n2_ n3_; (try clear hb); (try clear hb2); (try clear hk); (try clear hi)) | ((with_reducible refine gate_builtin (b := .append) (xs := #[.tmp 64, .tmp 66]) rfl ?_); at_builtin; refine Kd.R_append Kd.string (w0 := w) w.heap.size rfl (.tmp 64) (.tmp 66) 82 9 (.string ⟨#[]⟩) 16 rfl Tryd.underlying82 info9 rfl (by decide) (by omega) u3 x3_1 (t226 ++ ((⟨#[32]⟩ : ByteArray) ++ t231)) [.string (t226 ++ ((⟨#[32]⟩ : ByteArray) ++ t231))] (fun _ => True) (fun _ => False) rfl rfl ?aP (fun _ hk => hk.elim) ?aF ?aO ?aB ?aS ?aL ?_; (case aP => exact rfl); (case aB => exact (Qb HB.out)); (case aF => exact (fun _ _ => trivial)); (case aO => exact (Qc HO_3.out)); (case aS => exact (below_size (Qb HB.out))); (case aL => have := LMc16.out; omega); intro v233 w24 ho hb hg hat; rw [← Ny232.out] at ho; have n0_ := Ak (blk_grown (g := gb225) (o := .cells #[.int .i64 ((rd_T54 l0 x15_1).f0), .int .i64 ((rd_T54 l0 x15_1).f1), .int .i64 ((rd_T54 l0 x15_1).f2), .int .i64 ((rd_T54 l0 x15_1).f3)] 54 (0, 0)) (Qa BK225.out) hg (Kd.R_ne HO_3.out BK225.out (by decide))); have n1_ := Ak (Kd.R_over' (Qc HO230.out) (Kd.R_typed (Qc HO_3.out)) (by decide) hg); have n2_ := Ak (hb); have n3_ := Ak (ho); clear BK225 HO230 HB HO_3; have BK225 := n0_; have HO230 := n1_; have HB := n2_; have HO234 := n3_; clear n0_ n1_ n2_ n3_; clear ho hb hg hat))
           go_roundg k1
           case measure => have := HK1.out; omega
           case rel => exact ⟨(y232), (wrap64 (x15_1 + 1)), Qi, H', ⟨by have := HK1.out; omega⟩, ⟨by refine Qf ?_; exact HO234.out⟩, ⟨Qb HB.out⟩⟩
          ·rw [if_neg c16] at H
           exact absurd H (by simp)
         ·rw [if_neg c15] at H
          exact absurd H (by simp)
        ·rw [if_neg c14] at H
         exact absurd H (by simp)
       ·rw [if_neg c11] at H
        have c11b0 : (((rd_T54 l0 x15_1).f0) == 1) = false := beq_eq_false_iff_ne.mpr c11
        have c11b1 : (((rd_T54 l0 x15_1).f0) != 1) = true := bne_iff_ne.mpr c11
        have HC25 := Ak H
        clear H
        have p224 : 0 ≤ (x15_1 : Int) := Qg
        have q224 : x15_1 < (l0.length : Int) := Qg
        obtain ⟨ad224, e224, hx224_0, hx224_1, hx224_2, hx224_3⟩ := at_T54 HR0.out x15_1 p224 q224
        cases e224
        (try replace hx224_0 := (HB.out.cell (World.block_lt_of_cell? w _ hx224_0)).trans hx224_0)
        (try replace hx224_1 := (HB.out.cell (World.block_lt_of_cell? w _ hx224_1)).trans hx224_1)
        (try replace hx224_2 := (HB.out.cell (World.block_lt_of_cell? w _ hx224_2)).trans hx224_2)
        (try replace hx224_3 := (HB.out.cell (World.block_lt_of_cell? w _ hx224_3)).trans hx224_3)
        replace p224 := eq_true p224
        replace q224 := eq_true q224
        go_upto_if 37 with (first | ((with_reducible refine gate_dst (N := 5) rfl ?_); refine Qk 5 #[.int .i64 0, .int .i64 0, .int .i64 0, .int .i64 0] 54 ?_; intro gb225 hg w26 hbox hb; have n0_ := Ak (Kd.R_below (Qc HO_3.out) hb); have n1_ := Ak (below_step (Qb HB.out) hb); have n2_ := Ak (hbox); have n3_ := Ak ((Qp hg HB.out : w.heap.size ≤ gb225)); have n4_ := Ak ((Qp hg HB.out : w.heap.size ≤ gb225)); clear HO_3 HB; have HO_3 := n0_; have HB := n1_; have BK225 := n2_; have GW225 := n3_; have GE225 := n4_; clear n0_ n1_ n2_ n3_ n4_; clear hb hbox hg; obtain ⟨hcz27_0, hcz27_1, hcz27_2, hcz27_3⟩ := Qu4 BK225.out; have hfz27_0 := blk_frozen BK225.out 0; have hfz27_1 := blk_frozen BK225.out 1; have hfz27_2 := blk_frozen BK225.out 2; have hfz27_3 := blk_frozen BK225.out 3) | ((with_reducible refine gate_callee (f := 27) rfl ?_); refine Qj (some 21) Tryd.func27 #[.int .i64 ((rd_T54 l0 x15_1).f0)] ?_; (with_reducible refine (impl_OpName.calls ((rd_T54 l0 x15_1).f0) t226 _ A10.out).mono ?_); rintro e w28 ⟨rfl, hb⟩; refine ⟨_, rfl, ?_⟩; have n0_ := Ak (Kd.R_below (by refine Qf ?_; exact (Kd.R_mono (Kd.R_far (p := ⟨gb225, 3, none⟩) (Kd.R_far (p := ⟨gb225, 2, none⟩) (Kd.R_far (p := ⟨gb225, 1, none⟩) (Kd.R_far (p := ⟨gb225, 0, none⟩) (Kd.R_types HO_3.out BK225.out (by decide)) (fun _ hk => hk.2) (.int .i64 ((rd_T54 l0 x15_1).f0))) (fun _ hk => hk.2) (.int .i64 ((rd_T54 l0 x15_1).f1))) (fun _ hk => hk.2) (.int .i64 ((rd_T54 l0 x15_1).f2))) (fun _ hk => hk.2) (.int .i64 ((rd_T54 l0 x15_1).f3))) (fun _ h_ => h_.1))) hb); have n1_ := Ak (blk_below (g := gb225) (o := .cells #[.int .i64 ((rd_T54 l0 x15_1).f0), .int .i64 ((rd_T54 l0 x15_1).f1), .int .i64 ((rd_T54 l0 x15_1).f2), .int .i64 ((rd_T54 l0 x15_1).f3)] 54 (0, 0)) (by refine Qe ?_; refine blk_put (cs := #[.int .i64 ((rd_T54 l0 x15_1).f0), .int .i64 ((rd_T54 l0 x15_1).f1), .int .i64 ((rd_T54 l0 x15_1).f2), .int .i64 0]) ?_ 3 _ rfl; refine Qe ?_; refine blk_put (cs := #[.int .i64 ((rd_T54 l0 x15_1).f0), .int .i64 ((rd_T54 l0 x15_1).f1), .int .i64 0, .int .i64 0]) ?_ 2 _ rfl; refine Qe ?_; refine blk_put (cs := #[.int .i64 ((rd_T54 l0 x15_1).f0), .int .i64 0, .int .i64 0, .int .i64 0]) ?_ 1 _ rfl; refine Qe ?_; refine blk_put (cs := #[.int .i64 0, .int .i64 0, .int .i64 0, .int .i64 0]) ?_ 0 _ rfl; exact Qa BK225.out) hb); have n2_ := Ak (below_step (Qb HB.out) hb); clear HO_3 BK225 HB; have HO_3 := n0_; have BK225 := n1_; have HB := n2_; clear n0_ n1_ n2_; (try clear hb); (try clear hb2); (try clear hk); (try clear hi); obtain ⟨hcz29_0, hcz29_1, hcz29_2, hcz29_3⟩ := Qu4 BK225.out; have hfz29_0 := blk_frozen BK225.out 0; have hfz29_1 := blk_frozen BK225.out 1; have hfz29_2 := blk_frozen BK225.out 2; have hfz29_3 := blk_frozen BK225.out 3))
        (try simp only [Act.put, List.setIfInBounds_toArray, List.set_cons_zero, List.set_cons_succ])
        go_cut [37] (fun v37 wc => ∃ (kq : Nat) (x37_24 : Bool), v37 = .bool x37_24 ∧ Aside0 (impl_FormatCode.j1 kq x3_1 t226 l0 (l0.length : Int) x15_1 ((rd_T54 l0 x15_1).f0) x37_24 ((rd_T54 l0 x15_1).f0) ((rd_T54 l0 x15_1).f1) ((rd_T54 l0 x15_1).f2) ((rd_T54 l0 x15_1).f3) = some r) ∧ Aside0 (kq ≤ k1) ∧ Aside0 (Kd.R Kd.string 9 wc w.heap.size (fun _ => True) u3 x3_1) ∧ Aside0 (wc.heap[gb225]? = some (.cells #[.int .i64 ((rd_T54 l0 x15_1).f0), .int .i64 ((rd_T54 l0 x15_1).f1), .int .i64 ((rd_T54 l0 x15_1).f2), .int .i64 ((rd_T54 l0 x15_1).f3)] 54 (0, 0))) ∧ Aside0 (Below w.heap.size w wc))
        case first =>
         have H := HC25.out
         clear HC25
         by_cases c30 : ((rd_T54 l0 x15_1).f0) = 10
         ·rw [if_pos c30] at H
          have c30b0 : (((rd_T54 l0 x15_1).f0) == 10) = true := beq_iff_eq.mpr c30
          have c30b1 : (((rd_T54 l0 x15_1).f0) != 10) = false := bne_eq_false_iff_eq.mpr c30
          clear c30
          (first | rw [c30b0] | (simp only [i64_w, i32_w]; rw [c30b0]) | skip)
          have H' := Ak H
          clear H
          go_wp2
          go_meet
          case rel => exact ⟨_, ((((rd_T54 l0 x15_1).f0) == 10)), Qi, H', ⟨by have := HK1.out; first | omega | exact Nat.le_refl _⟩, ⟨by refine Qf ?_; exact HO_3.out⟩, ⟨by refine Qe ?_; exact BK225.out⟩, ⟨Qb HB.out⟩⟩
         ·rw [if_neg c30] at H
          have c30b0 : (((rd_T54 l0 x15_1).f0) == 10) = false := beq_eq_false_iff_ne.mpr c30
          have c30b1 : (((rd_T54 l0 x15_1).f0) != 10) = true := bne_iff_ne.mpr c30
          (first | rw [c30b0] | (simp only [i64_w, i32_w]; rw [c30b0]) | skip)
          have H' := Ak H
          clear H
          go_wp2
          go_meet
          case rel => exact ⟨_, ((((rd_T54 l0 x15_1).f0) == 13)), Qi, H', ⟨by have := HK1.out; first | omega | exact Nat.le_refl _⟩, ⟨by refine Qf ?_; exact HO_3.out⟩, ⟨by refine Qe ?_; exact BK225.out⟩, ⟨Qb HB.out⟩⟩
        case rest =>
         clear HC25
         (try clear c1); (try clear c2); (try clear p2); (try clear q2); (try clear hx2); (try clear c3); (try clear c6); (try clear p6); (try clear c7); (try clear c7b0); (try clear c8); (try clear c8b0); (try clear c9); (try clear c9b0); (try clear c11); (try clear c11b0); (try clear c11b1); (try clear c14); (try clear c14b0); (try clear c14b1); (try clear c14b2); (try clear c15); (try clear c15b0); (try clear c15b1); (try clear c15b2); (try clear c16); (try clear p22); (try clear q22); (try clear hx22); (try clear c25); (try clear c27); (try clear c30); (try clear c30b0); (try clear c30b1); (try clear hcz18_0); (try clear hcz18_1); (try clear hcz18_2); (try clear hcz18_3); (try clear hcz20_0); (try clear hcz20_1); (try clear hcz20_2); (try clear hcz20_3); (try clear hcz27_0); (try clear hcz27_1); (try clear hcz27_2); (try clear hcz27_3); (try clear hcz29_0); (try clear hcz29_1); (try clear hcz29_2); (try clear hcz29_3); (try clear hfz18_0); (try clear hfz18_1); (try clear hfz18_2); (try clear hfz18_3); (try clear hfz20_0); (try clear hfz20_1); (try clear hfz20_2); (try clear hfz20_3); (try clear hfz27_0); (try clear hfz27_1); (try clear hfz27_2); (try clear hfz27_3); (try clear hfz29_0); (try clear hfz29_1); (try clear hfz29_2); (try clear hfz29_3); (try clear hx224_0); (try clear hx224_1); (try clear hx224_2); (try clear hx224_3); (try clear p2); (try clear p224); (try clear q224)
         obtain ⟨kq, x37_24, rfl, HA, HJ24, HO_3, BK225, HB⟩ := hcut
         cases kq with
         | zero => exact absurd HA.out (by simp [impl_FormatCode.j1])
         | succ kj24 =>
          have H := HA.out
          clear HA
          simp only [impl_FormatCode.j1] at H
          by_cases c31 : x37_24 = true
          ·(try subst c31)
           have H1 : ((strconv_Itoa.f ((rd_T54 l0 x15_1).f1)).bind fun t235 => (if 1 + t235.size ≤ 9223372036854775807 then (if t226.size + ((⟨#[32]⟩ : ByteArray) ++ t235).size ≤ 9223372036854775807 then (if x3_1.length < 8796093022208 then (impl_FormatCode.l0 kj24 (x3_1 ++ [t226 ++ ((⟨#[32]⟩ : ByteArray) ++ t235)]) l0 (l0.length : Int) (wrap64 (x15_1 + 1))) else (none)) else (none)) else (none))) = some r := by rw [if_pos rfl] at H; exact H
           clear H
           have H := H1
           clear H1
           replace H := Option.bind_eq_some_iff.mp H
           obtain ⟨t235, A320, H⟩ := H
           replace H : (if 1 + t235.size ≤ 9223372036854775807 then (if t226.size + ((⟨#[32]⟩ : ByteArray) ++ t235).size ≤ 9223372036854775807 then (if x3_1.length < 8796093022208 then (impl_FormatCode.l0 kj24 (x3_1 ++ [t226 ++ ((⟨#[32]⟩ : ByteArray) ++ t235)]) l0 (l0.length : Int) (wrap64 (x15_1 + 1))) else (none)) else (none)) else (none)) = some r := H
           have A32 := Ak A320
           clear A320
           by_cases c33 : 1 + t235.size ≤ 9223372036854775807
           ·rw [if_pos c33] at H
            have c33b0 := eq_true c33
            have c33b1 : decide (1 + t235.size ≤ 9223372036854775807) = true := decide_eq_true c33
            try have c33b2 : (9223372036854775807 < 1 + t235.size) = False := eq_false (Nat.not_lt.2 c33)
            by_cases c34 : t226.size + ((⟨#[32]⟩ : ByteArray) ++ t235).size ≤ 9223372036854775807
            ·rw [if_pos c34] at H
             have c34b0 := eq_true c34
             have c34b1 : decide (t226.size + ((⟨#[32]⟩ : ByteArray) ++ t235).size ≤ 9223372036854775807) = true := decide_eq_true c34
             try have c34b2 : (9223372036854775807 < t226.size + ((⟨#[32]⟩ : ByteArray) ++ t235).size) = False := eq_false (Nat.not_lt.2 c34)
             have c34n := c34
             (simp only [ByteArray.size_append', ByteArray.size_mk', ByteArray.size_extract, List.size_toArray, List.length_cons, List.length_nil] at c34n)
             by_cases c35 : x3_1.length < 8796093022208
             ·rw [if_pos c35] at H
              have LMc35 := Ak c35
              clear c35
              obtain ⟨y236, hy236⟩ : ∃ y_ : List ByteArray, y_ = (x3_1 ++ [t226 ++ ((⟨#[32]⟩ : ByteArray) ++ t235)]) := ⟨_, rfl⟩
              replace H : (impl_FormatCode.l0 kj24 y236 l0 (l0.length : Int) (wrap64 (x15_1 + 1))) = some r := by first | (rw [hy236]; with_reducible exact H) | (have H2_ := (Option.bind_some _ _).symm.trans H; rw [hy236]; with_reducible exact H2_) | (have H2_ := (Option.bind_some _ _).symm.trans H; with_reducible exact H2_) | with_reducible exact H | (rw [hy236]; exact H) | exact H
              have Ny236 := Ak hy236
              clear hy236
              have H' := Ak H
              clear H
              obtain ⟨hcz36_0, hcz36_1, hcz36_2, hcz36_3, hfz36_0, hfz36_1, hfz36_2, hfz36_3⟩ := Qv4 BK225.out
              go_wp2_with (first | ((with_reducible refine gate_callee (f := 65) rfl ?_); refine Qj (some 43) Tryd.func65 #[.int .i64 ((rd_T54 l0 x15_1).f1)] ?_; (with_reducible refine (strconv_Itoa.calls ((rd_T54 l0 x15_1).f1) t235 _ ?side1 A32.out).mono ?_); (case side1 => exact ⟨hL.out.on (Qb HB.out)⟩); rintro e w37 ⟨rfl, hb⟩; refine ⟨_, rfl, ?_⟩; have n0_ := Ak (Kd.R_below (Qc HO_3.out) hb); have n1_ := Ak (Qm BK225.out hb); have n2_ := Ak (below_step (Qb HB.out) hb); clear HO_3 BK225 HB; have HO_3 := n0_; have BK225 := n1_; have HB := n2_; clear n0_ n1_ n2_; (try clear hb); (try clear hb2); (try clear hk); (try clear hi)) | ((with_reducible refine gate_builtin (b := .append) (xs := #[.tmp 64, .tmp 66]) rfl ?_); at_builtin; refine Kd.R_append Kd.string (w0 := w) w.heap.size rfl (.tmp 64) (.tmp 66) 82 9 (.string ⟨#[]⟩) 16 rfl Tryd.underlying82 info9 rfl (by decide) (by omega) u3 x3_1 (t226 ++ ((⟨#[32]⟩ : ByteArray) ++ t235)) [.string (t226 ++ ((⟨#[32]⟩ : ByteArray) ++ t235))] (fun _ => True) (fun _ => False) rfl rfl ?aP (fun _ hk => hk.elim) ?aF ?aO ?aB ?aS ?aL ?_; (case aP => exact rfl); (case aB => exact (Qb HB.out)); (case aF => exact (fun _ _ => trivial)); (case aO => exact (Qc HO_3.out)); (case aS => exact (below_size (Qb HB.out))); (case aL => have := LMc35.out; omega); intro v237 w38 ho hb hg hat; rw [← Ny236.out] at ho; have n0_ := Ak (blk_grown (g := gb225) (o := .cells #[.int .i64 ((rd_T54 l0 x15_1).f0), .int .i64 ((rd_T54 l0 x15_1).f1), .int .i64 ((rd_T54 l0 x15_1).f2), .int .i64 ((rd_T54 l0 x15_1).f3)] 54 (0, 0)) (Qa BK225.out) hg (Kd.R_ne HO_3.out BK225.out (by decide))); have n1_ := Ak (hb); have n2_ := Ak (ho); clear BK225 HB HO_3; have BK225 := n0_; have HB := n1_; have HO238 := n2_; clear n0_ n1_ n2_; clear ho hb hg hat))
              go_roundg kj24
              case measure => have := HK1.out; have := HJ24.out; omega
              case rel => exact ⟨(y236), (wrap64 (x15_1 + 1)), Qi, H', ⟨by have := HK1.out; have := HJ24.out; omega⟩, ⟨by refine Qf ?_; exact HO238.out⟩, ⟨Qb HB.out⟩⟩
             ·rw [if_neg c35] at H
              exact absurd H (by simp)
            ·rw [if_neg c34] at H
             exact absurd H (by simp)
           ·rw [if_neg c33] at H
            exact absurd H (by simp)
          ·replace c31 := Bool.eq_false_iff.mpr c31
           (try subst c31)
           have H1 : (if ((rd_T54 l0 x15_1).f0) = 14 then ((strconv_Itoa.f ((rd_T54 l0 x15_1).f1)).bind fun t239 => (if 1 + t239.size ≤ 9223372036854775807 then (if ((⟨#[32]⟩ : ByteArray) ++ t239).size + 1 ≤ 9223372036854775807 then ((strconv_Itoa.f ((rd_T54 l0 x15_1).f2)).bind fun t240 => (if (((⟨#[32]⟩ : ByteArray) ++ t239) ++ (⟨#[32]⟩ : ByteArray)).size + t240.size ≤ 9223372036854775807 then (if ((((⟨#[32]⟩ : ByteArray) ++ t239) ++ (⟨#[32]⟩ : ByteArray)) ++ t240).size + 1 ≤ 9223372036854775807 then ((strconv_Itoa.f ((rd_T54 l0 x15_1).f3)).bind fun t241 => (if (((((⟨#[32]⟩ : ByteArray) ++ t239) ++ (⟨#[32]⟩ : ByteArray)) ++ t240) ++ (⟨#[32]⟩ : ByteArray)).size + t241.size ≤ 9223372036854775807 then (if t226.size + ((((((⟨#[32]⟩ : ByteArray) ++ t239) ++ (⟨#[32]⟩ : ByteArray)) ++ t240) ++ (⟨#[32]⟩ : ByteArray)) ++ t241).size ≤ 9223372036854775807 then (if x3_1.length < 8796093022208 then (impl_FormatCode.l0 kj24 (x3_1 ++ [t226 ++ ((((((⟨#[32]⟩ : ByteArray) ++ t239) ++ (⟨#[32]⟩ : ByteArray)) ++ t240) ++ (⟨#[32]⟩ : ByteArray)) ++ t241)]) l0 (l0.length : Int) (wrap64 (x15_1 + 1))) else (none)) else (none)) else (none))) else (none)) else (none))) else (none)) else (none))) else (if x3_1.length < 8796093022208 then (impl_FormatCode.l0 kj24 (x3_1 ++ [t226]) l0 (l0.length : Int) (wrap64 (x15_1 + 1))) else (none))) = some r := by rw [if_neg (show ¬ (false = true) by decide)] at H; exact H
           clear H
           have H := H1
           clear H1
           by_cases c39 : ((rd_T54 l0 x15_1).f0) = 14
           ·rw [if_pos c39] at H
            have c39b0 : (((rd_T54 l0 x15_1).f0) == 14) = true := beq_iff_eq.mpr c39
            have c39b1 : (((rd_T54 l0 x15_1).f0) != 14) = false := bne_eq_false_iff_eq.mpr c39
            clear c39
            replace H := Option.bind_eq_some_iff.mp H
            obtain ⟨t239, A400, H⟩ := H
            replace H : (if 1 + t239.size ≤ 9223372036854775807 then (if ((⟨#[32]⟩ : ByteArray) ++ t239).size + 1 ≤ 9223372036854775807 then ((strconv_Itoa.f ((rd_T54 l0 x15_1).f2)).bind fun t240 => (if (((⟨#[32]⟩ : ByteArray) ++ t239) ++ (⟨#[32]⟩ : ByteArray)).size + t240.size ≤ 9223372036854775807 then (if ((((⟨#[32]⟩ : ByteArray) ++ t239) ++ (⟨#[32]⟩ : ByteArray)) ++ t240).size + 1 ≤ 9223372036854775807 then ((strconv_Itoa.f ((rd_T54 l0 x15_1).f3)).bind fun t241 => (if (((((⟨#[32]⟩ : ByteArray) ++ t239) ++ (⟨#[32]⟩ : ByteArray)) ++ t240) ++ (⟨#[32]⟩ : ByteArray)).size + t241.size ≤ 9223372036854775807 then (if t226.size + ((((((⟨#[32]⟩ : ByteArray) ++ t239) ++ (⟨#[32]⟩ : ByteArray)) ++ t240) ++ (⟨#[32]⟩ : ByteArray)) ++ t241).size ≤ 9223372036854775807 then (if x3_1.length < 8796093022208 then (impl_FormatCode.l0 kj24 (x3_1 ++ [t226 ++ ((((((⟨#[32]⟩ : ByteArray) ++ t239) ++ (⟨#[32]⟩ : ByteArray)) ++ t240) ++ (⟨#[32]⟩ : ByteArray)) ++ t241)]) l0 (l0.length : Int) (wrap64 (x15_1 + 1))) else (none)) else (none)) else (none))) else (none)) else (none))) else (none)) else (none)) = some r := H
            have A40 := Ak A400
            clear A400
            by_cases c41 : 1 + t239.size ≤ 9223372036854775807
            ·rw [if_pos c41] at H
             have c41b0 := eq_true c41
             have c41b1 : decide (1 + t239.size ≤ 9223372036854775807) = true := decide_eq_true c41
             try have c41b2 : (9223372036854775807 < 1 + t239.size) = False := eq_false (Nat.not_lt.2 c41)
             by_cases c42 : ((⟨#[32]⟩ : ByteArray) ++ t239).size + 1 ≤ 9223372036854775807
             ·rw [if_pos c42] at H
              have c42b0 := eq_true c42
              have c42b1 : decide (((⟨#[32]⟩ : ByteArray) ++ t239).size + 1 ≤ 9223372036854775807) = true := decide_eq_true c42
              try have c42b2 : (9223372036854775807 < ((⟨#[32]⟩ : ByteArray) ++ t239).size + 1) = False := eq_false (Nat.not_lt.2 c42)
              have c42n := c42
              (simp only [ByteArray.size_append', ByteArray.size_mk', ByteArray.size_extract, List.size_toArray, List.length_cons, List.length_nil] at c42n)
              replace H := Option.bind_eq_some_iff.mp H
              obtain ⟨t240, A430, H⟩ := H
              replace H : (if (((⟨#[32]⟩ : ByteArray) ++ t239) ++ (⟨#[32]⟩ : ByteArray)).size + t240.size ≤ 9223372036854775807 then (if ((((⟨#[32]⟩ : ByteArray) ++ t239) ++ (⟨#[32]⟩ : ByteArray)) ++ t240).size + 1 ≤ 9223372036854775807 then ((strconv_Itoa.f ((rd_T54 l0 x15_1).f3)).bind fun t241 => (if (((((⟨#[32]⟩ : ByteArray) ++ t239) ++ (⟨#[32]⟩ : ByteArray)) ++ t240) ++ (⟨#[32]⟩ : ByteArray)).size + t241.size ≤ 9223372036854775807 then (if t226.size + ((((((⟨#[32]⟩ : ByteArray) ++ t239) ++ (⟨#[32]⟩ : ByteArray)) ++ t240) ++ (⟨#[32]⟩ : ByteArray)) ++ t241).size ≤ 9223372036854775807 then (if x3_1.length < 8796093022208 then (impl_FormatCode.l0 kj24 (x3_1 ++ [t226 ++ ((((((⟨#[32]⟩ : ByteArray) ++ t239) ++ (⟨#[32]⟩ : ByteArray)) ++ t240) ++ (⟨#[32]⟩ : ByteArray)) ++ t241)]) l0 (l0.length : Int) (wrap64 (x15_1 + 1))) else (none)) else (none)) else (none))) else (none)) else (none)) = some r := H
              have A43 := Ak A430
              clear A430
              by_cases c44 : (((⟨#[32]⟩ : ByteArray) ++ t239) ++ (⟨#[32]⟩ : ByteArray)).size + t240.size ≤ 9223372036854775807
              ·rw [if_pos c44] at H
               have c44b0 := eq_true c44
               have c44b1 : decide ((((⟨#[32]⟩ : ByteArray) ++ t239) ++ (⟨#[32]⟩ : ByteArray)).size + t240.size ≤ 9223372036854775807) = true := decide_eq_true c44
               try have c44b2 : (9223372036854775807 < (((⟨#[32]⟩ : ByteArray) ++ t239) ++ (⟨#[32]⟩ : ByteArray)).size + t240.size) = False := eq_false (Nat.not_lt.2 c44)
               have c44n := c44
               (simp only [ByteArray.size_append', ByteArray.size_mk', ByteArray.size_extract, List.size_toArray, List.length_cons, List.length_nil] at c44n)
               by_cases c45 : ((((⟨#[32]⟩ : ByteArray) ++ t239) ++ (⟨#[32]⟩ : ByteArray)) ++ t240).size + 1 ≤ 9223372036854775807
               ·rw [if_pos c45] at H
                have c45b0 := eq_true c45
                have c45b1 : decide (((((⟨#[32]⟩ : ByteArray) ++ t239) ++ (⟨#[32]⟩ : ByteArray)) ++ t240).size + 1 ≤ 9223372036854775807) = true := decide_eq_true c45
                try have c45b2 : (9223372036854775807 < ((((⟨#[32]⟩ : ByteArray) ++ t239) ++ (⟨#[32]⟩ : ByteArray)) ++ t240).size + 1) = False := eq_false (Nat.not_lt.2 c45)
                have c45n := c45
                (simp only [ByteArray.size_append', ByteArray.size_mk', ByteArray.size_extract, List.size_toArray, List.length_cons, List.length_nil] at c45n)
                replace H := Option.bind_eq_some_iff.mp H
                obtain ⟨t241, A460, H⟩ := H
                replace H : (if (((((⟨#[32]⟩ : ByteArray) ++ t239) ++ (⟨#[32]⟩ : ByteArray)) ++ t240) ++ (⟨#[32]⟩ : ByteArray)).size + t241.size ≤ 9223372036854775807 then (if t226.size + ((((((⟨#[32]⟩ : ByteArray) ++ t239) ++ (⟨#[32]⟩ : ByteArray)) ++ t240) ++ (⟨#[32]⟩ : ByteArray)) ++ t241).size ≤ 9223372036854775807 then (if x3_1.length < 8796093022208 then (impl_FormatCode.l0 kj24 (x3_1 ++ [t226 ++ ((((((⟨#[32]⟩ : ByteArray) ++ t239) ++ (⟨#[32]⟩ : ByteArray)) ++ t240) ++ (⟨#[32]⟩ : ByteArray)) ++ t241)]) l0 (l0.length : Int) (wrap64 (x15_1 + 1))) else (none)) else (none)) else (none)) = some r := H
                have A46 := Ak A460
                clear A460
                by_cases c47 : (((((⟨#[32]⟩ : ByteArray) ++ t239) ++ (⟨#[32]⟩ : ByteArray)) ++ t240) ++ (⟨#[32]⟩ : ByteArray)).size + t241.size ≤ 9223372036854775807
                ·rw [if_pos c47] at H
                 have c47b0 := eq_true c47
                 have c47b1 : decide ((((((⟨#[32]⟩ : ByteArray) ++ t239) ++ (⟨#[32]⟩ : ByteArray)) ++ t240) ++ (⟨#[32]⟩ : ByteArray)).size + t241.size ≤ 9223372036854775807) = true := decide_eq_true c47
                 try have c47b2 : (9223372036854775807 < (((((⟨#[32]⟩ : ByteArray) ++ t239) ++ (⟨#[32]⟩ : ByteArray)) ++ t240) ++ (⟨#[32]⟩ : ByteArray)).size + t241.size) = False := eq_false (Nat.not_lt.2 c47)
                 have c47n := c47
                 (simp only [ByteArray.size_append', ByteArray.size_mk', ByteArray.size_extract, List.size_toArray, List.length_cons, List.length_nil] at c47n)
                 by_cases c48 : t226.size + ((((((⟨#[32]⟩ : ByteArray) ++ t239) ++ (⟨#[32]⟩ : ByteArray)) ++ t240) ++ (⟨#[32]⟩ : ByteArray)) ++ t241).size ≤ 9223372036854775807
                 ·rw [if_pos c48] at H
                  have c48b0 := eq_true c48
                  have c48b1 : decide (t226.size + ((((((⟨#[32]⟩ : ByteArray) ++ t239) ++ (⟨#[32]⟩ : ByteArray)) ++ t240) ++ (⟨#[32]⟩ : ByteArray)) ++ t241).size ≤ 9223372036854775807) = true := decide_eq_true c48
                  try have c48b2 : (9223372036854775807 < t226.size + ((((((⟨#[32]⟩ : ByteArray) ++ t239) ++ (⟨#[32]⟩ : ByteArray)) ++ t240) ++ (⟨#[32]⟩ : ByteArray)) ++ t241).size) = False := eq_false (Nat.not_lt.2 c48)
                  have c48n := c48
                  (simp only [ByteArray.size_append', ByteArray.size_mk', ByteArray.size_extract, List.size_toArray, List.length_cons, List.length_nil] at c48n)
                  by_cases c49 : x3_1.length < 8796093022208
                  ·rw [if_pos c49] at H
                   have LMc49 := Ak c49
                   clear c49
                   obtain ⟨y242, hy242⟩ : ∃ y_ : List ByteArray, y_ = (x3_1 ++ [t226 ++ ((((((⟨#[32]⟩ : ByteArray) ++ t239) ++ (⟨#[32]⟩ : ByteArray)) ++ t240) ++ (⟨#[32]⟩ : ByteArray)) ++ t241)]) := ⟨_, rfl⟩
                   replace H : (impl_FormatCode.l0 kj24 y242 l0 (l0.length : Int) (wrap64 (x15_1 + 1))) = some r := by first | (rw [hy242]; with_reducible exact H) | (have H2_ := (Option.bind_some _ _).symm.trans H; rw [hy242]; with_reducible exact H2_) | (have H2_ := (Option.bind_some _ _).symm.trans H; with_reducible exact H2_) | with_reducible exact H | (rw [hy242]; exact H) | exact H
                   have Ny242 := Ak hy242
                   clear hy242
                   have H' := Ak H
                   clear H
                   try go_wp2
                   have n0_ := Ak (Kd.R_drew HO_3.out)
                   have n1_ := Ak (blk_drew BK225.out)
                   have n2_ := Ak (below_drew1 HB.out)
                   clear HO_3 BK225 HB
                   have HO_3 := n0_
                   have BK225 := n1_
                   have HB := n2_
                   clear n0_ n1_ n2_
                   refine start_ (n := 17) (S := fun w' => w'.cell? ⟨gb225, 0, none⟩ = some (.int .i64 ((rd_T54 l0 x15_1).f0)) ∧ w'.cell? ⟨gb225, 1, none⟩ = some (.int .i64 ((rd_T54 l0 x15_1).f1)) ∧ w'.cell? ⟨gb225, 2, none⟩ = some (.int .i64 ((rd_T54 l0 x15_1).f2)) ∧ w'.cell? ⟨gb225, 3, none⟩ = some (.int .i64 ((rd_T54 l0 x15_1).f3))) (ds := []) #[false, false, false, false, false, false, false, false, false, false, false, false, false, false, false, false, false] (by kernel_rfl) rfl rfl ⟨(blk_cell BK225.out 0).trans rfl, (blk_cell BK225.out 1).trans rfl, (blk_cell BK225.out 2).trans rfl, (blk_cell BK225.out 3).trans rfl⟩ (fun hHeld => ?_); refine with_tabW impl_FormatCode.tab16 impl_FormatCode.bits16 (fun HT_ HW_ => ?_)
                   generalize wc.drew = w50 at HO_3 BK225 HB hHeld ⊢
                   refine pure_ (i := 0) (N := some 48) (v := ?_) (a' := ?_) #[true, false, false, false, false, false, false, false, false, false, false, false, false, false, false, false, false] rfl rfl (any_of HT_.out (by kernel_rfl)) (fun _ _ _ h => h) (Or.inl ⟨by rfl, ?_⟩) ?_ ?_
                   rotate_left
                   ·intro w'
                    first | (go_simp; with_reducible rfl) | (go_simp; refine (if_neg (by omega)).trans ?_; with_reducible rfl)
                   rotate_left
                   ·simp only [Act.put, List.setIfInBounds_toArray, List.set_cons_zero, List.set_cons_succ, i64_w, i32_w]
                    rfl
                   refine pure_ (i := 1) (N := some 49) (v := ?_) (a' := ?_) #[true, true, false, false, false, false, false, false, false, false, false, false, false, false, false, false, false] rfl rfl (any_of HT_.out (by kernel_rfl)) (fun _ _ _ h => h) (Or.inl ⟨by rfl, ?_⟩) ?_ ?_
                   rotate_left
                   ·intro w'
                    first | (go_simp; with_reducible rfl) | (go_simp; refine (if_neg (by omega)).trans ?_; with_reducible rfl)
                   rotate_left
                   ·simp only [Act.put, List.setIfInBounds_toArray, List.set_cons_zero, List.set_cons_succ, i64_w, i32_w]
                    rfl
                   refine pure_ (i := 6) (N := some 54) (v := ?_) (a' := ?_) #[true, true, false, false, false, false, true, false, false, false, false, false, false, false, false, false, false] rfl rfl (any_of HT_.out (by kernel_rfl)) (fun _ _ _ h => h) (Or.inl ⟨by rfl, ?_⟩) ?_ ?_
                   rotate_left
                   ·intro w'
                    first | (go_simp; with_reducible rfl) | (go_simp; refine (if_neg (by omega)).trans ?_; with_reducible rfl)
                   rotate_left
                   ·simp only [Act.put, List.setIfInBounds_toArray, List.set_cons_zero, List.set_cons_succ, i64_w, i32_w]
                    rfl
                   refine pure_ (i := 11) (N := some 59) (v := ?_) (a' := ?_) #[true, true, false, false, false, false, true, false, false, false, false, true, false, false, false, false, false] rfl rfl (any_of HT_.out (by kernel_rfl)) (fun _ _ _ h => h) (Or.inl ⟨by rfl, ?_⟩) ?_ ?_
                   rotate_left
                   ·intro w'
                    first | (go_simp; with_reducible rfl) | (go_simp; refine (if_neg (by omega)).trans ?_; with_reducible rfl)
                   rotate_left
                   ·simp only [Act.put, List.setIfInBounds_toArray, List.set_cons_zero, List.set_cons_succ, i64_w, i32_w]
                    rfl
                   refine take_ (i := 2) (N := some 50) (v := ?_) (a' := ?_) #[true, true, true, false, false, false, true, false, false, false, false, true, false, false, false, false, false] rfl rfl (take_ofW HT_.out HW_.out (by kernel_rfl)) (fun _ _ _ h => h) (Or.inl ⟨by rfl, ?_⟩) hHeld ?_ ?_
                   rotate_left
                   ·rintro w' ⟨s0, s1, s2, s3⟩
                    first | (go_simp; with_reducible rfl) | (go_simp; refine (if_neg (by omega)).trans ?_; with_reducible rfl)
                   rotate_left
                   ·simp only [Act.put, List.setIfInBounds_toArray, List.set_cons_zero, List.set_cons_succ, i64_w, i32_w]
                    rfl
                   refine take_ (i := 7) (N := some 55) (v := ?_) (a' := ?_) #[true, true, true, false, false, false, true, true, false, false, false, true, false, false, false, false, false] rfl rfl (take_ofW HT_.out HW_.out (by kernel_rfl)) (fun _ _ _ h => h) (Or.inl ⟨by rfl, ?_⟩) hHeld ?_ ?_
                   rotate_left
                   ·rintro w' ⟨s0, s1, s2, s3⟩
                    first | (go_simp; with_reducible rfl) | (go_simp; refine (if_neg (by omega)).trans ?_; with_reducible rfl)
                   rotate_left
                   ·simp only [Act.put, List.setIfInBounds_toArray, List.set_cons_zero, List.set_cons_succ, i64_w, i32_w]
                    rfl
                   refine take_ (i := 12) (N := some 60) (v := ?_) (a' := ?_) #[true, true, true, false, false, false, true, true, false, false, false, true, true, false, false, false, false] rfl rfl (take_ofW HT_.out HW_.out (by kernel_rfl)) (fun _ _ _ h => h) (Or.inl ⟨by rfl, ?_⟩) hHeld ?_ ?_
                   rotate_left
                   ·rintro w' ⟨s0, s1, s2, s3⟩
                    first | (go_simp; with_reducible rfl) | (go_simp; refine (if_neg (by omega)).trans ?_; with_reducible rfl)
                   rotate_left
                   ·simp only [Act.put, List.setIfInBounds_toArray, List.set_cons_zero, List.set_cons_succ, i64_w, i32_w]
                    rfl
                   refine Qs 3 (some 51) (fun K hK => ?_)
                   refine goes_ Tryd.func65 (by kernel_rfl) rfl #[.int .i64 ((rd_T54 l0 x15_1).f1)] (by rfl) rfl rfl (by (try simp only [List.map_toArray, List.map_cons, List.map_nil]); first | done | rfl | (simp only [List.length_drop, List.length_take]; rfl)) ?_
                   with_reducible refine (strconv_Itoa.calls ((rd_T54 l0 x15_1).f1) t239 _ ?side1 A40.out).mono ?_
                   (case side1 => exact ⟨hL.out.on (Qb HB.out)⟩)
                   rintro e w51 ⟨rfl, hb⟩
                   refine ⟨_, rfl, ?_⟩
                   have n0_ := Ak (Kd.R_below (Qc HO_3.out) hb)
                   have n1_ := Ak (Qm BK225.out hb)
                   have n2_ := Ak (below_step (Qb HB.out) hb)
                   clear HO_3 BK225 HB
                   have HO_3 := n0_
                   have BK225 := n1_
                   have HB := n2_
                   clear n0_ n1_ n2_
                   (try clear hb); (try clear hb2); (try clear hk); (try clear hi)
                   refine hK.out _ _ ⟨(blk_cell BK225.out 0).trans rfl, (blk_cell BK225.out 1).trans rfl, (blk_cell BK225.out 2).trans rfl, (blk_cell BK225.out 3).trans rfl⟩ (fun hHeld => ?_)
                   clear hK K
                   refine norm_ (a' := ?_) ?_ ?_
                   rotate_left
                   ·show Act.put _ (some 51) _ = _
                    simp only [Act.put, List.setIfInBounds_toArray, List.set_cons_zero, List.set_cons_succ, i64_w, i32_w]
                    rfl
                   refine pure_ (i := 4) (N := some 52) (v := ?_) (a' := ?_) #[true, true, true, true, true, false, true, true, false, false, false, true, true, false, false, false, false] rfl rfl (any_of HT_.out (by kernel_rfl)) (fun _ _ _ h => h) (Or.inl ⟨by rfl, ?_⟩) ?_ ?_
                   rotate_left
                   ·intro w'
                    first | (go_simp; with_reducible rfl) | (go_simp; refine (if_neg (by omega)).trans ?_; with_reducible rfl)
                   rotate_left
                   ·simp only [Act.put, List.setIfInBounds_toArray, List.set_cons_zero, List.set_cons_succ, i64_w, i32_w]
                    rfl
                   refine pure_ (i := 5) (N := some 53) (v := ?_) (a' := ?_) #[true, true, true, true, true, true, true, true, false, false, false, true, true, false, false, false, false] rfl rfl (any_of HT_.out (by kernel_rfl)) (fun _ _ _ h => h) (Or.inl ⟨by rfl, ?_⟩) ?_ ?_
                   rotate_left
                   ·intro w'
                    first | (go_simp; with_reducible rfl) | (go_simp; refine (if_neg (by omega)).trans ?_; with_reducible rfl)
                   rotate_left
                   ·simp only [Act.put, List.setIfInBounds_toArray, List.set_cons_zero, List.set_cons_succ, i64_w, i32_w]
                    rfl
                   refine Qs 8 (some 56) (fun K hK => ?_)
                   refine goes_ Tryd.func65 (by kernel_rfl) rfl #[.int .i64 ((rd_T54 l0 x15_1).f2)] (by rfl) rfl rfl (by (try simp only [List.map_toArray, List.map_cons, List.map_nil]); first | done | rfl | (simp only [List.length_drop, List.length_take]; rfl)) ?_
                   with_reducible refine (strconv_Itoa.calls ((rd_T54 l0 x15_1).f2) t240 _ ?side1 A43.out).mono ?_
                   (case side1 => exact ⟨hL.out.on (Qb HB.out)⟩)
                   rintro e w52 ⟨rfl, hb⟩
                   refine ⟨_, rfl, ?_⟩
                   have n0_ := Ak (Kd.R_below (Qc HO_3.out) hb)
                   have n1_ := Ak (Qm BK225.out hb)
                   have n2_ := Ak (below_step (Qb HB.out) hb)
                   clear HO_3 BK225 HB
                   have HO_3 := n0_
                   have BK225 := n1_
                   have HB := n2_
                   clear n0_ n1_ n2_
                   (try clear hb); (try clear hb2); (try clear hk); (try clear hi)
                   refine hK.out _ _ ⟨(blk_cell BK225.out 0).trans rfl, (blk_cell BK225.out 1).trans rfl, (blk_cell BK225.out 2).trans rfl, (blk_cell BK225.out 3).trans rfl⟩ (fun hHeld => ?_)
                   clear hK K
                   refine norm_ (a' := ?_) ?_ ?_
                   rotate_left
                   ·show Act.put _ (some 56) _ = _
                    simp only [Act.put, List.setIfInBounds_toArray, List.set_cons_zero, List.set_cons_succ, i64_w, i32_w]
                    rfl
                   refine pure_ (i := 9) (N := some 57) (v := ?_) (a' := ?_) #[true, true, true, true, true, true, true, true, true, true, false, true, true, false, false, false, false] rfl rfl (any_of HT_.out (by kernel_rfl)) (fun _ _ _ h => h) (Or.inl ⟨by rfl, ?_⟩) ?_ ?_
                   rotate_left
                   ·intro w'
                    first | (go_simp; with_reducible rfl) | (go_simp; refine (if_neg (by omega)).trans ?_; with_reducible rfl)
                   rotate_left
                   ·simp only [Act.put, List.setIfInBounds_toArray, List.set_cons_zero, List.set_cons_succ, i64_w, i32_w]
                    rfl
                   refine pure_ (i := 10) (N := some 58) (v := ?_) (a' := ?_) #[true, true, true, true, true, true, true, true, true, true, true, true, true, false, false, false, false] rfl rfl (any_of HT_.out (by kernel_rfl)) (fun _ _ _ h => h) (Or.inl ⟨by rfl, ?_⟩) ?_ ?_
                   rotate_left
                   ·intro w'
                    first | (go_simp; with_reducible rfl) | (go_simp; refine (if_neg (by omega)).trans ?_; with_reducible rfl)
                   rotate_left
                   ·simp only [Act.put, List.setIfInBounds_toArray, List.set_cons_zero, List.set_cons_succ, i64_w, i32_w]
                    rfl
                   refine Qs 13 (some 61) (fun K hK => ?_)
                   refine goes_ Tryd.func65 (by kernel_rfl) rfl #[.int .i64 ((rd_T54 l0 x15_1).f3)] (by rfl) rfl rfl (by (try simp only [List.map_toArray, List.map_cons, List.map_nil]); first | done | rfl | (simp only [List.length_drop, List.length_take]; rfl)) ?_
                   with_reducible refine (strconv_Itoa.calls ((rd_T54 l0 x15_1).f3) t241 _ ?side1 A46.out).mono ?_
                   (case side1 => exact ⟨hL.out.on (Qb HB.out)⟩)
                   rintro e w53 ⟨rfl, hb⟩
                   refine ⟨_, rfl, ?_⟩
                   have n0_ := Ak (Kd.R_below (Qc HO_3.out) hb)
                   have n1_ := Ak (Qm BK225.out hb)
                   have n2_ := Ak (below_step (Qb HB.out) hb)
                   clear HO_3 BK225 HB
                   have HO_3 := n0_
                   have BK225 := n1_
                   have HB := n2_
                   clear n0_ n1_ n2_
                   (try clear hb); (try clear hb2); (try clear hk); (try clear hi)
                   refine hK.out _ _ ⟨(blk_cell BK225.out 0).trans rfl, (blk_cell BK225.out 1).trans rfl, (blk_cell BK225.out 2).trans rfl, (blk_cell BK225.out 3).trans rfl⟩ (fun hHeld => ?_)
                   clear hK K
                   refine norm_ (a' := ?_) ?_ ?_
                   rotate_left
                   ·show Act.put _ (some 61) _ = _
                    simp only [Act.put, List.setIfInBounds_toArray, List.set_cons_zero, List.set_cons_succ, i64_w, i32_w]
                    rfl
                   refine pure_ (i := 14) (N := some 62) (v := ?_) (a' := ?_) #[true, true, true, true, true, true, true, true, true, true, true, true, true, true, true, false, false] rfl rfl (any_of HT_.out (by kernel_rfl)) (fun _ _ _ h => h) (Or.inl ⟨by rfl, ?_⟩) ?_ ?_
                   rotate_left
                   ·intro w'
                    first | (go_simp; with_reducible rfl) | (go_simp; refine (if_neg (by omega)).trans ?_; with_reducible rfl)
                   rotate_left
                   ·simp only [Act.put, List.setIfInBounds_toArray, List.set_cons_zero, List.set_cons_succ, i64_w, i32_w]
                    rfl
                   refine pure_ (i := 15) (N := some 63) (v := ?_) (a' := ?_) #[true, true, true, true, true, true, true, true, true, true, true, true, true, true, true, true, false] rfl rfl (any_of HT_.out (by kernel_rfl)) (fun _ _ _ h => h) (Or.inl ⟨by rfl, ?_⟩) ?_ ?_
                   rotate_left
                   ·intro w'
                    first | (go_simp; with_reducible rfl) | (go_simp; refine (if_neg (by omega)).trans ?_; with_reducible rfl)
                   rotate_left
                   ·simp only [Act.put, List.setIfInBounds_toArray, List.set_cons_zero, List.set_cons_succ, i64_w, i32_w]
                    rfl
                   refine pure_ (i := 16) (N := some 6) (v := ?_) (a' := ?_) #[true, true, true, true, true, true, true, true, true, true, true, true, true, true, true, true, true] rfl rfl (any_of HT_.out (by kernel_rfl)) (fun _ _ _ h => h) (Or.inl ⟨by rfl, ?_⟩) ?_ ?_
                   rotate_left
                   ·intro w'
                    first | (go_simp; with_reducible rfl) | (go_simp; refine (if_neg (by omega)).trans ?_; with_reducible rfl)
                   rotate_left
                   ·simp only [Act.put, List.setIfInBounds_toArray, List.set_cons_zero, List.set_cons_succ, i64_w, i32_w]
                    rfl
                   refine done_ (done_of HT_.out (by kernel_rfl)) ?_
                   try go_wp2_with (first | ((with_reducible refine gate_builtin (b := .append) (xs := #[.tmp 64, .tmp 66]) rfl ?_); at_builtin; refine Kd.R_append Kd.string (w0 := w) w.heap.size rfl (.tmp 64) (.tmp 66) 82 9 (.string ⟨#[]⟩) 16 rfl Tryd.underlying82 info9 rfl (by decide) (by omega) u3 x3_1 (t226 ++ ((((((⟨#[32]⟩ : ByteArray) ++ t239) ++ (⟨#[32]⟩ : ByteArray)) ++ t240) ++ (⟨#[32]⟩ : ByteArray)) ++ t241)) [.string (t226 ++ ((((((⟨#[32]⟩ : ByteArray) ++ t239) ++ (⟨#[32]⟩ : ByteArray)) ++ t240) ++ (⟨#[32]⟩ : ByteArray)) ++ t241))] (fun _ => True) (fun _ => False) rfl rfl ?aP (fun _ hk => hk.elim) ?aF ?aO ?aB ?aS ?aL ?_; (case aP => exact rfl); (case aB => exact (Qb HB.out)); (case aF => exact (fun _ _ => trivial)); (case aO => exact (Qc HO_3.out)); (case aS => exact (below_size (Qb HB.out))); (case aL => have := LMc49.out; omega); intro v243 w54 ho hb hg hat; rw [← Ny242.out] at ho; have n0_ := Ak (blk_grown (g := gb225) (o := .cells #[.int .i64 ((rd_T54 l0 x15_1).f0), .int .i64 ((rd_T54 l0 x15_1).f1), .int .i64 ((rd_T54 l0 x15_1).f2), .int .i64 ((rd_T54 l0 x15_1).f3)] 54 (0, 0)) (Qa BK225.out) hg (Kd.R_ne HO_3.out BK225.out (by decide))); have n1_ := Ak (hb); have n2_ := Ak (ho); clear BK225 HB HO_3; have BK225 := n0_; have HB := n1_; have HO244 := n2_; clear n0_ n1_ n2_; clear ho hb hg hat))
                   go_roundg kj24
                   case measure => have := HK1.out; have := HJ24.out; omega
                   case rel => exact ⟨(y242), (wrap64 (x15_1 + 1)), Qi, H', ⟨by have := HK1.out; have := HJ24.out; omega⟩, ⟨by refine Qf ?_; exact HO244.out⟩, ⟨Qb HB.out⟩⟩
                  ·rw [if_neg c49] at H
                   exact absurd H (by simp)
                 ·rw [if_neg c48] at H
                  exact absurd H (by simp)
                ·rw [if_neg c47] at H
                 exact absurd H (by simp)
               ·rw [if_neg c45] at H
                exact absurd H (by simp)
              ·rw [if_neg c44] at H
               exact absurd H (by simp)
             ·rw [if_neg c42] at H
              exact absurd H (by simp)
            ·rw [if_neg c41] at H
             exact absurd H (by simp)
           ·rw [if_neg c39] at H
            have c39b0 : (((rd_T54 l0 x15_1).f0) == 14) = false := beq_eq_false_iff_ne.mpr c39
            have c39b1 : (((rd_T54 l0 x15_1).f0) != 14) = true := bne_iff_ne.mpr c39
            by_cases c55 : x3_1.length < 8796093022208
            ·rw [if_pos c55] at H
             have LMc55 := Ak c55
             clear c55
             obtain ⟨y245, hy245⟩ : ∃ y_ : List ByteArray, y_ = (x3_1 ++ [t226]) := ⟨_, rfl⟩
             replace H : (impl_FormatCode.l0 kj24 y245 l0 (l0.length : Int) (wrap64 (x15_1 + 1))) = some r := by first | (rw [hy245]; with_reducible exact H) | (have H2_ := (Option.bind_some _ _).symm.trans H; rw [hy245]; with_reducible exact H2_) | (have H2_ := (Option.bind_some _ _).symm.trans H; with_reducible exact H2_) | with_reducible exact H | (rw [hy245]; exact H) | exact H
             have Ny245 := Ak hy245
             clear hy245
             have H' := Ak H
             clear H
             go_wp2_with (first | ((with_reducible refine gate_builtin (b := .append) (xs := #[.tmp 64, .tmp 66]) rfl ?_); at_builtin; refine Kd.R_append Kd.string (w0 := w) w.heap.size rfl (.tmp 64) (.tmp 66) 82 9 (.string ⟨#[]⟩) 16 rfl Tryd.underlying82 info9 rfl (by decide) (by omega) u3 x3_1 t226 [.string t226] (fun _ => True) (fun _ => False) rfl rfl ?aP (fun _ hk => hk.elim) ?aF ?aO ?aB ?aS ?aL ?_; (case aP => exact rfl); (case aB => exact (Qb HB.out)); (case aF => exact (fun _ _ => trivial)); (case aO => exact (Qc HO_3.out)); (case aS => exact (below_size (Qb HB.out))); (case aL => have := LMc55.out; omega); intro v246 w56 ho hb hg hat; rw [← Ny245.out] at ho; have n0_ := Ak (blk_grown (g := gb225) (o := .cells #[.int .i64 ((rd_T54 l0 x15_1).f0), .int .i64 ((rd_T54 l0 x15_1).f1), .int .i64 ((rd_T54 l0 x15_1).f2), .int .i64 ((rd_T54 l0 x15_1).f3)] 54 (0, 0)) (Qa BK225.out) hg (Kd.R_ne HO_3.out BK225.out (by decide))); have n1_ := Ak (hb); have n2_ := Ak (ho); clear BK225 HB HO_3; have BK225 := n0_; have HB := n1_; have HO247 := n2_; clear n0_ n1_ n2_; clear ho hb hg hat))
             go_roundg kj24
             case measure => have := HK1.out; have := HJ24.out; omega
             case rel => exact ⟨(y245), (wrap64 (x15_1 + 1)), Qi, H', ⟨by have := HK1.out; have := HJ24.out; omega⟩, ⟨by refine Qf ?_; exact HO247.out⟩, ⟨Qb HB.out⟩⟩
            ·rw [if_neg c55] at H
             exact absurd H (by simp)
      ·rw [if_neg c9] at H
       exact absurd H (by simp)
     ·rw [if_neg c8] at H
      exact absurd H (by simp)
    ·rw [if_neg c7] at H
     have c7b0 : decide (x15_1 < (l0.length : Int)) = false := decide_eq_false c7
     clear c7
     replace H := Option.bind_eq_some_iff.mp H
     obtain ⟨t223, A570, H⟩ := H
     replace H : (some t223) = some r := H
     have A57 := Ak A570
     clear A570
     obtain rfl := Option.some.inj H
     obtain ⟨Ao58, co58, eo58⟩ := Kd.R_slice HO_3.out
     subst eo58
     go_wp2_with (first | ((with_reducible refine gate_callee (f := 66) rfl ?_); refine Qj (some 70) Tryd.func66 #[.slice Ao58 x3_1.length co58, .string (⟨#[59]⟩ : ByteArray)] ?_; (with_reducible refine (strings_Join.calls _ _ x3_1 (⟨#[59]⟩ : ByteArray) t223 _ ?side1 ?side2 A57.out).mono ?_); (case side1 => repeat (first | exact (Kd.R_reads' HO_3.out).2.2 | (with_reducible refine Kd.C_alloc ?_ _) | (with_reducible refine Kd.C_drewN ?_ _) | (with_reducible refine Kd.C_drew ?_))); (case side2 => exact (Kd.R_reads' HO_3.out).2.1); rintro e w59 ⟨rfl, hb⟩; refine ⟨_, rfl, ?_⟩; have n0_ := Ak (Kd.R_below (Qc HO_3.out) hb); have n1_ := Ak (below_step (Qb HB.out) hb); clear HO_3 HB; have HO_3 := n0_; have HB := n1_; clear n0_ n1_; (try clear hb); (try clear hb2); (try clear hk); (try clear hi)))
     go_ret
     exact ⟨Qh, Qb HB.out⟩
 ·replace c3 := Bool.eq_false_iff.mpr c3
  (try subst c3)
  have H1 : (some (⟨#[]⟩ : ByteArray)) = some r := by rw [if_neg (show ¬ (false = true) by decide)] at H; exact H
  clear H
  have H := H1
  clear H1
  obtain rfl := Option.some.inj H
  go_enter Tryd.func25, Tryd.ntmps25
  go_wp2_with (first | ((with_reducible refine gate_callee (f := 63) rfl ?_); refine Qj (some 10) Tryd.func63 #[.slice A0 l0.length c0] ?_; (with_reducible refine (impl_IsCode.calls k _ _ l0 false _ ?side1 ?side2 A2.out).mono ?_); (case side1 => repeat (first | exact HR0.out | (with_reducible refine Kd.C_alloc ?_ _) | (with_reducible refine Kd.C_drewN ?_ _) | (with_reducible refine Kd.C_drew ?_))); (case side2 => exact HC0.out); rintro e w60 ⟨rfl, hb⟩; refine ⟨_, rfl, ?_⟩; have n0_ := Ak (below_step (Qb HB.out) hb); clear HB; have HB := n0_; clear n0_; (try clear hb); (try clear hb2); (try clear hk); (try clear hi)))
  go_ret
  exact ⟨Qh, Qb HB.out⟩

/-! ### laws_eqOp: function 67 -/
def laws_eqOp.f (a0_0 : Int) (a0_1 : Int) (a0_2 : Int) (a0_3 : Int) (a1_0 : Int) (a1_1 : Int) (a1_2 : Int) (a1_3 : Int) : Option (Bool) := if a0_0 = a1_0 then (if a0_1 = a1_1 then (if a0_2 = a1_2 then (if a0_3 = a1_3 then (some true) else (some false)) else (some false)) else (some false)) else (some false)
theorem laws_eqOp.calls (a0_0 : Int) (a0_1 : Int) (a0_2 : Int) (a0_3 : Int) (a1_0 : Int) (a1_1 : Int) (a1_2 : Int) (a1_3 : Int) (r : Bool) (w : World) (h : laws_eqOp.f a0_0 a0_1 a0_2 a0_3 a1_0 a1_1 a1_2 a1_3 = some r) :
  Calls Tryd.prog 67 #[.agg #[.int .i64 a0_0, .int .i64 a0_1, .int .i64 a0_2, .int .i64 a0_3], .agg #[.int .i64 a1_0, .int .i64 a1_1, .int .i64 a1_2, .int .i64 a1_3]] w fun e w' => e = .returned (.bool r) ∧ Below w.heap.size w w' := by
 have hu54 := Tryd.underlying54
 have HB := Ak (Below.refl w.heap.size w)
 have H : (if a0_0 = a1_0 then (if a0_1 = a1_1 then (if a0_2 = a1_2 then (if a0_3 = a1_3 then (some true) else (some false)) else (some false)) else (some false)) else (some false)) = some r := h
 clear h
 by_cases c3 : a0_0 = a1_0
 ·rw [if_pos c3] at H
  have c3b0 : (a0_0 == a1_0) = true := beq_iff_eq.mpr c3
  have c3b1 : (a0_0 != a1_0) = false := bne_eq_false_iff_eq.mpr c3
  clear c3
  by_cases c4 : a0_1 = a1_1
  ·rw [if_pos c4] at H
   have c4b0 : (a0_1 == a1_1) = true := beq_iff_eq.mpr c4
   have c4b1 : (a0_1 != a1_1) = false := bne_eq_false_iff_eq.mpr c4
   clear c4
   by_cases c5 : a0_2 = a1_2
   ·rw [if_pos c5] at H
    have c5b0 : (a0_2 == a1_2) = true := beq_iff_eq.mpr c5
    have c5b1 : (a0_2 != a1_2) = false := bne_eq_false_iff_eq.mpr c5
    clear c5
    by_cases c6 : a0_3 = a1_3
    ·rw [if_pos c6] at H
     have c6b0 : (a0_3 == a1_3) = true := beq_iff_eq.mpr c6
     have c6b1 : (a0_3 != a1_3) = false := bne_eq_false_iff_eq.mpr c6
     clear c6
     obtain rfl := Option.some.inj H
     go_enter Tryd.func67, Tryd.ntmps67
     go_wp2_with (first | ((with_reducible refine gate_dst (N := 2) rfl ?_); refine Qk 2 #[.int .i64 a0_0, .int .i64 a0_1, .int .i64 a0_2, .int .i64 a0_3] 54 ?_; intro gb248 hg w7 hbox hb; have n0_ := Ak (below_step (Qb HB.out) hb); have n1_ := Ak (hbox); have n2_ := Ak ((Qp hg HB.out : w.heap.size ≤ gb248)); have n3_ := Ak ((Qp hg HB.out : w.heap.size ≤ gb248)); clear HB; have HB := n0_; have BK248 := n1_; have GW248 := n2_; have GE248 := n3_; clear n0_ n1_ n2_ n3_; clear hb hbox hg) | ((with_reducible refine gate_dst (N := 3) rfl ?_); refine Qk 3 #[.int .i64 a1_0, .int .i64 a1_1, .int .i64 a1_2, .int .i64 a1_3] 54 ?_; intro gb249 hg w8 hbox hb; have n0_ := Ak (Qm BK248.out hb); have n1_ := Ak (below_step (Qb HB.out) hb); have n2_ := Ak (hbox); have n3_ := Ak ((Qp hg HB.out : w.heap.size ≤ gb249)); have n4_ := Ak ((Qp hg HB.out : w.heap.size ≤ gb249)); have n5_ := Ak ((by rw [hg]; exact Nat.ne_of_lt (Qn BK248.out) : gb248 ≠ gb249)); have n6_ := Ak ((by rw [hg]; exact Nat.ne_of_gt (Qn BK248.out) : gb249 ≠ gb248)); clear BK248 HB; have BK248 := n0_; have HB := n1_; have BK249 := n2_; have GW249 := n3_; have GE249 := n4_; have NB248_249 := n5_; have NB249_248 := n6_; clear n0_ n1_ n2_ n3_ n4_ n5_ n6_; clear hb hbox hg; have hnb9 := NB248_249.out; have hnc9 := NB249_248.out; obtain ⟨hcz10_0, hcz10_1, hcz10_2, hcz10_3, hfz10_0, hfz10_1, hfz10_2, hfz10_3⟩ := Qv4 BK248.out; obtain ⟨hcz11_0, hcz11_1, hcz11_2, hcz11_3⟩ := Qu4 BK249.out; have hfz11_0 := blk_frozen BK249.out 0; have hfz11_1 := blk_frozen BK249.out 1; have hfz11_2 := blk_frozen BK249.out 2; have hfz11_3 := blk_frozen BK249.out 3))
     go_ret
     exact ⟨Qh, Qb HB.out⟩
    ·rw [if_neg c6] at H
     have c6b0 : (a0_3 == a1_3) = false := beq_eq_false_iff_ne.mpr c6
     have c6b1 : (a0_3 != a1_3) = true := bne_iff_ne.mpr c6
     obtain rfl := Option.some.inj H
     go_enter Tryd.func67, Tryd.ntmps67
     go_wp2_with (first | ((with_reducible refine gate_dst (N := 2) rfl ?_); refine Qk 2 #[.int .i64 a0_0, .int .i64 a0_1, .int .i64 a0_2, .int .i64 a0_3] 54 ?_; intro gb248 hg w12 hbox hb; have n0_ := Ak (below_step (Qb HB.out) hb); have n1_ := Ak (hbox); have n2_ := Ak ((Qp hg HB.out : w.heap.size ≤ gb248)); have n3_ := Ak ((Qp hg HB.out : w.heap.size ≤ gb248)); clear HB; have HB := n0_; have BK248 := n1_; have GW248 := n2_; have GE248 := n3_; clear n0_ n1_ n2_ n3_; clear hb hbox hg) | ((with_reducible refine gate_dst (N := 3) rfl ?_); refine Qk 3 #[.int .i64 a1_0, .int .i64 a1_1, .int .i64 a1_2, .int .i64 a1_3] 54 ?_; intro gb249 hg w13 hbox hb; have n0_ := Ak (Qm BK248.out hb); have n1_ := Ak (below_step (Qb HB.out) hb); have n2_ := Ak (hbox); have n3_ := Ak ((Qp hg HB.out : w.heap.size ≤ gb249)); have n4_ := Ak ((Qp hg HB.out : w.heap.size ≤ gb249)); have n5_ := Ak ((by rw [hg]; exact Nat.ne_of_lt (Qn BK248.out) : gb248 ≠ gb249)); have n6_ := Ak ((by rw [hg]; exact Nat.ne_of_gt (Qn BK248.out) : gb249 ≠ gb248)); clear BK248 HB; have BK248 := n0_; have HB := n1_; have BK249 := n2_; have GW249 := n3_; have GE249 := n4_; have NB248_249 := n5_; have NB249_248 := n6_; clear n0_ n1_ n2_ n3_ n4_ n5_ n6_; clear hb hbox hg; have hnb14 := NB248_249.out; have hnc14 := NB249_248.out; obtain ⟨hcz15_0, hcz15_1, hcz15_2, hcz15_3, hfz15_0, hfz15_1, hfz15_2, hfz15_3⟩ := Qv4 BK248.out; obtain ⟨hcz16_0, hcz16_1, hcz16_2, hcz16_3⟩ := Qu4 BK249.out; have hfz16_0 := blk_frozen BK249.out 0; have hfz16_1 := blk_frozen BK249.out 1; have hfz16_2 := blk_frozen BK249.out 2; have hfz16_3 := blk_frozen BK249.out 3))
     go_ret
     exact ⟨Qh, Qb HB.out⟩
   ·rw [if_neg c5] at H
    have c5b0 : (a0_2 == a1_2) = false := beq_eq_false_iff_ne.mpr c5
    have c5b1 : (a0_2 != a1_2) = true := bne_iff_ne.mpr c5
    obtain rfl := Option.some.inj H
    go_enter Tryd.func67, Tryd.ntmps67
    go_wp2_with (first | ((with_reducible refine gate_dst (N := 2) rfl ?_); refine Qk 2 #[.int .i64 a0_0, .int .i64 a0_1, .int .i64 a0_2, .int .i64 a0_3] 54 ?_; intro gb248 hg w17 hbox hb; have n0_ := Ak (below_step (Qb HB.out) hb); have n1_ := Ak (hbox); have n2_ := Ak ((Qp hg HB.out : w.heap.size ≤ gb248)); have n3_ := Ak ((Qp hg HB.out : w.heap.size ≤ gb248)); clear HB; have HB := n0_; have BK248 := n1_; have GW248 := n2_; have GE248 := n3_; clear n0_ n1_ n2_ n3_; clear hb hbox hg) | ((with_reducible refine gate_dst (N := 3) rfl ?_); refine Qk 3 #[.int .i64 a1_0, .int .i64 a1_1, .int .i64 a1_2, .int .i64 a1_3] 54 ?_; intro gb249 hg w18 hbox hb; have n0_ := Ak (Qm BK248.out hb); have n1_ := Ak (below_step (Qb HB.out) hb); have n2_ := Ak (hbox); have n3_ := Ak ((Qp hg HB.out : w.heap.size ≤ gb249)); have n4_ := Ak ((Qp hg HB.out : w.heap.size ≤ gb249)); have n5_ := Ak ((by rw [hg]; exact Nat.ne_of_lt (Qn BK248.out) : gb248 ≠ gb249)); have n6_ := Ak ((by rw [hg]; exact Nat.ne_of_gt (Qn BK248.out) : gb249 ≠ gb248)); clear BK248 HB; have BK248 := n0_; have HB := n1_; have BK249 := n2_; have GW249 := n3_; have GE249 := n4_; have NB248_249 := n5_; have NB249_248 := n6_; clear n0_ n1_ n2_ n3_ n4_ n5_ n6_; clear hb hbox hg; have hnb19 := NB248_249.out; have hnc19 := NB249_248.out; obtain ⟨hcz20_0, hcz20_1, hcz20_2, hcz20_3, hfz20_0, hfz20_1, hfz20_2, hfz20_3⟩ := Qv4 BK248.out; obtain ⟨hcz21_0, hcz21_1, hcz21_2, hcz21_3⟩ := Qu4 BK249.out; have hfz21_0 := blk_frozen BK249.out 0; have hfz21_1 := blk_frozen BK249.out 1; have hfz21_2 := blk_frozen BK249.out 2; have hfz21_3 := blk_frozen BK249.out 3))
    go_ret
    exact ⟨Qh, Qb HB.out⟩
  ·rw [if_neg c4] at H
   have c4b0 : (a0_1 == a1_1) = false := beq_eq_false_iff_ne.mpr c4
   have c4b1 : (a0_1 != a1_1) = true := bne_iff_ne.mpr c4
   obtain rfl := Option.some.inj H
   go_enter Tryd.func67, Tryd.ntmps67
   go_wp2_with (first | ((with_reducible refine gate_dst (N := 2) rfl ?_); refine Qk 2 #[.int .i64 a0_0, .int .i64 a0_1, .int .i64 a0_2, .int .i64 a0_3] 54 ?_; intro gb248 hg w22 hbox hb; have n0_ := Ak (below_step (Qb HB.out) hb); have n1_ := Ak (hbox); have n2_ := Ak ((Qp hg HB.out : w.heap.size ≤ gb248)); have n3_ := Ak ((Qp hg HB.out : w.heap.size ≤ gb248)); clear HB; have HB := n0_; have BK248 := n1_; have GW248 := n2_; have GE248 := n3_; clear n0_ n1_ n2_ n3_; clear hb hbox hg) | ((with_reducible refine gate_dst (N := 3) rfl ?_); refine Qk 3 #[.int .i64 a1_0, .int .i64 a1_1, .int .i64 a1_2, .int .i64 a1_3] 54 ?_; intro gb249 hg w23 hbox hb; have n0_ := Ak (Qm BK248.out hb); have n1_ := Ak (below_step (Qb HB.out) hb); have n2_ := Ak (hbox); have n3_ := Ak ((Qp hg HB.out : w.heap.size ≤ gb249)); have n4_ := Ak ((Qp hg HB.out : w.heap.size ≤ gb249)); have n5_ := Ak ((by rw [hg]; exact Nat.ne_of_lt (Qn BK248.out) : gb248 ≠ gb249)); have n6_ := Ak ((by rw [hg]; exact Nat.ne_of_gt (Qn BK248.out) : gb249 ≠ gb248)); clear BK248 HB; have BK248 := n0_; have HB := n1_; have BK249 := n2_; have GW249 := n3_; have GE249 := n4_; have NB248_249 := n5_; have NB249_248 := n6_; clear n0_ n1_ n2_ n3_ n4_ n5_ n6_; clear hb hbox hg; have hnb24 := NB248_249.out; have hnc24 := NB249_248.out; obtain ⟨hcz25_0, hcz25_1, hcz25_2, hcz25_3, hfz25_0, hfz25_1, hfz25_2, hfz25_3⟩ := Qv4 BK248.out; obtain ⟨hcz26_0, hcz26_1, hcz26_2, hcz26_3⟩ := Qu4 BK249.out; have hfz26_0 := blk_frozen BK249.out 0; have hfz26_1 := blk_frozen BK249.out 1; have hfz26_2 := blk_frozen BK249.out 2; have hfz26_3 := blk_frozen BK249.out 3))
   go_ret
   exact ⟨Qh, Qb HB.out⟩
 ·rw [if_neg c3] at H
  have c3b0 : (a0_0 == a1_0) = false := beq_eq_false_iff_ne.mpr c3
  have c3b1 : (a0_0 != a1_0) = true := bne_iff_ne.mpr c3
  obtain rfl := Option.some.inj H
  go_enter Tryd.func67, Tryd.ntmps67
  go_wp2_with (first | ((with_reducible refine gate_dst (N := 2) rfl ?_); refine Qk 2 #[.int .i64 a0_0, .int .i64 a0_1, .int .i64 a0_2, .int .i64 a0_3] 54 ?_; intro gb248 hg w27 hbox hb; have n0_ := Ak (below_step (Qb HB.out) hb); have n1_ := Ak (hbox); have n2_ := Ak ((Qp hg HB.out : w.heap.size ≤ gb248)); have n3_ := Ak ((Qp hg HB.out : w.heap.size ≤ gb248)); clear HB; have HB := n0_; have BK248 := n1_; have GW248 := n2_; have GE248 := n3_; clear n0_ n1_ n2_ n3_; clear hb hbox hg) | ((with_reducible refine gate_dst (N := 3) rfl ?_); refine Qk 3 #[.int .i64 a1_0, .int .i64 a1_1, .int .i64 a1_2, .int .i64 a1_3] 54 ?_; intro gb249 hg w28 hbox hb; have n0_ := Ak (Qm BK248.out hb); have n1_ := Ak (below_step (Qb HB.out) hb); have n2_ := Ak (hbox); have n3_ := Ak ((Qp hg HB.out : w.heap.size ≤ gb249)); have n4_ := Ak ((Qp hg HB.out : w.heap.size ≤ gb249)); have n5_ := Ak ((by rw [hg]; exact Nat.ne_of_lt (Qn BK248.out) : gb248 ≠ gb249)); have n6_ := Ak ((by rw [hg]; exact Nat.ne_of_gt (Qn BK248.out) : gb249 ≠ gb248)); clear BK248 HB; have BK248 := n0_; have HB := n1_; have BK249 := n2_; have GW249 := n3_; have GE249 := n4_; have NB248_249 := n5_; have NB249_248 := n6_; clear n0_ n1_ n2_ n3_ n4_ n5_ n6_; clear hb hbox hg; have hnb29 := NB248_249.out; have hnc29 := NB249_248.out; obtain ⟨hcz30_0, hcz30_1, hcz30_2, hcz30_3, hfz30_0, hfz30_1, hfz30_2, hfz30_3⟩ := Qv4 BK248.out; obtain ⟨hcz31_0, hcz31_1, hcz31_2, hcz31_3⟩ := Qu4 BK249.out; have hfz31_0 := blk_frozen BK249.out 0; have hfz31_1 := blk_frozen BK249.out 1; have hfz31_2 := blk_frozen BK249.out 2; have hfz31_3 := blk_frozen BK249.out 3))
  go_ret
  exact ⟨Qh, Qb HB.out⟩

end Go.Proofs.YtjfgcipbbcplmaaDoor.HFnExactFormatCode

/- Text for FnGray: written by a program of this session on the pattern of the kit's print. -/
import Derived.Test.YteedicdanhjfpaaHFnGrayx0
import Derived.Test.YteedicdanhjfpaaHFnGrayx1
import Derived.Test.YteedicdanhjfpaaHFnGrayx2
import Derived.Test.YteedicdanhjfpaaHFnGrayx3
namespace Go.Proofs.Yteedicdanhjfpaa.HFnGray
open Go.RowKit Go.Proofs.YteedicdanhjfpaaW.PrintWords Go.Proofs.YteedicdanhjfpaaW.PrintLast Go.Proofs.YteedicdanhjfpaaW.PrintMore
attribute [local go_sem] max2_int min2_int max_two min_two max_three min_three max_four min_four   -- for this text's walks alone
set_option linter.unusedVariables false
set_option linter.unusedSimpArgs false

/-! ### laws_FnGray: function 14 -/
mutual
def laws_FnGray.j0 : Nat → List Int → Int → Int → Int → List Int → Bool → Option (Bool)
  | 0, _, _, _, _, _, _ => none
  | k + 1, x0, x3, x4, x5, x6, x59 => if x59 = true then (some false) else ((laws_fresh.f k x0 3).bind fun t182 => ((spec_MakeWord.f k t182 30).bind fun t185 => ((impl_GrayRank.f k t185).bind fun t188 => ((impl_GrayWord.f k t188 (t185.length : Int)).bind fun bt189 => (if bt189.2 = true then ((laws_ints.f k t185 bt189.1).bind fun t193 => (laws_FnGray.j1 k x3 x4 x5 x6 (!t193))) else (laws_FnGray.j1 k x3 x4 x5 x6 true))))))
def laws_FnGray.j1 : Nat → Int → Int → Int → List Int → Bool → Option (Bool)
  | 0, _, _, _, _, _ => none
  | k + 1, x3, x4, x5, x6, x78 => if x78 = true then (some false) else ((impl_GrayWord.f k (wrap64 (x5 + 1)) x3).bind fun bt194 => (if (bt194.2 != (decide ((wrap64 (x5 + 1)) < x4))) = true then (some false) else (laws_FnGray.l0 k x3 x6 bt194.1 bt194.2 0 (x6.length : Int) 0)))
def laws_FnGray.l0 : Nat → Int → List Int → List Int → Bool → Int → Int → Int → Option (Bool)
  | 0, _, _, _, _, _, _, _ => none
  | k + 1, x3, x6, x11, x12, x13, x93, x94 => if x94 < x93 then (if x12 = true then (if (x11.length : Int) = x3 then (if 0 ≤ x94 then (if x94 < (x11.length : Int) then (if x94 < (x6.length : Int) then ((laws_abs.f (wrap64 ((rd x11 x94) - (rd x6 x94)))).bind fun t200 => (laws_FnGray.l0 k x3 x6 x11 x12 (wrap64 (x13 + t200)) x93 (wrap64 (x94 + 1)))) else (none)) else (none)) else (none)) else (laws_FnGray.l0 k x3 x6 x11 x12 x13 x93 (wrap64 (x94 + 1)))) else (laws_FnGray.l0 k x3 x6 x11 x12 x13 x93 (wrap64 (x94 + 1)))) else (if x12 = true then (some (x13 == 1)) else (some true))
end
def laws_FnGray.f (k : Nat) (l0 : List Int) : Option (Bool) := if (l0.length : Int) > 1048576 then (some true) else ((laws_at.f l0 1).bind fun t171 => ((spec_MakePower.f k (wrap64 (1 + (Int.tmod t171 30)))).bind fun t172 => ((laws_at.f l0 2).bind fun t173 => ((laws_at.f l0 3).bind fun t174 => ((laws_at.f l0 4).bind fun t175 => ((laws_at.f l0 5).bind fun t176 => (if t172 = 0 then (none) else ((impl_GrayWord.f k (Int.tmod (wrap64 ((wrap64 ((wrap64 ((wrap64 (t173 * 16777216)) + (wrap64 (t174 * 65536)))) + (wrap64 (t175 * 256)))) + t176)) t172) (wrap64 (1 + (Int.tmod t171 30)))).bind fun bt177 => (if bt177.2 = true then (if (bt177.1.length : Int) = (wrap64 (1 + (Int.tmod t171 30))) then ((impl_GrayRank.f k bt177.1).bind fun t181 => (laws_FnGray.j0 k l0 (wrap64 (1 + (Int.tmod t171 30))) t172 (Int.tmod (wrap64 ((wrap64 ((wrap64 ((wrap64 (t173 * 16777216)) + (wrap64 (t174 * 65536)))) + (wrap64 (t175 * 256)))) + t176)) t172) bt177.1 (t181 != (Int.tmod (wrap64 ((wrap64 ((wrap64 ((wrap64 (t173 * 16777216)) + (wrap64 (t174 * 65536)))) + (wrap64 (t175 * 256)))) + t176)) t172)))) else (laws_FnGray.j0 k l0 (wrap64 (1 + (Int.tmod t171 30))) t172 (Int.tmod (wrap64 ((wrap64 ((wrap64 ((wrap64 (t173 * 16777216)) + (wrap64 (t174 * 65536)))) + (wrap64 (t175 * 256)))) + t176)) t172) bt177.1 true)) else (laws_FnGray.j0 k l0 (wrap64 (1 + (Int.tmod t171 30))) t172 (Int.tmod (wrap64 ((wrap64 ((wrap64 ((wrap64 (t173 * 16777216)) + (wrap64 (t174 * 65536)))) + (wrap64 (t175 * 256)))) + t176)) t172) bt177.1 true))))))))))
theorem laws_FnGray.mono_l : ∀ k, (∀ y0 y1 y2 y3 y4 y5, LeO (laws_FnGray.j0 k y0 y1 y2 y3 y4 y5) (laws_FnGray.j0 (k + 1) y0 y1 y2 y3 y4 y5)) ∧ (∀ y0 y1 y2 y3 y4, LeO (laws_FnGray.j1 k y0 y1 y2 y3 y4) (laws_FnGray.j1 (k + 1) y0 y1 y2 y3 y4)) ∧ (∀ y0 y1 y2 y3 y4 y5 y6, LeO (laws_FnGray.l0 k y0 y1 y2 y3 y4 y5 y6) (laws_FnGray.l0 (k + 1) y0 y1 y2 y3 y4 y5 y6))
  | 0 => ⟨fun _ _ _ _ _ _ r h => by simp [laws_FnGray.j0] at h, fun _ _ _ _ _ r h => by simp [laws_FnGray.j1] at h, fun _ _ _ _ _ _ _ r h => by simp [laws_FnGray.l0] at h⟩
  | k + 1 => by
    obtain ⟨ih0, ih1, ih2⟩ := laws_FnGray.mono_l k
    refine ⟨?_, ?_, ?_⟩
    · intro y0 y1 y2 y3 y4 y5
      unfold laws_FnGray.j0
      repeat' first
      | (with_reducible exact ih0 _ _ _ _ _ _)
      | (with_reducible exact ih1 _ _ _ _ _)
      | (with_reducible exact ih2 _ _ _ _ _ _ _)
      | (with_reducible exact impl_GrayRank.mono _ _)
      | (with_reducible exact impl_GrayWord.mono _ _ _)
      | (with_reducible exact laws_fresh.mono _ _ _)
      | (with_reducible exact laws_ints.mono _ _ _)
      | (with_reducible exact spec_MakePower.mono _ _)
      | (with_reducible exact spec_MakeWord.mono _ _ _)
      | (with_reducible exact LeO.refl _)
      | (with_reducible exact LeO.none _)
      | (with_reducible refine LeO.ite ?_ ?_)
      | (with_reducible refine LeO.bind ?_ (fun _ => ?_))
      | exact ih0 _ _ _ _ _ _
      | exact ih1 _ _ _ _ _
      | exact ih2 _ _ _ _ _ _ _
      | exact impl_GrayRank.mono _ _
      | exact impl_GrayWord.mono _ _ _
      | exact laws_fresh.mono _ _ _
      | exact laws_ints.mono _ _ _
      | exact spec_MakePower.mono _ _
      | exact spec_MakeWord.mono _ _ _
      | exact LeO.none _
      | refine LeO.ite ?_ ?_
      | refine LeO.bind ?_ (fun _ => ?_)
    · intro y0 y1 y2 y3 y4
      unfold laws_FnGray.j1
      repeat' first
      | (with_reducible exact ih0 _ _ _ _ _ _)
      | (with_reducible exact ih1 _ _ _ _ _)
      | (with_reducible exact ih2 _ _ _ _ _ _ _)
      | (with_reducible exact impl_GrayRank.mono _ _)
      | (with_reducible exact impl_GrayWord.mono _ _ _)
      | (with_reducible exact laws_fresh.mono _ _ _)
      | (with_reducible exact laws_ints.mono _ _ _)
      | (with_reducible exact spec_MakePower.mono _ _)
      | (with_reducible exact spec_MakeWord.mono _ _ _)
      | (with_reducible exact LeO.refl _)
      | (with_reducible exact LeO.none _)
      | (with_reducible refine LeO.ite ?_ ?_)
      | (with_reducible refine LeO.bind ?_ (fun _ => ?_))
      | exact ih0 _ _ _ _ _ _
      | exact ih1 _ _ _ _ _
      | exact ih2 _ _ _ _ _ _ _
      | exact impl_GrayRank.mono _ _
      | exact impl_GrayWord.mono _ _ _
      | exact laws_fresh.mono _ _ _
      | exact laws_ints.mono _ _ _
      | exact spec_MakePower.mono _ _
      | exact spec_MakeWord.mono _ _ _
      | exact LeO.none _
      | refine LeO.ite ?_ ?_
      | refine LeO.bind ?_ (fun _ => ?_)
    · intro y0 y1 y2 y3 y4 y5 y6
      unfold laws_FnGray.l0
      repeat' first
      | (with_reducible exact ih0 _ _ _ _ _ _)
      | (with_reducible exact ih1 _ _ _ _ _)
      | (with_reducible exact ih2 _ _ _ _ _ _ _)
      | (with_reducible exact impl_GrayRank.mono _ _)
      | (with_reducible exact impl_GrayWord.mono _ _ _)
      | (with_reducible exact laws_fresh.mono _ _ _)
      | (with_reducible exact laws_ints.mono _ _ _)
      | (with_reducible exact spec_MakePower.mono _ _)
      | (with_reducible exact spec_MakeWord.mono _ _ _)
      | (with_reducible exact LeO.refl _)
      | (with_reducible exact LeO.none _)
      | (with_reducible refine LeO.ite ?_ ?_)
      | (with_reducible refine LeO.bind ?_ (fun _ => ?_))
      | exact ih0 _ _ _ _ _ _
      | exact ih1 _ _ _ _ _
      | exact ih2 _ _ _ _ _ _ _
      | exact impl_GrayRank.mono _ _
      | exact impl_GrayWord.mono _ _ _
      | exact laws_fresh.mono _ _ _
      | exact laws_ints.mono _ _ _
      | exact spec_MakePower.mono _ _
      | exact spec_MakeWord.mono _ _ _
      | exact LeO.none _
      | refine LeO.ite ?_ ?_
      | refine LeO.bind ?_ (fun _ => ?_)
theorem laws_FnGray.mono : ∀ a0 k, LeO (laws_FnGray.f k a0) (laws_FnGray.f (k + 1) a0) := by
  intro a0 k
  obtain ⟨ih0, ih1, ih2⟩ := laws_FnGray.mono_l k
  unfold laws_FnGray.f
  repeat' first
      | (with_reducible exact ih0 _ _ _ _ _ _)
      | (with_reducible exact ih1 _ _ _ _ _)
      | (with_reducible exact ih2 _ _ _ _ _ _ _)
      | (with_reducible exact impl_GrayRank.mono _ _)
      | (with_reducible exact impl_GrayWord.mono _ _ _)
      | (with_reducible exact laws_fresh.mono _ _ _)
      | (with_reducible exact laws_ints.mono _ _ _)
      | (with_reducible exact spec_MakePower.mono _ _)
      | (with_reducible exact spec_MakeWord.mono _ _ _)
      | (with_reducible exact LeO.refl _)
      | (with_reducible exact LeO.none _)
      | (with_reducible refine LeO.ite ?_ ?_)
      | (with_reducible refine LeO.bind ?_ (fun _ => ?_))
      | exact ih0 _ _ _ _ _ _
      | exact ih1 _ _ _ _ _
      | exact ih2 _ _ _ _ _ _ _
      | exact impl_GrayRank.mono _ _
      | exact impl_GrayWord.mono _ _ _
      | exact laws_fresh.mono _ _ _
      | exact laws_ints.mono _ _ _
      | exact spec_MakePower.mono _ _
      | exact spec_MakeWord.mono _ _ _
      | exact LeO.none _
      | refine LeO.ite ?_ ?_
      | refine LeO.bind ?_ (fun _ => ?_)
def laws_FnGray.T21 : Bool × List (List Nat × List Nat) := (true, [([], []), ([], []), ([], []), ([1, 2], [1, 2]), ([3], [3]), ([], []), ([], []), ([5, 6], [5, 6]), ([7], [7]), ([4, 8], [4, 8]), ([9], [9]), ([0, 10], [0, 10]), ([11, 10, 0, 1, 2, 3, 4, 5, 6, 7, 8, 9, 10, 11], [0, 11])])
def laws_FnGray.B21 : List Nat := [0, 0, 0, 6, 14, 0, 0, 96, 224, 510, 1022, 2047, 4095]
theorem laws_FnGray.tab21 : rtab .any (opsOf Try.f14 21) = laws_FnGray.T21 := by kernel_rfl
theorem laws_FnGray.bits21 : waitsOk laws_FnGray.T21.2 laws_FnGray.B21 = true := by kernel_rfl
set_option maxHeartbeats 8000000 in
set_option maxRecDepth 100000 in
theorem laws_FnGray.calls (k : Nat) (A0 : Option Addr) (c0 : Nat) (l0 : List Int) (r : Bool) (w : World) (hr0 : Kd.C (Kd.int .u8) w A0 l0.length l0) (hc0 : l0.length ≤ c0) (h : laws_FnGray.f k l0 = some r) :
    Calls Try.prog 14 #[.slice A0 l0.length c0] w fun e w' => e = .returned (.bool r) ∧ Below w.heap.size w w' := by
  have HR0 := Aside0.mk hr0
  have HC0 := Aside0.mk hc0
  clear hr0 hc0
  have HB := Aside0.mk (Below.refl w.heap.size w)
  have H : (if (l0.length : Int) > 1048576 then (some true) else ((laws_at.f l0 1).bind fun t171 => ((spec_MakePower.f k (wrap64 (1 + (Int.tmod t171 30)))).bind fun t172 => ((laws_at.f l0 2).bind fun t173 => ((laws_at.f l0 3).bind fun t174 => ((laws_at.f l0 4).bind fun t175 => ((laws_at.f l0 5).bind fun t176 => (if t172 = 0 then (none) else ((impl_GrayWord.f k (Int.tmod (wrap64 ((wrap64 ((wrap64 ((wrap64 (t173 * 16777216)) + (wrap64 (t174 * 65536)))) + (wrap64 (t175 * 256)))) + t176)) t172) (wrap64 (1 + (Int.tmod t171 30)))).bind fun bt177 => (if bt177.2 = true then (if (bt177.1.length : Int) = (wrap64 (1 + (Int.tmod t171 30))) then ((impl_GrayRank.f k bt177.1).bind fun t181 => (laws_FnGray.j0 k l0 (wrap64 (1 + (Int.tmod t171 30))) t172 (Int.tmod (wrap64 ((wrap64 ((wrap64 ((wrap64 (t173 * 16777216)) + (wrap64 (t174 * 65536)))) + (wrap64 (t175 * 256)))) + t176)) t172) bt177.1 (t181 != (Int.tmod (wrap64 ((wrap64 ((wrap64 ((wrap64 (t173 * 16777216)) + (wrap64 (t174 * 65536)))) + (wrap64 (t175 * 256)))) + t176)) t172)))) else (laws_FnGray.j0 k l0 (wrap64 (1 + (Int.tmod t171 30))) t172 (Int.tmod (wrap64 ((wrap64 ((wrap64 ((wrap64 (t173 * 16777216)) + (wrap64 (t174 * 65536)))) + (wrap64 (t175 * 256)))) + t176)) t172) bt177.1 true)) else (laws_FnGray.j0 k l0 (wrap64 (1 + (Int.tmod t171 30))) t172 (Int.tmod (wrap64 ((wrap64 ((wrap64 ((wrap64 (t173 * 16777216)) + (wrap64 (t174 * 65536)))) + (wrap64 (t175 * 256)))) + t176)) t172) bt177.1 true))))))))))) = some r := h
  clear h
  by_cases c2 : (l0.length : Int) > 1048576
  · rw [if_pos c2] at H
    have c2b0 : decide (1048576 < (l0.length : Int)) = true := decide_eq_true c2
    have c2b1 : decide (1048576 < l0.length) = true := decide_eq_true (by omega)
    clear c2
    obtain rfl := Option.some.inj H
    go_enter Try.func14, Try.ntmps14
    go_wp2
    go_ret
    exact ⟨by first | rfl | (simp [errW_none, errW_some] <;> rfl) | (simp [*, errW_none, errW_some] <;> rfl), by repeat (first | (with_reducible first | exact HB.out | apply below_alloc | apply pw_below_drewN | apply below_drew1) | exact HB.out)⟩
  · rw [if_neg c2] at H
    have c2b0 : decide (1048576 < (l0.length : Int)) = false := decide_eq_false c2
    have c2b1 : decide (1048576 < l0.length) = false := decide_eq_false (by omega)
    clear c2
    replace H := Option.bind_eq_some_iff.mp H
    obtain ⟨t171, A30, H⟩ := H
    replace H : ((spec_MakePower.f k (wrap64 (1 + (Int.tmod t171 30)))).bind fun t172 => ((laws_at.f l0 2).bind fun t173 => ((laws_at.f l0 3).bind fun t174 => ((laws_at.f l0 4).bind fun t175 => ((laws_at.f l0 5).bind fun t176 => (if t172 = 0 then (none) else ((impl_GrayWord.f k (Int.tmod (wrap64 ((wrap64 ((wrap64 ((wrap64 (t173 * 16777216)) + (wrap64 (t174 * 65536)))) + (wrap64 (t175 * 256)))) + t176)) t172) (wrap64 (1 + (Int.tmod t171 30)))).bind fun bt177 => (if bt177.2 = true then (if (bt177.1.length : Int) = (wrap64 (1 + (Int.tmod t171 30))) then ((impl_GrayRank.f k bt177.1).bind fun t181 => (laws_FnGray.j0 k l0 (wrap64 (1 + (Int.tmod t171 30))) t172 (Int.tmod (wrap64 ((wrap64 ((wrap64 ((wrap64 (t173 * 16777216)) + (wrap64 (t174 * 65536)))) + (wrap64 (t175 * 256)))) + t176)) t172) bt177.1 (t181 != (Int.tmod (wrap64 ((wrap64 ((wrap64 ((wrap64 (t173 * 16777216)) + (wrap64 (t174 * 65536)))) + (wrap64 (t175 * 256)))) + t176)) t172)))) else (laws_FnGray.j0 k l0 (wrap64 (1 + (Int.tmod t171 30))) t172 (Int.tmod (wrap64 ((wrap64 ((wrap64 ((wrap64 (t173 * 16777216)) + (wrap64 (t174 * 65536)))) + (wrap64 (t175 * 256)))) + t176)) t172) bt177.1 true)) else (laws_FnGray.j0 k l0 (wrap64 (1 + (Int.tmod t171 30))) t172 (Int.tmod (wrap64 ((wrap64 ((wrap64 ((wrap64 (t173 * 16777216)) + (wrap64 (t174 * 65536)))) + (wrap64 (t175 * 256)))) + t176)) t172) bt177.1 true))))))))) = some r := H
    have A3 := Aside0.mk A30
    clear A30
    replace H := Option.bind_eq_some_iff.mp H
    obtain ⟨t172, A40, H⟩ := H
    replace H : ((laws_at.f l0 2).bind fun t173 => ((laws_at.f l0 3).bind fun t174 => ((laws_at.f l0 4).bind fun t175 => ((laws_at.f l0 5).bind fun t176 => (if t172 = 0 then (none) else ((impl_GrayWord.f k (Int.tmod (wrap64 ((wrap64 ((wrap64 ((wrap64 (t173 * 16777216)) + (wrap64 (t174 * 65536)))) + (wrap64 (t175 * 256)))) + t176)) t172) (wrap64 (1 + (Int.tmod t171 30)))).bind fun bt177 => (if bt177.2 = true then (if (bt177.1.length : Int) = (wrap64 (1 + (Int.tmod t171 30))) then ((impl_GrayRank.f k bt177.1).bind fun t181 => (laws_FnGray.j0 k l0 (wrap64 (1 + (Int.tmod t171 30))) t172 (Int.tmod (wrap64 ((wrap64 ((wrap64 ((wrap64 (t173 * 16777216)) + (wrap64 (t174 * 65536)))) + (wrap64 (t175 * 256)))) + t176)) t172) bt177.1 (t181 != (Int.tmod (wrap64 ((wrap64 ((wrap64 ((wrap64 (t173 * 16777216)) + (wrap64 (t174 * 65536)))) + (wrap64 (t175 * 256)))) + t176)) t172)))) else (laws_FnGray.j0 k l0 (wrap64 (1 + (Int.tmod t171 30))) t172 (Int.tmod (wrap64 ((wrap64 ((wrap64 ((wrap64 (t173 * 16777216)) + (wrap64 (t174 * 65536)))) + (wrap64 (t175 * 256)))) + t176)) t172) bt177.1 true)) else (laws_FnGray.j0 k l0 (wrap64 (1 + (Int.tmod t171 30))) t172 (Int.tmod (wrap64 ((wrap64 ((wrap64 ((wrap64 (t173 * 16777216)) + (wrap64 (t174 * 65536)))) + (wrap64 (t175 * 256)))) + t176)) t172) bt177.1 true)))))))) = some r := H
    have A4 := Aside0.mk A40
    clear A40
    replace H := Option.bind_eq_some_iff.mp H
    obtain ⟨t173, A50, H⟩ := H
    replace H : ((laws_at.f l0 3).bind fun t174 => ((laws_at.f l0 4).bind fun t175 => ((laws_at.f l0 5).bind fun t176 => (if t172 = 0 then (none) else ((impl_GrayWord.f k (Int.tmod (wrap64 ((wrap64 ((wrap64 ((wrap64 (t173 * 16777216)) + (wrap64 (t174 * 65536)))) + (wrap64 (t175 * 256)))) + t176)) t172) (wrap64 (1 + (Int.tmod t171 30)))).bind fun bt177 => (if bt177.2 = true then (if (bt177.1.length : Int) = (wrap64 (1 + (Int.tmod t171 30))) then ((impl_GrayRank.f k bt177.1).bind fun t181 => (laws_FnGray.j0 k l0 (wrap64 (1 + (Int.tmod t171 30))) t172 (Int.tmod (wrap64 ((wrap64 ((wrap64 ((wrap64 (t173 * 16777216)) + (wrap64 (t174 * 65536)))) + (wrap64 (t175 * 256)))) + t176)) t172) bt177.1 (t181 != (Int.tmod (wrap64 ((wrap64 ((wrap64 ((wrap64 (t173 * 16777216)) + (wrap64 (t174 * 65536)))) + (wrap64 (t175 * 256)))) + t176)) t172)))) else (laws_FnGray.j0 k l0 (wrap64 (1 + (Int.tmod t171 30))) t172 (Int.tmod (wrap64 ((wrap64 ((wrap64 ((wrap64 (t173 * 16777216)) + (wrap64 (t174 * 65536)))) + (wrap64 (t175 * 256)))) + t176)) t172) bt177.1 true)) else (laws_FnGray.j0 k l0 (wrap64 (1 + (Int.tmod t171 30))) t172 (Int.tmod (wrap64 ((wrap64 ((wrap64 ((wrap64 (t173 * 16777216)) + (wrap64 (t174 * 65536)))) + (wrap64 (t175 * 256)))) + t176)) t172) bt177.1 true))))))) = some r := H
    have A5 := Aside0.mk A50
    clear A50
    replace H := Option.bind_eq_some_iff.mp H
    obtain ⟨t174, A60, H⟩ := H
    replace H : ((laws_at.f l0 4).bind fun t175 => ((laws_at.f l0 5).bind fun t176 => (if t172 = 0 then (none) else ((impl_GrayWord.f k (Int.tmod (wrap64 ((wrap64 ((wrap64 ((wrap64 (t173 * 16777216)) + (wrap64 (t174 * 65536)))) + (wrap64 (t175 * 256)))) + t176)) t172) (wrap64 (1 + (Int.tmod t171 30)))).bind fun bt177 => (if bt177.2 = true then (if (bt177.1.length : Int) = (wrap64 (1 + (Int.tmod t171 30))) then ((impl_GrayRank.f k bt177.1).bind fun t181 => (laws_FnGray.j0 k l0 (wrap64 (1 + (Int.tmod t171 30))) t172 (Int.tmod (wrap64 ((wrap64 ((wrap64 ((wrap64 (t173 * 16777216)) + (wrap64 (t174 * 65536)))) + (wrap64 (t175 * 256)))) + t176)) t172) bt177.1 (t181 != (Int.tmod (wrap64 ((wrap64 ((wrap64 ((wrap64 (t173 * 16777216)) + (wrap64 (t174 * 65536)))) + (wrap64 (t175 * 256)))) + t176)) t172)))) else (laws_FnGray.j0 k l0 (wrap64 (1 + (Int.tmod t171 30))) t172 (Int.tmod (wrap64 ((wrap64 ((wrap64 ((wrap64 (t173 * 16777216)) + (wrap64 (t174 * 65536)))) + (wrap64 (t175 * 256)))) + t176)) t172) bt177.1 true)) else (laws_FnGray.j0 k l0 (wrap64 (1 + (Int.tmod t171 30))) t172 (Int.tmod (wrap64 ((wrap64 ((wrap64 ((wrap64 (t173 * 16777216)) + (wrap64 (t174 * 65536)))) + (wrap64 (t175 * 256)))) + t176)) t172) bt177.1 true)))))) = some r := H
    have A6 := Aside0.mk A60
    clear A60
    replace H := Option.bind_eq_some_iff.mp H
    obtain ⟨t175, A70, H⟩ := H
    replace H : ((laws_at.f l0 5).bind fun t176 => (if t172 = 0 then (none) else ((impl_GrayWord.f k (Int.tmod (wrap64 ((wrap64 ((wrap64 ((wrap64 (t173 * 16777216)) + (wrap64 (t174 * 65536)))) + (wrap64 (t175 * 256)))) + t176)) t172) (wrap64 (1 + (Int.tmod t171 30)))).bind fun bt177 => (if bt177.2 = true then (if (bt177.1.length : Int) = (wrap64 (1 + (Int.tmod t171 30))) then ((impl_GrayRank.f k bt177.1).bind fun t181 => (laws_FnGray.j0 k l0 (wrap64 (1 + (Int.tmod t171 30))) t172 (Int.tmod (wrap64 ((wrap64 ((wrap64 ((wrap64 (t173 * 16777216)) + (wrap64 (t174 * 65536)))) + (wrap64 (t175 * 256)))) + t176)) t172) bt177.1 (t181 != (Int.tmod (wrap64 ((wrap64 ((wrap64 ((wrap64 (t173 * 16777216)) + (wrap64 (t174 * 65536)))) + (wrap64 (t175 * 256)))) + t176)) t172)))) else (laws_FnGray.j0 k l0 (wrap64 (1 + (Int.tmod t171 30))) t172 (Int.tmod (wrap64 ((wrap64 ((wrap64 ((wrap64 (t173 * 16777216)) + (wrap64 (t174 * 65536)))) + (wrap64 (t175 * 256)))) + t176)) t172) bt177.1 true)) else (laws_FnGray.j0 k l0 (wrap64 (1 + (Int.tmod t171 30))) t172 (Int.tmod (wrap64 ((wrap64 ((wrap64 ((wrap64 (t173 * 16777216)) + (wrap64 (t174 * 65536)))) + (wrap64 (t175 * 256)))) + t176)) t172) bt177.1 true))))) = some r := H
    have A7 := Aside0.mk A70
    clear A70
    replace H := Option.bind_eq_some_iff.mp H
    obtain ⟨t176, A80, H⟩ := H
    replace H : (if t172 = 0 then (none) else ((impl_GrayWord.f k (Int.tmod (wrap64 ((wrap64 ((wrap64 ((wrap64 (t173 * 16777216)) + (wrap64 (t174 * 65536)))) + (wrap64 (t175 * 256)))) + t176)) t172) (wrap64 (1 + (Int.tmod t171 30)))).bind fun bt177 => (if bt177.2 = true then (if (bt177.1.length : Int) = (wrap64 (1 + (Int.tmod t171 30))) then ((impl_GrayRank.f k bt177.1).bind fun t181 => (laws_FnGray.j0 k l0 (wrap64 (1 + (Int.tmod t171 30))) t172 (Int.tmod (wrap64 ((wrap64 ((wrap64 ((wrap64 (t173 * 16777216)) + (wrap64 (t174 * 65536)))) + (wrap64 (t175 * 256)))) + t176)) t172) bt177.1 (t181 != (Int.tmod (wrap64 ((wrap64 ((wrap64 ((wrap64 (t173 * 16777216)) + (wrap64 (t174 * 65536)))) + (wrap64 (t175 * 256)))) + t176)) t172)))) else (laws_FnGray.j0 k l0 (wrap64 (1 + (Int.tmod t171 30))) t172 (Int.tmod (wrap64 ((wrap64 ((wrap64 ((wrap64 (t173 * 16777216)) + (wrap64 (t174 * 65536)))) + (wrap64 (t175 * 256)))) + t176)) t172) bt177.1 true)) else (laws_FnGray.j0 k l0 (wrap64 (1 + (Int.tmod t171 30))) t172 (Int.tmod (wrap64 ((wrap64 ((wrap64 ((wrap64 (t173 * 16777216)) + (wrap64 (t174 * 65536)))) + (wrap64 (t175 * 256)))) + t176)) t172) bt177.1 true)))) = some r := H
    have A8 := Aside0.mk A80
    clear A80
    by_cases c9 : t172 = 0
    · rw [if_pos c9] at H
      exact absurd H (by simp)
    · rw [if_neg c9] at H
      have c9b0 : (t172 == 0) = false := beq_eq_false_iff_ne.mpr c9
      have c9b1 : (t172 != 0) = true := bne_iff_ne.mpr c9
      replace H := Option.bind_eq_some_iff.mp H
      obtain ⟨⟨t177, t178⟩, A100, H⟩ := H
      replace H : (if t178 = true then (if (t177.length : Int) = (wrap64 (1 + (Int.tmod t171 30))) then ((impl_GrayRank.f k t177).bind fun t181 => (laws_FnGray.j0 k l0 (wrap64 (1 + (Int.tmod t171 30))) t172 (Int.tmod (wrap64 ((wrap64 ((wrap64 ((wrap64 (t173 * 16777216)) + (wrap64 (t174 * 65536)))) + (wrap64 (t175 * 256)))) + t176)) t172) t177 (t181 != (Int.tmod (wrap64 ((wrap64 ((wrap64 ((wrap64 (t173 * 16777216)) + (wrap64 (t174 * 65536)))) + (wrap64 (t175 * 256)))) + t176)) t172)))) else (laws_FnGray.j0 k l0 (wrap64 (1 + (Int.tmod t171 30))) t172 (Int.tmod (wrap64 ((wrap64 ((wrap64 ((wrap64 (t173 * 16777216)) + (wrap64 (t174 * 65536)))) + (wrap64 (t175 * 256)))) + t176)) t172) t177 true)) else (laws_FnGray.j0 k l0 (wrap64 (1 + (Int.tmod t171 30))) t172 (Int.tmod (wrap64 ((wrap64 ((wrap64 ((wrap64 (t173 * 16777216)) + (wrap64 (t174 * 65536)))) + (wrap64 (t175 * 256)))) + t176)) t172) t177 true)) = some r := H
      have A10 := Aside0.mk A100
      clear A100
      have HC11 := Aside0.mk H
      clear H
      go_enter Try.func14, Try.ntmps14
      go_upto_region 7 with (first | ((with_reducible refine gate_callee (f := 21) rfl ?_); refine goesL_ (some 19) rfl rfl Try.func21 (by kernel_rfl) rfl #[.slice A0 l0.length c0, .int .i64 1] rfl (by (try simp only [List.map_toArray, List.map_cons, List.map_nil]); first | done | rfl | (simp only [List.length_drop, List.length_take]; rfl)) ?_; (with_reducible refine (laws_at.calls _ _ l0 1 t171 _ ?side1 ?side2 A3.out).mono ?_); (case side1 => repeat (first | exact HR0.out | (with_reducible refine Kd.C_alloc ?_ _) | (with_reducible refine Kd.C_drewN ?_ _) | (with_reducible refine Kd.C_drew ?_))); (case side2 => exact HC0.out); rintro e w' ⟨rfl, ⟨nd, rfl⟩⟩; refine ⟨_, rfl, ?_⟩) | ((with_reducible refine gate_callee (f := 44) rfl ?_); refine goesL_ (some 23) rfl rfl Try.func44 (by kernel_rfl) rfl #[.int .i64 (wrap64 (1 + (Int.tmod t171 30)))] rfl (by (try simp only [List.map_toArray, List.map_cons, List.map_nil]); first | done | rfl | (simp only [List.length_drop, List.length_take]; rfl)) ?_; (with_reducible refine (spec_MakePower.calls k (wrap64 (1 + (Int.tmod t171 30))) t172 _ A4.out).mono ?_); rintro e w12 ⟨rfl, hb⟩; refine ⟨_, rfl, ?_⟩; have n0_ := Aside0.mk (below_step (by repeat (first | (with_reducible first | exact HB.out | apply below_alloc | apply pw_below_drewN | apply below_drew1) | exact HB.out)) hb); clear HB; have HB := n0_; clear n0_; (try clear hb); (try clear hb2); (try clear hk); (try clear hi)) | ((with_reducible refine gate_callee (f := 21) rfl ?_); refine goesL_ (some 25) rfl rfl Try.func21 (by kernel_rfl) rfl #[.slice A0 l0.length c0, .int .i64 2] rfl (by (try simp only [List.map_toArray, List.map_cons, List.map_nil]); first | done | rfl | (simp only [List.length_drop, List.length_take]; rfl)) ?_; (with_reducible refine (laws_at.calls _ _ l0 2 t173 _ ?side1 ?side2 A5.out).mono ?_); (case side1 => repeat (first | exact (Kd.C_below HR0.out HB.out) | (with_reducible refine Kd.C_alloc ?_ _) | (with_reducible refine Kd.C_drewN ?_ _) | (with_reducible refine Kd.C_drew ?_))); (case side2 => exact HC0.out); rintro e w' ⟨rfl, ⟨nd, rfl⟩⟩; refine ⟨_, rfl, ?_⟩) | ((with_reducible refine gate_callee (f := 21) rfl ?_); refine goesL_ (some 28) rfl rfl Try.func21 (by kernel_rfl) rfl #[.slice A0 l0.length c0, .int .i64 3] rfl (by (try simp only [List.map_toArray, List.map_cons, List.map_nil]); first | done | rfl | (simp only [List.length_drop, List.length_take]; rfl)) ?_; (with_reducible refine (laws_at.calls _ _ l0 3 t174 _ ?side1 ?side2 A6.out).mono ?_); (case side1 => repeat (first | exact (Kd.C_below HR0.out (by repeat (first | (with_reducible first | exact HB.out | apply below_alloc | apply pw_below_drewN | apply below_drew1) | exact HB.out))) | (with_reducible refine Kd.C_alloc ?_ _) | (with_reducible refine Kd.C_drewN ?_ _) | (with_reducible refine Kd.C_drew ?_))); (case side2 => exact HC0.out); rintro e w' ⟨rfl, ⟨nd, rfl⟩⟩; refine ⟨_, rfl, ?_⟩) | ((with_reducible refine gate_callee (f := 21) rfl ?_); refine goesL_ (some 32) rfl rfl Try.func21 (by kernel_rfl) rfl #[.slice A0 l0.length c0, .int .i64 4] rfl (by (try simp only [List.map_toArray, List.map_cons, List.map_nil]); first | done | rfl | (simp only [List.length_drop, List.length_take]; rfl)) ?_; (with_reducible refine (laws_at.calls _ _ l0 4 t175 _ ?side1 ?side2 A7.out).mono ?_); (case side1 => repeat (first | exact (Kd.C_below HR0.out (by repeat (first | (with_reducible first | exact HB.out | apply below_alloc | apply pw_below_drewN | apply below_drew1) | exact HB.out))) | (with_reducible refine Kd.C_alloc ?_ _) | (with_reducible refine Kd.C_drewN ?_ _) | (with_reducible refine Kd.C_drew ?_))); (case side2 => exact HC0.out); rintro e w' ⟨rfl, ⟨nd, rfl⟩⟩; refine ⟨_, rfl, ?_⟩) | ((with_reducible refine gate_callee (f := 21) rfl ?_); refine goesL_ (some 36) rfl rfl Try.func21 (by kernel_rfl) rfl #[.slice A0 l0.length c0, .int .i64 5] rfl (by (try simp only [List.map_toArray, List.map_cons, List.map_nil]); first | done | rfl | (simp only [List.length_drop, List.length_take]; rfl)) ?_; (with_reducible refine (laws_at.calls _ _ l0 5 t176 _ ?side1 ?side2 A8.out).mono ?_); (case side1 => repeat (first | exact (Kd.C_below HR0.out (by repeat (first | (with_reducible first | exact HB.out | apply below_alloc | apply pw_below_drewN | apply below_drew1) | exact HB.out))) | (with_reducible refine Kd.C_alloc ?_ _) | (with_reducible refine Kd.C_drewN ?_ _) | (with_reducible refine Kd.C_drew ?_))); (case side2 => exact HC0.out); rintro e w' ⟨rfl, ⟨nd, rfl⟩⟩; refine ⟨_, rfl, ?_⟩) | ((with_reducible refine gate_callee (f := 39) rfl ?_); refine goesL_ (some 43) rfl rfl Try.func39 (by kernel_rfl) rfl #[.int .i64 (Int.tmod (wrap64 ((wrap64 ((wrap64 ((wrap64 (t173 * 16777216)) + (wrap64 (t174 * 65536)))) + (wrap64 (t175 * 256)))) + t176)) t172), .int .i64 (wrap64 (1 + (Int.tmod t171 30)))] rfl (by (try simp only [List.map_toArray, List.map_cons, List.map_nil]); first | done | rfl | (simp only [List.length_drop, List.length_take]; rfl)) ?_; (with_reducible refine (impl_GrayWord.calls k (Int.tmod (wrap64 ((wrap64 ((wrap64 ((wrap64 (t173 * 16777216)) + (wrap64 (t174 * 65536)))) + (wrap64 (t175 * 256)))) + t176)) t172) (wrap64 (1 + (Int.tmod t171 30))) t177 t178 _ A10.out).mono ?_); rintro e w13 ⟨v179, rfl, ho0, hb⟩; refine ⟨_, rfl, ?_⟩; have n0_ := Aside0.mk (Kd.R_lower ho0 (below_size (by repeat (first | (with_reducible first | exact HB.out | apply below_alloc | apply pw_below_drewN | apply below_drew1) | exact HB.out)))); have n1_ := Aside0.mk (below_step (by repeat (first | (with_reducible first | exact HB.out | apply below_alloc | apply pw_below_drewN | apply below_drew1) | exact HB.out)) hb); clear HB; have HO180 := n0_; have HB := n1_; clear n0_ n1_; (try clear hb); (try clear hb2); (try clear hk); (try clear hi); (try clear ho0)))
      (try simp only [Act.put, List.setIfInBounds_toArray, List.set_cons_zero, List.set_cons_succ])
      go_cut [59] (fun v59 wc => ∃ (kq : Nat) (x59_10 : Bool), v59 = .bool x59_10 ∧ Aside0 (laws_FnGray.j0 kq l0 (wrap64 (1 + (Int.tmod t171 30))) t172 (Int.tmod (wrap64 ((wrap64 ((wrap64 ((wrap64 (t173 * 16777216)) + (wrap64 (t174 * 65536)))) + (wrap64 (t175 * 256)))) + t176)) t172) t177 x59_10 = some r) ∧ Aside0 (kq ≤ k) ∧ Aside0 (Kd.R (Kd.int .i64) 3 wc w.heap.size (fun _ => True) v179 t177) ∧ Aside0 (Below w.heap.size w wc))
      case first =>
        have H := HC11.out
        clear HC11
        by_cases c14 : t178 = true
        · subst c14
          have H1 : (if (t177.length : Int) = (wrap64 (1 + (Int.tmod t171 30))) then ((impl_GrayRank.f k t177).bind fun t181 => (laws_FnGray.j0 k l0 (wrap64 (1 + (Int.tmod t171 30))) t172 (Int.tmod (wrap64 ((wrap64 ((wrap64 ((wrap64 (t173 * 16777216)) + (wrap64 (t174 * 65536)))) + (wrap64 (t175 * 256)))) + t176)) t172) t177 (t181 != (Int.tmod (wrap64 ((wrap64 ((wrap64 ((wrap64 (t173 * 16777216)) + (wrap64 (t174 * 65536)))) + (wrap64 (t175 * 256)))) + t176)) t172)))) else (laws_FnGray.j0 k l0 (wrap64 (1 + (Int.tmod t171 30))) t172 (Int.tmod (wrap64 ((wrap64 ((wrap64 ((wrap64 (t173 * 16777216)) + (wrap64 (t174 * 65536)))) + (wrap64 (t175 * 256)))) + t176)) t172) t177 true)) = some r := by rw [if_pos rfl] at H; exact H
          clear H
          have H := H1
          clear H1
          by_cases c15 : (t177.length : Int) = (wrap64 (1 + (Int.tmod t171 30)))
          · rw [if_pos c15] at H
            have c15b0 : ((t177.length : Int) == (wrap64 (1 + (Int.tmod t171 30)))) = true := beq_iff_eq.mpr c15
            have c15b1 : ((t177.length : Int) != (wrap64 (1 + (Int.tmod t171 30)))) = false := bne_eq_false_iff_eq.mpr c15
            clear c15
            (first | rw [c15b0] | (simp only [i64_w, i32_w]; rw [c15b0]) | skip)
            replace H := Option.bind_eq_some_iff.mp H
            obtain ⟨t181, A160, H⟩ := H
            replace H : (laws_FnGray.j0 k l0 (wrap64 (1 + (Int.tmod t171 30))) t172 (Int.tmod (wrap64 ((wrap64 ((wrap64 ((wrap64 (t173 * 16777216)) + (wrap64 (t174 * 65536)))) + (wrap64 (t175 * 256)))) + t176)) t172) t177 (t181 != (Int.tmod (wrap64 ((wrap64 ((wrap64 ((wrap64 (t173 * 16777216)) + (wrap64 (t174 * 65536)))) + (wrap64 (t175 * 256)))) + t176)) t172))) = some r := H
            have A16 := Aside0.mk A160
            clear A160
            have H' := Aside0.mk H
            clear H
            obtain ⟨Ao17, co17, eo17⟩ := Kd.R_slice HO180.out
            subst eo17
            go_wp2_with (first | (go_at_call 37; (with_reducible refine (impl_GrayRank.calls k _ _ t177 t181 _ ?side1 ?side2 A16.out).mono ?_); (case side1 => repeat (first | exact (Kd.R_reads' HO180.out).2.2 | (with_reducible refine Kd.C_alloc ?_ _) | (with_reducible refine Kd.C_drewN ?_ _) | (with_reducible refine Kd.C_drew ?_))); (case side2 => exact (Kd.R_reads' HO180.out).2.1); rintro e w' ⟨rfl, ⟨nd, rfl⟩⟩))
            go_meet
            case rel => exact ⟨_, ((t181 != (Int.tmod (wrap64 ((wrap64 ((wrap64 ((wrap64 (t173 * 16777216)) + (wrap64 (t174 * 65536)))) + (wrap64 (t175 * 256)))) + t176)) t172))), (by first | rfl | (simp; done) | (simp [*]; done)), H', ⟨by first | omega | exact Nat.le_refl _⟩, ⟨by (with_reducible repeat (first | apply Kd.R_alloc | apply Kd.R_drewN | apply Kd.R_drew)); exact HO180.out⟩, ⟨by repeat (first | (with_reducible first | exact HB.out | apply below_alloc | apply pw_below_drewN | apply below_drew1) | exact HB.out)⟩⟩
          · rw [if_neg c15] at H
            have c15b0 : ((t177.length : Int) == (wrap64 (1 + (Int.tmod t171 30)))) = false := beq_eq_false_iff_ne.mpr c15
            have c15b1 : ((t177.length : Int) != (wrap64 (1 + (Int.tmod t171 30)))) = true := bne_iff_ne.mpr c15
            (first | rw [c15b0] | (simp only [i64_w, i32_w]; rw [c15b0]) | skip)
            have H' := Aside0.mk H
            clear H
            obtain ⟨Ao18, co18, eo18⟩ := Kd.R_slice HO180.out
            subst eo18
            go_wp2
            go_meet
            case rel => exact ⟨_, (true), (by first | rfl | (simp; done) | (simp [*]; done)), H', ⟨by first | omega | exact Nat.le_refl _⟩, ⟨by (with_reducible repeat (first | apply Kd.R_alloc | apply Kd.R_drewN | apply Kd.R_drew)); exact HO180.out⟩, ⟨by repeat (first | (with_reducible first | exact HB.out | apply below_alloc | apply pw_below_drewN | apply below_drew1) | exact HB.out)⟩⟩
        · replace c14 := Bool.eq_false_iff.mpr c14
          subst c14
          have H1 : (laws_FnGray.j0 k l0 (wrap64 (1 + (Int.tmod t171 30))) t172 (Int.tmod (wrap64 ((wrap64 ((wrap64 ((wrap64 (t173 * 16777216)) + (wrap64 (t174 * 65536)))) + (wrap64 (t175 * 256)))) + t176)) t172) t177 true) = some r := by rw [if_neg (show ¬ (false = true) by decide)] at H; exact H
          clear H
          have H := H1
          clear H1
          have H' := Aside0.mk H
          clear H
          go_wp2
          go_meet
          case rel => exact ⟨_, (true), (by first | rfl | (simp; done) | (simp [*]; done)), H', ⟨by first | omega | exact Nat.le_refl _⟩, ⟨by (with_reducible repeat (first | apply Kd.R_alloc | apply Kd.R_drewN | apply Kd.R_drew)); exact HO180.out⟩, ⟨by repeat (first | (with_reducible first | exact HB.out | apply below_alloc | apply pw_below_drewN | apply below_drew1) | exact HB.out)⟩⟩
      case rest =>
        clear HC11
        try clear c1
        try clear c2
        try clear c2b0
        try clear c2b1
        try clear p2
        try clear c3
        try clear c4
        try clear p6
        try clear c9
        try clear c9b0
        try clear c9b1
        try clear c14
        try clear c15
        try clear c15b0
        try clear c15b1
        obtain ⟨kq, x59_10, rfl, HA, HJ10, HO_6, HB⟩ := hcut
        cases kq with
        | zero => exact absurd HA.out (by simp [laws_FnGray.j0])
        | succ kj10 =>
          have H := HA.out
          clear HA
          simp only [laws_FnGray.j0] at H
          by_cases c19 : x59_10 = true
          · subst c19
            have H1 : (some false) = some r := by rw [if_pos rfl] at H; exact H
            clear H
            have H := H1
            clear H1
            obtain rfl := Option.some.inj H
            go_wp2
            go_ret
            exact ⟨by first | rfl | (simp [errW_none, errW_some] <;> rfl) | (simp [*, errW_none, errW_some] <;> rfl), by repeat (first | (with_reducible first | exact HB.out | apply below_alloc | apply pw_below_drewN | apply below_drew1) | exact HB.out)⟩
          · replace c19 := Bool.eq_false_iff.mpr c19
            subst c19
            have H1 : ((laws_fresh.f kj10 l0 3).bind fun t182 => ((spec_MakeWord.f kj10 t182 30).bind fun t185 => ((impl_GrayRank.f kj10 t185).bind fun t188 => ((impl_GrayWord.f kj10 t188 (t185.length : Int)).bind fun bt189 => (if bt189.2 = true then ((laws_ints.f kj10 t185 bt189.1).bind fun t193 => (laws_FnGray.j1 kj10 (wrap64 (1 + (Int.tmod t171 30))) t172 (Int.tmod (wrap64 ((wrap64 ((wrap64 ((wrap64 (t173 * 16777216)) + (wrap64 (t174 * 65536)))) + (wrap64 (t175 * 256)))) + t176)) t172) t177 (!t193))) else (laws_FnGray.j1 kj10 (wrap64 (1 + (Int.tmod t171 30))) t172 (Int.tmod (wrap64 ((wrap64 ((wrap64 ((wrap64 (t173 * 16777216)) + (wrap64 (t174 * 65536)))) + (wrap64 (t175 * 256)))) + t176)) t172) t177 true)))))) = some r := by rw [if_neg (show ¬ (false = true) by decide)] at H; exact H
            clear H
            have H := H1
            clear H1
            replace H := Option.bind_eq_some_iff.mp H
            obtain ⟨t182, A200, H⟩ := H
            replace H : ((spec_MakeWord.f kj10 t182 30).bind fun t185 => ((impl_GrayRank.f kj10 t185).bind fun t188 => ((impl_GrayWord.f kj10 t188 (t185.length : Int)).bind fun bt189 => (if bt189.2 = true then ((laws_ints.f kj10 t185 bt189.1).bind fun t193 => (laws_FnGray.j1 kj10 (wrap64 (1 + (Int.tmod t171 30))) t172 (Int.tmod (wrap64 ((wrap64 ((wrap64 ((wrap64 (t173 * 16777216)) + (wrap64 (t174 * 65536)))) + (wrap64 (t175 * 256)))) + t176)) t172) t177 (!t193))) else (laws_FnGray.j1 kj10 (wrap64 (1 + (Int.tmod t171 30))) t172 (Int.tmod (wrap64 ((wrap64 ((wrap64 ((wrap64 (t173 * 16777216)) + (wrap64 (t174 * 65536)))) + (wrap64 (t175 * 256)))) + t176)) t172) t177 true))))) = some r := H
            have A20 := Aside0.mk A200
            clear A200
            replace H := Option.bind_eq_some_iff.mp H
            obtain ⟨t185, A210, H⟩ := H
            replace H : ((impl_GrayRank.f kj10 t185).bind fun t188 => ((impl_GrayWord.f kj10 t188 (t185.length : Int)).bind fun bt189 => (if bt189.2 = true then ((laws_ints.f kj10 t185 bt189.1).bind fun t193 => (laws_FnGray.j1 kj10 (wrap64 (1 + (Int.tmod t171 30))) t172 (Int.tmod (wrap64 ((wrap64 ((wrap64 ((wrap64 (t173 * 16777216)) + (wrap64 (t174 * 65536)))) + (wrap64 (t175 * 256)))) + t176)) t172) t177 (!t193))) else (laws_FnGray.j1 kj10 (wrap64 (1 + (Int.tmod t171 30))) t172 (Int.tmod (wrap64 ((wrap64 ((wrap64 ((wrap64 (t173 * 16777216)) + (wrap64 (t174 * 65536)))) + (wrap64 (t175 * 256)))) + t176)) t172) t177 true)))) = some r := H
            have A21 := Aside0.mk A210
            clear A210
            replace H := Option.bind_eq_some_iff.mp H
            obtain ⟨t188, A220, H⟩ := H
            replace H : ((impl_GrayWord.f kj10 t188 (t185.length : Int)).bind fun bt189 => (if bt189.2 = true then ((laws_ints.f kj10 t185 bt189.1).bind fun t193 => (laws_FnGray.j1 kj10 (wrap64 (1 + (Int.tmod t171 30))) t172 (Int.tmod (wrap64 ((wrap64 ((wrap64 ((wrap64 (t173 * 16777216)) + (wrap64 (t174 * 65536)))) + (wrap64 (t175 * 256)))) + t176)) t172) t177 (!t193))) else (laws_FnGray.j1 kj10 (wrap64 (1 + (Int.tmod t171 30))) t172 (Int.tmod (wrap64 ((wrap64 ((wrap64 ((wrap64 (t173 * 16777216)) + (wrap64 (t174 * 65536)))) + (wrap64 (t175 * 256)))) + t176)) t172) t177 true))) = some r := H
            have A22 := Aside0.mk A220
            clear A220
            replace H := Option.bind_eq_some_iff.mp H
            obtain ⟨⟨t189, t190⟩, A230, H⟩ := H
            replace H : (if t190 = true then ((laws_ints.f kj10 t185 t189).bind fun t193 => (laws_FnGray.j1 kj10 (wrap64 (1 + (Int.tmod t171 30))) t172 (Int.tmod (wrap64 ((wrap64 ((wrap64 ((wrap64 (t173 * 16777216)) + (wrap64 (t174 * 65536)))) + (wrap64 (t175 * 256)))) + t176)) t172) t177 (!t193))) else (laws_FnGray.j1 kj10 (wrap64 (1 + (Int.tmod t171 30))) t172 (Int.tmod (wrap64 ((wrap64 ((wrap64 ((wrap64 (t173 * 16777216)) + (wrap64 (t174 * 65536)))) + (wrap64 (t175 * 256)))) + t176)) t172) t177 true)) = some r := H
            have A23 := Aside0.mk A230
            clear A230
            have HC24 := Aside0.mk H
            clear H
            go_upto_region 11 with (first | ((with_reducible refine gate_callee (f := 46) rfl ?_); refine goesL_ (some 61) rfl rfl Try.func46 (by kernel_rfl) rfl #[.slice A0 l0.length c0, .int .i64 3] rfl (by (try simp only [List.map_toArray, List.map_cons, List.map_nil]); first | done | rfl | (simp only [List.length_drop, List.length_take]; rfl)) ?_; (with_reducible refine (laws_fresh.calls kj10 _ _ l0 3 t182 _ ?side1 ?side2 A20.out).mono ?_); (case side1 => repeat (first | exact (Kd.C_below HR0.out HB.out) | (with_reducible refine Kd.C_alloc ?_ _) | (with_reducible refine Kd.C_drewN ?_ _) | (with_reducible refine Kd.C_drew ?_))); (case side2 => exact HC0.out); rintro e w25 ⟨v183, rfl, ho0, hb⟩; refine ⟨_, rfl, ?_⟩; have n0_ := Aside0.mk (Kd.R_below (by (with_reducible repeat (first | apply Kd.R_alloc | apply Kd.R_drewN | apply Kd.R_drew)); exact HO_6.out) hb); have n1_ := Aside0.mk (Kd.R_lower ho0 (below_size (by repeat (first | (with_reducible first | exact HB.out | apply below_alloc | apply pw_below_drewN | apply below_drew1) | exact HB.out)))); have n2_ := Aside0.mk (below_step (by repeat (first | (with_reducible first | exact HB.out | apply below_alloc | apply pw_below_drewN | apply below_drew1) | exact HB.out)) hb); clear HO_6; clear HB; have HO_6 := n0_; have HO184 := n1_; have HB := n2_; clear n0_ n1_ n2_; (try clear hb); (try clear hb2); (try clear hk); (try clear hi); (try clear ho0); obtain ⟨Ao26, co26, eo26⟩ := Kd.R_slice HO184.out; subst eo26) | ((with_reducible refine gate_callee (f := 45) rfl ?_); refine goesL_ (some 62) rfl rfl Try.func45 (by kernel_rfl) rfl #[.slice Ao26 t182.length co26, .int .i64 30] rfl (by (try simp only [List.map_toArray, List.map_cons, List.map_nil]); first | done | rfl | (simp only [List.length_drop, List.length_take]; rfl)) ?_; (with_reducible refine (spec_MakeWord.calls kj10 _ _ t182 30 t185 _ ?side1 ?side2 A21.out).mono ?_); (case side1 => repeat (first | exact (Kd.R_reads' HO184.out).2.2 | (with_reducible refine Kd.C_alloc ?_ _) | (with_reducible refine Kd.C_drewN ?_ _) | (with_reducible refine Kd.C_drew ?_))); (case side2 => exact (Kd.R_reads' HO184.out).2.1); rintro e w27 ⟨v186, rfl, ho0, hb⟩; refine ⟨_, rfl, ?_⟩; have n0_ := Aside0.mk (Kd.R_elder' (by (with_reducible repeat (first | apply Kd.R_alloc | apply Kd.R_drewN | apply Kd.R_drew)); exact HO_6.out) (Kd.R_base ho0) hb); have n1_ := Aside0.mk (Kd.R_below (by (with_reducible repeat (first | apply Kd.R_alloc | apply Kd.R_drewN | apply Kd.R_drew)); exact HO184.out) hb); have n2_ := Aside0.mk (Kd.R_lower (Kd.R_new' ho0 (Kd.R_lt (by (with_reducible repeat (first | apply Kd.R_alloc | apply Kd.R_drewN | apply Kd.R_drew)); exact HO_6.out))) (below_size (by repeat (first | (with_reducible first | exact HB.out | apply below_alloc | apply pw_below_drewN | apply below_drew1) | exact HB.out)))); have n3_ := Aside0.mk (below_step (by repeat (first | (with_reducible first | exact HB.out | apply below_alloc | apply pw_below_drewN | apply below_drew1) | exact HB.out)) hb); clear HO_6; clear HO184; clear HB; have HO_6 := n0_; have HO184 := n1_; have HO187 := n2_; have HB := n3_; clear n0_ n1_ n2_ n3_; (try clear hb); (try clear hb2); (try clear hk); (try clear hi); (try clear ho0); obtain ⟨Ao28, co28, eo28⟩ := Kd.R_slice HO187.out; subst eo28) | ((with_reducible refine gate_callee (f := 37) rfl ?_); refine goesL_ (some 65) rfl rfl Try.func37 (by kernel_rfl) rfl #[.slice Ao28 t185.length co28] rfl (by (try simp only [List.map_toArray, List.map_cons, List.map_nil]); first | done | rfl | (simp only [List.length_drop, List.length_take]; rfl)) ?_; (with_reducible refine (impl_GrayRank.calls kj10 _ _ t185 t188 _ ?side1 ?side2 A22.out).mono ?_); (case side1 => repeat (first | exact (Kd.R_reads' HO187.out).2.2 | (with_reducible refine Kd.C_alloc ?_ _) | (with_reducible refine Kd.C_drewN ?_ _) | (with_reducible refine Kd.C_drew ?_))); (case side2 => exact (Kd.R_reads' HO187.out).2.1); rintro e w' ⟨rfl, ⟨nd, rfl⟩⟩; refine ⟨_, rfl, ?_⟩) | ((with_reducible refine gate_callee (f := 39) rfl ?_); refine goesL_ (some 68) rfl rfl Try.func39 (by kernel_rfl) rfl #[.int .i64 t188, .int .i64 (t185.length : Int)] rfl (by (try simp only [List.map_toArray, List.map_cons, List.map_nil]); first | done | rfl | (simp only [List.length_drop, List.length_take]; rfl)) ?_; (with_reducible refine (impl_GrayWord.calls kj10 t188 (t185.length : Int) t189 t190 _ A23.out).mono ?_); rintro e w29 ⟨v191, rfl, ho0, hb⟩; refine ⟨_, rfl, ?_⟩; have n0_ := Aside0.mk (Kd.R_elder' (by (with_reducible repeat (first | apply Kd.R_alloc | apply Kd.R_drewN | apply Kd.R_drew)); exact HO_6.out) (Kd.R_base ho0) hb); have n1_ := Aside0.mk (Kd.R_below (by (with_reducible repeat (first | apply Kd.R_alloc | apply Kd.R_drewN | apply Kd.R_drew)); exact HO184.out) hb); have n2_ := Aside0.mk (Kd.R_elder' (by (with_reducible repeat (first | apply Kd.R_alloc | apply Kd.R_drewN | apply Kd.R_drew)); exact HO187.out) (Kd.R_base ho0) hb); have n3_ := Aside0.mk (Kd.R_lower (Kd.R_new' (Kd.R_new' ho0 (Kd.R_lt (by (with_reducible repeat (first | apply Kd.R_alloc | apply Kd.R_drewN | apply Kd.R_drew)); exact HO_6.out))) (Kd.R_lt (by (with_reducible repeat (first | apply Kd.R_alloc | apply Kd.R_drewN | apply Kd.R_drew)); exact HO187.out))) (below_size (by repeat (first | (with_reducible first | exact HB.out | apply below_alloc | apply pw_below_drewN | apply below_drew1) | exact HB.out)))); have n4_ := Aside0.mk (below_step (by repeat (first | (with_reducible first | exact HB.out | apply below_alloc | apply pw_below_drewN | apply below_drew1) | exact HB.out)) hb); clear HO_6; clear HO184; clear HO187; clear HB; have HO_6 := n0_; have HO184 := n1_; have HO187 := n2_; have HO192 := n3_; have HB := n4_; clear n0_ n1_ n2_ n3_ n4_; (try clear hb); (try clear hb2); (try clear hk); (try clear hi); (try clear ho0)))
            (try simp only [Act.put, List.setIfInBounds_toArray, List.set_cons_zero, List.set_cons_succ])
            go_cut [78] (fun v78 wc => ∃ (kq : Nat) (x78_23 : Bool), v78 = .bool x78_23 ∧ Aside0 (laws_FnGray.j1 kq (wrap64 (1 + (Int.tmod t171 30))) t172 (Int.tmod (wrap64 ((wrap64 ((wrap64 ((wrap64 (t173 * 16777216)) + (wrap64 (t174 * 65536)))) + (wrap64 (t175 * 256)))) + t176)) t172) t177 x78_23 = some r) ∧ Aside0 (kq ≤ kj10) ∧ Aside0 (Kd.R (Kd.int .i64) 3 wc w.heap.size (fun _ => True) v179 t177) ∧ Aside0 (Below w.heap.size w wc))
            case first =>
              have H := HC24.out
              clear HC24
              by_cases c30 : t190 = true
              · subst c30
                have H1 : ((laws_ints.f kj10 t185 t189).bind fun t193 => (laws_FnGray.j1 kj10 (wrap64 (1 + (Int.tmod t171 30))) t172 (Int.tmod (wrap64 ((wrap64 ((wrap64 ((wrap64 (t173 * 16777216)) + (wrap64 (t174 * 65536)))) + (wrap64 (t175 * 256)))) + t176)) t172) t177 (!t193))) = some r := by rw [if_pos rfl] at H; exact H
                clear H
                have H := H1
                clear H1
                replace H := Option.bind_eq_some_iff.mp H
                obtain ⟨t193, A310, H⟩ := H
                replace H : (laws_FnGray.j1 kj10 (wrap64 (1 + (Int.tmod t171 30))) t172 (Int.tmod (wrap64 ((wrap64 ((wrap64 ((wrap64 (t173 * 16777216)) + (wrap64 (t174 * 65536)))) + (wrap64 (t175 * 256)))) + t176)) t172) t177 (!t193)) = some r := H
                have A31 := Aside0.mk A310
                clear A310
                have H' := Aside0.mk H
                clear H
                obtain ⟨Ao32, co32, eo32⟩ := Kd.R_slice HO192.out
                subst eo32
                go_wp2_with (first | (go_at_call 23; (with_reducible refine (laws_ints.calls kj10 _ _ t185 _ _ t189 t193 _ ?side1 ?side2 ?side3 ?side4 A31.out).mono ?_); (case side1 => repeat (first | exact (Kd.R_reads' HO187.out).2.2 | (with_reducible refine Kd.C_alloc ?_ _) | (with_reducible refine Kd.C_drewN ?_ _) | (with_reducible refine Kd.C_drew ?_))); (case side2 => exact (Kd.R_reads' HO187.out).2.1); (case side3 => repeat (first | exact (Kd.R_reads' HO192.out).2.2 | (with_reducible refine Kd.C_alloc ?_ _) | (with_reducible refine Kd.C_drewN ?_ _) | (with_reducible refine Kd.C_drew ?_))); (case side4 => exact (Kd.R_reads' HO192.out).2.1); rintro e w' ⟨rfl, ⟨nd, rfl⟩⟩))
                go_meet
                case rel => exact ⟨_, (!t193), (by first | rfl | (simp; done) | (simp [*]; done)), H', ⟨by have := HJ10.out; first | omega | exact Nat.le_refl _⟩, ⟨by (with_reducible repeat (first | apply Kd.R_alloc | apply Kd.R_drewN | apply Kd.R_drew)); exact Kd.R_mono HO_6.out (fun _ hk => trivial)⟩, ⟨by repeat (first | (with_reducible first | exact HB.out | apply below_alloc | apply pw_below_drewN | apply below_drew1) | exact HB.out)⟩⟩
              · replace c30 := Bool.eq_false_iff.mpr c30
                subst c30
                have H1 : (laws_FnGray.j1 kj10 (wrap64 (1 + (Int.tmod t171 30))) t172 (Int.tmod (wrap64 ((wrap64 ((wrap64 ((wrap64 (t173 * 16777216)) + (wrap64 (t174 * 65536)))) + (wrap64 (t175 * 256)))) + t176)) t172) t177 true) = some r := by rw [if_neg (show ¬ (false = true) by decide)] at H; exact H
                clear H
                have H := H1
                clear H1
                have H' := Aside0.mk H
                clear H
                go_wp2
                go_meet
                case rel => exact ⟨_, (true), (by first | rfl | (simp; done) | (simp [*]; done)), H', ⟨by have := HJ10.out; first | omega | exact Nat.le_refl _⟩, ⟨by (with_reducible repeat (first | apply Kd.R_alloc | apply Kd.R_drewN | apply Kd.R_drew)); exact Kd.R_mono HO_6.out (fun _ hk => trivial)⟩, ⟨by repeat (first | (with_reducible first | exact HB.out | apply below_alloc | apply pw_below_drewN | apply below_drew1) | exact HB.out)⟩⟩
            case rest =>
              clear HC24
              try clear c1
              try clear c2
              try clear c2b0
              try clear c2b1
              try clear p2
              try clear c3
              try clear c4
              try clear p6
              try clear c9
              try clear c9b0
              try clear c9b1
              try clear c14
              try clear c15
              try clear c15b0
              try clear c15b1
              try clear c19
              try clear c21
              try clear c30
              try clear p2
              try clear p6
              obtain ⟨kq, x78_23, rfl, HA, HJ23, HO_6, HB⟩ := hcut
              cases kq with
              | zero => exact absurd HA.out (by simp [laws_FnGray.j1])
              | succ kj23 =>
                have H := HA.out
                clear HA
                simp only [laws_FnGray.j1] at H
                by_cases c33 : x78_23 = true
                · subst c33
                  have H1 : (some false) = some r := by rw [if_pos rfl] at H; exact H
                  clear H
                  have H := H1
                  clear H1
                  obtain rfl := Option.some.inj H
                  go_wp2
                  go_ret
                  exact ⟨by first | rfl | (simp [errW_none, errW_some] <;> rfl) | (simp [*, errW_none, errW_some] <;> rfl), by repeat (first | (with_reducible first | exact HB.out | apply below_alloc | apply pw_below_drewN | apply below_drew1) | exact HB.out)⟩
                · replace c33 := Bool.eq_false_iff.mpr c33
                  subst c33
                  have H1 : ((impl_GrayWord.f kj23 (wrap64 ((Int.tmod (wrap64 ((wrap64 ((wrap64 ((wrap64 (t173 * 16777216)) + (wrap64 (t174 * 65536)))) + (wrap64 (t175 * 256)))) + t176)) t172) + 1)) (wrap64 (1 + (Int.tmod t171 30)))).bind fun bt194 => (if (bt194.2 != (decide ((wrap64 ((Int.tmod (wrap64 ((wrap64 ((wrap64 ((wrap64 (t173 * 16777216)) + (wrap64 (t174 * 65536)))) + (wrap64 (t175 * 256)))) + t176)) t172) + 1)) < t172))) = true then (some false) else (laws_FnGray.l0 kj23 (wrap64 (1 + (Int.tmod t171 30))) t177 bt194.1 bt194.2 0 (t177.length : Int) 0))) = some r := by rw [if_neg (show ¬ (false = true) by decide)] at H; exact H
                  clear H
                  have H := H1
                  clear H1
                  replace H := Option.bind_eq_some_iff.mp H
                  obtain ⟨⟨t194, t195⟩, A340, H⟩ := H
                  replace H : (if (t195 != (decide ((wrap64 ((Int.tmod (wrap64 ((wrap64 ((wrap64 ((wrap64 (t173 * 16777216)) + (wrap64 (t174 * 65536)))) + (wrap64 (t175 * 256)))) + t176)) t172) + 1)) < t172))) = true then (some false) else (laws_FnGray.l0 kj23 (wrap64 (1 + (Int.tmod t171 30))) t177 t194 t195 0 (t177.length : Int) 0)) = some r := H
                  have A34 := Aside0.mk A340
                  clear A340
                  by_cases c35 : (t195 != (decide ((wrap64 ((Int.tmod (wrap64 ((wrap64 ((wrap64 ((wrap64 (t173 * 16777216)) + (wrap64 (t174 * 65536)))) + (wrap64 (t175 * 256)))) + t176)) t172) + 1)) < t172))) = true
                  · rw [if_pos c35] at H
                    have c35b0 : (t195 != (decide ((wrap64 ((Int.tmod (wrap64 ((wrap64 ((wrap64 ((wrap64 (t173 * 16777216)) + (wrap64 (t174 * 65536)))) + (wrap64 (t175 * 256)))) + t176)) t172) + 1)) < t172))) = true := c35
                    (try (have c35b1 : decide (t195 = (decide ((wrap64 ((Int.tmod (wrap64 ((wrap64 ((wrap64 ((wrap64 (t173 * 16777216)) + (wrap64 (t174 * 65536)))) + (wrap64 (t175 * 256)))) + t176)) t172) + 1)) < t172))) = false := by simpa using c35))
                    (try (have c35b2 : (t195 == (decide ((wrap64 ((Int.tmod (wrap64 ((wrap64 ((wrap64 ((wrap64 (t173 * 16777216)) + (wrap64 (t174 * 65536)))) + (wrap64 (t175 * 256)))) + t176)) t172) + 1)) < t172))) = false := by simpa using c35))
                    (try (have c35b3 : ¬ (t195 = (decide ((wrap64 ((Int.tmod (wrap64 ((wrap64 ((wrap64 ((wrap64 (t173 * 16777216)) + (wrap64 (t174 * 65536)))) + (wrap64 (t175 * 256)))) + t176)) t172) + 1)) < t172))) := by simpa using c35))
                    clear c35
                    obtain rfl := Option.some.inj H
                    go_wp2_with (first | ((with_reducible refine gate_callee (f := 39) rfl ?_); refine goesL_ (some 83) rfl rfl Try.func39 (by kernel_rfl) rfl #[.int .i64 (wrap64 ((Int.tmod (wrap64 ((wrap64 ((wrap64 ((wrap64 (t173 * 16777216)) + (wrap64 (t174 * 65536)))) + (wrap64 (t175 * 256)))) + t176)) t172) + 1)), .int .i64 (wrap64 (1 + (Int.tmod t171 30)))] rfl (by (try simp only [List.map_toArray, List.map_cons, List.map_nil]); first | done | rfl | (simp only [List.length_drop, List.length_take]; rfl)) ?_; (with_reducible refine (impl_GrayWord.calls kj23 (wrap64 ((Int.tmod (wrap64 ((wrap64 ((wrap64 ((wrap64 (t173 * 16777216)) + (wrap64 (t174 * 65536)))) + (wrap64 (t175 * 256)))) + t176)) t172) + 1)) (wrap64 (1 + (Int.tmod t171 30))) t194 t195 _ A34.out).mono ?_); rintro e w36 ⟨v196, rfl, ho0, hb⟩; refine ⟨_, rfl, ?_⟩; have n0_ := Aside0.mk (Kd.R_elder' (by (with_reducible repeat (first | apply Kd.R_alloc | apply Kd.R_drewN | apply Kd.R_drew)); exact HO_6.out) (Kd.R_base ho0) hb); have n1_ := Aside0.mk (Kd.R_lower (Kd.R_new' ho0 (Kd.R_lt (by (with_reducible repeat (first | apply Kd.R_alloc | apply Kd.R_drewN | apply Kd.R_drew)); exact HO_6.out))) (below_size (by repeat (first | (with_reducible first | exact HB.out | apply below_alloc | apply pw_below_drewN | apply below_drew1) | exact HB.out)))); have n2_ := Aside0.mk (below_step (by repeat (first | (with_reducible first | exact HB.out | apply below_alloc | apply pw_below_drewN | apply below_drew1) | exact HB.out)) hb); clear HO_6; clear HB; have HO_6 := n0_; have HO197 := n1_; have HB := n2_; clear n0_ n1_ n2_; (try clear hb); (try clear hb2); (try clear hk); (try clear hi); (try clear ho0)))
                    go_ret
                    exact ⟨by first | rfl | (simp [errW_none, errW_some] <;> rfl) | (simp [*, errW_none, errW_some] <;> rfl), by repeat (first | (with_reducible first | exact HB.out | apply below_alloc | apply pw_below_drewN | apply below_drew1) | exact HB.out)⟩
                  · rw [if_neg c35] at H
                    have c35b0 : (t195 != (decide ((wrap64 ((Int.tmod (wrap64 ((wrap64 ((wrap64 ((wrap64 (t173 * 16777216)) + (wrap64 (t174 * 65536)))) + (wrap64 (t175 * 256)))) + t176)) t172) + 1)) < t172))) = false := by simpa using c35
                    (try (have c35b1 : decide (t195 = (decide ((wrap64 ((Int.tmod (wrap64 ((wrap64 ((wrap64 ((wrap64 (t173 * 16777216)) + (wrap64 (t174 * 65536)))) + (wrap64 (t175 * 256)))) + t176)) t172) + 1)) < t172))) = true := by simpa using c35))
                    (try (have c35b2 : (t195 == (decide ((wrap64 ((Int.tmod (wrap64 ((wrap64 ((wrap64 ((wrap64 (t173 * 16777216)) + (wrap64 (t174 * 65536)))) + (wrap64 (t175 * 256)))) + t176)) t172) + 1)) < t172))) = true := by simpa using c35))
                    clear c35
                    have H' := Aside0.mk H
                    clear H
                    go_wp2_with (first | ((with_reducible refine gate_callee (f := 39) rfl ?_); refine goesL_ (some 83) rfl rfl Try.func39 (by kernel_rfl) rfl #[.int .i64 (wrap64 ((Int.tmod (wrap64 ((wrap64 ((wrap64 ((wrap64 (t173 * 16777216)) + (wrap64 (t174 * 65536)))) + (wrap64 (t175 * 256)))) + t176)) t172) + 1)), .int .i64 (wrap64 (1 + (Int.tmod t171 30)))] rfl (by (try simp only [List.map_toArray, List.map_cons, List.map_nil]); first | done | rfl | (simp only [List.length_drop, List.length_take]; rfl)) ?_; (with_reducible refine (impl_GrayWord.calls kj23 (wrap64 ((Int.tmod (wrap64 ((wrap64 ((wrap64 ((wrap64 (t173 * 16777216)) + (wrap64 (t174 * 65536)))) + (wrap64 (t175 * 256)))) + t176)) t172) + 1)) (wrap64 (1 + (Int.tmod t171 30))) t194 t195 _ A34.out).mono ?_); rintro e w37 ⟨v196, rfl, ho0, hb⟩; refine ⟨_, rfl, ?_⟩; have n0_ := Aside0.mk (Kd.R_elder' (by (with_reducible repeat (first | apply Kd.R_alloc | apply Kd.R_drewN | apply Kd.R_drew)); exact HO_6.out) (Kd.R_base ho0) hb); have n1_ := Aside0.mk (Kd.R_lower (Kd.R_new' ho0 (Kd.R_lt (by (with_reducible repeat (first | apply Kd.R_alloc | apply Kd.R_drewN | apply Kd.R_drew)); exact HO_6.out))) (below_size (by repeat (first | (with_reducible first | exact HB.out | apply below_alloc | apply pw_below_drewN | apply below_drew1) | exact HB.out)))); have n2_ := Aside0.mk (below_step (by repeat (first | (with_reducible first | exact HB.out | apply below_alloc | apply pw_below_drewN | apply below_drew1) | exact HB.out)) hb); clear HO_6; clear HB; have HO_6 := n0_; have HO197 := n1_; have HB := n2_; clear n0_ n1_ n2_; (try clear hb); (try clear hb2); (try clear hk); (try clear hi); (try clear ho0); obtain ⟨Ao38, co38, eo38⟩ := Kd.R_slice HO_6.out; subst eo38))
                    go_loopg [13, 94] kj23 (fun kq v13 v94 w' => ∃ (x13_3 : Int) (x94_3 : Int), v13 = .int .i64 x13_3 ∧ v94 = .int .i64 x94_3 ∧ Aside0 (laws_FnGray.l0 kq (wrap64 (1 + (Int.tmod t171 30))) t177 t194 t195 x13_3 (t177.length : Int) x94_3 = some r) ∧ Aside0 (kq ≤ kj23) ∧ Aside0 (Kd.R (Kd.int .i64) 3 w' w.heap.size (fun k_ => some k_ ≠ (v196 : Value).ownBlock) (.slice Ao38 t177.length co38) t177) ∧ Aside0 (Kd.R (Kd.int .i64) 3 w' w.heap.size (fun k_ => some k_ ≠ ((.slice Ao38 t177.length co38) : Value).ownBlock) v196 t194) ∧ Aside0 (Below w.heap.size w w'))
                    case atStart => exact ⟨(0), (0), (by first | rfl | (simp; done) | (simp [*]; done)), (by first | rfl | (simp; done) | (simp [*]; done)), H', ⟨Nat.le_refl _⟩, ⟨by (with_reducible repeat (first | apply Kd.R_alloc | apply Kd.R_drewN | apply Kd.R_drew)); exact Kd.R_mono HO_6.out (fun _ hk => hk.2)⟩, ⟨by (with_reducible repeat (first | apply Kd.R_alloc | apply Kd.R_drewN | apply Kd.R_drew)); exact Kd.R_mono HO197.out (fun _ hk => hk.2)⟩, ⟨by repeat (first | (with_reducible first | exact HB.out | apply below_alloc | apply pw_below_drewN | apply below_drew1) | exact HB.out)⟩⟩
                    case round =>
                      clear H'
                      try clear c1
                      try clear c2
                      try clear c2b0
                      try clear c2b1
                      try clear p2
                      try clear c3
                      try clear c4
                      try clear p6
                      try clear c9
                      try clear c9b0
                      try clear c9b1
                      try clear c14
                      try clear c15
                      try clear c15b0
                      try clear c15b1
                      try clear c19
                      try clear c21
                      try clear c30
                      try clear c33
                      try clear c35
                      try clear c35b0
                      try clear c35b1
                      try clear c35b2
                      try clear c37
                      try clear p2
                      try clear p6
                      obtain ⟨x13_3, x94_3, rfl, rfl, HA, HK3, HO_6, HO_11, HB⟩ := hrel
                      cases gk with
                      | zero => exact absurd HA.out (by simp [laws_FnGray.l0])
                      | succ k3 =>
                        have H := HA.out
                        clear HA
                        simp only [laws_FnGray.l0] at H
                        by_cases c39 : x94_3 < (t177.length : Int)
                        · rw [if_pos c39] at H
                          have c39b0 : decide (x94_3 < (t177.length : Int)) = true := decide_eq_true c39
                          clear c39
                          by_cases c40 : t195 = true
                          · subst c40
                            have H1 : (if (t194.length : Int) = (wrap64 (1 + (Int.tmod t171 30))) then (if 0 ≤ x94_3 then (if x94_3 < (t194.length : Int) then (if x94_3 < (t177.length : Int) then ((laws_abs.f (wrap64 ((rd t194 x94_3) - (rd t177 x94_3)))).bind fun t200 => (laws_FnGray.l0 k3 (wrap64 (1 + (Int.tmod t171 30))) t177 t194 true (wrap64 (x13_3 + t200)) (t177.length : Int) (wrap64 (x94_3 + 1)))) else (none)) else (none)) else (none)) else (laws_FnGray.l0 k3 (wrap64 (1 + (Int.tmod t171 30))) t177 t194 true x13_3 (t177.length : Int) (wrap64 (x94_3 + 1)))) = some r := by rw [if_pos rfl] at H; exact H
                            clear H
                            have H := H1
                            clear H1
                            by_cases c41 : (t194.length : Int) = (wrap64 (1 + (Int.tmod t171 30)))
                            · rw [if_pos c41] at H
                              have c41b0 : ((t194.length : Int) == (wrap64 (1 + (Int.tmod t171 30)))) = true := beq_iff_eq.mpr c41
                              have c41b1 : ((t194.length : Int) != (wrap64 (1 + (Int.tmod t171 30)))) = false := bne_eq_false_iff_eq.mpr c41
                              clear c41
                              by_cases c42 : 0 ≤ x94_3
                              · rw [if_pos c42] at H
                                have c42b0 : decide (0 ≤ x94_3) = true := decide_eq_true c42
                                clear c42
                                by_cases c43 : x94_3 < (t194.length : Int)
                                · rw [if_pos c43] at H
                                  have c43b0 : decide (x94_3 < (t194.length : Int)) = true := decide_eq_true c43
                                  clear c43
                                  by_cases c44 : x94_3 < (t177.length : Int)
                                  · rw [if_pos c44] at H
                                    have c44b0 : decide (x94_3 < (t177.length : Int)) = true := decide_eq_true c44
                                    clear c44
                                    replace H := Option.bind_eq_some_iff.mp H
                                    obtain ⟨t200, A450, H⟩ := H
                                    replace H : (laws_FnGray.l0 k3 (wrap64 (1 + (Int.tmod t171 30))) t177 t194 true (wrap64 (x13_3 + t200)) (t177.length : Int) (wrap64 (x94_3 + 1))) = some r := H
                                    have A45 := Aside0.mk A450
                                    clear A450
                                    have H' := Aside0.mk H
                                    clear H
                                    obtain ⟨Ao46, co46, eo46⟩ := Kd.R_slice HO_11.out
                                    subst eo46
                                    try go_wp2
                                    have n0_ := Aside0.mk (Kd.R_drew HO_6.out)
                                    have n1_ := Aside0.mk (Kd.R_drew HO_11.out)
                                    have n2_ := Aside0.mk (below_drew1 HB.out)
                                    clear HO_6
                                    clear HO_11
                                    clear HB
                                    have HO_6 := n0_
                                    have HO_11 := n1_
                                    have HB := n2_
                                    clear n0_ n1_ n2_
                                    have p198 : 0 ≤ (x94_3 : Int) := of_decide_eq_true (by first | (with_reducible assumption) | assumption)
                                    have q198 : x94_3 < (t194.length : Int) := of_decide_eq_true (by first | (with_reducible assumption) | assumption)
                                    obtain ⟨ad198, e198, hx198_0⟩ := Kd.at_int (Kd.R_reads' HO_11.out).2.2 x94_3 p198 q198
                                    cases e198
                                    replace p198 := eq_true p198
                                    replace q198 := eq_true q198
                                    have p199 : 0 ≤ (x94_3 : Int) := of_decide_eq_true (by first | (with_reducible assumption) | assumption)
                                    have q199 : x94_3 < (t177.length : Int) := of_decide_eq_true (by first | (with_reducible assumption) | assumption)
                                    obtain ⟨ad199, e199, hx199_0⟩ := Kd.at_int (Kd.R_reads' HO_6.out).2.2 x94_3 p199 q199
                                    cases e199
                                    replace p199 := eq_true p199
                                    replace q199 := eq_true q199
                                    refine start_ (n := 13) (S := fun w' => w'.cell? (ad198.add (x94_3).toNat) = some (.int .i64 (rd t194 x94_3)) ∧ w'.cell? (ad199.add (x94_3).toNat) = some (.int .i64 (rd t177 x94_3))) (ds := []) #[false, false, false, false, false, false, false, false, false, false, false, false, false] (by kernel_rfl) rfl rfl ⟨hx198_0, hx199_0⟩ (fun hHeld => ?_); refine with_tabW laws_FnGray.tab21 laws_FnGray.bits21 (fun HT_ HW_ => ?_)
                                    generalize wr.drew = w47 at HO_6 HO_11 HB hx198_0 hx199_0 hHeld ⊢
                                    refine pure_ (i := 0) (N := some 104) (v := ?_) (a' := ?_) #[true, false, false, false, false, false, false, false, false, false, false, false, false] rfl rfl (any_of HT_.out (by kernel_rfl)) (fun _ _ _ h => h) (Or.inl ⟨by rfl, ?_⟩) ?_ ?_
                                    rotate_left
                                    · intro w'
                                      go_simp
                                      with_reducible rfl
                                    rotate_left
                                    · simp only [Act.put, List.setIfInBounds_toArray, List.set_cons_zero, List.set_cons_succ, i64_w, i32_w]
                                      rfl
                                    refine pure_ (i := 1) (N := some 105) (v := ?_) (a' := ?_) #[true, true, false, false, false, false, false, false, false, false, false, false, false] rfl rfl (any_of HT_.out (by kernel_rfl)) (fun _ _ _ h => h) (Or.inl ⟨by rfl, ?_⟩) ?_ ?_
                                    rotate_left
                                    · intro w'
                                      go_simp
                                      with_reducible rfl
                                    rotate_left
                                    · simp only [Act.put, List.setIfInBounds_toArray, List.set_cons_zero, List.set_cons_succ, i64_w, i32_w]
                                      rfl
                                    refine pure_ (i := 2) (N := some 106) (v := ?_) (a' := ?_) #[true, true, true, false, false, false, false, false, false, false, false, false, false] rfl rfl (any_of HT_.out (by kernel_rfl)) (fun _ _ _ h => h) (Or.inl ⟨by rfl, ?_⟩) ?_ ?_
                                    rotate_left
                                    · intro w'
                                      go_simp
                                      with_reducible rfl
                                    rotate_left
                                    · simp only [Act.put, List.setIfInBounds_toArray, List.set_cons_zero, List.set_cons_succ, i64_w, i32_w]
                                      rfl
                                    refine pure_ (i := 3) (N := some 107) (v := ?_) (a' := ?_) #[true, true, true, true, false, false, false, false, false, false, false, false, false] rfl rfl (any_of HT_.out (by kernel_rfl)) (fun _ _ _ h => h) (Or.inl ⟨by rfl, ?_⟩) ?_ ?_
                                    rotate_left
                                    · intro w'
                                      go_simp
                                      with_reducible rfl
                                    rotate_left
                                    · simp only [Act.put, List.setIfInBounds_toArray, List.set_cons_zero, List.set_cons_succ, i64_w, i32_w]
                                      rfl
                                    refine pure_ (i := 5) (N := some 109) (v := ?_) (a' := ?_) #[true, true, true, true, false, true, false, false, false, false, false, false, false] rfl rfl (any_of HT_.out (by kernel_rfl)) (fun _ _ _ h => h) (Or.inl ⟨by rfl, ?_⟩) ?_ ?_
                                    rotate_left
                                    · intro w'
                                      go_simp
                                      with_reducible rfl
                                    rotate_left
                                    · simp only [Act.put, List.setIfInBounds_toArray, List.set_cons_zero, List.set_cons_succ, i64_w, i32_w]
                                      rfl
                                    refine pure_ (i := 6) (N := some 110) (v := ?_) (a' := ?_) #[true, true, true, true, false, true, true, false, false, false, false, false, false] rfl rfl (any_of HT_.out (by kernel_rfl)) (fun _ _ _ h => h) (Or.inl ⟨by rfl, ?_⟩) ?_ ?_
                                    rotate_left
                                    · intro w'
                                      go_simp
                                      with_reducible rfl
                                    rotate_left
                                    · simp only [Act.put, List.setIfInBounds_toArray, List.set_cons_zero, List.set_cons_succ, i64_w, i32_w]
                                      rfl
                                    refine pure_ (i := 7) (N := some 111) (v := ?_) (a' := ?_) #[true, true, true, true, false, true, true, true, false, false, false, false, false] rfl rfl (any_of HT_.out (by kernel_rfl)) (fun _ _ _ h => h) (Or.inl ⟨by rfl, ?_⟩) ?_ ?_
                                    rotate_left
                                    · intro w'
                                      go_simp
                                      with_reducible rfl
                                    rotate_left
                                    · simp only [Act.put, List.setIfInBounds_toArray, List.set_cons_zero, List.set_cons_succ, i64_w, i32_w]
                                      rfl
                                    refine take_ (i := 4) (N := some 108) (v := ?_) (a' := ?_) #[true, true, true, true, true, true, true, true, false, false, false, false, false] rfl rfl (take_ofW HT_.out HW_.out (by kernel_rfl)) (fun _ _ _ h => h) (Or.inl ⟨by rfl, ?_⟩) hHeld ?_ ?_
                                    rotate_left
                                    · rintro w' ⟨s0, s1⟩
                                      go_simp
                                      with_reducible rfl
                                    rotate_left
                                    · simp only [Act.put, List.setIfInBounds_toArray, List.set_cons_zero, List.set_cons_succ, i64_w, i32_w]
                                      rfl
                                    refine take_ (i := 8) (N := some 112) (v := ?_) (a' := ?_) #[true, true, true, true, true, true, true, true, true, false, false, false, false] rfl rfl (take_ofW HT_.out HW_.out (by kernel_rfl)) (fun _ _ _ h => h) (Or.inl ⟨by rfl, ?_⟩) hHeld ?_ ?_
                                    rotate_left
                                    · rintro w' ⟨s0, s1⟩
                                      go_simp
                                      with_reducible rfl
                                    rotate_left
                                    · simp only [Act.put, List.setIfInBounds_toArray, List.set_cons_zero, List.set_cons_succ, i64_w, i32_w]
                                      rfl
                                    refine pure_ (i := 9) (N := some 113) (v := ?_) (a' := ?_) #[true, true, true, true, true, true, true, true, true, true, false, false, false] rfl rfl (any_of HT_.out (by kernel_rfl)) (fun _ _ _ h => h) (Or.inl ⟨by rfl, ?_⟩) ?_ ?_
                                    rotate_left
                                    · intro w'
                                      go_simp
                                      with_reducible rfl
                                    rotate_left
                                    · simp only [Act.put, List.setIfInBounds_toArray, List.set_cons_zero, List.set_cons_succ, i64_w, i32_w]
                                      rfl
                                    refine one_ (i := 10) (N := some 114) #[true, true, true, true, true, true, true, true, true, true, true, false, false] rfl rfl (one_of HT_.out (by kernel_rfl)) (by decide) (fun K hK => ?_)
                                    refine goes_ Try.func47 (by kernel_rfl) rfl #[.int .i64 (wrap64 ((rd t194 x94_3) - (rd t177 x94_3)))] (by rfl) rfl rfl (by (try simp only [List.map_toArray, List.map_cons, List.map_nil]); first | done | rfl | (simp only [List.length_drop, List.length_take]; rfl)) ?_
                                    with_reducible refine (laws_abs.calls (wrap64 ((rd t194 x94_3) - (rd t177 x94_3))) t200 _ A45.out).mono ?_
                                    rintro e w48 ⟨rfl, hb⟩
                                    have HS0_ := (hb.cell (World.block_lt_of_cell? _ _ (hHeld.1))).trans (hHeld.1)
                                    have HS1_ := (hb.cell (World.block_lt_of_cell? _ _ (hHeld.2))).trans (hHeld.2)
                                    refine ⟨_, rfl, ?_⟩
                                    have n0_ := Aside0.mk (Kd.R_below (by (with_reducible repeat (first | apply Kd.R_alloc | apply Kd.R_drewN | apply Kd.R_drew)); exact HO_6.out) hb)
                                    have n1_ := Aside0.mk (Kd.R_below (by (with_reducible repeat (first | apply Kd.R_alloc | apply Kd.R_drewN | apply Kd.R_drew)); exact HO_11.out) hb)
                                    have n2_ := Aside0.mk (below_step (by repeat (first | (with_reducible first | exact HB.out | apply below_alloc | apply pw_below_drewN | apply below_drew1) | exact HB.out)) hb)
                                    clear HO_6
                                    clear HO_11
                                    clear HB
                                    have HO_6 := n0_
                                    have HO_11 := n1_
                                    have HB := n2_
                                    clear n0_ n1_ n2_
                                    (try clear hb)
                                    (try clear hb2)
                                    (try clear hk)
                                    (try clear hi)
                                    refine hK.out _ _ ⟨HS0_, HS1_⟩ (fun hHeld => ?_)
                                    clear hK K
                                    refine norm_ (a' := ?_) ?_ ?_
                                    rotate_left
                                    · show Act.put _ (some 114) _ = _
                                      simp only [Act.put, List.setIfInBounds_toArray, List.set_cons_zero, List.set_cons_succ, i64_w, i32_w]
                                      rfl
                                    refine pure_ (i := 11) (N := some 115) (v := ?_) (a' := ?_) #[true, true, true, true, true, true, true, true, true, true, true, true, false] rfl rfl (any_of HT_.out (by kernel_rfl)) (fun _ _ _ h => h) (Or.inl ⟨by rfl, ?_⟩) ?_ ?_
                                    rotate_left
                                    · intro w'
                                      go_simp
                                      with_reducible rfl
                                    rotate_left
                                    · simp only [Act.put, List.setIfInBounds_toArray, List.set_cons_zero, List.set_cons_succ, i64_w, i32_w]
                                      rfl
                                    refine pure_ (i := 12) (N := some 13) (v := ?_) (a' := ?_) #[true, true, true, true, true, true, true, true, true, true, true, true, true] rfl rfl (any_of HT_.out (by kernel_rfl)) (fun _ _ _ h => h) (Or.inl ⟨by rfl, ?_⟩) ?_ ?_
                                    rotate_left
                                    · intro w'
                                      go_simp
                                      with_reducible rfl
                                    rotate_left
                                    · simp only [Act.put, List.setIfInBounds_toArray, List.set_cons_zero, List.set_cons_succ, i64_w, i32_w]
                                      rfl
                                    refine done_ (done_of HT_.out (by kernel_rfl)) ?_
                                    try go_wp2
                                    go_roundg k3
                                    case measure => have := HJ10.out; have := HJ23.out; have := HK3.out; omega
                                    case rel => exact ⟨(wrap64 (x13_3 + t200)), (wrap64 (x94_3 + 1)), (by first | rfl | (simp; done) | (simp [*]; done)), (by first | rfl | (simp; done) | (simp [*]; done)), H', ⟨by have := HJ10.out; have := HJ23.out; have := HK3.out; omega⟩, ⟨by (with_reducible repeat (first | apply Kd.R_alloc | apply Kd.R_drewN | apply Kd.R_drew)); exact HO_6.out⟩, ⟨by (with_reducible repeat (first | apply Kd.R_alloc | apply Kd.R_drewN | apply Kd.R_drew)); exact HO_11.out⟩, ⟨by repeat (first | (with_reducible first | exact HB.out | apply below_alloc | apply pw_below_drewN | apply below_drew1) | exact HB.out)⟩⟩
                                  · rw [if_neg c44] at H
                                    exact absurd H (by simp)
                                · rw [if_neg c43] at H
                                  exact absurd H (by simp)
                              · rw [if_neg c42] at H
                                exact absurd H (by simp)
                            · rw [if_neg c41] at H
                              have c41b0 : ((t194.length : Int) == (wrap64 (1 + (Int.tmod t171 30)))) = false := beq_eq_false_iff_ne.mpr c41
                              have c41b1 : ((t194.length : Int) != (wrap64 (1 + (Int.tmod t171 30)))) = true := bne_iff_ne.mpr c41
                              have H' := Aside0.mk H
                              clear H
                              obtain ⟨Ao49, co49, eo49⟩ := Kd.R_slice HO_11.out
                              subst eo49
                              go_wp2
                              go_roundg k3
                              case measure => have := HJ10.out; have := HJ23.out; have := HK3.out; omega
                              case rel => exact ⟨(x13_3), (wrap64 (x94_3 + 1)), (by first | rfl | (simp; done) | (simp [*]; done)), (by first | rfl | (simp; done) | (simp [*]; done)), H', ⟨by have := HJ10.out; have := HJ23.out; have := HK3.out; omega⟩, ⟨by (with_reducible repeat (first | apply Kd.R_alloc | apply Kd.R_drewN | apply Kd.R_drew)); exact HO_6.out⟩, ⟨by (with_reducible repeat (first | apply Kd.R_alloc | apply Kd.R_drewN | apply Kd.R_drew)); exact HO_11.out⟩, ⟨by repeat (first | (with_reducible first | exact HB.out | apply below_alloc | apply pw_below_drewN | apply below_drew1) | exact HB.out)⟩⟩
                          · replace c40 := Bool.eq_false_iff.mpr c40
                            subst c40
                            have H1 : (laws_FnGray.l0 k3 (wrap64 (1 + (Int.tmod t171 30))) t177 t194 false x13_3 (t177.length : Int) (wrap64 (x94_3 + 1))) = some r := by rw [if_neg (show ¬ (false = true) by decide)] at H; exact H
                            clear H
                            have H := H1
                            clear H1
                            have H' := Aside0.mk H
                            clear H
                            go_wp2
                            go_roundg k3
                            case measure => have := HJ10.out; have := HJ23.out; have := HK3.out; omega
                            case rel => exact ⟨(x13_3), (wrap64 (x94_3 + 1)), (by first | rfl | (simp; done) | (simp [*]; done)), (by first | rfl | (simp; done) | (simp [*]; done)), H', ⟨by have := HJ10.out; have := HJ23.out; have := HK3.out; omega⟩, ⟨by (with_reducible repeat (first | apply Kd.R_alloc | apply Kd.R_drewN | apply Kd.R_drew)); exact HO_6.out⟩, ⟨by (with_reducible repeat (first | apply Kd.R_alloc | apply Kd.R_drewN | apply Kd.R_drew)); exact HO_11.out⟩, ⟨by repeat (first | (with_reducible first | exact HB.out | apply below_alloc | apply pw_below_drewN | apply below_drew1) | exact HB.out)⟩⟩
                        · rw [if_neg c39] at H
                          have c39b0 : decide (x94_3 < (t177.length : Int)) = false := decide_eq_false c39
                          clear c39
                          by_cases c50 : t195 = true
                          · subst c50
                            have H1 : (some (x13_3 == 1)) = some r := by rw [if_pos rfl] at H; exact H
                            clear H
                            have H := H1
                            clear H1
                            obtain rfl := Option.some.inj H
                            go_wp2
                            go_ret
                            exact ⟨by first | rfl | (simp [errW_none, errW_some] <;> rfl) | (simp [*, errW_none, errW_some] <;> rfl), by repeat (first | (with_reducible first | exact HB.out | apply below_alloc | apply pw_below_drewN | apply below_drew1) | exact HB.out)⟩
                          · replace c50 := Bool.eq_false_iff.mpr c50
                            subst c50
                            have H1 : (some true) = some r := by rw [if_neg (show ¬ (false = true) by decide)] at H; exact H
                            clear H
                            have H := H1
                            clear H1
                            obtain rfl := Option.some.inj H
                            go_wp2
                            go_ret
                            exact ⟨by first | rfl | (simp [errW_none, errW_some] <;> rfl) | (simp [*, errW_none, errW_some] <;> rfl), by repeat (first | (with_reducible first | exact HB.out | apply below_alloc | apply pw_below_drewN | apply below_drew1) | exact HB.out)⟩

/-- THE ONE PURE STATEMENT of laws_FnGray: yours. -/
def laws_FnGray.Pure : Prop := ∀ (l0 : List Int), l0.length ≤ maxLen → l0.length * 1 ≤ 140737488351232 → (∀ x ∈ l0, (Lit.int .u8 x).wf = true) → ∃ k, laws_FnGray.f k l0 = some true
theorem laws_FnGray.walk (P : laws_FnGray.Pure) (a0 : Option Addr) (len0 cap0 : Nat) (z0 : List Int) (w : World) (w0 : (a0 = none ∧ len0 = 0 ∧ cap0 = 0 ∧ z0 = []) ∨ ∃ x, a0 = some x ∧ len0 ≤ cap0 ∧ cap0 ≤ maxLen ∧ z0.length = cap0 ∧ (∀ i, i < z0.length → w.cell? (x.add i) = some (.int .u8 (z0.getD i 0))) ∧ ∀ n ∈ z0, (Lit.int .u8 n).wf = true) (y0 : len0 * 1 ≤ 140737488351232) :
    Calls Try.prog 14 #[.slice a0 len0 cap0] w fun e w' => e = .returned (.bool true) ∧ Below w.heap.size w w' := by
  obtain ⟨l0, rfl, hr0, hm0, hw0, hc0⟩ := ReadsInt.ofRowC w0
  obtain ⟨k, h⟩ := P l0 hm0 y0 hw0
  refine (laws_FnGray.calls k _ _ l0 true w (Kd.C_of_reads (d := (0 : Int)) (h1 := fun _ => rfl) hr0) hc0 h).mono ?_
  rintro e w' ⟨rfl, hd⟩
  exact ⟨rfl, hd⟩

end Go.Proofs.Yteedicdanhjfpaa.HFnGray

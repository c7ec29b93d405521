/- Text for FnExactStepMachine: written by a program of this session on the pattern of the kit's print. -/
import Derived.Test.YtlmiankjbffboaaHFnExactStepMachinex0
import Derived.Test.YtlmiankjbffboaaHFnExactStepMachinex7
import Derived.Test.YtlmiankjbffboaaHFnExactStepMachinex10
namespace Go.Proofs.Ytlmiankjbffboaa.HFnExactStepMachine
set_option maxHeartbeats 8000000
set_option maxRecDepth 100000
open Go.RowKit Go.Proofs.YtlmiankjbffboaaW.PrintWords Go.Proofs.YtlmiankjbffboaaW.PrintLast Go.Proofs.YtlmiankjbffboaaW.PrintMore
attribute [local go_sem] max2_int min2_int max_two min_two max_three min_three max_four min_four   -- for this text's walks alone
set_option linter.unusedVariables false
set_option linter.unusedSimpArgs false

/-! ### impl_StepMachine: function 13 -/
/-- The argument's variable (block g3) and the result's (block g4). -/
structure impl_StepMachine.Bx (w W : World) (g3 g4 : Nat) (pc : Int) (u v : Value) : Prop where
 b3 : W.heap[g3]? = some (.cells #[.int .i64 pc, u, v] 28 (0, 0))
 b4 : W.heap[g4]? = some (.cells #[.int .i64 0, .slice none 0 0, .slice none 0 0] 28 (0, 0))
 b : Below w.heap.size w W
 h3 : w.heap.size ≤ g3
 h4 : w.heap.size ≤ g4
section
variable {w W : World} {g3 g4 : Nat} {pc : Int} {u v : Value}
theorem impl_StepMachine.Bx.start (w : World) (pc : Int) (u v : Value) : impl_StepMachine.Bx w ((w.alloc (.cells #[.int .i64 pc, u, v] 28)).alloc (.cells #[.int .i64 0, .slice none 0 0, .slice none 0 0] 28)) w.heap.size (w.heap.size + 1) pc u v :=
 ⟨blk_alloc (blk_new _ _) _, by have h := blk_new (w.alloc (.cells #[.int .i64 pc, u, v] 28)) (.cells #[.int .i64 0, .slice none 0 0, .slice none 0 0] 28); rwa [show (w.alloc (.cells #[.int .i64 pc, u, v] 28)).heap.size = w.heap.size + 1 by simp] at h, below_alloc (below_alloc (Below.refl _ _) _) _, Nat.le_refl _, Nat.le_succ _⟩
theorem impl_StepMachine.Bx.below {W' : World} (h : impl_StepMachine.Bx w W g3 g4 pc u v) (hb : Below W.heap.size W W') : impl_StepMachine.Bx w W' g3 g4 pc u v := ⟨blk_below h.b3 hb, blk_below h.b4 hb, below_step h.b hb, h.h3, h.h4⟩
theorem impl_StepMachine.Bx.drewN (h : impl_StepMachine.Bx w W g3 g4 pc u v) (n : Nat) : impl_StepMachine.Bx w (W.drewN n) g3 g4 pc u v := ⟨blk_drewN h.b3 n, blk_drewN h.b4 n, pw_below_drewN h.b n, h.h3, h.h4⟩
theorem impl_StepMachine.Bx.cells (h : impl_StepMachine.Bx w W g3 g4 pc u v) : W.cell? ⟨g3, 0, none⟩ = some (.int .i64 pc) ∧ W.cell? ⟨g3, 1, none⟩ = some u ∧ W.cell? ⟨g3, 2, none⟩ = some v ∧ W.frozen? ⟨g4, 0, none⟩ = false ∧ W.frozen? ⟨g4, 1, none⟩ = false ∧ W.frozen? ⟨g4, 2, none⟩ = false ∧ W.cell? ⟨g4, 0, none⟩ = some (.int .i64 0) ∧ W.cell? ⟨g4, 1, none⟩ = some (.slice none 0 0) ∧ W.cell? ⟨g4, 2, none⟩ = some (.slice none 0 0) :=
 ⟨(blk_cell h.b3 0).trans rfl, (blk_cell h.b3 1).trans rfl, (blk_cell h.b3 2).trans rfl, blk_frozen h.b4 0, blk_frozen h.b4 1, blk_frozen h.b4 2, (blk_cell h.b4 0).trans rfl, (blk_cell h.b4 1).trans rfl, (blk_cell h.b4 2).trans rfl⟩
theorem impl_StepMachine.Bx.alloc (h : impl_StepMachine.Bx w W g3 g4 pc u v) (o : Obj) : impl_StepMachine.Bx w (W.alloc o) g3 g4 pc u v := h.below (below_alloc (Below.refl _ _) o)
theorem impl_StepMachine.mk {w3 : World} {st cl : List Int} (h1 : Kd.R (Kd.int .i64) 3 w3 W.heap.size (fun k_ => some k_ ≠ v.ownBlock) u st) (h2 : Kd.R (Kd.int .i64) 3 w3 W.heap.size (fun k_ => some k_ ≠ u.ownBlock) v cl) (hb : Below W.heap.size W w3) : impl_step.Held W (w3.alloc (.cells #[.int .i64 pc, u, v] 28)) w3.heap.size pc u v st cl :=
 ⟨blk_new _ _, Kd.R_alloc h1 _, Kd.R_alloc h2 _, below_alloc hb _, hb.size⟩
theorem impl_StepMachine.mcells {pc : Int} {st cl : List Int} {gm : Nat} (h : impl_step.Held w W gm pc u v st cl) : W.cell? ⟨gm, 0, none⟩ = some (.int .i64 pc) ∧ W.cell? ⟨gm, 1, none⟩ = some u ∧ W.cell? ⟨gm, 2, none⟩ = some v := ⟨(blk_cell h.m 0).trans rfl, (blk_cell h.m 1).trans rfl, (blk_cell h.m 2).trans rfl⟩
theorem impl_StepMachine.Bx.out (h : impl_StepMachine.Bx w W g3 g4 pc u v) (p : Int) (a b : Value) : (((W.setCell ⟨g4, 0, none⟩ (.int .i64 p)).setCell ⟨g4, 1, none⟩ a).setCell ⟨g4, 2, none⟩ b).heap[g4]? = some (.cells #[.int .i64 p, a, b] 28 (0, 0)) :=
 blk_put (cs := #[.int .i64 p, a, .slice none 0 0]) (blk_put (cs := #[.int .i64 p, .slice none 0 0, .slice none 0 0]) (blk_put (cs := #[.int .i64 0, .slice none 0 0, .slice none 0 0]) h.b4 0 _ rfl) 1 _ rfl) 2 _ rfl
theorem impl_StepMachine.Bx.row (h : impl_StepMachine.Bx w W g3 g4 pc u v) (p : Int) (a b : Value) {base : Nat} {ok : Nat → Prop} {q : Value} {xs : List Int} (hr : Kd.R (Kd.int .i64) 3 W base ok q xs) (hb : w.heap.size ≤ base) : Kd.R (Kd.int .i64) 3 (((W.setCell ⟨g4, 0, none⟩ (.int .i64 p)).setCell ⟨g4, 1, none⟩ a).setCell ⟨g4, 2, none⟩ b) w.heap.size ok q xs := by
 have h1 := blk_put (cs' := #[.int .i64 p, .slice none 0 0, .slice none 0 0]) h.b4 0 (.int .i64 p) rfl
 have h2 := blk_put (cs' := #[.int .i64 p, a, .slice none 0 0]) h1 1 a rfl
 exact Kd.R_lower (Kd.R_set (Kd.R_set (Kd.R_set hr h.b4 (by decide) 0 _) h1 (by decide) 1 _) h2 (by decide) 2 _) hb
end
def impl_StepMachine.f (k : Nat) (l0 : List S48) (a1_0 : Int) (l1_1 l1_2 : List Int) : Option (Int × List Int × List Int × Int) := (impl_IsMachine.f k l0 a1_0 l1_1 l1_2).bind fun t => if t = true then (impl_copyMachine.f a1_0 l1_1 l1_2).bind fun m => (impl_step.f k l0 m.1 m.2.1 m.2.2).bind fun q => some (q.2.1, q.2.2.1, q.2.2.2, q.1) else some (0, [], [], 0)
theorem impl_StepMachine.mono : ∀ a b c d k, LeO (impl_StepMachine.f k a b c d) (impl_StepMachine.f (k + 1) a b c d) := fun a b c d k => LeO.bind (impl_IsMachine.mono a b c d k) (fun _ => LeO.ite (LeO.bind (LeO.refl _) (fun m => LeO.bind (impl_step.mono _ _ _ _ k) (fun _ => LeO.refl _))) (LeO.refl _))
theorem impl_StepMachine.calls (k : Nat) (A0 : Option Addr) (c0 : Nat) (l0 : List (S48)) (a1_0 : Int) (A1_1 : Option Addr) (c1_1 : Nat) (l1_1 : List Int) (A1_2 : Option Addr) (c1_2 : Nat) (l1_2 : List Int) (r1 : Int) (r2 : List Int) (r3 : List Int) (r4 : Int) (w : World) (hr0 : Kd.C k48 w A0 l0.length l0) (hc0 : l0.length ≤ c0) (hr1_1 : Kd.C (Kd.int .i64) w A1_1 l1_1.length l1_1) (hc1_1 : l1_1.length ≤ c1_1) (hr1_2 : Kd.C (Kd.int .i64) w A1_2 l1_2.length l1_2) (hc1_2 : l1_2.length ≤ c1_2) (h : impl_StepMachine.f k l0 a1_0 l1_1 l1_2 = some (r1, r2, r3, r4)) :
  Calls Try.prog 13 #[.slice A0 l0.length c0, .agg #[.int .i64 a1_0, .slice A1_1 l1_1.length c1_1, .slice A1_2 l1_2.length c1_2]] w fun e w' => ∃ v1_ v2_ : Value, e = .returned (.tuple #[.agg #[.int .i64 r1, v1_, v2_], .int .i64 r4]) ∧ Kd.R (Kd.int .i64) 3 w' w.heap.size (fun k_ => some k_ ≠ (v2_ : Value).ownBlock) v1_ r2 ∧ Kd.R (Kd.int .i64) 3 w' w.heap.size (fun k_ => some k_ ≠ (v1_ : Value).ownBlock) v2_ r3 ∧ Below w.heap.size w w' := by
 unfold impl_StepMachine.f at h
 obtain ⟨t, ht, h1⟩ := Option.bind_eq_some_iff.1 h
 clear h
 have HR0 := Ak hr0
 have HR1 := Ak hr1_1
 have HR2 := Ak hr1_2
 have HC0 := Ak hc0
 have HC1 := Ak hc1_1
 have HC2 := Ak hc1_2
 have HT := Ak ht
 clear hr0 hr1_1 hr1_2 hc0 hc1_1 hc1_2 ht
 have HX := Ak (impl_StepMachine.Bx.start w a1_0 (.slice A1_1 l1_1.length c1_1) (.slice A1_2 l1_2.length c1_2))
 cases t with
 | false =>
  rw [if_neg (by simp)] at h1
  obtain ⟨rfl, rfl, rfl, rfl⟩ : 0 = r1 ∧ [] = r2 ∧ [] = r3 ∧ 0 = r4 := by simpa using h1
  clear h1
  go_enter Try.func13, Try.ntmps13
  go_upto_region 1 with fail
  generalize (w.alloc (.cells #[.int .i64 a1_0, .slice A1_1 l1_1.length c1_1, .slice A1_2 l1_2.length c1_2] 28)).alloc (.cells #[.int .i64 0, .slice none 0 0, .slice none 0 0] 28) = W at HX ⊢
  obtain ⟨g4, hg4⟩ : ∃ g, g = w.heap.size + 1 := ⟨_, rfl⟩
  obtain ⟨g3, hg3⟩ : ∃ g, g = w.heap.size := ⟨_, rfl⟩
  rw [← hg4] at HX ⊢
  rw [← hg3] at ⊢
  replace HX := Ak (show impl_StepMachine.Bx w W g3 g4 a1_0 (.slice A1_1 l1_1.length c1_1) (.slice A1_2 l1_2.length c1_2) by rw [hg3]; exact HX.out)
  clear hg3 hg4
  obtain ⟨m0, m1, m2, f0, f1, f2, y0, y1, y2⟩ := HX.out.cells
  go_wp2_with ((go_at_call 41; with_reducible refine (impl_IsMachine.calls k A0 c0 l0 a1_0 A1_1 c1_1 l1_1 A1_2 c1_2 l1_2 false _ (Kd.C_below HR0.out HX.out.b) HC0.out (Kd.C_below HR1.out HX.out.b) HC1.out (Kd.C_below HR2.out HX.out.b) HC2.out HT.out).mono ?_; rintro e w2 ⟨rfl, hb⟩); have HX2 := Ak (HX.out.below hb); obtain ⟨o0, o1, o2, p0, p1, p2, q0, q1, q2⟩ := HX2.out.cells; clear hb)
  refine bodyPost_ret (results_ct rfl _ _ g4 28 #[.int .i64 0, .slice none 0 0, .slice none 0 0] (0, 0) _ rfl (blk_put (cs := #[.int .i64 0, .slice none 0 0, .slice none 0 0]) (blk_put (cs := #[.int .i64 0, .slice none 0 0, .slice none 0 0]) (blk_put (cs := #[.int .i64 0, .slice none 0 0, .slice none 0 0]) HX2.out.b4 0 _ rfl) 1 _ rfl) 2 _ rfl) Try.underlying28 rfl (by kernel_rfl)) rfl ?_
  exact ⟨_, _, rfl, Kd.R_nil _ _ _ _ _, Kd.R_nil _ _ _ _ _, below_set (below_set (below_set HX2.out.b HX2.out.h4) HX2.out.h4) HX2.out.h4⟩
 | true =>
  rw [if_pos rfl] at h1
  obtain ⟨⟨pc0, st0, cl0⟩, hcp, h2⟩ := Option.bind_eq_some_iff.1 h1
  obtain ⟨⟨how, pc', st', cl'⟩, hst, h3⟩ := Option.bind_eq_some_iff.1 h2
  obtain ⟨rfl, rfl, rfl, rfl⟩ : pc' = r1 ∧ st' = r2 ∧ cl' = r3 ∧ how = r4 := by simpa using h3
  clear h1 h2 h3
  replace hcp := Ak hcp
  replace hst := Ak hst
  go_enter Try.func13, Try.ntmps13
  go_upto_region 1 with fail
  generalize (w.alloc (.cells #[.int .i64 a1_0, .slice A1_1 l1_1.length c1_1, .slice A1_2 l1_2.length c1_2] 28)).alloc (.cells #[.int .i64 0, .slice none 0 0, .slice none 0 0] 28) = W at HX ⊢
  obtain ⟨g4, hg4⟩ : ∃ g, g = w.heap.size + 1 := ⟨_, rfl⟩
  obtain ⟨g3, hg3⟩ : ∃ g, g = w.heap.size := ⟨_, rfl⟩
  rw [← hg4] at HX ⊢
  rw [← hg3] at ⊢
  replace HX := Ak (show impl_StepMachine.Bx w W g3 g4 a1_0 (.slice A1_1 l1_1.length c1_1) (.slice A1_2 l1_2.length c1_2) by rw [hg3]; exact HX.out)
  clear hg3 hg4
  obtain ⟨m0, m1, m2, f0, f1, f2, y0, y1, y2⟩ := HX.out.cells
  go_upto_region 4 with (first | ((go_at_call 41; with_reducible refine (impl_IsMachine.calls k A0 c0 l0 a1_0 A1_1 c1_1 l1_1 A1_2 c1_2 l1_2 true _ (Kd.C_below HR0.out HX.out.b) HC0.out (Kd.C_below HR1.out HX.out.b) HC1.out (Kd.C_below HR2.out HX.out.b) HC2.out HT.out).mono ?_; rintro e w2 ⟨rfl, hb⟩); have HX2 := Ak (HX.out.below hb); obtain ⟨o0, o1, o2, p0, p1, p2, q0, q1, q2⟩ := HX2.out.cells; clear hb) | ((go_at_call 42; with_reducible refine (impl_copyMachine.calls a1_0 A1_1 c1_1 l1_1 A1_2 c1_2 l1_2 pc0 st0 cl0 _ (Kd.C_below HR1.out HX2.out.b) HC1.out (Kd.C_below HR2.out HX2.out.b) HC2.out hcp.out).mono ?_; rintro e w3 ⟨v1, v2, rfl, hv1, hv2, hb⟩); obtain ⟨B1, d1, rfl⟩ := Kd.R_slice hv1; obtain ⟨B2, d2, rfl⟩ := Kd.R_slice hv2; have HV1 := Ak hv1; have HV2 := Ak hv2; have HB3 := Ak hb; clear hv1 hv2 hb o0 o1 o2 p0 p1 p2 q0 q1 q2))
  have HX5 := Ak ((HX2.out.below HB3.out).alloc (.cells #[.int .i64 pc0, .slice B1 st0.length d1, .slice B2 cl0.length d2] 28))
  have HM := Ak (impl_StepMachine.mk (pc := pc0) HV1.out HV2.out HB3.out)
  have hz2 := Ak HX2.out.b.size
  generalize w3.alloc (.cells #[.int .i64 pc0, .slice B1 st0.length d1, .slice B2 cl0.length d2] 28) = w5 at HX5 HM ⊢
  generalize w3.heap.size = gm at HM ⊢
  have HCC := Ak (Kd.C_below HR0.out HX5.out.b)
  clear HV1 HV2 HB3 HX5 m0 m1 m2 f0 f1 f2 y0 y1 y2
  go_wp2_with ((go_at_call 43; with_reducible refine (impl_step.calls0 k A0 c0 l0 gm pc0 _ _ st0 cl0 w2 _ HCC.out HM.out how pc' st' cl' hst.out).mono ?_; rintro e w6 ⟨rfl, v3, v4, hH⟩); obtain ⟨B3, d3, rfl⟩ := Kd.R_slice hH.s; obtain ⟨B4, d4, rfl⟩ := Kd.R_slice hH.c; have HX6 := Ak (HX2.out.below hH.b); obtain ⟨i0, i1, i2⟩ := impl_StepMachine.mcells hH; obtain ⟨o0, o1, o2, p0, p1, p2, q0, q1, q2⟩ := HX6.out.cells; replace hH := Ak hH)
  refine bodyPost_ret (results_ct rfl _ _ g4 28 #[.int .i64 pc', .slice B3 st'.length d3, .slice B4 cl'.length d4] (0, 0) _ rfl (HX6.out.out _ _ _) Try.underlying28 rfl (by kernel_rfl)) rfl ?_
  exact ⟨_, _, rfl, HX6.out.row _ _ _ hH.out.s hz2.out, HX6.out.row _ _ _ hH.out.c hz2.out, below_set (below_set (below_set HX6.out.b HX6.out.h4) HX6.out.h4) HX6.out.h4⟩

/-! ### laws_eqIntS: function 44 -/
def laws_eqIntS.l0 : Nat → List Int → List Int → Int → Option (Bool)
 | 0, _, _, _ => none
 | k + 1, x0, x1, x5 => if x5 < (x0.length : Int) then (if 0 ≤ x5 then (if x5 < (x1.length : Int) then (if (rd x0 x5) = (rd x1 x5) then (laws_eqIntS.l0 k x0 x1 (wrap64 (x5 + 1))) else (some false)) else (none)) else (none)) else (some true)
def laws_eqIntS.f (k : Nat) (l0 : List Int) (l1 : List Int) : Option (Bool) := if (l0.length : Int) = (l1.length : Int) then (laws_eqIntS.l0 k l0 l1 0) else (some false)
theorem laws_eqIntS.mono_l : ∀ k, (∀ y0 y1 y2, LeO (laws_eqIntS.l0 k y0 y1 y2) (laws_eqIntS.l0 (k + 1) y0 y1 y2))
 | 0 => fun _ _ _ r h => by simp [laws_eqIntS.l0] at h
 | k + 1 => by
  have ih0 := laws_eqIntS.mono_l k
  ·intro y0 y1 y2
   unfold laws_eqIntS.l0
   repeat' first
   | (with_reducible exact ih0 _ _ _)
   | (with_reducible exact LeO.refl _)
   | (with_reducible exact LeO.none _)
   | (with_reducible refine LeO.ite ?_ ?_)
   | (with_reducible refine LeO.bind ?_ (fun _ => ?_))
   | exact ih0 _ _ _
   | exact LeO.none _
   | refine LeO.ite ?_ ?_
   | refine LeO.bind ?_ (fun _ => ?_)
theorem laws_eqIntS.mono : ∀ a0 a1 k, LeO (laws_eqIntS.f k a0 a1) (laws_eqIntS.f (k + 1) a0 a1) := by
 intro a0 a1 k
 have ih0 := laws_eqIntS.mono_l k
 unfold laws_eqIntS.f
 repeat' first
   | (with_reducible exact ih0 _ _ _)
   | (with_reducible exact LeO.refl _)
   | (with_reducible exact LeO.none _)
   | (with_reducible refine LeO.ite ?_ ?_)
   | (with_reducible refine LeO.bind ?_ (fun _ => ?_))
   | exact ih0 _ _ _
   | exact LeO.none _
   | refine LeO.ite ?_ ?_
   | refine LeO.bind ?_ (fun _ => ?_)
theorem laws_eqIntS.calls (k : Nat) (A0 : Option Addr) (c0 : Nat) (l0 : List Int) (A1 : Option Addr) (c1 : Nat) (l1 : List Int) (r : Bool) (w : World) (hr0 : Kd.C (Kd.int .i64) w A0 l0.length l0) (hc0 : l0.length ≤ c0) (hr1 : Kd.C (Kd.int .i64) w A1 l1.length l1) (hc1 : l1.length ≤ c1) (h : laws_eqIntS.f k l0 l1 = some r) :
  Calls Try.prog 44 #[.slice A0 l0.length c0, .slice A1 l1.length c1] w fun e w' => e = .returned (.bool r) ∧ Drawn0 w w' := by
 have HR0 := Ak hr0
 have HC0 := Ak hc0
 clear hr0 hc0
 have HR1 := Ak hr1
 have HC1 := Ak hc1
 clear hr1 hc1
 have H : (if (l0.length : Int) = (l1.length : Int) then (laws_eqIntS.l0 k l0 l1 0) else (some false)) = some r := h
 clear h
 by_cases c3 : (l0.length : Int) = (l1.length : Int)
 ·rw [if_pos c3] at H
  have c3b0 : ((l0.length : Int) == (l1.length : Int)) = true := beq_iff_eq.mpr c3
  have c3b1 : ((l0.length : Int) != (l1.length : Int)) = false := bne_eq_false_iff_eq.mpr c3
  have c3b2 : (l0.length == l1.length) = true := by first | simpa using c3 | (simp at c3 ⊢; omega)
  clear c3
  have H' := Ak H
  clear H
  go_enter Try.func44, Try.ntmps44
  go_wp2
  repeat (go_quiet (fail); try go_wp2)
  go_loopg [5] k (fun kq v5 w' => ∃ (x5_1 : Int), v5 = .int .i64 x5_1 ∧ Aside0 (laws_eqIntS.l0 kq l0 l1 x5_1 = some r) ∧ Aside0 (kq ≤ k) ∧ Drawn0 w w')
  case atStart => exact ⟨(0), Qi, H', ⟨Nat.le_refl _⟩, Ql⟩
  case round =>
   clear H'
   try clear c1
   try clear p2
   try clear c3
   try clear c3b0
   try clear c3b1
   try clear c3b2
   obtain ⟨x5_1, rfl, HA, HK1, ⟨m1, rfl⟩⟩ := hrel
   cases gk with
   | zero => exact absurd HA.out (by simp [laws_eqIntS.l0])
   | succ k1 =>
    have H := HA.out
    clear HA
    simp only [laws_eqIntS.l0] at H
    by_cases c4 : x5_1 < (l0.length : Int)
    ·rw [if_pos c4] at H
     have c4b0 : decide (x5_1 < (l0.length : Int)) = true := decide_eq_true c4
     clear c4
     by_cases c5 : 0 ≤ x5_1
     ·rw [if_pos c5] at H
      have c5b0 : decide (0 ≤ x5_1) = true := decide_eq_true c5
      clear c5
      by_cases c6 : x5_1 < (l1.length : Int)
      ·rw [if_pos c6] at H
       have c6b0 : decide (x5_1 < (l1.length : Int)) = true := decide_eq_true c6
       clear c6
       by_cases c7 : (rd l0 x5_1) = (rd l1 x5_1)
       ·rw [if_pos c7] at H
        have c7b0 : ((rd l0 x5_1) == (rd l1 x5_1)) = true := beq_iff_eq.mpr c7
        have c7b1 : ((rd l0 x5_1) != (rd l1 x5_1)) = false := bne_eq_false_iff_eq.mpr c7
        clear c7
        have H' := Ak H
        clear H
        have p392 : 0 ≤ (x5_1 : Int) := Qg
        have q392 : x5_1 < (l0.length : Int) := Qg
        obtain ⟨ad392, e392, hx392_0⟩ := Kd.at_int HR0.out x5_1 p392 q392
        cases e392
        replace p392 := eq_true p392
        replace q392 := eq_true q392
        have p393 : 0 ≤ (x5_1 : Int) := Qg
        have q393 : x5_1 < (l1.length : Int) := Qg
        obtain ⟨ad393, e393, hx393_0⟩ := Kd.at_int HR1.out x5_1 p393 q393
        cases e393
        replace p393 := eq_true p393
        replace q393 := eq_true q393
        go_wp2
        repeat (go_quiet (fail); try go_wp2)
        go_roundg k1
        case measure => have := HK1.out; omega
        case rel => exact ⟨(wrap64 (x5_1 + 1)), Qi, H', ⟨by have := HK1.out; omega⟩, Ql⟩
       ·rw [if_neg c7] at H
        have c7b0 : ((rd l0 x5_1) == (rd l1 x5_1)) = false := beq_eq_false_iff_ne.mpr c7
        have c7b1 : ((rd l0 x5_1) != (rd l1 x5_1)) = true := bne_iff_ne.mpr c7
        obtain rfl := Option.some.inj H
        have p392 : 0 ≤ (x5_1 : Int) := Qg
        have q392 : x5_1 < (l0.length : Int) := Qg
        obtain ⟨ad392, e392, hx392_0⟩ := Kd.at_int HR0.out x5_1 p392 q392
        cases e392
        replace p392 := eq_true p392
        replace q392 := eq_true q392
        have p393 : 0 ≤ (x5_1 : Int) := Qg
        have q393 : x5_1 < (l1.length : Int) := Qg
        obtain ⟨ad393, e393, hx393_0⟩ := Kd.at_int HR1.out x5_1 p393 q393
        cases e393
        replace p393 := eq_true p393
        replace q393 := eq_true q393
        go_wp2
        repeat (go_quiet (fail); try go_wp2)
        go_ret
        exact ⟨Qi, Ql⟩
      ·rw [if_neg c6] at H
       exact absurd H (by simp)
     ·rw [if_neg c5] at H
      exact absurd H (by simp)
    ·rw [if_neg c4] at H
     have c4b0 : decide (x5_1 < (l0.length : Int)) = false := decide_eq_false c4
     clear c4
     obtain rfl := Option.some.inj H
     go_wp2
     repeat (go_quiet (fail); try go_wp2)
     go_ret
     exact ⟨Qi, Ql⟩
 ·rw [if_neg c3] at H
  have c3b0 : ((l0.length : Int) == (l1.length : Int)) = false := beq_eq_false_iff_ne.mpr c3
  have c3b1 : ((l0.length : Int) != (l1.length : Int)) = true := bne_iff_ne.mpr c3
  have c3b2 : (l0.length == l1.length) = false := by first | simpa using c3 | (simp at c3 ⊢; omega)
  obtain rfl := Option.some.inj H
  go_enter Try.func44, Try.ntmps44
  go_wp2
  repeat (go_quiet (fail); try go_wp2)
  go_ret
  exact ⟨Qi, Ql⟩

/-! ### laws_eqMachine: function 14 -/
def laws_eqMachine.f (k : Nat) (a0_0 : Int) (l0_1 : List Int) (l0_2 : List Int) (a1_0 : Int) (l1_1 : List Int) (l1_2 : List Int) : Option (Bool) := if a0_0 = a1_0 then ((laws_eqIntS.f k l0_1 l1_1).bind fun t396 => (if t396 = true then ((laws_eqIntS.f k l0_2 l1_2).bind fun t397 => (if t397 = true then (some true) else (some false))) else (some false))) else (some false)
theorem laws_eqMachine.mono : ∀ a0 a1 a2 a3 a4 a5 k, LeO (laws_eqMachine.f k a0 a1 a2 a3 a4 a5) (laws_eqMachine.f (k + 1) a0 a1 a2 a3 a4 a5) := by
 intro a0 a1 a2 a3 a4 a5 k
 unfold laws_eqMachine.f
 repeat' first
   | (with_reducible exact laws_eqIntS.mono _ _ _)
   | (with_reducible exact LeO.refl _)
   | (with_reducible exact LeO.none _)
   | (with_reducible refine LeO.ite ?_ ?_)
   | (with_reducible refine LeO.bind ?_ (fun _ => ?_))
   | exact laws_eqIntS.mono _ _ _
   | exact LeO.none _
   | refine LeO.ite ?_ ?_
   | refine LeO.bind ?_ (fun _ => ?_)
theorem laws_eqMachine.calls (k : Nat) (a0_0 : Int) (A0_1 : Option Addr) (c0_1 : Nat) (l0_1 : List Int) (A0_2 : Option Addr) (c0_2 : Nat) (l0_2 : List Int) (a1_0 : Int) (A1_1 : Option Addr) (c1_1 : Nat) (l1_1 : List Int) (A1_2 : Option Addr) (c1_2 : Nat) (l1_2 : List Int) (r : Bool) (w : World) (hr0_1 : Kd.C (Kd.int .i64) w A0_1 l0_1.length l0_1) (hc0_1 : l0_1.length ≤ c0_1) (hr0_2 : Kd.C (Kd.int .i64) w A0_2 l0_2.length l0_2) (hc0_2 : l0_2.length ≤ c0_2) (hr1_1 : Kd.C (Kd.int .i64) w A1_1 l1_1.length l1_1) (hc1_1 : l1_1.length ≤ c1_1) (hr1_2 : Kd.C (Kd.int .i64) w A1_2 l1_2.length l1_2) (hc1_2 : l1_2.length ≤ c1_2) (h : laws_eqMachine.f k a0_0 l0_1 l0_2 a1_0 l1_1 l1_2 = some r) :
  Calls Try.prog 14 #[.agg #[.int .i64 a0_0, .slice A0_1 l0_1.length c0_1, .slice A0_2 l0_2.length c0_2], .agg #[.int .i64 a1_0, .slice A1_1 l1_1.length c1_1, .slice A1_2 l1_2.length c1_2]] w fun e w' => e = .returned (.bool r) ∧ Below w.heap.size w w' := by
 have hu28 := Try.underlying28
 have HR0_1 := Ak hr0_1
 have HC0_1 := Ak hc0_1
 clear hr0_1 hc0_1
 have HR0_2 := Ak hr0_2
 have HC0_2 := Ak hc0_2
 clear hr0_2 hc0_2
 have HR1_1 := Ak hr1_1
 have HC1_1 := Ak hc1_1
 clear hr1_1 hc1_1
 have HR1_2 := Ak hr1_2
 have HC1_2 := Ak hc1_2
 clear hr1_2 hc1_2
 have HB := Ak (Below.refl w.heap.size w)
 have H : (if a0_0 = a1_0 then ((laws_eqIntS.f k l0_1 l1_1).bind fun t396 => (if t396 = true then ((laws_eqIntS.f k l0_2 l1_2).bind fun t397 => (if t397 = true then (some true) else (some false))) else (some false))) else (some false)) = some r := h
 clear h
 by_cases c3 : a0_0 = a1_0
 ·rw [if_pos c3] at H
  have c3b0 : (a0_0 == a1_0) = true := beq_iff_eq.mpr c3
  have c3b1 : (a0_0 != a1_0) = false := bne_eq_false_iff_eq.mpr c3
  clear c3
  replace H := Option.bind_eq_some_iff.mp H
  obtain ⟨t396, A40, H⟩ := H
  replace H : (if t396 = true then ((laws_eqIntS.f k l0_2 l1_2).bind fun t397 => (if t397 = true then (some true) else (some false))) else (some false)) = some r := H
  have A4 := Ak A40
  clear A40
  by_cases c5 : t396 = true
  ·(try subst c5)
   have H1 : ((laws_eqIntS.f k l0_2 l1_2).bind fun t397 => (if t397 = true then (some true) else (some false))) = some r := by rw [if_pos rfl] at H; exact H
   clear H
   have H := H1
   clear H1
   replace H := Option.bind_eq_some_iff.mp H
   obtain ⟨t397, A60, H⟩ := H
   replace H : (if t397 = true then (some true) else (some false)) = some r := H
   have A6 := Ak A60
   clear A60
   by_cases c7 : t397 = true
   ·(try subst c7)
    have H1 : (some true) = some r := by rw [if_pos rfl] at H; exact H
    clear H
    have H := H1
    clear H1
    obtain rfl := Option.some.inj H
    go_enter Try.func14, Try.ntmps14
    go_wp2_with (first | ((with_reducible refine gate_dst (N := 2) rfl ?_); refine Qk 2 #[.int .i64 a0_0, .slice A0_1 l0_1.length c0_1, .slice A0_2 l0_2.length c0_2] 28 ?_; intro gb394 hg w8 hbox hb; have n0_ := Ak (below_step (Qb HB.out) hb); have n1_ := Ak (hbox); have n2_ := Ak ((Qp hg HB.out : w.heap.size ≤ gb394)); have n3_ := Ak ((Qp hg HB.out : w.heap.size ≤ gb394)); clear HB; have HB := n0_; have BK394 := n1_; have GW394 := n2_; have GE394 := n3_; clear n0_ n1_ n2_ n3_; clear hb hbox hg) | ((with_reducible refine gate_dst (N := 3) rfl ?_); refine Qk 3 #[.int .i64 a1_0, .slice A1_1 l1_1.length c1_1, .slice A1_2 l1_2.length c1_2] 28 ?_; intro gb395 hg w9 hbox hb; have n0_ := Ak (Qm BK394.out hb); have n1_ := Ak (below_step (Qb HB.out) hb); have n2_ := Ak (hbox); have n3_ := Ak ((Qp hg HB.out : w.heap.size ≤ gb395)); have n4_ := Ak ((Qp hg HB.out : w.heap.size ≤ gb395)); have n5_ := Ak ((by rw [hg]; exact Nat.ne_of_lt (Qn BK394.out) : gb394 ≠ gb395)); have n6_ := Ak ((by rw [hg]; exact Nat.ne_of_gt (Qn BK394.out) : gb395 ≠ gb394)); clear BK394; clear HB; have BK394 := n0_; have HB := n1_; have BK395 := n2_; have GW395 := n3_; have GE395 := n4_; have NB394_395 := n5_; have NB395_394 := n6_; clear n0_ n1_ n2_ n3_ n4_ n5_ n6_; clear hb hbox hg; have hnb10 := NB394_395.out; have hnc10 := NB395_394.out; obtain ⟨hcz11_0, hcz11_1, hcz11_2, hfz11_0, hfz11_1, hfz11_2⟩ := Qv3 BK394.out; obtain ⟨hcz12_0, hcz12_1, hcz12_2⟩ := Qu3 BK395.out; have hfz12_0 := blk_frozen BK395.out 0; have hfz12_1 := blk_frozen BK395.out 1; have hfz12_2 := blk_frozen BK395.out 2) | ((with_reducible refine gate_callee (f := 44) rfl ?_); refine Qj (some 14) Try.func44 #[.slice A0_1 l0_1.length c0_1, .slice A1_1 l1_1.length c1_1] ?_; (with_reducible refine (laws_eqIntS.calls k _ _ l0_1 _ _ l1_1 true _ ?side1 ?side2 ?side3 ?side4 A4.out).mono ?_); (case side1 => repeat (first | exact (Kd.C_below HR0_1.out HB.out) | (with_reducible refine Kd.C_alloc ?_ _) | (with_reducible refine Kd.C_drewN ?_ _) | (with_reducible refine Kd.C_drew ?_))); (case side2 => exact HC0_1.out); (case side3 => repeat (first | exact (Kd.C_below HR1_1.out HB.out) | (with_reducible refine Kd.C_alloc ?_ _) | (with_reducible refine Kd.C_drewN ?_ _) | (with_reducible refine Kd.C_drew ?_))); (case side4 => exact HC1_1.out); rintro e w' ⟨rfl, ⟨nd, rfl⟩⟩; refine ⟨_, rfl, ?_⟩) | ((with_reducible refine gate_callee (f := 44) rfl ?_); refine Qj (some 20) Try.func44 #[.slice A0_2 l0_2.length c0_2, .slice A1_2 l1_2.length c1_2] ?_; (with_reducible refine (laws_eqIntS.calls k _ _ l0_2 _ _ l1_2 true _ ?side1 ?side2 ?side3 ?side4 A6.out).mono ?_); (case side1 => repeat (first | exact (Kd.C_below HR0_2.out (Qb HB.out)) | (with_reducible refine Kd.C_alloc ?_ _) | (with_reducible refine Kd.C_drewN ?_ _) | (with_reducible refine Kd.C_drew ?_))); (case side2 => exact HC0_2.out); (case side3 => repeat (first | exact (Kd.C_below HR1_2.out (Qb HB.out)) | (with_reducible refine Kd.C_alloc ?_ _) | (with_reducible refine Kd.C_drewN ?_ _) | (with_reducible refine Kd.C_drew ?_))); (case side4 => exact HC1_2.out); rintro e w' ⟨rfl, ⟨nd, rfl⟩⟩; refine ⟨_, rfl, ?_⟩))
    go_ret
    exact ⟨Qh, Qb HB.out⟩
   ·replace c7 := Bool.eq_false_iff.mpr c7
    (try subst c7)
    have H1 : (some false) = some r := by rw [if_neg (show ¬ (false = true) by decide)] at H; exact H
    clear H
    have H := H1
    clear H1
    obtain rfl := Option.some.inj H
    go_enter Try.func14, Try.ntmps14
    go_wp2_with (first | ((with_reducible refine gate_dst (N := 2) rfl ?_); refine Qk 2 #[.int .i64 a0_0, .slice A0_1 l0_1.length c0_1, .slice A0_2 l0_2.length c0_2] 28 ?_; intro gb394 hg w13 hbox hb; have n0_ := Ak (below_step (Qb HB.out) hb); have n1_ := Ak (hbox); have n2_ := Ak ((Qp hg HB.out : w.heap.size ≤ gb394)); have n3_ := Ak ((Qp hg HB.out : w.heap.size ≤ gb394)); clear HB; have HB := n0_; have BK394 := n1_; have GW394 := n2_; have GE394 := n3_; clear n0_ n1_ n2_ n3_; clear hb hbox hg) | ((with_reducible refine gate_dst (N := 3) rfl ?_); refine Qk 3 #[.int .i64 a1_0, .slice A1_1 l1_1.length c1_1, .slice A1_2 l1_2.length c1_2] 28 ?_; intro gb395 hg w14 hbox hb; have n0_ := Ak (Qm BK394.out hb); have n1_ := Ak (below_step (Qb HB.out) hb); have n2_ := Ak (hbox); have n3_ := Ak ((Qp hg HB.out : w.heap.size ≤ gb395)); have n4_ := Ak ((Qp hg HB.out : w.heap.size ≤ gb395)); have n5_ := Ak ((by rw [hg]; exact Nat.ne_of_lt (Qn BK394.out) : gb394 ≠ gb395)); have n6_ := Ak ((by rw [hg]; exact Nat.ne_of_gt (Qn BK394.out) : gb395 ≠ gb394)); clear BK394; clear HB; have BK394 := n0_; have HB := n1_; have BK395 := n2_; have GW395 := n3_; have GE395 := n4_; have NB394_395 := n5_; have NB395_394 := n6_; clear n0_ n1_ n2_ n3_ n4_ n5_ n6_; clear hb hbox hg; have hnb15 := NB394_395.out; have hnc15 := NB395_394.out; obtain ⟨hcz16_0, hcz16_1, hcz16_2, hfz16_0, hfz16_1, hfz16_2⟩ := Qv3 BK394.out; obtain ⟨hcz17_0, hcz17_1, hcz17_2⟩ := Qu3 BK395.out; have hfz17_0 := blk_frozen BK395.out 0; have hfz17_1 := blk_frozen BK395.out 1; have hfz17_2 := blk_frozen BK395.out 2) | ((with_reducible refine gate_callee (f := 44) rfl ?_); refine Qj (some 14) Try.func44 #[.slice A0_1 l0_1.length c0_1, .slice A1_1 l1_1.length c1_1] ?_; (with_reducible refine (laws_eqIntS.calls k _ _ l0_1 _ _ l1_1 true _ ?side1 ?side2 ?side3 ?side4 A4.out).mono ?_); (case side1 => repeat (first | exact (Kd.C_below HR0_1.out HB.out) | (with_reducible refine Kd.C_alloc ?_ _) | (with_reducible refine Kd.C_drewN ?_ _) | (with_reducible refine Kd.C_drew ?_))); (case side2 => exact HC0_1.out); (case side3 => repeat (first | exact (Kd.C_below HR1_1.out HB.out) | (with_reducible refine Kd.C_alloc ?_ _) | (with_reducible refine Kd.C_drewN ?_ _) | (with_reducible refine Kd.C_drew ?_))); (case side4 => exact HC1_1.out); rintro e w' ⟨rfl, ⟨nd, rfl⟩⟩; refine ⟨_, rfl, ?_⟩) | ((with_reducible refine gate_callee (f := 44) rfl ?_); refine Qj (some 20) Try.func44 #[.slice A0_2 l0_2.length c0_2, .slice A1_2 l1_2.length c1_2] ?_; (with_reducible refine (laws_eqIntS.calls k _ _ l0_2 _ _ l1_2 false _ ?side1 ?side2 ?side3 ?side4 A6.out).mono ?_); (case side1 => repeat (first | exact (Kd.C_below HR0_2.out (Qb HB.out)) | (with_reducible refine Kd.C_alloc ?_ _) | (with_reducible refine Kd.C_drewN ?_ _) | (with_reducible refine Kd.C_drew ?_))); (case side2 => exact HC0_2.out); (case side3 => repeat (first | exact (Kd.C_below HR1_2.out (Qb HB.out)) | (with_reducible refine Kd.C_alloc ?_ _) | (with_reducible refine Kd.C_drewN ?_ _) | (with_reducible refine Kd.C_drew ?_))); (case side4 => exact HC1_2.out); rintro e w' ⟨rfl, ⟨nd, rfl⟩⟩; refine ⟨_, rfl, ?_⟩))
    go_ret
    exact ⟨Qh, Qb HB.out⟩
  ·replace c5 := Bool.eq_false_iff.mpr c5
   (try subst c5)
   have H1 : (some false) = some r := by rw [if_neg (show ¬ (false = true) by decide)] at H; exact H
   clear H
   have H := H1
   clear H1
   obtain rfl := Option.some.inj H
   go_enter Try.func14, Try.ntmps14
   go_wp2_with (first | ((with_reducible refine gate_dst (N := 2) rfl ?_); refine Qk 2 #[.int .i64 a0_0, .slice A0_1 l0_1.length c0_1, .slice A0_2 l0_2.length c0_2] 28 ?_; intro gb394 hg w18 hbox hb; have n0_ := Ak (below_step (Qb HB.out) hb); have n1_ := Ak (hbox); have n2_ := Ak ((Qp hg HB.out : w.heap.size ≤ gb394)); have n3_ := Ak ((Qp hg HB.out : w.heap.size ≤ gb394)); clear HB; have HB := n0_; have BK394 := n1_; have GW394 := n2_; have GE394 := n3_; clear n0_ n1_ n2_ n3_; clear hb hbox hg) | ((with_reducible refine gate_dst (N := 3) rfl ?_); refine Qk 3 #[.int .i64 a1_0, .slice A1_1 l1_1.length c1_1, .slice A1_2 l1_2.length c1_2] 28 ?_; intro gb395 hg w19 hbox hb; have n0_ := Ak (Qm BK394.out hb); have n1_ := Ak (below_step (Qb HB.out) hb); have n2_ := Ak (hbox); have n3_ := Ak ((Qp hg HB.out : w.heap.size ≤ gb395)); have n4_ := Ak ((Qp hg HB.out : w.heap.size ≤ gb395)); have n5_ := Ak ((by rw [hg]; exact Nat.ne_of_lt (Qn BK394.out) : gb394 ≠ gb395)); have n6_ := Ak ((by rw [hg]; exact Nat.ne_of_gt (Qn BK394.out) : gb395 ≠ gb394)); clear BK394; clear HB; have BK394 := n0_; have HB := n1_; have BK395 := n2_; have GW395 := n3_; have GE395 := n4_; have NB394_395 := n5_; have NB395_394 := n6_; clear n0_ n1_ n2_ n3_ n4_ n5_ n6_; clear hb hbox hg; have hnb20 := NB394_395.out; have hnc20 := NB395_394.out; obtain ⟨hcz21_0, hcz21_1, hcz21_2, hfz21_0, hfz21_1, hfz21_2⟩ := Qv3 BK394.out; obtain ⟨hcz22_0, hcz22_1, hcz22_2⟩ := Qu3 BK395.out; have hfz22_0 := blk_frozen BK395.out 0; have hfz22_1 := blk_frozen BK395.out 1; have hfz22_2 := blk_frozen BK395.out 2) | ((with_reducible refine gate_callee (f := 44) rfl ?_); refine Qj (some 14) Try.func44 #[.slice A0_1 l0_1.length c0_1, .slice A1_1 l1_1.length c1_1] ?_; (with_reducible refine (laws_eqIntS.calls k _ _ l0_1 _ _ l1_1 false _ ?side1 ?side2 ?side3 ?side4 A4.out).mono ?_); (case side1 => repeat (first | exact (Kd.C_below HR0_1.out HB.out) | (with_reducible refine Kd.C_alloc ?_ _) | (with_reducible refine Kd.C_drewN ?_ _) | (with_reducible refine Kd.C_drew ?_))); (case side2 => exact HC0_1.out); (case side3 => repeat (first | exact (Kd.C_below HR1_1.out HB.out) | (with_reducible refine Kd.C_alloc ?_ _) | (with_reducible refine Kd.C_drewN ?_ _) | (with_reducible refine Kd.C_drew ?_))); (case side4 => exact HC1_1.out); rintro e w' ⟨rfl, ⟨nd, rfl⟩⟩; refine ⟨_, rfl, ?_⟩))
   go_ret
   exact ⟨Qh, Qb HB.out⟩
 ·rw [if_neg c3] at H
  have c3b0 : (a0_0 == a1_0) = false := beq_eq_false_iff_ne.mpr c3
  have c3b1 : (a0_0 != a1_0) = true := bne_iff_ne.mpr c3
  obtain rfl := Option.some.inj H
  go_enter Try.func14, Try.ntmps14
  go_wp2_with (first | ((with_reducible refine gate_dst (N := 2) rfl ?_); refine Qk 2 #[.int .i64 a0_0, .slice A0_1 l0_1.length c0_1, .slice A0_2 l0_2.length c0_2] 28 ?_; intro gb394 hg w23 hbox hb; have n0_ := Ak (below_step (Qb HB.out) hb); have n1_ := Ak (hbox); have n2_ := Ak ((Qp hg HB.out : w.heap.size ≤ gb394)); have n3_ := Ak ((Qp hg HB.out : w.heap.size ≤ gb394)); clear HB; have HB := n0_; have BK394 := n1_; have GW394 := n2_; have GE394 := n3_; clear n0_ n1_ n2_ n3_; clear hb hbox hg) | ((with_reducible refine gate_dst (N := 3) rfl ?_); refine Qk 3 #[.int .i64 a1_0, .slice A1_1 l1_1.length c1_1, .slice A1_2 l1_2.length c1_2] 28 ?_; intro gb395 hg w24 hbox hb; have n0_ := Ak (Qm BK394.out hb); have n1_ := Ak (below_step (Qb HB.out) hb); have n2_ := Ak (hbox); have n3_ := Ak ((Qp hg HB.out : w.heap.size ≤ gb395)); have n4_ := Ak ((Qp hg HB.out : w.heap.size ≤ gb395)); have n5_ := Ak ((by rw [hg]; exact Nat.ne_of_lt (Qn BK394.out) : gb394 ≠ gb395)); have n6_ := Ak ((by rw [hg]; exact Nat.ne_of_gt (Qn BK394.out) : gb395 ≠ gb394)); clear BK394; clear HB; have BK394 := n0_; have HB := n1_; have BK395 := n2_; have GW395 := n3_; have GE395 := n4_; have NB394_395 := n5_; have NB395_394 := n6_; clear n0_ n1_ n2_ n3_ n4_ n5_ n6_; clear hb hbox hg; have hnb25 := NB394_395.out; have hnc25 := NB395_394.out; obtain ⟨hcz26_0, hcz26_1, hcz26_2, hfz26_0, hfz26_1, hfz26_2⟩ := Qv3 BK394.out; obtain ⟨hcz27_0, hcz27_1, hcz27_2⟩ := Qu3 BK395.out; have hfz27_0 := blk_frozen BK395.out 0; have hfz27_1 := blk_frozen BK395.out 1; have hfz27_2 := blk_frozen BK395.out 2))
  go_ret
  exact ⟨Qh, Qb HB.out⟩

/-! ### laws_eqOp: function 45 -/
def laws_eqOp.f (a0_0 : Int) (a0_1 : Int) (a0_2 : Int) (a0_3 : Int) (a1_0 : Int) (a1_1 : Int) (a1_2 : Int) (a1_3 : Int) : Option (Bool) := if a0_0 = a1_0 then (if a0_1 = a1_1 then (if a0_2 = a1_2 then (if a0_3 = a1_3 then (some true) else (some false)) else (some false)) else (some false)) else (some false)
theorem laws_eqOp.calls (a0_0 : Int) (a0_1 : Int) (a0_2 : Int) (a0_3 : Int) (a1_0 : Int) (a1_1 : Int) (a1_2 : Int) (a1_3 : Int) (r : Bool) (w : World) (h : laws_eqOp.f a0_0 a0_1 a0_2 a0_3 a1_0 a1_1 a1_2 a1_3 = some r) :
  Calls Try.prog 45 #[.agg #[.int .i64 a0_0, .int .i64 a0_1, .int .i64 a0_2, .int .i64 a0_3], .agg #[.int .i64 a1_0, .int .i64 a1_1, .int .i64 a1_2, .int .i64 a1_3]] w fun e w' => e = .returned (.bool r) ∧ Below w.heap.size w w' := by
 have hu48 := Try.underlying48
 have HB := Ak (Below.refl w.heap.size w)
 have H : (if a0_0 = a1_0 then (if a0_1 = a1_1 then (if a0_2 = a1_2 then (if a0_3 = a1_3 then (some true) else (some false)) else (some false)) else (some false)) else (some false)) = some r := h
 clear h
 by_cases c3 : a0_0 = a1_0
 ·rw [if_pos c3] at H
  have c3b0 : (a0_0 == a1_0) = true := beq_iff_eq.mpr c3
  have c3b1 : (a0_0 != a1_0) = false := bne_eq_false_iff_eq.mpr c3
  clear c3
  by_cases c4 : a0_1 = a1_1
  ·rw [if_pos c4] at H
   have c4b0 : (a0_1 == a1_1) = true := beq_iff_eq.mpr c4
   have c4b1 : (a0_1 != a1_1) = false := bne_eq_false_iff_eq.mpr c4
   clear c4
   by_cases c5 : a0_2 = a1_2
   ·rw [if_pos c5] at H
    have c5b0 : (a0_2 == a1_2) = true := beq_iff_eq.mpr c5
    have c5b1 : (a0_2 != a1_2) = false := bne_eq_false_iff_eq.mpr c5
    clear c5
    by_cases c6 : a0_3 = a1_3
    ·rw [if_pos c6] at H
     have c6b0 : (a0_3 == a1_3) = true := beq_iff_eq.mpr c6
     have c6b1 : (a0_3 != a1_3) = false := bne_eq_false_iff_eq.mpr c6
     clear c6
     obtain rfl := Option.some.inj H
     go_enter Try.func45, Try.ntmps45
     go_wp2_with (first | ((with_reducible refine gate_dst (N := 2) rfl ?_); refine Qk 2 #[.int .i64 a0_0, .int .i64 a0_1, .int .i64 a0_2, .int .i64 a0_3] 48 ?_; intro gb398 hg w7 hbox hb; have n0_ := Ak (below_step (Qb HB.out) hb); have n1_ := Ak (hbox); have n2_ := Ak ((Qp hg HB.out : w.heap.size ≤ gb398)); have n3_ := Ak ((Qp hg HB.out : w.heap.size ≤ gb398)); clear HB; have HB := n0_; have BK398 := n1_; have GW398 := n2_; have GE398 := n3_; clear n0_ n1_ n2_ n3_; clear hb hbox hg) | ((with_reducible refine gate_dst (N := 3) rfl ?_); refine Qk 3 #[.int .i64 a1_0, .int .i64 a1_1, .int .i64 a1_2, .int .i64 a1_3] 48 ?_; intro gb399 hg w8 hbox hb; have n0_ := Ak (Qm BK398.out hb); have n1_ := Ak (below_step (Qb HB.out) hb); have n2_ := Ak (hbox); have n3_ := Ak ((Qp hg HB.out : w.heap.size ≤ gb399)); have n4_ := Ak ((Qp hg HB.out : w.heap.size ≤ gb399)); have n5_ := Ak ((by rw [hg]; exact Nat.ne_of_lt (Qn BK398.out) : gb398 ≠ gb399)); have n6_ := Ak ((by rw [hg]; exact Nat.ne_of_gt (Qn BK398.out) : gb399 ≠ gb398)); clear BK398; clear HB; have BK398 := n0_; have HB := n1_; have BK399 := n2_; have GW399 := n3_; have GE399 := n4_; have NB398_399 := n5_; have NB399_398 := n6_; clear n0_ n1_ n2_ n3_ n4_ n5_ n6_; clear hb hbox hg; have hnb9 := NB398_399.out; have hnc9 := NB399_398.out; obtain ⟨hcz10_0, hcz10_1, hcz10_2, hcz10_3, hfz10_0, hfz10_1, hfz10_2, hfz10_3⟩ := Qv4 BK398.out; obtain ⟨hcz11_0, hcz11_1, hcz11_2, hcz11_3⟩ := Qu4 BK399.out; have hfz11_0 := blk_frozen BK399.out 0; have hfz11_1 := blk_frozen BK399.out 1; have hfz11_2 := blk_frozen BK399.out 2; have hfz11_3 := blk_frozen BK399.out 3))
     go_ret
     exact ⟨Qh, Qb HB.out⟩
    ·rw [if_neg c6] at H
     have c6b0 : (a0_3 == a1_3) = false := beq_eq_false_iff_ne.mpr c6
     have c6b1 : (a0_3 != a1_3) = true := bne_iff_ne.mpr c6
     obtain rfl := Option.some.inj H
     go_enter Try.func45, Try.ntmps45
     go_wp2_with (first | ((with_reducible refine gate_dst (N := 2) rfl ?_); refine Qk 2 #[.int .i64 a0_0, .int .i64 a0_1, .int .i64 a0_2, .int .i64 a0_3] 48 ?_; intro gb398 hg w12 hbox hb; have n0_ := Ak (below_step (Qb HB.out) hb); have n1_ := Ak (hbox); have n2_ := Ak ((Qp hg HB.out : w.heap.size ≤ gb398)); have n3_ := Ak ((Qp hg HB.out : w.heap.size ≤ gb398)); clear HB; have HB := n0_; have BK398 := n1_; have GW398 := n2_; have GE398 := n3_; clear n0_ n1_ n2_ n3_; clear hb hbox hg) | ((with_reducible refine gate_dst (N := 3) rfl ?_); refine Qk 3 #[.int .i64 a1_0, .int .i64 a1_1, .int .i64 a1_2, .int .i64 a1_3] 48 ?_; intro gb399 hg w13 hbox hb; have n0_ := Ak (Qm BK398.out hb); have n1_ := Ak (below_step (Qb HB.out) hb); have n2_ := Ak (hbox); have n3_ := Ak ((Qp hg HB.out : w.heap.size ≤ gb399)); have n4_ := Ak ((Qp hg HB.out : w.heap.size ≤ gb399)); have n5_ := Ak ((by rw [hg]; exact Nat.ne_of_lt (Qn BK398.out) : gb398 ≠ gb399)); have n6_ := Ak ((by rw [hg]; exact Nat.ne_of_gt (Qn BK398.out) : gb399 ≠ gb398)); clear BK398; clear HB; have BK398 := n0_; have HB := n1_; have BK399 := n2_; have GW399 := n3_; have GE399 := n4_; have NB398_399 := n5_; have NB399_398 := n6_; clear n0_ n1_ n2_ n3_ n4_ n5_ n6_; clear hb hbox hg; have hnb14 := NB398_399.out; have hnc14 := NB399_398.out; obtain ⟨hcz15_0, hcz15_1, hcz15_2, hcz15_3, hfz15_0, hfz15_1, hfz15_2, hfz15_3⟩ := Qv4 BK398.out; obtain ⟨hcz16_0, hcz16_1, hcz16_2, hcz16_3⟩ := Qu4 BK399.out; have hfz16_0 := blk_frozen BK399.out 0; have hfz16_1 := blk_frozen BK399.out 1; have hfz16_2 := blk_frozen BK399.out 2; have hfz16_3 := blk_frozen BK399.out 3))
     go_ret
     exact ⟨Qh, Qb HB.out⟩
   ·rw [if_neg c5] at H
    have c5b0 : (a0_2 == a1_2) = false := beq_eq_false_iff_ne.mpr c5
    have c5b1 : (a0_2 != a1_2) = true := bne_iff_ne.mpr c5
    obtain rfl := Option.some.inj H
    go_enter Try.func45, Try.ntmps45
    go_wp2_with (first | ((with_reducible refine gate_dst (N := 2) rfl ?_); refine Qk 2 #[.int .i64 a0_0, .int .i64 a0_1, .int .i64 a0_2, .int .i64 a0_3] 48 ?_; intro gb398 hg w17 hbox hb; have n0_ := Ak (below_step (Qb HB.out) hb); have n1_ := Ak (hbox); have n2_ := Ak ((Qp hg HB.out : w.heap.size ≤ gb398)); have n3_ := Ak ((Qp hg HB.out : w.heap.size ≤ gb398)); clear HB; have HB := n0_; have BK398 := n1_; have GW398 := n2_; have GE398 := n3_; clear n0_ n1_ n2_ n3_; clear hb hbox hg) | ((with_reducible refine gate_dst (N := 3) rfl ?_); refine Qk 3 #[.int .i64 a1_0, .int .i64 a1_1, .int .i64 a1_2, .int .i64 a1_3] 48 ?_; intro gb399 hg w18 hbox hb; have n0_ := Ak (Qm BK398.out hb); have n1_ := Ak (below_step (Qb HB.out) hb); have n2_ := Ak (hbox); have n3_ := Ak ((Qp hg HB.out : w.heap.size ≤ gb399)); have n4_ := Ak ((Qp hg HB.out : w.heap.size ≤ gb399)); have n5_ := Ak ((by rw [hg]; exact Nat.ne_of_lt (Qn BK398.out) : gb398 ≠ gb399)); have n6_ := Ak ((by rw [hg]; exact Nat.ne_of_gt (Qn BK398.out) : gb399 ≠ gb398)); clear BK398; clear HB; have BK398 := n0_; have HB := n1_; have BK399 := n2_; have GW399 := n3_; have GE399 := n4_; have NB398_399 := n5_; have NB399_398 := n6_; clear n0_ n1_ n2_ n3_ n4_ n5_ n6_; clear hb hbox hg; have hnb19 := NB398_399.out; have hnc19 := NB399_398.out; obtain ⟨hcz20_0, hcz20_1, hcz20_2, hcz20_3, hfz20_0, hfz20_1, hfz20_2, hfz20_3⟩ := Qv4 BK398.out; obtain ⟨hcz21_0, hcz21_1, hcz21_2, hcz21_3⟩ := Qu4 BK399.out; have hfz21_0 := blk_frozen BK399.out 0; have hfz21_1 := blk_frozen BK399.out 1; have hfz21_2 := blk_frozen BK399.out 2; have hfz21_3 := blk_frozen BK399.out 3))
    go_ret
    exact ⟨Qh, Qb HB.out⟩
  ·rw [if_neg c4] at H
   have c4b0 : (a0_1 == a1_1) = false := beq_eq_false_iff_ne.mpr c4
   have c4b1 : (a0_1 != a1_1) = true := bne_iff_ne.mpr c4
   obtain rfl := Option.some.inj H
   go_enter Try.func45, Try.ntmps45
   go_wp2_with (first | ((with_reducible refine gate_dst (N := 2) rfl ?_); refine Qk 2 #[.int .i64 a0_0, .int .i64 a0_1, .int .i64 a0_2, .int .i64 a0_3] 48 ?_; intro gb398 hg w22 hbox hb; have n0_ := Ak (below_step (Qb HB.out) hb); have n1_ := Ak (hbox); have n2_ := Ak ((Qp hg HB.out : w.heap.size ≤ gb398)); have n3_ := Ak ((Qp hg HB.out : w.heap.size ≤ gb398)); clear HB; have HB := n0_; have BK398 := n1_; have GW398 := n2_; have GE398 := n3_; clear n0_ n1_ n2_ n3_; clear hb hbox hg) | ((with_reducible refine gate_dst (N := 3) rfl ?_); refine Qk 3 #[.int .i64 a1_0, .int .i64 a1_1, .int .i64 a1_2, .int .i64 a1_3] 48 ?_; intro gb399 hg w23 hbox hb; have n0_ := Ak (Qm BK398.out hb); have n1_ := Ak (below_step (Qb HB.out) hb); have n2_ := Ak (hbox); have n3_ := Ak ((Qp hg HB.out : w.heap.size ≤ gb399)); have n4_ := Ak ((Qp hg HB.out : w.heap.size ≤ gb399)); have n5_ := Ak ((by rw [hg]; exact Nat.ne_of_lt (Qn BK398.out) : gb398 ≠ gb399)); have n6_ := Ak ((by rw [hg]; exact Nat.ne_of_gt (Qn BK398.out) : gb399 ≠ gb398)); clear BK398; clear HB; have BK398 := n0_; have HB := n1_; have BK399 := n2_; have GW399 := n3_; have GE399 := n4_; have NB398_399 := n5_; have NB399_398 := n6_; clear n0_ n1_ n2_ n3_ n4_ n5_ n6_; clear hb hbox hg; have hnb24 := NB398_399.out; have hnc24 := NB399_398.out; obtain ⟨hcz25_0, hcz25_1, hcz25_2, hcz25_3, hfz25_0, hfz25_1, hfz25_2, hfz25_3⟩ := Qv4 BK398.out; obtain ⟨hcz26_0, hcz26_1, hcz26_2, hcz26_3⟩ := Qu4 BK399.out; have hfz26_0 := blk_frozen BK399.out 0; have hfz26_1 := blk_frozen BK399.out 1; have hfz26_2 := blk_frozen BK399.out 2; have hfz26_3 := blk_frozen BK399.out 3))
   go_ret
   exact ⟨Qh, Qb HB.out⟩
 ·rw [if_neg c3] at H
  have c3b0 : (a0_0 == a1_0) = false := beq_eq_false_iff_ne.mpr c3
  have c3b1 : (a0_0 != a1_0) = true := bne_iff_ne.mpr c3
  obtain rfl := Option.some.inj H
  go_enter Try.func45, Try.ntmps45
  go_wp2_with (first | ((with_reducible refine gate_dst (N := 2) rfl ?_); refine Qk 2 #[.int .i64 a0_0, .int .i64 a0_1, .int .i64 a0_2, .int .i64 a0_3] 48 ?_; intro gb398 hg w27 hbox hb; have n0_ := Ak (below_step (Qb HB.out) hb); have n1_ := Ak (hbox); have n2_ := Ak ((Qp hg HB.out : w.heap.size ≤ gb398)); have n3_ := Ak ((Qp hg HB.out : w.heap.size ≤ gb398)); clear HB; have HB := n0_; have BK398 := n1_; have GW398 := n2_; have GE398 := n3_; clear n0_ n1_ n2_ n3_; clear hb hbox hg) | ((with_reducible refine gate_dst (N := 3) rfl ?_); refine Qk 3 #[.int .i64 a1_0, .int .i64 a1_1, .int .i64 a1_2, .int .i64 a1_3] 48 ?_; intro gb399 hg w28 hbox hb; have n0_ := Ak (Qm BK398.out hb); have n1_ := Ak (below_step (Qb HB.out) hb); have n2_ := Ak (hbox); have n3_ := Ak ((Qp hg HB.out : w.heap.size ≤ gb399)); have n4_ := Ak ((Qp hg HB.out : w.heap.size ≤ gb399)); have n5_ := Ak ((by rw [hg]; exact Nat.ne_of_lt (Qn BK398.out) : gb398 ≠ gb399)); have n6_ := Ak ((by rw [hg]; exact Nat.ne_of_gt (Qn BK398.out) : gb399 ≠ gb398)); clear BK398; clear HB; have BK398 := n0_; have HB := n1_; have BK399 := n2_; have GW399 := n3_; have GE399 := n4_; have NB398_399 := n5_; have NB399_398 := n6_; clear n0_ n1_ n2_ n3_ n4_ n5_ n6_; clear hb hbox hg; have hnb29 := NB398_399.out; have hnc29 := NB399_398.out; obtain ⟨hcz30_0, hcz30_1, hcz30_2, hcz30_3, hfz30_0, hfz30_1, hfz30_2, hfz30_3⟩ := Qv4 BK398.out; obtain ⟨hcz31_0, hcz31_1, hcz31_2, hcz31_3⟩ := Qu4 BK399.out; have hfz31_0 := blk_frozen BK399.out 0; have hfz31_1 := blk_frozen BK399.out 1; have hfz31_2 := blk_frozen BK399.out 2; have hfz31_3 := blk_frozen BK399.out 3))
  go_ret
  exact ⟨Qh, Qb HB.out⟩

/-! ### laws_eqOpS: function 15 -/
def laws_eqOpS.l0 : Nat → List (S48) → List (S48) → Int → Option (Bool)
 | 0, _, _, _ => none
 | k + 1, x0, x1, x5 => if x5 < (x0.length : Int) then (if 0 ≤ x5 then (if x5 < (x1.length : Int) then ((laws_eqOp.f ((rd_T48 x0 x5).f0) ((rd_T48 x0 x5).f1) ((rd_T48 x0 x5).f2) ((rd_T48 x0 x5).f3) ((rd_T48 x1 x5).f0) ((rd_T48 x1 x5).f1) ((rd_T48 x1 x5).f2) ((rd_T48 x1 x5).f3)).bind fun t402 => (if t402 = true then (laws_eqOpS.l0 k x0 x1 (wrap64 (x5 + 1))) else (some false))) else (none)) else (none)) else (some true)
def laws_eqOpS.f (k : Nat) (l0 : List (S48)) (l1 : List (S48)) : Option (Bool) := if (l0.length : Int) = (l1.length : Int) then (laws_eqOpS.l0 k l0 l1 0) else (some false)
theorem laws_eqOpS.mono_l : ∀ k, (∀ y0 y1 y2, LeO (laws_eqOpS.l0 k y0 y1 y2) (laws_eqOpS.l0 (k + 1) y0 y1 y2))
 | 0 => fun _ _ _ r h => by simp [laws_eqOpS.l0] at h
 | k + 1 => by
  have ih0 := laws_eqOpS.mono_l k
  ·intro y0 y1 y2
   unfold laws_eqOpS.l0
   repeat' first
   | (with_reducible exact ih0 _ _ _)
   | (with_reducible exact LeO.refl _)
   | (with_reducible exact LeO.none _)
   | (with_reducible refine LeO.ite ?_ ?_)
   | (with_reducible refine LeO.bind ?_ (fun _ => ?_))
   | exact ih0 _ _ _
   | exact LeO.none _
   | refine LeO.ite ?_ ?_
   | refine LeO.bind ?_ (fun _ => ?_)
theorem laws_eqOpS.mono : ∀ a0 a1 k, LeO (laws_eqOpS.f k a0 a1) (laws_eqOpS.f (k + 1) a0 a1) := by
 intro a0 a1 k
 have ih0 := laws_eqOpS.mono_l k
 unfold laws_eqOpS.f
 repeat' first
   | (with_reducible exact ih0 _ _ _)
   | (with_reducible exact LeO.refl _)
   | (with_reducible exact LeO.none _)
   | (with_reducible refine LeO.ite ?_ ?_)
   | (with_reducible refine LeO.bind ?_ (fun _ => ?_))
   | exact ih0 _ _ _
   | exact LeO.none _
   | refine LeO.ite ?_ ?_
   | refine LeO.bind ?_ (fun _ => ?_)
def laws_eqOpS.T6 : Bool × List (List Nat × List Nat) := (true, [([], []), ([], []), ([0, 1], [0, 1]), ([2], [2]), ([], []), ([], []), ([4, 5], [4, 5]), ([6], [6]), ([3, 7], [3, 7]), ([8], [8])])
def laws_eqOpS.B6 : List Nat := [0, 0, 3, 7, 0, 0, 48, 112, 255, 511]
theorem laws_eqOpS.tab6 : rtab .any (opsOf Try.f15 6) = laws_eqOpS.T6 := by kernel_rfl
theorem laws_eqOpS.bits6 : waitsOk laws_eqOpS.T6.2 laws_eqOpS.B6 = true := by kernel_rfl
theorem laws_eqOpS.calls (k : Nat) (A0 : Option Addr) (c0 : Nat) (l0 : List (S48)) (A1 : Option Addr) (c1 : Nat) (l1 : List (S48)) (r : Bool) (w : World) (hr0 : Kd.C k48 w A0 l0.length l0) (hc0 : l0.length ≤ c0) (hr1 : Kd.C k48 w A1 l1.length l1) (hc1 : l1.length ≤ c1) (h : laws_eqOpS.f k l0 l1 = some r) :
  Calls Try.prog 15 #[.slice A0 l0.length c0, .slice A1 l1.length c1] w fun e w' => e = .returned (.bool r) ∧ Below w.heap.size w w' := by
 have hu48 := Try.underlying48
 have HR0 := Ak hr0
 have HC0 := Ak hc0
 clear hr0 hc0
 have HR1 := Ak hr1
 have HC1 := Ak hc1
 clear hr1 hc1
 have HB := Ak (Below.refl w.heap.size w)
 have H : (if (l0.length : Int) = (l1.length : Int) then (laws_eqOpS.l0 k l0 l1 0) else (some false)) = some r := h
 clear h
 by_cases c3 : (l0.length : Int) = (l1.length : Int)
 ·rw [if_pos c3] at H
  have c3b0 : ((l0.length : Int) == (l1.length : Int)) = true := beq_iff_eq.mpr c3
  have c3b1 : ((l0.length : Int) != (l1.length : Int)) = false := bne_eq_false_iff_eq.mpr c3
  have c3b2 : (l0.length == l1.length) = true := by first | simpa using c3 | (simp at c3 ⊢; omega)
  clear c3
  have H' := Ak H
  clear H
  go_enter Try.func15, Try.ntmps15
  go_wp2
  go_loopg [5] k (fun kq v5 w' => ∃ (x5_1 : Int), v5 = .int .i64 x5_1 ∧ Aside0 (laws_eqOpS.l0 kq l0 l1 x5_1 = some r) ∧ Aside0 (kq ≤ k) ∧ Aside0 (Below w.heap.size w w'))
  case atStart => exact ⟨(0), Qi, H', ⟨Nat.le_refl _⟩, ⟨Qb HB.out⟩⟩
  case round =>
   clear H'
   try clear c1
   try clear p2
   try clear c3
   try clear c3b0
   try clear c3b1
   try clear c3b2
   obtain ⟨x5_1, rfl, HA, HK1, HB⟩ := hrel
   cases gk with
   | zero => exact absurd HA.out (by simp [laws_eqOpS.l0])
   | succ k1 =>
    have H := HA.out
    clear HA
    simp only [laws_eqOpS.l0] at H
    by_cases c4 : x5_1 < (l0.length : Int)
    ·rw [if_pos c4] at H
     have c4b0 : decide (x5_1 < (l0.length : Int)) = true := decide_eq_true c4
     clear c4
     by_cases c5 : 0 ≤ x5_1
     ·rw [if_pos c5] at H
      have c5b0 : decide (0 ≤ x5_1) = true := decide_eq_true c5
      clear c5
      by_cases c6 : x5_1 < (l1.length : Int)
      ·rw [if_pos c6] at H
       have c6b0 : decide (x5_1 < (l1.length : Int)) = true := decide_eq_true c6
       clear c6
       replace H := Option.bind_eq_some_iff.mp H
       obtain ⟨t402, A70, H⟩ := H
       replace H : (if t402 = true then (laws_eqOpS.l0 k1 l0 l1 (wrap64 (x5_1 + 1))) else (some false)) = some r := H
       have A7 := Ak A70
       clear A70
       by_cases c8 : t402 = true
       ·(try subst c8)
        have H1 : (laws_eqOpS.l0 k1 l0 l1 (wrap64 (x5_1 + 1))) = some r := by rw [if_pos rfl] at H; exact H
        clear H
        have H := H1
        clear H1
        have H' := Ak H
        clear H
        try go_wp2
        have n0_ := Ak (below_drew1 HB.out)
        clear HB
        have HB := n0_
        clear n0_
        have p400 : 0 ≤ (x5_1 : Int) := Qg
        have q400 : x5_1 < (l0.length : Int) := Qg
        obtain ⟨ad400, e400, hx400_0, hx400_1, hx400_2, hx400_3⟩ := at_T48 HR0.out x5_1 p400 q400
        have hw400_3 := hx400_3
        have hw400_2 := hx400_2
        have hw400_1 := hx400_1
        have hw400_0 := hx400_0
        cases e400
        (try replace hx400_0 := (HB.out.cell (World.block_lt_of_cell? w _ hx400_0)).trans hx400_0)
        (try replace hx400_1 := (HB.out.cell (World.block_lt_of_cell? w _ hx400_1)).trans hx400_1)
        (try replace hx400_2 := (HB.out.cell (World.block_lt_of_cell? w _ hx400_2)).trans hx400_2)
        (try replace hx400_3 := (HB.out.cell (World.block_lt_of_cell? w _ hx400_3)).trans hx400_3)
        replace p400 := eq_true p400
        replace q400 := eq_true q400
        have p401 : 0 ≤ (x5_1 : Int) := Qg
        have q401 : x5_1 < (l1.length : Int) := Qg
        obtain ⟨ad401, e401, hx401_0, hx401_1, hx401_2, hx401_3⟩ := at_T48 HR1.out x5_1 p401 q401
        have hw401_3 := hx401_3
        have hw401_2 := hx401_2
        have hw401_1 := hx401_1
        have hw401_0 := hx401_0
        cases e401
        (try replace hx401_0 := (HB.out.cell (World.block_lt_of_cell? w _ hx401_0)).trans hx401_0)
        (try replace hx401_1 := (HB.out.cell (World.block_lt_of_cell? w _ hx401_1)).trans hx401_1)
        (try replace hx401_2 := (HB.out.cell (World.block_lt_of_cell? w _ hx401_2)).trans hx401_2)
        (try replace hx401_3 := (HB.out.cell (World.block_lt_of_cell? w _ hx401_3)).trans hx401_3)
        replace p401 := eq_true p401
        replace q401 := eq_true q401
        refine start_ (n := 10) (S := fun w' => w'.cell? (ad400.add ((x5_1).toNat * 4)) = some (.int .i64 ((rd_T48 l0 x5_1).f0)) ∧ w'.cell? ⟨(ad400.add ((x5_1).toNat * 4)).block, (ad400.add ((x5_1).toNat * 4)).off + 1, none⟩ = some (.int .i64 ((rd_T48 l0 x5_1).f1)) ∧ w'.cell? ⟨(ad400.add ((x5_1).toNat * 4)).block, (ad400.add ((x5_1).toNat * 4)).off + 2, none⟩ = some (.int .i64 ((rd_T48 l0 x5_1).f2)) ∧ w'.cell? ⟨(ad400.add ((x5_1).toNat * 4)).block, (ad400.add ((x5_1).toNat * 4)).off + 3, none⟩ = some (.int .i64 ((rd_T48 l0 x5_1).f3)) ∧ w'.cell? (ad401.add ((x5_1).toNat * 4)) = some (.int .i64 ((rd_T48 l1 x5_1).f0)) ∧ w'.cell? ⟨(ad401.add ((x5_1).toNat * 4)).block, (ad401.add ((x5_1).toNat * 4)).off + 1, none⟩ = some (.int .i64 ((rd_T48 l1 x5_1).f1)) ∧ w'.cell? ⟨(ad401.add ((x5_1).toNat * 4)).block, (ad401.add ((x5_1).toNat * 4)).off + 2, none⟩ = some (.int .i64 ((rd_T48 l1 x5_1).f2)) ∧ w'.cell? ⟨(ad401.add ((x5_1).toNat * 4)).block, (ad401.add ((x5_1).toNat * 4)).off + 3, none⟩ = some (.int .i64 ((rd_T48 l1 x5_1).f3))) (ds := []) #[false, false, false, false, false, false, false, false, false, false] (by kernel_rfl) rfl rfl ⟨((HB.out.cell (World.block_lt_of_cell? w _ hw400_0)).trans hw400_0), ((HB.out.cell (World.block_lt_of_cell? w _ hw400_1)).trans hw400_1), ((HB.out.cell (World.block_lt_of_cell? w _ hw400_2)).trans hw400_2), ((HB.out.cell (World.block_lt_of_cell? w _ hw400_3)).trans hw400_3), ((HB.out.cell (World.block_lt_of_cell? w _ hw401_0)).trans hw401_0), ((HB.out.cell (World.block_lt_of_cell? w _ hw401_1)).trans hw401_1), ((HB.out.cell (World.block_lt_of_cell? w _ hw401_2)).trans hw401_2), ((HB.out.cell (World.block_lt_of_cell? w _ hw401_3)).trans hw401_3)⟩ (fun hHeld => ?_); refine with_tabW laws_eqOpS.tab6 laws_eqOpS.bits6 (fun HT_ HW_ => ?_)
        generalize wr.drew = w9 at HB hx400_0 hx400_1 hx400_2 hx400_3 hx401_0 hx401_1 hx401_2 hx401_3 hHeld ⊢
        refine Qq 0 (some 17) ?_
        refine Qq 1 (some 18) ?_
        refine Qq 2 (some 19) ?_
        refine Qq 4 (some 21) ?_
        refine Qq 5 (some 22) ?_
        refine Qq 6 (some 23) ?_
        refine Qr 3 (some 20) hHeld ?_
        refine Qr 7 (some 24) hHeld ?_
        refine Qs 8 (some 25) (fun K hK => ?_)
        refine goes_ Try.func45 (by kernel_rfl) rfl #[.agg #[.int .i64 ((rd_T48 l0 x5_1).f0), .int .i64 ((rd_T48 l0 x5_1).f1), .int .i64 ((rd_T48 l0 x5_1).f2), .int .i64 ((rd_T48 l0 x5_1).f3)], .agg #[.int .i64 ((rd_T48 l1 x5_1).f0), .int .i64 ((rd_T48 l1 x5_1).f1), .int .i64 ((rd_T48 l1 x5_1).f2), .int .i64 ((rd_T48 l1 x5_1).f3)]] (by rfl) rfl rfl (by (try simp only [List.map_toArray, List.map_cons, List.map_nil]); first | done | rfl | (simp only [List.length_drop, List.length_take]; rfl)) ?_
        with_reducible refine (laws_eqOp.calls ((rd_T48 l0 x5_1).f0) ((rd_T48 l0 x5_1).f1) ((rd_T48 l0 x5_1).f2) ((rd_T48 l0 x5_1).f3) ((rd_T48 l1 x5_1).f0) ((rd_T48 l1 x5_1).f1) ((rd_T48 l1 x5_1).f2) ((rd_T48 l1 x5_1).f3) true _ A7.out).mono ?_
        rintro e w10 ⟨rfl, hb⟩
        refine ⟨_, rfl, ?_⟩
        have n0_ := Ak (below_step (Qb HB.out) hb)
        clear HB
        have HB := n0_
        clear n0_
        (try clear hb)
        (try clear hb2)
        (try clear hk)
        (try clear hi)
        refine hK.out _ _ ⟨((HB.out.cell (World.block_lt_of_cell? w _ hw400_0)).trans hw400_0), ((HB.out.cell (World.block_lt_of_cell? w _ hw400_1)).trans hw400_1), ((HB.out.cell (World.block_lt_of_cell? w _ hw400_2)).trans hw400_2), ((HB.out.cell (World.block_lt_of_cell? w _ hw400_3)).trans hw400_3), ((HB.out.cell (World.block_lt_of_cell? w _ hw401_0)).trans hw401_0), ((HB.out.cell (World.block_lt_of_cell? w _ hw401_1)).trans hw401_1), ((HB.out.cell (World.block_lt_of_cell? w _ hw401_2)).trans hw401_2), ((HB.out.cell (World.block_lt_of_cell? w _ hw401_3)).trans hw401_3)⟩ (fun hHeld => ?_)
        clear hK K
        refine norm_ (a' := ?_) ?_ ?_
        rotate_left
        ·show Act.put _ (some 25) _ = _
         simp only [Act.put, List.setIfInBounds_toArray, List.set_cons_zero, List.set_cons_succ, i64_w, i32_w]
         rfl
        refine Qq 9 (some 26) ?_
        refine done_ (done_of HT_.out (by kernel_rfl)) ?_
        try go_wp2
        go_roundg k1
        case measure => have := HK1.out; omega
        case rel => exact ⟨(wrap64 (x5_1 + 1)), Qi, H', ⟨by have := HK1.out; omega⟩, ⟨Qb HB.out⟩⟩
       ·replace c8 := Bool.eq_false_iff.mpr c8
        (try subst c8)
        have H1 : (some false) = some r := by rw [if_neg (show ¬ (false = true) by decide)] at H; exact H
        clear H
        have H := H1
        clear H1
        obtain rfl := Option.some.inj H
        try go_wp2
        have n0_ := Ak (below_drew1 HB.out)
        clear HB
        have HB := n0_
        clear n0_
        have p400 : 0 ≤ (x5_1 : Int) := Qg
        have q400 : x5_1 < (l0.length : Int) := Qg
        obtain ⟨ad400, e400, hx400_0, hx400_1, hx400_2, hx400_3⟩ := at_T48 HR0.out x5_1 p400 q400
        have hw400_3 := hx400_3
        have hw400_2 := hx400_2
        have hw400_1 := hx400_1
        have hw400_0 := hx400_0
        cases e400
        (try replace hx400_0 := (HB.out.cell (World.block_lt_of_cell? w _ hx400_0)).trans hx400_0)
        (try replace hx400_1 := (HB.out.cell (World.block_lt_of_cell? w _ hx400_1)).trans hx400_1)
        (try replace hx400_2 := (HB.out.cell (World.block_lt_of_cell? w _ hx400_2)).trans hx400_2)
        (try replace hx400_3 := (HB.out.cell (World.block_lt_of_cell? w _ hx400_3)).trans hx400_3)
        replace p400 := eq_true p400
        replace q400 := eq_true q400
        have p401 : 0 ≤ (x5_1 : Int) := Qg
        have q401 : x5_1 < (l1.length : Int) := Qg
        obtain ⟨ad401, e401, hx401_0, hx401_1, hx401_2, hx401_3⟩ := at_T48 HR1.out x5_1 p401 q401
        have hw401_3 := hx401_3
        have hw401_2 := hx401_2
        have hw401_1 := hx401_1
        have hw401_0 := hx401_0
        cases e401
        (try replace hx401_0 := (HB.out.cell (World.block_lt_of_cell? w _ hx401_0)).trans hx401_0)
        (try replace hx401_1 := (HB.out.cell (World.block_lt_of_cell? w _ hx401_1)).trans hx401_1)
        (try replace hx401_2 := (HB.out.cell (World.block_lt_of_cell? w _ hx401_2)).trans hx401_2)
        (try replace hx401_3 := (HB.out.cell (World.block_lt_of_cell? w _ hx401_3)).trans hx401_3)
        replace p401 := eq_true p401
        replace q401 := eq_true q401
        refine start_ (n := 10) (S := fun w' => w'.cell? (ad400.add ((x5_1).toNat * 4)) = some (.int .i64 ((rd_T48 l0 x5_1).f0)) ∧ w'.cell? ⟨(ad400.add ((x5_1).toNat * 4)).block, (ad400.add ((x5_1).toNat * 4)).off + 1, none⟩ = some (.int .i64 ((rd_T48 l0 x5_1).f1)) ∧ w'.cell? ⟨(ad400.add ((x5_1).toNat * 4)).block, (ad400.add ((x5_1).toNat * 4)).off + 2, none⟩ = some (.int .i64 ((rd_T48 l0 x5_1).f2)) ∧ w'.cell? ⟨(ad400.add ((x5_1).toNat * 4)).block, (ad400.add ((x5_1).toNat * 4)).off + 3, none⟩ = some (.int .i64 ((rd_T48 l0 x5_1).f3)) ∧ w'.cell? (ad401.add ((x5_1).toNat * 4)) = some (.int .i64 ((rd_T48 l1 x5_1).f0)) ∧ w'.cell? ⟨(ad401.add ((x5_1).toNat * 4)).block, (ad401.add ((x5_1).toNat * 4)).off + 1, none⟩ = some (.int .i64 ((rd_T48 l1 x5_1).f1)) ∧ w'.cell? ⟨(ad401.add ((x5_1).toNat * 4)).block, (ad401.add ((x5_1).toNat * 4)).off + 2, none⟩ = some (.int .i64 ((rd_T48 l1 x5_1).f2)) ∧ w'.cell? ⟨(ad401.add ((x5_1).toNat * 4)).block, (ad401.add ((x5_1).toNat * 4)).off + 3, none⟩ = some (.int .i64 ((rd_T48 l1 x5_1).f3))) (ds := []) #[false, false, false, false, false, false, false, false, false, false] (by kernel_rfl) rfl rfl ⟨((HB.out.cell (World.block_lt_of_cell? w _ hw400_0)).trans hw400_0), ((HB.out.cell (World.block_lt_of_cell? w _ hw400_1)).trans hw400_1), ((HB.out.cell (World.block_lt_of_cell? w _ hw400_2)).trans hw400_2), ((HB.out.cell (World.block_lt_of_cell? w _ hw400_3)).trans hw400_3), ((HB.out.cell (World.block_lt_of_cell? w _ hw401_0)).trans hw401_0), ((HB.out.cell (World.block_lt_of_cell? w _ hw401_1)).trans hw401_1), ((HB.out.cell (World.block_lt_of_cell? w _ hw401_2)).trans hw401_2), ((HB.out.cell (World.block_lt_of_cell? w _ hw401_3)).trans hw401_3)⟩ (fun hHeld => ?_); refine with_tabW laws_eqOpS.tab6 laws_eqOpS.bits6 (fun HT_ HW_ => ?_)
        generalize wr.drew = w11 at HB hx400_0 hx400_1 hx400_2 hx400_3 hx401_0 hx401_1 hx401_2 hx401_3 hHeld ⊢
        refine Qq 0 (some 17) ?_
        refine Qq 1 (some 18) ?_
        refine Qq 2 (some 19) ?_
        refine Qq 4 (some 21) ?_
        refine Qq 5 (some 22) ?_
        refine Qq 6 (some 23) ?_
        refine Qr 3 (some 20) hHeld ?_
        refine Qr 7 (some 24) hHeld ?_
        refine Qs 8 (some 25) (fun K hK => ?_)
        refine goes_ Try.func45 (by kernel_rfl) rfl #[.agg #[.int .i64 ((rd_T48 l0 x5_1).f0), .int .i64 ((rd_T48 l0 x5_1).f1), .int .i64 ((rd_T48 l0 x5_1).f2), .int .i64 ((rd_T48 l0 x5_1).f3)], .agg #[.int .i64 ((rd_T48 l1 x5_1).f0), .int .i64 ((rd_T48 l1 x5_1).f1), .int .i64 ((rd_T48 l1 x5_1).f2), .int .i64 ((rd_T48 l1 x5_1).f3)]] (by rfl) rfl rfl (by (try simp only [List.map_toArray, List.map_cons, List.map_nil]); first | done | rfl | (simp only [List.length_drop, List.length_take]; rfl)) ?_
        with_reducible refine (laws_eqOp.calls ((rd_T48 l0 x5_1).f0) ((rd_T48 l0 x5_1).f1) ((rd_T48 l0 x5_1).f2) ((rd_T48 l0 x5_1).f3) ((rd_T48 l1 x5_1).f0) ((rd_T48 l1 x5_1).f1) ((rd_T48 l1 x5_1).f2) ((rd_T48 l1 x5_1).f3) false _ A7.out).mono ?_
        rintro e w12 ⟨rfl, hb⟩
        refine ⟨_, rfl, ?_⟩
        have n0_ := Ak (below_step (Qb HB.out) hb)
        clear HB
        have HB := n0_
        clear n0_
        (try clear hb)
        (try clear hb2)
        (try clear hk)
        (try clear hi)
        refine hK.out _ _ ⟨((HB.out.cell (World.block_lt_of_cell? w _ hw400_0)).trans hw400_0), ((HB.out.cell (World.block_lt_of_cell? w _ hw400_1)).trans hw400_1), ((HB.out.cell (World.block_lt_of_cell? w _ hw400_2)).trans hw400_2), ((HB.out.cell (World.block_lt_of_cell? w _ hw400_3)).trans hw400_3), ((HB.out.cell (World.block_lt_of_cell? w _ hw401_0)).trans hw401_0), ((HB.out.cell (World.block_lt_of_cell? w _ hw401_1)).trans hw401_1), ((HB.out.cell (World.block_lt_of_cell? w _ hw401_2)).trans hw401_2), ((HB.out.cell (World.block_lt_of_cell? w _ hw401_3)).trans hw401_3)⟩ (fun hHeld => ?_)
        clear hK K
        refine norm_ (a' := ?_) ?_ ?_
        rotate_left
        ·show Act.put _ (some 25) _ = _
         simp only [Act.put, List.setIfInBounds_toArray, List.set_cons_zero, List.set_cons_succ, i64_w, i32_w]
         rfl
        refine Qq 9 (some 26) ?_
        refine done_ (done_of HT_.out (by kernel_rfl)) ?_
        try go_wp2
        go_ret
        exact ⟨Qh, Qb HB.out⟩
      ·rw [if_neg c6] at H
       exact absurd H (by simp)
     ·rw [if_neg c5] at H
      exact absurd H (by simp)
    ·rw [if_neg c4] at H
     have c4b0 : decide (x5_1 < (l0.length : Int)) = false := decide_eq_false c4
     clear c4
     obtain rfl := Option.some.inj H
     go_wp2
     go_ret
     exact ⟨Qh, Qb HB.out⟩
 ·rw [if_neg c3] at H
  have c3b0 : ((l0.length : Int) == (l1.length : Int)) = false := beq_eq_false_iff_ne.mpr c3
  have c3b1 : ((l0.length : Int) != (l1.length : Int)) = true := bne_iff_ne.mpr c3
  have c3b2 : (l0.length == l1.length) = false := by first | simpa using c3 | (simp at c3 ⊢; omega)
  obtain rfl := Option.some.inj H
  go_enter Try.func15, Try.ntmps15
  go_wp2
  go_ret
  exact ⟨Qh, Qb HB.out⟩

end Go.Proofs.Ytlmiankjbffboaa.HFnExactStepMachine

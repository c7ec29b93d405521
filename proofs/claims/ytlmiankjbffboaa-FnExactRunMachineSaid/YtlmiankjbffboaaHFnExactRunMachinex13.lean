/- Text for FnExactRunMachine: written by a program of this session on the pattern of the kit's print. -/
import Derived.Test.YtlmiankjbffboaaHFnExactRunMachinex0
import Derived.Test.YtlmiankjbffboaaHFnExactRunMachinex1
import Derived.Test.YtlmiankjbffboaaHFnExactRunMachinex2
import Derived.Test.YtlmiankjbffboaaHFnExactRunMachinex8
import Derived.Test.YtlmiankjbffboaaHFnExactRunMachinex9
import Derived.Test.YtlmiankjbffboaaHFnExactRunMachinex12
namespace Go.Proofs.Ytlmiankjbffboaa.HFnExactRunMachine
set_option maxHeartbeats 8000000
set_option maxRecDepth 100000
open Go.RowKit Go.Proofs.YtlmiankjbffboaaW.PrintWords Go.Proofs.YtlmiankjbffboaaW.PrintLast Go.Proofs.YtlmiankjbffboaaW.PrintMore
attribute [local go_sem] max2_int min2_int max_two min_two max_three min_three max_four min_four
set_option linter.unusedVariables false
set_option linter.unusedSimpArgs false

/-! ### impl_RunMachine: function 20 -/
/-- The argument's variable (block g3) and the result's (block g4). -/
structure impl_RunMachine.Bx (w W : World) (g3 g4 : Nat) (pc : Int) (u v : Value) : Prop where
 b3 : W.heap[g3]? = some (.cells #[.int .i64 pc, u, v] 28 (0, 0))
 b4 : W.heap[g4]? = some (.cells #[.int .i64 0, .slice none 0 0, .slice none 0 0] 28 (0, 0))
 b : Below w.heap.size w W
 h3 : w.heap.size ≤ g3
 h4 : w.heap.size ≤ g4
section
variable {w W : World} {g3 g4 : Nat} {pc : Int} {u v : Value}
theorem impl_RunMachine.Bx.start (w : World) (pc : Int) (u v : Value) : impl_RunMachine.Bx w ((w.alloc (.cells #[.int .i64 pc, u, v] 28)).alloc (.cells #[.int .i64 0, .slice none 0 0, .slice none 0 0] 28)) w.heap.size (w.heap.size + 1) pc u v :=
 ⟨blk_alloc (blk_new _ _) _, by have h := blk_new (w.alloc (.cells #[.int .i64 pc, u, v] 28)) (.cells #[.int .i64 0, .slice none 0 0, .slice none 0 0] 28); rwa [show (w.alloc (.cells #[.int .i64 pc, u, v] 28)).heap.size = w.heap.size + 1 by simp] at h, below_alloc (below_alloc (Below.refl _ _) _) _, Nat.le_refl _, Nat.le_succ _⟩
theorem impl_RunMachine.Bx.below {W' : World} (h : impl_RunMachine.Bx w W g3 g4 pc u v) (hb : Below W.heap.size W W') : impl_RunMachine.Bx w W' g3 g4 pc u v := ⟨blk_below h.b3 hb, blk_below h.b4 hb, below_step h.b hb, h.h3, h.h4⟩
theorem impl_RunMachine.Bx.drewN (h : impl_RunMachine.Bx w W g3 g4 pc u v) (n : Nat) : impl_RunMachine.Bx w (W.drewN n) g3 g4 pc u v := ⟨blk_drewN h.b3 n, blk_drewN h.b4 n, pw_below_drewN h.b n, h.h3, h.h4⟩
theorem impl_RunMachine.Bx.cells (h : impl_RunMachine.Bx w W g3 g4 pc u v) : W.cell? ⟨g3, 0, none⟩ = some (.int .i64 pc) ∧ W.cell? ⟨g3, 1, none⟩ = some u ∧ W.cell? ⟨g3, 2, none⟩ = some v ∧ W.frozen? ⟨g4, 0, none⟩ = false ∧ W.frozen? ⟨g4, 1, none⟩ = false ∧ W.frozen? ⟨g4, 2, none⟩ = false ∧ W.cell? ⟨g4, 0, none⟩ = some (.int .i64 0) ∧ W.cell? ⟨g4, 1, none⟩ = some (.slice none 0 0) ∧ W.cell? ⟨g4, 2, none⟩ = some (.slice none 0 0) :=
 ⟨(blk_cell h.b3 0).trans rfl, (blk_cell h.b3 1).trans rfl, (blk_cell h.b3 2).trans rfl, blk_frozen h.b4 0, blk_frozen h.b4 1, blk_frozen h.b4 2, (blk_cell h.b4 0).trans rfl, (blk_cell h.b4 1).trans rfl, (blk_cell h.b4 2).trans rfl⟩
theorem impl_RunMachine.Bx.alloc (h : impl_RunMachine.Bx w W g3 g4 pc u v) (o : Obj) : impl_RunMachine.Bx w (W.alloc o) g3 g4 pc u v := h.below (below_alloc (Below.refl _ _) o)
theorem impl_RunMachine.mk {w3 : World} {st cl : List Int} (h1 : Kd.R (Kd.int .i64) 3 w3 W.heap.size (fun k_ => some k_ ≠ v.ownBlock) u st) (h2 : Kd.R (Kd.int .i64) 3 w3 W.heap.size (fun k_ => some k_ ≠ u.ownBlock) v cl) (hb : Below W.heap.size W w3) : impl_step.Held W (w3.alloc (.cells #[.int .i64 pc, u, v] 28)) w3.heap.size pc u v st cl :=
 ⟨blk_new _ _, Kd.R_alloc h1 _, Kd.R_alloc h2 _, below_alloc hb _, hb.size⟩
theorem impl_RunMachine.mcells {pc : Int} {st cl : List Int} {gm : Nat} (h : impl_step.Held w W gm pc u v st cl) : W.cell? ⟨gm, 0, none⟩ = some (.int .i64 pc) ∧ W.cell? ⟨gm, 1, none⟩ = some u ∧ W.cell? ⟨gm, 2, none⟩ = some v := ⟨(blk_cell h.m 0).trans rfl, (blk_cell h.m 1).trans rfl, (blk_cell h.m 2).trans rfl⟩
theorem impl_RunMachine.Bx.out (h : impl_RunMachine.Bx w W g3 g4 pc u v) (p : Int) (a b : Value) : (((W.setCell ⟨g4, 0, none⟩ (.int .i64 p)).setCell ⟨g4, 1, none⟩ a).setCell ⟨g4, 2, none⟩ b).heap[g4]? = some (.cells #[.int .i64 p, a, b] 28 (0, 0)) :=
 blk_put (cs := #[.int .i64 p, a, .slice none 0 0]) (blk_put (cs := #[.int .i64 p, .slice none 0 0, .slice none 0 0]) (blk_put (cs := #[.int .i64 0, .slice none 0 0, .slice none 0 0]) h.b4 0 _ rfl) 1 _ rfl) 2 _ rfl
theorem impl_RunMachine.Bx.row (h : impl_RunMachine.Bx w W g3 g4 pc u v) (p : Int) (a b : Value) {base : Nat} {ok : Nat → Prop} {q : Value} {xs : List Int} (hr : Kd.R (Kd.int .i64) 3 W base ok q xs) (hb : w.heap.size ≤ base) : Kd.R (Kd.int .i64) 3 (((W.setCell ⟨g4, 0, none⟩ (.int .i64 p)).setCell ⟨g4, 1, none⟩ a).setCell ⟨g4, 2, none⟩ b) w.heap.size ok q xs := by
 have h1 := blk_put (cs' := #[.int .i64 p, .slice none 0 0, .slice none 0 0]) h.b4 0 (.int .i64 p) rfl
 have h2 := blk_put (cs' := #[.int .i64 p, a, .slice none 0 0]) h1 1 a rfl
 exact Kd.R_lower (Kd.R_set (Kd.R_set (Kd.R_set hr h.b4 (by decide) 0 _) h1 (by decide) 1 _) h2 (by decide) 2 _) hb
end
def impl_RunMachine.loop (k : Nat) (l : List S48) : Nat → Int → List Int → List Int → Option (Int × List Int × List Int × Int)
 | 0, pc, st, cl => some (pc, st, cl, 5)
 | n + 1, pc, st, cl => (impl_step.f k l pc st cl).bind fun q => if q.1 = 0 then impl_RunMachine.loop k l n q.2.1 q.2.2.1 q.2.2.2 else some (q.2.1, q.2.2.1, q.2.2.2, q.1)
theorem impl_RunMachine.loop_mono (k : Nat) (l : List S48) : ∀ n pc st cl, LeO (impl_RunMachine.loop k l n pc st cl) (impl_RunMachine.loop (k + 1) l n pc st cl)
 | 0, _, _, _ => LeO.refl _
 | n + 1, _, _, _ => LeO.bind (impl_step.mono _ _ _ _ k) (fun q => LeO.ite (impl_RunMachine.loop_mono k l n _ _ _) (LeO.refl _))
def impl_RunMachine.f (k : Nat) (l0 : List S48) (a1_0 : Int) (l1_1 l1_2 : List Int) (a2 : Int) : Option (Int × List Int × List Int × Int) := (impl_IsMachine.f k l0 a1_0 l1_1 l1_2).bind fun t => if t = true then if a2 < 0 ∨ 2000 < a2 then some (0, [], [], 0) else (impl_copyMachine.f a1_0 l1_1 l1_2).bind fun m => impl_RunMachine.loop k l0 a2.toNat m.1 m.2.1 m.2.2 else some (0, [], [], 0)
theorem impl_RunMachine.mono : ∀ a b c d e k, LeO (impl_RunMachine.f k a b c d e) (impl_RunMachine.f (k + 1) a b c d e) := fun a b c d e k => LeO.bind (impl_IsMachine.mono a b c d k) (fun _ => LeO.ite (LeO.ite (LeO.refl _) (LeO.bind (LeO.refl _) (fun m => impl_RunMachine.loop_mono k _ _ _ _ _))) (LeO.refl _))
theorem impl_RunMachine.calls (k : Nat) (A0 : Option Addr) (c0 : Nat) (l0 : List (S48)) (a1_0 : Int) (A1_1 : Option Addr) (c1_1 : Nat) (l1_1 : List Int) (A1_2 : Option Addr) (c1_2 : Nat) (l1_2 : List Int) (a2 : Int) (r1 : Int) (r2 : List Int) (r3 : List Int) (r4 : Int) (w : World) (hr0 : Kd.C k48 w A0 l0.length l0) (hc0 : l0.length ≤ c0) (hr1_1 : Kd.C (Kd.int .i64) w A1_1 l1_1.length l1_1) (hc1_1 : l1_1.length ≤ c1_1) (hr1_2 : Kd.C (Kd.int .i64) w A1_2 l1_2.length l1_2) (hc1_2 : l1_2.length ≤ c1_2) (h : impl_RunMachine.f k l0 a1_0 l1_1 l1_2 a2 = some (r1, r2, r3, r4)) :
  Calls Try.prog 20 #[.slice A0 l0.length c0, .agg #[.int .i64 a1_0, .slice A1_1 l1_1.length c1_1, .slice A1_2 l1_2.length c1_2], .int .i64 a2] w fun e w' => ∃ v1_ v2_ : Value, e = .returned (.tuple #[.agg #[.int .i64 r1, v1_, v2_], .int .i64 r4]) ∧ Kd.R (Kd.int .i64) 3 w' w.heap.size (fun k_ => some k_ ≠ (v2_ : Value).ownBlock) v1_ r2 ∧ Kd.R (Kd.int .i64) 3 w' w.heap.size (fun k_ => some k_ ≠ (v1_ : Value).ownBlock) v2_ r3 ∧ Below w.heap.size w w' := by
 unfold impl_RunMachine.f at h
 obtain ⟨t, ht, h1⟩ := Option.bind_eq_some_iff.1 h
 clear h
 have HR0 := Ak hr0
 have HR1 := Ak hr1_1
 have HR2 := Ak hr1_2
 have HC0 := Ak hc0
 have HC1 := Ak hc1_1
 have HC2 := Ak hc1_2
 have HT := Ak ht
 clear hr0 hr1_1 hr1_2 hc0 hc1_1 hc1_2 ht
 have HX := Ak (impl_RunMachine.Bx.start w a1_0 (.slice A1_1 l1_1.length c1_1) (.slice A1_2 l1_2.length c1_2))
 cases t with
 | false =>
  rw [if_neg (by simp)] at h1
  obtain ⟨rfl, rfl, rfl, rfl⟩ : 0 = r1 ∧ [] = r2 ∧ [] = r3 ∧ 0 = r4 := by simpa using h1
  clear h1
  go_enter Try.func20, Try.ntmps20
  go_upto_region 1 with fail
  generalize (w.alloc (.cells #[.int .i64 a1_0, .slice A1_1 l1_1.length c1_1, .slice A1_2 l1_2.length c1_2] 28)).alloc (.cells #[.int .i64 0, .slice none 0 0, .slice none 0 0] 28) = W at HX ⊢
  obtain ⟨g4, hg4⟩ : ∃ g, g = w.heap.size + 1 := ⟨_, rfl⟩
  obtain ⟨g3, hg3⟩ : ∃ g, g = w.heap.size := ⟨_, rfl⟩
  rw [← hg4] at HX ⊢
  rw [← hg3] at ⊢
  replace HX := Ak (show impl_RunMachine.Bx w W g3 g4 a1_0 (.slice A1_1 l1_1.length c1_1) (.slice A1_2 l1_2.length c1_2) by rw [hg3]; exact HX.out)
  clear hg3 hg4
  obtain ⟨m0, m1, m2, f0, f1, f2, y0, y1, y2⟩ := HX.out.cells
  go_wp2_with ((go_at_call 41; with_reducible refine (impl_IsMachine.calls k A0 c0 l0 a1_0 A1_1 c1_1 l1_1 A1_2 c1_2 l1_2 false _ (Kd.C_below HR0.out HX.out.b) HC0.out (Kd.C_below HR1.out HX.out.b) HC1.out (Kd.C_below HR2.out HX.out.b) HC2.out HT.out).mono ?_; rintro e w2 ⟨rfl, hb⟩); have HX2 := Ak (HX.out.below hb); obtain ⟨o0, o1, o2, p0, p1, p2, q0, q1, q2⟩ := HX2.out.cells; clear hb)
  refine bodyPost_ret (results_ct rfl _ _ g4 28 #[.int .i64 0, .slice none 0 0, .slice none 0 0] (0, 0) _ rfl (blk_put (cs := #[.int .i64 0, .slice none 0 0, .slice none 0 0]) (blk_put (cs := #[.int .i64 0, .slice none 0 0, .slice none 0 0]) (blk_put (cs := #[.int .i64 0, .slice none 0 0, .slice none 0 0]) HX2.out.b4 0 _ rfl) 1 _ rfl) 2 _ rfl) Try.underlying28 rfl (by kernel_rfl)) rfl ?_
  exact ⟨_, _, rfl, Kd.R_nil _ _ _ _ _, Kd.R_nil _ _ _ _ _, below_set (below_set (below_set HX2.out.b HX2.out.h4) HX2.out.h4) HX2.out.h4⟩
 | true =>
  rw [if_pos rfl] at h1
  by_cases ha : a2 < 0 ∨ 2000 < a2
  ·rw [if_pos ha] at h1
   obtain ⟨rfl, rfl, rfl, rfl⟩ : 0 = r1 ∧ [] = r2 ∧ [] = r3 ∧ 0 = r4 := by simpa using h1
   clear h1
   rcases ha with ha | ha
   ·have b1 : decide (a2 < 0) = true := decide_eq_true ha
    clear ha
    go_enter Try.func20, Try.ntmps20
    go_upto_region 1 with fail
    generalize (w.alloc (.cells #[.int .i64 a1_0, .slice A1_1 l1_1.length c1_1, .slice A1_2 l1_2.length c1_2] 28)).alloc (.cells #[.int .i64 0, .slice none 0 0, .slice none 0 0] 28) = W at HX ⊢
    obtain ⟨g4, hg4⟩ : ∃ g, g = w.heap.size + 1 := ⟨_, rfl⟩
    obtain ⟨g3, hg3⟩ : ∃ g, g = w.heap.size := ⟨_, rfl⟩
    rw [← hg4] at HX ⊢
    rw [← hg3] at ⊢
    replace HX := Ak (show impl_RunMachine.Bx w W g3 g4 a1_0 (.slice A1_1 l1_1.length c1_1) (.slice A1_2 l1_2.length c1_2) by rw [hg3]; exact HX.out)
    clear hg3 hg4
    obtain ⟨m0, m1, m2, f0, f1, f2, y0, y1, y2⟩ := HX.out.cells
    go_wp2_with ((go_at_call 41; with_reducible refine (impl_IsMachine.calls k A0 c0 l0 a1_0 A1_1 c1_1 l1_1 A1_2 c1_2 l1_2 true _ (Kd.C_below HR0.out HX.out.b) HC0.out (Kd.C_below HR1.out HX.out.b) HC1.out (Kd.C_below HR2.out HX.out.b) HC2.out HT.out).mono ?_; rintro e w2 ⟨rfl, hb⟩); have HX2 := Ak (HX.out.below hb); obtain ⟨o0, o1, o2, p0, p1, p2, q0, q1, q2⟩ := HX2.out.cells; clear hb)
    refine bodyPost_ret (results_ct rfl _ _ g4 28 #[.int .i64 0, .slice none 0 0, .slice none 0 0] (0, 0) _ rfl (blk_put (cs := #[.int .i64 0, .slice none 0 0, .slice none 0 0]) (blk_put (cs := #[.int .i64 0, .slice none 0 0, .slice none 0 0]) (blk_put (cs := #[.int .i64 0, .slice none 0 0, .slice none 0 0]) HX2.out.b4 0 _ rfl) 1 _ rfl) 2 _ rfl) Try.underlying28 rfl (by kernel_rfl)) rfl ?_
    exact ⟨_, _, rfl, Kd.R_nil _ _ _ _ _, Kd.R_nil _ _ _ _ _, below_set (below_set (below_set HX2.out.b HX2.out.h4) HX2.out.h4) HX2.out.h4⟩
   ·have b1 : decide (a2 < 0) = false := decide_eq_false (by omega)
    have b2 : decide (2000 < a2) = true := decide_eq_true ha
    clear ha
    go_enter Try.func20, Try.ntmps20
    go_upto_region 1 with fail
    generalize (w.alloc (.cells #[.int .i64 a1_0, .slice A1_1 l1_1.length c1_1, .slice A1_2 l1_2.length c1_2] 28)).alloc (.cells #[.int .i64 0, .slice none 0 0, .slice none 0 0] 28) = W at HX ⊢
    obtain ⟨g4, hg4⟩ : ∃ g, g = w.heap.size + 1 := ⟨_, rfl⟩
    obtain ⟨g3, hg3⟩ : ∃ g, g = w.heap.size := ⟨_, rfl⟩
    rw [← hg4] at HX ⊢
    rw [← hg3] at ⊢
    replace HX := Ak (show impl_RunMachine.Bx w W g3 g4 a1_0 (.slice A1_1 l1_1.length c1_1) (.slice A1_2 l1_2.length c1_2) by rw [hg3]; exact HX.out)
    clear hg3 hg4
    obtain ⟨m0, m1, m2, f0, f1, f2, y0, y1, y2⟩ := HX.out.cells
    go_wp2_with ((go_at_call 41; with_reducible refine (impl_IsMachine.calls k A0 c0 l0 a1_0 A1_1 c1_1 l1_1 A1_2 c1_2 l1_2 true _ (Kd.C_below HR0.out HX.out.b) HC0.out (Kd.C_below HR1.out HX.out.b) HC1.out (Kd.C_below HR2.out HX.out.b) HC2.out HT.out).mono ?_; rintro e w2 ⟨rfl, hb⟩); have HX2 := Ak (HX.out.below hb); obtain ⟨o0, o1, o2, p0, p1, p2, q0, q1, q2⟩ := HX2.out.cells; clear hb)
    refine bodyPost_ret (results_ct rfl _ _ g4 28 #[.int .i64 0, .slice none 0 0, .slice none 0 0] (0, 0) _ rfl (blk_put (cs := #[.int .i64 0, .slice none 0 0, .slice none 0 0]) (blk_put (cs := #[.int .i64 0, .slice none 0 0, .slice none 0 0]) (blk_put (cs := #[.int .i64 0, .slice none 0 0, .slice none 0 0]) HX2.out.b4 0 _ rfl) 1 _ rfl) 2 _ rfl) Try.underlying28 rfl (by kernel_rfl)) rfl ?_
    exact ⟨_, _, rfl, Kd.R_nil _ _ _ _ _, Kd.R_nil _ _ _ _ _, below_set (below_set (below_set HX2.out.b HX2.out.h4) HX2.out.h4) HX2.out.h4⟩
  ·rw [if_neg ha] at h1
   obtain ⟨⟨pc0, st0, cl0⟩, hcp, hlp⟩ := Option.bind_eq_some_iff.1 h1
   clear h1
   obtain ⟨N, rfl⟩ : ∃ N : Nat, a2 = (N : Int) := ⟨a2.toNat, by omega⟩
   have hN : N ≤ 2000 := by omega
   clear ha
   rw [Int.toNat_natCast] at hlp
   dsimp only at hlp
   replace hcp := Ak hcp
   replace hlp := Ak hlp
   have b1 : decide ((N : Int) < 0) = false := decide_eq_false (by omega)
   have b2 : decide (2000 < (N : Int)) = false := decide_eq_false (by omega)
   go_enter Try.func20, Try.ntmps20
   go_upto_region 1 with fail
   generalize (w.alloc (.cells #[.int .i64 a1_0, .slice A1_1 l1_1.length c1_1, .slice A1_2 l1_2.length c1_2] 28)).alloc (.cells #[.int .i64 0, .slice none 0 0, .slice none 0 0] 28) = W at HX ⊢
   obtain ⟨g4, hg4⟩ : ∃ g, g = w.heap.size + 1 := ⟨_, rfl⟩
   obtain ⟨g3, hg3⟩ : ∃ g, g = w.heap.size := ⟨_, rfl⟩
   rw [← hg4] at HX ⊢
   rw [← hg3] at ⊢
   replace HX := Ak (show impl_RunMachine.Bx w W g3 g4 a1_0 (.slice A1_1 l1_1.length c1_1) (.slice A1_2 l1_2.length c1_2) by rw [hg3]; exact HX.out)
   clear hg3 hg4
   obtain ⟨m0, m1, m2, f0, f1, f2, y0, y1, y2⟩ := HX.out.cells
   go_upto_region 4 with (first | ((go_at_call 41; with_reducible refine (impl_IsMachine.calls k A0 c0 l0 a1_0 A1_1 c1_1 l1_1 A1_2 c1_2 l1_2 true _ (Kd.C_below HR0.out HX.out.b) HC0.out (Kd.C_below HR1.out HX.out.b) HC1.out (Kd.C_below HR2.out HX.out.b) HC2.out HT.out).mono ?_; rintro e w2 ⟨rfl, hb⟩); have HX2 := Ak (HX.out.below hb); obtain ⟨o0, o1, o2, p0, p1, p2, q0, q1, q2⟩ := HX2.out.cells; clear hb) | ((go_at_call 42; with_reducible refine (impl_copyMachine.calls a1_0 A1_1 c1_1 l1_1 A1_2 c1_2 l1_2 pc0 st0 cl0 _ (Kd.C_below HR1.out HX2.out.b) HC1.out (Kd.C_below HR2.out HX2.out.b) HC2.out hcp.out).mono ?_; rintro e w3 ⟨v1, v2, rfl, hv1, hv2, hb⟩); obtain ⟨B1, d1, rfl⟩ := Kd.R_slice hv1; obtain ⟨B2, d2, rfl⟩ := Kd.R_slice hv2; have HV1 := Ak hv1; have HV2 := Ak hv2; have HB3 := Ak hb; clear hv1 hv2 hb o0 o1 o2 p0 p1 p2 q0 q1 q2))
   have HX5 := Ak ((HX2.out.below HB3.out).alloc (.cells #[.int .i64 pc0, .slice B1 st0.length d1, .slice B2 cl0.length d2] 28))
   have HM := Ak (impl_RunMachine.mk (pc := pc0) HV1.out HV2.out HB3.out)
   have hz2 := Ak HX2.out.b.size
   generalize w3.alloc (.cells #[.int .i64 pc0, .slice B1 st0.length d1, .slice B2 cl0.length d2] 28) = w5 at HX5 HM ⊢
   generalize w3.heap.size = gm at HM ⊢
   clear HV1 HV2 HB3 HX5 m0 m1 m2 f0 f1 f2 y0 y1 y2 b1 b2
   go_wp2
   go_loopg [26] N (fun gg s26 wr => ∃ (ii : Nat) (pc : Int) (st cl : List Int) (vs vc : Value), ii ≤ N ∧ N - ii ≤ gg ∧ s26 = .int .i64 ii ∧ Aside0 (impl_RunMachine.loop k l0 (N - ii) pc st cl = some (r1, r2, r3, r4)) ∧ Aside0 (impl_step.Held w2 wr gm pc vs vc st cl))
   case atStart => exact ⟨0, pc0, st0, cl0, _, _, Nat.zero_le _, by omega, rfl, hlp, HM⟩
   case round =>
    clear hlp HM
    obtain ⟨ii, pc, st, cl, vs, vc, hii, hgi, rfl, hlp, HM⟩ := hrel
    have HXa := Ak (HX2.out.below HM.out.b)
    have HCC := Ak (Kd.C_below HR0.out HXa.out.b)
    by_cases hlt : ii < N
    ·have hltz : decide ((ii : Int) < (N : Int)) = true := decide_eq_true (by omega)
     have hl1 := hlp.out
     rw [show N - ii = (N - (ii + 1)) + 1 by omega, impl_RunMachine.loop] at hl1
     obtain ⟨⟨how, pc', st', cl'⟩, hst, h2⟩ := Option.bind_eq_some_iff.1 hl1
     dsimp only at h2
     clear hl1 hlp HXa
     replace hst := Ak hst
     by_cases hh : how = 0
     ·rw [if_pos hh] at h2
      have hb0 : (how != 0) = false := bne_eq_false_iff_eq.mpr hh
      replace h2 := Ak h2
      clear hh
      have hk1 : ii + 1 ≤ N := hlt
      have hltN : (ii < N) = True := eq_true hlt
      go_wp2_with ((go_at_call 43; with_reducible refine (impl_step.calls0 k A0 c0 l0 gm pc _ _ st cl w2 _ HCC.out HM.out how pc' st' cl' hst.out).mono ?_; rintro e w6 ⟨rfl, v3, v4, hH⟩); replace hH := Ak hH)
      go_roundg (N - (ii + 1))
      case measure => omega
      case rel => exact ⟨ii + 1, pc', st', cl', _, _, by omega, by omega, by go_num, h2, hH⟩
     ·rw [if_neg hh] at h2
      have hb0 : (how != 0) = true := bne_iff_ne.mpr hh
      obtain ⟨rfl, rfl, rfl, rfl⟩ : pc' = r1 ∧ st' = r2 ∧ cl' = r3 ∧ how = r4 := by simpa using h2
      clear hh h2
      have hltN : (ii < N) = True := eq_true hlt
      go_wp2_with ((go_at_call 43; with_reducible refine (impl_step.calls0 k A0 c0 l0 gm pc _ _ st cl w2 _ HCC.out HM.out how pc' st' cl' hst.out).mono ?_; rintro e w6 ⟨rfl, v3, v4, hH⟩); obtain ⟨B3, d3, rfl⟩ := Kd.R_slice hH.s; obtain ⟨B4, d4, rfl⟩ := Kd.R_slice hH.c; have HX6 := Ak (HX2.out.below hH.b); obtain ⟨i0, i1, i2⟩ := impl_RunMachine.mcells hH; obtain ⟨o0, o1, o2, p0, p1, p2, q0, q1, q2⟩ := HX6.out.cells; replace hH := Ak hH)
      refine bodyPost_ret (results_ct rfl _ _ g4 28 #[.int .i64 pc', .slice B3 st'.length d3, .slice B4 cl'.length d4] (0, 0) _ rfl (HX6.out.out _ _ _) Try.underlying28 rfl (by kernel_rfl)) rfl ?_
      exact ⟨_, _, rfl, HX6.out.row _ _ _ hH.out.s hz2.out, HX6.out.row _ _ _ hH.out.c hz2.out, below_set (below_set (below_set HX6.out.b HX6.out.h4) HX6.out.h4) HX6.out.h4⟩
    ·have hltz : decide ((ii : Int) < (N : Int)) = false := decide_eq_false (by omega)
     have hl1 := hlp.out
     rw [show N - ii = 0 by omega, impl_RunMachine.loop] at hl1
     obtain ⟨rfl, rfl, rfl, rfl⟩ : pc = r1 ∧ st = r2 ∧ cl = r3 ∧ 5 = r4 := by simpa using hl1
     clear hl1 hlp
     have hltN : (ii < N) = False := eq_false (by omega)
     obtain ⟨B3, d3, rfl⟩ := Kd.R_slice HM.out.s
     obtain ⟨B4, d4, rfl⟩ := Kd.R_slice HM.out.c
     have HX6 := HXa
     have hH := HM
     obtain ⟨i0, i1, i2⟩ := impl_RunMachine.mcells HM.out
     obtain ⟨o0, o1, o2, p0, p1, p2, q0, q1, q2⟩ := HX6.out.cells
     go_wp2
     refine bodyPost_ret (results_ct rfl _ _ g4 28 #[.int .i64 pc, .slice B3 st.length d3, .slice B4 cl.length d4] (0, 0) _ rfl (HX6.out.out _ _ _) Try.underlying28 rfl (by kernel_rfl)) rfl ?_
     exact ⟨_, _, rfl, HX6.out.row _ _ _ hH.out.s hz2.out, HX6.out.row _ _ _ hH.out.c hz2.out, below_set (below_set (below_set HX6.out.b HX6.out.h4) HX6.out.h4) HX6.out.h4⟩

/-! ### laws_FnExactRunMachine: function 4 -/
/-- What the law holds: the arguments given to the program (ux; block g9), and its answer (block g10), behind the world wb. -/
structure laws_FnExactRunMachine.Cr (wb W : World) (g9 g10 : Nat) (ux : Value) (lx : List S48) (p9 : Int) (u9 v9 : Value) (s9 t9 : List Int) (p10 : Int) (u10 v10 : Value) (s10 t10 : List Int) : Prop where
 b : Below wb.heap.size wb W
 b9 : W.heap[g9]? = some (.cells #[.int .i64 p9, u9, v9] 28 (0, 0))
 b10 : W.heap[g10]? = some (.cells #[.int .i64 p10, u10, v10] 28 (0, 0))
 x : Kd.R k48 48 W wb.heap.size (fun k => some k = ux.ownBlock) ux lx
 r1 : Kd.R (Kd.int .i64) 3 W wb.heap.size (fun k => some k = u9.ownBlock) u9 s9
 r2 : Kd.R (Kd.int .i64) 3 W wb.heap.size (fun k => some k = v9.ownBlock) v9 t9
 r3 : Kd.R (Kd.int .i64) 3 W wb.heap.size (fun k => some k = u10.ownBlock) u10 s10
 r4 : Kd.R (Kd.int .i64) 3 W wb.heap.size (fun k => some k = v10.ownBlock) v10 t10
 d12 : ∀ k, some k = u9.ownBlock → ¬ some k = v9.ownBlock
 d13 : ∀ k, some k = u9.ownBlock → ¬ some k = u10.ownBlock
 d14 : ∀ k, some k = u9.ownBlock → ¬ some k = v10.ownBlock
 d23 : ∀ k, some k = v9.ownBlock → ¬ some k = u10.ownBlock
 d24 : ∀ k, some k = v9.ownBlock → ¬ some k = v10.ownBlock
 d34 : ∀ k, some k = u10.ownBlock → ¬ some k = v10.ownBlock
section
variable {wb W W' : World} {g9 g10 : Nat} {ux : Value} {lx lx' : List S48} {p9 : Int} {u9 v9 : Value} {s9 t9 s9' t9' : List Int} {p10 : Int} {u10 v10 : Value} {s10 t10 s10' t10' : List Int}
theorem laws_FnExactRunMachine.Cr.below (h : laws_FnExactRunMachine.Cr wb W g9 g10 ux lx p9 u9 v9 s9 t9 p10 u10 v10 s10 t10) (hb : Below W.heap.size W W') : laws_FnExactRunMachine.Cr wb W' g9 g10 ux lx p9 u9 v9 s9 t9 p10 u10 v10 s10 t10 :=
 ⟨below_step h.b hb, blk_below h.b9 hb, blk_below h.b10 hb, Kd.R_below h.x hb, Kd.R_below h.r1 hb, Kd.R_below h.r2 hb, Kd.R_below h.r3 hb, Kd.R_below h.r4 hb, h.d12, h.d13, h.d14, h.d23, h.d24, h.d34⟩
theorem laws_FnExactRunMachine.apart {v : Value} {s : List Int} {ok ok' : Nat → Prop} {b b' : Nat} (hx : Kd.R k48 48 W b ok ux lx) (hr : Kd.R (Kd.int .i64) 3 W b' ok' v s) : ∀ k, some k = v.ownBlock → ¬ some k = ux.ownBlock := by
 intro k e q
 obtain ⟨c1, e1⟩ := Kd.R_typed hx k q.symm
 obtain ⟨c2, e2⟩ := Kd.R_typed hr k e.symm
 rw [e1] at e2
 simp at e2
theorem laws_FnExactRunMachine.Cr.mark0 (h : laws_FnExactRunMachine.Cr wb W g9 g10 ux lx p9 u9 v9 s9 t9 p10 u10 v10 s10 t10) {ok : Nat → Prop} (hx : Kd.R k48 48 W' wb.heap.size ok ux lx') (hb : Below wb.heap.size wb W') (hk : Kept W W' (fun k => some k = ux.ownBlock)) : laws_FnExactRunMachine.Cr wb W' g9 g10 ux lx' p9 u9 v9 s9 t9 p10 u10 v10 s10 t10 :=
 ⟨hb, blk_kept h.b9 hk (Kd.R_ne h.x h.b9 (by decide)), blk_kept h.b10 hk (Kd.R_ne h.x h.b10 (by decide)), Kd.R_tight rfl hx, Kd.R_kept h.r1 hk (laws_FnExactRunMachine.apart h.x h.r1), Kd.R_kept h.r2 hk (laws_FnExactRunMachine.apart h.x h.r2), Kd.R_kept h.r3 hk (laws_FnExactRunMachine.apart h.x h.r3), Kd.R_kept h.r4 hk (laws_FnExactRunMachine.apart h.x h.r4), h.d12, h.d13, h.d14, h.d23, h.d24, h.d34⟩
theorem laws_FnExactRunMachine.Cr.mark9 (h : laws_FnExactRunMachine.Cr wb W g9 g10 ux lx p9 u9 v9 s9 t9 p10 u10 v10 s10 t10) {ok ok' : Nat → Prop} (h1 : Kd.R (Kd.int .i64) 3 W' wb.heap.size ok u9 s9') (h2 : Kd.R (Kd.int .i64) 3 W' wb.heap.size ok' v9 t9') (hb : Below wb.heap.size wb W') (hk : Kept W W' (fun k => some k = u9.ownBlock ∨ some k = v9.ownBlock)) : laws_FnExactRunMachine.Cr wb W' g9 g10 ux lx p9 u9 v9 s9' t9' p10 u10 v10 s10 t10 :=
 ⟨hb, blk_kept h.b9 hk (fun q => q.elim (Kd.R_ne h.r1 h.b9 (by decide)) (Kd.R_ne h.r2 h.b9 (by decide))), blk_kept h.b10 hk (fun q => q.elim (Kd.R_ne h.r1 h.b10 (by decide)) (Kd.R_ne h.r2 h.b10 (by decide))), Kd.R_kept h.x hk (fun k e q => q.elim (fun q => laws_FnExactRunMachine.apart h.x h.r1 k q e) (fun q => laws_FnExactRunMachine.apart h.x h.r2 k q e)), Kd.R_tight rfl h1, Kd.R_tight rfl h2, Kd.R_kept h.r3 hk (fun k e q => q.elim (fun q => h.d13 k q e) (fun q => h.d23 k q e)), Kd.R_kept h.r4 hk (fun k e q => q.elim (fun q => h.d14 k q e) (fun q => h.d24 k q e)), h.d12, h.d13, h.d14, h.d23, h.d24, h.d34⟩
theorem laws_FnExactRunMachine.Cr.mark10 (h : laws_FnExactRunMachine.Cr wb W g9 g10 ux lx p9 u9 v9 s9 t9 p10 u10 v10 s10 t10) {ok ok' : Nat → Prop} (h1 : Kd.R (Kd.int .i64) 3 W' wb.heap.size ok u10 s10') (h2 : Kd.R (Kd.int .i64) 3 W' wb.heap.size ok' v10 t10') (hb : Below wb.heap.size wb W') (hk : Kept W W' (fun k => some k = u10.ownBlock ∨ some k = v10.ownBlock)) : laws_FnExactRunMachine.Cr wb W' g9 g10 ux lx p9 u9 v9 s9 t9 p10 u10 v10 s10' t10' :=
 ⟨hb, blk_kept h.b9 hk (fun q => q.elim (Kd.R_ne h.r3 h.b9 (by decide)) (Kd.R_ne h.r4 h.b9 (by decide))), blk_kept h.b10 hk (fun q => q.elim (Kd.R_ne h.r3 h.b10 (by decide)) (Kd.R_ne h.r4 h.b10 (by decide))), Kd.R_kept h.x hk (fun k e q => q.elim (fun q => laws_FnExactRunMachine.apart h.x h.r3 k q e) (fun q => laws_FnExactRunMachine.apart h.x h.r4 k q e)), Kd.R_kept h.r1 hk (fun k e q => q.elim (fun q => h.d13 k e q) (fun q => h.d14 k e q)), Kd.R_kept h.r2 hk (fun k e q => q.elim (fun q => h.d23 k e q) (fun q => h.d24 k e q)), Kd.R_tight rfl h1, Kd.R_tight rfl h2, h.d12, h.d13, h.d14, h.d23, h.d24, h.d34⟩
/-- At the start: the code's row (made from wb to W1), the machine's (from W1 to W2), its variable, the answer (from W3 to W4), its variable. -/
theorem laws_FnExactRunMachine.Cr.start {W1 W2 W4 : World} (hx : Kd.R k48 48 W1 wb.heap.size (fun _ => True) ux lx) (hb1 : Below wb.heap.size wb W1) (h1 : Kd.R (Kd.int .i64) 3 W2 W1.heap.size (fun k => some k ≠ v9.ownBlock) u9 s9) (h2 : Kd.R (Kd.int .i64) 3 W2 W1.heap.size (fun k => some k ≠ u9.ownBlock) v9 t9) (hb2 : Below W1.heap.size W1 W2)
  (h3 : Kd.R (Kd.int .i64) 3 W4 (W2.alloc (.cells #[.int .i64 p9, u9, v9] 28)).heap.size (fun k => some k ≠ v10.ownBlock) u10 s10) (h4 : Kd.R (Kd.int .i64) 3 W4 (W2.alloc (.cells #[.int .i64 p9, u9, v9] 28)).heap.size (fun k => some k ≠ u10.ownBlock) v10 t10) (hb3 : Below (W2.alloc (.cells #[.int .i64 p9, u9, v9] 28)).heap.size (W2.alloc (.cells #[.int .i64 p9, u9, v9] 28)) W4) :
  laws_FnExactRunMachine.Cr wb (W4.alloc (.cells #[.int .i64 p10, u10, v10] 28)) W2.heap.size W4.heap.size ux lx p9 u9 v9 s9 t9 p10 u10 v10 s10 t10 := by
 have z1 : wb.heap.size ≤ W1.heap.size := hb1.size
 have z2 : W1.heap.size ≤ W2.heap.size := hb2.size
 have z3 : (W2.alloc (.cells #[.int .i64 p9, u9, v9] 28)).heap.size = W2.heap.size + 1 := by simp
 have al : Below W4.heap.size W4 (W4.alloc (.cells #[.int .i64 p10, u10, v10] 28)) := below_alloc (Below.refl _ _) _
 have a2 : Below W2.heap.size W2 (W2.alloc (.cells #[.int .i64 p9, u9, v9] 28)) := below_alloc (Below.refl _ _) _
 have far : ∀ {a b : Value} {xs ys : List Int} {ok ok' : Nat → Prop}, Kd.R (Kd.int .i64) 3 W2 W1.heap.size ok a xs → Kd.R (Kd.int .i64) 3 W4 (W2.alloc (.cells #[.int .i64 p9, u9, v9] 28)).heap.size ok' b ys → ∀ k, some k = a.ownBlock → ¬ some k = b.ownBlock := by
  intro a b xs ys ok ok' ha hb k e q
  have := Kd.R_lt ha k e.symm
  have := Kd.R_base hb k q.symm
  omega
 exact ⟨below_step (below_step (below_step (below_step hb1 hb2) a2) hb3) al, blk_below (blk_below (blk_new _ _) hb3) al, blk_new _ _, Kd.R_tight rfl (Kd.R_below (Kd.R_below (Kd.R_below (Kd.R_below hx hb2) a2) hb3) al),
  Kd.R_tight rfl (Kd.R_below (Kd.R_below (Kd.R_below (Kd.R_lower h1 z1) a2) hb3) al), Kd.R_tight rfl (Kd.R_below (Kd.R_below (Kd.R_below (Kd.R_lower h2 z1) a2) hb3) al), Kd.R_tight rfl (Kd.R_below (Kd.R_lower h3 (by omega)) al), Kd.R_tight rfl (Kd.R_below (Kd.R_lower h4 (by omega)) al),
  fun k e q => h1.1 k e.symm q, far h1 h3, far h1 h4, far h2 h3, far h2 h4, fun k e q => h3.1 k e.symm q⟩
theorem laws_FnExactRunMachine.Cr.d21 (h : laws_FnExactRunMachine.Cr wb W g9 g10 ux lx p9 u9 v9 s9 t9 p10 u10 v10 s10 t10) : ∀ k, some k = v9.ownBlock → ¬ some k = u9.ownBlock := fun k e q => h.d12 k q e
theorem laws_FnExactRunMachine.Cr.d43 (h : laws_FnExactRunMachine.Cr wb W g9 g10 ux lx p9 u9 v9 s9 t9 p10 u10 v10 s10 t10) : ∀ k, some k = v10.ownBlock → ¬ some k = u10.ownBlock := fun k e q => h.d34 k q e
theorem laws_FnExactRunMachine.Cr.cells (h : laws_FnExactRunMachine.Cr wb W g9 g10 ux lx p9 u9 v9 s9 t9 p10 u10 v10 s10 t10) : W.cell? ⟨g9, 0, none⟩ = some (.int .i64 p9) ∧ W.cell? ⟨g9, 1, none⟩ = some u9 ∧ W.cell? ⟨g9, 2, none⟩ = some v9 ∧ W.cell? ⟨g10, 0, none⟩ = some (.int .i64 p10) ∧ W.cell? ⟨g10, 1, none⟩ = some u10 ∧ W.cell? ⟨g10, 2, none⟩ = some v10 :=
 ⟨(blk_cell h.b9 0).trans rfl, (blk_cell h.b9 1).trans rfl, (blk_cell h.b9 2).trans rfl, (blk_cell h.b10 0).trans rfl, (blk_cell h.b10 1).trans rfl, (blk_cell h.b10 2).trans rfl⟩
end
/-- What the law holds of its argument's variable (block g3) and of the reference's answer (block g6), at the world wb. -/
structure laws_FnExactRunMachine.Bs (w wb : World) (g3 g6 : Nat) (a : Int) (u v : Value) (p0 : Int) (B1 : Option Addr) (e1 : Nat) (s0 : List Int) (B2 : Option Addr) (e2 : Nat) (t0 : List Int) : Prop where
 b : Below w.heap.size w wb
 b3 : wb.heap[g3]? = some (.cells #[.int .i64 a, u, v] 25 (0, 0))
 b6 : wb.heap[g6]? = some (.cells #[.int .i64 p0, .slice B1 s0.length e1, .slice B2 t0.length e2] 28 (0, 0))
 c1 : Kd.C (Kd.int .i64) wb B1 s0.length s0
 l1 : s0.length ≤ e1
 c2 : Kd.C (Kd.int .i64) wb B2 t0.length t0
 l2 : t0.length ≤ e2
section
variable {w wb W : World} {g3 g6 : Nat} {a : Int} {u v : Value} {p0 : Int} {B1 : Option Addr} {e1 : Nat} {s0 : List Int} {B2 : Option Addr} {e2 : Nat} {t0 : List Int} {b1 b2 : Nat} {ok1 ok2 : Nat → Prop} {z0 z1 z2 : Value}
theorem laws_FnExactRunMachine.Bs.cells (h : laws_FnExactRunMachine.Bs w wb g3 g6 a u v p0 B1 e1 s0 B2 e2 t0) (b : Below wb.heap.size wb W) : W.cell? ⟨g3, 0, none⟩ = some (.int .i64 a) ∧ W.cell? ⟨g3, 1, none⟩ = some u ∧ W.cell? ⟨g3, 2, none⟩ = some v ∧ W.cell? ⟨g6, 0, none⟩ = some (.int .i64 p0) ∧ W.cell? ⟨g6, 1, none⟩ = some (.slice B1 s0.length e1) ∧ W.cell? ⟨g6, 2, none⟩ = some (.slice B2 t0.length e2) :=
 ⟨(blk_cell (blk_below h.b3 b) 0).trans rfl, (blk_cell (blk_below h.b3 b) 1).trans rfl, (blk_cell (blk_below h.b3 b) 2).trans rfl, (blk_cell (blk_below h.b6 b) 0).trans rfl, (blk_cell (blk_below h.b6 b) 1).trans rfl, (blk_cell (blk_below h.b6 b) 2).trans rfl⟩
theorem laws_FnExactRunMachine.Bs.drew (h : laws_FnExactRunMachine.Bs w wb g3 g6 a u v p0 B1 e1 s0 B2 e2 t0) : laws_FnExactRunMachine.Bs w wb.drew g3 g6 a u v p0 B1 e1 s0 B2 e2 t0 := ⟨below_drew1 h.b, blk_drew h.b3, blk_drew h.b6, Kd.C_below h.c1 (below_drew1 (Below.refl _ _)), h.l1, Kd.C_below h.c2 (below_drew1 (Below.refl _ _)), h.l2⟩
/-- A box that is filled where it is made. -/
theorem laws_FnExactRunMachine.Bs.fresh (h1 : Kd.R (Kd.int .i64) 3 W b1 ok1 (.slice B1 s0.length e1) s0) (h2 : Kd.R (Kd.int .i64) 3 W b2 ok2 (.slice B2 t0.length e2) t0) (hb : Below w.heap.size w W) (h3 : W.heap[g3]? = some (.cells #[.int .i64 a, u, v] 25 (0, 0))) :
  laws_FnExactRunMachine.Bs w (W.alloc (.cells #[.int .i64 p0, .slice B1 s0.length e1, .slice B2 t0.length e2] 28)) g3 W.heap.size a u v p0 B1 e1 s0 B2 e2 t0 := by
 have al := below_alloc (Below.refl W.heap.size W) (.cells #[.int .i64 p0, .slice B1 s0.length e1, .slice B2 t0.length e2] 28)
 exact ⟨below_step hb al, blk_below h3 al, blk_new _ _, Kd.C_below (Kd.R_reads' h1).2.2 al, (Kd.R_reads' h1).2.1, Kd.C_below (Kd.R_reads' h2).2.2 al, (Kd.R_reads' h2).2.1⟩
/-- A box that was made before, filled cell by cell. -/
theorem laws_FnExactRunMachine.Bs.filled (h1 : Kd.R (Kd.int .i64) 3 W b1 ok1 (.slice B1 s0.length e1) s0) (h2 : Kd.R (Kd.int .i64) 3 W b2 ok2 (.slice B2 t0.length e2) t0) (hb : Below w.heap.size w W) (hg : w.heap.size ≤ g6) (h6 : W.heap[g6]? = some (.cells #[z0, z1, z2] 28 (0, 0))) (h3 : W.heap[g3]? = some (.cells #[.int .i64 a, u, v] 25 (0, 0))) :
  laws_FnExactRunMachine.Bs w (((W.setCell ⟨g6, 0, none⟩ (.int .i64 p0)).setCell ⟨g6, 1, none⟩ (.slice B1 s0.length e1)).setCell ⟨g6, 2, none⟩ (.slice B2 t0.length e2)) g3 g6 a u v p0 B1 e1 s0 B2 e2 t0 := by
 have hne : g3 ≠ g6 := fun e => by subst e; rw [h3] at h6; injection h6 with h6; injection h6 with _ h6; exact absurd h6 (by decide)
 have ht : ∀ q, q ∈ 3 :: (Kd.int .i64).E → q ≠ 28 := by intro q hq; simp [Kd.int, Kd.scalar] at hq; omega
 have k1 := blk_set h6 0 (.int .i64 p0)
 have k2 := blk_set k1 1 (.slice B1 s0.length e1)
 have k3 := blk_set k2 2 (.slice B2 t0.length e2)
 have r1 := Kd.R_set (Kd.R_set (Kd.R_set h1 h6 ht 0 (.int .i64 p0)) k1 ht 1 (.slice B1 s0.length e1)) k2 ht 2 (.slice B2 t0.length e2)
 have r2 := Kd.R_set (Kd.R_set (Kd.R_set h2 h6 ht 0 (.int .i64 p0)) k1 ht 1 (.slice B1 s0.length e1)) k2 ht 2 (.slice B2 t0.length e2)
 exact ⟨((hb.setCell (p := ⟨g6, 0, none⟩) hg _).setCell (p := ⟨g6, 1, none⟩) hg _).setCell (p := ⟨g6, 2, none⟩) hg _, blk_far (blk_far (blk_far h3 hne _) hne _) hne _, k3, (Kd.R_reads' r1).2.2, (Kd.R_reads' r1).2.1, (Kd.R_reads' r2).2.2, (Kd.R_reads' r2).2.1⟩
end
def laws_FnExactRunMachine.tail (k : Nat) (c : List S48) (m : Int × List Int × List Int) (W0 G0 : Int × List Int × List Int × Int) : Option Bool := if G0.2.2.2 = W0.2.2.2 then (laws_eqMachine.f k G0.1 G0.2.1 G0.2.2.1 W0.1 W0.2.1 W0.2.2.1).bind fun t1 => (laws_eqOpS.f k c c).bind fun t2 => (laws_eqMachine.f k m.1 m.2.1 m.2.2 m.1 m.2.1 m.2.2).bind fun t3 => (laws_markOpS.f k c 1).bind fun q1 => (laws_markMachine.f k m.1 m.2.1 m.2.2 q1.1).bind fun q2 => (laws_markMachine.f k G0.1 G0.2.1 G0.2.2.1 1).bind fun q3 => (laws_heldMachine.f k G0.1 q3.2.1 q3.2.2 1).bind fun q => if t1 = true ∧ t2 = true ∧ t3 = true ∧ 0 ≤ q2.1 ∧ 0 ≤ q ∧ q = q3.1 then some true else none else none
def laws_FnExactRunMachine.f (k : Nat) (l0 : List S65) (a1_0 : Int) (l1_1 l1_2 : List Int) (a2 : Int) : Option Bool := (laws_szOpS.f l0 1048576).bind fun z => if z < 0 then some true else (laws_szMachine.f a1_0 l1_1 l1_2 z).bind fun z2 => if z2 < 0 then some true else (laws_toOpS.f k l0).bind fun c => (laws_toMachine.f k a1_0 l1_1 l1_2).bind fun m => (spec_RunMachine.f k c m.1 m.2.1 m.2.2 a2).bind fun W0 => (impl_RunMachine.f k c m.1 m.2.1 m.2.2 a2).bind fun G0 => laws_FnExactRunMachine.tail k c m W0 G0
theorem laws_FnExactRunMachine.mono : ∀ a b c d e k, LeO (laws_FnExactRunMachine.f k a b c d e) (laws_FnExactRunMachine.f (k + 1) a b c d e) := fun a b c d e k => LeO.bind (LeO.refl _) fun z => LeO.ite (LeO.refl _) (LeO.bind (LeO.refl _) fun z2 => LeO.ite (LeO.refl _) (LeO.bind (laws_toOpS.mono _ k) fun c => LeO.bind (laws_toMachine.mono _ _ _ k) fun m => LeO.bind (spec_RunMachine.mono _ _ _ _ _ k) fun W0 => LeO.bind (impl_RunMachine.mono _ _ _ _ _ k) fun G0 => LeO.ite (LeO.bind (laws_eqMachine.mono _ _ _ _ _ _ k) fun t1 => LeO.bind (laws_eqOpS.mono _ _ k) fun t2 => LeO.bind (laws_eqMachine.mono _ _ _ _ _ _ k) fun t3 => LeO.bind (laws_markOpS.mono _ _ k) fun q1 => LeO.bind (laws_markMachine.mono _ _ _ _ k) fun q2 => LeO.bind (laws_markMachine.mono _ _ _ _ k) fun q3 => LeO.bind (laws_heldMachine.mono _ _ _ _ k) fun q => LeO.refl _) (LeO.refl _)))
theorem laws_FnExactRunMachine.calls (k : Nat) (A0 : Option Addr) (c0 : Nat) (l0 : List (S65)) (a1_0 : Int) (A1_1 : Option Addr) (c1_1 : Nat) (l1_1 : List Int) (A1_2 : Option Addr) (c1_2 : Nat) (l1_2 : List Int) (a2 : Int) (r : Bool) (w : World) (hr0 : Kd.C k65 w A0 l0.length l0) (hc0 : l0.length ≤ c0) (hr1_1 : Kd.C (Kd.int .i64) w A1_1 l1_1.length l1_1) (hc1_1 : l1_1.length ≤ c1_1) (hr1_2 : Kd.C (Kd.int .i64) w A1_2 l1_2.length l1_2) (hc1_2 : l1_2.length ≤ c1_2) (h : laws_FnExactRunMachine.f k l0 a1_0 l1_1 l1_2 a2 = some r) :
  Calls Try.prog 4 #[.slice A0 l0.length c0, .agg #[.int .i64 a1_0, .slice A1_1 l1_1.length c1_1, .slice A1_2 l1_2.length c1_2], .int .i64 a2] w fun e w' => e = .returned (.bool r) ∧ Below w.heap.size w w' := by
 unfold laws_FnExactRunMachine.f at h
 obtain ⟨z, hz, h1⟩ := Option.bind_eq_some_iff.1 h
 clear h
 have HR0 := Ak hr0
 have HR1 := Ak hr1_1
 have HR2 := Ak hr1_2
 have HC0 := Ak hc0
 have HC1 := Ak hc1_1
 have HC2 := Ak hc1_2
 replace hz := Ak hz
 clear hr0 hr1_1 hr1_2 hc0 hc1_1 hc1_2
 by_cases c1 : z < 0
 ·rw [if_pos c1] at h1
  obtain rfl := Option.some.inj h1
  have b1 : decide (z < 0) = true := decide_eq_true c1
  clear c1 h1
  go_enter Try.func4, Try.ntmps4
  go_upto_region 1 with fail
  have HB0 := Ak (below_alloc (Below.refl w.heap.size w) (.cells #[.int .i64 a1_0, .slice A1_1 l1_1.length c1_1, .slice A1_2 l1_2.length c1_2] 25))
  have HG3 := Ak (blk_new w (.cells #[.int .i64 a1_0, .slice A1_1 l1_1.length c1_1, .slice A1_2 l1_2.length c1_2] 25))
  generalize w.alloc (.cells #[.int .i64 a1_0, .slice A1_1 l1_1.length c1_1, .slice A1_2 l1_2.length c1_2] 25) = W0 at HB0 HG3 ⊢
  obtain ⟨g3, hg3⟩ : ∃ g, g = w.heap.size := ⟨_, rfl⟩
  rw [← hg3] at HG3 ⊢
  replace hg3 := Ak hg3
  go_wp2_with ((go_at_call 8; with_reducible refine (laws_szOpS.calls A0 c0 l0 1048576 z _ (Kd.C_below HR0.out HB0.out) HC0.out hz.out).mono ?_; rintro e w1 ⟨rfl, hd⟩); have HB1 := Ak (below_step HB0.out hd.below); have HG1 := Ak (blk_below HG3.out hd.below); have m0 : w1.cell? ⟨g3, 0, none⟩ = some (.int .i64 a1_0) := (blk_cell HG1.out 0).trans rfl; have m1 : w1.cell? ⟨g3, 1, none⟩ = some (.slice A1_1 l1_1.length c1_1) := (blk_cell HG1.out 1).trans rfl; have m2 : w1.cell? ⟨g3, 2, none⟩ = some (.slice A1_2 l1_2.length c1_2) := (blk_cell HG1.out 2).trans rfl; clear hd)
  go_ret
  exact ⟨rfl, HB1.out⟩
 rw [if_neg c1] at h1
 have b1 : decide (z < 0) = false := decide_eq_false c1
 obtain ⟨z2, hz2, h⟩ := Option.bind_eq_some_iff.1 h1
 clear h1 c1
 replace hz2 := Ak hz2
 by_cases c1 : z2 < 0
 ·rw [if_pos c1] at h
  obtain rfl := Option.some.inj h
  have b2 : decide (z2 < 0) = true := decide_eq_true c1
  clear c1 h
  go_enter Try.func4, Try.ntmps4
  go_upto_region 1 with fail
  have HB0 := Ak (below_alloc (Below.refl w.heap.size w) (.cells #[.int .i64 a1_0, .slice A1_1 l1_1.length c1_1, .slice A1_2 l1_2.length c1_2] 25))
  have HG3 := Ak (blk_new w (.cells #[.int .i64 a1_0, .slice A1_1 l1_1.length c1_1, .slice A1_2 l1_2.length c1_2] 25))
  generalize w.alloc (.cells #[.int .i64 a1_0, .slice A1_1 l1_1.length c1_1, .slice A1_2 l1_2.length c1_2] 25) = W0 at HB0 HG3 ⊢
  obtain ⟨g3, hg3⟩ : ∃ g, g = w.heap.size := ⟨_, rfl⟩
  rw [← hg3] at HG3 ⊢
  replace hg3 := Ak hg3
  go_wp2_with (first | ((go_at_call 8; with_reducible refine (laws_szOpS.calls A0 c0 l0 1048576 z _ (Kd.C_below HR0.out HB0.out) HC0.out hz.out).mono ?_; rintro e w1 ⟨rfl, hd⟩); have HB1 := Ak (below_step HB0.out hd.below); have HG1 := Ak (blk_below HG3.out hd.below); have m0 : w1.cell? ⟨g3, 0, none⟩ = some (.int .i64 a1_0) := (blk_cell HG1.out 0).trans rfl; have m1 : w1.cell? ⟨g3, 1, none⟩ = some (.slice A1_1 l1_1.length c1_1) := (blk_cell HG1.out 1).trans rfl; have m2 : w1.cell? ⟨g3, 2, none⟩ = some (.slice A1_2 l1_2.length c1_2) := (blk_cell HG1.out 2).trans rfl; clear hd) | ((go_at_call 9; with_reducible refine (laws_szMachine.calls a1_0 A1_1 c1_1 l1_1 A1_2 c1_2 l1_2 z z2 _ (Kd.C_below HR1.out HB1.out) HC1.out (Kd.C_below HR2.out HB1.out) HC2.out hz2.out).mono ?_; rintro e w2 ⟨rfl, hd⟩); clear m0 m1 m2; have HB2 := Ak (below_step HB1.out hd); have HG2 := Ak (blk_below HG1.out hd); have m0 : w2.cell? ⟨g3, 0, none⟩ = some (.int .i64 a1_0) := (blk_cell HG2.out 0).trans rfl; have m1 : w2.cell? ⟨g3, 1, none⟩ = some (.slice A1_1 l1_1.length c1_1) := (blk_cell HG2.out 1).trans rfl; have m2 : w2.cell? ⟨g3, 2, none⟩ = some (.slice A1_2 l1_2.length c1_2) := (blk_cell HG2.out 2).trans rfl; clear hd))
  go_ret
  exact ⟨rfl, HB2.out⟩
 rw [if_neg c1] at h
 have b2 : decide (z2 < 0) = false := decide_eq_false c1
 clear c1
 obtain ⟨c, hcc, h1⟩ := Option.bind_eq_some_iff.1 h
 obtain ⟨⟨pm, sm, tm⟩, hmm, h2⟩ := Option.bind_eq_some_iff.1 h1
 obtain ⟨⟨p0, s0, t0, how⟩, hsp, h3⟩ := Option.bind_eq_some_iff.1 h2
 obtain ⟨⟨pg, sg, tg, how2⟩, him, h4⟩ := Option.bind_eq_some_iff.1 h3
 clear h h1 h2 h3
 unfold laws_FnExactRunMachine.tail at h4
 dsimp only at h4 hsp him
 by_cases ch : how2 = how
 case neg => rw [if_neg ch] at h4; exact absurd h4 (by simp)
 rw [if_pos ch] at h4
 subst ch
 obtain ⟨t1, ht1, h5⟩ := Option.bind_eq_some_iff.1 h4
 obtain ⟨t2, ht2, h6⟩ := Option.bind_eq_some_iff.1 h5
 obtain ⟨t3, ht3, h7⟩ := Option.bind_eq_some_iff.1 h6
 obtain ⟨⟨q1, cm⟩, hq1, h8⟩ := Option.bind_eq_some_iff.1 h7
 obtain ⟨⟨q2, sm', tm'⟩, hq2, h9⟩ := Option.bind_eq_some_iff.1 h8
 obtain ⟨⟨q3, sg', tg'⟩, hq3, h10⟩ := Option.bind_eq_some_iff.1 h9
 obtain ⟨q, hq, h11⟩ := Option.bind_eq_some_iff.1 h10
 clear h4 h5 h6 h7 h8 h9 h10
 dsimp only at hq2 hq3 hq h11
 by_cases cq : t1 = true ∧ t2 = true ∧ t3 = true ∧ 0 ≤ q2 ∧ 0 ≤ q ∧ q = q3
 case neg => rw [if_neg cq] at h11; exact absurd h11 (by simp)
 rw [if_pos cq] at h11
 obtain rfl := Option.some.inj h11
 obtain ⟨rfl, rfl, rfl, hq20, hq0, rfl⟩ := cq
 clear h11
 have b3 : decide (q2 < 0) = false := decide_eq_false (by omega)
 have b4 : decide (q < 0) = false := decide_eq_false (by omega)
 have b5 : (q != q) = false := by simp
 have b6 : (how2 != how2) = false := by simp
 clear hq20 hq0
 replace hcc := Ak hcc
 replace hmm := Ak hmm
 replace hsp := Ak hsp
 replace him := Ak him
 replace ht1 := Ak ht1
 replace ht2 := Ak ht2
 replace ht3 := Ak ht3
 replace hq1 := Ak hq1
 replace hq2 := Ak hq2
 replace hq3 := Ak hq3
 replace hq := Ak hq
 go_enter Try.func4, Try.ntmps4
 go_upto_region 1 with fail
 have HB0 := Ak (below_alloc (Below.refl w.heap.size w) (.cells #[.int .i64 a1_0, .slice A1_1 l1_1.length c1_1, .slice A1_2 l1_2.length c1_2] 25))
 have HG3 := Ak (blk_new w (.cells #[.int .i64 a1_0, .slice A1_1 l1_1.length c1_1, .slice A1_2 l1_2.length c1_2] 25))
 generalize w.alloc (.cells #[.int .i64 a1_0, .slice A1_1 l1_1.length c1_1, .slice A1_2 l1_2.length c1_2] 25) = W0 at HB0 HG3 ⊢
 obtain ⟨g3, hg3⟩ : ∃ g, g = w.heap.size := ⟨_, rfl⟩
 rw [← hg3] at HG3 ⊢
 replace hg3 := Ak hg3
 go_upto_region 8 with (first | ((go_at_call 8; with_reducible refine (laws_szOpS.calls A0 c0 l0 1048576 z _ (Kd.C_below HR0.out HB0.out) HC0.out hz.out).mono ?_; rintro e w1 ⟨rfl, hd⟩); have HB1 := Ak (below_step HB0.out hd.below); have HG1 := Ak (blk_below HG3.out hd.below); have m0 : w1.cell? ⟨g3, 0, none⟩ = some (.int .i64 a1_0) := (blk_cell HG1.out 0).trans rfl; have m1 : w1.cell? ⟨g3, 1, none⟩ = some (.slice A1_1 l1_1.length c1_1) := (blk_cell HG1.out 1).trans rfl; have m2 : w1.cell? ⟨g3, 2, none⟩ = some (.slice A1_2 l1_2.length c1_2) := (blk_cell HG1.out 2).trans rfl; clear hd) | ((go_at_call 9; with_reducible refine (laws_szMachine.calls a1_0 A1_1 c1_1 l1_1 A1_2 c1_2 l1_2 z z2 _ (Kd.C_below HR1.out HB1.out) HC1.out (Kd.C_below HR2.out HB1.out) HC2.out hz2.out).mono ?_; rintro e w2 ⟨rfl, hd⟩); clear m0 m1 m2; have HB2 := Ak (below_step HB1.out hd); have HG2 := Ak (blk_below HG1.out hd); have m0 : w2.cell? ⟨g3, 0, none⟩ = some (.int .i64 a1_0) := (blk_cell HG2.out 0).trans rfl; have m1 : w2.cell? ⟨g3, 1, none⟩ = some (.slice A1_1 l1_1.length c1_1) := (blk_cell HG2.out 1).trans rfl; have m2 : w2.cell? ⟨g3, 2, none⟩ = some (.slice A1_2 l1_2.length c1_2) := (blk_cell HG2.out 2).trans rfl; clear hd))
 go_cut [8, 9] (fun v6 v7 w' => ∃ (g6 : Nat) (B1 : Option Addr) (e1 : Nat) (B2 : Option Addr) (e2 : Nat), v6 = .pointer (some ⟨g6, 0, none⟩) ∧ v7 = .int .i64 how2 ∧ laws_FnExactRunMachine.Bs w w' g3 g6 a1_0 (.slice A1_1 l1_1.length c1_1) (.slice A1_2 l1_2.length c1_2) p0 B1 e1 s0 B2 e2 t0)
 case first =>
  go_region_held3 (fun w' => w'.cell? ⟨g3, 0, none⟩ = some (.int .i64 a1_0) ∧ w'.cell? ⟨g3, 1, none⟩ = some (.slice A1_1 l1_1.length c1_1) ∧ w'.cell? ⟨g3, 2, none⟩ = some (.slice A1_2 l1_2.length c1_2)) (first | assumption | exact ⟨by assumption, by assumption, by assumption⟩ | go_keep) ((first | ((go_at_call 19; have HBc := HB4.out; have HGc := HG5.out; have HGa := HG7.out; have Xa := HX4.out; have Ha := H1.out; have Hb := H2.out; with_reducible refine (spec_RunMachine.calls k Aq cq c pm Q1 j1 sm Q2 j2 tm a2 p0 s0 t0 how2 _ (Kd.R_reads' Xa).2.2 (Kd.R_reads' Xa).2.1 (Kd.R_reads' Ha).2.2 (Kd.R_reads' Ha).2.1 (Kd.R_reads' Hb).2.2 (Kd.R_reads' Hb).2.1 hsp.out).mono ?_; rintro e w5 ⟨v3, v4, rfl, h3, h4, hd⟩); obtain ⟨B1, e1, rfl⟩ := Kd.R_slice h3; obtain ⟨B2, e2, rfl⟩ := Kd.R_slice h4; have H3 := Ak h3; have H4 := Ak h4; have HB5 := Ak (below_step HBc hd); have HG6 := Ak (blk_below HGc hd); have HG7 := Ak (blk_below HGa hd); clear HGa; have m0 : w5.cell? ⟨g3, 0, none⟩ = some (.int .i64 a1_0) := (blk_cell HG6.out 0).trans rfl; have m1 : w5.cell? ⟨g3, 1, none⟩ = some (.slice A1_1 l1_1.length c1_1) := (blk_cell HG6.out 1).trans rfl; have m2 : w5.cell? ⟨g3, 2, none⟩ = some (.slice A1_2 l1_2.length c1_2) := (blk_cell HG6.out 2).trans rfl; have f0 := blk_frozen HG7.out 0; have f1 := blk_frozen HG7.out 1; have f2 := blk_frozen HG7.out 2; have n0 : w5.cell? ⟨g6, 0, none⟩ = some (.int .i64 0) := (blk_cell HG7.out 0).trans rfl; have n1 : w5.cell? ⟨g6, 1, none⟩ = some (.slice none 0 0) := (blk_cell HG7.out 1).trans rfl; have n2 : w5.cell? ⟨g6, 2, none⟩ = some (.slice none 0 0) := (blk_cell HG7.out 2).trans rfl; clear h3 h4 hd HBc HGc Xa Ha Hb) | ((go_at_call 19; have hBa := below_alloc (Below.refl w4.heap.size w4) (.cells #[.int .i64 0, .slice none 0 0, .slice none 0 0] 28); have HGa := blk_new w4 (.cells #[.int .i64 0, .slice none 0 0, .slice none 0 0] 28); have HBc := below_step HB4.out hBa; have HGc := blk_below HG5.out hBa; have k1 : w4.heap.size ≠ g3 := World.new_ne w4 _ m0; have k2 := k1.symm; have Xa := Kd.R_below HX4.out hBa; have Ha := Kd.R_below H1.out hBa; have Hb := Kd.R_below H2.out hBa; with_reducible refine (spec_RunMachine.calls k Aq cq c pm Q1 j1 sm Q2 j2 tm a2 p0 s0 t0 how2 (w4.alloc _) (Kd.R_reads' Xa).2.2 (Kd.R_reads' Xa).2.1 (Kd.R_reads' Ha).2.2 (Kd.R_reads' Ha).2.1 (Kd.R_reads' Hb).2.2 (Kd.R_reads' Hb).2.1 hsp.out).mono ?_; rintro e w5 ⟨v3, v4, rfl, h3, h4, hd⟩); obtain ⟨B1, e1, rfl⟩ := Kd.R_slice h3; obtain ⟨B2, e2, rfl⟩ := Kd.R_slice h4; have H3 := Ak h3; have H4 := Ak h4; have HB5 := Ak (below_step HBc hd); have HG6 := Ak (blk_below HGc hd); have HG7 := Ak (blk_below HGa hd); obtain ⟨g6, hg6⟩ : ∃ g, g = w4.heap.size := ⟨_, rfl⟩; have hge := Ak (Nat.le_trans (HB4.out).size (Nat.le_of_eq hg6.symm)); rw [← hg6] at HG7 k1 k2 ⊢; replace hg6 := Ak hg6; clear hBa HGa; have m0 : w5.cell? ⟨g3, 0, none⟩ = some (.int .i64 a1_0) := (blk_cell HG6.out 0).trans rfl; have m1 : w5.cell? ⟨g3, 1, none⟩ = some (.slice A1_1 l1_1.length c1_1) := (blk_cell HG6.out 1).trans rfl; have m2 : w5.cell? ⟨g3, 2, none⟩ = some (.slice A1_2 l1_2.length c1_2) := (blk_cell HG6.out 2).trans rfl; have f0 := blk_frozen HG7.out 0; have f1 := blk_frozen HG7.out 1; have f2 := blk_frozen HG7.out 2; have n0 : w5.cell? ⟨g6, 0, none⟩ = some (.int .i64 0) := (blk_cell HG7.out 0).trans rfl; have n1 : w5.cell? ⟨g6, 1, none⟩ = some (.slice none 0 0) := (blk_cell HG7.out 1).trans rfl; have n2 : w5.cell? ⟨g6, 2, none⟩ = some (.slice none 0 0) := (blk_cell HG7.out 2).trans rfl; clear h3 h4 hd HBc HGc Xa Ha Hb) | ((go_at_call 19; have HBc := HB4.out; have HGc := HG5.out; have Xa := HX4.out; have Ha := H1.out; have Hb := H2.out; with_reducible refine (spec_RunMachine.calls k Aq cq c pm Q1 j1 sm Q2 j2 tm a2 p0 s0 t0 how2 _ (Kd.R_reads' Xa).2.2 (Kd.R_reads' Xa).2.1 (Kd.R_reads' Ha).2.2 (Kd.R_reads' Ha).2.1 (Kd.R_reads' Hb).2.2 (Kd.R_reads' Hb).2.1 hsp.out).mono ?_; rintro e w5 ⟨v3, v4, rfl, h3, h4, hd⟩); obtain ⟨B1, e1, rfl⟩ := Kd.R_slice h3; obtain ⟨B2, e2, rfl⟩ := Kd.R_slice h4; have H3 := Ak h3; have H4 := Ak h4; have HB5 := Ak (below_step HBc hd); have HG6 := Ak (blk_below HGc hd); have m0 : w5.cell? ⟨g3, 0, none⟩ = some (.int .i64 a1_0) := (blk_cell HG6.out 0).trans rfl; have m1 : w5.cell? ⟨g3, 1, none⟩ = some (.slice A1_1 l1_1.length c1_1) := (blk_cell HG6.out 1).trans rfl; have m2 : w5.cell? ⟨g3, 2, none⟩ = some (.slice A1_2 l1_2.length c1_2) := (blk_cell HG6.out 2).trans rfl; have k1 : w5.heap.size ≠ g3 := World.new_ne w5 _ m0; have k2 := k1.symm; clear h3 h4 hd HBc HGc Xa Ha Hb) | ((go_at_call 12; have HBc := HB3.out; have HGc := HG4.out; have HGa := HG7.out; have Xa := HX3.out; with_reducible refine (laws_toMachine.calls k a1_0 A1_1 c1_1 l1_1 A1_2 c1_2 l1_2 pm sm tm _ (Kd.C_below HR1.out HBc) HC1.out (Kd.C_below HR2.out HBc) HC2.out hmm.out).mono ?_; rintro e w4 ⟨v1, v2, rfl, h1, h2, hd⟩); obtain ⟨Q1, j1, rfl⟩ := Kd.R_slice h1; obtain ⟨Q2, j2, rfl⟩ := Kd.R_slice h2; have H1 := Ak h1; have H2 := Ak h2; have HX4 := Ak (Kd.R_below Xa hd); have HB4 := Ak (below_step HBc hd); have HG5 := Ak (blk_below HGc hd); have HG7 := Ak (blk_below HGa hd); clear HGa; have m0 : w4.cell? ⟨g3, 0, none⟩ = some (.int .i64 a1_0) := (blk_cell HG5.out 0).trans rfl; have m1 : w4.cell? ⟨g3, 1, none⟩ = some (.slice A1_1 l1_1.length c1_1) := (blk_cell HG5.out 1).trans rfl; have m2 : w4.cell? ⟨g3, 2, none⟩ = some (.slice A1_2 l1_2.length c1_2) := (blk_cell HG5.out 2).trans rfl; clear h1 h2 hd HBc HGc Xa) | ((go_at_call 12; have hBa := below_alloc (Below.refl w3.heap.size w3) (.cells #[.int .i64 0, .slice none 0 0, .slice none 0 0] 28); have HGa := blk_new w3 (.cells #[.int .i64 0, .slice none 0 0, .slice none 0 0] 28); have HBc := below_step HB3.out hBa; have HGc := blk_below HG4.out hBa; have k1 : w3.heap.size ≠ g3 := World.new_ne w3 _ m0; have k2 := k1.symm; have Xa := Kd.R_below HX3.out hBa; with_reducible refine (laws_toMachine.calls k a1_0 A1_1 c1_1 l1_1 A1_2 c1_2 l1_2 pm sm tm (w3.alloc _) (Kd.C_below HR1.out HBc) HC1.out (Kd.C_below HR2.out HBc) HC2.out hmm.out).mono ?_; rintro e w4 ⟨v1, v2, rfl, h1, h2, hd⟩); obtain ⟨Q1, j1, rfl⟩ := Kd.R_slice h1; obtain ⟨Q2, j2, rfl⟩ := Kd.R_slice h2; have H1 := Ak h1; have H2 := Ak h2; have HX4 := Ak (Kd.R_below Xa hd); have HB4 := Ak (below_step HBc hd); have HG5 := Ak (blk_below HGc hd); have HG7 := Ak (blk_below HGa hd); obtain ⟨g6, hg6⟩ : ∃ g, g = w3.heap.size := ⟨_, rfl⟩; have hge := Ak (Nat.le_trans (HB3.out).size (Nat.le_of_eq hg6.symm)); rw [← hg6] at HG7 k1 k2 ⊢; replace hg6 := Ak hg6; clear hBa HGa; have m0 : w4.cell? ⟨g3, 0, none⟩ = some (.int .i64 a1_0) := (blk_cell HG5.out 0).trans rfl; have m1 : w4.cell? ⟨g3, 1, none⟩ = some (.slice A1_1 l1_1.length c1_1) := (blk_cell HG5.out 1).trans rfl; have m2 : w4.cell? ⟨g3, 2, none⟩ = some (.slice A1_2 l1_2.length c1_2) := (blk_cell HG5.out 2).trans rfl; clear h1 h2 hd HBc HGc Xa) | ((go_at_call 12; have HBc := HB3.out; have HGc := HG4.out; have Xa := HX3.out; with_reducible refine (laws_toMachine.calls k a1_0 A1_1 c1_1 l1_1 A1_2 c1_2 l1_2 pm sm tm _ (Kd.C_below HR1.out HBc) HC1.out (Kd.C_below HR2.out HBc) HC2.out hmm.out).mono ?_; rintro e w4 ⟨v1, v2, rfl, h1, h2, hd⟩); obtain ⟨Q1, j1, rfl⟩ := Kd.R_slice h1; obtain ⟨Q2, j2, rfl⟩ := Kd.R_slice h2; have H1 := Ak h1; have H2 := Ak h2; have HX4 := Ak (Kd.R_below Xa hd); have HB4 := Ak (below_step HBc hd); have HG5 := Ak (blk_below HGc hd); have m0 : w4.cell? ⟨g3, 0, none⟩ = some (.int .i64 a1_0) := (blk_cell HG5.out 0).trans rfl; have m1 : w4.cell? ⟨g3, 1, none⟩ = some (.slice A1_1 l1_1.length c1_1) := (blk_cell HG5.out 1).trans rfl; have m2 : w4.cell? ⟨g3, 2, none⟩ = some (.slice A1_2 l1_2.length c1_2) := (blk_cell HG5.out 2).trans rfl; clear h1 h2 hd HBc HGc Xa) | ((go_at_call 11; have HBc := (below_drew1 HB2.out); have HGc := (blk_drew HG2.out); with_reducible refine (laws_toOpS.calls k A0 c0 l0 c _ (Kd.C_below HR0.out HBc) HC0.out hcc.out).mono ?_; rintro e w3 ⟨v0, rfl, hx, hd⟩); obtain ⟨Aq, cq, rfl⟩ := Kd.R_slice hx; have HX3 := Ak hx; have HB3 := Ak (below_step HBc hd); have HG4 := Ak (blk_below HGc hd); have m0 : w3.cell? ⟨g3, 0, none⟩ = some (.int .i64 a1_0) := (blk_cell HG4.out 0).trans rfl; have m1 : w3.cell? ⟨g3, 1, none⟩ = some (.slice A1_1 l1_1.length c1_1) := (blk_cell HG4.out 1).trans rfl; have m2 : w3.cell? ⟨g3, 2, none⟩ = some (.slice A1_2 l1_2.length c1_2) := (blk_cell HG4.out 2).trans rfl; clear hx hd HBc HGc) | ((go_at_call 11; have hBa := below_alloc (Below.refl w2.heap.size w2) (.cells #[.int .i64 0, .slice none 0 0, .slice none 0 0] 28); have HGa := blk_drew <| blk_new w2 (.cells #[.int .i64 0, .slice none 0 0, .slice none 0 0] 28); have HBc := below_drew1 (below_step HB2.out hBa); have HGc := blk_drew (blk_below HG2.out hBa); have k1 : w2.heap.size ≠ g3 := World.new_ne w2 _ m0; have k2 := k1.symm; with_reducible refine (laws_toOpS.calls k A0 c0 l0 c (w2.alloc _).drew (Kd.C_below HR0.out HBc) HC0.out hcc.out).mono ?_; rintro e w3 ⟨v0, rfl, hx, hd⟩); obtain ⟨Aq, cq, rfl⟩ := Kd.R_slice hx; have HX3 := Ak hx; have HB3 := Ak (below_step HBc hd); have HG4 := Ak (blk_below HGc hd); have HG7 := Ak (blk_below HGa hd); obtain ⟨g6, hg6⟩ : ∃ g, g = w2.heap.size := ⟨_, rfl⟩; have hge := Ak (Nat.le_trans (HB2.out).size (Nat.le_of_eq hg6.symm)); rw [← hg6] at HG7 k1 k2 ⊢; replace hg6 := Ak hg6; clear hBa HGa; have m0 : w3.cell? ⟨g3, 0, none⟩ = some (.int .i64 a1_0) := (blk_cell HG4.out 0).trans rfl; have m1 : w3.cell? ⟨g3, 1, none⟩ = some (.slice A1_1 l1_1.length c1_1) := (blk_cell HG4.out 1).trans rfl; have m2 : w3.cell? ⟨g3, 2, none⟩ = some (.slice A1_2 l1_2.length c1_2) := (blk_cell HG4.out 2).trans rfl; clear hx hd HBc HGc)))
  all_goals (go_wp2_with fail; go_meet; first | exact ⟨_, _, _, _, _, rfl, rfl, laws_FnExactRunMachine.Bs.filled H3.out H4.out HB5.out hge.out HG7.out HG6.out⟩ | exact ⟨_, _, _, _, _, rfl, rfl, laws_FnExactRunMachine.Bs.fresh H3.out H4.out HB5.out HG6.out⟩)
 case rest =>
 obtain ⟨g6, B1, e1, B2, e2, rfl, rfl, HS⟩ := hcut
 clear m0 m1 m2 HB0 HB1 HB2 HG1 HG2 HG3 hsp
 obtain ⟨m0, m1, m2, n0, n1, n2⟩ := HS.cells (Below.refl _ _)
 go_upto_region 12 with (first | ((go_at_call 11; with_reducible refine (laws_toOpS.calls k A0 c0 l0 c _ (Kd.C_below HR0.out HS.b) HC0.out hcc.out).mono ?_; rintro e w3 ⟨v0, rfl, hx, hx2⟩); obtain ⟨Ax, cx, rfl⟩ := Kd.R_slice hx; have HX := Ak hx; have HX2 := Ak hx2; clear hx hx2 m0 m1 m2 n0 n1 n2; obtain ⟨m0, m1, m2, n0, n1, n2⟩ := HS.cells HX2.out) | ((go_at_call 12; with_reducible refine (laws_toMachine.calls k a1_0 A1_1 c1_1 l1_1 A1_2 c1_2 l1_2 pm sm tm _ (Kd.C_below HR1.out (below_step HS.b HX2.out)) HC1.out (Kd.C_below HR2.out (below_step HS.b HX2.out)) HC2.out hmm.out).mono ?_; rintro e w4 ⟨v1, v2, rfl, h1, h2, hd⟩); obtain ⟨A1, d1, rfl⟩ := Kd.R_slice h1; obtain ⟨A2, d2, rfl⟩ := Kd.R_slice h2; have H1 := Ak h1; have H2 := Ak h2; have HD4 := Ak hd; clear h1 h2 hd m0 m1 m2 n0 n1 n2) | ((go_at_call 20; have al := below_alloc (Below.refl w4.heap.size w4) (.cells #[.int .i64 pm, .slice A1 sm.length d1, .slice A2 tm.length d2] 28); have Xa := Kd.R_below (Kd.R_below HX.out HD4.out) al; have Ha := Kd.R_below H1.out al; have Hb := Kd.R_below H2.out al; with_reducible refine (impl_RunMachine.calls k Ax cx c pm A1 d1 sm A2 d2 tm a2 pg sg tg how2 _ (Kd.R_reads' Xa).2.2 (Kd.R_reads' Xa).2.1 (Kd.R_reads' Ha).2.2 (Kd.R_reads' Ha).2.1 (Kd.R_reads' Hb).2.2 (Kd.R_reads' Hb).2.1 him.out).mono ?_; rintro e w5 ⟨v3, v4, rfl, h3, h4, hd⟩); obtain ⟨G1, k1, rfl⟩ := Kd.R_slice h3; obtain ⟨G2, k2, rfl⟩ := Kd.R_slice h4; have H3 := Ak h3; have H4 := Ak h4; have HD5 := Ak hd; clear h3 h4 hd al Xa Ha Hb))
 have HC := laws_FnExactRunMachine.Cr.start (p9 := pm) (p10 := pg) HX.out HX2.out H1.out H2.out HD4.out H3.out H4.out HD5.out
 clear HX HX2 H1 H2 H3 H4 HD4 HD5
 generalize w5.alloc (.cells #[.int .i64 pg, .slice G1 sg.length k1, .slice G2 tg.length k2] 28) = W at HC ⊢
 generalize w5.heap.size = g10 at HC ⊢
 generalize w4.heap.size = g9 at HC ⊢
 obtain ⟨m0, m1, m2, n0, n1, n2⟩ := HS.cells HC.b; obtain ⟨x0, x1, x2, y0, y1, y2⟩ := HC.cells
 go_upto_region 16 with (first | ((go_at_call 14; with_reducible refine (laws_eqMachine.calls k pg G1 k1 sg G2 k2 tg p0 B1 e1 s0 B2 e2 t0 true _ (Kd.R_reads' HC.r3).2.2 (Kd.R_reads' HC.r3).2.1 (Kd.R_reads' HC.r4).2.2 (Kd.R_reads' HC.r4).2.1 (Kd.C_below HS.c1 HC.b) HS.l1 (Kd.C_below HS.c2 HC.b) HS.l2 ht1.out).mono ?_; rintro e W_ ⟨rfl, hd⟩); clear m0 m1 m2 n0 n1 n2 x0 x1 x2 y0 y1 y2; replace HC := HC.below hd; clear hd; obtain ⟨m0, m1, m2, n0, n1, n2⟩ := HS.cells HC.b; obtain ⟨x0, x1, x2, y0, y1, y2⟩ := HC.cells) | ((go_at_call 11; with_reducible refine (laws_toOpS.calls k A0 c0 l0 c _ (Kd.C_below HR0.out (below_step HS.b HC.b)) HC0.out hcc.out).mono ?_; rintro e W_ ⟨v0, rfl, hx, hd⟩); obtain ⟨Ay, cy, rfl⟩ := Kd.R_slice hx; have HY := Ak hx; clear hx; clear m0 m1 m2 n0 n1 n2 x0 x1 x2 y0 y1 y2; replace HC := HC.below hd; clear hd; obtain ⟨m0, m1, m2, n0, n1, n2⟩ := HS.cells HC.b; obtain ⟨x0, x1, x2, y0, y1, y2⟩ := HC.cells) | ((go_at_call 15; with_reducible refine (laws_eqOpS.calls k Ax cx c Ay cy c true _ (Kd.R_reads' HC.x).2.2 (Kd.R_reads' HC.x).2.1 (Kd.R_reads' HY.out).2.2 (Kd.R_reads' HY.out).2.1 ht2.out).mono ?_; rintro e W_ ⟨rfl, hd⟩); clear HY; clear m0 m1 m2 n0 n1 n2 x0 x1 x2 y0 y1 y2; replace HC := HC.below hd; clear hd; obtain ⟨m0, m1, m2, n0, n1, n2⟩ := HS.cells HC.b; obtain ⟨x0, x1, x2, y0, y1, y2⟩ := HC.cells))
 go_region_held3 (fun w' => w'.cell? ⟨g3, 0, none⟩ = some (.int .i64 a1_0) ∧ w'.cell? ⟨g3, 1, none⟩ = some (.slice A1_1 l1_1.length c1_1) ∧ w'.cell? ⟨g3, 2, none⟩ = some (.slice A1_2 l1_2.length c1_2) ∧ w'.cell? ⟨g9, 0, none⟩ = some (.int .i64 pm) ∧ w'.cell? ⟨g9, 1, none⟩ = some (.slice A1 sm.length d1) ∧ w'.cell? ⟨g9, 2, none⟩ = some (.slice A2 tm.length d2)) (first | assumption | exact ⟨by assumption, by assumption, by assumption, by assumption, by assumption, by assumption⟩ | go_keep) ((first | ((go_at_call 12; with_reducible refine (laws_toMachine.calls k a1_0 A1_1 c1_1 l1_1 A1_2 c1_2 l1_2 pm sm tm _ (Kd.C_below HR1.out (below_drew1 (below_step HS.b HC.b))) HC1.out (Kd.C_below HR2.out (below_drew1 (below_step HS.b HC.b))) HC2.out hmm.out).mono ?_; rintro e W_ ⟨v1, v2, rfl, h1, h2, hd⟩); obtain ⟨Y1, j1, rfl⟩ := Kd.R_slice h1; obtain ⟨Y2, j2, rfl⟩ := Kd.R_slice h2; have HY1 := Ak h1; have HY2 := Ak h2; clear h1 h2; replace HC := HC.below (below_drew1 (Below.refl _ _)); clear m0 m1 m2 n0 n1 n2 x0 x1 x2 y0 y1 y2; replace HC := HC.below hd; clear hd; obtain ⟨m0, m1, m2, n0, n1, n2⟩ := HS.cells HC.b; obtain ⟨x0, x1, x2, y0, y1, y2⟩ := HC.cells) | ((go_at_call 14; with_reducible refine (laws_eqMachine.calls k pm A1 d1 sm A2 d2 tm pm Y1 j1 sm Y2 j2 tm true _ (Kd.R_reads' HC.r1).2.2 (Kd.R_reads' HC.r1).2.1 (Kd.R_reads' HC.r2).2.2 (Kd.R_reads' HC.r2).2.1 (Kd.R_reads' HY1.out).2.2 (Kd.R_reads' HY1.out).2.1 (Kd.R_reads' HY2.out).2.2 (Kd.R_reads' HY2.out).2.1 ht3.out).mono ?_; rintro e W_ ⟨rfl, hd⟩); clear HY1 HY2; clear m0 m1 m2 n0 n1 n2 x0 x1 x2 y0 y1 y2; replace HC := HC.below hd; clear hd; obtain ⟨m0, m1, m2, n0, n1, n2⟩ := HS.cells HC.b; obtain ⟨x0, x1, x2, y0, y1, y2⟩ := HC.cells)))
 go_upto_region 31 with (first | ((go_at_call 16; with_reducible refine (laws_markOpS.calls k (fun k => some k = (Value.slice Ax c.length cx).ownBlock) (.slice Ax c.length cx) c 1 q1 cm wc _ HC.b HC.x hq1.out).mono ?_; rintro e W_ ⟨rfl, hx, hb, hk⟩); clear m0 m1 m2 n0 n1 n2 x0 x1 x2 y0 y1 y2; replace HC := HC.mark0 hx hb hk; clear hx hb hk; obtain ⟨m0, m1, m2, n0, n1, n2⟩ := HS.cells HC.b; obtain ⟨x0, x1, x2, y0, y1, y2⟩ := HC.cells) | ((go_at_call 17; with_reducible refine (laws_markMachine.calls k pm (fun k => some k = (Value.slice A1 sm.length d1).ownBlock) (.slice A1 sm.length d1) sm (fun k => some k = (Value.slice A2 tm.length d2).ownBlock) (.slice A2 tm.length d2) tm q1 q2 sm' tm' wc _ HC.b HC.r1 HC.d12 HC.r2 HC.d21 hq2.out).mono ?_; rintro e W_ ⟨rfl, h1, h2, hb, hk⟩); clear m0 m1 m2 n0 n1 n2 x0 x1 x2 y0 y1 y2; replace HC := HC.mark9 h1 h2 hb hk; clear h1 h2 hb hk; obtain ⟨m0, m1, m2, n0, n1, n2⟩ := HS.cells HC.b; obtain ⟨x0, x1, x2, y0, y1, y2⟩ := HC.cells) | ((go_at_call 14; with_reducible refine (laws_eqMachine.calls k pg G1 k1 sg G2 k2 tg p0 B1 e1 s0 B2 e2 t0 true _ (Kd.R_reads' HC.r3).2.2 (Kd.R_reads' HC.r3).2.1 (Kd.R_reads' HC.r4).2.2 (Kd.R_reads' HC.r4).2.1 (Kd.C_below HS.c1 HC.b) HS.l1 (Kd.C_below HS.c2 HC.b) HS.l2 ht1.out).mono ?_; rintro e W_ ⟨rfl, hd⟩); clear m0 m1 m2 n0 n1 n2 x0 x1 x2 y0 y1 y2; replace HC := HC.below hd; clear hd; obtain ⟨m0, m1, m2, n0, n1, n2⟩ := HS.cells HC.b; obtain ⟨x0, x1, x2, y0, y1, y2⟩ := HC.cells) | ((go_at_call 17; with_reducible refine (laws_markMachine.calls k pg (fun k => some k = (Value.slice G1 sg.length k1).ownBlock) (.slice G1 sg.length k1) sg (fun k => some k = (Value.slice G2 tg.length k2).ownBlock) (.slice G2 tg.length k2) tg 1 q sg' tg' wc _ HC.b HC.r3 HC.d34 HC.r4 HC.d43 hq3.out).mono ?_; rintro e W_ ⟨rfl, h1, h2, hb, hk⟩); clear m0 m1 m2 n0 n1 n2 x0 x1 x2 y0 y1 y2; have e1_ := (Kd.R_reads' h1).1; have e2_ := (Kd.R_reads' h2).1; replace HC := HC.mark10 h1 h2 hb hk; rw [e1_, e2_] at HC; clear h1 h2 hb hk e1_ e2_; obtain ⟨m0, m1, m2, n0, n1, n2⟩ := HS.cells HC.b; obtain ⟨x0, x1, x2, y0, y1, y2⟩ := HC.cells) | ((go_at_call 18; with_reducible refine (laws_heldMachine.calls k pg G1 k1 sg' G2 k2 tg' 1 q _ (Kd.R_reads' HC.r3).2.2 (Kd.R_reads' HC.r3).2.1 (Kd.R_reads' HC.r4).2.2 (Kd.R_reads' HC.r4).2.1 hq.out).mono ?_; rintro e W_ ⟨rfl, hd⟩); clear m0 m1 m2 n0 n1 n2 x0 x1 x2 y0 y1 y2; replace HC := HC.below hd; clear hd; obtain ⟨m0, m1, m2, n0, n1, n2⟩ := HS.cells HC.b; obtain ⟨x0, x1, x2, y0, y1, y2⟩ := HC.cells))
 have HBv := Ak (Below.refl W_.heap.size W_)
 have HGv := Ak (blk_below HS.b3 HC.b)
 have HV0 := Ak (Kd.C_below HR0.out (below_step HS.b HC.b))
 have HV1 := Ak (Kd.C_below HR1.out (below_step HS.b HC.b))
 have HV2 := Ak (Kd.C_below HR2.out (below_step HS.b HC.b))
 clear n0 n1 n2 x0 x1 x2 y0 y1 y2
 go_cut [17, 18] (fun v15 v16 w' => ∃ (g15 : Nat) (C1 : Option Addr) (f1 : Nat) (C2 : Option Addr) (f2 : Nat), v15 = .pointer (some ⟨g15, 0, none⟩) ∧ v16 = .int .i64 how2 ∧ laws_FnExactRunMachine.Bs W_ w' g3 g15 a1_0 (.slice A1_1 l1_1.length c1_1) (.slice A1_2 l1_2.length c1_2) pg C1 f1 sg C2 f2 tg)
 case first =>
  go_region_held3 (fun w' => w'.cell? ⟨g3, 0, none⟩ = some (.int .i64 a1_0) ∧ w'.cell? ⟨g3, 1, none⟩ = some (.slice A1_1 l1_1.length c1_1) ∧ w'.cell? ⟨g3, 2, none⟩ = some (.slice A1_2 l1_2.length c1_2)) (first | assumption | exact ⟨by assumption, by assumption, by assumption⟩ | go_keep) ((first | ((go_at_call 20; have HBc := HB4.out; have HGc := HG5.out; have HGa := HG7.out; have Xa := HX4.out; have Ha := H1.out; have Hb := H2.out; with_reducible refine (impl_RunMachine.calls k Aq cq c pm Q1 j1 sm Q2 j2 tm a2 pg sg tg how2 _ (Kd.R_reads' Xa).2.2 (Kd.R_reads' Xa).2.1 (Kd.R_reads' Ha).2.2 (Kd.R_reads' Ha).2.1 (Kd.R_reads' Hb).2.2 (Kd.R_reads' Hb).2.1 him.out).mono ?_; rintro e w5 ⟨v3, v4, rfl, h3, h4, hd⟩); obtain ⟨B1, e1, rfl⟩ := Kd.R_slice h3; obtain ⟨B2, e2, rfl⟩ := Kd.R_slice h4; have H3 := Ak h3; have H4 := Ak h4; have HB5 := Ak (below_step HBc hd); have HG6 := Ak (blk_below HGc hd); have HG7 := Ak (blk_below HGa hd); clear HGa; have m0 : w5.cell? ⟨g3, 0, none⟩ = some (.int .i64 a1_0) := (blk_cell HG6.out 0).trans rfl; have m1 : w5.cell? ⟨g3, 1, none⟩ = some (.slice A1_1 l1_1.length c1_1) := (blk_cell HG6.out 1).trans rfl; have m2 : w5.cell? ⟨g3, 2, none⟩ = some (.slice A1_2 l1_2.length c1_2) := (blk_cell HG6.out 2).trans rfl; have f0 := blk_frozen HG7.out 0; have f1 := blk_frozen HG7.out 1; have f2 := blk_frozen HG7.out 2; have n0 : w5.cell? ⟨g6, 0, none⟩ = some (.int .i64 0) := (blk_cell HG7.out 0).trans rfl; have n1 : w5.cell? ⟨g6, 1, none⟩ = some (.slice none 0 0) := (blk_cell HG7.out 1).trans rfl; have n2 : w5.cell? ⟨g6, 2, none⟩ = some (.slice none 0 0) := (blk_cell HG7.out 2).trans rfl; clear h3 h4 hd HBc HGc Xa Ha Hb) | ((go_at_call 20; have hBa := below_alloc (Below.refl w4.heap.size w4) (.cells #[.int .i64 0, .slice none 0 0, .slice none 0 0] 28); have HGa := blk_new w4 (.cells #[.int .i64 0, .slice none 0 0, .slice none 0 0] 28); have HBc := below_step HB4.out hBa; have HGc := blk_below HG5.out hBa; have k1 : w4.heap.size ≠ g3 := World.new_ne w4 _ m0; have k2 := k1.symm; have Xa := Kd.R_below HX4.out hBa; have Ha := Kd.R_below H1.out hBa; have Hb := Kd.R_below H2.out hBa; with_reducible refine (impl_RunMachine.calls k Aq cq c pm Q1 j1 sm Q2 j2 tm a2 pg sg tg how2 (w4.alloc _) (Kd.R_reads' Xa).2.2 (Kd.R_reads' Xa).2.1 (Kd.R_reads' Ha).2.2 (Kd.R_reads' Ha).2.1 (Kd.R_reads' Hb).2.2 (Kd.R_reads' Hb).2.1 him.out).mono ?_; rintro e w5 ⟨v3, v4, rfl, h3, h4, hd⟩); obtain ⟨B1, e1, rfl⟩ := Kd.R_slice h3; obtain ⟨B2, e2, rfl⟩ := Kd.R_slice h4; have H3 := Ak h3; have H4 := Ak h4; have HB5 := Ak (below_step HBc hd); have HG6 := Ak (blk_below HGc hd); have HG7 := Ak (blk_below HGa hd); obtain ⟨g6, hg6⟩ : ∃ g, g = w4.heap.size := ⟨_, rfl⟩; have hge := Ak (Nat.le_trans (HB4.out).size (Nat.le_of_eq hg6.symm)); rw [← hg6] at HG7 k1 k2 ⊢; replace hg6 := Ak hg6; clear hBa HGa; have m0 : w5.cell? ⟨g3, 0, none⟩ = some (.int .i64 a1_0) := (blk_cell HG6.out 0).trans rfl; have m1 : w5.cell? ⟨g3, 1, none⟩ = some (.slice A1_1 l1_1.length c1_1) := (blk_cell HG6.out 1).trans rfl; have m2 : w5.cell? ⟨g3, 2, none⟩ = some (.slice A1_2 l1_2.length c1_2) := (blk_cell HG6.out 2).trans rfl; have f0 := blk_frozen HG7.out 0; have f1 := blk_frozen HG7.out 1; have f2 := blk_frozen HG7.out 2; have n0 : w5.cell? ⟨g6, 0, none⟩ = some (.int .i64 0) := (blk_cell HG7.out 0).trans rfl; have n1 : w5.cell? ⟨g6, 1, none⟩ = some (.slice none 0 0) := (blk_cell HG7.out 1).trans rfl; have n2 : w5.cell? ⟨g6, 2, none⟩ = some (.slice none 0 0) := (blk_cell HG7.out 2).trans rfl; clear h3 h4 hd HBc HGc Xa Ha Hb) | ((go_at_call 20; have HBc := HB4.out; have HGc := HG5.out; have Xa := HX4.out; have Ha := H1.out; have Hb := H2.out; with_reducible refine (impl_RunMachine.calls k Aq cq c pm Q1 j1 sm Q2 j2 tm a2 pg sg tg how2 _ (Kd.R_reads' Xa).2.2 (Kd.R_reads' Xa).2.1 (Kd.R_reads' Ha).2.2 (Kd.R_reads' Ha).2.1 (Kd.R_reads' Hb).2.2 (Kd.R_reads' Hb).2.1 him.out).mono ?_; rintro e w5 ⟨v3, v4, rfl, h3, h4, hd⟩); obtain ⟨B1, e1, rfl⟩ := Kd.R_slice h3; obtain ⟨B2, e2, rfl⟩ := Kd.R_slice h4; have H3 := Ak h3; have H4 := Ak h4; have HB5 := Ak (below_step HBc hd); have HG6 := Ak (blk_below HGc hd); have m0 : w5.cell? ⟨g3, 0, none⟩ = some (.int .i64 a1_0) := (blk_cell HG6.out 0).trans rfl; have m1 : w5.cell? ⟨g3, 1, none⟩ = some (.slice A1_1 l1_1.length c1_1) := (blk_cell HG6.out 1).trans rfl; have m2 : w5.cell? ⟨g3, 2, none⟩ = some (.slice A1_2 l1_2.length c1_2) := (blk_cell HG6.out 2).trans rfl; have k1 : w5.heap.size ≠ g3 := World.new_ne w5 _ m0; have k2 := k1.symm; clear h3 h4 hd HBc HGc Xa Ha Hb) | ((go_at_call 12; have HBc := HB3.out; have HGc := HG4.out; have HGa := HG7.out; have Xa := HX3.out; with_reducible refine (laws_toMachine.calls k a1_0 A1_1 c1_1 l1_1 A1_2 c1_2 l1_2 pm sm tm _ (Kd.C_below HV1.out HBc) HC1.out (Kd.C_below HV2.out HBc) HC2.out hmm.out).mono ?_; rintro e w4 ⟨v1, v2, rfl, h1, h2, hd⟩); obtain ⟨Q1, j1, rfl⟩ := Kd.R_slice h1; obtain ⟨Q2, j2, rfl⟩ := Kd.R_slice h2; have H1 := Ak h1; have H2 := Ak h2; have HX4 := Ak (Kd.R_below Xa hd); have HB4 := Ak (below_step HBc hd); have HG5 := Ak (blk_below HGc hd); have HG7 := Ak (blk_below HGa hd); clear HGa; have m0 : w4.cell? ⟨g3, 0, none⟩ = some (.int .i64 a1_0) := (blk_cell HG5.out 0).trans rfl; have m1 : w4.cell? ⟨g3, 1, none⟩ = some (.slice A1_1 l1_1.length c1_1) := (blk_cell HG5.out 1).trans rfl; have m2 : w4.cell? ⟨g3, 2, none⟩ = some (.slice A1_2 l1_2.length c1_2) := (blk_cell HG5.out 2).trans rfl; clear h1 h2 hd HBc HGc Xa) | ((go_at_call 12; have hBa := below_alloc (Below.refl w3.heap.size w3) (.cells #[.int .i64 0, .slice none 0 0, .slice none 0 0] 28); have HGa := blk_new w3 (.cells #[.int .i64 0, .slice none 0 0, .slice none 0 0] 28); have HBc := below_step HB3.out hBa; have HGc := blk_below HG4.out hBa; have k1 : w3.heap.size ≠ g3 := World.new_ne w3 _ m0; have k2 := k1.symm; have Xa := Kd.R_below HX3.out hBa; with_reducible refine (laws_toMachine.calls k a1_0 A1_1 c1_1 l1_1 A1_2 c1_2 l1_2 pm sm tm (w3.alloc _) (Kd.C_below HV1.out HBc) HC1.out (Kd.C_below HV2.out HBc) HC2.out hmm.out).mono ?_; rintro e w4 ⟨v1, v2, rfl, h1, h2, hd⟩); obtain ⟨Q1, j1, rfl⟩ := Kd.R_slice h1; obtain ⟨Q2, j2, rfl⟩ := Kd.R_slice h2; have H1 := Ak h1; have H2 := Ak h2; have HX4 := Ak (Kd.R_below Xa hd); have HB4 := Ak (below_step HBc hd); have HG5 := Ak (blk_below HGc hd); have HG7 := Ak (blk_below HGa hd); obtain ⟨g6, hg6⟩ : ∃ g, g = w3.heap.size := ⟨_, rfl⟩; have hge := Ak (Nat.le_trans (HB3.out).size (Nat.le_of_eq hg6.symm)); rw [← hg6] at HG7 k1 k2 ⊢; replace hg6 := Ak hg6; clear hBa HGa; have m0 : w4.cell? ⟨g3, 0, none⟩ = some (.int .i64 a1_0) := (blk_cell HG5.out 0).trans rfl; have m1 : w4.cell? ⟨g3, 1, none⟩ = some (.slice A1_1 l1_1.length c1_1) := (blk_cell HG5.out 1).trans rfl; have m2 : w4.cell? ⟨g3, 2, none⟩ = some (.slice A1_2 l1_2.length c1_2) := (blk_cell HG5.out 2).trans rfl; clear h1 h2 hd HBc HGc Xa) | ((go_at_call 12; have HBc := HB3.out; have HGc := HG4.out; have Xa := HX3.out; with_reducible refine (laws_toMachine.calls k a1_0 A1_1 c1_1 l1_1 A1_2 c1_2 l1_2 pm sm tm _ (Kd.C_below HV1.out HBc) HC1.out (Kd.C_below HV2.out HBc) HC2.out hmm.out).mono ?_; rintro e w4 ⟨v1, v2, rfl, h1, h2, hd⟩); obtain ⟨Q1, j1, rfl⟩ := Kd.R_slice h1; obtain ⟨Q2, j2, rfl⟩ := Kd.R_slice h2; have H1 := Ak h1; have H2 := Ak h2; have HX4 := Ak (Kd.R_below Xa hd); have HB4 := Ak (below_step HBc hd); have HG5 := Ak (blk_below HGc hd); have m0 : w4.cell? ⟨g3, 0, none⟩ = some (.int .i64 a1_0) := (blk_cell HG5.out 0).trans rfl; have m1 : w4.cell? ⟨g3, 1, none⟩ = some (.slice A1_1 l1_1.length c1_1) := (blk_cell HG5.out 1).trans rfl; have m2 : w4.cell? ⟨g3, 2, none⟩ = some (.slice A1_2 l1_2.length c1_2) := (blk_cell HG5.out 2).trans rfl; clear h1 h2 hd HBc HGc Xa) | ((go_at_call 11; have HBc := (below_drew1 HBv.out); have HGc := (blk_drew HGv.out); with_reducible refine (laws_toOpS.calls k A0 c0 l0 c _ (Kd.C_below HV0.out HBc) HC0.out hcc.out).mono ?_; rintro e w3 ⟨v0, rfl, hx, hd⟩); obtain ⟨Aq, cq, rfl⟩ := Kd.R_slice hx; have HX3 := Ak hx; have HB3 := Ak (below_step HBc hd); have HG4 := Ak (blk_below HGc hd); have m0 : w3.cell? ⟨g3, 0, none⟩ = some (.int .i64 a1_0) := (blk_cell HG4.out 0).trans rfl; have m1 : w3.cell? ⟨g3, 1, none⟩ = some (.slice A1_1 l1_1.length c1_1) := (blk_cell HG4.out 1).trans rfl; have m2 : w3.cell? ⟨g3, 2, none⟩ = some (.slice A1_2 l1_2.length c1_2) := (blk_cell HG4.out 2).trans rfl; clear hx hd HBc HGc) | ((go_at_call 11; have hBa := below_alloc (Below.refl W_.heap.size W_) (.cells #[.int .i64 0, .slice none 0 0, .slice none 0 0] 28); have HGa := blk_drew <| blk_new W_ (.cells #[.int .i64 0, .slice none 0 0, .slice none 0 0] 28); have HBc := below_drew1 (below_step HBv.out hBa); have HGc := blk_drew (blk_below HGv.out hBa); have k1 : W_.heap.size ≠ g3 := World.new_ne W_ _ m0; have k2 := k1.symm; with_reducible refine (laws_toOpS.calls k A0 c0 l0 c (W_.alloc _).drew (Kd.C_below HV0.out HBc) HC0.out hcc.out).mono ?_; rintro e w3 ⟨v0, rfl, hx, hd⟩); obtain ⟨Aq, cq, rfl⟩ := Kd.R_slice hx; have HX3 := Ak hx; have HB3 := Ak (below_step HBc hd); have HG4 := Ak (blk_below HGc hd); have HG7 := Ak (blk_below HGa hd); obtain ⟨g6, hg6⟩ : ∃ g, g = W_.heap.size := ⟨_, rfl⟩; have hge := Ak (Nat.le_trans (HBv.out).size (Nat.le_of_eq hg6.symm)); rw [← hg6] at HG7 k1 k2 ⊢; replace hg6 := Ak hg6; clear hBa HGa; have m0 : w3.cell? ⟨g3, 0, none⟩ = some (.int .i64 a1_0) := (blk_cell HG4.out 0).trans rfl; have m1 : w3.cell? ⟨g3, 1, none⟩ = some (.slice A1_1 l1_1.length c1_1) := (blk_cell HG4.out 1).trans rfl; have m2 : w3.cell? ⟨g3, 2, none⟩ = some (.slice A1_2 l1_2.length c1_2) := (blk_cell HG4.out 2).trans rfl; clear hx hd HBc HGc)))
  all_goals (go_wp2_with fail; go_meet; first | exact ⟨_, _, _, _, _, rfl, rfl, laws_FnExactRunMachine.Bs.filled H3.out H4.out HB5.out hge.out HG7.out HG6.out⟩ | exact ⟨_, _, _, _, _, rfl, rfl, laws_FnExactRunMachine.Bs.fresh H3.out H4.out HB5.out HG6.out⟩)
 case rest =>
 obtain ⟨g15, C1, f1, C2, f2, rfl, rfl, HS2⟩ := hcut
 clear m0 m1 m2
 replace HC := HC.below HS2.b
 obtain ⟨m0, m1, m2, n0, n1, n2⟩ := HS.cells HC.b
 obtain ⟨x0, x1, x2, y0, y1, y2⟩ := HC.cells
 obtain ⟨_, _, _, z0, z1, z2⟩ := HS2.cells (Below.refl _ _)
 go_wp2_with (first | ((go_at_call 14; with_reducible refine (laws_eqMachine.calls k pg C1 f1 sg C2 f2 tg p0 B1 e1 s0 B2 e2 t0 true _ HS2.c1 HS2.l1 HS2.c2 HS2.l2 (Kd.C_below HS.c1 HC.b) HS.l1 (Kd.C_below HS.c2 HC.b) HS.l2 ht1.out).mono ?_; rintro e W_ ⟨rfl, hd⟩); clear z0 z1 z2; clear m0 m1 m2 n0 n1 n2 x0 x1 x2 y0 y1 y2; replace HC := HC.below hd; clear hd; obtain ⟨m0, m1, m2, n0, n1, n2⟩ := HS.cells HC.b; obtain ⟨x0, x1, x2, y0, y1, y2⟩ := HC.cells) | ((go_at_call 18; with_reducible refine (laws_heldMachine.calls k pg G1 k1 sg' G2 k2 tg' 1 q _ (Kd.R_reads' HC.r3).2.2 (Kd.R_reads' HC.r3).2.1 (Kd.R_reads' HC.r4).2.2 (Kd.R_reads' HC.r4).2.1 hq.out).mono ?_; rintro e W_ ⟨rfl, hd⟩); clear m0 m1 m2 n0 n1 n2 x0 x1 x2 y0 y1 y2; replace HC := HC.below hd; clear hd; obtain ⟨m0, m1, m2, n0, n1, n2⟩ := HS.cells HC.b; obtain ⟨x0, x1, x2, y0, y1, y2⟩ := HC.cells))
 go_ret
 exact ⟨rfl, below_step HS.b HC.b⟩

end Go.Proofs.Ytlmiankjbffboaa.HFnExactRunMachine

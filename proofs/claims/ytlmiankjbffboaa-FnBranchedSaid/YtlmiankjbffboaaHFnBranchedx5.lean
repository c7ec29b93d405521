/- Text for FnBranched: written by a program of this session on the pattern of the kit's print. -/
import Derived.Test.YtlmiankjbffboaaHFnBranchedx0
import Derived.Test.YtlmiankjbffboaaHFnBranchedx1
import Derived.Test.YtlmiankjbffboaaHFnBranchedx4
namespace Go.Proofs.Ytlmiankjbffboaa.HFnBranched
set_option maxHeartbeats 8000000
set_option maxRecDepth 100000
open Go.RowKit Go.Proofs.YtlmiankjbffboaaW.PrintWords Go.Proofs.YtlmiankjbffboaaW.PrintLast Go.Proofs.YtlmiankjbffboaaW.PrintMore
attribute [local go_sem] max2_int min2_int max_two min_two max_three min_three max_four min_four
set_option linter.unusedVariables false
set_option linter.unusedSimpArgs false

/-! ### impl_RunMachine: function 20 -/
/-- The argument's variable (block g3) and the result's (block g4). -/
structure impl_RunMachine.Bx (w W : World) (g3 g4 : Nat) (pc : Int) (u v : Value) : Prop where
 b3 : W.heap[g3]? = some (.cells #[.int .i64 pc, u, v] 28 (0, 0))
 b4 : W.heap[g4]? = some (.cells #[.int .i64 0, .slice none 0 0, .slice none 0 0] 28 (0, 0))
 b : Below w.heap.size w W
 h3 : w.heap.size ≤ g3
 h4 : w.heap.size ≤ g4
section
variable {w W : World} {g3 g4 : Nat} {pc : Int} {u v : Value}
theorem impl_RunMachine.Bx.start (w : World) (pc : Int) (u v : Value) : impl_RunMachine.Bx w ((w.alloc (.cells #[.int .i64 pc, u, v] 28)).alloc (.cells #[.int .i64 0, .slice none 0 0, .slice none 0 0] 28)) w.heap.size (w.heap.size + 1) pc u v :=
 ⟨blk_alloc (blk_new _ _) _, by have h := blk_new (w.alloc (.cells #[.int .i64 pc, u, v] 28)) (.cells #[.int .i64 0, .slice none 0 0, .slice none 0 0] 28); rwa [show (w.alloc (.cells #[.int .i64 pc, u, v] 28)).heap.size = w.heap.size + 1 by simp] at h, below_alloc (below_alloc (Below.refl _ _) _) _, Nat.le_refl _, Nat.le_succ _⟩
theorem impl_RunMachine.Bx.below {W' : World} (h : impl_RunMachine.Bx w W g3 g4 pc u v) (hb : Below W.heap.size W W') : impl_RunMachine.Bx w W' g3 g4 pc u v := ⟨blk_below h.b3 hb, blk_below h.b4 hb, below_step h.b hb, h.h3, h.h4⟩
theorem impl_RunMachine.Bx.drewN (h : impl_RunMachine.Bx w W g3 g4 pc u v) (n : Nat) : impl_RunMachine.Bx w (W.drewN n) g3 g4 pc u v := ⟨blk_drewN h.b3 n, blk_drewN h.b4 n, pw_below_drewN h.b n, h.h3, h.h4⟩
theorem impl_RunMachine.Bx.cells (h : impl_RunMachine.Bx w W g3 g4 pc u v) : W.cell? ⟨g3, 0, none⟩ = some (.int .i64 pc) ∧ W.cell? ⟨g3, 1, none⟩ = some u ∧ W.cell? ⟨g3, 2, none⟩ = some v ∧ W.frozen? ⟨g4, 0, none⟩ = false ∧ W.frozen? ⟨g4, 1, none⟩ = false ∧ W.frozen? ⟨g4, 2, none⟩ = false ∧ W.cell? ⟨g4, 0, none⟩ = some (.int .i64 0) ∧ W.cell? ⟨g4, 1, none⟩ = some (.slice none 0 0) ∧ W.cell? ⟨g4, 2, none⟩ = some (.slice none 0 0) :=
 ⟨(blk_cell h.b3 0).trans rfl, (blk_cell h.b3 1).trans rfl, (blk_cell h.b3 2).trans rfl, blk_frozen h.b4 0, blk_frozen h.b4 1, blk_frozen h.b4 2, (blk_cell h.b4 0).trans rfl, (blk_cell h.b4 1).trans rfl, (blk_cell h.b4 2).trans rfl⟩
theorem impl_RunMachine.Bx.alloc (h : impl_RunMachine.Bx w W g3 g4 pc u v) (o : Obj) : impl_RunMachine.Bx w (W.alloc o) g3 g4 pc u v := h.below (below_alloc (Below.refl _ _) o)
theorem impl_RunMachine.mk {w3 : World} {st cl : List Int} (h1 : Kd.R (Kd.int .i64) 3 w3 W.heap.size (fun k_ => some k_ ≠ v.ownBlock) u st) (h2 : Kd.R (Kd.int .i64) 3 w3 W.heap.size (fun k_ => some k_ ≠ u.ownBlock) v cl) (hb : Below W.heap.size W w3) : impl_step.Held W (w3.alloc (.cells #[.int .i64 pc, u, v] 28)) w3.heap.size pc u v st cl :=
 ⟨blk_new _ _, Kd.R_alloc h1 _, Kd.R_alloc h2 _, below_alloc hb _, hb.size⟩
theorem impl_RunMachine.mcells {pc : Int} {st cl : List Int} {gm : Nat} (h : impl_step.Held w W gm pc u v st cl) : W.cell? ⟨gm, 0, none⟩ = some (.int .i64 pc) ∧ W.cell? ⟨gm, 1, none⟩ = some u ∧ W.cell? ⟨gm, 2, none⟩ = some v := ⟨(blk_cell h.m 0).trans rfl, (blk_cell h.m 1).trans rfl, (blk_cell h.m 2).trans rfl⟩
theorem impl_RunMachine.Bx.out (h : impl_RunMachine.Bx w W g3 g4 pc u v) (p : Int) (a b : Value) : (((W.setCell ⟨g4, 0, none⟩ (.int .i64 p)).setCell ⟨g4, 1, none⟩ a).setCell ⟨g4, 2, none⟩ b).heap[g4]? = some (.cells #[.int .i64 p, a, b] 28 (0, 0)) :=
 blk_put (cs := #[.int .i64 p, a, .slice none 0 0]) (blk_put (cs := #[.int .i64 p, .slice none 0 0, .slice none 0 0]) (blk_put (cs := #[.int .i64 0, .slice none 0 0, .slice none 0 0]) h.b4 0 _ rfl) 1 _ rfl) 2 _ rfl
theorem impl_RunMachine.Bx.row (h : impl_RunMachine.Bx w W g3 g4 pc u v) (p : Int) (a b : Value) {base : Nat} {ok : Nat → Prop} {q : Value} {xs : List Int} (hr : Kd.R (Kd.int .i64) 3 W base ok q xs) (hb : w.heap.size ≤ base) : Kd.R (Kd.int .i64) 3 (((W.setCell ⟨g4, 0, none⟩ (.int .i64 p)).setCell ⟨g4, 1, none⟩ a).setCell ⟨g4, 2, none⟩ b) w.heap.size ok q xs := by
 have h1 := blk_put (cs' := #[.int .i64 p, .slice none 0 0, .slice none 0 0]) h.b4 0 (.int .i64 p) rfl
 have h2 := blk_put (cs' := #[.int .i64 p, a, .slice none 0 0]) h1 1 a rfl
 exact Kd.R_lower (Kd.R_set (Kd.R_set (Kd.R_set hr h.b4 (by decide) 0 _) h1 (by decide) 1 _) h2 (by decide) 2 _) hb
end
def impl_RunMachine.loop (k : Nat) (l : List S48) : Nat → Int → List Int → List Int → Option (Int × List Int × List Int × Int)
 | 0, pc, st, cl => some (pc, st, cl, 5)
 | n + 1, pc, st, cl => (impl_step.f k l pc st cl).bind fun q => if q.1 = 0 then impl_RunMachine.loop k l n q.2.1 q.2.2.1 q.2.2.2 else some (q.2.1, q.2.2.1, q.2.2.2, q.1)
theorem impl_RunMachine.loop_mono (k : Nat) (l : List S48) : ∀ n pc st cl, LeO (impl_RunMachine.loop k l n pc st cl) (impl_RunMachine.loop (k + 1) l n pc st cl)
 | 0, _, _, _ => LeO.refl _
 | n + 1, _, _, _ => LeO.bind (impl_step.mono _ _ _ _ k) (fun q => LeO.ite (impl_RunMachine.loop_mono k l n _ _ _) (LeO.refl _))
def impl_RunMachine.f (k : Nat) (l0 : List S48) (a1_0 : Int) (l1_1 l1_2 : List Int) (a2 : Int) : Option (Int × List Int × List Int × Int) := (impl_IsMachine.f k l0 a1_0 l1_1 l1_2).bind fun t => if t = true then if a2 < 0 ∨ 2000 < a2 then some (0, [], [], 0) else (impl_copyMachine.f a1_0 l1_1 l1_2).bind fun m => impl_RunMachine.loop k l0 a2.toNat m.1 m.2.1 m.2.2 else some (0, [], [], 0)
theorem impl_RunMachine.mono : ∀ a b c d e k, LeO (impl_RunMachine.f k a b c d e) (impl_RunMachine.f (k + 1) a b c d e) := fun a b c d e k => LeO.bind (impl_IsMachine.mono a b c d k) (fun _ => LeO.ite (LeO.ite (LeO.refl _) (LeO.bind (LeO.refl _) (fun m => impl_RunMachine.loop_mono k _ _ _ _ _))) (LeO.refl _))
theorem impl_RunMachine.calls (k : Nat) (A0 : Option Addr) (c0 : Nat) (l0 : List (S48)) (a1_0 : Int) (A1_1 : Option Addr) (c1_1 : Nat) (l1_1 : List Int) (A1_2 : Option Addr) (c1_2 : Nat) (l1_2 : List Int) (a2 : Int) (r1 : Int) (r2 : List Int) (r3 : List Int) (r4 : Int) (w : World) (hr0 : Kd.C k48 w A0 l0.length l0) (hc0 : l0.length ≤ c0) (hr1_1 : Kd.C (Kd.int .i64) w A1_1 l1_1.length l1_1) (hc1_1 : l1_1.length ≤ c1_1) (hr1_2 : Kd.C (Kd.int .i64) w A1_2 l1_2.length l1_2) (hc1_2 : l1_2.length ≤ c1_2) (h : impl_RunMachine.f k l0 a1_0 l1_1 l1_2 a2 = some (r1, r2, r3, r4)) :
  Calls Try.prog 20 #[.slice A0 l0.length c0, .agg #[.int .i64 a1_0, .slice A1_1 l1_1.length c1_1, .slice A1_2 l1_2.length c1_2], .int .i64 a2] w fun e w' => ∃ v1_ v2_ : Value, e = .returned (.tuple #[.agg #[.int .i64 r1, v1_, v2_], .int .i64 r4]) ∧ Kd.R (Kd.int .i64) 3 w' w.heap.size (fun k_ => some k_ ≠ (v2_ : Value).ownBlock) v1_ r2 ∧ Kd.R (Kd.int .i64) 3 w' w.heap.size (fun k_ => some k_ ≠ (v1_ : Value).ownBlock) v2_ r3 ∧ Below w.heap.size w w' := by
 unfold impl_RunMachine.f at h
 obtain ⟨t, ht, h1⟩ := Option.bind_eq_some_iff.1 h
 clear h
 have HR0 := Ak hr0
 have HR1 := Ak hr1_1
 have HR2 := Ak hr1_2
 have HC0 := Ak hc0
 have HC1 := Ak hc1_1
 have HC2 := Ak hc1_2
 have HT := Ak ht
 clear hr0 hr1_1 hr1_2 hc0 hc1_1 hc1_2 ht
 have HX := Ak (impl_RunMachine.Bx.start w a1_0 (.slice A1_1 l1_1.length c1_1) (.slice A1_2 l1_2.length c1_2))
 cases t with
 | false =>
  rw [if_neg (by simp)] at h1
  obtain ⟨rfl, rfl, rfl, rfl⟩ : 0 = r1 ∧ [] = r2 ∧ [] = r3 ∧ 0 = r4 := by simpa using h1
  clear h1
  go_enter Try.func20, Try.ntmps20
  go_upto_region 1 with fail
  generalize (w.alloc (.cells #[.int .i64 a1_0, .slice A1_1 l1_1.length c1_1, .slice A1_2 l1_2.length c1_2] 28)).alloc (.cells #[.int .i64 0, .slice none 0 0, .slice none 0 0] 28) = W at HX ⊢
  obtain ⟨g4, hg4⟩ : ∃ g, g = w.heap.size + 1 := ⟨_, rfl⟩
  obtain ⟨g3, hg3⟩ : ∃ g, g = w.heap.size := ⟨_, rfl⟩
  rw [← hg4] at HX ⊢
  rw [← hg3] at ⊢
  replace HX := Ak (show impl_RunMachine.Bx w W g3 g4 a1_0 (.slice A1_1 l1_1.length c1_1) (.slice A1_2 l1_2.length c1_2) by rw [hg3]; exact HX.out)
  clear hg3 hg4
  obtain ⟨m0, m1, m2, f0, f1, f2, y0, y1, y2⟩ := HX.out.cells
  go_wp2_with ((go_at_call 41; with_reducible refine (impl_IsMachine.calls k A0 c0 l0 a1_0 A1_1 c1_1 l1_1 A1_2 c1_2 l1_2 false _ (Kd.C_below HR0.out HX.out.b) HC0.out (Kd.C_below HR1.out HX.out.b) HC1.out (Kd.C_below HR2.out HX.out.b) HC2.out HT.out).mono ?_; rintro e w2 ⟨rfl, hb⟩); have HX2 := Ak (HX.out.below hb); obtain ⟨o0, o1, o2, p0, p1, p2, q0, q1, q2⟩ := HX2.out.cells; clear hb)
  refine bodyPost_ret (results_ct rfl _ _ g4 28 #[.int .i64 0, .slice none 0 0, .slice none 0 0] (0, 0) _ rfl (blk_put (cs := #[.int .i64 0, .slice none 0 0, .slice none 0 0]) (blk_put (cs := #[.int .i64 0, .slice none 0 0, .slice none 0 0]) (blk_put (cs := #[.int .i64 0, .slice none 0 0, .slice none 0 0]) HX2.out.b4 0 _ rfl) 1 _ rfl) 2 _ rfl) Try.underlying28 rfl (by kernel_rfl)) rfl ?_
  exact ⟨_, _, rfl, Kd.R_nil _ _ _ _ _, Kd.R_nil _ _ _ _ _, below_set (below_set (below_set HX2.out.b HX2.out.h4) HX2.out.h4) HX2.out.h4⟩
 | true =>
  rw [if_pos rfl] at h1
  by_cases ha : a2 < 0 ∨ 2000 < a2
  ·rw [if_pos ha] at h1
   obtain ⟨rfl, rfl, rfl, rfl⟩ : 0 = r1 ∧ [] = r2 ∧ [] = r3 ∧ 0 = r4 := by simpa using h1
   clear h1
   rcases ha with ha | ha
   ·have b1 : decide (a2 < 0) = true := decide_eq_true ha
    clear ha
    go_enter Try.func20, Try.ntmps20
    go_upto_region 1 with fail
    generalize (w.alloc (.cells #[.int .i64 a1_0, .slice A1_1 l1_1.length c1_1, .slice A1_2 l1_2.length c1_2] 28)).alloc (.cells #[.int .i64 0, .slice none 0 0, .slice none 0 0] 28) = W at HX ⊢
    obtain ⟨g4, hg4⟩ : ∃ g, g = w.heap.size + 1 := ⟨_, rfl⟩
    obtain ⟨g3, hg3⟩ : ∃ g, g = w.heap.size := ⟨_, rfl⟩
    rw [← hg4] at HX ⊢
    rw [← hg3] at ⊢
    replace HX := Ak (show impl_RunMachine.Bx w W g3 g4 a1_0 (.slice A1_1 l1_1.length c1_1) (.slice A1_2 l1_2.length c1_2) by rw [hg3]; exact HX.out)
    clear hg3 hg4
    obtain ⟨m0, m1, m2, f0, f1, f2, y0, y1, y2⟩ := HX.out.cells
    go_wp2_with ((go_at_call 41; with_reducible refine (impl_IsMachine.calls k A0 c0 l0 a1_0 A1_1 c1_1 l1_1 A1_2 c1_2 l1_2 true _ (Kd.C_below HR0.out HX.out.b) HC0.out (Kd.C_below HR1.out HX.out.b) HC1.out (Kd.C_below HR2.out HX.out.b) HC2.out HT.out).mono ?_; rintro e w2 ⟨rfl, hb⟩); have HX2 := Ak (HX.out.below hb); obtain ⟨o0, o1, o2, p0, p1, p2, q0, q1, q2⟩ := HX2.out.cells; clear hb)
    refine bodyPost_ret (results_ct rfl _ _ g4 28 #[.int .i64 0, .slice none 0 0, .slice none 0 0] (0, 0) _ rfl (blk_put (cs := #[.int .i64 0, .slice none 0 0, .slice none 0 0]) (blk_put (cs := #[.int .i64 0, .slice none 0 0, .slice none 0 0]) (blk_put (cs := #[.int .i64 0, .slice none 0 0, .slice none 0 0]) HX2.out.b4 0 _ rfl) 1 _ rfl) 2 _ rfl) Try.underlying28 rfl (by kernel_rfl)) rfl ?_
    exact ⟨_, _, rfl, Kd.R_nil _ _ _ _ _, Kd.R_nil _ _ _ _ _, below_set (below_set (below_set HX2.out.b HX2.out.h4) HX2.out.h4) HX2.out.h4⟩
   ·have b1 : decide (a2 < 0) = false := decide_eq_false (by omega)
    have b2 : decide (2000 < a2) = true := decide_eq_true ha
    clear ha
    go_enter Try.func20, Try.ntmps20
    go_upto_region 1 with fail
    generalize (w.alloc (.cells #[.int .i64 a1_0, .slice A1_1 l1_1.length c1_1, .slice A1_2 l1_2.length c1_2] 28)).alloc (.cells #[.int .i64 0, .slice none 0 0, .slice none 0 0] 28) = W at HX ⊢
    obtain ⟨g4, hg4⟩ : ∃ g, g = w.heap.size + 1 := ⟨_, rfl⟩
    obtain ⟨g3, hg3⟩ : ∃ g, g = w.heap.size := ⟨_, rfl⟩
    rw [← hg4] at HX ⊢
    rw [← hg3] at ⊢
    replace HX := Ak (show impl_RunMachine.Bx w W g3 g4 a1_0 (.slice A1_1 l1_1.length c1_1) (.slice A1_2 l1_2.length c1_2) by rw [hg3]; exact HX.out)
    clear hg3 hg4
    obtain ⟨m0, m1, m2, f0, f1, f2, y0, y1, y2⟩ := HX.out.cells
    go_wp2_with ((go_at_call 41; with_reducible refine (impl_IsMachine.calls k A0 c0 l0 a1_0 A1_1 c1_1 l1_1 A1_2 c1_2 l1_2 true _ (Kd.C_below HR0.out HX.out.b) HC0.out (Kd.C_below HR1.out HX.out.b) HC1.out (Kd.C_below HR2.out HX.out.b) HC2.out HT.out).mono ?_; rintro e w2 ⟨rfl, hb⟩); have HX2 := Ak (HX.out.below hb); obtain ⟨o0, o1, o2, p0, p1, p2, q0, q1, q2⟩ := HX2.out.cells; clear hb)
    refine bodyPost_ret (results_ct rfl _ _ g4 28 #[.int .i64 0, .slice none 0 0, .slice none 0 0] (0, 0) _ rfl (blk_put (cs := #[.int .i64 0, .slice none 0 0, .slice none 0 0]) (blk_put (cs := #[.int .i64 0, .slice none 0 0, .slice none 0 0]) (blk_put (cs := #[.int .i64 0, .slice none 0 0, .slice none 0 0]) HX2.out.b4 0 _ rfl) 1 _ rfl) 2 _ rfl) Try.underlying28 rfl (by kernel_rfl)) rfl ?_
    exact ⟨_, _, rfl, Kd.R_nil _ _ _ _ _, Kd.R_nil _ _ _ _ _, below_set (below_set (below_set HX2.out.b HX2.out.h4) HX2.out.h4) HX2.out.h4⟩
  ·rw [if_neg ha] at h1
   obtain ⟨⟨pc0, st0, cl0⟩, hcp, hlp⟩ := Option.bind_eq_some_iff.1 h1
   clear h1
   obtain ⟨N, rfl⟩ : ∃ N : Nat, a2 = (N : Int) := ⟨a2.toNat, by omega⟩
   have hN : N ≤ 2000 := by omega
   clear ha
   rw [Int.toNat_natCast] at hlp
   dsimp only at hlp
   replace hcp := Ak hcp
   replace hlp := Ak hlp
   have b1 : decide ((N : Int) < 0) = false := decide_eq_false (by omega)
   have b2 : decide (2000 < (N : Int)) = false := decide_eq_false (by omega)
   go_enter Try.func20, Try.ntmps20
   go_upto_region 1 with fail
   generalize (w.alloc (.cells #[.int .i64 a1_0, .slice A1_1 l1_1.length c1_1, .slice A1_2 l1_2.length c1_2] 28)).alloc (.cells #[.int .i64 0, .slice none 0 0, .slice none 0 0] 28) = W at HX ⊢
   obtain ⟨g4, hg4⟩ : ∃ g, g = w.heap.size + 1 := ⟨_, rfl⟩
   obtain ⟨g3, hg3⟩ : ∃ g, g = w.heap.size := ⟨_, rfl⟩
   rw [← hg4] at HX ⊢
   rw [← hg3] at ⊢
   replace HX := Ak (show impl_RunMachine.Bx w W g3 g4 a1_0 (.slice A1_1 l1_1.length c1_1) (.slice A1_2 l1_2.length c1_2) by rw [hg3]; exact HX.out)
   clear hg3 hg4
   obtain ⟨m0, m1, m2, f0, f1, f2, y0, y1, y2⟩ := HX.out.cells
   go_upto_region 4 with (first | ((go_at_call 41; with_reducible refine (impl_IsMachine.calls k A0 c0 l0 a1_0 A1_1 c1_1 l1_1 A1_2 c1_2 l1_2 true _ (Kd.C_below HR0.out HX.out.b) HC0.out (Kd.C_below HR1.out HX.out.b) HC1.out (Kd.C_below HR2.out HX.out.b) HC2.out HT.out).mono ?_; rintro e w2 ⟨rfl, hb⟩); have HX2 := Ak (HX.out.below hb); obtain ⟨o0, o1, o2, p0, p1, p2, q0, q1, q2⟩ := HX2.out.cells; clear hb) | ((go_at_call 42; with_reducible refine (impl_copyMachine.calls a1_0 A1_1 c1_1 l1_1 A1_2 c1_2 l1_2 pc0 st0 cl0 _ (Kd.C_below HR1.out HX2.out.b) HC1.out (Kd.C_below HR2.out HX2.out.b) HC2.out hcp.out).mono ?_; rintro e w3 ⟨v1, v2, rfl, hv1, hv2, hb⟩); obtain ⟨B1, d1, rfl⟩ := Kd.R_slice hv1; obtain ⟨B2, d2, rfl⟩ := Kd.R_slice hv2; have HV1 := Ak hv1; have HV2 := Ak hv2; have HB3 := Ak hb; clear hv1 hv2 hb o0 o1 o2 p0 p1 p2 q0 q1 q2))
   have HX5 := Ak ((HX2.out.below HB3.out).alloc (.cells #[.int .i64 pc0, .slice B1 st0.length d1, .slice B2 cl0.length d2] 28))
   have HM := Ak (impl_RunMachine.mk (pc := pc0) HV1.out HV2.out HB3.out)
   have hz2 := Ak HX2.out.b.size
   generalize w3.alloc (.cells #[.int .i64 pc0, .slice B1 st0.length d1, .slice B2 cl0.length d2] 28) = w5 at HX5 HM ⊢
   generalize w3.heap.size = gm at HM ⊢
   clear HV1 HV2 HB3 HX5 m0 m1 m2 f0 f1 f2 y0 y1 y2 b1 b2
   go_wp2
   go_loopg [26] N (fun gg s26 wr => ∃ (ii : Nat) (pc : Int) (st cl : List Int) (vs vc : Value), ii ≤ N ∧ N - ii ≤ gg ∧ s26 = .int .i64 ii ∧ Aside0 (impl_RunMachine.loop k l0 (N - ii) pc st cl = some (r1, r2, r3, r4)) ∧ Aside0 (impl_step.Held w2 wr gm pc vs vc st cl))
   case atStart => exact ⟨0, pc0, st0, cl0, _, _, Nat.zero_le _, by omega, rfl, hlp, HM⟩
   case round =>
    clear hlp HM
    obtain ⟨ii, pc, st, cl, vs, vc, hii, hgi, rfl, hlp, HM⟩ := hrel
    have HXa := Ak (HX2.out.below HM.out.b)
    have HCC := Ak (Kd.C_below HR0.out HXa.out.b)
    by_cases hlt : ii < N
    ·have hltz : decide ((ii : Int) < (N : Int)) = true := decide_eq_true (by omega)
     have hl1 := hlp.out
     rw [show N - ii = (N - (ii + 1)) + 1 by omega, impl_RunMachine.loop] at hl1
     obtain ⟨⟨how, pc', st', cl'⟩, hst, h2⟩ := Option.bind_eq_some_iff.1 hl1
     dsimp only at h2
     clear hl1 hlp HXa
     replace hst := Ak hst
     by_cases hh : how = 0
     ·rw [if_pos hh] at h2
      have hb0 : (how != 0) = false := bne_eq_false_iff_eq.mpr hh
      replace h2 := Ak h2
      clear hh
      have hk1 : ii + 1 ≤ N := hlt
      have hltN : (ii < N) = True := eq_true hlt
      go_wp2_with ((go_at_call 43; with_reducible refine (impl_step.calls0 k A0 c0 l0 gm pc _ _ st cl w2 _ HCC.out HM.out how pc' st' cl' hst.out).mono ?_; rintro e w6 ⟨rfl, v3, v4, hH⟩); replace hH := Ak hH)
      go_roundg (N - (ii + 1))
      case measure => omega
      case rel => exact ⟨ii + 1, pc', st', cl', _, _, by omega, by omega, by go_num, h2, hH⟩
     ·rw [if_neg hh] at h2
      have hb0 : (how != 0) = true := bne_iff_ne.mpr hh
      obtain ⟨rfl, rfl, rfl, rfl⟩ : pc' = r1 ∧ st' = r2 ∧ cl' = r3 ∧ how = r4 := by simpa using h2
      clear hh h2
      have hltN : (ii < N) = True := eq_true hlt
      go_wp2_with ((go_at_call 43; with_reducible refine (impl_step.calls0 k A0 c0 l0 gm pc _ _ st cl w2 _ HCC.out HM.out how pc' st' cl' hst.out).mono ?_; rintro e w6 ⟨rfl, v3, v4, hH⟩); obtain ⟨B3, d3, rfl⟩ := Kd.R_slice hH.s; obtain ⟨B4, d4, rfl⟩ := Kd.R_slice hH.c; have HX6 := Ak (HX2.out.below hH.b); obtain ⟨i0, i1, i2⟩ := impl_RunMachine.mcells hH; obtain ⟨o0, o1, o2, p0, p1, p2, q0, q1, q2⟩ := HX6.out.cells; replace hH := Ak hH)
      refine bodyPost_ret (results_ct rfl _ _ g4 28 #[.int .i64 pc', .slice B3 st'.length d3, .slice B4 cl'.length d4] (0, 0) _ rfl (HX6.out.out _ _ _) Try.underlying28 rfl (by kernel_rfl)) rfl ?_
      exact ⟨_, _, rfl, HX6.out.row _ _ _ hH.out.s hz2.out, HX6.out.row _ _ _ hH.out.c hz2.out, below_set (below_set (below_set HX6.out.b HX6.out.h4) HX6.out.h4) HX6.out.h4⟩
    ·have hltz : decide ((ii : Int) < (N : Int)) = false := decide_eq_false (by omega)
     have hl1 := hlp.out
     rw [show N - ii = 0 by omega, impl_RunMachine.loop] at hl1
     obtain ⟨rfl, rfl, rfl, rfl⟩ : pc = r1 ∧ st = r2 ∧ cl = r3 ∧ 5 = r4 := by simpa using hl1
     clear hl1 hlp
     have hltN : (ii < N) = False := eq_false (by omega)
     obtain ⟨B3, d3, rfl⟩ := Kd.R_slice HM.out.s
     obtain ⟨B4, d4, rfl⟩ := Kd.R_slice HM.out.c
     have HX6 := HXa
     have hH := HM
     obtain ⟨i0, i1, i2⟩ := impl_RunMachine.mcells HM.out
     obtain ⟨o0, o1, o2, p0, p1, p2, q0, q1, q2⟩ := HX6.out.cells
     go_wp2
     refine bodyPost_ret (results_ct rfl _ _ g4 28 #[.int .i64 pc, .slice B3 st.length d3, .slice B4 cl.length d4] (0, 0) _ rfl (HX6.out.out _ _ _) Try.underlying28 rfl (by kernel_rfl)) rfl ?_
     exact ⟨_, _, rfl, HX6.out.row _ _ _ hH.out.s hz2.out, HX6.out.row _ _ _ hH.out.c hz2.out, below_set (below_set (below_set HX6.out.b HX6.out.h4) HX6.out.h4) HX6.out.h4⟩

/-! ### laws_ints: function 25 -/
def laws_ints.l0 : Nat → List Int → List Int → Int → Int → Option (Bool)
 | 0, _, _, _, _ => none
 | k + 1, x0, x1, x12, x13 => if x13 < x12 then (if 0 ≤ x13 then (if x13 < (x0.length : Int) then (if x13 < (x1.length : Int) then (if (rd x0 x13) = (rd x1 x13) then (laws_ints.l0 k x0 x1 x12 (wrap64 (x13 + 1))) else (some false)) else (none)) else (none)) else (none)) else (some true)
def laws_ints.f (k : Nat) (l0 : List Int) (l1 : List Int) : Option (Bool) := if (l0.length : Int) = (l1.length : Int) then (laws_ints.l0 k l0 l1 (l0.length : Int) 0) else (some false)
theorem laws_ints.mono_l : ∀ k, (∀ y0 y1 y2 y3, LeO (laws_ints.l0 k y0 y1 y2 y3) (laws_ints.l0 (k + 1) y0 y1 y2 y3))
 | 0 => fun _ _ _ _ r h => by simp [laws_ints.l0] at h
 | k + 1 => by
  have ih0 := laws_ints.mono_l k
  ·intro y0 y1 y2 y3
   unfold laws_ints.l0
   repeat' first
   | (with_reducible exact ih0 _ _ _ _)
   | (with_reducible exact LeO.refl _)
   | (with_reducible exact LeO.none _)
   | (with_reducible refine LeO.ite ?_ ?_)
   | (with_reducible refine LeO.bind ?_ (fun _ => ?_))
   | exact ih0 _ _ _ _
   | exact LeO.none _
   | refine LeO.ite ?_ ?_
   | refine LeO.bind ?_ (fun _ => ?_)
theorem laws_ints.mono : ∀ a0 a1 k, LeO (laws_ints.f k a0 a1) (laws_ints.f (k + 1) a0 a1) := by
 intro a0 a1 k
 have ih0 := laws_ints.mono_l k
 unfold laws_ints.f
 repeat' first
   | (with_reducible exact ih0 _ _ _ _)
   | (with_reducible exact LeO.refl _)
   | (with_reducible exact LeO.none _)
   | (with_reducible refine LeO.ite ?_ ?_)
   | (with_reducible refine LeO.bind ?_ (fun _ => ?_))
   | exact ih0 _ _ _ _
   | exact LeO.none _
   | refine LeO.ite ?_ ?_
   | refine LeO.bind ?_ (fun _ => ?_)
theorem laws_ints.calls (k : Nat) (A0 : Option Addr) (c0 : Nat) (l0 : List Int) (A1 : Option Addr) (c1 : Nat) (l1 : List Int) (r : Bool) (w : World) (hr0 : Kd.C (Kd.int .i64) w A0 l0.length l0) (hc0 : l0.length ≤ c0) (hr1 : Kd.C (Kd.int .i64) w A1 l1.length l1) (hc1 : l1.length ≤ c1) (h : laws_ints.f k l0 l1 = some r) :
  Calls Try.prog 25 #[.slice A0 l0.length c0, .slice A1 l1.length c1] w fun e w' => e = .returned (.bool r) ∧ Drawn0 w w' := by
 have HR0 := Ak hr0
 have HC0 := Ak hc0
 clear hr0 hc0
 have HR1 := Ak hr1
 have HC1 := Ak hc1
 clear hr1 hc1
 have H : (if (l0.length : Int) = (l1.length : Int) then (laws_ints.l0 k l0 l1 (l0.length : Int) 0) else (some false)) = some r := h
 clear h
 by_cases c3 : (l0.length : Int) = (l1.length : Int)
 ·rw [if_pos c3] at H
  have c3b0 : ((l0.length : Int) == (l1.length : Int)) = true := beq_iff_eq.mpr c3
  have c3b1 : ((l0.length : Int) != (l1.length : Int)) = false := bne_eq_false_iff_eq.mpr c3
  have c3b2 : (l0.length == l1.length) = true := by first | simpa using c3 | (simp at c3 ⊢; omega)
  clear c3
  have H' := Ak H
  clear H
  go_enter Try.func25, Try.ntmps25
  go_wp2
  repeat (go_quiet (fail); try go_wp2)
  go_loopg [13] k (fun kq v13 w' => ∃ (x13_1 : Int), v13 = .int .i64 x13_1 ∧ Aside0 (laws_ints.l0 kq l0 l1 (l0.length : Int) x13_1 = some r) ∧ Aside0 (kq ≤ k) ∧ Drawn0 w w')
  case atStart => exact ⟨(0), Qi, H', ⟨Nat.le_refl _⟩, Ql⟩
  case round =>
   clear H'
   (try clear c1); (try clear c2); (try clear p2); (try clear c3); (try clear c3b0); (try clear c3b1); (try clear c3b2)
   obtain ⟨x13_1, rfl, HA, HK1, ⟨m1, rfl⟩⟩ := hrel
   cases gk with
   | zero => exact absurd HA.out (by simp [laws_ints.l0])
   | succ k1 =>
    have H := HA.out
    clear HA
    simp only [laws_ints.l0] at H
    by_cases c4 : x13_1 < (l0.length : Int)
    ·rw [if_pos c4] at H
     have c4b0 : decide (x13_1 < (l0.length : Int)) = true := decide_eq_true c4
     clear c4
     by_cases c5 : 0 ≤ x13_1
     ·rw [if_pos c5] at H
      have c5b0 : decide (0 ≤ x13_1) = true := decide_eq_true c5
      clear c5
      by_cases c6 : x13_1 < (l0.length : Int)
      ·rw [if_pos c6] at H
       have c6b0 : decide (x13_1 < (l0.length : Int)) = true := decide_eq_true c6
       clear c6
       by_cases c7 : x13_1 < (l1.length : Int)
       ·rw [if_pos c7] at H
        have c7b0 : decide (x13_1 < (l1.length : Int)) = true := decide_eq_true c7
        clear c7
        by_cases c8 : (rd l0 x13_1) = (rd l1 x13_1)
        ·rw [if_pos c8] at H
         have c8b0 : ((rd l0 x13_1) == (rd l1 x13_1)) = true := beq_iff_eq.mpr c8
         have c8b1 : ((rd l0 x13_1) != (rd l1 x13_1)) = false := bne_eq_false_iff_eq.mpr c8
         clear c8
         have H' := Ak H
         clear H
         have p180 : 0 ≤ (x13_1 : Int) := Qg
         have q180 : x13_1 < (l0.length : Int) := Qg
         obtain ⟨ad180, e180, hx180_0⟩ := Kd.at_int HR0.out x13_1 p180 q180
         cases e180
         replace p180 := eq_true p180
         replace q180 := eq_true q180
         have p181 : 0 ≤ (x13_1 : Int) := Qg
         have q181 : x13_1 < (l1.length : Int) := Qg
         obtain ⟨ad181, e181, hx181_0⟩ := Kd.at_int HR1.out x13_1 p181 q181
         cases e181
         replace p181 := eq_true p181
         replace q181 := eq_true q181
         go_wp2
         repeat (go_quiet (fail); try go_wp2)
         go_roundg k1
         case measure => have := HK1.out; omega
         case rel => exact ⟨(wrap64 (x13_1 + 1)), Qi, H', ⟨by have := HK1.out; omega⟩, Ql⟩
        ·rw [if_neg c8] at H
         have c8b0 : ((rd l0 x13_1) == (rd l1 x13_1)) = false := beq_eq_false_iff_ne.mpr c8
         have c8b1 : ((rd l0 x13_1) != (rd l1 x13_1)) = true := bne_iff_ne.mpr c8
         obtain rfl := Option.some.inj H
         have p180 : 0 ≤ (x13_1 : Int) := Qg
         have q180 : x13_1 < (l0.length : Int) := Qg
         obtain ⟨ad180, e180, hx180_0⟩ := Kd.at_int HR0.out x13_1 p180 q180
         cases e180
         replace p180 := eq_true p180
         replace q180 := eq_true q180
         have p181 : 0 ≤ (x13_1 : Int) := Qg
         have q181 : x13_1 < (l1.length : Int) := Qg
         obtain ⟨ad181, e181, hx181_0⟩ := Kd.at_int HR1.out x13_1 p181 q181
         cases e181
         replace p181 := eq_true p181
         replace q181 := eq_true q181
         go_wp2
         repeat (go_quiet (fail); try go_wp2)
         go_ret
         exact ⟨Qi, Ql⟩
       ·rw [if_neg c7] at H
        exact absurd H (by simp)
      ·rw [if_neg c6] at H
       exact absurd H (by simp)
     ·rw [if_neg c5] at H
      exact absurd H (by simp)
    ·rw [if_neg c4] at H
     have c4b0 : decide (x13_1 < (l0.length : Int)) = false := decide_eq_false c4
     clear c4
     obtain rfl := Option.some.inj H
     go_wp2
     repeat (go_quiet (fail); try go_wp2)
     go_ret
     exact ⟨Qi, Ql⟩
 ·rw [if_neg c3] at H
  have c3b0 : ((l0.length : Int) == (l1.length : Int)) = false := beq_eq_false_iff_ne.mpr c3
  have c3b1 : ((l0.length : Int) != (l1.length : Int)) = true := bne_iff_ne.mpr c3
  have c3b2 : (l0.length == l1.length) = false := by first | simpa using c3 | (simp at c3 ⊢; omega)
  obtain rfl := Option.some.inj H
  go_enter Try.func25, Try.ntmps25
  go_wp2
  repeat (go_quiet (fail); try go_wp2)
  go_ret
  exact ⟨Qi, Ql⟩

/-! ### laws_at: function 26 -/
def laws_at.f (l0 : List Int) (a1 : Int) : Option (Int) := if a1 < (l0.length : Int) then (if 0 ≤ a1 then (some (wrap64 (rd l0 a1))) else (none)) else (some (Int.tmod (wrap64 ((wrap64 (a1 * 37)) + (wrap64 ((l0.length : Int) * 11)))) 256))
theorem laws_at.calls (A0 : Option Addr) (c0 : Nat) (l0 : List Int) (a1 : Int) (r : Int) (w : World) (hr0 : Kd.C (Kd.int .u8) w A0 l0.length l0) (hc0 : l0.length ≤ c0) (h : laws_at.f l0 a1 = some r) :
  Calls Try.prog 26 #[.slice A0 l0.length c0, .int .i64 a1] w fun e w' => e = .returned (.int .i64 r) ∧ Drawn0 w w' := by
 have HR0 := Ak hr0
 have HC0 := Ak hc0
 clear hr0 hc0
 have H : (if a1 < (l0.length : Int) then (if 0 ≤ a1 then (some (wrap64 (rd l0 a1))) else (none)) else (some (Int.tmod (wrap64 ((wrap64 (a1 * 37)) + (wrap64 ((l0.length : Int) * 11)))) 256))) = some r := h
 clear h
 by_cases c3 : a1 < (l0.length : Int)
 ·rw [if_pos c3] at H
  have c3b0 : decide (a1 < (l0.length : Int)) = true := decide_eq_true c3
  clear c3
  by_cases c4 : 0 ≤ a1
  ·rw [if_pos c4] at H
   have c4b0 : decide (0 ≤ a1) = true := decide_eq_true c4
   clear c4
   obtain rfl := Option.some.inj H
   have p182 : 0 ≤ (a1 : Int) := Qg
   have q182 : a1 < (l0.length : Int) := Qg
   obtain ⟨ad182, e182, hx182_0⟩ := Kd.at_int HR0.out a1 p182 q182
   cases e182
   replace p182 := eq_true p182
   replace q182 := eq_true q182
   go_enter Try.func26, Try.ntmps26
   go_wp2
   go_ret
   exact ⟨Qi, Ql⟩
  ·rw [if_neg c4] at H
   exact absurd H (by simp)
 ·rw [if_neg c3] at H
  have c3b0 : decide (a1 < (l0.length : Int)) = false := decide_eq_false c3
  clear c3
  obtain rfl := Option.some.inj H
  go_enter Try.func26, Try.ntmps26
  go_wp2
  go_ret
  exact ⟨Qi, Ql⟩

/-! ### impl_NewMachine: function 28 -/
def impl_NewMachine.f  : Option (Int × List Int × List Int) := if 27 ≤ 35184372088832 then (some (0, ([] : List Int), (List.replicate 27 0))) else (none)
theorem impl_NewMachine.calls  (r1 : Int) (r2 : List Int) (r3 : List Int) (w : World) (h : impl_NewMachine.f  = some (r1, r2, r3)) :
  Calls Try.prog 28 #[] w fun e w' => ∃ v1_ v2_ : Value, e = .returned (.agg #[.int .i64 r1, v1_, v2_]) ∧ Kd.R (Kd.int .i64) 3 w' w.heap.size (fun k_ => some k_ ≠ (v2_ : Value).ownBlock) v1_ r2 ∧ Kd.R (Kd.int .i64) 3 w' w.heap.size (fun k_ => some k_ ≠ (v1_ : Value).ownBlock) v2_ r3 ∧ Below w.heap.size w w' := by
 have hu28 := Try.underlying28
 have HB := Ak (Below.refl w.heap.size w)
 have H : (if 27 ≤ 35184372088832 then (some (0, ([] : List Int), (List.replicate 27 0))) else (none)) = some (r1, r2, r3) := h
 clear h
 by_cases c1 : 27 ≤ 35184372088832
 ·rw [if_pos c1] at H
  have c1b0 := eq_true c1
  have c1b1 : decide (27 ≤ 35184372088832) = true := decide_eq_true c1
  clear c1
  obtain ⟨y184, hy184⟩ : ∃ y_ : List Int, y_ = (List.replicate 27 0) := ⟨_, rfl⟩
  replace H : (some (0, ([] : List Int), y184)) = some (r1, r2, r3) := by first | (rw [hy184]; with_reducible exact H) | (have H2_ := (Option.bind_some _ _).symm.trans H; rw [hy184]; with_reducible exact H2_) | (have H2_ := (Option.bind_some _ _).symm.trans H; with_reducible exact H2_) | with_reducible exact H | (rw [hy184]; exact H) | exact H
  have Ny184 := Ak hy184
  clear hy184
  simp only [Option.some.injEq, Prod.mk.injEq] at H
  obtain ⟨rfl, rfl, rfl⟩ := H
  go_enter Try.func28, Try.ntmps28
  go_wp2_with (first | ((with_reducible refine gate_dst (N := 0) rfl ?_); refine Qk 0 #[.int .i64 0, .slice none 0 0, .slice none 0 0] 28 ?_; intro gb183 hg w2 hbox hb; have n0_ := Ak (below_step (Qb HB.out) hb); have n1_ := Ak (hbox); have n2_ := Ak ((Qp hg HB.out : w.heap.size ≤ gb183)); have n3_ := Ak ((Qp hg HB.out : w.heap.size ≤ gb183)); clear HB; have HB := n0_; have BK183 := n1_; have GW183 := n2_; have GE183 := n3_; clear n0_ n1_ n2_ n3_; clear hb hbox hg) | ((with_reducible refine gate_dst (N := 1) rfl ?_); refine Kd.R_make (Kd.int .i64) _ 3 rfl (N := 1) rfl 23 _ _ rfl 27 rfl rfl Try.underlying23 (.int .i64 0) 8 info3 rfl (by decide) (by omega) 0 (ok := fun _ => True) (okp := fun _ => True) rfl (fun _ hk => hk) trivial (by omega) (by omega) (Below.refl _ _) (Nat.le_refl _) ?_; intro v185 w3 ho4 hb hg_ hnew_; clear hg_ hnew_; (first | rw [← Ny184.out] at ho4 | (simp only [Int.reduceToNat] at ho4; rw [← Ny184.out] at ho4)); have n0_ := Ak (Kd.R_lower ho4 (below_size (Qb HB.out))); have n1_ := Ak (Qm BK183.out hb); have n2_ := Ak (below_step (Qb HB.out) hb); clear BK183 HB; have HO186 := n0_; have BK183 := n1_; have HB := n2_; clear n0_ n1_ n2_; clear hb ho4; obtain ⟨Ao5, co5, eo5⟩ := Kd.R_slice HO186.out; subst eo5; obtain ⟨hcz6_0, hcz6_1, hcz6_2⟩ := Qu3 BK183.out; have hfz6_0 := blk_frozen BK183.out 0; have hfz6_1 := blk_frozen BK183.out 1; have hfz6_2 := blk_frozen BK183.out 2))
  refine bodyPost_ret (results_cell_row rfl _ _ gb183 28 #[.int .i64 0, .slice none 0 0, .slice Ao5 y184.length co5] (0, 0) _ rfl (by refine Qe ?_; refine blk_put (cs := #[.int .i64 0, .slice none 0 0, .slice none 0 0]) ?_ 2 _ rfl; refine Qe ?_; refine blk_put (cs := #[.int .i64 0, .slice none 0 0, .slice none 0 0]) ?_ 1 _ rfl; refine Qe ?_; refine blk_put (cs := #[.int .i64 0, .slice none 0 0, .slice none 0 0]) ?_ 0 _ rfl; exact Qa BK183.out) Try.underlying28 rfl (by kernel_rfl)) rfl ?_
  exact ⟨_, _, Qh, by first | exact Kd.R_nil _ _ _ _ _ | exact Kd.N_nil _ _ _ _ _ | exact Kd.V_nil _ _ _ _ _ | exact Kd.Q_nil _ _ _ _ _ | exact Kd.S_nil _ _ _ _ _, by refine Qf ?_; exact Kd.R_mono (Kd.R_far (p := ⟨gb183, 2, none⟩) (Kd.R_far (p := ⟨gb183, 1, none⟩) (Kd.R_far (p := ⟨gb183, 0, none⟩) (Kd.R_types HO186.out BK183.out (by decide)) (fun _ hk => hk.2) (.int .i64 0)) (fun _ hk => hk.2) (.slice none 0 0)) (fun _ hk => hk.2) (.slice Ao5 y184.length co5)) (fun _ hk => (by simp [Value.ownBlock])), Qb HB.out⟩
 ·rw [if_neg c1] at H
  exact absurd H (by simp)

/-! ### spec_l1In: function 48 -/
def spec_l1In.f (a0 : Int) (a1 : Int) (a2 : Int) : Option (Bool) := if a0 ≥ a1 then (some (decide (a0 ≤ a2))) else (some false)
theorem spec_l1In.calls (a0 : Int) (a1 : Int) (a2 : Int) (r : Bool) (w : World) (h : spec_l1In.f a0 a1 a2 = some r) :
  Calls Try.prog 48 #[.int .i64 a0, .int .i64 a1, .int .i64 a2] w fun e w' => e = .returned (.bool r) ∧ Drawn0 w w' := by
 have H : (if a0 ≥ a1 then (some (decide (a0 ≤ a2))) else (some false)) = some r := h
 clear h
 by_cases c4 : a0 ≥ a1
 ·rw [if_pos c4] at H
  have c4b0 : decide (a1 ≤ a0) = true := decide_eq_true c4
  clear c4
  obtain rfl := Option.some.inj H
  go_enter Try.func48, Try.ntmps48
  go_wp2
  go_ret
  exact ⟨Qi, Ql⟩
 ·rw [if_neg c4] at H
  have c4b0 : decide (a1 ≤ a0) = false := decide_eq_false c4
  clear c4
  obtain rfl := Option.some.inj H
  go_enter Try.func48, Try.ntmps48
  go_wp2
  go_ret
  exact ⟨Qi, Ql⟩

/-! ### spec_LimitOf: function 56 -/
def spec_LimitOf.l0 : Nat → Int → Int → Int → Option (Int)
 | 0, _, _, _ => none
 | k + 1, x0, x3, x4 => if x4 < x0 then (spec_LimitOf.l0 k x0 (wrap64 ((wrap64 (3 * x3)) + 1)) (wrap64 (x4 + 1))) else (some x3)
def spec_LimitOf.f (k : Nat) (a0 : Int) : Option (Int) := (spec_l1In.f a0 1 30).bind fun t187 => (if t187 = true then (spec_LimitOf.l0 k a0 0 0) else (some 0))
theorem spec_LimitOf.mono_l : ∀ k, (∀ y0 y1 y2, LeO (spec_LimitOf.l0 k y0 y1 y2) (spec_LimitOf.l0 (k + 1) y0 y1 y2))
 | 0 => fun _ _ _ r h => by simp [spec_LimitOf.l0] at h
 | k + 1 => by
  have ih0 := spec_LimitOf.mono_l k
  ·intro y0 y1 y2
   unfold spec_LimitOf.l0
   repeat' first
   | (with_reducible exact ih0 _ _ _)
   | (with_reducible exact LeO.refl _)
   | (with_reducible exact LeO.none _)
   | (with_reducible refine LeO.ite ?_ ?_)
   | (with_reducible refine LeO.bind ?_ (fun _ => ?_))
   | exact ih0 _ _ _
   | exact LeO.none _
   | refine LeO.ite ?_ ?_
   | refine LeO.bind ?_ (fun _ => ?_)
theorem spec_LimitOf.mono : ∀ a0 k, LeO (spec_LimitOf.f k a0) (spec_LimitOf.f (k + 1) a0) := by
 intro a0 k
 have ih0 := spec_LimitOf.mono_l k
 unfold spec_LimitOf.f
 repeat' first
   | (with_reducible exact ih0 _ _ _)
   | (with_reducible exact LeO.refl _)
   | (with_reducible exact LeO.none _)
   | (with_reducible refine LeO.ite ?_ ?_)
   | (with_reducible refine LeO.bind ?_ (fun _ => ?_))
   | exact ih0 _ _ _
   | exact LeO.none _
   | refine LeO.ite ?_ ?_
   | refine LeO.bind ?_ (fun _ => ?_)
theorem spec_LimitOf.calls (k : Nat) (a0 : Int) (r : Int) (w : World) (h : spec_LimitOf.f k a0 = some r) :
  Calls Try.prog 56 #[.int .i64 a0] w fun e w' => e = .returned (.int .i64 r) ∧ Drawn0 w w' := by
 have H : ((spec_l1In.f a0 1 30).bind fun t187 => (if t187 = true then (spec_LimitOf.l0 k a0 0 0) else (some 0))) = some r := h
 clear h
 replace H := Option.bind_eq_some_iff.mp H
 obtain ⟨t187, A20, H⟩ := H
 replace H : (if t187 = true then (spec_LimitOf.l0 k a0 0 0) else (some 0)) = some r := H
 have A2 := Ak A20
 clear A20
 by_cases c3 : t187 = true
 ·(try subst c3)
  have H1 : (spec_LimitOf.l0 k a0 0 0) = some r := by rw [if_pos rfl] at H; exact H
  clear H
  have H := H1
  clear H1
  have H' := Ak H
  clear H
  go_enter Try.func56, Try.ntmps56
  go_wp2_with (first | ((with_reducible refine gate_callee (f := 48) rfl ?_); refine Qj (some 6) Try.func48 #[.int .i64 a0, .int .i64 1, .int .i64 30] ?_; (with_reducible refine (spec_l1In.calls a0 1 30 true _ A2.out).mono ?_); rintro e w' ⟨rfl, ⟨nd, rfl⟩⟩; refine ⟨_, rfl, ?_⟩))
  go_loopg [3, 4] k (fun kq v3 v4 w' => ∃ (x3_1 : Int) (x4_1 : Int), v3 = .int .i64 x3_1 ∧ v4 = .int .i64 x4_1 ∧ Aside0 (spec_LimitOf.l0 kq a0 x3_1 x4_1 = some r) ∧ Aside0 (kq ≤ k) ∧ Drawn0 w w')
  case atStart => exact ⟨(0), (0), Qi, Qi, H', ⟨Nat.le_refl _⟩, Ql⟩
  case round =>
   clear H'
   (try clear p2); (try clear c3)
   obtain ⟨x3_1, x4_1, rfl, rfl, HA, HK1, ⟨m1, rfl⟩⟩ := hrel
   cases gk with
   | zero => exact absurd HA.out (by simp [spec_LimitOf.l0])
   | succ k1 =>
    have H := HA.out
    clear HA
    simp only [spec_LimitOf.l0] at H
    by_cases c4 : x4_1 < a0
    ·rw [if_pos c4] at H
     have c4b0 : decide (x4_1 < a0) = true := decide_eq_true c4
     clear c4
     have H' := Ak H
     clear H
     go_wp2
     go_roundg k1
     case measure => have := HK1.out; omega
     case rel => exact ⟨(wrap64 ((wrap64 (3 * x3_1)) + 1)), (wrap64 (x4_1 + 1)), Qi, Qi, H', ⟨by have := HK1.out; omega⟩, Ql⟩
    ·rw [if_neg c4] at H
     have c4b0 : decide (x4_1 < a0) = false := decide_eq_false c4
     clear c4
     obtain rfl := Option.some.inj H
     go_wp2
     go_ret
     exact ⟨Qi, Ql⟩
 ·replace c3 := Bool.eq_false_iff.mpr c3
  (try subst c3)
  have H1 : (some 0) = some r := by rw [if_neg (show ¬ (false = true) by decide)] at H; exact H
  clear H
  have H := H1
  clear H1
  obtain rfl := Option.some.inj H
  go_enter Try.func56, Try.ntmps56
  go_wp2_with (first | ((with_reducible refine gate_callee (f := 48) rfl ?_); refine Qj (some 6) Try.func48 #[.int .i64 a0, .int .i64 1, .int .i64 30] ?_; (with_reducible refine (spec_l1In.calls a0 1 30 false _ A2.out).mono ?_); rintro e w' ⟨rfl, ⟨nd, rfl⟩⟩; refine ⟨_, rfl, ?_⟩))
  go_ret
  exact ⟨Qi, Ql⟩

/-! ### spec_l2Word: function 57 -/
def spec_l2Word.l0 : Nat → Int → Int → List Int → Int → Option (List Int)
 | 0, _, _, _, _ => none
 | k + 1, x0, x1, x5, x6 => if x6 < x1 then (if (Int.tmod x0 3) > 1 then (if (wrap64 ((Int.tmod x0 3) - 3)) < (-1) then (if x5.length < 17592186044416 then (spec_l2Word.l0 k (wrap64 (Int.tdiv (wrap64 (x0 - (wrap64 ((wrap64 ((Int.tmod x0 3) - 3)) + 3)))) 3)) x1 (x5 ++ [wrap64 ((wrap64 ((Int.tmod x0 3) - 3)) + 3)]) (wrap64 (x6 + 1))) else (none)) else (if x5.length < 17592186044416 then (spec_l2Word.l0 k (wrap64 (Int.tdiv (wrap64 (x0 - (wrap64 ((Int.tmod x0 3) - 3)))) 3)) x1 (x5 ++ [wrap64 ((Int.tmod x0 3) - 3)]) (wrap64 (x6 + 1))) else (none))) else (if (Int.tmod x0 3) < (-1) then (if x5.length < 17592186044416 then (spec_l2Word.l0 k (wrap64 (Int.tdiv (wrap64 (x0 - (wrap64 ((Int.tmod x0 3) + 3)))) 3)) x1 (x5 ++ [wrap64 ((Int.tmod x0 3) + 3)]) (wrap64 (x6 + 1))) else (none)) else (if x5.length < 17592186044416 then (spec_l2Word.l0 k (wrap64 (Int.tdiv (wrap64 (x0 - (Int.tmod x0 3))) 3)) x1 (x5 ++ [Int.tmod x0 3]) (wrap64 (x6 + 1))) else (none)))) else (some x5)
def spec_l2Word.f (k : Nat) (a0 : Int) (a1 : Int) : Option (List Int) := spec_l2Word.l0 k a0 a1 (([] : List Int)) 0
theorem spec_l2Word.mono_l : ∀ k, (∀ y0 y1 y2 y3, LeO (spec_l2Word.l0 k y0 y1 y2 y3) (spec_l2Word.l0 (k + 1) y0 y1 y2 y3))
 | 0 => fun _ _ _ _ r h => by simp [spec_l2Word.l0] at h
 | k + 1 => by
  have ih0 := spec_l2Word.mono_l k
  ·intro y0 y1 y2 y3
   unfold spec_l2Word.l0
   repeat' first
   | (with_reducible exact ih0 _ _ _ _)
   | (with_reducible exact LeO.refl _)
   | (with_reducible exact LeO.none _)
   | (with_reducible refine LeO.ite ?_ ?_)
   | (with_reducible refine LeO.bind ?_ (fun _ => ?_))
   | exact ih0 _ _ _ _
   | exact LeO.none _
   | refine LeO.ite ?_ ?_
   | refine LeO.bind ?_ (fun _ => ?_)
theorem spec_l2Word.mono : ∀ a0 a1 k, LeO (spec_l2Word.f k a0 a1) (spec_l2Word.f (k + 1) a0 a1) := by
 intro a0 a1 k
 have ih0 := spec_l2Word.mono_l k
 unfold spec_l2Word.f
 repeat' first
   | (with_reducible exact ih0 _ _ _ _)
   | (with_reducible exact LeO.refl _)
   | (with_reducible exact LeO.none _)
   | (with_reducible refine LeO.ite ?_ ?_)
   | (with_reducible refine LeO.bind ?_ (fun _ => ?_))
   | exact ih0 _ _ _ _
   | exact LeO.none _
   | refine LeO.ite ?_ ?_
   | refine LeO.bind ?_ (fun _ => ?_)
theorem spec_l2Word.calls (k : Nat) (a0 : Int) (a1 : Int) (r : List Int) (w : World) (h : spec_l2Word.f k a0 a1 = some r) :
  Calls Try.prog 57 #[.int .i64 a0, .int .i64 a1] w fun e w' => ∃ v0_ : Value, e = .returned (v0_) ∧ Kd.R (Kd.int .i64) 3 w' w.heap.size (fun _ => True) v0_ r ∧ Below w.heap.size w w' := by
 have HB := Ak (Below.refl w.heap.size w)
 have H : (spec_l2Word.l0 k a0 a1 (([] : List Int)) 0) = some r := h
 clear h
 obtain ⟨y188, hy188⟩ : ∃ y_ : List Int, y_ = (([] : List Int)) := ⟨_, rfl⟩
 replace H : (spec_l2Word.l0 k a0 a1 y188 0) = some r := by first | (rw [hy188]; with_reducible exact H) | (have H2_ := (Option.bind_some _ _).symm.trans H; rw [hy188]; with_reducible exact H2_) | (have H2_ := (Option.bind_some _ _).symm.trans H; with_reducible exact H2_) | with_reducible exact H | (rw [hy188]; exact H) | exact H
 have Ny188 := Ak hy188
 clear hy188
 have H' := Ak H
 clear H
 go_enter Try.func57, Try.ntmps57
 go_wp2_with (first | ((with_reducible refine gate_dst (N := 8) rfl ?_); refine Kd.R_lit (Kd.int .i64) _ 3 ?hg (N := 8) ?hd (xs := ([] : List Int)) (inner := []) (ok := fun _ => True) (okp := fun _ => True) ?hr ?hp (fun _ hk => hk) trivial (Below.refl _ _) (Nat.le_refl _) (by simp) ?_; (case hd => rfl); (case hg => rfl); (case hr => first | (go_simp; done) | (go_simp; rfl)); (case hp => exact (Reps.none _ _)); intro v189 w3 ho4 hb hg_ hnew_; clear hg_ hnew_; (first | rw [← Ny188.out] at ho4 | (simp only [Int.reduceToNat] at ho4; rw [← Ny188.out] at ho4)); have n0_ := Ak (Kd.R_lower ho4 (below_size (Qb HB.out))); have n1_ := Ak (below_step (Qb HB.out) hb); clear HB; have HO190 := n0_; have HB := n1_; clear n0_ n1_; clear hb ho4))
 go_loopg [0, 5, 6] k (fun kq v0 v5 v6 w' => ∃ (x0_1 : Int) (x5_1 : List Int) (x6_1 : Int), v0 = .int .i64 x0_1 ∧ v6 = .int .i64 x6_1 ∧ Aside0 (spec_l2Word.l0 kq x0_1 a1 x5_1 x6_1 = some r) ∧ Aside0 (kq ≤ k) ∧ Aside0 (Kd.R (Kd.int .i64) 3 w' w.heap.size (fun _ => True) v5 x5_1) ∧ Aside0 (Below w.heap.size w w'))
 case atStart => exact ⟨(a0), (y188), (0), Qi, Qi, H', ⟨Nat.le_refl _⟩, ⟨by refine Qf ?_; exact HO190.out⟩, ⟨Qb HB.out⟩⟩
 case round =>
  clear H'
  try clear p2
  obtain ⟨x0_1, x5_1, x6_1, rfl, rfl, HA, HK1, HO_5, HB⟩ := hrel
  cases gk with
  | zero => exact absurd HA.out (by simp [spec_l2Word.l0])
  | succ k1 =>
   have H := HA.out
   clear HA
   simp only [spec_l2Word.l0] at H
   by_cases c5 : x6_1 < a1
   ·rw [if_pos c5] at H
    have c5b0 : decide (x6_1 < a1) = true := decide_eq_true c5
    clear c5
    by_cases c6 : (Int.tmod x0_1 3) > 1
    ·rw [if_pos c6] at H
     have c6b0 : decide (1 < (Int.tmod x0_1 3)) = true := decide_eq_true c6
     clear c6
     by_cases c7 : (wrap64 ((Int.tmod x0_1 3) - 3)) < (-1)
     ·rw [if_pos c7] at H
      have c7b0 : decide ((wrap64 ((Int.tmod x0_1 3) - 3)) < (-1)) = true := decide_eq_true c7
      clear c7
      by_cases c8 : x5_1.length < 17592186044416
      ·rw [if_pos c8] at H
       have LMc8 := Ak c8
       clear c8
       obtain ⟨y191, hy191⟩ : ∃ y_ : List Int, y_ = (x5_1 ++ [wrap64 ((wrap64 ((Int.tmod x0_1 3) - 3)) + 3)]) := ⟨_, rfl⟩
       replace H : (spec_l2Word.l0 k1 (wrap64 (Int.tdiv (wrap64 (x0_1 - (wrap64 ((wrap64 ((Int.tmod x0_1 3) - 3)) + 3)))) 3)) a1 y191 (wrap64 (x6_1 + 1))) = some r := by first | (rw [hy191]; with_reducible exact H) | (have H2_ := (Option.bind_some _ _).symm.trans H; rw [hy191]; with_reducible exact H2_) | (have H2_ := (Option.bind_some _ _).symm.trans H; with_reducible exact H2_) | with_reducible exact H | (rw [hy191]; exact H) | exact H
       have Ny191 := Ak hy191
       clear hy191
       have H' := Ak H
       clear H
       go_wp2_with (first | ((with_reducible refine gate_builtin (b := .append) (xs := #[.tmp 24, .tmp 26]) rfl ?_); at_builtin; refine Kd.R_append (Kd.int .i64) (w0 := w) w.heap.size rfl (.tmp 24) (.tmp 26) 23 3 (.int .i64 0) 8 rfl Try.underlying23 info3 rfl (by decide) (by omega) u5 x5_1 (wrap64 ((wrap64 ((Int.tmod x0_1 3) - 3)) + 3)) [.int .i64 (wrap64 ((wrap64 ((Int.tmod x0_1 3) - 3)) + 3))] (fun _ => True) (fun _ => False) rfl rfl ?aP (fun _ hk => hk.elim) ?aF ?aO ?aB ?aS ?aL ?_; (case aP => exact rfl); (case aB => exact (Qb HB.out)); (case aF => exact (fun _ _ => trivial)); (case aO => exact (Qc HO_5.out)); (case aS => exact (below_size (Qb HB.out))); (case aL => have := LMc8.out; omega); intro v192 w9 ho hb hg hat; rw [← Ny191.out] at ho; have n0_ := Ak (hb); have n1_ := Ak (ho); clear HB HO_5; have HB := n0_; have HO193 := n1_; clear n0_ n1_; clear ho hb hg hat))
       go_roundg k1
       case measure => have := HK1.out; omega
       case rel => exact ⟨(wrap64 (Int.tdiv (wrap64 (x0_1 - (wrap64 ((wrap64 ((Int.tmod x0_1 3) - 3)) + 3)))) 3)), (y191), (wrap64 (x6_1 + 1)), Qi, Qi, H', ⟨by have := HK1.out; omega⟩, ⟨by refine Qf ?_; exact HO193.out⟩, ⟨Qb HB.out⟩⟩
      ·rw [if_neg c8] at H
       exact absurd H (by simp)
     ·rw [if_neg c7] at H
      have c7b0 : decide ((wrap64 ((Int.tmod x0_1 3) - 3)) < (-1)) = false := decide_eq_false c7
      clear c7
      by_cases c10 : x5_1.length < 17592186044416
      ·rw [if_pos c10] at H
       have LMc10 := Ak c10
       clear c10
       obtain ⟨y194, hy194⟩ : ∃ y_ : List Int, y_ = (x5_1 ++ [wrap64 ((Int.tmod x0_1 3) - 3)]) := ⟨_, rfl⟩
       replace H : (spec_l2Word.l0 k1 (wrap64 (Int.tdiv (wrap64 (x0_1 - (wrap64 ((Int.tmod x0_1 3) - 3)))) 3)) a1 y194 (wrap64 (x6_1 + 1))) = some r := by first | (rw [hy194]; with_reducible exact H) | (have H2_ := (Option.bind_some _ _).symm.trans H; rw [hy194]; with_reducible exact H2_) | (have H2_ := (Option.bind_some _ _).symm.trans H; with_reducible exact H2_) | with_reducible exact H | (rw [hy194]; exact H) | exact H
       have Ny194 := Ak hy194
       clear hy194
       have H' := Ak H
       clear H
       go_wp2_with (first | ((with_reducible refine gate_builtin (b := .append) (xs := #[.tmp 24, .tmp 26]) rfl ?_); at_builtin; refine Kd.R_append (Kd.int .i64) (w0 := w) w.heap.size rfl (.tmp 24) (.tmp 26) 23 3 (.int .i64 0) 8 rfl Try.underlying23 info3 rfl (by decide) (by omega) u5 x5_1 (wrap64 ((Int.tmod x0_1 3) - 3)) [.int .i64 (wrap64 ((Int.tmod x0_1 3) - 3))] (fun _ => True) (fun _ => False) rfl rfl ?aP (fun _ hk => hk.elim) ?aF ?aO ?aB ?aS ?aL ?_; (case aP => exact rfl); (case aB => exact (Qb HB.out)); (case aF => exact (fun _ _ => trivial)); (case aO => exact (Qc HO_5.out)); (case aS => exact (below_size (Qb HB.out))); (case aL => have := LMc10.out; omega); intro v195 w11 ho hb hg hat; rw [← Ny194.out] at ho; have n0_ := Ak (hb); have n1_ := Ak (ho); clear HB HO_5; have HB := n0_; have HO196 := n1_; clear n0_ n1_; clear ho hb hg hat))
       go_roundg k1
       case measure => have := HK1.out; omega
       case rel => exact ⟨(wrap64 (Int.tdiv (wrap64 (x0_1 - (wrap64 ((Int.tmod x0_1 3) - 3)))) 3)), (y194), (wrap64 (x6_1 + 1)), Qi, Qi, H', ⟨by have := HK1.out; omega⟩, ⟨by refine Qf ?_; exact HO196.out⟩, ⟨Qb HB.out⟩⟩
      ·rw [if_neg c10] at H
       exact absurd H (by simp)
    ·rw [if_neg c6] at H
     have c6b0 : decide (1 < (Int.tmod x0_1 3)) = false := decide_eq_false c6
     clear c6
     by_cases c12 : (Int.tmod x0_1 3) < (-1)
     ·rw [if_pos c12] at H
      have c12b0 : decide ((Int.tmod x0_1 3) < (-1)) = true := decide_eq_true c12
      clear c12
      by_cases c13 : x5_1.length < 17592186044416
      ·rw [if_pos c13] at H
       have LMc13 := Ak c13
       clear c13
       obtain ⟨y197, hy197⟩ : ∃ y_ : List Int, y_ = (x5_1 ++ [wrap64 ((Int.tmod x0_1 3) + 3)]) := ⟨_, rfl⟩
       replace H : (spec_l2Word.l0 k1 (wrap64 (Int.tdiv (wrap64 (x0_1 - (wrap64 ((Int.tmod x0_1 3) + 3)))) 3)) a1 y197 (wrap64 (x6_1 + 1))) = some r := by first | (rw [hy197]; with_reducible exact H) | (have H2_ := (Option.bind_some _ _).symm.trans H; rw [hy197]; with_reducible exact H2_) | (have H2_ := (Option.bind_some _ _).symm.trans H; with_reducible exact H2_) | with_reducible exact H | (rw [hy197]; exact H) | exact H
       have Ny197 := Ak hy197
       clear hy197
       have H' := Ak H
       clear H
       go_wp2_with (first | ((with_reducible refine gate_builtin (b := .append) (xs := #[.tmp 24, .tmp 26]) rfl ?_); at_builtin; refine Kd.R_append (Kd.int .i64) (w0 := w) w.heap.size rfl (.tmp 24) (.tmp 26) 23 3 (.int .i64 0) 8 rfl Try.underlying23 info3 rfl (by decide) (by omega) u5 x5_1 (wrap64 ((Int.tmod x0_1 3) + 3)) [.int .i64 (wrap64 ((Int.tmod x0_1 3) + 3))] (fun _ => True) (fun _ => False) rfl rfl ?aP (fun _ hk => hk.elim) ?aF ?aO ?aB ?aS ?aL ?_; (case aP => exact rfl); (case aB => exact (Qb HB.out)); (case aF => exact (fun _ _ => trivial)); (case aO => exact (Qc HO_5.out)); (case aS => exact (below_size (Qb HB.out))); (case aL => have := LMc13.out; omega); intro v198 w14 ho hb hg hat; rw [← Ny197.out] at ho; have n0_ := Ak (hb); have n1_ := Ak (ho); clear HB HO_5; have HB := n0_; have HO199 := n1_; clear n0_ n1_; clear ho hb hg hat))
       go_roundg k1
       case measure => have := HK1.out; omega
       case rel => exact ⟨(wrap64 (Int.tdiv (wrap64 (x0_1 - (wrap64 ((Int.tmod x0_1 3) + 3)))) 3)), (y197), (wrap64 (x6_1 + 1)), Qi, Qi, H', ⟨by have := HK1.out; omega⟩, ⟨by refine Qf ?_; exact HO199.out⟩, ⟨Qb HB.out⟩⟩
      ·rw [if_neg c13] at H
       exact absurd H (by simp)
     ·rw [if_neg c12] at H
      have c12b0 : decide ((Int.tmod x0_1 3) < (-1)) = false := decide_eq_false c12
      clear c12
      by_cases c15 : x5_1.length < 17592186044416
      ·rw [if_pos c15] at H
       have LMc15 := Ak c15
       clear c15
       obtain ⟨y200, hy200⟩ : ∃ y_ : List Int, y_ = (x5_1 ++ [Int.tmod x0_1 3]) := ⟨_, rfl⟩
       replace H : (spec_l2Word.l0 k1 (wrap64 (Int.tdiv (wrap64 (x0_1 - (Int.tmod x0_1 3))) 3)) a1 y200 (wrap64 (x6_1 + 1))) = some r := by first | (rw [hy200]; with_reducible exact H) | (have H2_ := (Option.bind_some _ _).symm.trans H; rw [hy200]; with_reducible exact H2_) | (have H2_ := (Option.bind_some _ _).symm.trans H; with_reducible exact H2_) | with_reducible exact H | (rw [hy200]; exact H) | exact H
       have Ny200 := Ak hy200
       clear hy200
       have H' := Ak H
       clear H
       go_wp2_with (first | ((with_reducible refine gate_builtin (b := .append) (xs := #[.tmp 24, .tmp 26]) rfl ?_); at_builtin; refine Kd.R_append (Kd.int .i64) (w0 := w) w.heap.size rfl (.tmp 24) (.tmp 26) 23 3 (.int .i64 0) 8 rfl Try.underlying23 info3 rfl (by decide) (by omega) u5 x5_1 (Int.tmod x0_1 3) [.int .i64 (Int.tmod x0_1 3)] (fun _ => True) (fun _ => False) rfl rfl ?aP (fun _ hk => hk.elim) ?aF ?aO ?aB ?aS ?aL ?_; (case aP => exact rfl); (case aB => exact (Qb HB.out)); (case aF => exact (fun _ _ => trivial)); (case aO => exact (Qc HO_5.out)); (case aS => exact (below_size (Qb HB.out))); (case aL => have := LMc15.out; omega); intro v201 w16 ho hb hg hat; rw [← Ny200.out] at ho; have n0_ := Ak (hb); have n1_ := Ak (ho); clear HB HO_5; have HB := n0_; have HO202 := n1_; clear n0_ n1_; clear ho hb hg hat))
       go_roundg k1
       case measure => have := HK1.out; omega
       case rel => exact ⟨(wrap64 (Int.tdiv (wrap64 (x0_1 - (Int.tmod x0_1 3))) 3)), (y200), (wrap64 (x6_1 + 1)), Qi, Qi, H', ⟨by have := HK1.out; omega⟩, ⟨by refine Qf ?_; exact HO202.out⟩, ⟨Qb HB.out⟩⟩
      ·rw [if_neg c15] at H
       exact absurd H (by simp)
   ·rw [if_neg c5] at H
    have c5b0 : decide (x6_1 < a1) = false := decide_eq_false c5
    clear c5
    obtain rfl := Option.some.inj H
    go_wp2
    go_ret
    exact ⟨_, Qh, by refine Qf ?_; exact HO_5.out, Qb HB.out⟩

/-! ### spec_WordOf: function 29 -/
def spec_WordOf.f (k : Nat) (a0 : Int) (a1 : Int) : Option (List Int × Bool) := (spec_l1In.f a1 1 30).bind fun t203 => (if t203 = true then ((spec_LimitOf.f k a1).bind fun t204 => ((spec_LimitOf.f k a1).bind fun t205 => ((spec_l1In.f a0 (wrap64 (-t204)) t205).bind fun t206 => (if t206 = true then ((spec_l2Word.f k a0 a1).bind fun t207 => (some (t207, true))) else (some (([] : List Int), false)))))) else (some (([] : List Int), false)))
theorem spec_WordOf.mono : ∀ a0 a1 k, LeO (spec_WordOf.f k a0 a1) (spec_WordOf.f (k + 1) a0 a1) := by
 intro a0 a1 k
 unfold spec_WordOf.f
 repeat' first
   | (with_reducible exact spec_LimitOf.mono _ _)
   | (with_reducible exact spec_l2Word.mono _ _ _)
   | (with_reducible exact LeO.refl _)
   | (with_reducible exact LeO.none _)
   | (with_reducible refine LeO.ite ?_ ?_)
   | (with_reducible refine LeO.bind ?_ (fun _ => ?_))
   | exact spec_LimitOf.mono _ _
   | exact spec_l2Word.mono _ _ _
   | exact LeO.none _
   | refine LeO.ite ?_ ?_
   | refine LeO.bind ?_ (fun _ => ?_)
theorem spec_WordOf.calls (k : Nat) (a0 : Int) (a1 : Int) (r1 : List Int) (r2 : Bool) (w : World) (h : spec_WordOf.f k a0 a1 = some (r1, r2)) :
  Calls Try.prog 29 #[.int .i64 a0, .int .i64 a1] w fun e w' => ∃ v0_ : Value, e = .returned (.tuple #[v0_, .bool r2]) ∧ Kd.R (Kd.int .i64) 3 w' w.heap.size (fun _ => True) v0_ r1 ∧ Below w.heap.size w w' := by
 have HB := Ak (Below.refl w.heap.size w)
 have H : ((spec_l1In.f a1 1 30).bind fun t203 => (if t203 = true then ((spec_LimitOf.f k a1).bind fun t204 => ((spec_LimitOf.f k a1).bind fun t205 => ((spec_l1In.f a0 (wrap64 (-t204)) t205).bind fun t206 => (if t206 = true then ((spec_l2Word.f k a0 a1).bind fun t207 => (some (t207, true))) else (some (([] : List Int), false)))))) else (some (([] : List Int), false)))) = some (r1, r2) := h
 clear h
 replace H := Option.bind_eq_some_iff.mp H
 obtain ⟨t203, A30, H⟩ := H
 replace H : (if t203 = true then ((spec_LimitOf.f k a1).bind fun t204 => ((spec_LimitOf.f k a1).bind fun t205 => ((spec_l1In.f a0 (wrap64 (-t204)) t205).bind fun t206 => (if t206 = true then ((spec_l2Word.f k a0 a1).bind fun t207 => (some (t207, true))) else (some (([] : List Int), false)))))) else (some (([] : List Int), false))) = some (r1, r2) := H
 have A3 := Ak A30
 clear A30
 by_cases c4 : t203 = true
 ·(try subst c4)
  have H1 : ((spec_LimitOf.f k a1).bind fun t204 => ((spec_LimitOf.f k a1).bind fun t205 => ((spec_l1In.f a0 (wrap64 (-t204)) t205).bind fun t206 => (if t206 = true then ((spec_l2Word.f k a0 a1).bind fun t207 => (some (t207, true))) else (some (([] : List Int), false)))))) = some (r1, r2) := by rw [if_pos rfl] at H; exact H
  clear H
  have H := H1
  clear H1
  replace H := Option.bind_eq_some_iff.mp H
  obtain ⟨t204, A50, H⟩ := H
  replace H : ((spec_LimitOf.f k a1).bind fun t205 => ((spec_l1In.f a0 (wrap64 (-t204)) t205).bind fun t206 => (if t206 = true then ((spec_l2Word.f k a0 a1).bind fun t207 => (some (t207, true))) else (some (([] : List Int), false))))) = some (r1, r2) := H
  have A5 := Ak A50
  clear A50
  replace H := Option.bind_eq_some_iff.mp H
  obtain ⟨t205, A60, H⟩ := H
  replace H : ((spec_l1In.f a0 (wrap64 (-t204)) t205).bind fun t206 => (if t206 = true then ((spec_l2Word.f k a0 a1).bind fun t207 => (some (t207, true))) else (some (([] : List Int), false)))) = some (r1, r2) := H
  have A6 := Ak A60
  clear A60
  have EQA6 : t205 = t204 := Option.some.inj (A6.out.symm.trans A5.out)
  rw [EQA6] at H
  clear EQA6
  replace H := Option.bind_eq_some_iff.mp H
  obtain ⟨t206, A70, H⟩ := H
  replace H : (if t206 = true then ((spec_l2Word.f k a0 a1).bind fun t207 => (some (t207, true))) else (some (([] : List Int), false))) = some (r1, r2) := H
  have A7 := Ak A70
  clear A70
  by_cases c8 : t206 = true
  ·(try subst c8)
   have H1 : ((spec_l2Word.f k a0 a1).bind fun t207 => (some (t207, true))) = some (r1, r2) := by rw [if_pos rfl] at H; exact H
   clear H
   have H := H1
   clear H1
   replace H := Option.bind_eq_some_iff.mp H
   obtain ⟨t207, A90, H⟩ := H
   replace H : (some (t207, true)) = some (r1, r2) := H
   have A9 := Ak A90
   clear A90
   simp only [Option.some.injEq, Prod.mk.injEq] at H
   obtain ⟨rfl, rfl⟩ := H
   go_enter Try.func29, Try.ntmps29
   go_wp2_with (first | ((with_reducible refine gate_callee (f := 48) rfl ?_); refine Qj (some 7) Try.func48 #[.int .i64 a1, .int .i64 1, .int .i64 30] ?_; (with_reducible refine (spec_l1In.calls a1 1 30 true _ A3.out).mono ?_); rintro e w' ⟨rfl, ⟨nd, rfl⟩⟩; refine ⟨_, rfl, ?_⟩) | (go_at_call 56; (with_reducible refine (spec_LimitOf.calls k a1 t204 _ A5.out).mono ?_); rintro e w' ⟨rfl, ⟨nd, rfl⟩⟩) | (go_at_call 56; (with_reducible refine (spec_LimitOf.calls k a1 t204 _ A6.out).mono ?_); rintro e w' ⟨rfl, ⟨nd, rfl⟩⟩) | (go_at_call 48; (with_reducible refine (spec_l1In.calls a0 (wrap64 (-t204)) t204 true _ A7.out).mono ?_); rintro e w' ⟨rfl, ⟨nd, rfl⟩⟩) | ((with_reducible refine gate_callee (f := 57) rfl ?_); refine Qj (some 21) Try.func57 #[.int .i64 a0, .int .i64 a1] ?_; (with_reducible refine (spec_l2Word.calls k a0 a1 t207 _ A9.out).mono ?_); rintro e w10 ⟨v208, rfl, ho0, hb⟩; refine ⟨_, rfl, ?_⟩; have n0_ := Ak (Kd.R_lower ho0 (below_size (Qb HB.out))); have n1_ := Ak (below_step (Qb HB.out) hb); clear HB; have HO209 := n0_; have HB := n1_; clear n0_ n1_; (try clear hb); (try clear hb2); (try clear hk); (try clear hi); (try clear ho0)))
   go_ret2
   exact ⟨_, Qh, by refine Qf ?_; exact HO209.out, Qb HB.out⟩
  ·replace c8 := Bool.eq_false_iff.mpr c8
   (try subst c8)
   have H1 : (some (([] : List Int), false)) = some (r1, r2) := by rw [if_neg (show ¬ (false = true) by decide)] at H; exact H
   clear H
   have H := H1
   clear H1
   simp only [Option.some.injEq, Prod.mk.injEq] at H
   obtain ⟨rfl, rfl⟩ := H
   go_enter Try.func29, Try.ntmps29
   go_wp2_with (first | ((with_reducible refine gate_callee (f := 48) rfl ?_); refine Qj (some 7) Try.func48 #[.int .i64 a1, .int .i64 1, .int .i64 30] ?_; (with_reducible refine (spec_l1In.calls a1 1 30 true _ A3.out).mono ?_); rintro e w' ⟨rfl, ⟨nd, rfl⟩⟩; refine ⟨_, rfl, ?_⟩) | (go_at_call 56; (with_reducible refine (spec_LimitOf.calls k a1 t204 _ A5.out).mono ?_); rintro e w' ⟨rfl, ⟨nd, rfl⟩⟩) | (go_at_call 56; (with_reducible refine (spec_LimitOf.calls k a1 t204 _ A6.out).mono ?_); rintro e w' ⟨rfl, ⟨nd, rfl⟩⟩) | (go_at_call 48; (with_reducible refine (spec_l1In.calls a0 (wrap64 (-t204)) t204 false _ A7.out).mono ?_); rintro e w' ⟨rfl, ⟨nd, rfl⟩⟩))
   go_ret2
   exact ⟨_, Qh, by first | exact Kd.R_nil _ _ _ _ _ | exact Kd.N_nil _ _ _ _ _ | exact Kd.V_nil _ _ _ _ _ | exact Kd.Q_nil _ _ _ _ _ | exact Kd.S_nil _ _ _ _ _, Qb HB.out⟩
 ·replace c4 := Bool.eq_false_iff.mpr c4
  (try subst c4)
  have H1 : (some (([] : List Int), false)) = some (r1, r2) := by rw [if_neg (show ¬ (false = true) by decide)] at H; exact H
  clear H
  have H := H1
  clear H1
  simp only [Option.some.injEq, Prod.mk.injEq] at H
  obtain ⟨rfl, rfl⟩ := H
  go_enter Try.func29, Try.ntmps29
  go_wp2_with (first | ((with_reducible refine gate_callee (f := 48) rfl ?_); refine Qj (some 7) Try.func48 #[.int .i64 a1, .int .i64 1, .int .i64 30] ?_; (with_reducible refine (spec_l1In.calls a1 1 30 false _ A3.out).mono ?_); rintro e w' ⟨rfl, ⟨nd, rfl⟩⟩; refine ⟨_, rfl, ?_⟩))
  go_ret2
  exact ⟨_, Qh, by first | exact Kd.R_nil _ _ _ _ _ | exact Kd.N_nil _ _ _ _ _ | exact Kd.V_nil _ _ _ _ _ | exact Kd.Q_nil _ _ _ _ _ | exact Kd.S_nil _ _ _ _ _, Qb HB.out⟩

/-! ### spec_IsTrit: function 64 -/
def spec_IsTrit.f (a0 : Int) : Option (Bool) := (spec_l1In.f a0 (-1) 1).bind fun t210 => (some t210)
theorem spec_IsTrit.calls (a0 : Int) (r : Bool) (w : World) (h : spec_IsTrit.f a0 = some r) :
  Calls Try.prog 64 #[.int .i64 a0] w fun e w' => e = .returned (.bool r) ∧ Drawn0 w w' := by
 have H : ((spec_l1In.f a0 (-1) 1).bind fun t210 => (some t210)) = some r := h
 clear h
 replace H := Option.bind_eq_some_iff.mp H
 obtain ⟨t210, A20, H⟩ := H
 replace H : (some t210) = some r := H
 have A2 := Ak A20
 clear A20
 obtain rfl := Option.some.inj H
 go_enter Try.func64, Try.ntmps64
 go_wp2_with (first | ((with_reducible refine gate_callee (f := 48) rfl ?_); refine Qj (some 4) Try.func48 #[.int .i64 a0, .int .i64 (-1), .int .i64 1] ?_; (with_reducible refine (spec_l1In.calls a0 (-1) 1 t210 _ A2.out).mono ?_); rintro e w' ⟨rfl, ⟨nd, rfl⟩⟩; refine ⟨_, rfl, ?_⟩))
 go_ret
 exact ⟨Qi, Ql⟩

end Go.Proofs.Ytlmiankjbffboaa.HFnBranched

/- Text for FnCells: written by a program of this session on the pattern of the kit's print. -/
import Derived.Test.YtlmiankjbffboaaHFnCellsx0
import Derived.Test.YtlmiankjbffboaaHFnCellsx1
import Derived.Test.YtlmiankjbffboaaHFnCellsx4
namespace Go.Proofs.Ytlmiankjbffboaa.HFnCells
open Go.RowKit Go.Proofs.YtlmiankjbffboaaW.PrintWords Go.Proofs.YtlmiankjbffboaaW.PrintLast Go.Proofs.YtlmiankjbffboaaW.PrintMore
attribute [local go_sem] max2_int min2_int max_two min_two max_three min_three max_four min_four   -- for this text's walks alone
set_option linter.unusedVariables false
set_option linter.unusedSimpArgs false

/-! ### impl_RunMachine: function 20 -/
/-- The argument's variable (block g3) and the result's (block g4). -/
structure impl_RunMachine.Bx (w W : World) (g3 g4 : Nat) (pc : Int) (u v : Value) : Prop where
  b3 : W.heap[g3]? = some (.cells #[.int .i64 pc, u, v] 28 (0, 0))
  b4 : W.heap[g4]? = some (.cells #[.int .i64 0, .slice none 0 0, .slice none 0 0] 28 (0, 0))
  b : Below w.heap.size w W
  h3 : w.heap.size ≤ g3
  h4 : w.heap.size ≤ g4
section
variable {w W : World} {g3 g4 : Nat} {pc : Int} {u v : Value}
theorem impl_RunMachine.Bx.start (w : World) (pc : Int) (u v : Value) : impl_RunMachine.Bx w ((w.alloc (.cells #[.int .i64 pc, u, v] 28)).alloc (.cells #[.int .i64 0, .slice none 0 0, .slice none 0 0] 28)) w.heap.size (w.heap.size + 1) pc u v :=
  ⟨blk_alloc (blk_new _ _) _, by have h := blk_new (w.alloc (.cells #[.int .i64 pc, u, v] 28)) (.cells #[.int .i64 0, .slice none 0 0, .slice none 0 0] 28); rwa [show (w.alloc (.cells #[.int .i64 pc, u, v] 28)).heap.size = w.heap.size + 1 by simp] at h, below_alloc (below_alloc (Below.refl _ _) _) _, Nat.le_refl _, Nat.le_succ _⟩
theorem impl_RunMachine.Bx.below {W' : World} (h : impl_RunMachine.Bx w W g3 g4 pc u v) (hb : Below W.heap.size W W') : impl_RunMachine.Bx w W' g3 g4 pc u v := ⟨blk_below h.b3 hb, blk_below h.b4 hb, below_step h.b hb, h.h3, h.h4⟩
theorem impl_RunMachine.Bx.drewN (h : impl_RunMachine.Bx w W g3 g4 pc u v) (n : Nat) : impl_RunMachine.Bx w (W.drewN n) g3 g4 pc u v := ⟨blk_drewN h.b3 n, blk_drewN h.b4 n, pw_below_drewN h.b n, h.h3, h.h4⟩
theorem impl_RunMachine.Bx.cells (h : impl_RunMachine.Bx w W g3 g4 pc u v) : W.cell? ⟨g3, 0, none⟩ = some (.int .i64 pc) ∧ W.cell? ⟨g3, 1, none⟩ = some u ∧ W.cell? ⟨g3, 2, none⟩ = some v ∧ W.frozen? ⟨g4, 0, none⟩ = false ∧ W.frozen? ⟨g4, 1, none⟩ = false ∧ W.frozen? ⟨g4, 2, none⟩ = false ∧ W.cell? ⟨g4, 0, none⟩ = some (.int .i64 0) ∧ W.cell? ⟨g4, 1, none⟩ = some (.slice none 0 0) ∧ W.cell? ⟨g4, 2, none⟩ = some (.slice none 0 0) :=
  ⟨(blk_cell h.b3 0).trans rfl, (blk_cell h.b3 1).trans rfl, (blk_cell h.b3 2).trans rfl, blk_frozen h.b4 0, blk_frozen h.b4 1, blk_frozen h.b4 2, (blk_cell h.b4 0).trans rfl, (blk_cell h.b4 1).trans rfl, (blk_cell h.b4 2).trans rfl⟩
theorem impl_RunMachine.Bx.alloc (h : impl_RunMachine.Bx w W g3 g4 pc u v) (o : Obj) : impl_RunMachine.Bx w (W.alloc o) g3 g4 pc u v := h.below (below_alloc (Below.refl _ _) o)
theorem impl_RunMachine.mk {w3 : World} {st cl : List Int} (h1 : Kd.R (Kd.int .i64) 3 w3 W.heap.size (fun k_ => some k_ ≠ v.ownBlock) u st) (h2 : Kd.R (Kd.int .i64) 3 w3 W.heap.size (fun k_ => some k_ ≠ u.ownBlock) v cl) (hb : Below W.heap.size W w3) : impl_step.Held W (w3.alloc (.cells #[.int .i64 pc, u, v] 28)) w3.heap.size pc u v st cl :=
  ⟨blk_new _ _, Kd.R_alloc h1 _, Kd.R_alloc h2 _, below_alloc hb _, hb.size⟩
theorem impl_RunMachine.mcells {pc : Int} {st cl : List Int} {gm : Nat} (h : impl_step.Held w W gm pc u v st cl) : W.cell? ⟨gm, 0, none⟩ = some (.int .i64 pc) ∧ W.cell? ⟨gm, 1, none⟩ = some u ∧ W.cell? ⟨gm, 2, none⟩ = some v := ⟨(blk_cell h.m 0).trans rfl, (blk_cell h.m 1).trans rfl, (blk_cell h.m 2).trans rfl⟩
theorem impl_RunMachine.Bx.out (h : impl_RunMachine.Bx w W g3 g4 pc u v) (p : Int) (a b : Value) : (((W.setCell ⟨g4, 0, none⟩ (.int .i64 p)).setCell ⟨g4, 1, none⟩ a).setCell ⟨g4, 2, none⟩ b).heap[g4]? = some (.cells #[.int .i64 p, a, b] 28 (0, 0)) :=
  blk_put (cs := #[.int .i64 p, a, .slice none 0 0]) (blk_put (cs := #[.int .i64 p, .slice none 0 0, .slice none 0 0]) (blk_put (cs := #[.int .i64 0, .slice none 0 0, .slice none 0 0]) h.b4 0 _ rfl) 1 _ rfl) 2 _ rfl
theorem impl_RunMachine.Bx.row (h : impl_RunMachine.Bx w W g3 g4 pc u v) (p : Int) (a b : Value) {base : Nat} {ok : Nat → Prop} {q : Value} {xs : List Int} (hr : Kd.R (Kd.int .i64) 3 W base ok q xs) (hb : w.heap.size ≤ base) : Kd.R (Kd.int .i64) 3 (((W.setCell ⟨g4, 0, none⟩ (.int .i64 p)).setCell ⟨g4, 1, none⟩ a).setCell ⟨g4, 2, none⟩ b) w.heap.size ok q xs := by
  have h1 := blk_put (cs' := #[.int .i64 p, .slice none 0 0, .slice none 0 0]) h.b4 0 (.int .i64 p) rfl
  have h2 := blk_put (cs' := #[.int .i64 p, a, .slice none 0 0]) h1 1 a rfl
  exact Kd.R_lower (Kd.R_set (Kd.R_set (Kd.R_set hr h.b4 (by decide) 0 _) h1 (by decide) 1 _) h2 (by decide) 2 _) hb
end
def impl_RunMachine.loop (k : Nat) (l : List S48) : Nat → Int → List Int → List Int → Option (Int × List Int × List Int × Int)
  | 0, pc, st, cl => some (pc, st, cl, 5)
  | n + 1, pc, st, cl => (impl_step.f k l pc st cl).bind fun q => if q.1 = 0 then impl_RunMachine.loop k l n q.2.1 q.2.2.1 q.2.2.2 else some (q.2.1, q.2.2.1, q.2.2.2, q.1)
theorem impl_RunMachine.loop_mono (k : Nat) (l : List S48) : ∀ n pc st cl, LeO (impl_RunMachine.loop k l n pc st cl) (impl_RunMachine.loop (k + 1) l n pc st cl)
  | 0, _, _, _ => LeO.refl _
  | n + 1, _, _, _ => LeO.bind (impl_step.mono _ _ _ _ k) (fun q => LeO.ite (impl_RunMachine.loop_mono k l n _ _ _) (LeO.refl _))
def impl_RunMachine.f (k : Nat) (l0 : List S48) (a1_0 : Int) (l1_1 l1_2 : List Int) (a2 : Int) : Option (Int × List Int × List Int × Int) := (impl_IsMachine.f k l0 a1_0 l1_1 l1_2).bind fun t => if t = true then if a2 < 0 ∨ 2000 < a2 then some (0, [], [], 0) else (impl_copyMachine.f a1_0 l1_1 l1_2).bind fun m => impl_RunMachine.loop k l0 a2.toNat m.1 m.2.1 m.2.2 else some (0, [], [], 0)
theorem impl_RunMachine.mono : ∀ a b c d e k, LeO (impl_RunMachine.f k a b c d e) (impl_RunMachine.f (k + 1) a b c d e) := fun a b c d e k => LeO.bind (impl_IsMachine.mono a b c d k) (fun _ => LeO.ite (LeO.ite (LeO.refl _) (LeO.bind (LeO.refl _) (fun m => impl_RunMachine.loop_mono k _ _ _ _ _))) (LeO.refl _))
set_option maxHeartbeats 8000000 in
set_option maxRecDepth 100000 in
theorem impl_RunMachine.calls (k : Nat) (A0 : Option Addr) (c0 : Nat) (l0 : List (S48)) (a1_0 : Int) (A1_1 : Option Addr) (c1_1 : Nat) (l1_1 : List Int) (A1_2 : Option Addr) (c1_2 : Nat) (l1_2 : List Int) (a2 : Int) (r1 : Int) (r2 : List Int) (r3 : List Int) (r4 : Int) (w : World) (hr0 : Kd.C k48 w A0 l0.length l0) (hc0 : l0.length ≤ c0) (hr1_1 : Kd.C (Kd.int .i64) w A1_1 l1_1.length l1_1) (hc1_1 : l1_1.length ≤ c1_1) (hr1_2 : Kd.C (Kd.int .i64) w A1_2 l1_2.length l1_2) (hc1_2 : l1_2.length ≤ c1_2) (h : impl_RunMachine.f k l0 a1_0 l1_1 l1_2 a2 = some (r1, r2, r3, r4)) :
    Calls Try.prog 20 #[.slice A0 l0.length c0, .agg #[.int .i64 a1_0, .slice A1_1 l1_1.length c1_1, .slice A1_2 l1_2.length c1_2], .int .i64 a2] w fun e w' => ∃ v1_ v2_ : Value, e = .returned (.tuple #[.agg #[.int .i64 r1, v1_, v2_], .int .i64 r4]) ∧ Kd.R (Kd.int .i64) 3 w' w.heap.size (fun k_ => some k_ ≠ (v2_ : Value).ownBlock) v1_ r2 ∧ Kd.R (Kd.int .i64) 3 w' w.heap.size (fun k_ => some k_ ≠ (v1_ : Value).ownBlock) v2_ r3 ∧ Below w.heap.size w w' := by
  unfold impl_RunMachine.f at h
  obtain ⟨t, ht, h1⟩ := Option.bind_eq_some_iff.1 h
  clear h
  have HR0 := Aside0.mk hr0
  have HR1 := Aside0.mk hr1_1
  have HR2 := Aside0.mk hr1_2
  have HC0 := Aside0.mk hc0
  have HC1 := Aside0.mk hc1_1
  have HC2 := Aside0.mk hc1_2
  have HT := Aside0.mk ht
  clear hr0 hr1_1 hr1_2 hc0 hc1_1 hc1_2 ht
  have HX := Aside0.mk (impl_RunMachine.Bx.start w a1_0 (.slice A1_1 l1_1.length c1_1) (.slice A1_2 l1_2.length c1_2))
  cases t with
  | false =>
    rw [if_neg (by simp)] at h1
    obtain ⟨rfl, rfl, rfl, rfl⟩ : 0 = r1 ∧ [] = r2 ∧ [] = r3 ∧ 0 = r4 := by simpa using h1
    clear h1
    go_enter Try.func20, Try.ntmps20
    go_upto_region 1 with fail
    generalize (w.alloc (.cells #[.int .i64 a1_0, .slice A1_1 l1_1.length c1_1, .slice A1_2 l1_2.length c1_2] 28)).alloc (.cells #[.int .i64 0, .slice none 0 0, .slice none 0 0] 28) = W at HX ⊢
    obtain ⟨g4, hg4⟩ : ∃ g, g = w.heap.size + 1 := ⟨_, rfl⟩
    obtain ⟨g3, hg3⟩ : ∃ g, g = w.heap.size := ⟨_, rfl⟩
    rw [← hg4] at HX ⊢
    rw [← hg3] at ⊢
    replace HX := Aside0.mk (show impl_RunMachine.Bx w W g3 g4 a1_0 (.slice A1_1 l1_1.length c1_1) (.slice A1_2 l1_2.length c1_2) by rw [hg3]; exact HX.out)
    clear hg3 hg4
    obtain ⟨m0, m1, m2, f0, f1, f2, y0, y1, y2⟩ := HX.out.cells
    go_wp2_with ((go_at_call 41; with_reducible refine (impl_IsMachine.calls k A0 c0 l0 a1_0 A1_1 c1_1 l1_1 A1_2 c1_2 l1_2 false _ (Kd.C_below HR0.out HX.out.b) HC0.out (Kd.C_below HR1.out HX.out.b) HC1.out (Kd.C_below HR2.out HX.out.b) HC2.out HT.out).mono ?_; rintro e w2 ⟨rfl, hb⟩); have HX2 := Aside0.mk (HX.out.below hb); obtain ⟨o0, o1, o2, p0, p1, p2, q0, q1, q2⟩ := HX2.out.cells; clear hb)
    refine bodyPost_ret (results_ct rfl _ _ g4 28 #[.int .i64 0, .slice none 0 0, .slice none 0 0] (0, 0) _ rfl (blk_put (cs := #[.int .i64 0, .slice none 0 0, .slice none 0 0]) (blk_put (cs := #[.int .i64 0, .slice none 0 0, .slice none 0 0]) (blk_put (cs := #[.int .i64 0, .slice none 0 0, .slice none 0 0]) HX2.out.b4 0 _ rfl) 1 _ rfl) 2 _ rfl) Try.underlying28 rfl (by kernel_rfl)) rfl ?_
    exact ⟨_, _, rfl, Kd.R_nil _ _ _ _ _, Kd.R_nil _ _ _ _ _, below_set (below_set (below_set HX2.out.b HX2.out.h4) HX2.out.h4) HX2.out.h4⟩
  | true =>
    rw [if_pos rfl] at h1
    by_cases ha : a2 < 0 ∨ 2000 < a2
    · rw [if_pos ha] at h1
      obtain ⟨rfl, rfl, rfl, rfl⟩ : 0 = r1 ∧ [] = r2 ∧ [] = r3 ∧ 0 = r4 := by simpa using h1
      clear h1
      rcases ha with ha | ha
      · have b1 : decide (a2 < 0) = true := decide_eq_true ha
        clear ha
        go_enter Try.func20, Try.ntmps20
        go_upto_region 1 with fail
        generalize (w.alloc (.cells #[.int .i64 a1_0, .slice A1_1 l1_1.length c1_1, .slice A1_2 l1_2.length c1_2] 28)).alloc (.cells #[.int .i64 0, .slice none 0 0, .slice none 0 0] 28) = W at HX ⊢
        obtain ⟨g4, hg4⟩ : ∃ g, g = w.heap.size + 1 := ⟨_, rfl⟩
        obtain ⟨g3, hg3⟩ : ∃ g, g = w.heap.size := ⟨_, rfl⟩
        rw [← hg4] at HX ⊢
        rw [← hg3] at ⊢
        replace HX := Aside0.mk (show impl_RunMachine.Bx w W g3 g4 a1_0 (.slice A1_1 l1_1.length c1_1) (.slice A1_2 l1_2.length c1_2) by rw [hg3]; exact HX.out)
        clear hg3 hg4
        obtain ⟨m0, m1, m2, f0, f1, f2, y0, y1, y2⟩ := HX.out.cells
        go_wp2_with ((go_at_call 41; with_reducible refine (impl_IsMachine.calls k A0 c0 l0 a1_0 A1_1 c1_1 l1_1 A1_2 c1_2 l1_2 true _ (Kd.C_below HR0.out HX.out.b) HC0.out (Kd.C_below HR1.out HX.out.b) HC1.out (Kd.C_below HR2.out HX.out.b) HC2.out HT.out).mono ?_; rintro e w2 ⟨rfl, hb⟩); have HX2 := Aside0.mk (HX.out.below hb); obtain ⟨o0, o1, o2, p0, p1, p2, q0, q1, q2⟩ := HX2.out.cells; clear hb)
        refine bodyPost_ret (results_ct rfl _ _ g4 28 #[.int .i64 0, .slice none 0 0, .slice none 0 0] (0, 0) _ rfl (blk_put (cs := #[.int .i64 0, .slice none 0 0, .slice none 0 0]) (blk_put (cs := #[.int .i64 0, .slice none 0 0, .slice none 0 0]) (blk_put (cs := #[.int .i64 0, .slice none 0 0, .slice none 0 0]) HX2.out.b4 0 _ rfl) 1 _ rfl) 2 _ rfl) Try.underlying28 rfl (by kernel_rfl)) rfl ?_
        exact ⟨_, _, rfl, Kd.R_nil _ _ _ _ _, Kd.R_nil _ _ _ _ _, below_set (below_set (below_set HX2.out.b HX2.out.h4) HX2.out.h4) HX2.out.h4⟩
      · have b1 : decide (a2 < 0) = false := decide_eq_false (by omega)
        have b2 : decide (2000 < a2) = true := decide_eq_true ha
        clear ha
        go_enter Try.func20, Try.ntmps20
        go_upto_region 1 with fail
        generalize (w.alloc (.cells #[.int .i64 a1_0, .slice A1_1 l1_1.length c1_1, .slice A1_2 l1_2.length c1_2] 28)).alloc (.cells #[.int .i64 0, .slice none 0 0, .slice none 0 0] 28) = W at HX ⊢
        obtain ⟨g4, hg4⟩ : ∃ g, g = w.heap.size + 1 := ⟨_, rfl⟩
        obtain ⟨g3, hg3⟩ : ∃ g, g = w.heap.size := ⟨_, rfl⟩
        rw [← hg4] at HX ⊢
        rw [← hg3] at ⊢
        replace HX := Aside0.mk (show impl_RunMachine.Bx w W g3 g4 a1_0 (.slice A1_1 l1_1.length c1_1) (.slice A1_2 l1_2.length c1_2) by rw [hg3]; exact HX.out)
        clear hg3 hg4
        obtain ⟨m0, m1, m2, f0, f1, f2, y0, y1, y2⟩ := HX.out.cells
        go_wp2_with ((go_at_call 41; with_reducible refine (impl_IsMachine.calls k A0 c0 l0 a1_0 A1_1 c1_1 l1_1 A1_2 c1_2 l1_2 true _ (Kd.C_below HR0.out HX.out.b) HC0.out (Kd.C_below HR1.out HX.out.b) HC1.out (Kd.C_below HR2.out HX.out.b) HC2.out HT.out).mono ?_; rintro e w2 ⟨rfl, hb⟩); have HX2 := Aside0.mk (HX.out.below hb); obtain ⟨o0, o1, o2, p0, p1, p2, q0, q1, q2⟩ := HX2.out.cells; clear hb)
        refine bodyPost_ret (results_ct rfl _ _ g4 28 #[.int .i64 0, .slice none 0 0, .slice none 0 0] (0, 0) _ rfl (blk_put (cs := #[.int .i64 0, .slice none 0 0, .slice none 0 0]) (blk_put (cs := #[.int .i64 0, .slice none 0 0, .slice none 0 0]) (blk_put (cs := #[.int .i64 0, .slice none 0 0, .slice none 0 0]) HX2.out.b4 0 _ rfl) 1 _ rfl) 2 _ rfl) Try.underlying28 rfl (by kernel_rfl)) rfl ?_
        exact ⟨_, _, rfl, Kd.R_nil _ _ _ _ _, Kd.R_nil _ _ _ _ _, below_set (below_set (below_set HX2.out.b HX2.out.h4) HX2.out.h4) HX2.out.h4⟩
    · rw [if_neg ha] at h1
      obtain ⟨⟨pc0, st0, cl0⟩, hcp, hlp⟩ := Option.bind_eq_some_iff.1 h1
      clear h1
      obtain ⟨N, rfl⟩ : ∃ N : Nat, a2 = (N : Int) := ⟨a2.toNat, by omega⟩
      have hN : N ≤ 2000 := by omega
      clear ha
      rw [Int.toNat_natCast] at hlp
      dsimp only at hlp
      replace hcp := Aside0.mk hcp
      replace hlp := Aside0.mk hlp
      have b1 : decide ((N : Int) < 0) = false := decide_eq_false (by omega)
      have b2 : decide (2000 < (N : Int)) = false := decide_eq_false (by omega)
      go_enter Try.func20, Try.ntmps20
      go_upto_region 1 with fail
      generalize (w.alloc (.cells #[.int .i64 a1_0, .slice A1_1 l1_1.length c1_1, .slice A1_2 l1_2.length c1_2] 28)).alloc (.cells #[.int .i64 0, .slice none 0 0, .slice none 0 0] 28) = W at HX ⊢
      obtain ⟨g4, hg4⟩ : ∃ g, g = w.heap.size + 1 := ⟨_, rfl⟩
      obtain ⟨g3, hg3⟩ : ∃ g, g = w.heap.size := ⟨_, rfl⟩
      rw [← hg4] at HX ⊢
      rw [← hg3] at ⊢
      replace HX := Aside0.mk (show impl_RunMachine.Bx w W g3 g4 a1_0 (.slice A1_1 l1_1.length c1_1) (.slice A1_2 l1_2.length c1_2) by rw [hg3]; exact HX.out)
      clear hg3 hg4
      obtain ⟨m0, m1, m2, f0, f1, f2, y0, y1, y2⟩ := HX.out.cells
      go_upto_region 4 with (first | ((go_at_call 41; with_reducible refine (impl_IsMachine.calls k A0 c0 l0 a1_0 A1_1 c1_1 l1_1 A1_2 c1_2 l1_2 true _ (Kd.C_below HR0.out HX.out.b) HC0.out (Kd.C_below HR1.out HX.out.b) HC1.out (Kd.C_below HR2.out HX.out.b) HC2.out HT.out).mono ?_; rintro e w2 ⟨rfl, hb⟩); have HX2 := Aside0.mk (HX.out.below hb); obtain ⟨o0, o1, o2, p0, p1, p2, q0, q1, q2⟩ := HX2.out.cells; clear hb) | ((go_at_call 42; with_reducible refine (impl_copyMachine.calls a1_0 A1_1 c1_1 l1_1 A1_2 c1_2 l1_2 pc0 st0 cl0 _ (Kd.C_below HR1.out HX2.out.b) HC1.out (Kd.C_below HR2.out HX2.out.b) HC2.out hcp.out).mono ?_; rintro e w3 ⟨v1, v2, rfl, hv1, hv2, hb⟩); obtain ⟨B1, d1, rfl⟩ := Kd.R_slice hv1; obtain ⟨B2, d2, rfl⟩ := Kd.R_slice hv2; have HV1 := Aside0.mk hv1; have HV2 := Aside0.mk hv2; have HB3 := Aside0.mk hb; clear hv1 hv2 hb o0 o1 o2 p0 p1 p2 q0 q1 q2))
      have HX5 := Aside0.mk ((HX2.out.below HB3.out).alloc (.cells #[.int .i64 pc0, .slice B1 st0.length d1, .slice B2 cl0.length d2] 28))
      have HM := Aside0.mk (impl_RunMachine.mk (pc := pc0) HV1.out HV2.out HB3.out)
      have hz2 := Aside0.mk HX2.out.b.size
      generalize w3.alloc (.cells #[.int .i64 pc0, .slice B1 st0.length d1, .slice B2 cl0.length d2] 28) = w5 at HX5 HM ⊢
      generalize w3.heap.size = gm at HM ⊢
      clear HV1 HV2 HB3 HX5 m0 m1 m2 f0 f1 f2 y0 y1 y2 b1 b2
      go_wp2
      go_loopg [26] N (fun gg s26 wr => ∃ (ii : Nat) (pc : Int) (st cl : List Int) (vs vc : Value), ii ≤ N ∧ N - ii ≤ gg ∧ s26 = .int .i64 ii ∧ Aside0 (impl_RunMachine.loop k l0 (N - ii) pc st cl = some (r1, r2, r3, r4)) ∧ Aside0 (impl_step.Held w2 wr gm pc vs vc st cl))
      case atStart => exact ⟨0, pc0, st0, cl0, _, _, Nat.zero_le _, by omega, rfl, hlp, HM⟩
      case round =>
        clear hlp HM
        obtain ⟨ii, pc, st, cl, vs, vc, hii, hgi, rfl, hlp, HM⟩ := hrel
        have HXa := Aside0.mk (HX2.out.below HM.out.b)
        have HCC := Aside0.mk (Kd.C_below HR0.out HXa.out.b)
        by_cases hlt : ii < N
        · have hltz : decide ((ii : Int) < (N : Int)) = true := decide_eq_true (by omega)
          have hl1 := hlp.out
          rw [show N - ii = (N - (ii + 1)) + 1 by omega, impl_RunMachine.loop] at hl1
          obtain ⟨⟨how, pc', st', cl'⟩, hst, h2⟩ := Option.bind_eq_some_iff.1 hl1
          dsimp only at h2
          clear hl1 hlp HXa
          replace hst := Aside0.mk hst
          by_cases hh : how = 0
          · rw [if_pos hh] at h2
            have hb0 : (how != 0) = false := bne_eq_false_iff_eq.mpr hh
            replace h2 := Aside0.mk h2
            clear hh
            have hk1 : ii + 1 ≤ N := hlt
            have hltN : (ii < N) = True := eq_true hlt
            go_wp2_with ((go_at_call 43; with_reducible refine (impl_step.calls0 k A0 c0 l0 gm pc _ _ st cl w2 _ HCC.out HM.out how pc' st' cl' hst.out).mono ?_; rintro e w6 ⟨rfl, v3, v4, hH⟩); replace hH := Aside0.mk hH)
            go_roundg (N - (ii + 1))
            case measure => omega
            case rel => exact ⟨ii + 1, pc', st', cl', _, _, by omega, by omega, by go_num, h2, hH⟩
          · rw [if_neg hh] at h2
            have hb0 : (how != 0) = true := bne_iff_ne.mpr hh
            obtain ⟨rfl, rfl, rfl, rfl⟩ : pc' = r1 ∧ st' = r2 ∧ cl' = r3 ∧ how = r4 := by simpa using h2
            clear hh h2
            have hltN : (ii < N) = True := eq_true hlt
            go_wp2_with ((go_at_call 43; with_reducible refine (impl_step.calls0 k A0 c0 l0 gm pc _ _ st cl w2 _ HCC.out HM.out how pc' st' cl' hst.out).mono ?_; rintro e w6 ⟨rfl, v3, v4, hH⟩); obtain ⟨B3, d3, rfl⟩ := Kd.R_slice hH.s; obtain ⟨B4, d4, rfl⟩ := Kd.R_slice hH.c; have HX6 := Aside0.mk (HX2.out.below hH.b); obtain ⟨i0, i1, i2⟩ := impl_RunMachine.mcells hH; obtain ⟨o0, o1, o2, p0, p1, p2, q0, q1, q2⟩ := HX6.out.cells; replace hH := Aside0.mk hH)
            refine bodyPost_ret (results_ct rfl _ _ g4 28 #[.int .i64 pc', .slice B3 st'.length d3, .slice B4 cl'.length d4] (0, 0) _ rfl (HX6.out.out _ _ _) Try.underlying28 rfl (by kernel_rfl)) rfl ?_
            exact ⟨_, _, rfl, HX6.out.row _ _ _ hH.out.s hz2.out, HX6.out.row _ _ _ hH.out.c hz2.out, below_set (below_set (below_set HX6.out.b HX6.out.h4) HX6.out.h4) HX6.out.h4⟩
        · have hltz : decide ((ii : Int) < (N : Int)) = false := decide_eq_false (by omega)
          have hl1 := hlp.out
          rw [show N - ii = 0 by omega, impl_RunMachine.loop] at hl1
          obtain ⟨rfl, rfl, rfl, rfl⟩ : pc = r1 ∧ st = r2 ∧ cl = r3 ∧ 5 = r4 := by simpa using hl1
          clear hl1 hlp
          have hltN : (ii < N) = False := eq_false (by omega)
          obtain ⟨B3, d3, rfl⟩ := Kd.R_slice HM.out.s
          obtain ⟨B4, d4, rfl⟩ := Kd.R_slice HM.out.c
          have HX6 := HXa
          have hH := HM
          obtain ⟨i0, i1, i2⟩ := impl_RunMachine.mcells HM.out
          obtain ⟨o0, o1, o2, p0, p1, p2, q0, q1, q2⟩ := HX6.out.cells
          go_wp2
          refine bodyPost_ret (results_ct rfl _ _ g4 28 #[.int .i64 pc, .slice B3 st.length d3, .slice B4 cl.length d4] (0, 0) _ rfl (HX6.out.out _ _ _) Try.underlying28 rfl (by kernel_rfl)) rfl ?_
          exact ⟨_, _, rfl, HX6.out.row _ _ _ hH.out.s hz2.out, HX6.out.row _ _ _ hH.out.c hz2.out, below_set (below_set (below_set HX6.out.b HX6.out.h4) HX6.out.h4) HX6.out.h4⟩

/-! ### spec_l1In: function 48 -/
def spec_l1In.f (a0 : Int) (a1 : Int) (a2 : Int) : Option (Bool) := if a0 ≥ a1 then (some (decide (a0 ≤ a2))) else (some false)
set_option maxHeartbeats 8000000 in
set_option maxRecDepth 100000 in
theorem spec_l1In.calls (a0 : Int) (a1 : Int) (a2 : Int) (r : Bool) (w : World) (h : spec_l1In.f a0 a1 a2 = some r) :
    Calls Try.prog 48 #[.int .i64 a0, .int .i64 a1, .int .i64 a2] w fun e w' => e = .returned (.bool r) ∧ Drawn0 w w' := by
  have H : (if a0 ≥ a1 then (some (decide (a0 ≤ a2))) else (some false)) = some r := h
  clear h
  by_cases c4 : a0 ≥ a1
  · rw [if_pos c4] at H
    have c4b0 : decide (a1 ≤ a0) = true := decide_eq_true c4
    clear c4
    obtain rfl := Option.some.inj H
    go_enter Try.func48, Try.ntmps48
    go_wp2
    go_ret
    exact ⟨by first | rfl | (simp; done) | (simp [*]; done), by repeat (first | exact Drawn0.refl _ | apply Drawn0.step)⟩
  · rw [if_neg c4] at H
    have c4b0 : decide (a1 ≤ a0) = false := decide_eq_false c4
    clear c4
    obtain rfl := Option.some.inj H
    go_enter Try.func48, Try.ntmps48
    go_wp2
    go_ret
    exact ⟨by first | rfl | (simp; done) | (simp [*]; done), by repeat (first | exact Drawn0.refl _ | apply Drawn0.step)⟩

/-! ### spec_l7Cell: function 53 -/
def spec_l7Cell.f (a0 : Int) : Option (Bool) := (spec_l1In.f a0 (-9841) 9841).bind fun t180 => (some t180)
set_option maxHeartbeats 8000000 in
set_option maxRecDepth 100000 in
theorem spec_l7Cell.calls (a0 : Int) (r : Bool) (w : World) (h : spec_l7Cell.f a0 = some r) :
    Calls Try.prog 53 #[.int .i64 a0] w fun e w' => e = .returned (.bool r) ∧ Drawn0 w w' := by
  have H : ((spec_l1In.f a0 (-9841) 9841).bind fun t180 => (some t180)) = some r := h
  clear h
  replace H := Option.bind_eq_some_iff.mp H
  obtain ⟨t180, A20, H⟩ := H
  replace H : (some t180) = some r := H
  have A2 := Aside0.mk A20
  clear A20
  obtain rfl := Option.some.inj H
  go_enter Try.func53, Try.ntmps53
  go_wp2_with (first | ((with_reducible refine gate_callee (f := 48) rfl ?_); refine goesL_ (some 4) rfl rfl Try.func48 (by kernel_rfl) rfl #[.int .i64 a0, .int .i64 (-9841), .int .i64 9841] rfl (by (try simp only [List.map_toArray, List.map_cons, List.map_nil]); first | done | rfl | (simp only [List.length_drop, List.length_take]; rfl)) ?_; (with_reducible refine (spec_l1In.calls a0 (-9841) 9841 t180 _ A2.out).mono ?_); rintro e w' ⟨rfl, ⟨nd, rfl⟩⟩; refine ⟨_, rfl, ?_⟩))
  go_ret
  exact ⟨by first | rfl | (simp; done) | (simp [*]; done), by repeat (first | exact Drawn0.refl _ | apply Drawn0.step)⟩

/-! ### spec_IsCode: function 32 -/
mutual
def spec_IsCode.l0 : Nat → Int → List (S48) → Int → Int → Option (Bool)
  | 0, _, _, _, _ => none
  | k + 1, x3, x12, x13, x14 => if x14 < x13 then (if 0 ≤ x14 then (if x14 < (x12.length : Int) then (if ((rd_T48 x12 x14).f2) = 0 then (spec_IsCode.j1 k x3 (((rd_T48 x12 x14).f3) == 0) x12 x13 x14 ((rd_T48 x12 x14).f0) ((rd_T48 x12 x14).f1) ((rd_T48 x12 x14).f2) ((rd_T48 x12 x14).f3)) else (spec_IsCode.j1 k x3 false x12 x13 x14 ((rd_T48 x12 x14).f0) ((rd_T48 x12 x14).f1) ((rd_T48 x12 x14).f2) ((rd_T48 x12 x14).f3))) else (none)) else (none)) else (some true)
def spec_IsCode.j1 : Nat → Int → Bool → List (S48) → Int → Int → Int → Int → Int → Int → Option (Bool)
  | 0, _, _, _, _, _, _, _, _, _ => none
  | k + 1, x3, x6, x12, x13, x14, x184000, x184001, x184002, x184003 => if x184000 = 1 then ((spec_l7Cell.f x184001).bind fun t184 => (if t184 = true then (if x6 = true then (spec_IsCode.l0 k x3 x12 x13 (wrap64 (x14 + 1))) else (some false)) else (some false))) else (if x184000 = 10 then ((spec_l1In.f x184001 (-9) 9).bind fun t185 => (if t185 = true then (if x6 = true then (spec_IsCode.l0 k x3 x12 x13 (wrap64 (x14 + 1))) else (some false)) else (some false))) else (if x184000 = 13 then ((spec_l1In.f x184001 0 x3).bind fun t186 => (if t186 = true then (if x6 = true then (spec_IsCode.l0 k x3 x12 x13 (wrap64 (x14 + 1))) else (some false)) else (some false))) else (if x184000 = 14 then ((spec_l1In.f x184001 0 x3).bind fun t187 => (if t187 = true then ((spec_l1In.f x184002 0 x3).bind fun t188 => (if t188 = true then ((spec_l1In.f x184003 0 x3).bind fun t189 => (if t189 = true then (spec_IsCode.l0 k x3 x12 x13 (wrap64 (x14 + 1))) else (some false))) else (some false))) else (some false))) else ((spec_l1In.f x184000 1 15).bind fun t190 => (if t190 = true then (if x184001 = 0 then (if x6 = true then (spec_IsCode.l0 k x3 x12 x13 (wrap64 (x14 + 1))) else (some false)) else (some false)) else (some false))))))
end
def spec_IsCode.f (k : Nat) (l0 : List (S48)) : Option (Bool) := (spec_l1In.f (l0.length : Int) 1 80).bind fun t181 => (if t181 = true then (spec_IsCode.l0 k (l0.length : Int) l0 (l0.length : Int) 0) else (some false))
theorem spec_IsCode.mono_l : ∀ k, (∀ y0 y1 y2 y3, LeO (spec_IsCode.l0 k y0 y1 y2 y3) (spec_IsCode.l0 (k + 1) y0 y1 y2 y3)) ∧ (∀ y0 y1 y2 y3 y4 y5 y6 y7 y8, LeO (spec_IsCode.j1 k y0 y1 y2 y3 y4 y5 y6 y7 y8) (spec_IsCode.j1 (k + 1) y0 y1 y2 y3 y4 y5 y6 y7 y8))
  | 0 => ⟨fun _ _ _ _ r h => by simp [spec_IsCode.l0] at h, fun _ _ _ _ _ _ _ _ _ r h => by simp [spec_IsCode.j1] at h⟩
  | k + 1 => by
    obtain ⟨ih0, ih1⟩ := spec_IsCode.mono_l k
    refine ⟨?_, ?_⟩
    · intro y0 y1 y2 y3
      unfold spec_IsCode.l0
      repeat' first
      | (with_reducible exact ih0 _ _ _ _)
      | (with_reducible exact ih1 _ _ _ _ _ _ _ _ _)
      | (with_reducible exact LeO.refl _)
      | (with_reducible exact LeO.none _)
      | (with_reducible refine LeO.ite ?_ ?_)
      | (with_reducible refine LeO.bind ?_ (fun _ => ?_))
      | exact ih0 _ _ _ _
      | exact ih1 _ _ _ _ _ _ _ _ _
      | exact LeO.none _
      | refine LeO.ite ?_ ?_
      | refine LeO.bind ?_ (fun _ => ?_)
    · intro y0 y1 y2 y3 y4 y5 y6 y7 y8
      unfold spec_IsCode.j1
      repeat' first
      | (with_reducible exact ih0 _ _ _ _)
      | (with_reducible exact ih1 _ _ _ _ _ _ _ _ _)
      | (with_reducible exact LeO.refl _)
      | (with_reducible exact LeO.none _)
      | (with_reducible refine LeO.ite ?_ ?_)
      | (with_reducible refine LeO.bind ?_ (fun _ => ?_))
      | exact ih0 _ _ _ _
      | exact ih1 _ _ _ _ _ _ _ _ _
      | exact LeO.none _
      | refine LeO.ite ?_ ?_
      | refine LeO.bind ?_ (fun _ => ?_)
theorem spec_IsCode.mono : ∀ a0 k, LeO (spec_IsCode.f k a0) (spec_IsCode.f (k + 1) a0) := by
  intro a0 k
  obtain ⟨ih0, ih1⟩ := spec_IsCode.mono_l k
  unfold spec_IsCode.f
  repeat' first
      | (with_reducible exact ih0 _ _ _ _)
      | (with_reducible exact ih1 _ _ _ _ _ _ _ _ _)
      | (with_reducible exact LeO.refl _)
      | (with_reducible exact LeO.none _)
      | (with_reducible refine LeO.ite ?_ ?_)
      | (with_reducible refine LeO.bind ?_ (fun _ => ?_))
      | exact ih0 _ _ _ _
      | exact ih1 _ _ _ _ _ _ _ _ _
      | exact LeO.none _
      | refine LeO.ite ?_ ?_
      | refine LeO.bind ?_ (fun _ => ?_)
set_option maxHeartbeats 8000000 in
set_option maxRecDepth 100000 in
theorem spec_IsCode.calls (k : Nat) (A0 : Option Addr) (c0 : Nat) (l0 : List (S48)) (r : Bool) (w : World) (hr0 : Kd.C k48 w A0 l0.length l0) (hc0 : l0.length ≤ c0) (h : spec_IsCode.f k l0 = some r) :
    Calls Try.prog 32 #[.slice A0 l0.length c0] w fun e w' => e = .returned (.bool r) ∧ Below w.heap.size w w' := by
  have hu48 := Try.underlying48
  have HR0 := Aside0.mk hr0
  have HC0 := Aside0.mk hc0
  clear hr0 hc0
  have HB := Aside0.mk (Below.refl w.heap.size w)
  have H : ((spec_l1In.f (l0.length : Int) 1 80).bind fun t181 => (if t181 = true then (spec_IsCode.l0 k (l0.length : Int) l0 (l0.length : Int) 0) else (some false))) = some r := h
  clear h
  replace H := Option.bind_eq_some_iff.mp H
  obtain ⟨t181, A20, H⟩ := H
  replace H : (if t181 = true then (spec_IsCode.l0 k (l0.length : Int) l0 (l0.length : Int) 0) else (some false)) = some r := H
  have A2 := Aside0.mk A20
  clear A20
  by_cases c3 : t181 = true
  · (try subst c3)
    have H1 : (spec_IsCode.l0 k (l0.length : Int) l0 (l0.length : Int) 0) = some r := by rw [if_pos rfl] at H; exact H
    clear H
    have H := H1
    clear H1
    have H' := Aside0.mk H
    clear H
    go_enter Try.func32, Try.ntmps32
    go_wp2_with (first | ((with_reducible refine gate_callee (f := 48) rfl ?_); refine goesL_ (some 10) rfl rfl Try.func48 (by kernel_rfl) rfl #[.int .i64 (l0.length : Int), .int .i64 1, .int .i64 80] rfl (by (try simp only [List.map_toArray, List.map_cons, List.map_nil]); first | done | rfl | (simp only [List.length_drop, List.length_take]; rfl)) ?_; (with_reducible refine (spec_l1In.calls (l0.length : Int) 1 80 true _ A2.out).mono ?_); rintro e w' ⟨rfl, ⟨nd, rfl⟩⟩; refine ⟨_, rfl, ?_⟩))
    go_loopg [14] k (fun kq v14 w' => ∃ (x14_1 : Int), v14 = .int .i64 x14_1 ∧ Aside0 (spec_IsCode.l0 kq (l0.length : Int) l0 (l0.length : Int) x14_1 = some r) ∧ Aside0 (kq ≤ k) ∧ Aside0 (Below w.heap.size w w'))
    case atStart => exact ⟨(0), (by first | rfl | (simp; done) | (simp [*]; done)), H', ⟨Nat.le_refl _⟩, ⟨by repeat (first | (with_reducible first | exact HB.out | apply below_alloc | apply pw_below_drewN | apply below_drew1) | exact HB.out)⟩⟩
    case round =>
      clear H'
      try clear p2
      try clear c3
      obtain ⟨x14_1, rfl, HA, HK1, HB⟩ := hrel
      cases gk with
      | zero => exact absurd HA.out (by simp [spec_IsCode.l0])
      | succ k1 =>
        have H := HA.out
        clear HA
        simp only [spec_IsCode.l0] at H
        by_cases c4 : x14_1 < (l0.length : Int)
        · rw [if_pos c4] at H
          have c4b0 : decide (x14_1 < (l0.length : Int)) = true := decide_eq_true c4
          clear c4
          by_cases c5 : 0 ≤ x14_1
          · rw [if_pos c5] at H
            have c5b0 : decide (0 ≤ x14_1) = true := decide_eq_true c5
            clear c5
            by_cases c6 : x14_1 < (l0.length : Int)
            · rw [if_pos c6] at H
              have c6b0 : decide (x14_1 < (l0.length : Int)) = true := decide_eq_true c6
              clear c6
              have HC7 := Aside0.mk H
              clear H
              have p182 : 0 ≤ (x14_1 : Int) := of_decide_eq_true (by first | (with_reducible assumption) | assumption)
              have q182 : x14_1 < (l0.length : Int) := of_decide_eq_true (by first | (with_reducible assumption) | assumption)
              obtain ⟨ad182, e182, hx182_0, hx182_1, hx182_2, hx182_3⟩ := at_T48 HR0.out x14_1 p182 q182
              cases e182
              (try replace hx182_0 := (HB.out.cell (World.block_lt_of_cell? w _ hx182_0)).trans hx182_0)
              (try replace hx182_1 := (HB.out.cell (World.block_lt_of_cell? w _ hx182_1)).trans hx182_1)
              (try replace hx182_2 := (HB.out.cell (World.block_lt_of_cell? w _ hx182_2)).trans hx182_2)
              (try replace hx182_3 := (HB.out.cell (World.block_lt_of_cell? w _ hx182_3)).trans hx182_3)
              replace p182 := eq_true p182
              replace q182 := eq_true q182
              go_upto_region 7 with (first | ((with_reducible refine gate_dst (N := 5) rfl ?_); refine box_event ?hg (N := 5) ?hd (cs := #[.int .i64 0, .int .i64 0, .int .i64 0, .int .i64 0]) (t := 48) ?hr ?_; (case hd => rfl); (case hg => rfl); (case hr => first | (go_simp; done) | (go_simp; rfl)); intro gb183 hg w8 hbox hb; have n0_ := Aside0.mk (below_step (by repeat (first | (with_reducible first | exact HB.out | apply below_alloc | apply pw_below_drewN | apply below_drew1) | exact HB.out)) hb); have n1_ := Aside0.mk (hbox); have n2_ := Aside0.mk ((by rw [hg]; exact (below_size (by repeat (first | (with_reducible first | exact HB.out | apply below_alloc | apply pw_below_drewN | apply below_drew1) | exact HB.out))) : w.heap.size ≤ gb183)); have n3_ := Aside0.mk ((by rw [hg]; exact (below_size (by repeat (first | (with_reducible first | exact HB.out | apply below_alloc | apply pw_below_drewN | apply below_drew1) | exact HB.out))) : w.heap.size ≤ gb183)); clear HB; have HB := n0_; have BK183 := n1_; have GW183 := n2_; have GE183 := n3_; clear n0_ n1_ n2_ n3_; clear hb hbox hg; have hcz9_0 : w8.cell? ⟨gb183, 0, none⟩ = some (.int .i64 0) := (blk_cell BK183.out 0).trans rfl; have hcz9_1 : w8.cell? ⟨gb183, 1, none⟩ = some (.int .i64 0) := (blk_cell BK183.out 1).trans rfl; have hcz9_2 : w8.cell? ⟨gb183, 2, none⟩ = some (.int .i64 0) := (blk_cell BK183.out 2).trans rfl; have hcz9_3 : w8.cell? ⟨gb183, 3, none⟩ = some (.int .i64 0) := (blk_cell BK183.out 3).trans rfl; have hfz9_0 := blk_frozen BK183.out 0; have hfz9_1 := blk_frozen BK183.out 1; have hfz9_2 := blk_frozen BK183.out 2; have hfz9_3 := blk_frozen BK183.out 3))
              (try simp only [Act.put, List.setIfInBounds_toArray, List.set_cons_zero, List.set_cons_succ])
              go_cut [6] (fun v6 wc => ∃ (kq : Nat) (x6_6 : Bool), v6 = .bool x6_6 ∧ Aside0 (spec_IsCode.j1 kq (l0.length : Int) x6_6 l0 (l0.length : Int) x14_1 ((rd_T48 l0 x14_1).f0) ((rd_T48 l0 x14_1).f1) ((rd_T48 l0 x14_1).f2) ((rd_T48 l0 x14_1).f3) = some r) ∧ Aside0 (kq ≤ k1) ∧ Aside0 (wc.heap[gb183]? = some (.cells #[.int .i64 ((rd_T48 l0 x14_1).f0), .int .i64 ((rd_T48 l0 x14_1).f1), .int .i64 ((rd_T48 l0 x14_1).f2), .int .i64 ((rd_T48 l0 x14_1).f3)] 48 (0, 0))) ∧ Aside0 (Below w.heap.size w wc))
              case first =>
                have H := HC7.out
                clear HC7
                by_cases c10 : ((rd_T48 l0 x14_1).f2) = 0
                · rw [if_pos c10] at H
                  have c10b0 : (((rd_T48 l0 x14_1).f2) == 0) = true := beq_iff_eq.mpr c10
                  have c10b1 : (((rd_T48 l0 x14_1).f2) != 0) = false := bne_eq_false_iff_eq.mpr c10
                  clear c10
                  (first | rw [c10b0] | (simp only [i64_w, i32_w]; rw [c10b0]) | skip)
                  have H' := Aside0.mk H
                  clear H
                  have hcz11_0 : w8.cell? ⟨gb183, 0, none⟩ = some (.int .i64 0) := (blk_cell BK183.out 0).trans rfl
                  have hcz11_1 : w8.cell? ⟨gb183, 1, none⟩ = some (.int .i64 0) := (blk_cell BK183.out 1).trans rfl
                  have hcz11_2 : w8.cell? ⟨gb183, 2, none⟩ = some (.int .i64 0) := (blk_cell BK183.out 2).trans rfl
                  have hcz11_3 : w8.cell? ⟨gb183, 3, none⟩ = some (.int .i64 0) := (blk_cell BK183.out 3).trans rfl
                  have hfz11_0 := blk_frozen BK183.out 0
                  have hfz11_1 := blk_frozen BK183.out 1
                  have hfz11_2 := blk_frozen BK183.out 2
                  have hfz11_3 := blk_frozen BK183.out 3
                  go_wp2
                  go_meet
                  case rel => exact ⟨_, ((((rd_T48 l0 x14_1).f3) == 0)), (by first | rfl | (simp; done) | (simp [*]; done)), H', ⟨by have := HK1.out; first | omega | exact Nat.le_refl _⟩, ⟨by (with_reducible repeat (first | refine blk_drewN ?_ _ | refine blk_drew ?_ | refine blk_alloc ?_ _)); refine blk_put (cs := #[.int .i64 ((rd_T48 l0 x14_1).f0), .int .i64 ((rd_T48 l0 x14_1).f1), .int .i64 ((rd_T48 l0 x14_1).f2), .int .i64 0]) ?_ 3 _ rfl; (with_reducible repeat (first | refine blk_drewN ?_ _ | refine blk_drew ?_ | refine blk_alloc ?_ _)); refine blk_put (cs := #[.int .i64 ((rd_T48 l0 x14_1).f0), .int .i64 ((rd_T48 l0 x14_1).f1), .int .i64 0, .int .i64 0]) ?_ 2 _ rfl; (with_reducible repeat (first | refine blk_drewN ?_ _ | refine blk_drew ?_ | refine blk_alloc ?_ _)); refine blk_put (cs := #[.int .i64 ((rd_T48 l0 x14_1).f0), .int .i64 0, .int .i64 0, .int .i64 0]) ?_ 1 _ rfl; (with_reducible repeat (first | refine blk_drewN ?_ _ | refine blk_drew ?_ | refine blk_alloc ?_ _)); refine blk_put (cs := #[.int .i64 0, .int .i64 0, .int .i64 0, .int .i64 0]) ?_ 0 _ rfl; (with_reducible repeat (first | refine blk_drewN ?_ _ | refine blk_drew ?_ | refine blk_alloc ?_ _)); exact BK183.out⟩, ⟨by repeat (first | (with_reducible first | exact HB.out | apply below_alloc | apply pw_below_drewN | apply below_drew1 | refine below_set ?_ GE183.out) | exact HB.out)⟩⟩
                · rw [if_neg c10] at H
                  have c10b0 : (((rd_T48 l0 x14_1).f2) == 0) = false := beq_eq_false_iff_ne.mpr c10
                  have c10b1 : (((rd_T48 l0 x14_1).f2) != 0) = true := bne_iff_ne.mpr c10
                  (first | rw [c10b0] | (simp only [i64_w, i32_w]; rw [c10b0]) | skip)
                  have H' := Aside0.mk H
                  clear H
                  have hcz12_0 : w8.cell? ⟨gb183, 0, none⟩ = some (.int .i64 0) := (blk_cell BK183.out 0).trans rfl
                  have hcz12_1 : w8.cell? ⟨gb183, 1, none⟩ = some (.int .i64 0) := (blk_cell BK183.out 1).trans rfl
                  have hcz12_2 : w8.cell? ⟨gb183, 2, none⟩ = some (.int .i64 0) := (blk_cell BK183.out 2).trans rfl
                  have hcz12_3 : w8.cell? ⟨gb183, 3, none⟩ = some (.int .i64 0) := (blk_cell BK183.out 3).trans rfl
                  have hfz12_0 := blk_frozen BK183.out 0
                  have hfz12_1 := blk_frozen BK183.out 1
                  have hfz12_2 := blk_frozen BK183.out 2
                  have hfz12_3 := blk_frozen BK183.out 3
                  go_wp2
                  go_meet
                  case rel => exact ⟨_, (false), (by first | rfl | (simp; done) | (simp [*]; done)), H', ⟨by have := HK1.out; first | omega | exact Nat.le_refl _⟩, ⟨by (with_reducible repeat (first | refine blk_drewN ?_ _ | refine blk_drew ?_ | refine blk_alloc ?_ _)); refine blk_put (cs := #[.int .i64 ((rd_T48 l0 x14_1).f0), .int .i64 ((rd_T48 l0 x14_1).f1), .int .i64 ((rd_T48 l0 x14_1).f2), .int .i64 0]) ?_ 3 _ rfl; (with_reducible repeat (first | refine blk_drewN ?_ _ | refine blk_drew ?_ | refine blk_alloc ?_ _)); refine blk_put (cs := #[.int .i64 ((rd_T48 l0 x14_1).f0), .int .i64 ((rd_T48 l0 x14_1).f1), .int .i64 0, .int .i64 0]) ?_ 2 _ rfl; (with_reducible repeat (first | refine blk_drewN ?_ _ | refine blk_drew ?_ | refine blk_alloc ?_ _)); refine blk_put (cs := #[.int .i64 ((rd_T48 l0 x14_1).f0), .int .i64 0, .int .i64 0, .int .i64 0]) ?_ 1 _ rfl; (with_reducible repeat (first | refine blk_drewN ?_ _ | refine blk_drew ?_ | refine blk_alloc ?_ _)); refine blk_put (cs := #[.int .i64 0, .int .i64 0, .int .i64 0, .int .i64 0]) ?_ 0 _ rfl; (with_reducible repeat (first | refine blk_drewN ?_ _ | refine blk_drew ?_ | refine blk_alloc ?_ _)); exact BK183.out⟩, ⟨by repeat (first | (with_reducible first | exact HB.out | apply below_alloc | apply pw_below_drewN | apply below_drew1 | refine below_set ?_ GE183.out) | exact HB.out)⟩⟩
              case rest =>
                clear HC7
                try clear c1
                try clear p1
                try clear q1
                try clear hx1
                try clear p2
                try clear c3
                try clear c4
                try clear c4b0
                try clear c5
                try clear c5b0
                try clear c6
                try clear c6b0
                try clear c10
                try clear c10b0
                try clear c10b1
                try clear hcz11_0
                try clear hcz11_1
                try clear hcz11_2
                try clear hcz11_3
                try clear hcz12_0
                try clear hcz12_1
                try clear hcz12_2
                try clear hcz12_3
                try clear hcz9_0
                try clear hcz9_1
                try clear hcz9_2
                try clear hcz9_3
                try clear hfz11_0
                try clear hfz11_1
                try clear hfz11_2
                try clear hfz11_3
                try clear hfz12_0
                try clear hfz12_1
                try clear hfz12_2
                try clear hfz12_3
                try clear hfz9_0
                try clear hfz9_1
                try clear hfz9_2
                try clear hfz9_3
                try clear hx182_0
                try clear hx182_1
                try clear hx182_2
                try clear hx182_3
                try clear p182
                try clear p2
                try clear q182
                obtain ⟨kq, x6_6, rfl, HA, HJ6, BK183, HB⟩ := hcut
                cases kq with
                | zero => exact absurd HA.out (by simp [spec_IsCode.j1])
                | succ kj6 =>
                  have H := HA.out
                  clear HA
                  simp only [spec_IsCode.j1] at H
                  by_cases c13 : ((rd_T48 l0 x14_1).f0) = 1
                  · rw [if_pos c13] at H
                    have c13b0 : (((rd_T48 l0 x14_1).f0) == 1) = true := beq_iff_eq.mpr c13
                    have c13b1 : (((rd_T48 l0 x14_1).f0) != 1) = false := bne_eq_false_iff_eq.mpr c13
                    clear c13
                    replace H := Option.bind_eq_some_iff.mp H
                    obtain ⟨t184, A140, H⟩ := H
                    replace H : (if t184 = true then (if x6_6 = true then (spec_IsCode.l0 kj6 (l0.length : Int) l0 (l0.length : Int) (wrap64 (x14_1 + 1))) else (some false)) else (some false)) = some r := H
                    have A14 := Aside0.mk A140
                    clear A140
                    by_cases c15 : t184 = true
                    · (try subst c15)
                      have H1 : (if x6_6 = true then (spec_IsCode.l0 kj6 (l0.length : Int) l0 (l0.length : Int) (wrap64 (x14_1 + 1))) else (some false)) = some r := by rw [if_pos rfl] at H; exact H
                      clear H
                      have H := H1
                      clear H1
                      by_cases c16 : x6_6 = true
                      · (try subst c16)
                        have H1 : (spec_IsCode.l0 kj6 (l0.length : Int) l0 (l0.length : Int) (wrap64 (x14_1 + 1))) = some r := by rw [if_pos rfl] at H; exact H
                        clear H
                        have H := H1
                        clear H1
                        have H' := Aside0.mk H
                        clear H
                        have hcz17_0 : wc.cell? ⟨gb183, 0, none⟩ = some (.int .i64 ((rd_T48 l0 x14_1).f0)) := (blk_cell BK183.out 0).trans rfl
                        have hcz17_1 : wc.cell? ⟨gb183, 1, none⟩ = some (.int .i64 ((rd_T48 l0 x14_1).f1)) := (blk_cell BK183.out 1).trans rfl
                        have hcz17_2 : wc.cell? ⟨gb183, 2, none⟩ = some (.int .i64 ((rd_T48 l0 x14_1).f2)) := (blk_cell BK183.out 2).trans rfl
                        have hcz17_3 : wc.cell? ⟨gb183, 3, none⟩ = some (.int .i64 ((rd_T48 l0 x14_1).f3)) := (blk_cell BK183.out 3).trans rfl
                        have hfz17_0 := blk_frozen BK183.out 0
                        have hfz17_1 := blk_frozen BK183.out 1
                        have hfz17_2 := blk_frozen BK183.out 2
                        have hfz17_3 := blk_frozen BK183.out 3
                        go_wp2_with (first | ((with_reducible refine gate_callee (f := 53) rfl ?_); refine goesL_ (some 45) rfl rfl Try.func53 (by kernel_rfl) rfl #[.int .i64 ((rd_T48 l0 x14_1).f1)] rfl (by (try simp only [List.map_toArray, List.map_cons, List.map_nil]); first | done | rfl | (simp only [List.length_drop, List.length_take]; rfl)) ?_; (with_reducible refine (spec_l7Cell.calls ((rd_T48 l0 x14_1).f1) true _ A14.out).mono ?_); rintro e w' ⟨rfl, ⟨nd, rfl⟩⟩; refine ⟨_, rfl, ?_⟩))
                        go_roundg kj6
                        case measure => have := HK1.out; have := HJ6.out; omega
                        case rel => exact ⟨(wrap64 (x14_1 + 1)), (by first | rfl | (simp; done) | (simp [*]; done)), H', ⟨by have := HK1.out; have := HJ6.out; omega⟩, ⟨by repeat (first | (with_reducible first | exact HB.out | apply below_alloc | apply pw_below_drewN | apply below_drew1 | refine below_set ?_ GE183.out) | exact HB.out)⟩⟩
                      · replace c16 := Bool.eq_false_iff.mpr c16
                        (try subst c16)
                        have H1 : (some false) = some r := by rw [if_neg (show ¬ (false = true) by decide)] at H; exact H
                        clear H
                        have H := H1
                        clear H1
                        obtain rfl := Option.some.inj H
                        have hcz18_0 : wc.cell? ⟨gb183, 0, none⟩ = some (.int .i64 ((rd_T48 l0 x14_1).f0)) := (blk_cell BK183.out 0).trans rfl
                        have hcz18_1 : wc.cell? ⟨gb183, 1, none⟩ = some (.int .i64 ((rd_T48 l0 x14_1).f1)) := (blk_cell BK183.out 1).trans rfl
                        have hcz18_2 : wc.cell? ⟨gb183, 2, none⟩ = some (.int .i64 ((rd_T48 l0 x14_1).f2)) := (blk_cell BK183.out 2).trans rfl
                        have hcz18_3 : wc.cell? ⟨gb183, 3, none⟩ = some (.int .i64 ((rd_T48 l0 x14_1).f3)) := (blk_cell BK183.out 3).trans rfl
                        have hfz18_0 := blk_frozen BK183.out 0
                        have hfz18_1 := blk_frozen BK183.out 1
                        have hfz18_2 := blk_frozen BK183.out 2
                        have hfz18_3 := blk_frozen BK183.out 3
                        go_wp2_with (first | ((with_reducible refine gate_callee (f := 53) rfl ?_); refine goesL_ (some 45) rfl rfl Try.func53 (by kernel_rfl) rfl #[.int .i64 ((rd_T48 l0 x14_1).f1)] rfl (by (try simp only [List.map_toArray, List.map_cons, List.map_nil]); first | done | rfl | (simp only [List.length_drop, List.length_take]; rfl)) ?_; (with_reducible refine (spec_l7Cell.calls ((rd_T48 l0 x14_1).f1) true _ A14.out).mono ?_); rintro e w' ⟨rfl, ⟨nd, rfl⟩⟩; refine ⟨_, rfl, ?_⟩))
                        go_ret
                        exact ⟨by first | rfl | (simp [errW_none, errW_some] <;> rfl) | (simp [*, errW_none, errW_some] <;> rfl), by repeat (first | (with_reducible first | exact HB.out | apply below_alloc | apply pw_below_drewN | apply below_drew1 | refine below_set ?_ GE183.out) | exact HB.out)⟩
                    · replace c15 := Bool.eq_false_iff.mpr c15
                      (try subst c15)
                      have H1 : (some false) = some r := by rw [if_neg (show ¬ (false = true) by decide)] at H; exact H
                      clear H
                      have H := H1
                      clear H1
                      obtain rfl := Option.some.inj H
                      have hcz19_0 : wc.cell? ⟨gb183, 0, none⟩ = some (.int .i64 ((rd_T48 l0 x14_1).f0)) := (blk_cell BK183.out 0).trans rfl
                      have hcz19_1 : wc.cell? ⟨gb183, 1, none⟩ = some (.int .i64 ((rd_T48 l0 x14_1).f1)) := (blk_cell BK183.out 1).trans rfl
                      have hcz19_2 : wc.cell? ⟨gb183, 2, none⟩ = some (.int .i64 ((rd_T48 l0 x14_1).f2)) := (blk_cell BK183.out 2).trans rfl
                      have hcz19_3 : wc.cell? ⟨gb183, 3, none⟩ = some (.int .i64 ((rd_T48 l0 x14_1).f3)) := (blk_cell BK183.out 3).trans rfl
                      have hfz19_0 := blk_frozen BK183.out 0
                      have hfz19_1 := blk_frozen BK183.out 1
                      have hfz19_2 := blk_frozen BK183.out 2
                      have hfz19_3 := blk_frozen BK183.out 3
                      go_wp2_with (first | ((with_reducible refine gate_callee (f := 53) rfl ?_); refine goesL_ (some 45) rfl rfl Try.func53 (by kernel_rfl) rfl #[.int .i64 ((rd_T48 l0 x14_1).f1)] rfl (by (try simp only [List.map_toArray, List.map_cons, List.map_nil]); first | done | rfl | (simp only [List.length_drop, List.length_take]; rfl)) ?_; (with_reducible refine (spec_l7Cell.calls ((rd_T48 l0 x14_1).f1) false _ A14.out).mono ?_); rintro e w' ⟨rfl, ⟨nd, rfl⟩⟩; refine ⟨_, rfl, ?_⟩))
                      go_ret
                      exact ⟨by first | rfl | (simp [errW_none, errW_some] <;> rfl) | (simp [*, errW_none, errW_some] <;> rfl), by repeat (first | (with_reducible first | exact HB.out | apply below_alloc | apply pw_below_drewN | apply below_drew1 | refine below_set ?_ GE183.out) | exact HB.out)⟩
                  · rw [if_neg c13] at H
                    have c13b0 : (((rd_T48 l0 x14_1).f0) == 1) = false := beq_eq_false_iff_ne.mpr c13
                    have c13b1 : (((rd_T48 l0 x14_1).f0) != 1) = true := bne_iff_ne.mpr c13
                    by_cases c20 : ((rd_T48 l0 x14_1).f0) = 10
                    · rw [if_pos c20] at H
                      have c20b0 : (((rd_T48 l0 x14_1).f0) == 10) = true := beq_iff_eq.mpr c20
                      have c20b1 : (((rd_T48 l0 x14_1).f0) != 10) = false := bne_eq_false_iff_eq.mpr c20
                      clear c20
                      replace H := Option.bind_eq_some_iff.mp H
                      obtain ⟨t185, A210, H⟩ := H
                      replace H : (if t185 = true then (if x6_6 = true then (spec_IsCode.l0 kj6 (l0.length : Int) l0 (l0.length : Int) (wrap64 (x14_1 + 1))) else (some false)) else (some false)) = some r := H
                      have A21 := Aside0.mk A210
                      clear A210
                      by_cases c22 : t185 = true
                      · (try subst c22)
                        have H1 : (if x6_6 = true then (spec_IsCode.l0 kj6 (l0.length : Int) l0 (l0.length : Int) (wrap64 (x14_1 + 1))) else (some false)) = some r := by rw [if_pos rfl] at H; exact H
                        clear H
                        have H := H1
                        clear H1
                        by_cases c23 : x6_6 = true
                        · (try subst c23)
                          have H1 : (spec_IsCode.l0 kj6 (l0.length : Int) l0 (l0.length : Int) (wrap64 (x14_1 + 1))) = some r := by rw [if_pos rfl] at H; exact H
                          clear H
                          have H := H1
                          clear H1
                          have H' := Aside0.mk H
                          clear H
                          have hcz24_0 : wc.cell? ⟨gb183, 0, none⟩ = some (.int .i64 ((rd_T48 l0 x14_1).f0)) := (blk_cell BK183.out 0).trans rfl
                          have hcz24_1 : wc.cell? ⟨gb183, 1, none⟩ = some (.int .i64 ((rd_T48 l0 x14_1).f1)) := (blk_cell BK183.out 1).trans rfl
                          have hcz24_2 : wc.cell? ⟨gb183, 2, none⟩ = some (.int .i64 ((rd_T48 l0 x14_1).f2)) := (blk_cell BK183.out 2).trans rfl
                          have hcz24_3 : wc.cell? ⟨gb183, 3, none⟩ = some (.int .i64 ((rd_T48 l0 x14_1).f3)) := (blk_cell BK183.out 3).trans rfl
                          have hfz24_0 := blk_frozen BK183.out 0
                          have hfz24_1 := blk_frozen BK183.out 1
                          have hfz24_2 := blk_frozen BK183.out 2
                          have hfz24_3 := blk_frozen BK183.out 3
                          go_wp2_with (first | ((with_reducible refine gate_callee (f := 48) rfl ?_); refine goesL_ (some 55) rfl rfl Try.func48 (by kernel_rfl) rfl #[.int .i64 ((rd_T48 l0 x14_1).f1), .int .i64 (-9), .int .i64 9] rfl (by (try simp only [List.map_toArray, List.map_cons, List.map_nil]); first | done | rfl | (simp only [List.length_drop, List.length_take]; rfl)) ?_; (with_reducible refine (spec_l1In.calls ((rd_T48 l0 x14_1).f1) (-9) 9 true _ A21.out).mono ?_); rintro e w' ⟨rfl, ⟨nd, rfl⟩⟩; refine ⟨_, rfl, ?_⟩))
                          go_roundg kj6
                          case measure => have := HK1.out; have := HJ6.out; omega
                          case rel => exact ⟨(wrap64 (x14_1 + 1)), (by first | rfl | (simp; done) | (simp [*]; done)), H', ⟨by have := HK1.out; have := HJ6.out; omega⟩, ⟨by repeat (first | (with_reducible first | exact HB.out | apply below_alloc | apply pw_below_drewN | apply below_drew1 | refine below_set ?_ GE183.out) | exact HB.out)⟩⟩
                        · replace c23 := Bool.eq_false_iff.mpr c23
                          (try subst c23)
                          have H1 : (some false) = some r := by rw [if_neg (show ¬ (false = true) by decide)] at H; exact H
                          clear H
                          have H := H1
                          clear H1
                          obtain rfl := Option.some.inj H
                          have hcz25_0 : wc.cell? ⟨gb183, 0, none⟩ = some (.int .i64 ((rd_T48 l0 x14_1).f0)) := (blk_cell BK183.out 0).trans rfl
                          have hcz25_1 : wc.cell? ⟨gb183, 1, none⟩ = some (.int .i64 ((rd_T48 l0 x14_1).f1)) := (blk_cell BK183.out 1).trans rfl
                          have hcz25_2 : wc.cell? ⟨gb183, 2, none⟩ = some (.int .i64 ((rd_T48 l0 x14_1).f2)) := (blk_cell BK183.out 2).trans rfl
                          have hcz25_3 : wc.cell? ⟨gb183, 3, none⟩ = some (.int .i64 ((rd_T48 l0 x14_1).f3)) := (blk_cell BK183.out 3).trans rfl
                          have hfz25_0 := blk_frozen BK183.out 0
                          have hfz25_1 := blk_frozen BK183.out 1
                          have hfz25_2 := blk_frozen BK183.out 2
                          have hfz25_3 := blk_frozen BK183.out 3
                          go_wp2_with (first | ((with_reducible refine gate_callee (f := 48) rfl ?_); refine goesL_ (some 55) rfl rfl Try.func48 (by kernel_rfl) rfl #[.int .i64 ((rd_T48 l0 x14_1).f1), .int .i64 (-9), .int .i64 9] rfl (by (try simp only [List.map_toArray, List.map_cons, List.map_nil]); first | done | rfl | (simp only [List.length_drop, List.length_take]; rfl)) ?_; (with_reducible refine (spec_l1In.calls ((rd_T48 l0 x14_1).f1) (-9) 9 true _ A21.out).mono ?_); rintro e w' ⟨rfl, ⟨nd, rfl⟩⟩; refine ⟨_, rfl, ?_⟩))
                          go_ret
                          exact ⟨by first | rfl | (simp [errW_none, errW_some] <;> rfl) | (simp [*, errW_none, errW_some] <;> rfl), by repeat (first | (with_reducible first | exact HB.out | apply below_alloc | apply pw_below_drewN | apply below_drew1 | refine below_set ?_ GE183.out) | exact HB.out)⟩
                      · replace c22 := Bool.eq_false_iff.mpr c22
                        (try subst c22)
                        have H1 : (some false) = some r := by rw [if_neg (show ¬ (false = true) by decide)] at H; exact H
                        clear H
                        have H := H1
                        clear H1
                        obtain rfl := Option.some.inj H
                        have hcz26_0 : wc.cell? ⟨gb183, 0, none⟩ = some (.int .i64 ((rd_T48 l0 x14_1).f0)) := (blk_cell BK183.out 0).trans rfl
                        have hcz26_1 : wc.cell? ⟨gb183, 1, none⟩ = some (.int .i64 ((rd_T48 l0 x14_1).f1)) := (blk_cell BK183.out 1).trans rfl
                        have hcz26_2 : wc.cell? ⟨gb183, 2, none⟩ = some (.int .i64 ((rd_T48 l0 x14_1).f2)) := (blk_cell BK183.out 2).trans rfl
                        have hcz26_3 : wc.cell? ⟨gb183, 3, none⟩ = some (.int .i64 ((rd_T48 l0 x14_1).f3)) := (blk_cell BK183.out 3).trans rfl
                        have hfz26_0 := blk_frozen BK183.out 0
                        have hfz26_1 := blk_frozen BK183.out 1
                        have hfz26_2 := blk_frozen BK183.out 2
                        have hfz26_3 := blk_frozen BK183.out 3
                        go_wp2_with (first | ((with_reducible refine gate_callee (f := 48) rfl ?_); refine goesL_ (some 55) rfl rfl Try.func48 (by kernel_rfl) rfl #[.int .i64 ((rd_T48 l0 x14_1).f1), .int .i64 (-9), .int .i64 9] rfl (by (try simp only [List.map_toArray, List.map_cons, List.map_nil]); first | done | rfl | (simp only [List.length_drop, List.length_take]; rfl)) ?_; (with_reducible refine (spec_l1In.calls ((rd_T48 l0 x14_1).f1) (-9) 9 false _ A21.out).mono ?_); rintro e w' ⟨rfl, ⟨nd, rfl⟩⟩; refine ⟨_, rfl, ?_⟩))
                        go_ret
                        exact ⟨by first | rfl | (simp [errW_none, errW_some] <;> rfl) | (simp [*, errW_none, errW_some] <;> rfl), by repeat (first | (with_reducible first | exact HB.out | apply below_alloc | apply pw_below_drewN | apply below_drew1 | refine below_set ?_ GE183.out) | exact HB.out)⟩
                    · rw [if_neg c20] at H
                      have c20b0 : (((rd_T48 l0 x14_1).f0) == 10) = false := beq_eq_false_iff_ne.mpr c20
                      have c20b1 : (((rd_T48 l0 x14_1).f0) != 10) = true := bne_iff_ne.mpr c20
                      by_cases c27 : ((rd_T48 l0 x14_1).f0) = 13
                      · rw [if_pos c27] at H
                        have c27b0 : (((rd_T48 l0 x14_1).f0) == 13) = true := beq_iff_eq.mpr c27
                        have c27b1 : (((rd_T48 l0 x14_1).f0) != 13) = false := bne_eq_false_iff_eq.mpr c27
                        clear c27
                        replace H := Option.bind_eq_some_iff.mp H
                        obtain ⟨t186, A280, H⟩ := H
                        replace H : (if t186 = true then (if x6_6 = true then (spec_IsCode.l0 kj6 (l0.length : Int) l0 (l0.length : Int) (wrap64 (x14_1 + 1))) else (some false)) else (some false)) = some r := H
                        have A28 := Aside0.mk A280
                        clear A280
                        by_cases c29 : t186 = true
                        · (try subst c29)
                          have H1 : (if x6_6 = true then (spec_IsCode.l0 kj6 (l0.length : Int) l0 (l0.length : Int) (wrap64 (x14_1 + 1))) else (some false)) = some r := by rw [if_pos rfl] at H; exact H
                          clear H
                          have H := H1
                          clear H1
                          by_cases c30 : x6_6 = true
                          · (try subst c30)
                            have H1 : (spec_IsCode.l0 kj6 (l0.length : Int) l0 (l0.length : Int) (wrap64 (x14_1 + 1))) = some r := by rw [if_pos rfl] at H; exact H
                            clear H
                            have H := H1
                            clear H1
                            have H' := Aside0.mk H
                            clear H
                            have hcz31_0 : wc.cell? ⟨gb183, 0, none⟩ = some (.int .i64 ((rd_T48 l0 x14_1).f0)) := (blk_cell BK183.out 0).trans rfl
                            have hcz31_1 : wc.cell? ⟨gb183, 1, none⟩ = some (.int .i64 ((rd_T48 l0 x14_1).f1)) := (blk_cell BK183.out 1).trans rfl
                            have hcz31_2 : wc.cell? ⟨gb183, 2, none⟩ = some (.int .i64 ((rd_T48 l0 x14_1).f2)) := (blk_cell BK183.out 2).trans rfl
                            have hcz31_3 : wc.cell? ⟨gb183, 3, none⟩ = some (.int .i64 ((rd_T48 l0 x14_1).f3)) := (blk_cell BK183.out 3).trans rfl
                            have hfz31_0 := blk_frozen BK183.out 0
                            have hfz31_1 := blk_frozen BK183.out 1
                            have hfz31_2 := blk_frozen BK183.out 2
                            have hfz31_3 := blk_frozen BK183.out 3
                            go_wp2_with (first | ((with_reducible refine gate_callee (f := 48) rfl ?_); refine goesL_ (some 66) rfl rfl Try.func48 (by kernel_rfl) rfl #[.int .i64 ((rd_T48 l0 x14_1).f1), .int .i64 0, .int .i64 (l0.length : Int)] rfl (by (try simp only [List.map_toArray, List.map_cons, List.map_nil]); first | done | rfl | (simp only [List.length_drop, List.length_take]; rfl)) ?_; (with_reducible refine (spec_l1In.calls ((rd_T48 l0 x14_1).f1) 0 (l0.length : Int) true _ A28.out).mono ?_); rintro e w' ⟨rfl, ⟨nd, rfl⟩⟩; refine ⟨_, rfl, ?_⟩))
                            go_roundg kj6
                            case measure => have := HK1.out; have := HJ6.out; omega
                            case rel => exact ⟨(wrap64 (x14_1 + 1)), (by first | rfl | (simp; done) | (simp [*]; done)), H', ⟨by have := HK1.out; have := HJ6.out; omega⟩, ⟨by repeat (first | (with_reducible first | exact HB.out | apply below_alloc | apply pw_below_drewN | apply below_drew1 | refine below_set ?_ GE183.out) | exact HB.out)⟩⟩
                          · replace c30 := Bool.eq_false_iff.mpr c30
                            (try subst c30)
                            have H1 : (some false) = some r := by rw [if_neg (show ¬ (false = true) by decide)] at H; exact H
                            clear H
                            have H := H1
                            clear H1
                            obtain rfl := Option.some.inj H
                            have hcz32_0 : wc.cell? ⟨gb183, 0, none⟩ = some (.int .i64 ((rd_T48 l0 x14_1).f0)) := (blk_cell BK183.out 0).trans rfl
                            have hcz32_1 : wc.cell? ⟨gb183, 1, none⟩ = some (.int .i64 ((rd_T48 l0 x14_1).f1)) := (blk_cell BK183.out 1).trans rfl
                            have hcz32_2 : wc.cell? ⟨gb183, 2, none⟩ = some (.int .i64 ((rd_T48 l0 x14_1).f2)) := (blk_cell BK183.out 2).trans rfl
                            have hcz32_3 : wc.cell? ⟨gb183, 3, none⟩ = some (.int .i64 ((rd_T48 l0 x14_1).f3)) := (blk_cell BK183.out 3).trans rfl
                            have hfz32_0 := blk_frozen BK183.out 0
                            have hfz32_1 := blk_frozen BK183.out 1
                            have hfz32_2 := blk_frozen BK183.out 2
                            have hfz32_3 := blk_frozen BK183.out 3
                            go_wp2_with (first | ((with_reducible refine gate_callee (f := 48) rfl ?_); refine goesL_ (some 66) rfl rfl Try.func48 (by kernel_rfl) rfl #[.int .i64 ((rd_T48 l0 x14_1).f1), .int .i64 0, .int .i64 (l0.length : Int)] rfl (by (try simp only [List.map_toArray, List.map_cons, List.map_nil]); first | done | rfl | (simp only [List.length_drop, List.length_take]; rfl)) ?_; (with_reducible refine (spec_l1In.calls ((rd_T48 l0 x14_1).f1) 0 (l0.length : Int) true _ A28.out).mono ?_); rintro e w' ⟨rfl, ⟨nd, rfl⟩⟩; refine ⟨_, rfl, ?_⟩))
                            go_ret
                            exact ⟨by first | rfl | (simp [errW_none, errW_some] <;> rfl) | (simp [*, errW_none, errW_some] <;> rfl), by repeat (first | (with_reducible first | exact HB.out | apply below_alloc | apply pw_below_drewN | apply below_drew1 | refine below_set ?_ GE183.out) | exact HB.out)⟩
                        · replace c29 := Bool.eq_false_iff.mpr c29
                          (try subst c29)
                          have H1 : (some false) = some r := by rw [if_neg (show ¬ (false = true) by decide)] at H; exact H
                          clear H
                          have H := H1
                          clear H1
                          obtain rfl := Option.some.inj H
                          have hcz33_0 : wc.cell? ⟨gb183, 0, none⟩ = some (.int .i64 ((rd_T48 l0 x14_1).f0)) := (blk_cell BK183.out 0).trans rfl
                          have hcz33_1 : wc.cell? ⟨gb183, 1, none⟩ = some (.int .i64 ((rd_T48 l0 x14_1).f1)) := (blk_cell BK183.out 1).trans rfl
                          have hcz33_2 : wc.cell? ⟨gb183, 2, none⟩ = some (.int .i64 ((rd_T48 l0 x14_1).f2)) := (blk_cell BK183.out 2).trans rfl
                          have hcz33_3 : wc.cell? ⟨gb183, 3, none⟩ = some (.int .i64 ((rd_T48 l0 x14_1).f3)) := (blk_cell BK183.out 3).trans rfl
                          have hfz33_0 := blk_frozen BK183.out 0
                          have hfz33_1 := blk_frozen BK183.out 1
                          have hfz33_2 := blk_frozen BK183.out 2
                          have hfz33_3 := blk_frozen BK183.out 3
                          go_wp2_with (first | ((with_reducible refine gate_callee (f := 48) rfl ?_); refine goesL_ (some 66) rfl rfl Try.func48 (by kernel_rfl) rfl #[.int .i64 ((rd_T48 l0 x14_1).f1), .int .i64 0, .int .i64 (l0.length : Int)] rfl (by (try simp only [List.map_toArray, List.map_cons, List.map_nil]); first | done | rfl | (simp only [List.length_drop, List.length_take]; rfl)) ?_; (with_reducible refine (spec_l1In.calls ((rd_T48 l0 x14_1).f1) 0 (l0.length : Int) false _ A28.out).mono ?_); rintro e w' ⟨rfl, ⟨nd, rfl⟩⟩; refine ⟨_, rfl, ?_⟩))
                          go_ret
                          exact ⟨by first | rfl | (simp [errW_none, errW_some] <;> rfl) | (simp [*, errW_none, errW_some] <;> rfl), by repeat (first | (with_reducible first | exact HB.out | apply below_alloc | apply pw_below_drewN | apply below_drew1 | refine below_set ?_ GE183.out) | exact HB.out)⟩
                      · rw [if_neg c27] at H
                        have c27b0 : (((rd_T48 l0 x14_1).f0) == 13) = false := beq_eq_false_iff_ne.mpr c27
                        have c27b1 : (((rd_T48 l0 x14_1).f0) != 13) = true := bne_iff_ne.mpr c27
                        by_cases c34 : ((rd_T48 l0 x14_1).f0) = 14
                        · rw [if_pos c34] at H
                          have c34b0 : (((rd_T48 l0 x14_1).f0) == 14) = true := beq_iff_eq.mpr c34
                          have c34b1 : (((rd_T48 l0 x14_1).f0) != 14) = false := bne_eq_false_iff_eq.mpr c34
                          clear c34
                          replace H := Option.bind_eq_some_iff.mp H
                          obtain ⟨t187, A350, H⟩ := H
                          replace H : (if t187 = true then ((spec_l1In.f ((rd_T48 l0 x14_1).f2) 0 (l0.length : Int)).bind fun t188 => (if t188 = true then ((spec_l1In.f ((rd_T48 l0 x14_1).f3) 0 (l0.length : Int)).bind fun t189 => (if t189 = true then (spec_IsCode.l0 kj6 (l0.length : Int) l0 (l0.length : Int) (wrap64 (x14_1 + 1))) else (some false))) else (some false))) else (some false)) = some r := H
                          have A35 := Aside0.mk A350
                          clear A350
                          by_cases c36 : t187 = true
                          · (try subst c36)
                            have H1 : ((spec_l1In.f ((rd_T48 l0 x14_1).f2) 0 (l0.length : Int)).bind fun t188 => (if t188 = true then ((spec_l1In.f ((rd_T48 l0 x14_1).f3) 0 (l0.length : Int)).bind fun t189 => (if t189 = true then (spec_IsCode.l0 kj6 (l0.length : Int) l0 (l0.length : Int) (wrap64 (x14_1 + 1))) else (some false))) else (some false))) = some r := by rw [if_pos rfl] at H; exact H
                            clear H
                            have H := H1
                            clear H1
                            replace H := Option.bind_eq_some_iff.mp H
                            obtain ⟨t188, A370, H⟩ := H
                            replace H : (if t188 = true then ((spec_l1In.f ((rd_T48 l0 x14_1).f3) 0 (l0.length : Int)).bind fun t189 => (if t189 = true then (spec_IsCode.l0 kj6 (l0.length : Int) l0 (l0.length : Int) (wrap64 (x14_1 + 1))) else (some false))) else (some false)) = some r := H
                            have A37 := Aside0.mk A370
                            clear A370
                            by_cases c38 : t188 = true
                            · (try subst c38)
                              have H1 : ((spec_l1In.f ((rd_T48 l0 x14_1).f3) 0 (l0.length : Int)).bind fun t189 => (if t189 = true then (spec_IsCode.l0 kj6 (l0.length : Int) l0 (l0.length : Int) (wrap64 (x14_1 + 1))) else (some false))) = some r := by rw [if_pos rfl] at H; exact H
                              clear H
                              have H := H1
                              clear H1
                              replace H := Option.bind_eq_some_iff.mp H
                              obtain ⟨t189, A390, H⟩ := H
                              replace H : (if t189 = true then (spec_IsCode.l0 kj6 (l0.length : Int) l0 (l0.length : Int) (wrap64 (x14_1 + 1))) else (some false)) = some r := H
                              have A39 := Aside0.mk A390
                              clear A390
                              by_cases c40 : t189 = true
                              · (try subst c40)
                                have H1 : (spec_IsCode.l0 kj6 (l0.length : Int) l0 (l0.length : Int) (wrap64 (x14_1 + 1))) = some r := by rw [if_pos rfl] at H; exact H
                                clear H
                                have H := H1
                                clear H1
                                have H' := Aside0.mk H
                                clear H
                                have hcz41_0 : wc.cell? ⟨gb183, 0, none⟩ = some (.int .i64 ((rd_T48 l0 x14_1).f0)) := (blk_cell BK183.out 0).trans rfl
                                have hcz41_1 : wc.cell? ⟨gb183, 1, none⟩ = some (.int .i64 ((rd_T48 l0 x14_1).f1)) := (blk_cell BK183.out 1).trans rfl
                                have hcz41_2 : wc.cell? ⟨gb183, 2, none⟩ = some (.int .i64 ((rd_T48 l0 x14_1).f2)) := (blk_cell BK183.out 2).trans rfl
                                have hcz41_3 : wc.cell? ⟨gb183, 3, none⟩ = some (.int .i64 ((rd_T48 l0 x14_1).f3)) := (blk_cell BK183.out 3).trans rfl
                                have hfz41_0 := blk_frozen BK183.out 0
                                have hfz41_1 := blk_frozen BK183.out 1
                                have hfz41_2 := blk_frozen BK183.out 2
                                have hfz41_3 := blk_frozen BK183.out 3
                                go_wp2_with (first | ((with_reducible refine gate_callee (f := 48) rfl ?_); refine goesL_ (some 77) rfl rfl Try.func48 (by kernel_rfl) rfl #[.int .i64 ((rd_T48 l0 x14_1).f1), .int .i64 0, .int .i64 (l0.length : Int)] rfl (by (try simp only [List.map_toArray, List.map_cons, List.map_nil]); first | done | rfl | (simp only [List.length_drop, List.length_take]; rfl)) ?_; (with_reducible refine (spec_l1In.calls ((rd_T48 l0 x14_1).f1) 0 (l0.length : Int) true _ A35.out).mono ?_); rintro e w' ⟨rfl, ⟨nd, rfl⟩⟩; refine ⟨_, rfl, ?_⟩) | (go_at_call 48; (with_reducible refine (spec_l1In.calls ((rd_T48 l0 x14_1).f2) 0 (l0.length : Int) true _ A37.out).mono ?_); rintro e w' ⟨rfl, ⟨nd, rfl⟩⟩) | (go_at_call 48; (with_reducible refine (spec_l1In.calls ((rd_T48 l0 x14_1).f3) 0 (l0.length : Int) true _ A39.out).mono ?_); rintro e w' ⟨rfl, ⟨nd, rfl⟩⟩))
                                go_roundg kj6
                                case measure => have := HK1.out; have := HJ6.out; omega
                                case rel => exact ⟨(wrap64 (x14_1 + 1)), (by first | rfl | (simp; done) | (simp [*]; done)), H', ⟨by have := HK1.out; have := HJ6.out; omega⟩, ⟨by repeat (first | (with_reducible first | exact HB.out | apply below_alloc | apply pw_below_drewN | apply below_drew1 | refine below_set ?_ GE183.out) | exact HB.out)⟩⟩
                              · replace c40 := Bool.eq_false_iff.mpr c40
                                (try subst c40)
                                have H1 : (some false) = some r := by rw [if_neg (show ¬ (false = true) by decide)] at H; exact H
                                clear H
                                have H := H1
                                clear H1
                                obtain rfl := Option.some.inj H
                                have hcz42_0 : wc.cell? ⟨gb183, 0, none⟩ = some (.int .i64 ((rd_T48 l0 x14_1).f0)) := (blk_cell BK183.out 0).trans rfl
                                have hcz42_1 : wc.cell? ⟨gb183, 1, none⟩ = some (.int .i64 ((rd_T48 l0 x14_1).f1)) := (blk_cell BK183.out 1).trans rfl
                                have hcz42_2 : wc.cell? ⟨gb183, 2, none⟩ = some (.int .i64 ((rd_T48 l0 x14_1).f2)) := (blk_cell BK183.out 2).trans rfl
                                have hcz42_3 : wc.cell? ⟨gb183, 3, none⟩ = some (.int .i64 ((rd_T48 l0 x14_1).f3)) := (blk_cell BK183.out 3).trans rfl
                                have hfz42_0 := blk_frozen BK183.out 0
                                have hfz42_1 := blk_frozen BK183.out 1
                                have hfz42_2 := blk_frozen BK183.out 2
                                have hfz42_3 := blk_frozen BK183.out 3
                                go_wp2_with (first | ((with_reducible refine gate_callee (f := 48) rfl ?_); refine goesL_ (some 77) rfl rfl Try.func48 (by kernel_rfl) rfl #[.int .i64 ((rd_T48 l0 x14_1).f1), .int .i64 0, .int .i64 (l0.length : Int)] rfl (by (try simp only [List.map_toArray, List.map_cons, List.map_nil]); first | done | rfl | (simp only [List.length_drop, List.length_take]; rfl)) ?_; (with_reducible refine (spec_l1In.calls ((rd_T48 l0 x14_1).f1) 0 (l0.length : Int) true _ A35.out).mono ?_); rintro e w' ⟨rfl, ⟨nd, rfl⟩⟩; refine ⟨_, rfl, ?_⟩) | (go_at_call 48; (with_reducible refine (spec_l1In.calls ((rd_T48 l0 x14_1).f2) 0 (l0.length : Int) true _ A37.out).mono ?_); rintro e w' ⟨rfl, ⟨nd, rfl⟩⟩) | (go_at_call 48; (with_reducible refine (spec_l1In.calls ((rd_T48 l0 x14_1).f3) 0 (l0.length : Int) false _ A39.out).mono ?_); rintro e w' ⟨rfl, ⟨nd, rfl⟩⟩))
                                go_ret
                                exact ⟨by first | rfl | (simp [errW_none, errW_some] <;> rfl) | (simp [*, errW_none, errW_some] <;> rfl), by repeat (first | (with_reducible first | exact HB.out | apply below_alloc | apply pw_below_drewN | apply below_drew1 | refine below_set ?_ GE183.out) | exact HB.out)⟩
                            · replace c38 := Bool.eq_false_iff.mpr c38
                              (try subst c38)
                              have H1 : (some false) = some r := by rw [if_neg (show ¬ (false = true) by decide)] at H; exact H
                              clear H
                              have H := H1
                              clear H1
                              obtain rfl := Option.some.inj H
                              have hcz43_0 : wc.cell? ⟨gb183, 0, none⟩ = some (.int .i64 ((rd_T48 l0 x14_1).f0)) := (blk_cell BK183.out 0).trans rfl
                              have hcz43_1 : wc.cell? ⟨gb183, 1, none⟩ = some (.int .i64 ((rd_T48 l0 x14_1).f1)) := (blk_cell BK183.out 1).trans rfl
                              have hcz43_2 : wc.cell? ⟨gb183, 2, none⟩ = some (.int .i64 ((rd_T48 l0 x14_1).f2)) := (blk_cell BK183.out 2).trans rfl
                              have hcz43_3 : wc.cell? ⟨gb183, 3, none⟩ = some (.int .i64 ((rd_T48 l0 x14_1).f3)) := (blk_cell BK183.out 3).trans rfl
                              have hfz43_0 := blk_frozen BK183.out 0
                              have hfz43_1 := blk_frozen BK183.out 1
                              have hfz43_2 := blk_frozen BK183.out 2
                              have hfz43_3 := blk_frozen BK183.out 3
                              go_wp2_with (first | ((with_reducible refine gate_callee (f := 48) rfl ?_); refine goesL_ (some 77) rfl rfl Try.func48 (by kernel_rfl) rfl #[.int .i64 ((rd_T48 l0 x14_1).f1), .int .i64 0, .int .i64 (l0.length : Int)] rfl (by (try simp only [List.map_toArray, List.map_cons, List.map_nil]); first | done | rfl | (simp only [List.length_drop, List.length_take]; rfl)) ?_; (with_reducible refine (spec_l1In.calls ((rd_T48 l0 x14_1).f1) 0 (l0.length : Int) true _ A35.out).mono ?_); rintro e w' ⟨rfl, ⟨nd, rfl⟩⟩; refine ⟨_, rfl, ?_⟩) | (go_at_call 48; (with_reducible refine (spec_l1In.calls ((rd_T48 l0 x14_1).f2) 0 (l0.length : Int) false _ A37.out).mono ?_); rintro e w' ⟨rfl, ⟨nd, rfl⟩⟩))
                              go_ret
                              exact ⟨by first | rfl | (simp [errW_none, errW_some] <;> rfl) | (simp [*, errW_none, errW_some] <;> rfl), by repeat (first | (with_reducible first | exact HB.out | apply below_alloc | apply pw_below_drewN | apply below_drew1 | refine below_set ?_ GE183.out) | exact HB.out)⟩
                          · replace c36 := Bool.eq_false_iff.mpr c36
                            (try subst c36)
                            have H1 : (some false) = some r := by rw [if_neg (show ¬ (false = true) by decide)] at H; exact H
                            clear H
                            have H := H1
                            clear H1
                            obtain rfl := Option.some.inj H
                            have hcz44_0 : wc.cell? ⟨gb183, 0, none⟩ = some (.int .i64 ((rd_T48 l0 x14_1).f0)) := (blk_cell BK183.out 0).trans rfl
                            have hcz44_1 : wc.cell? ⟨gb183, 1, none⟩ = some (.int .i64 ((rd_T48 l0 x14_1).f1)) := (blk_cell BK183.out 1).trans rfl
                            have hcz44_2 : wc.cell? ⟨gb183, 2, none⟩ = some (.int .i64 ((rd_T48 l0 x14_1).f2)) := (blk_cell BK183.out 2).trans rfl
                            have hcz44_3 : wc.cell? ⟨gb183, 3, none⟩ = some (.int .i64 ((rd_T48 l0 x14_1).f3)) := (blk_cell BK183.out 3).trans rfl
                            have hfz44_0 := blk_frozen BK183.out 0
                            have hfz44_1 := blk_frozen BK183.out 1
                            have hfz44_2 := blk_frozen BK183.out 2
                            have hfz44_3 := blk_frozen BK183.out 3
                            go_wp2_with (first | ((with_reducible refine gate_callee (f := 48) rfl ?_); refine goesL_ (some 77) rfl rfl Try.func48 (by kernel_rfl) rfl #[.int .i64 ((rd_T48 l0 x14_1).f1), .int .i64 0, .int .i64 (l0.length : Int)] rfl (by (try simp only [List.map_toArray, List.map_cons, List.map_nil]); first | done | rfl | (simp only [List.length_drop, List.length_take]; rfl)) ?_; (with_reducible refine (spec_l1In.calls ((rd_T48 l0 x14_1).f1) 0 (l0.length : Int) false _ A35.out).mono ?_); rintro e w' ⟨rfl, ⟨nd, rfl⟩⟩; refine ⟨_, rfl, ?_⟩))
                            go_ret
                            exact ⟨by first | rfl | (simp [errW_none, errW_some] <;> rfl) | (simp [*, errW_none, errW_some] <;> rfl), by repeat (first | (with_reducible first | exact HB.out | apply below_alloc | apply pw_below_drewN | apply below_drew1 | refine below_set ?_ GE183.out) | exact HB.out)⟩
                        · rw [if_neg c34] at H
                          have c34b0 : (((rd_T48 l0 x14_1).f0) == 14) = false := beq_eq_false_iff_ne.mpr c34
                          have c34b1 : (((rd_T48 l0 x14_1).f0) != 14) = true := bne_iff_ne.mpr c34
                          replace H := Option.bind_eq_some_iff.mp H
                          obtain ⟨t190, A450, H⟩ := H
                          replace H : (if t190 = true then (if ((rd_T48 l0 x14_1).f1) = 0 then (if x6_6 = true then (spec_IsCode.l0 kj6 (l0.length : Int) l0 (l0.length : Int) (wrap64 (x14_1 + 1))) else (some false)) else (some false)) else (some false)) = some r := H
                          have A45 := Aside0.mk A450
                          clear A450
                          by_cases c46 : t190 = true
                          · (try subst c46)
                            have H1 : (if ((rd_T48 l0 x14_1).f1) = 0 then (if x6_6 = true then (spec_IsCode.l0 kj6 (l0.length : Int) l0 (l0.length : Int) (wrap64 (x14_1 + 1))) else (some false)) else (some false)) = some r := by rw [if_pos rfl] at H; exact H
                            clear H
                            have H := H1
                            clear H1
                            by_cases c47 : ((rd_T48 l0 x14_1).f1) = 0
                            · rw [if_pos c47] at H
                              have c47b0 : (((rd_T48 l0 x14_1).f1) == 0) = true := beq_iff_eq.mpr c47
                              have c47b1 : (((rd_T48 l0 x14_1).f1) != 0) = false := bne_eq_false_iff_eq.mpr c47
                              clear c47
                              by_cases c48 : x6_6 = true
                              · (try subst c48)
                                have H1 : (spec_IsCode.l0 kj6 (l0.length : Int) l0 (l0.length : Int) (wrap64 (x14_1 + 1))) = some r := by rw [if_pos rfl] at H; exact H
                                clear H
                                have H := H1
                                clear H1
                                have H' := Aside0.mk H
                                clear H
                                have hcz49_0 : wc.cell? ⟨gb183, 0, none⟩ = some (.int .i64 ((rd_T48 l0 x14_1).f0)) := (blk_cell BK183.out 0).trans rfl
                                have hcz49_1 : wc.cell? ⟨gb183, 1, none⟩ = some (.int .i64 ((rd_T48 l0 x14_1).f1)) := (blk_cell BK183.out 1).trans rfl
                                have hcz49_2 : wc.cell? ⟨gb183, 2, none⟩ = some (.int .i64 ((rd_T48 l0 x14_1).f2)) := (blk_cell BK183.out 2).trans rfl
                                have hcz49_3 : wc.cell? ⟨gb183, 3, none⟩ = some (.int .i64 ((rd_T48 l0 x14_1).f3)) := (blk_cell BK183.out 3).trans rfl
                                have hfz49_0 := blk_frozen BK183.out 0
                                have hfz49_1 := blk_frozen BK183.out 1
                                have hfz49_2 := blk_frozen BK183.out 2
                                have hfz49_3 := blk_frozen BK183.out 3
                                go_wp2_with (first | ((with_reducible refine gate_callee (f := 48) rfl ?_); refine goesL_ (some 30) rfl rfl Try.func48 (by kernel_rfl) rfl #[.int .i64 ((rd_T48 l0 x14_1).f0), .int .i64 1, .int .i64 15] rfl (by (try simp only [List.map_toArray, List.map_cons, List.map_nil]); first | done | rfl | (simp only [List.length_drop, List.length_take]; rfl)) ?_; (with_reducible refine (spec_l1In.calls ((rd_T48 l0 x14_1).f0) 1 15 true _ A45.out).mono ?_); rintro e w' ⟨rfl, ⟨nd, rfl⟩⟩; refine ⟨_, rfl, ?_⟩))
                                go_roundg kj6
                                case measure => have := HK1.out; have := HJ6.out; omega
                                case rel => exact ⟨(wrap64 (x14_1 + 1)), (by first | rfl | (simp; done) | (simp [*]; done)), H', ⟨by have := HK1.out; have := HJ6.out; omega⟩, ⟨by repeat (first | (with_reducible first | exact HB.out | apply below_alloc | apply pw_below_drewN | apply below_drew1 | refine below_set ?_ GE183.out) | exact HB.out)⟩⟩
                              · replace c48 := Bool.eq_false_iff.mpr c48
                                (try subst c48)
                                have H1 : (some false) = some r := by rw [if_neg (show ¬ (false = true) by decide)] at H; exact H
                                clear H
                                have H := H1
                                clear H1
                                obtain rfl := Option.some.inj H
                                have hcz50_0 : wc.cell? ⟨gb183, 0, none⟩ = some (.int .i64 ((rd_T48 l0 x14_1).f0)) := (blk_cell BK183.out 0).trans rfl
                                have hcz50_1 : wc.cell? ⟨gb183, 1, none⟩ = some (.int .i64 ((rd_T48 l0 x14_1).f1)) := (blk_cell BK183.out 1).trans rfl
                                have hcz50_2 : wc.cell? ⟨gb183, 2, none⟩ = some (.int .i64 ((rd_T48 l0 x14_1).f2)) := (blk_cell BK183.out 2).trans rfl
                                have hcz50_3 : wc.cell? ⟨gb183, 3, none⟩ = some (.int .i64 ((rd_T48 l0 x14_1).f3)) := (blk_cell BK183.out 3).trans rfl
                                have hfz50_0 := blk_frozen BK183.out 0
                                have hfz50_1 := blk_frozen BK183.out 1
                                have hfz50_2 := blk_frozen BK183.out 2
                                have hfz50_3 := blk_frozen BK183.out 3
                                go_wp2_with (first | ((with_reducible refine gate_callee (f := 48) rfl ?_); refine goesL_ (some 30) rfl rfl Try.func48 (by kernel_rfl) rfl #[.int .i64 ((rd_T48 l0 x14_1).f0), .int .i64 1, .int .i64 15] rfl (by (try simp only [List.map_toArray, List.map_cons, List.map_nil]); first | done | rfl | (simp only [List.length_drop, List.length_take]; rfl)) ?_; (with_reducible refine (spec_l1In.calls ((rd_T48 l0 x14_1).f0) 1 15 true _ A45.out).mono ?_); rintro e w' ⟨rfl, ⟨nd, rfl⟩⟩; refine ⟨_, rfl, ?_⟩))
                                go_ret
                                exact ⟨by first | rfl | (simp [errW_none, errW_some] <;> rfl) | (simp [*, errW_none, errW_some] <;> rfl), by repeat (first | (with_reducible first | exact HB.out | apply below_alloc | apply pw_below_drewN | apply below_drew1 | refine below_set ?_ GE183.out) | exact HB.out)⟩
                            · rw [if_neg c47] at H
                              have c47b0 : (((rd_T48 l0 x14_1).f1) == 0) = false := beq_eq_false_iff_ne.mpr c47
                              have c47b1 : (((rd_T48 l0 x14_1).f1) != 0) = true := bne_iff_ne.mpr c47
                              obtain rfl := Option.some.inj H
                              have hcz51_0 : wc.cell? ⟨gb183, 0, none⟩ = some (.int .i64 ((rd_T48 l0 x14_1).f0)) := (blk_cell BK183.out 0).trans rfl
                              have hcz51_1 : wc.cell? ⟨gb183, 1, none⟩ = some (.int .i64 ((rd_T48 l0 x14_1).f1)) := (blk_cell BK183.out 1).trans rfl
                              have hcz51_2 : wc.cell? ⟨gb183, 2, none⟩ = some (.int .i64 ((rd_T48 l0 x14_1).f2)) := (blk_cell BK183.out 2).trans rfl
                              have hcz51_3 : wc.cell? ⟨gb183, 3, none⟩ = some (.int .i64 ((rd_T48 l0 x14_1).f3)) := (blk_cell BK183.out 3).trans rfl
                              have hfz51_0 := blk_frozen BK183.out 0
                              have hfz51_1 := blk_frozen BK183.out 1
                              have hfz51_2 := blk_frozen BK183.out 2
                              have hfz51_3 := blk_frozen BK183.out 3
                              go_wp2_with (first | ((with_reducible refine gate_callee (f := 48) rfl ?_); refine goesL_ (some 30) rfl rfl Try.func48 (by kernel_rfl) rfl #[.int .i64 ((rd_T48 l0 x14_1).f0), .int .i64 1, .int .i64 15] rfl (by (try simp only [List.map_toArray, List.map_cons, List.map_nil]); first | done | rfl | (simp only [List.length_drop, List.length_take]; rfl)) ?_; (with_reducible refine (spec_l1In.calls ((rd_T48 l0 x14_1).f0) 1 15 true _ A45.out).mono ?_); rintro e w' ⟨rfl, ⟨nd, rfl⟩⟩; refine ⟨_, rfl, ?_⟩))
                              go_ret
                              exact ⟨by first | rfl | (simp [errW_none, errW_some] <;> rfl) | (simp [*, errW_none, errW_some] <;> rfl), by repeat (first | (with_reducible first | exact HB.out | apply below_alloc | apply pw_below_drewN | apply below_drew1 | refine below_set ?_ GE183.out) | exact HB.out)⟩
                          · replace c46 := Bool.eq_false_iff.mpr c46
                            (try subst c46)
                            have H1 : (some false) = some r := by rw [if_neg (show ¬ (false = true) by decide)] at H; exact H
                            clear H
                            have H := H1
                            clear H1
                            obtain rfl := Option.some.inj H
                            have hcz52_0 : wc.cell? ⟨gb183, 0, none⟩ = some (.int .i64 ((rd_T48 l0 x14_1).f0)) := (blk_cell BK183.out 0).trans rfl
                            have hcz52_1 : wc.cell? ⟨gb183, 1, none⟩ = some (.int .i64 ((rd_T48 l0 x14_1).f1)) := (blk_cell BK183.out 1).trans rfl
                            have hcz52_2 : wc.cell? ⟨gb183, 2, none⟩ = some (.int .i64 ((rd_T48 l0 x14_1).f2)) := (blk_cell BK183.out 2).trans rfl
                            have hcz52_3 : wc.cell? ⟨gb183, 3, none⟩ = some (.int .i64 ((rd_T48 l0 x14_1).f3)) := (blk_cell BK183.out 3).trans rfl
                            have hfz52_0 := blk_frozen BK183.out 0
                            have hfz52_1 := blk_frozen BK183.out 1
                            have hfz52_2 := blk_frozen BK183.out 2
                            have hfz52_3 := blk_frozen BK183.out 3
                            go_wp2_with (first | ((with_reducible refine gate_callee (f := 48) rfl ?_); refine goesL_ (some 30) rfl rfl Try.func48 (by kernel_rfl) rfl #[.int .i64 ((rd_T48 l0 x14_1).f0), .int .i64 1, .int .i64 15] rfl (by (try simp only [List.map_toArray, List.map_cons, List.map_nil]); first | done | rfl | (simp only [List.length_drop, List.length_take]; rfl)) ?_; (with_reducible refine (spec_l1In.calls ((rd_T48 l0 x14_1).f0) 1 15 false _ A45.out).mono ?_); rintro e w' ⟨rfl, ⟨nd, rfl⟩⟩; refine ⟨_, rfl, ?_⟩))
                            go_ret
                            exact ⟨by first | rfl | (simp [errW_none, errW_some] <;> rfl) | (simp [*, errW_none, errW_some] <;> rfl), by repeat (first | (with_reducible first | exact HB.out | apply below_alloc | apply pw_below_drewN | apply below_drew1 | refine below_set ?_ GE183.out) | exact HB.out)⟩
            · rw [if_neg c6] at H
              exact absurd H (by simp)
          · rw [if_neg c5] at H
            exact absurd H (by simp)
        · rw [if_neg c4] at H
          have c4b0 : decide (x14_1 < (l0.length : Int)) = false := decide_eq_false c4
          clear c4
          obtain rfl := Option.some.inj H
          go_wp2
          go_ret
          exact ⟨by first | rfl | (simp [errW_none, errW_some] <;> rfl) | (simp [*, errW_none, errW_some] <;> rfl), by repeat (first | (with_reducible first | exact HB.out | apply below_alloc | apply pw_below_drewN | apply below_drew1) | exact HB.out)⟩
  · replace c3 := Bool.eq_false_iff.mpr c3
    (try subst c3)
    have H1 : (some false) = some r := by rw [if_neg (show ¬ (false = true) by decide)] at H; exact H
    clear H
    have H := H1
    clear H1
    obtain rfl := Option.some.inj H
    go_enter Try.func32, Try.ntmps32
    go_wp2_with (first | ((with_reducible refine gate_callee (f := 48) rfl ?_); refine goesL_ (some 10) rfl rfl Try.func48 (by kernel_rfl) rfl #[.int .i64 (l0.length : Int), .int .i64 1, .int .i64 80] rfl (by (try simp only [List.map_toArray, List.map_cons, List.map_nil]); first | done | rfl | (simp only [List.length_drop, List.length_take]; rfl)) ?_; (with_reducible refine (spec_l1In.calls (l0.length : Int) 1 80 false _ A2.out).mono ?_); rintro e w' ⟨rfl, ⟨nd, rfl⟩⟩; refine ⟨_, rfl, ?_⟩))
    go_ret
    exact ⟨by first | rfl | (simp [errW_none, errW_some] <;> rfl) | (simp [*, errW_none, errW_some] <;> rfl), by repeat (first | (with_reducible first | exact HB.out | apply below_alloc | apply pw_below_drewN | apply below_drew1) | exact HB.out)⟩

end Go.Proofs.Ytlmiankjbffboaa.HFnCells

/- Text for FnExprs: written by a program of this session on the pattern of the kit's print. -/
import Derived.Test.YtjfgcipbbcplmaaDoorHFnExprsx0
import Derived.Test.YtjfgcipbbcplmaaDoorHFnExprsx4
import Derived.Test.YtjfgcipbbcplmaaDoorHFnExprsx9
import Derived.Test.YtjfgcipbbcplmaaDoorHFnExprsx10
import Derived.Test.YtjfgcipbbcplmaaDoorTree
namespace Go.Proofs.YtjfgcipbbcplmaaDoor.HFnExprs
set_option maxHeartbeats 8000000
set_option maxRecDepth 100000
open Go.RowKit Go.Proofs.YtjfgcipbbcplmaaDoorW.PrintWords Go.Proofs.YtjfgcipbbcplmaaDoorW.PrintLast Go.Proofs.YtjfgcipbbcplmaaDoorW.PrintMore
attribute [local go_sem] max2_int min2_int max_two min_two max_three min_three max_four min_four
set_option linter.unusedVariables false
set_option linter.unusedSimpArgs false

/-! ### impl_NegateExpr: function 15 -/
def FT (d : Kd S25) : Kd S25 := Kd.iso (Kd.pair (Kd.int .i64) (Kd.pair (Kd.int .i64) (Kd.sliceS 25 d))) (fun x : S25 => (x.f0, x.f1, x.f2))
theorem monoT : Kd.Mono FT := Kd.mono_iso _ (Kd.mono_pair (Kd.mono_const _) (Kd.mono_pair (Kd.mono_const _) (Kd.mono_sliceS 25 Kd.mono_id)))
theorem subT : Kd.Sub FT [25] := Kd.sub_iso _ (Kd.sub_pair (Kd.sub_const _ (by decide)) (Kd.sub_pair (Kd.sub_const _ (by decide)) (Kd.sub_sliceS 25 (by decide) Kd.sub_id)))
theorem szT : ∀ n, (Kd.upto FT 3 [25] n).sz = 3 := Kd.upto_sz (fun _ => rfl)
/-- A tree no two nodes of which lead to one block. -/
def kT : Kd S25 := Kd.fix FT 3 [25] szT (Kd.upto_E subT)
theorem kT_mkM (w : World) (base : Nat) (ok : Nat → Prop) (x : S25) {v2 : Value} (g2 : Kd.S kT 25 w base ok v2 x.f2) : kT.M w base ok x [.int .i64 x.f0, .int .i64 x.f1, v2] := by
 obtain ⟨n2, q2⟩ := Kd.fix_S_back monoT g2
 exact ⟨n2 + 1, ⟨[.int .i64 x.f0], [.int .i64 x.f1, v2], rfl, rfl, ⟨[.int .i64 x.f1], [v2], rfl, rfl, ⟨v2, rfl, q2⟩⟩⟩⟩
theorem kT_imp : ∀ n (w : World) (base : Nat) (ok : Nat → Prop) (x : S25) (cs : List Value), (Kd.upto FT 3 [25] n).M w base ok x cs → (Kd.upto F25 3 [25] n).M w base ok x cs
 | 0, _, _, _, _, _, h => h.elim
 | n + 1, w, base, ok, x, cs, h => by
  obtain ⟨c0, c1, rfl, h0, ⟨c2, c3, rfl, h1, ⟨v, rfl, hs⟩⟩⟩ := h
  exact ⟨c0, _, rfl, h0, ⟨c2, _, rfl, h1, ⟨v, rfl, Kd.R_imp (by rw [szT n, sz25 n]) (kT_imp n) (Kd.S_R hs)⟩⟩⟩
/-- Read, it is a row as the others have it. -/
theorem kT_R {w : World} {base : Nat} {ok : Nat → Prop} {v : Value} {xs : List S25} (h : Kd.S kT 25 w base ok v xs) : Kd.R k25 25 w base ok v xs :=
 Kd.R_imp (d := kT) (d' := k25) rfl (fun w base ok x cs hm => by obtain ⟨n, hm⟩ := hm; exact ⟨n, kT_imp n _ _ _ _ _ hm⟩) (Kd.S_R h)
theorem impl_copyExpr.callsS (k : Nat) : ∀ (a0_0 : Int) (a0_1 : Int) (A0_2 : Option Addr) (c0_2 : Nat) (l0_2 : List (S25)) (r1 : Int) (r2 : Int) (r3 : List (S25)) (w : World) (hr0_2 : Kd.C k25 w A0_2 l0_2.length l0_2) (hc0_2 : l0_2.length ≤ c0_2) (h : impl_copyExpr.f k a0_0 a0_1 l0_2 = some (r1, r2, r3)),
  Calls Tryd.prog 48 #[.agg #[.int .i64 a0_0, .int .i64 a0_1, .slice A0_2 l0_2.length c0_2]] w fun e w' => ∃ v2_ : Value, e = .returned (.agg #[.int .i64 r1, .int .i64 r2, v2_]) ∧ Kd.S kT 25 w' w.heap.size (fun _ => True) v2_ r3 ∧ Below w.heap.size w w' := by
 induction k using Nat.strongRecOn with
 | _ k ih =>
 intro a0_0 a0_1 A0_2 c0_2 l0_2 r1 r2 r3 w hr0_2 hc0_2 h
 cases k with
 | zero => exact absurd h (by simp [impl_copyExpr.f])
 | succ k =>
 simp only [impl_copyExpr.f] at h
 have hu28 := Tryd.underlying25
 have HR0_2 := Ak hr0_2
 have HC0_2 := Ak hc0_2
 clear hr0_2 hc0_2
 have HB := Ak (Below.refl w.heap.size w)
 have H : (impl_copyExpr.l0 k l0_2 (l0_2.length : Int) 0 a0_0 a0_1 ([] : List (S25))) = some (r1, r2, r3) := h
 clear h
 have H' := Ak H
 clear H
 go_enter Tryd.func48, Tryd.ntmps48
 go_wp2_with (first | ((with_reducible refine gate_dst (N := 1) rfl ?_); refine Qk 1 #[.int .i64 a0_0, .int .i64 a0_1, .slice A0_2 l0_2.length c0_2] 25 ?_; intro gb231 hg w2 hbox hb; have BK231 := Ak (hbox); have GW231 := Ak ((Qp hg HB.out : w.heap.size ≤ gb231)); have GE231 := Ak ((Qp hg HB.out : w.heap.size ≤ gb231)); replace HB := Ak (below_step (Qb HB.out) hb); clear hb hbox hg) | ((with_reducible refine gate_dst (N := 2) rfl ?_); refine Qk 2 #[.int .i64 0, .int .i64 0, .slice none 0 0] 25 ?_; intro gb232 hg w3 hbox hb; have BK232 := Ak (hbox); have GW232 := Ak ((Qp hg HB.out : w.heap.size ≤ gb232)); have GE232 := Ak ((Qp hg HB.out : w.heap.size ≤ gb232)); replace HB := Ak (below_step (Qb HB.out) hb); have NB231_232 := Ak ((by rw [hg]; exact Nat.ne_of_lt (Qn BK231.out) : gb231 ≠ gb232)); have NB232_231 := Ak ((by rw [hg]; exact Nat.ne_of_gt (Qn BK231.out) : gb232 ≠ gb231)); replace BK231 := Ak (Qm BK231.out hb); clear hb hbox hg; have hnb4 := NB231_232.out; have hnc4 := NB232_231.out; obtain ⟨hcz5_0, hcz5_1, hcz5_2⟩ := Qu3 BK231.out; have hfz5_0 := blk_frozen BK231.out 0; have hfz5_1 := blk_frozen BK231.out 1; have hfz5_2 := blk_frozen BK231.out 2) | ((with_reducible refine gate_dst (N := 3) rfl ?_); refine Qk 3 #[.int .i64 0, .int .i64 0, .slice none 0 0] 25 ?_; intro gb233 hg w6 hbox hb; have BK233 := Ak (hbox); have GW233 := Ak ((Qp hg HB.out : w.heap.size ≤ gb233)); have GE233 := Ak ((Qp hg HB.out : w.heap.size ≤ gb233)); replace HB := Ak (below_step (Qb HB.out) hb); have NB231_233 := Ak ((by rw [hg]; exact Nat.ne_of_lt (Qn BK231.out) : gb231 ≠ gb233)); have NB233_231 := Ak ((by rw [hg]; exact Nat.ne_of_gt (Qn BK231.out) : gb233 ≠ gb231)); replace BK231 := Ak (Qm BK231.out hb); have NB232_233 := Ak ((by rw [hg]; exact Nat.ne_of_lt (Qn BK232.out) : gb232 ≠ gb233)); have NB233_232 := Ak ((by rw [hg]; exact Nat.ne_of_gt (Qn BK232.out) : gb233 ≠ gb232)); replace BK232 := Ak (Qm BK232.out hb); clear hb hbox hg; have hnb7 := NB233_231.out; have hnc7 := NB231_233.out; have hnb8 := NB233_232.out; have hnc8 := NB232_233.out; obtain ⟨hcz9_0, hcz9_1, hcz9_2, hfz9_0, hfz9_1, hfz9_2⟩ := Qv3 BK233.out; obtain ⟨hcz10_0, hcz10_1, hcz10_2⟩ := Qu3 BK231.out; have hfz10_0 := blk_frozen BK231.out 0; have hfz10_1 := blk_frozen BK231.out 1; have hfz10_2 := blk_frozen BK231.out 2))
 go_loopg [14] k (fun kq v14 w' => ∃ (x14_1 : Int) (x234002_1 : List (S25)) (u234002 : Value), v14 = .int .i64 x14_1 ∧ Aside0 (impl_copyExpr.l0 kq l0_2 (l0_2.length : Int) x14_1 a0_0 a0_1 x234002_1 = some (r1, r2, r3)) ∧ Aside0 (kq ≤ k) ∧ Aside0 (Kd.S kT 25 w' w.heap.size (fun k_ => k_ ≠ gb231 ∧ k_ ≠ gb232 ∧ k_ ≠ gb233) u234002 x234002_1) ∧ Aside0 (w'.heap[gb231]? = some (.cells #[.int .i64 a0_0, .int .i64 a0_1, (.slice A0_2 l0_2.length c0_2)] 25 (0, 0))) ∧ Aside0 (w'.heap[gb232]? = some (.cells #[.int .i64 0, .int .i64 0, (.slice none 0 0)] 25 (0, 0))) ∧ Aside0 (w'.heap[gb233]? = some (.cells #[.int .i64 a0_0, .int .i64 a0_1, u234002] 25 (0, 0))) ∧ Aside0 (Below w.heap.size w w'))
 case atStart => exact ⟨(0), (([] : List (S25))), (.slice none 0 0), Qi, H', ⟨Nat.le_refl _⟩, ⟨by first | exact Kd.S_nil _ _ _ _ _ | exact Kd.N_nil _ _ _ _ _ | exact Kd.V_nil _ _ _ _ _ | exact Kd.Q_nil _ _ _ _ _ | exact Kd.S_nil _ _ _ _ _⟩, ⟨by refine Qe ?_; refine blk_far ?_ NB231_233.out _; refine Qe ?_; refine blk_far ?_ NB231_233.out _; refine Qe ?_; refine blk_far ?_ NB231_233.out _; refine Qe ?_; exact BK231.out⟩, ⟨by refine Qe ?_; refine blk_far ?_ NB232_233.out _; refine Qe ?_; refine blk_far ?_ NB232_233.out _; refine Qe ?_; refine blk_far ?_ NB232_233.out _; refine Qe ?_; exact BK232.out⟩, ⟨by refine Qe ?_; refine blk_put (cs := #[.int .i64 a0_0, .int .i64 a0_1, .slice none 0 0]) ?_ 2 _ rfl; refine Qe ?_; refine blk_put (cs := #[.int .i64 a0_0, .int .i64 0, .slice none 0 0]) ?_ 1 _ rfl; refine Qe ?_; refine blk_put (cs := #[.int .i64 0, .int .i64 0, .slice none 0 0]) ?_ 0 _ rfl; refine Qe ?_; exact BK233.out⟩, ⟨Qb HB.out⟩⟩
 case round =>
  clear H'
  (try clear c2)
  obtain ⟨x14_1, x234002_1, u234002, rfl, HA, HK1, HO_234002, BK231, BK232, BK233, HB⟩ := hrel
  cases gk with
  | zero => exact absurd HA.out (by simp [impl_copyExpr.l0])
  | succ k1 =>
   have H := HA.out
   clear HA
   simp only [impl_copyExpr.l0] at H
   by_cases c11 : x14_1 < (l0_2.length : Int)
   ·rw [if_pos c11] at H
    have c11b0 : decide (x14_1 < (l0_2.length : Int)) = true := decide_eq_true c11
    clear c11
    by_cases c12 : 0 ≤ x14_1
    ·rw [if_pos c12] at H
     have c12b0 : decide (0 ≤ x14_1) = true := decide_eq_true c12
     clear c12
     by_cases c13 : x14_1 < (l0_2.length : Int)
     ·rw [if_pos c13] at H
      have c13b0 : decide (x14_1 < (l0_2.length : Int)) = true := decide_eq_true c13
      clear c13
      replace H := Option.bind_eq_some_iff.mp H
      obtain ⟨⟨t236, t237, t238⟩, A140, H⟩ := H
      replace H : (if x234002_1.length < 3518437208883 then (impl_copyExpr.l0 k1 l0_2 (l0_2.length : Int) (wrap64 (x14_1 + 1)) a0_0 a0_1 (x234002_1 ++ [(⟨t236, t237, t238⟩ : S25)])) else (none)) = some (r1, r2, r3) := H
      have A14 := Ak A140
      clear A140
      by_cases c15 : x234002_1.length < 3518437208883
      ·rw [if_pos c15] at H
       have LMc15 := Ak c15
       clear c15
       obtain ⟨y241, hy241⟩ : ∃ y_ : List (S25), y_ = (x234002_1 ++ [(⟨t236, t237, t238⟩ : S25)]) := ⟨_, rfl⟩
       replace H : (impl_copyExpr.l0 k1 l0_2 (l0_2.length : Int) (wrap64 (x14_1 + 1)) a0_0 a0_1 y241) = some (r1, r2, r3) := by first | (rw [hy241]; with_reducible exact H) | (have H2_ := (Option.bind_some _ _).symm.trans H; rw [hy241]; with_reducible exact H2_) | (have H2_ := (Option.bind_some _ _).symm.trans H; with_reducible exact H2_) | with_reducible exact H | (rw [hy241]; exact H) | exact H
       have Ny241 := Ak hy241
       clear hy241
       have H' := Ak H
       clear H
       have p234 : 0 ≤ (x14_1 : Int) := Qg
       have q234 : x14_1 < (l0_2.length : Int) := Qg
       obtain ⟨ad234, A234_2, c234_2, e234, hx234_0, hx234_1, hx234_2, hl234_2, hi234_2⟩ := at_T25 HR0_2.out x14_1 p234 q234
       cases e234
       (try replace hx234_0 := (HB.out.cell (World.block_lt_of_cell? w _ hx234_0)).trans hx234_0)
       (try replace hx234_1 := (HB.out.cell (World.block_lt_of_cell? w _ hx234_1)).trans hx234_1)
       (try replace hx234_2 := (HB.out.cell (World.block_lt_of_cell? w _ hx234_2)).trans hx234_2)
       have HR234_2 := Ak hi234_2
       have HC234_2 := Ak hl234_2
       clear hi234_2 hl234_2
       replace p234 := eq_true p234
       replace q234 := eq_true q234
       try go_wp2_with (first | ((with_reducible refine gate_dst (N := 5) rfl ?_); refine Qk 5 #[.int .i64 0, .int .i64 0, .slice none 0 0] 25 ?_; intro gb235 hg w16 hbox hb; replace HO_234002 := Ak (Kd.S_below (Kd.S_elderB (QcS HO_234002.out) gb235 (Nat.le_of_eq hg.symm)) hb); have BK235 := Ak (hbox); have GW235 := Ak ((Qp hg HB.out : w.heap.size ≤ gb235)); have GE235 := Ak ((Qp hg HB.out : w.heap.size ≤ gb235)); replace HB := Ak (below_step (Qb HB.out) hb); have NB231_235 := Ak ((by rw [hg]; exact Nat.ne_of_lt (Qn BK231.out) : gb231 ≠ gb235)); have NB235_231 := Ak ((by rw [hg]; exact Nat.ne_of_gt (Qn BK231.out) : gb235 ≠ gb231)); replace BK231 := Ak (Qm BK231.out hb); have NB232_235 := Ak ((by rw [hg]; exact Nat.ne_of_lt (Qn BK232.out) : gb232 ≠ gb235)); have NB235_232 := Ak ((by rw [hg]; exact Nat.ne_of_gt (Qn BK232.out) : gb235 ≠ gb232)); replace BK232 := Ak (Qm BK232.out hb); have NB233_235 := Ak ((by rw [hg]; exact Nat.ne_of_lt (Qn BK233.out) : gb233 ≠ gb235)); have NB235_233 := Ak ((by rw [hg]; exact Nat.ne_of_gt (Qn BK233.out) : gb235 ≠ gb233)); replace BK233 := Ak (Qm BK233.out hb); clear hb hbox hg; have hnb17 := NB235_231.out; have hnc17 := NB231_235.out; have hnb18 := NB235_232.out; have hnc18 := NB232_235.out; have hnb19 := NB235_233.out; have hnc19 := NB233_235.out; obtain ⟨hcz20_0, hcz20_1, hcz20_2⟩ := Qu3 BK235.out; have hfz20_0 := blk_frozen BK235.out 0; have hfz20_1 := blk_frozen BK235.out 1; have hfz20_2 := blk_frozen BK235.out 2))
       have n0_ : Aside0 (Kd.S kT 25 (((w16.setCell ⟨gb235, 0, none⟩ (.int .i64 ((rd_T25 l0_2 x14_1).f0))).setCell ⟨gb235, 1, none⟩ (.int .i64 ((rd_T25 l0_2 x14_1).f1))).setCell ⟨gb235, 2, none⟩ (.slice A234_2 ((rd_T25 l0_2 x14_1).f2).length c234_2)) w.heap.size (fun k_ => k_ ≠ gb231 ∧ k_ ≠ gb232 ∧ k_ ≠ gb233 ∧ k_ ≠ gb235) u234002 x234002_1) := ⟨by refine QfS ?_; exact Kd.S_mono (Kd.S_far (p := ⟨gb235, 2, none⟩) (Kd.S_far (p := ⟨gb235, 1, none⟩) (Kd.S_far (p := ⟨gb235, 0, none⟩) (Kd.S_mono HO_234002.out (fun k_ hk => (⟨hk, hk.2⟩ : _ ∧ k_ ≠ gb235))) (fun _ hk => hk.2) (.int .i64 ((rd_T25 l0_2 x14_1).f0))) (fun _ hk => hk.2) (.int .i64 ((rd_T25 l0_2 x14_1).f1))) (fun _ hk => hk.2) (.slice A234_2 ((rd_T25 l0_2 x14_1).f2).length c234_2)) (fun _ hk => ⟨hk.1.1.1, ⟨hk.1.1.2.1, ⟨hk.1.1.2.2, hk.1.2⟩⟩⟩)⟩
       have n1_ : Aside0 ((((w16.setCell ⟨gb235, 0, none⟩ (.int .i64 ((rd_T25 l0_2 x14_1).f0))).setCell ⟨gb235, 1, none⟩ (.int .i64 ((rd_T25 l0_2 x14_1).f1))).setCell ⟨gb235, 2, none⟩ (.slice A234_2 ((rd_T25 l0_2 x14_1).f2).length c234_2)).heap[gb231]? = some (.cells #[.int .i64 a0_0, .int .i64 a0_1, .slice (some ad234) l0_2.length c0_2] 25 (0, 0))) := ⟨by refine Qe ?_; refine blk_far ?_ NB231_235.out _; refine Qe ?_; refine blk_far ?_ NB231_235.out _; refine Qe ?_; refine blk_far ?_ NB231_235.out _; refine Qe ?_; exact BK231.out⟩
       have n2_ : Aside0 ((((w16.setCell ⟨gb235, 0, none⟩ (.int .i64 ((rd_T25 l0_2 x14_1).f0))).setCell ⟨gb235, 1, none⟩ (.int .i64 ((rd_T25 l0_2 x14_1).f1))).setCell ⟨gb235, 2, none⟩ (.slice A234_2 ((rd_T25 l0_2 x14_1).f2).length c234_2)).heap[gb232]? = some (.cells #[.int .i64 0, .int .i64 0, .slice none 0 0] 25 (0, 0))) := ⟨by refine Qe ?_; refine blk_far ?_ NB232_235.out _; refine Qe ?_; refine blk_far ?_ NB232_235.out _; refine Qe ?_; refine blk_far ?_ NB232_235.out _; refine Qe ?_; exact BK232.out⟩
       have n3_ : Aside0 ((((w16.setCell ⟨gb235, 0, none⟩ (.int .i64 ((rd_T25 l0_2 x14_1).f0))).setCell ⟨gb235, 1, none⟩ (.int .i64 ((rd_T25 l0_2 x14_1).f1))).setCell ⟨gb235, 2, none⟩ (.slice A234_2 ((rd_T25 l0_2 x14_1).f2).length c234_2)).heap[gb233]? = some (.cells #[.int .i64 a0_0, .int .i64 a0_1, u234002] 25 (0, 0))) := ⟨by refine Qe ?_; refine blk_far ?_ NB233_235.out _; refine Qe ?_; refine blk_far ?_ NB233_235.out _; refine Qe ?_; refine blk_far ?_ NB233_235.out _; refine Qe ?_; exact BK233.out⟩
       have n4_ : Aside0 ((((w16.setCell ⟨gb235, 0, none⟩ (.int .i64 ((rd_T25 l0_2 x14_1).f0))).setCell ⟨gb235, 1, none⟩ (.int .i64 ((rd_T25 l0_2 x14_1).f1))).setCell ⟨gb235, 2, none⟩ (.slice A234_2 ((rd_T25 l0_2 x14_1).f2).length c234_2)).heap[gb235]? = some (.cells #[.int .i64 ((rd_T25 l0_2 x14_1).f0), .int .i64 ((rd_T25 l0_2 x14_1).f1), .slice A234_2 ((rd_T25 l0_2 x14_1).f2).length c234_2] 25 (0, 0))) := ⟨by refine Qe ?_; refine blk_put (cs := #[.int .i64 ((rd_T25 l0_2 x14_1).f0), .int .i64 ((rd_T25 l0_2 x14_1).f1), .slice none 0 0]) ?_ 2 _ rfl; refine Qe ?_; refine blk_put (cs := #[.int .i64 ((rd_T25 l0_2 x14_1).f0), .int .i64 0, .slice none 0 0]) ?_ 1 _ rfl; refine Qe ?_; refine blk_put (cs := #[.int .i64 0, .int .i64 0, .slice none 0 0]) ?_ 0 _ rfl; refine Qe ?_; exact BK235.out⟩
       have n5_ : Aside0 (Below w.heap.size w (((w16.setCell ⟨gb235, 0, none⟩ (.int .i64 ((rd_T25 l0_2 x14_1).f0))).setCell ⟨gb235, 1, none⟩ (.int .i64 ((rd_T25 l0_2 x14_1).f1))).setCell ⟨gb235, 2, none⟩ (.slice A234_2 ((rd_T25 l0_2 x14_1).f2).length c234_2))) := ⟨Qb HB.out⟩
       (try clear HO_234002)
       generalize (((w16.setCell ⟨gb235, 0, none⟩ (.int .i64 ((rd_T25 l0_2 x14_1).f0))).setCell ⟨gb235, 1, none⟩ (.int .i64 ((rd_T25 l0_2 x14_1).f1))).setCell ⟨gb235, 2, none⟩ (.slice A234_2 ((rd_T25 l0_2 x14_1).f2).length c234_2)) = w21 at n0_ n1_ n2_ n3_ n4_ n5_ ⊢
       have HO_234002 := n0_
       have BK231 := n1_
       have BK232 := n2_
       have BK233 := n3_
       have BK235 := n4_
       have HB := n5_
       clear n0_ n1_ n2_ n3_ n4_ n5_
       have n0_ := Ak (Kd.S_drew HO_234002.out)
       have n1_ := Ak (blk_drew BK231.out)
       have n2_ := Ak (blk_drew BK232.out)
       have n3_ := Ak (blk_drew BK233.out)
       have n4_ := Ak (blk_drew BK235.out)
       have n5_ := Ak (below_drew1 HB.out)
       clear HO_234002 BK231 BK232 BK233 BK235 HB
       have HO_234002 := n0_
       have BK231 := n1_
       have BK232 := n2_
       have BK233 := n3_
       have BK235 := n4_
       have HB := n5_
       clear n0_ n1_ n2_ n3_ n4_ n5_
       refine start_ (n := 8) (S := fun w' => w'.cell? ⟨gb233, 0, none⟩ = some (.int .i64 a0_0) ∧ w'.cell? ⟨gb233, 1, none⟩ = some (.int .i64 a0_1) ∧ w'.cell? ⟨gb233, 2, none⟩ = some (u234002) ∧ w'.cell? ⟨gb235, 0, none⟩ = some (.int .i64 ((rd_T25 l0_2 x14_1).f0)) ∧ w'.cell? ⟨gb235, 1, none⟩ = some (.int .i64 ((rd_T25 l0_2 x14_1).f1)) ∧ w'.cell? ⟨gb235, 2, none⟩ = some (.slice A234_2 ((rd_T25 l0_2 x14_1).f2).length c234_2)) (ds := [7]) #[false, false, false, false, false, false, false, false] (by kernel_rfl) rfl rfl ⟨(blk_cell BK233.out 0).trans rfl, (blk_cell BK233.out 1).trans rfl, (blk_cell BK233.out 2).trans rfl, (blk_cell BK235.out 0).trans rfl, (blk_cell BK235.out 1).trans rfl, (blk_cell BK235.out 2).trans rfl⟩ (fun hHeld => ?_); refine with_tabW impl_copyExpr.tab5 impl_copyExpr.bits5 (fun HT_ HW_ => ?_)
       generalize w21.drew = w22 at HO_234002 BK231 BK232 BK233 BK235 HB hHeld ⊢
       have LT := Ak (And.intro (blk_lt BK231.out) (And.intro (blk_lt BK232.out) (And.intro (blk_lt BK233.out) (And.intro (blk_lt BK235.out) (Kd.S_lt HO_234002.out)))))
       refine Qq 0 (some 18) ?_
       refine Qr 1 (some 19) hHeld ?_
       refine Qr 2 (some 20) hHeld ?_
       refine Qs 3 (some 21) (fun K hK => ?_)
       refine goes_ Tryd.func48 (by kernel_rfl) rfl #[.agg #[.int .i64 ((rd_T25 l0_2 x14_1).f0), .int .i64 ((rd_T25 l0_2 x14_1).f1), .slice A234_2 ((rd_T25 l0_2 x14_1).f2).length c234_2]] (by rfl) rfl rfl T_49 ?_
       with_reducible refine (ih k1 T_61 ((rd_T25 l0_2 x14_1).f0) ((rd_T25 l0_2 x14_1).f1) _ _ ((rd_T25 l0_2 x14_1).f2) t236 t237 t238 _ ?side1 ?side2 A14.out).mono ?_
       (case side1 => repeat (first | exact (Kd.C_below HR234_2.out HB.out) | (with_reducible refine Kd.C_alloc ?_ _) | (with_reducible refine Kd.C_drewN ?_ _) | (with_reducible refine Kd.C_drew ?_)))
       (case side2 => exact HC234_2.out)
       rintro e w23 ⟨v239, rfl, ho0, hb⟩
       refine ⟨_, rfl, ?_⟩
       have n0_ := Ak (Kd.S_mono (Kd.S_elder' (Kd.S_bound (QcS HO_234002.out)) (Kd.S_base ho0) hb) (ok' := fun k_ => (k_ ≠ gb231 ∧ k_ ≠ gb232 ∧ k_ ≠ gb233 ∧ k_ ≠ gb235) ∧ k_ < w22.heap.size) (fun k_ hk => ⟨hk.1.1, hk.1.2.2.1⟩))
       have n1_ := Ak (Kd.S_lower (Kd.S_mono (Kd.S_bound ho0) (ok' := fun k_ => w22.heap.size ≤ k_) (fun k_ hk => hk.2.1)) (below_size (Qb HB.out)))
       have n2_ := Ak (Qm BK231.out hb)
       have n3_ := Ak (Qm BK232.out hb)
       have n4_ := Ak (Qm BK233.out hb)
       have n5_ := Ak (Qm BK235.out hb)
       have n6_ := Ak (below_step (Qb HB.out) hb)
       clear HO_234002 BK231 BK232 BK233 BK235 HB
       have HO_234002 := n0_
       have HO240 := n1_
       have BK231 := n2_
       have BK232 := n3_
       have BK233 := n4_
       have BK235 := n5_
       have HB := n6_
       clear n0_ n1_ n2_ n3_ n4_ n5_ n6_
       (try clear hb)
       obtain ⟨Ao25, co25, eo25⟩ := Kd.S_slice HO240.out
       (first | subst eo25 | (injection eo25 with f1_ f2_ f3_; have f4_ := f1_.symm; have f5_ := f3_.symm; clear f1_ f2_ f3_; subst f4_; subst f5_))
       refine hK.out _ _ ⟨(blk_cell BK233.out 0).trans rfl, (blk_cell BK233.out 1).trans rfl, (blk_cell BK233.out 2).trans rfl, (blk_cell BK235.out 0).trans rfl, (blk_cell BK235.out 1).trans rfl, (blk_cell BK235.out 2).trans rfl⟩ (fun hHeld => ?_)
       clear hK K
       refine norm_ (a' := ?_) ?_ ?_
       rotate_left
       ·show Act.put _ (some 21) _ = _
        simp only [Act.put, List.setIfInBounds_toArray, List.set_cons_zero, List.set_cons_succ, i64_w, i32_w]
        rfl
       refine Qs 4 (some 22) (fun K hK => ?_)
       refine value_ (w1 := ?_) (v := ?_) (by rfl) rfl ?_ ?_
       rotate_left 2
       ·go_simp
        constructor
        ·rfl
        ·rfl
       refine hK.out _ _ ⟨(blk_cell (blk_alloc BK233.out _) 0).trans rfl, (blk_cell (blk_alloc BK233.out _) 1).trans rfl, (blk_cell (blk_alloc BK233.out _) 2).trans rfl, (blk_cell (blk_alloc BK235.out _) 0).trans rfl, (blk_cell (blk_alloc BK235.out _) 1).trans rfl, (blk_cell (blk_alloc BK235.out _) 2).trans rfl⟩ (fun hHeld => ?_)
       clear hK K
       refine norm_ (a' := ?_) ?_ ?_
       rotate_left
       ·show Act.put _ (some 22) _ = _
        simp only [Act.put, List.setIfInBounds_toArray, List.set_cons_zero, List.set_cons_succ, i64_w, i32_w]
        rfl
       refine Qs 5 (some 23) (fun K hK => ?_)
       refine Kd.S_append_step kT (w0 := w) w.heap.size (by rfl) (.tmp 19) (.tmp 22) 23 25 (.agg #[(.int .i64 0), (.int .i64 0), (.slice none 0 0)]) 40 rfl Tryd.underlying23 info25 rfl (by decide) (by omega) u234002 x234002_1 (⟨t236, t237, t238⟩ : S25) [.int .i64 t236, .int .i64 t237, .slice Ao25 t238.length co25] (fun k_ => k_ ≠ gb231 ∧ k_ ≠ gb232 ∧ k_ ≠ gb233 ∧ k_ ≠ gb235) (fun k_ => w22.heap.size ≤ k_) rfl rfl ?aP ?aK ?aF ?aO ?aB ?aS ?aL ?_
       (case aK => exact (fun k_ hk => ⟨⟨fun e_ => Nat.lt_irrefl _ (Nat.lt_of_lt_of_le (e_ ▸ LT.out.1) hk), fun e_ => Nat.lt_irrefl _ (Nat.lt_of_lt_of_le (e_ ▸ LT.out.2.1) hk), fun e_ => Nat.lt_irrefl _ (Nat.lt_of_lt_of_le (e_ ▸ LT.out.2.2.1) hk), fun e_ => Nat.lt_irrefl _ (Nat.lt_of_lt_of_le (e_ ▸ LT.out.2.2.2.1) hk)⟩, fun e_ => Nat.lt_irrefl _ (Nat.lt_of_lt_of_le (LT.out.2.2.2.2 k_ e_.symm) hk)⟩))
       (case aP => exact kT_mkM _ _ _ (⟨t236, t237, t238⟩ : S25) (HO240.out))
       (case aB => exact (Qb HB.out))
       (case aF => exact (fun k_ hk => ⟨Kd.freshB (g := gb231) (o := .cells #[.int .i64 a0_0, .int .i64 a0_1, .slice (some ad234) l0_2.length c0_2] 25 (0, 0)) (Qa BK231.out) k_ hk, Kd.freshB (g := gb232) (o := .cells #[.int .i64 0, .int .i64 0, .slice none 0 0] 25 (0, 0)) (Qa BK232.out) k_ hk, Kd.freshB (g := gb233) (o := .cells #[.int .i64 a0_0, .int .i64 a0_1, u234002] 25 (0, 0)) (Qa BK233.out) k_ hk, Kd.freshB (g := gb235) (o := .cells #[.int .i64 ((rd_T25 l0_2 x14_1).f0), .int .i64 ((rd_T25 l0_2 x14_1).f1), .slice A234_2 ((rd_T25 l0_2 x14_1).f2).length c234_2] 25 (0, 0)) (Qa BK235.out) k_ hk⟩))
       (case aO => exact (by refine QfS ?_; exact Kd.S_mono HO_234002.out (fun _ hk => ⟨hk.1, fun h2 => Nat.lt_irrefl _ (Nat.lt_of_lt_of_le hk.2 h2)⟩)))
       (case aS => exact U_28)
       (case aL => have := LMc15.out; omega)
       intro v242 w24 ho hb hg hat
       rw [← Ny241.out] at ho
       have n0_ := Ak (blk_grown (g := gb231) (o := .cells #[.int .i64 a0_0, .int .i64 a0_1, .slice (some ad234) l0_2.length c0_2] 25 (0, 0)) (Qa BK231.out) hg (Kd.S_away HO_234002.out (fun _ hk => hk.1.1)))
       have n1_ := Ak (blk_grown (g := gb232) (o := .cells #[.int .i64 0, .int .i64 0, .slice none 0 0] 25 (0, 0)) (Qa BK232.out) hg (Kd.S_away HO_234002.out (fun _ hk => hk.1.2.1)))
       have n2_ := Ak (blk_grown (g := gb233) (o := .cells #[.int .i64 a0_0, .int .i64 a0_1, u234002] 25 (0, 0)) (Qa BK233.out) hg (Kd.S_away HO_234002.out (fun _ hk => hk.1.2.2.1)))
       have n3_ := Ak (blk_grown (g := gb235) (o := .cells #[.int .i64 ((rd_T25 l0_2 x14_1).f0), .int .i64 ((rd_T25 l0_2 x14_1).f1), .slice A234_2 ((rd_T25 l0_2 x14_1).f2).length c234_2] 25 (0, 0)) (Qa BK235.out) hg (Kd.S_away HO_234002.out (fun _ hk => hk.1.2.2.2)))
       have n4_ := Ak (hb)
       have n5_ := Ak (ho)
       clear BK231 BK232 BK233 BK235 HB HO_234002 HO240
       have BK231 := n0_
       have BK232 := n1_
       have BK233 := n2_
       have BK235 := n3_
       have HB := n4_
       have HO243 := n5_
       clear n0_ n1_ n2_ n3_ n4_ n5_
       clear ho hb hg hat
       obtain ⟨Ao26, co26, eo26⟩ := Kd.S_slice HO243.out
       (first | subst eo26 | (injection eo26 with f1_ f2_ f3_; have f4_ := f1_.symm; have f5_ := f3_.symm; clear f1_ f2_ f3_; subst f4_; subst f5_))
       refine hK.out _ _ ⟨(blk_cell BK233.out 0).trans rfl, (blk_cell BK233.out 1).trans rfl, (blk_cell BK233.out 2).trans rfl, (blk_cell BK235.out 0).trans rfl, (blk_cell BK235.out 1).trans rfl, (blk_cell BK235.out 2).trans rfl⟩ (fun hHeld => ?_)
       clear hK K
       refine norm_ (a' := ?_) ?_ ?_
       rotate_left
       ·show Act.put _ (some 23) _ = _
        simp only [Act.put, List.setIfInBounds_toArray, List.set_cons_zero, List.set_cons_succ, i64_w, i32_w]
        rfl
       refine Qq 6 (some 24) ?_
       refine Qt 7 none (fun K hK => ?_)
       have hs27 : w24.cell? ⟨gb233, 2, none⟩ = some (u234002) := (blk_cell BK233.out 2).trans rfl
       have hfs27 := blk_frozen BK233.out 2
       have hns27_0 := NB231_233.out
       have hns27_1 := NB232_233.out
       have hns27_3 := NB235_233.out
       have hms27_0 := NB233_231.out
       have hms27_1 := NB233_232.out
       have hms27_3 := NB233_235.out
       refine skip_ (w1 := ?_) (by rfl) rfl ?_ ?_
       rotate_left
       ·go_simp
        rfl
       refine hK.out _ _ ?_
       clear hK K
       refine done_ (done_of HT_.out (by kernel_rfl)) ?_
       try go_wp2
       go_roundg k1
       case measure => have := HK1.out; omega
       case rel => exact ⟨(wrap64 (x14_1 + 1)), (y241), (.slice Ao26 y241.length co26), Qi, H', ⟨by have := HK1.out; omega⟩, ⟨by refine QfS ?_; exact Kd.S_mono (Kd.S_far (p := ⟨gb233, 2, none⟩) (Kd.S_mono HO243.out (fun k_ hk => (⟨hk, hk.2.2.1⟩ : _ ∧ k_ ≠ gb233))) (fun _ hk => hk.2) (.slice Ao26 y241.length co26)) (fun _ hk => ⟨hk.1.1, ⟨hk.1.2.1, hk.1.2.2.1⟩⟩)⟩, ⟨by refine Qe ?_; refine blk_far ?_ NB231_233.out _; refine Qe ?_; exact BK231.out⟩, ⟨by refine Qe ?_; refine blk_far ?_ NB232_233.out _; refine Qe ?_; exact BK232.out⟩, ⟨by refine Qe ?_; refine blk_put (cs := #[.int .i64 a0_0, .int .i64 a0_1, u234002]) ?_ 2 _ rfl; refine Qe ?_; exact BK233.out⟩, ⟨Qb HB.out⟩⟩
      ·rw [if_neg c15] at H
       exact absurd H (by simp)
     ·rw [if_neg c13] at H
      exact absurd H (by simp)
    ·rw [if_neg c12] at H
     exact absurd H (by simp)
   ·rw [if_neg c11] at H
    have c11b0 : decide (x14_1 < (l0_2.length : Int)) = false := decide_eq_false c11
    clear c11
    simp only [Option.some.injEq, Prod.mk.injEq] at H
    obtain ⟨rfl, rfl, rfl⟩ := H
    have hnb28 := NB233_231.out
    have hnc28 := NB231_233.out
    have hnb29 := NB233_232.out
    have hnc29 := NB232_233.out
    obtain ⟨hcz30_0, hcz30_1, hcz30_2, hfz30_0, hfz30_1, hfz30_2⟩ := Qv3 BK233.out
    have hnb31 := NB232_231.out
    have hnc31 := NB231_232.out
    obtain ⟨hcz32_0, hcz32_1, hcz32_2, hfz32_0, hfz32_1, hfz32_2⟩ := Qv3 BK232.out
    obtain ⟨Ao33, co33, eo33⟩ := Kd.S_slice HO_234002.out
    subst eo33
    go_wp2
    refine bodyPost_ret (results_cell_row rfl _ _ gb232 25 #[.int .i64 a0_0, .int .i64 a0_1, .slice Ao33 x234002_1.length co33] (0, 0) _ rfl (by refine Qe ?_; refine blk_put (cs := #[.int .i64 a0_0, .int .i64 a0_1, .slice none 0 0]) ?_ 2 _ rfl; refine Qe ?_; refine blk_put (cs := #[.int .i64 a0_0, .int .i64 0, .slice none 0 0]) ?_ 1 _ rfl; refine Qe ?_; refine blk_put (cs := #[.int .i64 0, .int .i64 0, .slice none 0 0]) ?_ 0 _ rfl; exact Qa BK232.out) Tryd.underlying25 rfl (by kernel_rfl)) rfl ?_
    exact ⟨_, Qh, by refine QfS ?_; exact Kd.S_mono (Kd.S_far (p := ⟨gb232, 2, none⟩) (Kd.S_far (p := ⟨gb232, 1, none⟩) (Kd.S_far (p := ⟨gb232, 0, none⟩) (Kd.S_mono HO_234002.out (fun k_ hk => (⟨hk, hk.2.1⟩ : _ ∧ k_ ≠ gb232))) (fun _ hk => hk.2) (.int .i64 a0_0)) (fun _ hk => hk.2) (.int .i64 a0_1)) (fun _ hk => hk.2) (.slice Ao33 x234002_1.length co33)) (fun _ hk => trivial), Qb HB.out⟩
theorem impl_NegateExpr.kh : Kd.Heap k25 := Kd.heap_fix (fun _ h_ => Kd.heap_iso _ (Kd.heap_pair (Kd.heap_int .i64) (Kd.heap_pair (Kd.heap_int .i64) (Kd.heap_slice 25 h_))))
theorem impl_NegateExpr.FC {W : World} {A : Option Addr} {n : Nat} {l : List S25} (h : Kd.C k25 W A n l) : Kd.F k25 W (fun k_ => k_ < W.heap.size) A n l := fun W' hW => impl_NegateExpr.kh.C (fun k_ hlt => hW k_ hlt hlt) h
def impl_NegateExpr.f (k : Nat) (a b : Int) (l : List S25) : Option (Int × Int × List S25 × Bool) := (impl_IsExpr.f k a b l).bind fun t => if t = true then (impl_negative.f k a b l).bind fun n => (impl_copyExpr.f k n.1 n.2.1 n.2.2).bind fun o => (impl_IsExpr.f k o.1 o.2.1 o.2.2).bind fun u => if u = true then some (o.1, o.2.1, o.2.2, true) else some (0, 0, [], false) else some (0, 0, [], false)
theorem impl_NegateExpr.callsS (k : Nat) (a b : Int) (A : Option Addr) (c : Nat) (l : List S25) (r1 r2 : Int) (r3 : List S25) (r4 : Bool) (w : World) (hF : Kd.C k25 w A l.length l) (hc : l.length ≤ c) (h : impl_NegateExpr.f k a b l = some (r1, r2, r3, r4)) :
  Calls Tryd.prog 15 #[.agg #[.int .i64 a, .int .i64 b, .slice A l.length c]] w fun e w' => ∃ v2_ : Value, e = .returned (.tuple #[.agg #[.int .i64 r1, .int .i64 r2, v2_], .bool r4]) ∧ Kd.S kT 25 w' w.heap.size (fun _ => True) v2_ r3 ∧ Below w.heap.size w w' := by
 unfold impl_NegateExpr.f at h
 have hu28 := Tryd.underlying25
 have HC := Ak hc
 clear hc
 replace h := Option.bind_eq_some_iff.1 h
 obtain ⟨t, ht, h⟩ := h
 replace ht := Ak ht
 by_cases ct : t = true
 case neg =>
  rw [if_neg ct] at h
  simp only [Option.some.injEq, Prod.mk.injEq] at h
  obtain ⟨rfl, rfl, rfl, rfl⟩ := h
  rw [Bool.not_eq_true] at ct
  subst ct
  have al1 := below_alloc (Below.refl w.heap.size w) (.cells #[.int .i64 a, .int .i64 b, .slice A l.length c] 25)
  have al2 := below_alloc (Below.refl (w.alloc (.cells #[.int .i64 a, .int .i64 b, .slice A l.length c] 25)).heap.size (w.alloc (.cells #[.int .i64 a, .int .i64 b, .slice A l.length c] 25))) (.cells #[.int .i64 0, .int .i64 0, .slice none 0 0] 25)
  have HB := Ak (below_step al1 al2)
  have B1 := Ak (blk_below (blk_new w (.cells #[.int .i64 a, .int .i64 b, .slice A l.length c] 25)) al2)
  have B2 := Ak (blk_new (w.alloc (.cells #[.int .i64 a, .int .i64 b, .slice A l.length c] 25)) (.cells #[.int .i64 0, .int .i64 0, .slice none 0 0] 25))
  have HF := Ak (Kd.C_below (Kd.C_below hF al1) al2)
  have hs2 : (w.alloc (.cells #[.int .i64 a, .int .i64 b, .slice A l.length c] 25)).heap.size = w.heap.size + 1 := by simp
  rw [hs2] at B2
  replace hs2 := Ak hs2
  clear al1 al2 hF
  go_enter Tryd.func15, Tryd.ntmps15
  go_upto_region 1 with fail
  generalize (w.alloc (.cells #[.int .i64 a, .int .i64 b, .slice A l.length c] 25)).alloc (.cells #[.int .i64 0, .int .i64 0, .slice none 0 0] 25) = W at HB B1 B2 HF ⊢
  obtain ⟨g2, hg2⟩ : ∃ g, g = w.heap.size + 1 := ⟨_, rfl⟩
  obtain ⟨g1, hg1⟩ : ∃ g, g = w.heap.size := ⟨_, rfl⟩
  rw [← hg2] at B2 ⊢
  rw [← hg1] at B1 ⊢
  replace hg1 := Ak hg1
  have hq : w.heap.size ≤ g2 := by omega
  replace hg2 := Ak hg2
  replace hq := Ak hq
  obtain ⟨m0, m1, m2⟩ := Qu3 B1.out
  obtain ⟨n0, n1, n2, f0, f1, f2⟩ := Qv3 B2.out
  go_wp2_with ((go_at_call 14; with_reducible refine (impl_IsExpr.calls k a b A c l _ _ HF.out HC.out ht.out).mono ?_; rintro e W1 ⟨rfl, hd⟩); replace HF := Ak (Kd.C_below HF.out hd); replace HB := Ak (below_step HB.out hd); replace B1 := Ak (blk_below B1.out hd); replace B2 := Ak (blk_below B2.out hd); clear m0 m1 m2 n0 n1 n2 f0 f1 f2; obtain ⟨m0, m1, m2⟩ := Qu3 B1.out; obtain ⟨n0, n1, n2, f0, f1, f2⟩ := Qv3 B2.out; clear hd)
  have hq := hq.out
  refine bodyPost_ret (results_ct rfl _ _ g2 25 #[.int .i64 0, .int .i64 0, .slice none 0 0] (0, 0) _ rfl (blk_put (cs := #[.int .i64 0, .int .i64 0, .slice none 0 0]) (blk_put (cs := #[.int .i64 0, .int .i64 0, .slice none 0 0]) (blk_put (cs := #[.int .i64 0, .int .i64 0, .slice none 0 0]) B2.out 0 _ rfl) 1 _ rfl) 2 _ rfl) hu28 rfl (by kernel_rfl)) rfl ?_
  exact ⟨_, rfl, Kd.S_nil _ _ _ _ _, ((HB.out.setCell (p := ⟨g2, 0, none⟩) hq _).setCell (p := ⟨g2, 1, none⟩) hq _).setCell (p := ⟨g2, 2, none⟩) hq _⟩
 rw [if_pos ct] at h
 subst ct
 replace h := Option.bind_eq_some_iff.1 h
 obtain ⟨⟨p0, p1, p2⟩, hp, h⟩ := h
 replace h := Option.bind_eq_some_iff.1 h
 obtain ⟨⟨o0, o1, o2⟩, ho, h⟩ := h
 replace h := Option.bind_eq_some_iff.1 h
 obtain ⟨u, hu, h⟩ := h
 dsimp only at ho hu h
 replace hp := Ak hp
 replace ho := Ak ho
 replace hu := Ak hu
 have al1 := below_alloc (Below.refl w.heap.size w) (.cells #[.int .i64 a, .int .i64 b, .slice A l.length c] 25)
 have al2 := below_alloc (Below.refl (w.alloc (.cells #[.int .i64 a, .int .i64 b, .slice A l.length c] 25)).heap.size (w.alloc (.cells #[.int .i64 a, .int .i64 b, .slice A l.length c] 25))) (.cells #[.int .i64 0, .int .i64 0, .slice none 0 0] 25)
 have HB := Ak (below_step al1 al2)
 have B1 := Ak (blk_below (blk_new w (.cells #[.int .i64 a, .int .i64 b, .slice A l.length c] 25)) al2)
 have B2 := Ak (blk_new (w.alloc (.cells #[.int .i64 a, .int .i64 b, .slice A l.length c] 25)) (.cells #[.int .i64 0, .int .i64 0, .slice none 0 0] 25))
 have HF := Ak (Kd.C_below (Kd.C_below hF al1) al2)
 have hs2 : (w.alloc (.cells #[.int .i64 a, .int .i64 b, .slice A l.length c] 25)).heap.size = w.heap.size + 1 := by simp
 rw [hs2] at B2
 replace hs2 := Ak hs2
 clear al1 al2 hF
 go_enter Tryd.func15, Tryd.ntmps15
 go_upto_region 1 with fail
 generalize (w.alloc (.cells #[.int .i64 a, .int .i64 b, .slice A l.length c] 25)).alloc (.cells #[.int .i64 0, .int .i64 0, .slice none 0 0] 25) = W at HB B1 B2 HF ⊢
 obtain ⟨g2, hg2⟩ : ∃ g, g = w.heap.size + 1 := ⟨_, rfl⟩
 obtain ⟨g1, hg1⟩ : ∃ g, g = w.heap.size := ⟨_, rfl⟩
 rw [← hg2] at B2 ⊢
 rw [← hg1] at B1 ⊢
 replace hg1 := Ak hg1
 have hq : w.heap.size ≤ g2 := by omega
 replace hg2 := Ak hg2
 replace hq := Ak hq
 obtain ⟨m0, m1, m2⟩ := Qu3 B1.out
 obtain ⟨n0, n1, n2, f0, f1, f2⟩ := Qv3 B2.out
 go_upto_region 4 with (first | ((go_at_call 14; with_reducible refine (impl_IsExpr.calls k a b A c l _ _ HF.out HC.out ht.out).mono ?_; rintro e W1 ⟨rfl, hd⟩); replace HF := Ak (Kd.C_below HF.out hd); replace HB := Ak (below_step HB.out hd); replace B1 := Ak (blk_below B1.out hd); replace B2 := Ak (blk_below B2.out hd); clear m0 m1 m2 n0 n1 n2 f0 f1 f2; obtain ⟨m0, m1, m2⟩ := Qu3 B1.out; obtain ⟨n0, n1, n2, f0, f1, f2⟩ := Qv3 B2.out; clear hd) | ((go_at_call 49; with_reducible refine (impl_negative.callsF k (fun k_ => k_ < W1.heap.size) a b A c l p0 p1 p2 W1 (fun _ hk => hk) (impl_NegateExpr.FC HF.out) HC.out hp.out).mono ?_; rintro e W2 ⟨B, d, rfl, hd0, gf, hd⟩); have HN := Ak (Kd.F_now gf); replace hd0 := Ak hd0; replace HB := Ak (below_step HB.out hd); replace B1 := Ak (blk_below B1.out hd); replace B2 := Ak (blk_below B2.out hd); clear m0 m1 m2 n0 n1 n2 f0 f1 f2; obtain ⟨m0, m1, m2⟩ := Qu3 B1.out; obtain ⟨n0, n1, n2, f0, f1, f2⟩ := Qv3 B2.out; clear hd gf) | ((go_at_call 48; with_reducible refine (impl_copyExpr.callsS k p0 p1 B d p2 o0 o1 o2 _ HN.out hd0.out ho.out).mono ?_; rintro e W3 ⟨v, rfl, hS, hd⟩); obtain ⟨V, e, rfl⟩ := Kd.S_slice hS; have HS := Ak (Kd.S_mono (Kd.S_lower (Kd.S_bound hS) HB.out.size) (ok' := fun k_ => k_ ≠ g2) (fun k_ hk e => by have h1 := hk.2.1; have h2 := blk_lt B2.out; omega)); replace HB := Ak (below_step HB.out hd); replace B1 := Ak (blk_below B1.out hd); replace B2 := Ak (blk_below B2.out hd); clear m0 m1 m2 n0 n1 n2 f0 f1 f2; obtain ⟨m0, m1, m2⟩ := Qu3 B1.out; obtain ⟨n0, n1, n2, f0, f1, f2⟩ := Qv3 B2.out; clear hd hS))
 have al := below_alloc (Below.refl W3.heap.size W3) (.cells #[.int .i64 o0, .int .i64 o1, .slice V o2.length e] 25)
 have B4 := Ak (blk_new W3 (.cells #[.int .i64 o0, .int .i64 o1, .slice V o2.length e] 25))
 replace HS := Ak (Kd.S_below HS.out al)
 replace HB := Ak (below_step HB.out al)
 replace B1 := Ak (blk_below B1.out al)
 replace B2 := Ak (blk_below B2.out al)
 clear al m0 m1 m2 n0 n1 n2 f0 f1 f2 HN HF
 generalize W3.alloc (.cells #[.int .i64 o0, .int .i64 o1, .slice V o2.length e] 25) = W4 at B4 HS HB B1 B2 ⊢
 generalize W3.heap.size = g4 at B4 ⊢
 obtain ⟨m0, m1, m2⟩ := Qu3 B1.out
 obtain ⟨n0, n1, n2, f0, f1, f2⟩ := Qv3 B2.out
 obtain ⟨j0, j1, j2⟩ := Qu3 B4.out
 by_cases cu : u = true
 case neg =>
  rw [if_neg cu] at h
  simp only [Option.some.injEq, Prod.mk.injEq] at h
  obtain ⟨rfl, rfl, rfl, rfl⟩ := h
  rw [Bool.not_eq_true] at cu
  subst cu
  go_wp2_with ((go_at_call 14; with_reducible refine (impl_IsExpr.calls k o0 o1 V e o2 _ _ (Kd.R_reads' (kT_R HS.out)).2.2 (Kd.R_reads' (kT_R HS.out)).2.1 hu.out).mono ?_; rintro e W5 ⟨rfl, hd⟩); replace HS := Ak (Kd.S_below HS.out hd); replace B4 := Ak (blk_below B4.out hd); replace HB := Ak (below_step HB.out hd); replace B1 := Ak (blk_below B1.out hd); replace B2 := Ak (blk_below B2.out hd); clear m0 m1 m2 n0 n1 n2 f0 f1 f2; obtain ⟨m0, m1, m2⟩ := Qu3 B1.out; obtain ⟨n0, n1, n2, f0, f1, f2⟩ := Qv3 B2.out; clear hd j0 j1 j2; obtain ⟨j0, j1, j2⟩ := Qu3 B4.out)
  have hq := hq.out
  refine bodyPost_ret (results_ct rfl _ _ g2 25 #[.int .i64 0, .int .i64 0, .slice none 0 0] (0, 0) _ rfl (blk_put (cs := #[.int .i64 0, .int .i64 0, .slice none 0 0]) (blk_put (cs := #[.int .i64 0, .int .i64 0, .slice none 0 0]) (blk_put (cs := #[.int .i64 0, .int .i64 0, .slice none 0 0]) B2.out 0 _ rfl) 1 _ rfl) 2 _ rfl) hu28 rfl (by kernel_rfl)) rfl ?_
  exact ⟨_, rfl, Kd.S_nil _ _ _ _ _, ((HB.out.setCell (p := ⟨g2, 0, none⟩) hq _).setCell (p := ⟨g2, 1, none⟩) hq _).setCell (p := ⟨g2, 2, none⟩) hq _⟩
 rw [if_pos cu] at h
 subst cu
 simp only [Option.some.injEq, Prod.mk.injEq] at h
 obtain ⟨rfl, rfl, rfl, rfl⟩ := h
 go_wp2_with ((go_at_call 14; with_reducible refine (impl_IsExpr.calls k o0 o1 V e o2 _ _ (Kd.R_reads' (kT_R HS.out)).2.2 (Kd.R_reads' (kT_R HS.out)).2.1 hu.out).mono ?_; rintro e W5 ⟨rfl, hd⟩); replace HS := Ak (Kd.S_below HS.out hd); replace B4 := Ak (blk_below B4.out hd); replace HB := Ak (below_step HB.out hd); replace B1 := Ak (blk_below B1.out hd); replace B2 := Ak (blk_below B2.out hd); clear m0 m1 m2 n0 n1 n2 f0 f1 f2; obtain ⟨m0, m1, m2⟩ := Qu3 B1.out; obtain ⟨n0, n1, n2, f0, f1, f2⟩ := Qv3 B2.out; clear hd j0 j1 j2; obtain ⟨j0, j1, j2⟩ := Qu3 B4.out)
 have hq := hq.out
 refine bodyPost_ret (results_ct rfl _ _ g2 25 #[.int .i64 o0, .int .i64 o1, .slice V o2.length e] (0, 0) _ rfl (blk_put (cs := #[.int .i64 o0, .int .i64 o1, .slice none 0 0]) (blk_put (cs := #[.int .i64 o0, .int .i64 0, .slice none 0 0]) (blk_put (cs := #[.int .i64 0, .int .i64 0, .slice none 0 0]) B2.out 0 _ rfl) 1 _ rfl) 2 _ rfl) hu28 rfl (by kernel_rfl)) rfl ?_
 exact ⟨_, rfl, Kd.S_mono (Kd.S_far (p := ⟨g2, 2, none⟩) (Kd.S_far (p := ⟨g2, 1, none⟩) (Kd.S_far (p := ⟨g2, 0, none⟩) HS.out (fun _ hk => hk) _) (fun _ hk => hk) _) (fun _ hk => hk) _) (fun _ _ => trivial), ((HB.out.setCell (p := ⟨g2, 0, none⟩) hq _).setCell (p := ⟨g2, 1, none⟩) hq _).setCell (p := ⟨g2, 2, none⟩) hq _⟩

/-! ### spec_l10Size: function 91 -/
mutual
def spec_l10Size.l0 : Nat → Int → Int → List (S25) → Int → Int → Option (Int × Int)
 | 0, _, _, _, _, _ => none
 | k + 1, x4, x5, x11, x12, x13 => if x13 < x12 then (if 0 ≤ x13 then (if x13 < (x11.length : Int) then ((spec_l10Size.f k ((rd_T25 x11 x13).f0) ((rd_T25 x11 x13).f1) ((rd_T25 x11 x13).f2)).bind fun bt599 => (spec_l10Size.l0 k (wrap64 (x4 + bt599.1)) (mx x5 bt599.2) x11 x12 (wrap64 (x13 + 1)))) else (none)) else (none)) else (some (x4, wrap64 (x5 + 1)))
def spec_l10Size.f : Nat → Int → Int → List (S25) → Option (Int × Int)
 | 0, _, _, _ => none
 | k + 1, a0_0, a0_1, l0_2 => spec_l10Size.l0 k 1 0 l0_2 (l0_2.length : Int) 0
end
theorem spec_l10Size.calls (k : Nat) : ∀ (a0_0 : Int) (a0_1 : Int) (A0_2 : Option Addr) (c0_2 : Nat) (l0_2 : List (S25)) (r1 : Int) (r2 : Int) (w : World) (hr0_2 : Kd.C k25 w A0_2 l0_2.length l0_2) (hc0_2 : l0_2.length ≤ c0_2) (h : spec_l10Size.f k a0_0 a0_1 l0_2 = some (r1, r2)),
  Calls Tryd.prog 91 #[.agg #[.int .i64 a0_0, .int .i64 a0_1, .slice A0_2 l0_2.length c0_2]] w fun e w' => e = .returned (.tuple #[.int .i64 r1, .int .i64 r2]) ∧ Below w.heap.size w w' := by
 induction k using Nat.strongRecOn with
 | _ k ih =>
 intro a0_0 a0_1 A0_2 c0_2 l0_2 r1 r2 w hr0_2 hc0_2 h
 cases k with
 | zero => exact absurd h (by simp [spec_l10Size.f])
 | succ k =>
 simp only [spec_l10Size.f] at h
 have hu25 := Tryd.underlying25
 have HR0_2 := Ak hr0_2
 have HC0_2 := Ak hc0_2
 clear hr0_2 hc0_2
 have HB := Ak (Below.refl w.heap.size w)
 have H : (spec_l10Size.l0 k 1 0 l0_2 (l0_2.length : Int) 0) = some (r1, r2) := h
 clear h
 have H' := Ak H
 clear H
 go_enter Tryd.func91, Tryd.ntmps91
 go_wp2_with (first | ((with_reducible refine gate_dst (N := 1) rfl ?_); refine Qk 1 #[.int .i64 a0_0, .int .i64 a0_1, .slice A0_2 l0_2.length c0_2] 25 ?_; intro gb596 hg w2 hbox hb; have BK596 := Ak (hbox); have GW596 := Ak ((Qp hg HB.out : w.heap.size ≤ gb596)); have GE596 := Ak ((Qp hg HB.out : w.heap.size ≤ gb596)); replace HB := Ak (below_step (Qb HB.out) hb); clear hb hbox hg; obtain ⟨hcz3_0, hcz3_1, hcz3_2⟩ := Qu3 BK596.out; have hfz3_0 := blk_frozen BK596.out 0; have hfz3_1 := blk_frozen BK596.out 1; have hfz3_2 := blk_frozen BK596.out 2))
 go_loopg [4, 5, 13] k (fun kq v4 v5 v13 w' => ∃ (x4_1 : Int) (x5_1 : Int) (x13_1 : Int), v4 = .int .i64 x4_1 ∧ v5 = .int .i64 x5_1 ∧ v13 = .int .i64 x13_1 ∧ Aside0 (spec_l10Size.l0 kq x4_1 x5_1 l0_2 (l0_2.length : Int) x13_1 = some (r1, r2)) ∧ Aside0 (kq ≤ k) ∧ Aside0 (w'.heap[gb596]? = some (.cells #[.int .i64 a0_0, .int .i64 a0_1, (.slice A0_2 l0_2.length c0_2)] 25 (0, 0))) ∧ Aside0 (Below w.heap.size w w'))
 case atStart => exact ⟨(1), (0), (0), Qi, Qi, Qi, H', ⟨Nat.le_refl _⟩, ⟨by refine Qe ?_; exact BK596.out⟩, ⟨Qb HB.out⟩⟩
 case round =>
  clear H'
  (try clear p2)
  obtain ⟨x4_1, x5_1, x13_1, rfl, rfl, rfl, HA, HK1, BK596, HB⟩ := hrel
  cases gk with
  | zero => exact absurd HA.out (by simp [spec_l10Size.l0])
  | succ k1 =>
   have H := HA.out
   clear HA
   simp only [spec_l10Size.l0] at H
   by_cases c4 : x13_1 < (l0_2.length : Int)
   ·rw [if_pos c4] at H
    have c4b0 : decide (x13_1 < (l0_2.length : Int)) = true := decide_eq_true c4
    clear c4
    by_cases c5 : 0 ≤ x13_1
    ·rw [if_pos c5] at H
     have c5b0 : decide (0 ≤ x13_1) = true := decide_eq_true c5
     clear c5
     by_cases c6 : x13_1 < (l0_2.length : Int)
     ·rw [if_pos c6] at H
      have c6b0 : decide (x13_1 < (l0_2.length : Int)) = true := decide_eq_true c6
      clear c6
      replace H := Option.bind_eq_some_iff.mp H
      obtain ⟨⟨t599, t600⟩, A70, H⟩ := H
      replace H : (spec_l10Size.l0 k1 (wrap64 (x4_1 + t599)) (mx x5_1 t600) l0_2 (l0_2.length : Int) (wrap64 (x13_1 + 1))) = some (r1, r2) := H
      have A7 := Ak A70
      clear A70
      obtain ⟨ji8, hji8⟩ : ∃ j_ : Int, (mx x5_1 t600) = j_ := ⟨_, rfl⟩
      replace H : (spec_l10Size.l0 k1 (wrap64 (x4_1 + t599)) ji8 l0_2 (l0_2.length : Int) (wrap64 (x13_1 + 1))) = some (r1, r2) := by first | (rw [hji8] at H; exact H) | (simp only [hji8] at H ⊢; exact H)
      (try rw [hji8] at A7)
      have hji8_ : (if x5_1 < t600 then t600 else x5_1) = ji8 := hji8
      have H' := Ak H
      clear H
      have p597 : 0 ≤ (x13_1 : Int) := Qg
      have q597 : x13_1 < (l0_2.length : Int) := Qg
      obtain ⟨ad597, A597_2, c597_2, e597, hx597_0, hx597_1, hx597_2, hl597_2, hi597_2⟩ := at_T25 HR0_2.out x13_1 p597 q597
      cases e597
      (try replace hx597_0 := (HB.out.cell (World.block_lt_of_cell? w _ hx597_0)).trans hx597_0)
      (try replace hx597_1 := (HB.out.cell (World.block_lt_of_cell? w _ hx597_1)).trans hx597_1)
      (try replace hx597_2 := (HB.out.cell (World.block_lt_of_cell? w _ hx597_2)).trans hx597_2)
      have HR597_2 := Ak hi597_2
      have HC597_2 := Ak hl597_2
      clear hi597_2 hl597_2
      replace p597 := eq_true p597
      replace q597 := eq_true q597
      go_wp2_with (first | ((with_reducible refine gate_dst (N := 7) rfl ?_); refine Qk 7 #[.int .i64 0, .int .i64 0, .slice none 0 0] 25 ?_; intro gb598 hg w9 hbox hb; have BK598 := Ak (hbox); have GW598 := Ak ((Qp hg HB.out : w.heap.size ≤ gb598)); have GE598 := Ak ((Qp hg HB.out : w.heap.size ≤ gb598)); replace HB := Ak (below_step (Qb HB.out) hb); have NB596_598 := Ak ((by rw [hg]; exact Nat.ne_of_lt (Qn BK596.out) : gb596 ≠ gb598)); have NB598_596 := Ak ((by rw [hg]; exact Nat.ne_of_gt (Qn BK596.out) : gb598 ≠ gb596)); replace BK596 := Ak (Qm BK596.out hb); clear hb hbox hg; have hnb10 := NB598_596.out; have hnc10 := NB596_598.out; obtain ⟨hcz11_0, hcz11_1, hcz11_2⟩ := Qu3 BK598.out; have hfz11_0 := blk_frozen BK598.out 0; have hfz11_1 := blk_frozen BK598.out 1; have hfz11_2 := blk_frozen BK598.out 2) | ((with_reducible refine gate_callee (f := 91) rfl ?_); refine Qj (some 19) Tryd.func91 #[.agg #[.int .i64 ((rd_T25 l0_2 x13_1).f0), .int .i64 ((rd_T25 l0_2 x13_1).f1), .slice A597_2 ((rd_T25 l0_2 x13_1).f2).length c597_2]] ?_; (with_reducible refine (ih k1 T_61 ((rd_T25 l0_2 x13_1).f0) ((rd_T25 l0_2 x13_1).f1) _ _ ((rd_T25 l0_2 x13_1).f2) t599 t600 _ ?side1 ?side2 A7.out).mono ?_); (case side1 => exact Kd.C_below HR597_2.out (Qb HB.out)); (case side2 => exact HC597_2.out); rintro e w12 ⟨rfl, hb⟩; refine ⟨_, rfl, ?_⟩; replace BK596 := Ak (blk_below (g := gb596) (o := .cells #[.int .i64 a0_0, .int .i64 a0_1, .slice (some ad597) l0_2.length c0_2] 25 (0, 0)) (by refine Qe ?_; refine blk_far ?_ NB596_598.out _; refine Qe ?_; refine blk_far ?_ NB596_598.out _; refine Qe ?_; refine blk_far ?_ NB596_598.out _; exact Qa BK596.out) hb); replace BK598 := Ak (blk_below (g := gb598) (o := .cells #[.int .i64 ((rd_T25 l0_2 x13_1).f0), .int .i64 ((rd_T25 l0_2 x13_1).f1), .slice A597_2 ((rd_T25 l0_2 x13_1).f2).length c597_2] 25 (0, 0)) (by refine Qe ?_; refine blk_put (cs := #[.int .i64 ((rd_T25 l0_2 x13_1).f0), .int .i64 ((rd_T25 l0_2 x13_1).f1), .slice none 0 0]) ?_ 2 _ rfl; refine Qe ?_; refine blk_put (cs := #[.int .i64 ((rd_T25 l0_2 x13_1).f0), .int .i64 0, .slice none 0 0]) ?_ 1 _ rfl; refine Qe ?_; refine blk_put (cs := #[.int .i64 0, .int .i64 0, .slice none 0 0]) ?_ 0 _ rfl; exact Qa BK598.out) hb); replace HB := Ak (below_step (Qb HB.out) hb); (try clear hb)))
      go_roundg k1
      case measure => have := HK1.out; omega
      case rel => exact ⟨(wrap64 (x4_1 + t599)), (ji8), (wrap64 (x13_1 + 1)), Qi, (by first | rfl | (simp; done) | (simp only [← hji8] <;> (first | rfl | simp)) | (simp [*]; done)), Qi, H', ⟨by have := HK1.out; omega⟩, ⟨by refine Qe ?_; exact BK596.out⟩, ⟨Qb HB.out⟩⟩
     ·rw [if_neg c6] at H
      exact absurd H (by simp)
    ·rw [if_neg c5] at H
     exact absurd H (by simp)
   ·rw [if_neg c4] at H
    have c4b0 : decide (x13_1 < (l0_2.length : Int)) = false := decide_eq_false c4
    clear c4
    simp only [Option.some.injEq, Prod.mk.injEq] at H
    obtain ⟨rfl, rfl⟩ := H
    go_wp2
    go_ret2
    exact ⟨Qh, Qb HB.out⟩

/-! ### spec_l1In: function 98 -/
def spec_l1In.f (a0 : Int) (a1 : Int) (a2 : Int) : Option (Bool) := if a0 ≥ a1 then (some (decide (a0 ≤ a2))) else (some false)
theorem spec_l1In.calls (a0 : Int) (a1 : Int) (a2 : Int) (r : Bool) (w : World) (h : spec_l1In.f a0 a1 a2 = some r) :
  Calls Tryd.prog 98 #[.int .i64 a0, .int .i64 a1, .int .i64 a2] w fun e w' => e = .returned (.bool r) ∧ Drawn0 w w' := by
 have H : (if a0 ≥ a1 then (some (decide (a0 ≤ a2))) else (some false)) = some r := h
 clear h
 by_cases c4 : a0 ≥ a1
 ·rw [if_pos c4] at H
  have c4b0 : decide (a1 ≤ a0) = true := decide_eq_true c4
  clear c4
  obtain rfl := Option.some.inj H
  go_enter Tryd.func98, Tryd.ntmps98
  go_wp2
  go_ret
  exact ⟨Qi, Ql⟩
 ·rw [if_neg c4] at H
  have c4b0 : decide (a1 ≤ a0) = false := decide_eq_false c4
  clear c4
  obtain rfl := Option.some.inj H
  go_enter Tryd.func98, Tryd.ntmps98
  go_wp2
  go_ret
  exact ⟨Qi, Ql⟩

/-! ### spec_LimitOf: function 120 -/
def spec_LimitOf.l0 : Nat → Int → Int → Int → Option (Int)
 | 0, _, _, _ => none
 | k + 1, x0, x3, x4 => if x4 < x0 then (spec_LimitOf.l0 k x0 (wrap64 ((wrap64 (3 * x3)) + 1)) (wrap64 (x4 + 1))) else (some x3)
def spec_LimitOf.f (k : Nat) (a0 : Int) : Option (Int) := (spec_l1In.f a0 1 30).bind fun t601 => (if t601 = true then (spec_LimitOf.l0 k a0 0 0) else (some 0))
theorem spec_LimitOf.calls (k : Nat) (a0 : Int) (r : Int) (w : World) (h : spec_LimitOf.f k a0 = some r) :
  Calls Tryd.prog 120 #[.int .i64 a0] w fun e w' => e = .returned (.int .i64 r) ∧ Drawn0 w w' := by
 have H : ((spec_l1In.f a0 1 30).bind fun t601 => (if t601 = true then (spec_LimitOf.l0 k a0 0 0) else (some 0))) = some r := h
 clear h
 replace H := Option.bind_eq_some_iff.mp H
 obtain ⟨t601, A20, H⟩ := H
 replace H : (if t601 = true then (spec_LimitOf.l0 k a0 0 0) else (some 0)) = some r := H
 have A2 := Ak A20
 clear A20
 by_cases c3 : t601 = true
 ·(try subst c3)
  have H1 : (spec_LimitOf.l0 k a0 0 0) = some r := by rw [if_pos rfl] at H; exact H
  clear H
  have H := H1
  clear H1
  have H' := Ak H
  clear H
  go_enter Tryd.func120, Tryd.ntmps120
  go_wp2_with (first | ((with_reducible refine gate_callee (f := 98) rfl ?_); refine Qj (some 6) Tryd.func98 #[.int .i64 a0, .int .i64 1, .int .i64 30] ?_; (with_reducible refine (spec_l1In.calls a0 1 30 true _ A2.out).mono ?_); rintro e w' ⟨rfl, ⟨nd, rfl⟩⟩; refine ⟨_, rfl, ?_⟩))
  go_loopg [3, 4] k (fun kq v3 v4 w' => ∃ (x3_1 : Int) (x4_1 : Int), v3 = .int .i64 x3_1 ∧ v4 = .int .i64 x4_1 ∧ Aside0 (spec_LimitOf.l0 kq a0 x3_1 x4_1 = some r) ∧ Aside0 (kq ≤ k) ∧ Drawn0 w w')
  case atStart => exact ⟨(0), (0), Qi, Qi, H', ⟨Nat.le_refl _⟩, Ql⟩
  case round =>
   clear H'
   (try clear c1)
   obtain ⟨x3_1, x4_1, rfl, rfl, HA, HK1, ⟨m1, rfl⟩⟩ := hrel
   cases gk with
   | zero => exact absurd HA.out (by simp [spec_LimitOf.l0])
   | succ k1 =>
    have H := HA.out
    clear HA
    simp only [spec_LimitOf.l0] at H
    by_cases c4 : x4_1 < a0
    ·rw [if_pos c4] at H
     have c4b0 : decide (x4_1 < a0) = true := decide_eq_true c4
     clear c4
     have H' := Ak H
     clear H
     go_wp2
     go_roundg k1
     case measure => have := HK1.out; omega
     case rel => exact ⟨(wrap64 ((wrap64 (3 * x3_1)) + 1)), (wrap64 (x4_1 + 1)), Qi, Qi, H', ⟨by have := HK1.out; omega⟩, Ql⟩
    ·rw [if_neg c4] at H
     have c4b0 : decide (x4_1 < a0) = false := decide_eq_false c4
     clear c4
     obtain rfl := Option.some.inj H
     go_wp2
     go_ret
     exact ⟨Qi, Ql⟩
 ·replace c3 := Bool.eq_false_iff.mpr c3
  (try subst c3)
  have H1 : (some 0) = some r := by rw [if_neg (show ¬ (false = true) by decide)] at H; exact H
  clear H
  have H := H1
  clear H1
  obtain rfl := Option.some.inj H
  go_enter Tryd.func120, Tryd.ntmps120
  go_wp2_with (first | ((with_reducible refine gate_callee (f := 98) rfl ?_); refine Qj (some 6) Tryd.func98 #[.int .i64 a0, .int .i64 1, .int .i64 30] ?_; (with_reducible refine (spec_l1In.calls a0 1 30 false _ A2.out).mono ?_); rintro e w' ⟨rfl, ⟨nd, rfl⟩⟩; refine ⟨_, rfl, ?_⟩))
  go_ret
  exact ⟨Qi, Ql⟩

end Go.Proofs.YtjfgcipbbcplmaaDoor.HFnExprs

/- Text for FnExactNegateExpr: written by a program of this session on the pattern of the kit's print. -/
import Derived.Test.YthlagaopjmeaaaaHFnExactNegateExprx0
import Derived.Test.YthlagaopjmeaaaaHFnExactNegateExprx7
import Derived.Test.YthlagaopjmeaaaaHFnExactNegateExprx8
namespace Go.Proofs.Ythlagaopjmeaaaa.HFnExactNegateExpr
set_option maxHeartbeats 8000000
set_option maxRecDepth 100000
open Go.RowKit Go.Proofs.YthlagaopjmeaaaaW.PrintWords Go.Proofs.YthlagaopjmeaaaaW.PrintLast Go.Proofs.YthlagaopjmeaaaaW.PrintMore
attribute [local go_sem] max2_int min2_int max_two min_two max_three min_three max_four min_four
set_option linter.unusedVariables false
set_option linter.unusedSimpArgs false

/-! ### impl_NegateExpr: function 8 -/
def FT (d : Kd S28) : Kd S28 := Kd.iso (Kd.pair (Kd.int .i64) (Kd.pair (Kd.int .i64) (Kd.sliceS 28 d))) (fun x : S28 => (x.f0, x.f1, x.f2))
theorem monoT : Kd.Mono FT := Kd.mono_iso _ (Kd.mono_pair (Kd.mono_const _) (Kd.mono_pair (Kd.mono_const _) (Kd.mono_sliceS 28 Kd.mono_id)))
theorem subT : Kd.Sub FT [28] := Kd.sub_iso _ (Kd.sub_pair (Kd.sub_const _ (by decide)) (Kd.sub_pair (Kd.sub_const _ (by decide)) (Kd.sub_sliceS 28 (by decide) Kd.sub_id)))
theorem szT : ∀ n, (Kd.upto FT 3 [28] n).sz = 3 := Kd.upto_sz (fun _ => rfl)
/-- A tree no two nodes of which lead to one block. -/
def kT : Kd S28 := Kd.fix FT 3 [28] szT (Kd.upto_E subT)
theorem kT_openM {w : World} {base : Nat} {ok : Nat → Prop} {x : S28} {cs : List Value} (h : kT.M w base ok x cs) : ∃ v2, cs = [.int .i64 x.f0, .int .i64 x.f1, v2] ∧ Kd.S kT 28 w base ok v2 x.f2 := by
 obtain ⟨n, h⟩ := h
 cases n with
 | zero => exact h.elim
 | succ n =>
  obtain ⟨_, _, rfl, rfl, ⟨_, _, rfl, rfl, ⟨v2, rfl, g2⟩⟩⟩ := h
  exact ⟨v2, rfl, Kd.fix_S g2⟩
theorem kT_mkM (w : World) (base : Nat) (ok : Nat → Prop) (x : S28) {v2 : Value} (g2 : Kd.S kT 28 w base ok v2 x.f2) : kT.M w base ok x [.int .i64 x.f0, .int .i64 x.f1, v2] := by
 obtain ⟨n2, q2⟩ := Kd.fix_S_back monoT g2
 exact ⟨n2 + 1, ⟨[.int .i64 x.f0], [.int .i64 x.f1, v2], rfl, rfl, ⟨[.int .i64 x.f1], [v2], rfl, rfl, ⟨v2, rfl, q2⟩⟩⟩⟩
theorem kT_imp : ∀ n (w : World) (base : Nat) (ok : Nat → Prop) (x : S28) (cs : List Value), (Kd.upto FT 3 [28] n).M w base ok x cs → (Kd.upto F28 3 [28] n).M w base ok x cs
 | 0, _, _, _, _, _, h => h.elim
 | n + 1, w, base, ok, x, cs, h => by
  obtain ⟨c0, c1, rfl, h0, ⟨c2, c3, rfl, h1, ⟨v, rfl, hs⟩⟩⟩ := h
  exact ⟨c0, _, rfl, h0, ⟨c2, _, rfl, h1, ⟨v, rfl, Kd.R_imp (by rw [szT n, sz28 n]) (kT_imp n) (Kd.S_R hs)⟩⟩⟩
/-- Read, it is a row as the others have it. -/
theorem kT_R {w : World} {base : Nat} {ok : Nat → Prop} {v : Value} {xs : List S28} (h : Kd.S kT 28 w base ok v xs) : Kd.R k28 28 w base ok v xs :=
 Kd.R_imp (d := kT) (d' := k28) rfl (fun w base ok x cs hm => by obtain ⟨n, hm⟩ := hm; exact ⟨n, kT_imp n _ _ _ _ _ hm⟩) (Kd.S_R h)
/-- An element put, whose rows are newer than all others. -/
theorem kT_set {W : World} {base g n cap N : Nat} {ok : Nat → Prop} {xs : List S28} (h : Kd.S kT 28 W base (fun k => ok k ∧ k < N) (.slice (some ⟨g, 0, none⟩) n cap) xs) (i : Int) (h0 : 0 ≤ i) (h1 : i < n) {x' : S28} {v2 : Value} (hv : v2.oneCell' = true) (h2 : Kd.S kT 28 W base (fun k => N ≤ k) v2 x'.f2) (hok : ∀ k, N ≤ k → ok k) :
  Kd.S kT 28 (W.setCells g (i.toNat * kT.sz + 0) [.int .i64 x'.f0, .int .i64 x'.f1, v2]) base ok (.slice (some ⟨g, 0, none⟩) n cap) (xs.set i.toNat x') ∧ W.grownBy (W.setCells g (i.toNat * kT.sz + 0) [.int .i64 x'.f0, .int .i64 x'.f1, v2]) (some g) := by
 have hg : ok g ∧ g < N := (Kd.S_R h).1 g rfl
 have hn : Kd.S kT 28 W base (fun k => ok k ∧ ¬ N ≤ k) (.slice (some ⟨g, 0, none⟩) n cap) xs := Kd.S_mono h (fun k hk => ⟨hk.1, by omega⟩)
 obtain ⟨oki, c, hcl, hM, hcc, hfr, hoki, hH⟩ := Kd.S_elem hn z28 i h0 h1
 have hH2 := Kd.H_more (okg := fun k => N ≤ k) hH hok
 obtain ⟨h3, h4⟩ := Kd.H_seg hH2 h0 h1 (seg := [.int .i64 x'.f0, .int .i64 x'.f1, v2]) (j := 0) (by show 0 + 3 ≤ 3; omega) (by intro q hq; simp at hq; rcases hq with rfl | rfl | rfl; rfl; rfl; exact hv)
 have e : c.take 0 ++ [Value.int .i64 x'.f0, .int .i64 x'.f1, v2] ++ c.drop (0 + [Value.int .i64 x'.f0, .int .i64 x'.f1, v2].length) = [.int .i64 x'.f0, .int .i64 x'.f1, v2] := by
  have : c.length = 3 := hcl
  simp [List.drop_eq_nil_of_le (show c.length ≤ 3 by omega)]
 rw [e] at h3
 refine ⟨Kd.H_back h3 (kT_mkM _ _ _ x' (Kd.S_grown h2 h4 (fun k hk e => ?_))) (fun k hk => .inr hk), h4⟩
 injection e with e
 omega
theorem impl_copyExpr.callsS (k : Nat) : ∀ (a0_0 : Int) (a0_1 : Int) (A0_2 : Option Addr) (c0_2 : Nat) (l0_2 : List (S28)) (r1 : Int) (r2 : Int) (r3 : List (S28)) (w : World) (hr0_2 : Kd.C k28 w A0_2 l0_2.length l0_2) (hc0_2 : l0_2.length ≤ c0_2) (h : impl_copyExpr.f k a0_0 a0_1 l0_2 = some (r1, r2, r3)),
  Calls Try.prog 22 #[.agg #[.int .i64 a0_0, .int .i64 a0_1, .slice A0_2 l0_2.length c0_2]] w fun e w' => ∃ v2_ : Value, e = .returned (.agg #[.int .i64 r1, .int .i64 r2, v2_]) ∧ Kd.S kT 28 w' w.heap.size (fun _ => True) v2_ r3 ∧ Below w.heap.size w w' := by
 induction k using Nat.strongRecOn with
 | _ k ih =>
 intro a0_0 a0_1 A0_2 c0_2 l0_2 r1 r2 r3 w hr0_2 hc0_2 h
 cases k with
 | zero => exact absurd h (by simp [impl_copyExpr.f])
 | succ k =>
 simp only [impl_copyExpr.f] at h
 have hu28 := Try.underlying28
 have HR0_2 := Ak hr0_2
 have HC0_2 := Ak hc0_2
 clear hr0_2 hc0_2
 have HB := Ak (Below.refl w.heap.size w)
 have H : (impl_copyExpr.l0 k l0_2 (l0_2.length : Int) 0 a0_0 a0_1 ([] : List (S28))) = some (r1, r2, r3) := h
 clear h
 have H' := Ak H
 clear H
 go_enter Try.func22, Try.ntmps22
 go_wp2_with (first | ((with_reducible refine gate_dst (N := 1) rfl ?_); refine Qk 1 #[.int .i64 a0_0, .int .i64 a0_1, .slice A0_2 l0_2.length c0_2] 28 ?_; intro gb231 hg w2 hbox hb; have n0_ := Ak (below_step (Qb HB.out) hb); have n1_ := Ak (hbox); have n2_ := Ak ((Qp hg HB.out : w.heap.size ≤ gb231)); have n3_ := Ak ((Qp hg HB.out : w.heap.size ≤ gb231)); clear HB; have HB := n0_; have BK231 := n1_; have GW231 := n2_; have GE231 := n3_; clear n0_ n1_ n2_ n3_; clear hb hbox hg) | ((with_reducible refine gate_dst (N := 2) rfl ?_); refine Qk 2 #[.int .i64 0, .int .i64 0, .slice none 0 0] 28 ?_; intro gb232 hg w3 hbox hb; have n0_ := Ak (Qm BK231.out hb); have n1_ := Ak (below_step (Qb HB.out) hb); have n2_ := Ak (hbox); have n3_ := Ak ((Qp hg HB.out : w.heap.size ≤ gb232)); have n4_ := Ak ((Qp hg HB.out : w.heap.size ≤ gb232)); have n5_ := Ak ((by rw [hg]; exact Nat.ne_of_lt (Qn BK231.out) : gb231 ≠ gb232)); have n6_ := Ak ((by rw [hg]; exact Nat.ne_of_gt (Qn BK231.out) : gb232 ≠ gb231)); clear BK231 HB; have BK231 := n0_; have HB := n1_; have BK232 := n2_; have GW232 := n3_; have GE232 := n4_; have NB231_232 := n5_; have NB232_231 := n6_; clear n0_ n1_ n2_ n3_ n4_ n5_ n6_; clear hb hbox hg; have hnb4 := NB231_232.out; have hnc4 := NB232_231.out; obtain ⟨hcz5_0, hcz5_1, hcz5_2⟩ := Qu3 BK231.out; have hfz5_0 := blk_frozen BK231.out 0; have hfz5_1 := blk_frozen BK231.out 1; have hfz5_2 := blk_frozen BK231.out 2) | ((with_reducible refine gate_dst (N := 3) rfl ?_); refine Qk 3 #[.int .i64 0, .int .i64 0, .slice none 0 0] 28 ?_; intro gb233 hg w6 hbox hb; have n0_ := Ak (Qm BK231.out hb); have n1_ := Ak (Qm BK232.out hb); have n2_ := Ak (below_step (Qb HB.out) hb); have n3_ := Ak (hbox); have n4_ := Ak ((Qp hg HB.out : w.heap.size ≤ gb233)); have n5_ := Ak ((Qp hg HB.out : w.heap.size ≤ gb233)); have n6_ := Ak ((by rw [hg]; exact Nat.ne_of_lt (Qn BK231.out) : gb231 ≠ gb233)); have n7_ := Ak ((by rw [hg]; exact Nat.ne_of_gt (Qn BK231.out) : gb233 ≠ gb231)); have n8_ := Ak ((by rw [hg]; exact Nat.ne_of_lt (Qn BK232.out) : gb232 ≠ gb233)); have n9_ := Ak ((by rw [hg]; exact Nat.ne_of_gt (Qn BK232.out) : gb233 ≠ gb232)); clear BK231 BK232 HB; have BK231 := n0_; have BK232 := n1_; have HB := n2_; have BK233 := n3_; have GW233 := n4_; have GE233 := n5_; have NB231_233 := n6_; have NB233_231 := n7_; have NB232_233 := n8_; have NB233_232 := n9_; clear n0_ n1_ n2_ n3_ n4_ n5_ n6_ n7_ n8_ n9_; clear hb hbox hg; have hnb7 := NB233_231.out; have hnc7 := NB231_233.out; have hnb8 := NB233_232.out; have hnc8 := NB232_233.out; obtain ⟨hcz9_0, hcz9_1, hcz9_2, hfz9_0, hfz9_1, hfz9_2⟩ := Qv3 BK233.out; obtain ⟨hcz10_0, hcz10_1, hcz10_2⟩ := Qu3 BK231.out; have hfz10_0 := blk_frozen BK231.out 0; have hfz10_1 := blk_frozen BK231.out 1; have hfz10_2 := blk_frozen BK231.out 2))
 go_loopg [14] k (fun kq v14 w' => ∃ (x14_1 : Int) (x234002_1 : List (S28)) (u234002 : Value), v14 = .int .i64 x14_1 ∧ Aside0 (impl_copyExpr.l0 kq l0_2 (l0_2.length : Int) x14_1 a0_0 a0_1 x234002_1 = some (r1, r2, r3)) ∧ Aside0 (kq ≤ k) ∧ Aside0 (Kd.S kT 28 w' w.heap.size (fun k_ => k_ ≠ gb231 ∧ k_ ≠ gb232 ∧ k_ ≠ gb233) u234002 x234002_1) ∧ Aside0 (w'.heap[gb231]? = some (.cells #[.int .i64 a0_0, .int .i64 a0_1, (.slice A0_2 l0_2.length c0_2)] 28 (0, 0))) ∧ Aside0 (w'.heap[gb232]? = some (.cells #[.int .i64 0, .int .i64 0, (.slice none 0 0)] 28 (0, 0))) ∧ Aside0 (w'.heap[gb233]? = some (.cells #[.int .i64 a0_0, .int .i64 a0_1, u234002] 28 (0, 0))) ∧ Aside0 (Below w.heap.size w w'))
 case atStart => exact ⟨(0), (([] : List (S28))), (.slice none 0 0), Qi, H', ⟨Nat.le_refl _⟩, ⟨by first | exact Kd.S_nil _ _ _ _ _ | exact Kd.N_nil _ _ _ _ _ | exact Kd.V_nil _ _ _ _ _ | exact Kd.Q_nil _ _ _ _ _ | exact Kd.S_nil _ _ _ _ _⟩, ⟨by refine Qe ?_; refine blk_far ?_ NB231_233.out _; refine Qe ?_; refine blk_far ?_ NB231_233.out _; refine Qe ?_; refine blk_far ?_ NB231_233.out _; refine Qe ?_; exact BK231.out⟩, ⟨by refine Qe ?_; refine blk_far ?_ NB232_233.out _; refine Qe ?_; refine blk_far ?_ NB232_233.out _; refine Qe ?_; refine blk_far ?_ NB232_233.out _; refine Qe ?_; exact BK232.out⟩, ⟨by refine Qe ?_; refine blk_put (cs := #[.int .i64 a0_0, .int .i64 a0_1, .slice none 0 0]) ?_ 2 _ rfl; refine Qe ?_; refine blk_put (cs := #[.int .i64 a0_0, .int .i64 0, .slice none 0 0]) ?_ 1 _ rfl; refine Qe ?_; refine blk_put (cs := #[.int .i64 0, .int .i64 0, .slice none 0 0]) ?_ 0 _ rfl; refine Qe ?_; exact BK233.out⟩, ⟨Qb HB.out⟩⟩
 case round =>
  clear H'
  (try clear c2); (try clear p2); (try clear c4); (try clear c7); (try clear c8); (try clear hcz10_0); (try clear hcz10_1); (try clear hcz10_2); (try clear hcz5_0); (try clear hcz5_1); (try clear hcz5_2); (try clear hcz9_0); (try clear hcz9_1); (try clear hcz9_2); (try clear hfz10_0); (try clear hfz10_1); (try clear hfz10_2); (try clear hfz5_0); (try clear hfz5_1); (try clear hfz5_2); (try clear hfz9_0); (try clear hfz9_1); (try clear hfz9_2)
  obtain ⟨x14_1, x234002_1, u234002, rfl, HA, HK1, HO_234002, BK231, BK232, BK233, HB⟩ := hrel
  cases gk with
  | zero => exact absurd HA.out (by simp [impl_copyExpr.l0])
  | succ k1 =>
   have H := HA.out
   clear HA
   simp only [impl_copyExpr.l0] at H
   by_cases c11 : x14_1 < (l0_2.length : Int)
   ·rw [if_pos c11] at H
    have c11b0 : decide (x14_1 < (l0_2.length : Int)) = true := decide_eq_true c11
    clear c11
    by_cases c12 : 0 ≤ x14_1
    ·rw [if_pos c12] at H
     have c12b0 : decide (0 ≤ x14_1) = true := decide_eq_true c12
     clear c12
     by_cases c13 : x14_1 < (l0_2.length : Int)
     ·rw [if_pos c13] at H
      have c13b0 : decide (x14_1 < (l0_2.length : Int)) = true := decide_eq_true c13
      clear c13
      replace H := Option.bind_eq_some_iff.mp H
      obtain ⟨⟨t236, t237, t238⟩, A140, H⟩ := H
      replace H : (if x234002_1.length < 3518437208883 then (impl_copyExpr.l0 k1 l0_2 (l0_2.length : Int) (wrap64 (x14_1 + 1)) a0_0 a0_1 (x234002_1 ++ [(⟨t236, t237, t238⟩ : S28)])) else (none)) = some (r1, r2, r3) := H
      have A14 := Ak A140
      clear A140
      by_cases c15 : x234002_1.length < 3518437208883
      ·rw [if_pos c15] at H
       have LMc15 := Ak c15
       clear c15
       obtain ⟨y241, hy241⟩ : ∃ y_ : List (S28), y_ = (x234002_1 ++ [(⟨t236, t237, t238⟩ : S28)]) := ⟨_, rfl⟩
       replace H : (impl_copyExpr.l0 k1 l0_2 (l0_2.length : Int) (wrap64 (x14_1 + 1)) a0_0 a0_1 y241) = some (r1, r2, r3) := by first | (rw [hy241]; with_reducible exact H) | (have H2_ := (Option.bind_some _ _).symm.trans H; rw [hy241]; with_reducible exact H2_) | (have H2_ := (Option.bind_some _ _).symm.trans H; with_reducible exact H2_) | with_reducible exact H | (rw [hy241]; exact H) | exact H
       have Ny241 := Ak hy241
       clear hy241
       have H' := Ak H
       clear H
       have p234 : 0 ≤ (x14_1 : Int) := Qg
       have q234 : x14_1 < (l0_2.length : Int) := Qg
       obtain ⟨ad234, A234_2, c234_2, e234, hx234_0, hx234_1, hx234_2, hl234_2, hi234_2⟩ := at_T28 HR0_2.out x14_1 p234 q234
       cases e234
       (try replace hx234_0 := (HB.out.cell (World.block_lt_of_cell? w _ hx234_0)).trans hx234_0)
       (try replace hx234_1 := (HB.out.cell (World.block_lt_of_cell? w _ hx234_1)).trans hx234_1)
       (try replace hx234_2 := (HB.out.cell (World.block_lt_of_cell? w _ hx234_2)).trans hx234_2)
       have HR234_2 := Ak hi234_2
       have HC234_2 := Ak hl234_2
       clear hi234_2 hl234_2
       replace p234 := eq_true p234
       replace q234 := eq_true q234
       try go_wp2_with (first | ((with_reducible refine gate_dst (N := 5) rfl ?_); refine Qk 5 #[.int .i64 0, .int .i64 0, .slice none 0 0] 28 ?_; intro gb235 hg w16 hbox hb; have n0_ := Ak (Kd.S_below (Kd.S_elderB (QcS HO_234002.out) gb235 (Nat.le_of_eq hg.symm)) hb); have n1_ := Ak (Qm BK231.out hb); have n2_ := Ak (Qm BK232.out hb); have n3_ := Ak (Qm BK233.out hb); have n4_ := Ak (below_step (Qb HB.out) hb); have n5_ := Ak (hbox); have n6_ := Ak ((Qp hg HB.out : w.heap.size ≤ gb235)); have n7_ := Ak ((Qp hg HB.out : w.heap.size ≤ gb235)); have n8_ := Ak ((by rw [hg]; exact Nat.ne_of_lt (Qn BK231.out) : gb231 ≠ gb235)); have n9_ := Ak ((by rw [hg]; exact Nat.ne_of_gt (Qn BK231.out) : gb235 ≠ gb231)); have n10_ := Ak ((by rw [hg]; exact Nat.ne_of_lt (Qn BK232.out) : gb232 ≠ gb235)); have n11_ := Ak ((by rw [hg]; exact Nat.ne_of_gt (Qn BK232.out) : gb235 ≠ gb232)); have n12_ := Ak ((by rw [hg]; exact Nat.ne_of_lt (Qn BK233.out) : gb233 ≠ gb235)); have n13_ := Ak ((by rw [hg]; exact Nat.ne_of_gt (Qn BK233.out) : gb235 ≠ gb233)); clear HO_234002 BK231 BK232 BK233 HB; have HO_234002 := n0_; have BK231 := n1_; have BK232 := n2_; have BK233 := n3_; have HB := n4_; have BK235 := n5_; have GW235 := n6_; have GE235 := n7_; have NB231_235 := n8_; have NB235_231 := n9_; have NB232_235 := n10_; have NB235_232 := n11_; have NB233_235 := n12_; have NB235_233 := n13_; clear n0_ n1_ n2_ n3_ n4_ n5_ n6_ n7_ n8_ n9_ n10_ n11_ n12_ n13_; clear hb hbox hg; have hnb17 := NB235_231.out; have hnc17 := NB231_235.out; have hnb18 := NB235_232.out; have hnc18 := NB232_235.out; have hnb19 := NB235_233.out; have hnc19 := NB233_235.out; obtain ⟨hcz20_0, hcz20_1, hcz20_2⟩ := Qu3 BK235.out; have hfz20_0 := blk_frozen BK235.out 0; have hfz20_1 := blk_frozen BK235.out 1; have hfz20_2 := blk_frozen BK235.out 2))
       have n0_ : Aside0 (Kd.S kT 28 (((w16.setCell ⟨gb235, 0, none⟩ (.int .i64 ((rd_T28 l0_2 x14_1).f0))).setCell ⟨gb235, 1, none⟩ (.int .i64 ((rd_T28 l0_2 x14_1).f1))).setCell ⟨gb235, 2, none⟩ (.slice A234_2 ((rd_T28 l0_2 x14_1).f2).length c234_2)) w.heap.size (fun k_ => k_ ≠ gb231 ∧ k_ ≠ gb232 ∧ k_ ≠ gb233 ∧ k_ ≠ gb235) u234002 x234002_1) := ⟨by refine QfS ?_; exact Kd.S_mono (Kd.S_far (p := ⟨gb235, 2, none⟩) (Kd.S_far (p := ⟨gb235, 1, none⟩) (Kd.S_far (p := ⟨gb235, 0, none⟩) (Kd.S_mono HO_234002.out (fun k_ hk => (⟨hk, hk.2⟩ : _ ∧ k_ ≠ gb235))) (fun _ hk => hk.2) (.int .i64 ((rd_T28 l0_2 x14_1).f0))) (fun _ hk => hk.2) (.int .i64 ((rd_T28 l0_2 x14_1).f1))) (fun _ hk => hk.2) (.slice A234_2 ((rd_T28 l0_2 x14_1).f2).length c234_2)) (fun _ hk => ⟨hk.1.1.1, ⟨hk.1.1.2.1, ⟨hk.1.1.2.2, hk.1.2⟩⟩⟩)⟩
       have n1_ : Aside0 ((((w16.setCell ⟨gb235, 0, none⟩ (.int .i64 ((rd_T28 l0_2 x14_1).f0))).setCell ⟨gb235, 1, none⟩ (.int .i64 ((rd_T28 l0_2 x14_1).f1))).setCell ⟨gb235, 2, none⟩ (.slice A234_2 ((rd_T28 l0_2 x14_1).f2).length c234_2)).heap[gb231]? = some (.cells #[.int .i64 a0_0, .int .i64 a0_1, .slice (some ad234) l0_2.length c0_2] 28 (0, 0))) := ⟨by refine Qe ?_; refine blk_far ?_ NB231_235.out _; refine Qe ?_; refine blk_far ?_ NB231_235.out _; refine Qe ?_; refine blk_far ?_ NB231_235.out _; refine Qe ?_; exact BK231.out⟩
       have n2_ : Aside0 ((((w16.setCell ⟨gb235, 0, none⟩ (.int .i64 ((rd_T28 l0_2 x14_1).f0))).setCell ⟨gb235, 1, none⟩ (.int .i64 ((rd_T28 l0_2 x14_1).f1))).setCell ⟨gb235, 2, none⟩ (.slice A234_2 ((rd_T28 l0_2 x14_1).f2).length c234_2)).heap[gb232]? = some (.cells #[.int .i64 0, .int .i64 0, .slice none 0 0] 28 (0, 0))) := ⟨by refine Qe ?_; refine blk_far ?_ NB232_235.out _; refine Qe ?_; refine blk_far ?_ NB232_235.out _; refine Qe ?_; refine blk_far ?_ NB232_235.out _; refine Qe ?_; exact BK232.out⟩
       have n3_ : Aside0 ((((w16.setCell ⟨gb235, 0, none⟩ (.int .i64 ((rd_T28 l0_2 x14_1).f0))).setCell ⟨gb235, 1, none⟩ (.int .i64 ((rd_T28 l0_2 x14_1).f1))).setCell ⟨gb235, 2, none⟩ (.slice A234_2 ((rd_T28 l0_2 x14_1).f2).length c234_2)).heap[gb233]? = some (.cells #[.int .i64 a0_0, .int .i64 a0_1, u234002] 28 (0, 0))) := ⟨by refine Qe ?_; refine blk_far ?_ NB233_235.out _; refine Qe ?_; refine blk_far ?_ NB233_235.out _; refine Qe ?_; refine blk_far ?_ NB233_235.out _; refine Qe ?_; exact BK233.out⟩
       have n4_ : Aside0 ((((w16.setCell ⟨gb235, 0, none⟩ (.int .i64 ((rd_T28 l0_2 x14_1).f0))).setCell ⟨gb235, 1, none⟩ (.int .i64 ((rd_T28 l0_2 x14_1).f1))).setCell ⟨gb235, 2, none⟩ (.slice A234_2 ((rd_T28 l0_2 x14_1).f2).length c234_2)).heap[gb235]? = some (.cells #[.int .i64 ((rd_T28 l0_2 x14_1).f0), .int .i64 ((rd_T28 l0_2 x14_1).f1), .slice A234_2 ((rd_T28 l0_2 x14_1).f2).length c234_2] 28 (0, 0))) := ⟨by refine Qe ?_; refine blk_put (cs := #[.int .i64 ((rd_T28 l0_2 x14_1).f0), .int .i64 ((rd_T28 l0_2 x14_1).f1), .slice none 0 0]) ?_ 2 _ rfl; refine Qe ?_; refine blk_put (cs := #[.int .i64 ((rd_T28 l0_2 x14_1).f0), .int .i64 0, .slice none 0 0]) ?_ 1 _ rfl; refine Qe ?_; refine blk_put (cs := #[.int .i64 0, .int .i64 0, .slice none 0 0]) ?_ 0 _ rfl; refine Qe ?_; exact BK235.out⟩
       have n5_ : Aside0 (Below w.heap.size w (((w16.setCell ⟨gb235, 0, none⟩ (.int .i64 ((rd_T28 l0_2 x14_1).f0))).setCell ⟨gb235, 1, none⟩ (.int .i64 ((rd_T28 l0_2 x14_1).f1))).setCell ⟨gb235, 2, none⟩ (.slice A234_2 ((rd_T28 l0_2 x14_1).f2).length c234_2))) := ⟨Qb HB.out⟩
       (try clear HO_234002); (try clear BK231); (try clear BK232); (try clear BK233); (try clear BK235); (try clear HB)
       generalize (((w16.setCell ⟨gb235, 0, none⟩ (.int .i64 ((rd_T28 l0_2 x14_1).f0))).setCell ⟨gb235, 1, none⟩ (.int .i64 ((rd_T28 l0_2 x14_1).f1))).setCell ⟨gb235, 2, none⟩ (.slice A234_2 ((rd_T28 l0_2 x14_1).f2).length c234_2)) = w21 at n0_ n1_ n2_ n3_ n4_ n5_ ⊢
       have HO_234002 := n0_
       have BK231 := n1_
       have BK232 := n2_
       have BK233 := n3_
       have BK235 := n4_
       have HB := n5_
       clear n0_ n1_ n2_ n3_ n4_ n5_
       have n0_ := Ak (Kd.S_drew HO_234002.out)
       have n1_ := Ak (blk_drew BK231.out)
       have n2_ := Ak (blk_drew BK232.out)
       have n3_ := Ak (blk_drew BK233.out)
       have n4_ := Ak (blk_drew BK235.out)
       have n5_ := Ak (below_drew1 HB.out)
       clear HO_234002 BK231 BK232 BK233 BK235 HB
       have HO_234002 := n0_
       have BK231 := n1_
       have BK232 := n2_
       have BK233 := n3_
       have BK235 := n4_
       have HB := n5_
       clear n0_ n1_ n2_ n3_ n4_ n5_
       refine start_ (n := 8) (S := fun w' => w'.cell? ⟨gb233, 0, none⟩ = some (.int .i64 a0_0) ∧ w'.cell? ⟨gb233, 1, none⟩ = some (.int .i64 a0_1) ∧ w'.cell? ⟨gb233, 2, none⟩ = some (u234002) ∧ w'.cell? ⟨gb235, 0, none⟩ = some (.int .i64 ((rd_T28 l0_2 x14_1).f0)) ∧ w'.cell? ⟨gb235, 1, none⟩ = some (.int .i64 ((rd_T28 l0_2 x14_1).f1)) ∧ w'.cell? ⟨gb235, 2, none⟩ = some (.slice A234_2 ((rd_T28 l0_2 x14_1).f2).length c234_2)) (ds := [7]) #[false, false, false, false, false, false, false, false] (by kernel_rfl) rfl rfl ⟨(blk_cell BK233.out 0).trans rfl, (blk_cell BK233.out 1).trans rfl, (blk_cell BK233.out 2).trans rfl, (blk_cell BK235.out 0).trans rfl, (blk_cell BK235.out 1).trans rfl, (blk_cell BK235.out 2).trans rfl⟩ (fun hHeld => ?_); refine with_tabW impl_copyExpr.tab5 impl_copyExpr.bits5 (fun HT_ HW_ => ?_)
       generalize w21.drew = w22 at HO_234002 BK231 BK232 BK233 BK235 HB hHeld ⊢
       have LT := Ak (And.intro (blk_lt BK231.out) (And.intro (blk_lt BK232.out) (And.intro (blk_lt BK233.out) (And.intro (blk_lt BK235.out) (Kd.S_lt HO_234002.out)))))
       refine Qq 0 (some 18) ?_
       refine Qr 1 (some 19) hHeld ?_
       refine Qr 2 (some 20) hHeld ?_
       refine Qs 3 (some 21) (fun K hK => ?_)
       refine goes_ Try.func22 (by kernel_rfl) rfl #[.agg #[.int .i64 ((rd_T28 l0_2 x14_1).f0), .int .i64 ((rd_T28 l0_2 x14_1).f1), .slice A234_2 ((rd_T28 l0_2 x14_1).f2).length c234_2]] (by rfl) rfl rfl (by (try simp only [List.map_toArray, List.map_cons, List.map_nil]); first | done | rfl | (simp only [List.length_drop, List.length_take]; rfl)) ?_
       with_reducible refine (ih k1 (by have := HK1.out; omega) ((rd_T28 l0_2 x14_1).f0) ((rd_T28 l0_2 x14_1).f1) _ _ ((rd_T28 l0_2 x14_1).f2) t236 t237 t238 _ ?side1 ?side2 A14.out).mono ?_
       (case side1 => repeat (first | exact (Kd.C_below HR234_2.out HB.out) | (with_reducible refine Kd.C_alloc ?_ _) | (with_reducible refine Kd.C_drewN ?_ _) | (with_reducible refine Kd.C_drew ?_)))
       (case side2 => exact HC234_2.out)
       rintro e w23 ⟨v239, rfl, ho0, hb⟩
       refine ⟨_, rfl, ?_⟩
       have n0_ := Ak (Kd.S_mono (Kd.S_elder' (Kd.S_bound (QcS HO_234002.out)) (Kd.S_base ho0) hb) (ok' := fun k_ => (k_ ≠ gb231 ∧ k_ ≠ gb232 ∧ k_ ≠ gb233 ∧ k_ ≠ gb235) ∧ k_ < w22.heap.size) (fun k_ hk => ⟨hk.1.1, hk.1.2.2.1⟩))
       have n1_ := Ak (Kd.S_lower (Kd.S_mono (Kd.S_bound ho0) (ok' := fun k_ => w22.heap.size ≤ k_) (fun k_ hk => hk.2.1)) (below_size (Qb HB.out)))
       have n2_ := Ak (Qm BK231.out hb)
       have n3_ := Ak (Qm BK232.out hb)
       have n4_ := Ak (Qm BK233.out hb)
       have n5_ := Ak (Qm BK235.out hb)
       have n6_ := Ak (below_step (Qb HB.out) hb)
       clear HO_234002 BK231 BK232 BK233 BK235 HB
       have HO_234002 := n0_
       have HO240 := n1_
       have BK231 := n2_
       have BK232 := n3_
       have BK233 := n4_
       have BK235 := n5_
       have HB := n6_
       clear n0_ n1_ n2_ n3_ n4_ n5_ n6_
       (try clear hb); (try clear hb2); (try clear hk); (try clear hi); (try clear ho0)
       obtain ⟨Ao25, co25, eo25⟩ := Kd.S_slice HO240.out
       (first | subst eo25 | (injection eo25 with f1_ f2_ f3_; have f4_ := f1_.symm; have f5_ := f3_.symm; clear f1_ f2_ f3_; subst f4_; subst f5_))
       refine hK.out _ _ ⟨(blk_cell BK233.out 0).trans rfl, (blk_cell BK233.out 1).trans rfl, (blk_cell BK233.out 2).trans rfl, (blk_cell BK235.out 0).trans rfl, (blk_cell BK235.out 1).trans rfl, (blk_cell BK235.out 2).trans rfl⟩ (fun hHeld => ?_)
       clear hK K
       refine norm_ (a' := ?_) ?_ ?_
       rotate_left
       ·show Act.put _ (some 21) _ = _
        simp only [Act.put, List.setIfInBounds_toArray, List.set_cons_zero, List.set_cons_succ, i64_w, i32_w]
        rfl
       refine Qs 4 (some 22) (fun K hK => ?_)
       refine value_ (w1 := ?_) (v := ?_) (by rfl) rfl ?_ ?_
       rotate_left 2
       ·go_simp
        constructor
        ·rfl
        ·rfl
       refine hK.out _ _ ⟨(blk_cell (blk_alloc BK233.out _) 0).trans rfl, (blk_cell (blk_alloc BK233.out _) 1).trans rfl, (blk_cell (blk_alloc BK233.out _) 2).trans rfl, (blk_cell (blk_alloc BK235.out _) 0).trans rfl, (blk_cell (blk_alloc BK235.out _) 1).trans rfl, (blk_cell (blk_alloc BK235.out _) 2).trans rfl⟩ (fun hHeld => ?_)
       clear hK K
       refine norm_ (a' := ?_) ?_ ?_
       rotate_left
       ·show Act.put _ (some 22) _ = _
        simp only [Act.put, List.setIfInBounds_toArray, List.set_cons_zero, List.set_cons_succ, i64_w, i32_w]
        rfl
       refine Qs 5 (some 23) (fun K hK => ?_)
       refine Kd.S_append_step kT (w0 := w) w.heap.size (by rfl) (.tmp 19) (.tmp 22) 26 28 (.agg #[(.int .i64 0), (.int .i64 0), (.slice none 0 0)]) 40 rfl Try.underlying26 info28 rfl (by decide) (by omega) u234002 x234002_1 (⟨t236, t237, t238⟩ : S28) [.int .i64 t236, .int .i64 t237, .slice Ao25 t238.length co25] (fun k_ => k_ ≠ gb231 ∧ k_ ≠ gb232 ∧ k_ ≠ gb233 ∧ k_ ≠ gb235) (fun k_ => w22.heap.size ≤ k_) rfl rfl ?aP ?aK ?aF ?aO ?aB ?aS ?aL ?_
       (case aK => exact (fun k_ hk => ⟨⟨fun e_ => Nat.lt_irrefl _ (Nat.lt_of_lt_of_le (e_ ▸ LT.out.1) hk), fun e_ => Nat.lt_irrefl _ (Nat.lt_of_lt_of_le (e_ ▸ LT.out.2.1) hk), fun e_ => Nat.lt_irrefl _ (Nat.lt_of_lt_of_le (e_ ▸ LT.out.2.2.1) hk), fun e_ => Nat.lt_irrefl _ (Nat.lt_of_lt_of_le (e_ ▸ LT.out.2.2.2.1) hk)⟩, fun e_ => Nat.lt_irrefl _ (Nat.lt_of_lt_of_le (LT.out.2.2.2.2 k_ e_.symm) hk)⟩))
       (case aP => exact kT_mkM _ _ _ (⟨t236, t237, t238⟩ : S28) (HO240.out))
       (case aB => exact (Qb HB.out))
       (case aF => exact (fun k_ hk => ⟨Kd.freshB (g := gb231) (o := .cells #[.int .i64 a0_0, .int .i64 a0_1, .slice (some ad234) l0_2.length c0_2] 28 (0, 0)) (Qa BK231.out) k_ hk, Kd.freshB (g := gb232) (o := .cells #[.int .i64 0, .int .i64 0, .slice none 0 0] 28 (0, 0)) (Qa BK232.out) k_ hk, Kd.freshB (g := gb233) (o := .cells #[.int .i64 a0_0, .int .i64 a0_1, u234002] 28 (0, 0)) (Qa BK233.out) k_ hk, Kd.freshB (g := gb235) (o := .cells #[.int .i64 ((rd_T28 l0_2 x14_1).f0), .int .i64 ((rd_T28 l0_2 x14_1).f1), .slice A234_2 ((rd_T28 l0_2 x14_1).f2).length c234_2] 28 (0, 0)) (Qa BK235.out) k_ hk⟩))
       (case aO => exact (by refine QfS ?_; exact Kd.S_mono HO_234002.out (fun _ hk => ⟨hk.1, fun h2 => Nat.lt_irrefl _ (Nat.lt_of_lt_of_le hk.2 h2)⟩)))
       (case aS => exact (below_size (Qb HB.out)))
       (case aL => have := LMc15.out; omega)
       intro v242 w24 ho hb hg hat
       rw [← Ny241.out] at ho
       have n0_ := Ak (blk_grown (g := gb231) (o := .cells #[.int .i64 a0_0, .int .i64 a0_1, .slice (some ad234) l0_2.length c0_2] 28 (0, 0)) (Qa BK231.out) hg (Kd.S_away HO_234002.out (fun _ hk => hk.1.1)))
       have n1_ := Ak (blk_grown (g := gb232) (o := .cells #[.int .i64 0, .int .i64 0, .slice none 0 0] 28 (0, 0)) (Qa BK232.out) hg (Kd.S_away HO_234002.out (fun _ hk => hk.1.2.1)))
       have n2_ := Ak (blk_grown (g := gb233) (o := .cells #[.int .i64 a0_0, .int .i64 a0_1, u234002] 28 (0, 0)) (Qa BK233.out) hg (Kd.S_away HO_234002.out (fun _ hk => hk.1.2.2.1)))
       have n3_ := Ak (blk_grown (g := gb235) (o := .cells #[.int .i64 ((rd_T28 l0_2 x14_1).f0), .int .i64 ((rd_T28 l0_2 x14_1).f1), .slice A234_2 ((rd_T28 l0_2 x14_1).f2).length c234_2] 28 (0, 0)) (Qa BK235.out) hg (Kd.S_away HO_234002.out (fun _ hk => hk.1.2.2.2)))
       have n4_ := Ak (hb)
       have n5_ := Ak (ho)
       clear BK231 BK232 BK233 BK235 HB HO_234002 HO240
       have BK231 := n0_
       have BK232 := n1_
       have BK233 := n2_
       have BK235 := n3_
       have HB := n4_
       have HO243 := n5_
       clear n0_ n1_ n2_ n3_ n4_ n5_
       clear ho hb hg hat
       obtain ⟨Ao26, co26, eo26⟩ := Kd.S_slice HO243.out
       (first | subst eo26 | (injection eo26 with f1_ f2_ f3_; have f4_ := f1_.symm; have f5_ := f3_.symm; clear f1_ f2_ f3_; subst f4_; subst f5_))
       refine hK.out _ _ ⟨(blk_cell BK233.out 0).trans rfl, (blk_cell BK233.out 1).trans rfl, (blk_cell BK233.out 2).trans rfl, (blk_cell BK235.out 0).trans rfl, (blk_cell BK235.out 1).trans rfl, (blk_cell BK235.out 2).trans rfl⟩ (fun hHeld => ?_)
       clear hK K
       refine norm_ (a' := ?_) ?_ ?_
       rotate_left
       ·show Act.put _ (some 23) _ = _
        simp only [Act.put, List.setIfInBounds_toArray, List.set_cons_zero, List.set_cons_succ, i64_w, i32_w]
        rfl
       refine Qq 6 (some 24) ?_
       refine Qt 7 none (fun K hK => ?_)
       have hs27 : w24.cell? ⟨gb233, 2, none⟩ = some (u234002) := (blk_cell BK233.out 2).trans rfl
       have hfs27 := blk_frozen BK233.out 2
       have hns27_0 := NB231_233.out
       have hns27_1 := NB232_233.out
       have hns27_3 := NB235_233.out
       have hms27_0 := NB233_231.out
       have hms27_1 := NB233_232.out
       have hms27_3 := NB233_235.out
       refine skip_ (w1 := ?_) (by rfl) rfl ?_ ?_
       rotate_left
       ·go_simp
        rfl
       refine hK.out _ _ ?_
       clear hK K
       refine done_ (done_of HT_.out (by kernel_rfl)) ?_
       try go_wp2
       go_roundg k1
       case measure => have := HK1.out; omega
       case rel => exact ⟨(wrap64 (x14_1 + 1)), (y241), (.slice Ao26 y241.length co26), Qi, H', ⟨by have := HK1.out; omega⟩, ⟨by refine QfS ?_; exact Kd.S_mono (Kd.S_far (p := ⟨gb233, 2, none⟩) (Kd.S_mono HO243.out (fun k_ hk => (⟨hk, hk.2.2.1⟩ : _ ∧ k_ ≠ gb233))) (fun _ hk => hk.2) (.slice Ao26 y241.length co26)) (fun _ hk => ⟨hk.1.1, ⟨hk.1.2.1, hk.1.2.2.1⟩⟩)⟩, ⟨by refine Qe ?_; refine blk_far ?_ NB231_233.out _; refine Qe ?_; exact BK231.out⟩, ⟨by refine Qe ?_; refine blk_far ?_ NB232_233.out _; refine Qe ?_; exact BK232.out⟩, ⟨by refine Qe ?_; refine blk_put (cs := #[.int .i64 a0_0, .int .i64 a0_1, u234002]) ?_ 2 _ rfl; refine Qe ?_; exact BK233.out⟩, ⟨Qb HB.out⟩⟩
      ·rw [if_neg c15] at H
       exact absurd H (by simp)
     ·rw [if_neg c13] at H
      exact absurd H (by simp)
    ·rw [if_neg c12] at H
     exact absurd H (by simp)
   ·rw [if_neg c11] at H
    have c11b0 : decide (x14_1 < (l0_2.length : Int)) = false := decide_eq_false c11
    clear c11
    simp only [Option.some.injEq, Prod.mk.injEq] at H
    obtain ⟨rfl, rfl, rfl⟩ := H
    have hnb28 := NB233_231.out
    have hnc28 := NB231_233.out
    have hnb29 := NB233_232.out
    have hnc29 := NB232_233.out
    obtain ⟨hcz30_0, hcz30_1, hcz30_2, hfz30_0, hfz30_1, hfz30_2⟩ := Qv3 BK233.out
    have hnb31 := NB232_231.out
    have hnc31 := NB231_232.out
    obtain ⟨hcz32_0, hcz32_1, hcz32_2, hfz32_0, hfz32_1, hfz32_2⟩ := Qv3 BK232.out
    obtain ⟨Ao33, co33, eo33⟩ := Kd.S_slice HO_234002.out
    subst eo33
    go_wp2
    refine bodyPost_ret (results_cell_row rfl _ _ gb232 28 #[.int .i64 a0_0, .int .i64 a0_1, .slice Ao33 x234002_1.length co33] (0, 0) _ rfl (by refine Qe ?_; refine blk_put (cs := #[.int .i64 a0_0, .int .i64 a0_1, .slice none 0 0]) ?_ 2 _ rfl; refine Qe ?_; refine blk_put (cs := #[.int .i64 a0_0, .int .i64 0, .slice none 0 0]) ?_ 1 _ rfl; refine Qe ?_; refine blk_put (cs := #[.int .i64 0, .int .i64 0, .slice none 0 0]) ?_ 0 _ rfl; exact Qa BK232.out) Try.underlying28 rfl (by kernel_rfl)) rfl ?_
    exact ⟨_, Qh, by refine QfS ?_; exact Kd.S_mono (Kd.S_far (p := ⟨gb232, 2, none⟩) (Kd.S_far (p := ⟨gb232, 1, none⟩) (Kd.S_far (p := ⟨gb232, 0, none⟩) (Kd.S_mono HO_234002.out (fun k_ hk => (⟨hk, hk.2.1⟩ : _ ∧ k_ ≠ gb232))) (fun _ hk => hk.2) (.int .i64 a0_0)) (fun _ hk => hk.2) (.int .i64 a0_1)) (fun _ hk => hk.2) (.slice Ao33 x234002_1.length co33)) (fun _ hk => trivial), Qb HB.out⟩
theorem impl_NegateExpr.kh : Kd.Heap k28 := Kd.heap_fix (fun _ h_ => Kd.heap_iso _ (Kd.heap_pair (Kd.heap_int .i64) (Kd.heap_pair (Kd.heap_int .i64) (Kd.heap_slice 28 h_))))
theorem impl_NegateExpr.FC {W : World} {A : Option Addr} {n : Nat} {l : List S28} (h : Kd.C k28 W A n l) : Kd.F k28 W (fun k_ => k_ < W.heap.size) A n l := fun W' hW => impl_NegateExpr.kh.C (fun k_ hlt => hW k_ hlt hlt) h
def impl_NegateExpr.f (k : Nat) (a b : Int) (l : List S28) : Option (Int × Int × List S28 × Bool) := (impl_IsExpr.f k a b l).bind fun t => if t = true then (impl_negative.f k a b l).bind fun n => (impl_copyExpr.f k n.1 n.2.1 n.2.2).bind fun o => (impl_IsExpr.f k o.1 o.2.1 o.2.2).bind fun u => if u = true then some (o.1, o.2.1, o.2.2, true) else some (0, 0, [], false) else some (0, 0, [], false)
theorem impl_NegateExpr.mono : ∀ a b l k, LeO (impl_NegateExpr.f k a b l) (impl_NegateExpr.f (k + 1) a b l) := fun a b l k => LeO.bind (impl_IsExpr.mono _ _ _ k) fun t => LeO.ite (LeO.bind (impl_negative.mono _ _ _ k) fun n => LeO.bind (impl_copyExpr.mono _ _ _ k) fun o => LeO.bind (impl_IsExpr.mono _ _ _ k) fun u => LeO.refl _) (LeO.refl _)
theorem impl_NegateExpr.callsS (k : Nat) (a b : Int) (A : Option Addr) (c : Nat) (l : List S28) (r1 r2 : Int) (r3 : List S28) (r4 : Bool) (w : World) (hF : Kd.C k28 w A l.length l) (hc : l.length ≤ c) (h : impl_NegateExpr.f k a b l = some (r1, r2, r3, r4)) :
  Calls Try.prog 8 #[.agg #[.int .i64 a, .int .i64 b, .slice A l.length c]] w fun e w' => ∃ v2_ : Value, e = .returned (.tuple #[.agg #[.int .i64 r1, .int .i64 r2, v2_], .bool r4]) ∧ Kd.S kT 28 w' w.heap.size (fun _ => True) v2_ r3 ∧ Below w.heap.size w w' := by
 unfold impl_NegateExpr.f at h
 have hu28 := Try.underlying28
 have HC := Ak hc
 clear hc
 replace h := Option.bind_eq_some_iff.1 h
 obtain ⟨t, ht, h⟩ := h
 replace ht := Ak ht
 by_cases ct : t = true
 case neg =>
  rw [if_neg ct] at h
  simp only [Option.some.injEq, Prod.mk.injEq] at h
  obtain ⟨rfl, rfl, rfl, rfl⟩ := h
  rw [Bool.not_eq_true] at ct
  subst ct
  have al1 := below_alloc (Below.refl w.heap.size w) (.cells #[.int .i64 a, .int .i64 b, .slice A l.length c] 28)
  have al2 := below_alloc (Below.refl (w.alloc (.cells #[.int .i64 a, .int .i64 b, .slice A l.length c] 28)).heap.size (w.alloc (.cells #[.int .i64 a, .int .i64 b, .slice A l.length c] 28))) (.cells #[.int .i64 0, .int .i64 0, .slice none 0 0] 28)
  have HB := Ak (below_step al1 al2)
  have B1 := Ak (blk_below (blk_new w (.cells #[.int .i64 a, .int .i64 b, .slice A l.length c] 28)) al2)
  have B2 := Ak (blk_new (w.alloc (.cells #[.int .i64 a, .int .i64 b, .slice A l.length c] 28)) (.cells #[.int .i64 0, .int .i64 0, .slice none 0 0] 28))
  have HF := Ak (Kd.C_below (Kd.C_below hF al1) al2)
  have hs2 : (w.alloc (.cells #[.int .i64 a, .int .i64 b, .slice A l.length c] 28)).heap.size = w.heap.size + 1 := by simp
  rw [hs2] at B2
  replace hs2 := Ak hs2
  clear al1 al2 hF
  go_enter Try.func8, Try.ntmps8
  go_upto_region 1 with fail
  generalize (w.alloc (.cells #[.int .i64 a, .int .i64 b, .slice A l.length c] 28)).alloc (.cells #[.int .i64 0, .int .i64 0, .slice none 0 0] 28) = W at HB B1 B2 HF ⊢
  obtain ⟨g2, hg2⟩ : ∃ g, g = w.heap.size + 1 := ⟨_, rfl⟩
  obtain ⟨g1, hg1⟩ : ∃ g, g = w.heap.size := ⟨_, rfl⟩
  rw [← hg2] at B2 ⊢
  rw [← hg1] at B1 ⊢
  replace hg1 := Ak hg1
  have hq : w.heap.size ≤ g2 := by omega
  replace hg2 := Ak hg2
  replace hq := Ak hq
  obtain ⟨m0, m1, m2⟩ := Qu3 B1.out
  obtain ⟨n0, n1, n2, f0, f1, f2⟩ := Qv3 B2.out
  go_wp2_with ((go_at_call 21; with_reducible refine (impl_IsExpr.calls k a b A c l _ _ HF.out HC.out ht.out).mono ?_; rintro e W1 ⟨rfl, hd⟩); replace HF := Ak (Kd.C_below HF.out hd); replace HB := Ak (below_step HB.out hd); replace B1 := Ak (blk_below B1.out hd); replace B2 := Ak (blk_below B2.out hd); clear m0 m1 m2 n0 n1 n2 f0 f1 f2; obtain ⟨m0, m1, m2⟩ := Qu3 B1.out; obtain ⟨n0, n1, n2, f0, f1, f2⟩ := Qv3 B2.out; clear hd)
  have hq := hq.out
  refine bodyPost_ret (results_ct rfl _ _ g2 28 #[.int .i64 0, .int .i64 0, .slice none 0 0] (0, 0) _ rfl (blk_put (cs := #[.int .i64 0, .int .i64 0, .slice none 0 0]) (blk_put (cs := #[.int .i64 0, .int .i64 0, .slice none 0 0]) (blk_put (cs := #[.int .i64 0, .int .i64 0, .slice none 0 0]) B2.out 0 _ rfl) 1 _ rfl) 2 _ rfl) hu28 rfl (by kernel_rfl)) rfl ?_
  exact ⟨_, rfl, Kd.S_nil _ _ _ _ _, ((HB.out.setCell (p := ⟨g2, 0, none⟩) hq _).setCell (p := ⟨g2, 1, none⟩) hq _).setCell (p := ⟨g2, 2, none⟩) hq _⟩
 rw [if_pos ct] at h
 subst ct
 replace h := Option.bind_eq_some_iff.1 h
 obtain ⟨⟨p0, p1, p2⟩, hp, h⟩ := h
 replace h := Option.bind_eq_some_iff.1 h
 obtain ⟨⟨o0, o1, o2⟩, ho, h⟩ := h
 replace h := Option.bind_eq_some_iff.1 h
 obtain ⟨u, hu, h⟩ := h
 dsimp only at ho hu h
 replace hp := Ak hp
 replace ho := Ak ho
 replace hu := Ak hu
 have al1 := below_alloc (Below.refl w.heap.size w) (.cells #[.int .i64 a, .int .i64 b, .slice A l.length c] 28)
 have al2 := below_alloc (Below.refl (w.alloc (.cells #[.int .i64 a, .int .i64 b, .slice A l.length c] 28)).heap.size (w.alloc (.cells #[.int .i64 a, .int .i64 b, .slice A l.length c] 28))) (.cells #[.int .i64 0, .int .i64 0, .slice none 0 0] 28)
 have HB := Ak (below_step al1 al2)
 have B1 := Ak (blk_below (blk_new w (.cells #[.int .i64 a, .int .i64 b, .slice A l.length c] 28)) al2)
 have B2 := Ak (blk_new (w.alloc (.cells #[.int .i64 a, .int .i64 b, .slice A l.length c] 28)) (.cells #[.int .i64 0, .int .i64 0, .slice none 0 0] 28))
 have HF := Ak (Kd.C_below (Kd.C_below hF al1) al2)
 have hs2 : (w.alloc (.cells #[.int .i64 a, .int .i64 b, .slice A l.length c] 28)).heap.size = w.heap.size + 1 := by simp
 rw [hs2] at B2
 replace hs2 := Ak hs2
 clear al1 al2 hF
 go_enter Try.func8, Try.ntmps8
 go_upto_region 1 with fail
 generalize (w.alloc (.cells #[.int .i64 a, .int .i64 b, .slice A l.length c] 28)).alloc (.cells #[.int .i64 0, .int .i64 0, .slice none 0 0] 28) = W at HB B1 B2 HF ⊢
 obtain ⟨g2, hg2⟩ : ∃ g, g = w.heap.size + 1 := ⟨_, rfl⟩
 obtain ⟨g1, hg1⟩ : ∃ g, g = w.heap.size := ⟨_, rfl⟩
 rw [← hg2] at B2 ⊢
 rw [← hg1] at B1 ⊢
 replace hg1 := Ak hg1
 have hq : w.heap.size ≤ g2 := by omega
 replace hg2 := Ak hg2
 replace hq := Ak hq
 obtain ⟨m0, m1, m2⟩ := Qu3 B1.out
 obtain ⟨n0, n1, n2, f0, f1, f2⟩ := Qv3 B2.out
 go_upto_region 4 with (first | ((go_at_call 21; with_reducible refine (impl_IsExpr.calls k a b A c l _ _ HF.out HC.out ht.out).mono ?_; rintro e W1 ⟨rfl, hd⟩); replace HF := Ak (Kd.C_below HF.out hd); replace HB := Ak (below_step HB.out hd); replace B1 := Ak (blk_below B1.out hd); replace B2 := Ak (blk_below B2.out hd); clear m0 m1 m2 n0 n1 n2 f0 f1 f2; obtain ⟨m0, m1, m2⟩ := Qu3 B1.out; obtain ⟨n0, n1, n2, f0, f1, f2⟩ := Qv3 B2.out; clear hd) | ((go_at_call 23; with_reducible refine (impl_negative.callsF k (fun k_ => k_ < W1.heap.size) a b A c l p0 p1 p2 W1 (fun _ hk => hk) (impl_NegateExpr.FC HF.out) HC.out hp.out).mono ?_; rintro e W2 ⟨B, d, rfl, hd0, gf, hd⟩); have HN := Ak (Kd.F_now gf); replace hd0 := Ak hd0; replace HB := Ak (below_step HB.out hd); replace B1 := Ak (blk_below B1.out hd); replace B2 := Ak (blk_below B2.out hd); clear m0 m1 m2 n0 n1 n2 f0 f1 f2; obtain ⟨m0, m1, m2⟩ := Qu3 B1.out; obtain ⟨n0, n1, n2, f0, f1, f2⟩ := Qv3 B2.out; clear hd gf) | ((go_at_call 22; with_reducible refine (impl_copyExpr.callsS k p0 p1 B d p2 o0 o1 o2 _ HN.out hd0.out ho.out).mono ?_; rintro e W3 ⟨v, rfl, hS, hd⟩); obtain ⟨V, e, rfl⟩ := Kd.S_slice hS; have HS := Ak (Kd.S_mono (Kd.S_lower (Kd.S_bound hS) HB.out.size) (ok' := fun k_ => k_ ≠ g2) (fun k_ hk e => by have h1 := hk.2.1; have h2 := blk_lt B2.out; omega)); replace HB := Ak (below_step HB.out hd); replace B1 := Ak (blk_below B1.out hd); replace B2 := Ak (blk_below B2.out hd); clear m0 m1 m2 n0 n1 n2 f0 f1 f2; obtain ⟨m0, m1, m2⟩ := Qu3 B1.out; obtain ⟨n0, n1, n2, f0, f1, f2⟩ := Qv3 B2.out; clear hd hS))
 have al := below_alloc (Below.refl W3.heap.size W3) (.cells #[.int .i64 o0, .int .i64 o1, .slice V o2.length e] 28)
 have B4 := Ak (blk_new W3 (.cells #[.int .i64 o0, .int .i64 o1, .slice V o2.length e] 28))
 replace HS := Ak (Kd.S_below HS.out al)
 replace HB := Ak (below_step HB.out al)
 replace B1 := Ak (blk_below B1.out al)
 replace B2 := Ak (blk_below B2.out al)
 clear al m0 m1 m2 n0 n1 n2 f0 f1 f2 HN HF
 generalize W3.alloc (.cells #[.int .i64 o0, .int .i64 o1, .slice V o2.length e] 28) = W4 at B4 HS HB B1 B2 ⊢
 generalize W3.heap.size = g4 at B4 ⊢
 obtain ⟨m0, m1, m2⟩ := Qu3 B1.out
 obtain ⟨n0, n1, n2, f0, f1, f2⟩ := Qv3 B2.out
 obtain ⟨j0, j1, j2⟩ := Qu3 B4.out
 by_cases cu : u = true
 case neg =>
  rw [if_neg cu] at h
  simp only [Option.some.injEq, Prod.mk.injEq] at h
  obtain ⟨rfl, rfl, rfl, rfl⟩ := h
  rw [Bool.not_eq_true] at cu
  subst cu
  go_wp2_with ((go_at_call 21; with_reducible refine (impl_IsExpr.calls k o0 o1 V e o2 _ _ (Kd.R_reads' (kT_R HS.out)).2.2 (Kd.R_reads' (kT_R HS.out)).2.1 hu.out).mono ?_; rintro e W5 ⟨rfl, hd⟩); replace HS := Ak (Kd.S_below HS.out hd); replace B4 := Ak (blk_below B4.out hd); replace HB := Ak (below_step HB.out hd); replace B1 := Ak (blk_below B1.out hd); replace B2 := Ak (blk_below B2.out hd); clear m0 m1 m2 n0 n1 n2 f0 f1 f2; obtain ⟨m0, m1, m2⟩ := Qu3 B1.out; obtain ⟨n0, n1, n2, f0, f1, f2⟩ := Qv3 B2.out; clear hd j0 j1 j2; obtain ⟨j0, j1, j2⟩ := Qu3 B4.out)
  have hq := hq.out
  refine bodyPost_ret (results_ct rfl _ _ g2 28 #[.int .i64 0, .int .i64 0, .slice none 0 0] (0, 0) _ rfl (blk_put (cs := #[.int .i64 0, .int .i64 0, .slice none 0 0]) (blk_put (cs := #[.int .i64 0, .int .i64 0, .slice none 0 0]) (blk_put (cs := #[.int .i64 0, .int .i64 0, .slice none 0 0]) B2.out 0 _ rfl) 1 _ rfl) 2 _ rfl) hu28 rfl (by kernel_rfl)) rfl ?_
  exact ⟨_, rfl, Kd.S_nil _ _ _ _ _, ((HB.out.setCell (p := ⟨g2, 0, none⟩) hq _).setCell (p := ⟨g2, 1, none⟩) hq _).setCell (p := ⟨g2, 2, none⟩) hq _⟩
 rw [if_pos cu] at h
 subst cu
 simp only [Option.some.injEq, Prod.mk.injEq] at h
 obtain ⟨rfl, rfl, rfl, rfl⟩ := h
 go_wp2_with ((go_at_call 21; with_reducible refine (impl_IsExpr.calls k o0 o1 V e o2 _ _ (Kd.R_reads' (kT_R HS.out)).2.2 (Kd.R_reads' (kT_R HS.out)).2.1 hu.out).mono ?_; rintro e W5 ⟨rfl, hd⟩); replace HS := Ak (Kd.S_below HS.out hd); replace B4 := Ak (blk_below B4.out hd); replace HB := Ak (below_step HB.out hd); replace B1 := Ak (blk_below B1.out hd); replace B2 := Ak (blk_below B2.out hd); clear m0 m1 m2 n0 n1 n2 f0 f1 f2; obtain ⟨m0, m1, m2⟩ := Qu3 B1.out; obtain ⟨n0, n1, n2, f0, f1, f2⟩ := Qv3 B2.out; clear hd j0 j1 j2; obtain ⟨j0, j1, j2⟩ := Qu3 B4.out)
 have hq := hq.out
 refine bodyPost_ret (results_ct rfl _ _ g2 28 #[.int .i64 o0, .int .i64 o1, .slice V o2.length e] (0, 0) _ rfl (blk_put (cs := #[.int .i64 o0, .int .i64 o1, .slice none 0 0]) (blk_put (cs := #[.int .i64 o0, .int .i64 0, .slice none 0 0]) (blk_put (cs := #[.int .i64 0, .int .i64 0, .slice none 0 0]) B2.out 0 _ rfl) 1 _ rfl) 2 _ rfl) hu28 rfl (by kernel_rfl)) rfl ?_
 exact ⟨_, rfl, Kd.S_mono (Kd.S_far (p := ⟨g2, 2, none⟩) (Kd.S_far (p := ⟨g2, 1, none⟩) (Kd.S_far (p := ⟨g2, 0, none⟩) HS.out (fun _ hk => hk) _) (fun _ hk => hk) _) (fun _ hk => hk) _) (fun _ _ => trivial), ((HB.out.setCell (p := ⟨g2, 0, none⟩) hq _).setCell (p := ⟨g2, 1, none⟩) hq _).setCell (p := ⟨g2, 2, none⟩) hq _⟩

end Go.Proofs.Ythlagaopjmeaaaa.HFnExactNegateExpr

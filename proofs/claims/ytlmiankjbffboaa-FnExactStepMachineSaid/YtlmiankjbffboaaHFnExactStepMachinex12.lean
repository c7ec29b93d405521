/- Text for FnExactStepMachine: written by a program of this session on the pattern of the kit's print. -/
import Derived.Test.YtlmiankjbffboaaHFnExactStepMachinex0
import Derived.Test.YtlmiankjbffboaaHFnExactStepMachinex1
import Derived.Test.YtlmiankjbffboaaHFnExactStepMachinex6
import Derived.Test.YtlmiankjbffboaaHFnExactStepMachinex11
namespace Go.Proofs.Ytlmiankjbffboaa.HFnExactStepMachine
set_option maxHeartbeats 8000000
set_option maxRecDepth 100000
open Go.RowKit Go.Proofs.YtlmiankjbffboaaW.PrintWords Go.Proofs.YtlmiankjbffboaaW.PrintLast Go.Proofs.YtlmiankjbffboaaW.PrintMore
attribute [local go_sem] max2_int min2_int max_two min_two max_three min_three max_four min_four   -- for this text's walks alone
set_option linter.unusedVariables false
set_option linter.unusedSimpArgs false

/-! ### laws_markOpS: function 16 -/
def laws_markOpS.l0 : Nat → List (S48) → Int → Int → Option (Int × (List (S48)))
 | 0, _, _, _ => none
 | k + 1, x0, x1, x5 => if x5 < (x0.length : Int) then (if 0 ≤ x5 then ((some (x0.set (x5 : Int).toNat (⟨x1, (rd_T48 x0 x5).f1, (rd_T48 x0 x5).f2, (rd_T48 x0 x5).f3⟩ : S48) : List (S48))).bind fun y403 => ((some (y403.set (x5 : Int).toNat (⟨(rd_T48 y403 x5).f0, wrap64 (x1 + 1), (rd_T48 y403 x5).f2, (rd_T48 y403 x5).f3⟩ : S48) : List (S48))).bind fun y404 => ((some (y404.set (x5 : Int).toNat (⟨(rd_T48 y404 x5).f0, (rd_T48 y404 x5).f1, wrap64 ((wrap64 (x1 + 1)) + 1), (rd_T48 y404 x5).f3⟩ : S48) : List (S48))).bind fun y405 => (laws_markOpS.l0 k (y405.set (x5 : Int).toNat (⟨(rd_T48 y405 x5).f0, (rd_T48 y405 x5).f1, (rd_T48 y405 x5).f2, wrap64 ((wrap64 ((wrap64 (x1 + 1)) + 1)) + 1)⟩ : S48)) (wrap64 ((wrap64 ((wrap64 ((wrap64 (x1 + 1)) + 1)) + 1)) + 1)) (wrap64 (x5 + 1)))))) else (none)) else (some (x1, x0))
def laws_markOpS.f (k : Nat) (l0 : List (S48)) (a1 : Int) : Option (Int × (List (S48))) := laws_markOpS.l0 k l0 a1 0
theorem laws_markOpS.mono_l : ∀ k, (∀ y0 y1 y2, LeO (laws_markOpS.l0 k y0 y1 y2) (laws_markOpS.l0 (k + 1) y0 y1 y2))
 | 0 => fun _ _ _ r h => by simp [laws_markOpS.l0] at h
 | k + 1 => by
  have ih0 := laws_markOpS.mono_l k
  ·intro y0 y1 y2
   unfold laws_markOpS.l0
   repeat' first
   | (with_reducible exact ih0 _ _ _)
   | (with_reducible exact LeO.refl _)
   | (with_reducible exact LeO.none _)
   | (with_reducible refine LeO.ite ?_ ?_)
   | (with_reducible refine LeO.bind ?_ (fun _ => ?_))
   | exact ih0 _ _ _
   | exact LeO.none _
   | refine LeO.ite ?_ ?_
   | refine LeO.bind ?_ (fun _ => ?_)
theorem laws_markOpS.mono : ∀ a0 a1 k, LeO (laws_markOpS.f k a0 a1) (laws_markOpS.f (k + 1) a0 a1) := by
 intro a0 a1 k
 have ih0 := laws_markOpS.mono_l k
 unfold laws_markOpS.f
 repeat' first
   | (with_reducible exact ih0 _ _ _)
   | (with_reducible exact LeO.refl _)
   | (with_reducible exact LeO.none _)
   | (with_reducible refine LeO.ite ?_ ?_)
   | (with_reducible refine LeO.bind ?_ (fun _ => ?_))
   | exact ih0 _ _ _
   | exact LeO.none _
   | refine LeO.ite ?_ ?_
   | refine LeO.bind ?_ (fun _ => ?_)
theorem laws_markOpS.calls (k : Nat) (P0_ : Nat → Prop) (u9000_ : Value) (l0 : List (S48)) (a1 : Int) (r1 : Int) (r2 : List (S48)) (w0 w : World) (hB : Below w0.heap.size w0 w) (ho0 : Kd.R k48 48 w w0.heap.size P0_ u9000_ l0) (h : laws_markOpS.f k l0 a1 = some (r1, r2)) :
  Calls Try.prog 16 #[u9000_, .int .i64 a1] w fun e w' => e = .returned (.int .i64 r1) ∧ Kd.R k48 48 w' w0.heap.size (fun k_ => (P0_ k_ ∨ w.heap.size ≤ k_)) u9000_ r2 ∧ Below w0.heap.size w0 w' ∧ Kept w w' (fun k_ => P0_ k_) := by
 have HO0 := Ak (show Kd.R k48 48 w w0.heap.size (fun k_ => (P0_ k_ ∨ w.heap.size ≤ k_)) u9000_ l0 from Kd.R_mono ho0 (fun k_ hk => (.inl hk)))
 have HK := Ak (Kept.refl w (fun k_ => P0_ k_))
 have HW0 := Ak hB.size
 have HB := Ak hB
 clear hB
 have H : (laws_markOpS.l0 k l0 a1 0) = some (r1, r2) := h
 clear h
 have H' := Ak H
 clear H
 go_enter Try.func16, Try.ntmps16
 go_wp2
 go_loopg [1, 5] k (fun kq v1 v5 w' => ∃ (x0_1 : List (S48)) (x1_1 : Int) (x5_1 : Int), v1 = .int .i64 x1_1 ∧ v5 = .int .i64 x5_1 ∧ Aside0 (laws_markOpS.l0 kq x0_1 x1_1 x5_1 = some (r1, r2)) ∧ Aside0 (kq ≤ k) ∧ Aside0 (Kd.R k48 48 w' w0.heap.size (fun k_ => (P0_ k_ ∨ w.heap.size ≤ k_)) u9000_ x0_1) ∧ Aside0 (Kept w w' (fun k_ => P0_ k_)) ∧ Aside0 (Below w0.heap.size w0 w'))
 case atStart => exact ⟨(l0), (a1), (0), Qi, Qi, H', ⟨Nat.le_refl _⟩, ⟨by refine Qf ?_; exact HO0.out⟩, ⟨Qd HK.out⟩, ⟨Qb HB.out⟩⟩
 case round =>
  clear H'
  try clear c1
  try clear p2
  obtain ⟨x0_1, x1_1, x5_1, rfl, rfl, HA, HK1, HO_0, HK, HB⟩ := hrel
  cases gk with
  | zero => exact absurd HA.out (by simp [laws_markOpS.l0])
  | succ k1 =>
   have H := HA.out
   clear HA
   simp only [laws_markOpS.l0] at H
   by_cases c3 : x5_1 < (x0_1.length : Int)
   ·rw [if_pos c3] at H
    have c3b0 : decide (x5_1 < (x0_1.length : Int)) = true := decide_eq_true c3
    clear c3
    by_cases c4 : 0 ≤ x5_1
    ·rw [if_pos c4] at H
     have c4b0 : decide (0 ≤ x5_1) = true := decide_eq_true c4
     clear c4
     obtain ⟨y403, hy403⟩ : ∃ y_ : List (S48), y_ = (x0_1.set (x5_1 : Int).toNat (⟨x1_1, (rd_T48 x0_1 x5_1).f1, (rd_T48 x0_1 x5_1).f2, (rd_T48 x0_1 x5_1).f3⟩ : S48)) := ⟨_, rfl⟩
     replace H : ((some (y403.set (x5_1 : Int).toNat (⟨(rd_T48 y403 x5_1).f0, wrap64 (x1_1 + 1), (rd_T48 y403 x5_1).f2, (rd_T48 y403 x5_1).f3⟩ : S48) : List (S48))).bind fun y404 => ((some (y404.set (x5_1 : Int).toNat (⟨(rd_T48 y404 x5_1).f0, (rd_T48 y404 x5_1).f1, wrap64 ((wrap64 (x1_1 + 1)) + 1), (rd_T48 y404 x5_1).f3⟩ : S48) : List (S48))).bind fun y405 => (laws_markOpS.l0 k1 (y405.set (x5_1 : Int).toNat (⟨(rd_T48 y405 x5_1).f0, (rd_T48 y405 x5_1).f1, (rd_T48 y405 x5_1).f2, wrap64 ((wrap64 ((wrap64 (x1_1 + 1)) + 1)) + 1)⟩ : S48)) (wrap64 ((wrap64 ((wrap64 ((wrap64 (x1_1 + 1)) + 1)) + 1)) + 1)) (wrap64 (x5_1 + 1))))) = some (r1, r2) := by first | (rw [hy403]; with_reducible exact H) | (have H2_ := (Option.bind_some _ _).symm.trans H; rw [hy403]; with_reducible exact H2_) | (have H2_ := (Option.bind_some _ _).symm.trans H; with_reducible exact H2_) | with_reducible exact H | (rw [hy403]; exact H) | exact H
     have Ny403 := Ak hy403
     clear hy403
     obtain ⟨y404, hy404⟩ : ∃ y_ : List (S48), y_ = (y403.set (x5_1 : Int).toNat (⟨(rd_T48 y403 x5_1).f0, wrap64 (x1_1 + 1), (rd_T48 y403 x5_1).f2, (rd_T48 y403 x5_1).f3⟩ : S48)) := ⟨_, rfl⟩
     replace H : ((some (y404.set (x5_1 : Int).toNat (⟨(rd_T48 y404 x5_1).f0, (rd_T48 y404 x5_1).f1, wrap64 ((wrap64 (x1_1 + 1)) + 1), (rd_T48 y404 x5_1).f3⟩ : S48) : List (S48))).bind fun y405 => (laws_markOpS.l0 k1 (y405.set (x5_1 : Int).toNat (⟨(rd_T48 y405 x5_1).f0, (rd_T48 y405 x5_1).f1, (rd_T48 y405 x5_1).f2, wrap64 ((wrap64 ((wrap64 (x1_1 + 1)) + 1)) + 1)⟩ : S48)) (wrap64 ((wrap64 ((wrap64 ((wrap64 (x1_1 + 1)) + 1)) + 1)) + 1)) (wrap64 (x5_1 + 1)))) = some (r1, r2) := by first | (rw [hy404]; with_reducible exact H) | (have H2_ := (Option.bind_some _ _).symm.trans H; rw [hy404]; with_reducible exact H2_) | (have H2_ := (Option.bind_some _ _).symm.trans H; with_reducible exact H2_) | with_reducible exact H | (rw [hy404]; exact H) | exact H
     have Ny404 := Ak hy404
     clear hy404
     obtain ⟨y405, hy405⟩ : ∃ y_ : List (S48), y_ = (y404.set (x5_1 : Int).toNat (⟨(rd_T48 y404 x5_1).f0, (rd_T48 y404 x5_1).f1, wrap64 ((wrap64 (x1_1 + 1)) + 1), (rd_T48 y404 x5_1).f3⟩ : S48)) := ⟨_, rfl⟩
     replace H : (laws_markOpS.l0 k1 (y405.set (x5_1 : Int).toNat (⟨(rd_T48 y405 x5_1).f0, (rd_T48 y405 x5_1).f1, (rd_T48 y405 x5_1).f2, wrap64 ((wrap64 ((wrap64 (x1_1 + 1)) + 1)) + 1)⟩ : S48)) (wrap64 ((wrap64 ((wrap64 ((wrap64 (x1_1 + 1)) + 1)) + 1)) + 1)) (wrap64 (x5_1 + 1))) = some (r1, r2) := by first | (rw [hy405]; with_reducible exact H) | (have H2_ := (Option.bind_some _ _).symm.trans H; rw [hy405]; with_reducible exact H2_) | (have H2_ := (Option.bind_some _ _).symm.trans H; with_reducible exact H2_) | with_reducible exact H | (rw [hy405]; exact H) | exact H
     have Ny405 := Ak hy405
     clear hy405
     obtain ⟨y406, hy406⟩ : ∃ y_ : List (S48), y_ = (y405.set (x5_1 : Int).toNat (⟨(rd_T48 y405 x5_1).f0, (rd_T48 y405 x5_1).f1, (rd_T48 y405 x5_1).f2, wrap64 ((wrap64 ((wrap64 (x1_1 + 1)) + 1)) + 1)⟩ : S48)) := ⟨_, rfl⟩
     replace H : (laws_markOpS.l0 k1 y406 (wrap64 ((wrap64 ((wrap64 ((wrap64 (x1_1 + 1)) + 1)) + 1)) + 1)) (wrap64 (x5_1 + 1))) = some (r1, r2) := by first | (rw [hy406]; with_reducible exact H) | (have H2_ := (Option.bind_some _ _).symm.trans H; rw [hy406]; with_reducible exact H2_) | (have H2_ := (Option.bind_some _ _).symm.trans H; with_reducible exact H2_) | with_reducible exact H | (rw [hy406]; exact H) | exact H
     have Ny406 := Ak hy406
     clear hy406
     have H' := Ak H
     clear H
     obtain ⟨Ao9, co9, eo9⟩ := Kd.R_slice HO_0.out
     subst eo9
     have p5 : 0 ≤ (x5_1 : Int) := Qg
     have q5 : (x5_1 : Int) < ((x0_1.length : Int) : Int) := Qg
     obtain ⟨go5, co5, eo5, gb5, gl5, cl5, HG5⟩ := Kd.R_form HO_0.out (by omega)
     (first | cases eo5 | (injection eo5 with ea_ en_ ec_; (first | subst ea_ | (injection ea_ with ea_; subst ea_)); subst ec_; clear en_))
     have GB5 := Ak gb5
     have GG5 := Ak HG5
     clear gb5 gl5 HG5
     have HMgo5 := Ak (show (P0_ go5 ∨ w.heap.size ≤ go5) from (HO_0.out.1 _ rfl))
     obtain ⟨ce5, hcl5, hM5, hcc5, hfr5⟩ := Kd.R_elem HO_0.out z48 (x5_1 : Int) p5 q5
     obtain rfl := k48_openM hM5
     have hx5_0 : wr.cell? ⟨go5, (x5_1 : Int).toNat * 4, none⟩ = some (.int .i64 ((rd_T48 x0_1 x5_1).f0)) := hcc5 0 _ rfl
     have hx5_1 : wr.cell? ⟨go5, (x5_1 : Int).toNat * 4 + 1, none⟩ = some (.int .i64 ((rd_T48 x0_1 x5_1).f1)) := hcc5 1 _ rfl
     have hx5_2 : wr.cell? ⟨go5, (x5_1 : Int).toNat * 4 + 2, none⟩ = some (.int .i64 ((rd_T48 x0_1 x5_1).f2)) := hcc5 2 _ rfl
     have hx5_3 : wr.cell? ⟨go5, (x5_1 : Int).toNat * 4 + 3, none⟩ = some (.int .i64 ((rd_T48 x0_1 x5_1).f3)) := hcc5 3 _ rfl
     have hf5_0 : wr.frozen? ⟨go5, (x5_1 : Int).toNat * 4, none⟩ = false := hfr5 0
     have hf5_1 : wr.frozen? ⟨go5, (x5_1 : Int).toNat * 4 + 1, none⟩ = false := hfr5 1
     have hf5_2 : wr.frozen? ⟨go5, (x5_1 : Int).toNat * 4 + 2, none⟩ = false := hfr5 2
     have hf5_3 : wr.frozen? ⟨go5, (x5_1 : Int).toNat * 4 + 3, none⟩ = false := hfr5 3
     (try clear hcl5); (try clear hcc5); (try clear hfr5); (try clear hM5)
     replace p5 := eq_true p5
     replace q5 := eq_true q5
     have HX10 := Ak (show Kd.R k48 48 wr w0.heap.size (fun k_ => (P0_ k_ ∨ w.heap.size ≤ k_)) (.slice (some ⟨go5, 0, none⟩) x0_1.length co9) x0_1 from (Qc HO_0.out))
     obtain ⟨ce10, hcl10, hM10, hcc10, hfr10⟩ := Kd.R_elem HX10.out z48 (x5_1 : Int) (Qg) (by have h_ : (x5_1 : Int) < ((x0_1.length : Int) : Int) := Qg; first | exact h_ | (have e_ := (Kd.R_reads' HO_0.out).1; omega) | simpa using h_)
     obtain rfl := k48_openM hM10
     have HP10 := Kd.R_seg HX10.out (x5_1 : Int) (Qg) (by have h_ : (x5_1 : Int) < ((x0_1.length : Int) : Int) := Qg; first | exact h_ | (have e_ := (Kd.R_reads' HO_0.out).1; omega) | simpa using h_) (seg := [.int .i64 x1_1]) (j := 0) hcl10 hcc10 (show 1 ≤ 4 from by decide) (x' := (⟨x1_1, (rd_T48 x0_1 x5_1).f1, (rd_T48 x0_1 x5_1).f2, (rd_T48 x0_1 x5_1).f3⟩ : S48)) (k48_mkM _ _ _ (⟨x1_1, (rd_T48 x0_1 x5_1).f1, (rd_T48 x0_1 x5_1).f2, (rd_T48 x0_1 x5_1).f3⟩ : S48) ) (fun _ hk => hk)
     have hx10_0 := hcc10 0 _ rfl
     (try simp only [show (k48).sz = 4 from rfl, Nat.mul_one, Nat.add_zero] at hx10_0)
     have hf10_0 := hfr10 0
     (try simp only [show (k48).sz = 4 from rfl, Nat.mul_one, Nat.add_zero] at hf10_0)
     (try clear hcl10); (try clear hcc10); (try clear hfr10); (try clear hM10)
     go_wp2_with (first | ((with_reducible refine gate_store (t := 3) (p := 16) rfl ?_); refine store_event (t := 3) (p := 16) (v := ?vo_w11) (w1 := (wr.setCell ⟨go5, (x5_1 : Int).toNat * 4, none⟩ (.int .i64 x1_1))) ?hg ?ho ?hn ?hr ?_; (case ho => rfl); (case hg => rfl); (case hn => rfl); (case hr => first | (go_simp; done) | (go_simp; rfl)); intro w11 hw; have hg : wr.grownBy w11 (some go5) := (by rw [hw]; exact HP10.2); have hp_ : Kd.R k48 48 w11 w0.heap.size (fun k_ => (P0_ k_ ∨ w.heap.size ≤ k_)) (.slice (some ⟨go5, 0, none⟩) x0_1.length co9) y403 := (by rw [hw, Ny403.out]; exact HP10.1); clear HP10; have n0_ := Ak (hp_); have n1_ := Ak ((by rw [hw]; exact below_set (HB.out) GB5.out : Below w0.heap.size w0 w11)); have n2_ := Ak (Kept.of_grown (S := (fun k_ => P0_ k_)) hg (Qd HK.out) (fun k_ e_ => (HO_0.out.1 k_ e_))); clear HO_0; clear HB; clear HK; have HO_0 := n0_; have HB := n1_; have HK := n2_; clear n0_ n1_ n2_; clear hg hw hp_; have p6 : 0 ≤ (x5_1 : Int) := Qg; have q6 : (x5_1 : Int) < ((x0_1.length : Int) : Int) := Qg; obtain ⟨ce6, hcl6, hM6, hcc6, hfr6⟩ := Kd.R_elem HO_0.out z48 (x5_1 : Int) p6 q6; obtain rfl := k48_openM hM6; have hx6_0 : w11.cell? ⟨go5, (x5_1 : Int).toNat * 4, none⟩ = some (.int .i64 ((rd_T48 y403 x5_1).f0)) := hcc6 0 _ rfl; have hx6_1 : w11.cell? ⟨go5, (x5_1 : Int).toNat * 4 + 1, none⟩ = some (.int .i64 ((rd_T48 y403 x5_1).f1)) := hcc6 1 _ rfl; have hx6_2 : w11.cell? ⟨go5, (x5_1 : Int).toNat * 4 + 2, none⟩ = some (.int .i64 ((rd_T48 y403 x5_1).f2)) := hcc6 2 _ rfl; have hx6_3 : w11.cell? ⟨go5, (x5_1 : Int).toNat * 4 + 3, none⟩ = some (.int .i64 ((rd_T48 y403 x5_1).f3)) := hcc6 3 _ rfl; have hf6_0 : w11.frozen? ⟨go5, (x5_1 : Int).toNat * 4, none⟩ = false := hfr6 0; have hf6_1 : w11.frozen? ⟨go5, (x5_1 : Int).toNat * 4 + 1, none⟩ = false := hfr6 1; have hf6_2 : w11.frozen? ⟨go5, (x5_1 : Int).toNat * 4 + 2, none⟩ = false := hfr6 2; have hf6_3 : w11.frozen? ⟨go5, (x5_1 : Int).toNat * 4 + 3, none⟩ = false := hfr6 3; (try clear hcl6); (try clear hcc6); (try clear hfr6); (try clear hM6); replace p6 := eq_true p6; replace q6 := eq_true q6; have HX12 := Ak (show Kd.R k48 48 w11 w0.heap.size (fun k_ => (P0_ k_ ∨ w.heap.size ≤ k_)) (.slice (some ⟨go5, 0, none⟩) x0_1.length co9) y403 from (Qc HO_0.out)); obtain ⟨ce12, hcl12, hM12, hcc12, hfr12⟩ := Kd.R_elem HX12.out z48 (x5_1 : Int) (Qg) (by have h_ : (x5_1 : Int) < ((x0_1.length : Int) : Int) := Qg; first | exact h_ | (have e_ := (Kd.R_reads' HO_0.out).1; omega) | simpa using h_); obtain rfl := k48_openM hM12; have HP12 := Kd.R_seg HX12.out (x5_1 : Int) (Qg) (by have h_ : (x5_1 : Int) < ((x0_1.length : Int) : Int) := Qg; first | exact h_ | (have e_ := (Kd.R_reads' HO_0.out).1; omega) | simpa using h_) (seg := [.int .i64 (wrap64 (x1_1 + 1))]) (j := 1) hcl12 hcc12 (show 2 ≤ 4 from by decide) (x' := (⟨(rd_T48 y403 x5_1).f0, wrap64 (x1_1 + 1), (rd_T48 y403 x5_1).f2, (rd_T48 y403 x5_1).f3⟩ : S48)) (k48_mkM _ _ _ (⟨(rd_T48 y403 x5_1).f0, wrap64 (x1_1 + 1), (rd_T48 y403 x5_1).f2, (rd_T48 y403 x5_1).f3⟩ : S48) ) (fun _ hk => hk); have hx12_1 := hcc12 1 _ rfl; (try simp only [show (k48).sz = 4 from rfl, Nat.mul_one, Nat.add_zero] at hx12_1); have hf12_1 := hfr12 1; (try simp only [show (k48).sz = 4 from rfl, Nat.mul_one, Nat.add_zero] at hf12_1); (try clear hcl12); (try clear hcc12); (try clear hfr12); (try clear hM12)) | ((with_reducible refine gate_store (t := 3) (p := 23) rfl ?_); refine store_event (t := 3) (p := 23) (v := ?vo_w13) (w1 := (w11.setCell ⟨go5, (x5_1 : Int).toNat * 4 + 1, none⟩ (.int .i64 (wrap64 (x1_1 + 1))))) ?hg ?ho ?hn ?hr ?_; (case ho => rfl); (case hg => rfl); (case hn => rfl); (case hr => first | (go_simp; done) | (go_simp; rfl)); intro w13 hw; have hg : w11.grownBy w13 (some go5) := (by rw [hw]; exact HP12.2); have hp_ : Kd.R k48 48 w13 w0.heap.size (fun k_ => (P0_ k_ ∨ w.heap.size ≤ k_)) (.slice (some ⟨go5, 0, none⟩) x0_1.length co9) y404 := (by rw [hw, Ny404.out]; exact HP12.1); clear HP12; have n0_ := Ak (hp_); have n1_ := Ak ((by rw [hw]; exact below_set (HB.out) GB5.out : Below w0.heap.size w0 w13)); have n2_ := Ak (Kept.of_grown (S := (fun k_ => P0_ k_)) hg (Qd HK.out) (fun k_ e_ => (HO_0.out.1 k_ e_))); clear HO_0; clear HB; clear HK; have HO_0 := n0_; have HB := n1_; have HK := n2_; clear n0_ n1_ n2_; clear hg hw hp_; have p7 : 0 ≤ (x5_1 : Int) := Qg; have q7 : (x5_1 : Int) < ((x0_1.length : Int) : Int) := Qg; obtain ⟨ce7, hcl7, hM7, hcc7, hfr7⟩ := Kd.R_elem HO_0.out z48 (x5_1 : Int) p7 q7; obtain rfl := k48_openM hM7; have hx7_0 : w13.cell? ⟨go5, (x5_1 : Int).toNat * 4, none⟩ = some (.int .i64 ((rd_T48 y404 x5_1).f0)) := hcc7 0 _ rfl; have hx7_1 : w13.cell? ⟨go5, (x5_1 : Int).toNat * 4 + 1, none⟩ = some (.int .i64 ((rd_T48 y404 x5_1).f1)) := hcc7 1 _ rfl; have hx7_2 : w13.cell? ⟨go5, (x5_1 : Int).toNat * 4 + 2, none⟩ = some (.int .i64 ((rd_T48 y404 x5_1).f2)) := hcc7 2 _ rfl; have hx7_3 : w13.cell? ⟨go5, (x5_1 : Int).toNat * 4 + 3, none⟩ = some (.int .i64 ((rd_T48 y404 x5_1).f3)) := hcc7 3 _ rfl; have hf7_0 : w13.frozen? ⟨go5, (x5_1 : Int).toNat * 4, none⟩ = false := hfr7 0; have hf7_1 : w13.frozen? ⟨go5, (x5_1 : Int).toNat * 4 + 1, none⟩ = false := hfr7 1; have hf7_2 : w13.frozen? ⟨go5, (x5_1 : Int).toNat * 4 + 2, none⟩ = false := hfr7 2; have hf7_3 : w13.frozen? ⟨go5, (x5_1 : Int).toNat * 4 + 3, none⟩ = false := hfr7 3; (try clear hcl7); (try clear hcc7); (try clear hfr7); (try clear hM7); replace p7 := eq_true p7; replace q7 := eq_true q7; have HX14 := Ak (show Kd.R k48 48 w13 w0.heap.size (fun k_ => (P0_ k_ ∨ w.heap.size ≤ k_)) (.slice (some ⟨go5, 0, none⟩) x0_1.length co9) y404 from (Qc HO_0.out)); obtain ⟨ce14, hcl14, hM14, hcc14, hfr14⟩ := Kd.R_elem HX14.out z48 (x5_1 : Int) (Qg) (by have h_ : (x5_1 : Int) < ((x0_1.length : Int) : Int) := Qg; first | exact h_ | (have e_ := (Kd.R_reads' HO_0.out).1; omega) | simpa using h_); obtain rfl := k48_openM hM14; have HP14 := Kd.R_seg HX14.out (x5_1 : Int) (Qg) (by have h_ : (x5_1 : Int) < ((x0_1.length : Int) : Int) := Qg; first | exact h_ | (have e_ := (Kd.R_reads' HO_0.out).1; omega) | simpa using h_) (seg := [.int .i64 (wrap64 ((wrap64 (x1_1 + 1)) + 1))]) (j := 2) hcl14 hcc14 (show 3 ≤ 4 from by decide) (x' := (⟨(rd_T48 y404 x5_1).f0, (rd_T48 y404 x5_1).f1, wrap64 ((wrap64 (x1_1 + 1)) + 1), (rd_T48 y404 x5_1).f3⟩ : S48)) (k48_mkM _ _ _ (⟨(rd_T48 y404 x5_1).f0, (rd_T48 y404 x5_1).f1, wrap64 ((wrap64 (x1_1 + 1)) + 1), (rd_T48 y404 x5_1).f3⟩ : S48) ) (fun _ hk => hk); have hx14_2 := hcc14 2 _ rfl; (try simp only [show (k48).sz = 4 from rfl, Nat.mul_one, Nat.add_zero] at hx14_2); have hf14_2 := hfr14 2; (try simp only [show (k48).sz = 4 from rfl, Nat.mul_one, Nat.add_zero] at hf14_2); (try clear hcl14); (try clear hcc14); (try clear hfr14); (try clear hM14)) | ((with_reducible refine gate_store (t := 3) (p := 30) rfl ?_); refine store_event (t := 3) (p := 30) (v := ?vo_w15) (w1 := (w13.setCell ⟨go5, (x5_1 : Int).toNat * 4 + 2, none⟩ (.int .i64 (wrap64 ((wrap64 (x1_1 + 1)) + 1))))) ?hg ?ho ?hn ?hr ?_; (case ho => rfl); (case hg => rfl); (case hn => rfl); (case hr => first | (go_simp; done) | (go_simp; rfl)); intro w15 hw; have hg : w13.grownBy w15 (some go5) := (by rw [hw]; exact HP14.2); have hp_ : Kd.R k48 48 w15 w0.heap.size (fun k_ => (P0_ k_ ∨ w.heap.size ≤ k_)) (.slice (some ⟨go5, 0, none⟩) x0_1.length co9) y405 := (by rw [hw, Ny405.out]; exact HP14.1); clear HP14; have n0_ := Ak (hp_); have n1_ := Ak ((by rw [hw]; exact below_set (HB.out) GB5.out : Below w0.heap.size w0 w15)); have n2_ := Ak (Kept.of_grown (S := (fun k_ => P0_ k_)) hg (Qd HK.out) (fun k_ e_ => (HO_0.out.1 k_ e_))); clear HO_0; clear HB; clear HK; have HO_0 := n0_; have HB := n1_; have HK := n2_; clear n0_ n1_ n2_; clear hg hw hp_; have p8 : 0 ≤ (x5_1 : Int) := Qg; have q8 : (x5_1 : Int) < ((x0_1.length : Int) : Int) := Qg; obtain ⟨ce8, hcl8, hM8, hcc8, hfr8⟩ := Kd.R_elem HO_0.out z48 (x5_1 : Int) p8 q8; obtain rfl := k48_openM hM8; have hx8_0 : w15.cell? ⟨go5, (x5_1 : Int).toNat * 4, none⟩ = some (.int .i64 ((rd_T48 y405 x5_1).f0)) := hcc8 0 _ rfl; have hx8_1 : w15.cell? ⟨go5, (x5_1 : Int).toNat * 4 + 1, none⟩ = some (.int .i64 ((rd_T48 y405 x5_1).f1)) := hcc8 1 _ rfl; have hx8_2 : w15.cell? ⟨go5, (x5_1 : Int).toNat * 4 + 2, none⟩ = some (.int .i64 ((rd_T48 y405 x5_1).f2)) := hcc8 2 _ rfl; have hx8_3 : w15.cell? ⟨go5, (x5_1 : Int).toNat * 4 + 3, none⟩ = some (.int .i64 ((rd_T48 y405 x5_1).f3)) := hcc8 3 _ rfl; have hf8_0 : w15.frozen? ⟨go5, (x5_1 : Int).toNat * 4, none⟩ = false := hfr8 0; have hf8_1 : w15.frozen? ⟨go5, (x5_1 : Int).toNat * 4 + 1, none⟩ = false := hfr8 1; have hf8_2 : w15.frozen? ⟨go5, (x5_1 : Int).toNat * 4 + 2, none⟩ = false := hfr8 2; have hf8_3 : w15.frozen? ⟨go5, (x5_1 : Int).toNat * 4 + 3, none⟩ = false := hfr8 3; (try clear hcl8); (try clear hcc8); (try clear hfr8); (try clear hM8); replace p8 := eq_true p8; replace q8 := eq_true q8; have HX16 := Ak (show Kd.R k48 48 w15 w0.heap.size (fun k_ => (P0_ k_ ∨ w.heap.size ≤ k_)) (.slice (some ⟨go5, 0, none⟩) x0_1.length co9) y405 from (Qc HO_0.out)); obtain ⟨ce16, hcl16, hM16, hcc16, hfr16⟩ := Kd.R_elem HX16.out z48 (x5_1 : Int) (Qg) (by have h_ : (x5_1 : Int) < ((x0_1.length : Int) : Int) := Qg; first | exact h_ | (have e_ := (Kd.R_reads' HO_0.out).1; omega) | simpa using h_); obtain rfl := k48_openM hM16; have HP16 := Kd.R_seg HX16.out (x5_1 : Int) (Qg) (by have h_ : (x5_1 : Int) < ((x0_1.length : Int) : Int) := Qg; first | exact h_ | (have e_ := (Kd.R_reads' HO_0.out).1; omega) | simpa using h_) (seg := [.int .i64 (wrap64 ((wrap64 ((wrap64 (x1_1 + 1)) + 1)) + 1))]) (j := 3) hcl16 hcc16 (show 4 ≤ 4 from by decide) (x' := (⟨(rd_T48 y405 x5_1).f0, (rd_T48 y405 x5_1).f1, (rd_T48 y405 x5_1).f2, wrap64 ((wrap64 ((wrap64 (x1_1 + 1)) + 1)) + 1)⟩ : S48)) (k48_mkM _ _ _ (⟨(rd_T48 y405 x5_1).f0, (rd_T48 y405 x5_1).f1, (rd_T48 y405 x5_1).f2, wrap64 ((wrap64 ((wrap64 (x1_1 + 1)) + 1)) + 1)⟩ : S48) ) (fun _ hk => hk); have hx16_3 := hcc16 3 _ rfl; (try simp only [show (k48).sz = 4 from rfl, Nat.mul_one, Nat.add_zero] at hx16_3); have hf16_3 := hfr16 3; (try simp only [show (k48).sz = 4 from rfl, Nat.mul_one, Nat.add_zero] at hf16_3); (try clear hcl16); (try clear hcc16); (try clear hfr16); (try clear hM16)) | ((with_reducible refine gate_store (t := 3) (p := 37) rfl ?_); refine store_event (t := 3) (p := 37) (v := ?vo_w17) (w1 := (w15.setCell ⟨go5, (x5_1 : Int).toNat * 4 + 3, none⟩ (.int .i64 (wrap64 ((wrap64 ((wrap64 (x1_1 + 1)) + 1)) + 1))))) ?hg ?ho ?hn ?hr ?_; (case ho => rfl); (case hg => rfl); (case hn => rfl); (case hr => first | (go_simp; done) | (go_simp; rfl)); intro w17 hw; have hg : w15.grownBy w17 (some go5) := (by rw [hw]; exact HP16.2); have hp_ : Kd.R k48 48 w17 w0.heap.size (fun k_ => (P0_ k_ ∨ w.heap.size ≤ k_)) (.slice (some ⟨go5, 0, none⟩) x0_1.length co9) y406 := (by rw [hw, Ny406.out]; exact HP16.1); clear HP16; have n0_ := Ak (hp_); have n1_ := Ak ((by rw [hw]; exact below_set (HB.out) GB5.out : Below w0.heap.size w0 w17)); have n2_ := Ak (Kept.of_grown (S := (fun k_ => P0_ k_)) hg (Qd HK.out) (fun k_ e_ => (HO_0.out.1 k_ e_))); clear HO_0; clear HB; clear HK; have HO_0 := n0_; have HB := n1_; have HK := n2_; clear n0_ n1_ n2_; clear hg hw hp_))
     go_roundg k1
     case measure => have := HK1.out; omega
     case rel => exact ⟨(y406), (wrap64 ((wrap64 ((wrap64 ((wrap64 (x1_1 + 1)) + 1)) + 1)) + 1)), (wrap64 (x5_1 + 1)), Qi, Qi, H', ⟨by have := HK1.out; omega⟩, ⟨by refine Qf ?_; exact HO_0.out⟩, ⟨Qd HK.out⟩, ⟨Qb HB.out⟩⟩
    ·rw [if_neg c4] at H
     exact absurd H (by simp)
   ·rw [if_neg c3] at H
    have c3b0 : decide (x5_1 < (x0_1.length : Int)) = false := decide_eq_false c3
    clear c3
    simp only [Option.some.injEq, Prod.mk.injEq] at H
    obtain ⟨rfl, rfl⟩ := H
    obtain ⟨Ao18, co18, eo18⟩ := Kd.R_slice HO_0.out
    subst eo18
    go_wp2
    go_ret
    exact ⟨Qh, by refine Qf ?_; exact HO_0.out, Qb HB.out, Qd HK.out⟩

/-! ### laws_markIntS: function 46 -/
def laws_markIntS.l0 : Nat → List Int → Int → Int → Option (Int × List Int)
 | 0, _, _, _ => none
 | k + 1, x0, x1, x5 => if x5 < (x0.length : Int) then (if 0 ≤ x5 then (laws_markIntS.l0 k (x0.set (x5 : Int).toNat x1) (wrap64 (x1 + 1)) (wrap64 (x5 + 1))) else (none)) else (some (x1, x0))
def laws_markIntS.f (k : Nat) (l0 : List Int) (a1 : Int) : Option (Int × List Int) := laws_markIntS.l0 k l0 a1 0
theorem laws_markIntS.mono_l : ∀ k, (∀ y0 y1 y2, LeO (laws_markIntS.l0 k y0 y1 y2) (laws_markIntS.l0 (k + 1) y0 y1 y2))
 | 0 => fun _ _ _ r h => by simp [laws_markIntS.l0] at h
 | k + 1 => by
  have ih0 := laws_markIntS.mono_l k
  ·intro y0 y1 y2
   unfold laws_markIntS.l0
   repeat' first
   | (with_reducible exact ih0 _ _ _)
   | (with_reducible exact LeO.refl _)
   | (with_reducible exact LeO.none _)
   | (with_reducible refine LeO.ite ?_ ?_)
   | (with_reducible refine LeO.bind ?_ (fun _ => ?_))
   | exact ih0 _ _ _
   | exact LeO.none _
   | refine LeO.ite ?_ ?_
   | refine LeO.bind ?_ (fun _ => ?_)
theorem laws_markIntS.mono : ∀ a0 a1 k, LeO (laws_markIntS.f k a0 a1) (laws_markIntS.f (k + 1) a0 a1) := by
 intro a0 a1 k
 have ih0 := laws_markIntS.mono_l k
 unfold laws_markIntS.f
 repeat' first
   | (with_reducible exact ih0 _ _ _)
   | (with_reducible exact LeO.refl _)
   | (with_reducible exact LeO.none _)
   | (with_reducible refine LeO.ite ?_ ?_)
   | (with_reducible refine LeO.bind ?_ (fun _ => ?_))
   | exact ih0 _ _ _
   | exact LeO.none _
   | refine LeO.ite ?_ ?_
   | refine LeO.bind ?_ (fun _ => ?_)
theorem laws_markIntS.calls (k : Nat) (P0_ : Nat → Prop) (u9000_ : Value) (l0 : List Int) (a1 : Int) (r1 : Int) (r2 : List Int) (w0 w : World) (hB : Below w0.heap.size w0 w) (ho0 : Kd.R (Kd.int .i64) 3 w w0.heap.size P0_ u9000_ l0) (h : laws_markIntS.f k l0 a1 = some (r1, r2)) :
  Calls Try.prog 46 #[u9000_, .int .i64 a1] w fun e w' => e = .returned (.int .i64 r1) ∧ Kd.R (Kd.int .i64) 3 w' w0.heap.size (fun k_ => (P0_ k_ ∨ w.heap.size ≤ k_)) u9000_ r2 ∧ Below w0.heap.size w0 w' ∧ Kept w w' (fun k_ => P0_ k_) := by
 have HO0 := Ak (show Kd.R (Kd.int .i64) 3 w w0.heap.size (fun k_ => (P0_ k_ ∨ w.heap.size ≤ k_)) u9000_ l0 from Kd.R_mono ho0 (fun k_ hk => (.inl hk)))
 have HK := Ak (Kept.refl w (fun k_ => P0_ k_))
 have HW0 := Ak hB.size
 have HB := Ak hB
 clear hB
 have H : (laws_markIntS.l0 k l0 a1 0) = some (r1, r2) := h
 clear h
 have H' := Ak H
 clear H
 go_enter Try.func46, Try.ntmps46
 go_wp2
 go_loopg [1, 5] k (fun kq v1 v5 w' => ∃ (x0_1 : List Int) (x1_1 : Int) (x5_1 : Int), v1 = .int .i64 x1_1 ∧ v5 = .int .i64 x5_1 ∧ Aside0 (laws_markIntS.l0 kq x0_1 x1_1 x5_1 = some (r1, r2)) ∧ Aside0 (kq ≤ k) ∧ Aside0 (Kd.R (Kd.int .i64) 3 w' w0.heap.size (fun k_ => (P0_ k_ ∨ w.heap.size ≤ k_)) u9000_ x0_1) ∧ Aside0 (Kept w w' (fun k_ => P0_ k_)) ∧ Aside0 (Below w0.heap.size w0 w'))
 case atStart => exact ⟨(l0), (a1), (0), Qi, Qi, H', ⟨Nat.le_refl _⟩, ⟨by refine Qf ?_; exact HO0.out⟩, ⟨Qd HK.out⟩, ⟨Qb HB.out⟩⟩
 case round =>
  clear H'
  try clear p2
  obtain ⟨x0_1, x1_1, x5_1, rfl, rfl, HA, HK1, HO_0, HK, HB⟩ := hrel
  cases gk with
  | zero => exact absurd HA.out (by simp [laws_markIntS.l0])
  | succ k1 =>
   have H := HA.out
   clear HA
   simp only [laws_markIntS.l0] at H
   by_cases c3 : x5_1 < (x0_1.length : Int)
   ·rw [if_pos c3] at H
    have c3b0 : decide (x5_1 < (x0_1.length : Int)) = true := decide_eq_true c3
    clear c3
    by_cases c4 : 0 ≤ x5_1
    ·rw [if_pos c4] at H
     have c4b0 : decide (0 ≤ x5_1) = true := decide_eq_true c4
     clear c4
     obtain ⟨y407, hy407⟩ : ∃ y_ : List Int, y_ = (x0_1.set (x5_1 : Int).toNat x1_1) := ⟨_, rfl⟩
     replace H : (laws_markIntS.l0 k1 y407 (wrap64 (x1_1 + 1)) (wrap64 (x5_1 + 1))) = some (r1, r2) := by first | (rw [hy407]; with_reducible exact H) | (have H2_ := (Option.bind_some _ _).symm.trans H; rw [hy407]; with_reducible exact H2_) | (have H2_ := (Option.bind_some _ _).symm.trans H; with_reducible exact H2_) | with_reducible exact H | (rw [hy407]; exact H) | exact H
     have Ny407 := Ak hy407
     clear hy407
     have H' := Ak H
     clear H
     obtain ⟨Ao6, co6, eo6⟩ := Kd.R_slice HO_0.out
     subst eo6
     have p5 : 0 ≤ (x5_1 : Int) := Qg
     have q5 : (x5_1 : Int) < ((x0_1.length : Int) : Int) := Qg
     obtain ⟨go5, co5, eo5, gb5, gl5, cl5, HG5⟩ := Kd.R_form HO_0.out (by omega)
     (first | cases eo5 | (injection eo5 with ea_ en_ ec_; (first | subst ea_ | (injection ea_ with ea_; subst ea_)); subst ec_; clear en_))
     have GB5 := Ak gb5
     have GG5 := Ak HG5
     clear gb5 gl5 HG5
     have HMgo5 := Ak (show (P0_ go5 ∨ w.heap.size ≤ go5) from (HO_0.out.1 _ rfl))
     obtain ⟨hx5_0, hf5_0⟩ := Kd.R_celln 0 HO_0.out (x5_1 : Int) p5 q5
     replace p5 := eq_true p5
     replace q5 := eq_true q5
     have HP7 := Kd.R_putg HO_0.out (x5_1 : Int) x1_1
     go_wp2_with (first | ((with_reducible refine gate_store (t := 3) (p := 15) rfl ?_); refine store_event (t := 3) (p := 15) (v := ?vo_w8) (w1 := (wr.setCell ⟨go5, (x5_1 : Int).toNat, none⟩ (.int .i64 x1_1))) ?hg ?ho ?hn ?hr ?_; (case ho => rfl); (case hg => rfl); (case hn => rfl); (case hr => first | (go_simp; done) | (go_simp; rfl)); intro w8 hw; have hg : wr.grownBy w8 (some go5) := (by rw [hw]; exact HP7.2); have hp_ : Kd.R (Kd.int .i64) 3 w8 w0.heap.size (fun k_ => (P0_ k_ ∨ w.heap.size ≤ k_)) (.slice (some ⟨go5, 0, none⟩) x0_1.length co6) y407 := (by rw [hw, Ny407.out]; exact HP7.1); clear HP7; have n0_ := Ak (hp_); have n1_ := Ak ((by rw [hw]; exact below_set (HB.out) GB5.out : Below w0.heap.size w0 w8)); have n2_ := Ak (Kept.of_grown (S := (fun k_ => P0_ k_)) hg (Qd HK.out) (fun k_ e_ => (HO_0.out.1 k_ e_))); clear HO_0; clear HB; clear HK; have HO_0 := n0_; have HB := n1_; have HK := n2_; clear n0_ n1_ n2_; clear hg hw hp_))
     go_roundg k1
     case measure => have := HK1.out; omega
     case rel => exact ⟨(y407), (wrap64 (x1_1 + 1)), (wrap64 (x5_1 + 1)), Qi, Qi, H', ⟨by have := HK1.out; omega⟩, ⟨by refine Qf ?_; exact HO_0.out⟩, ⟨Qd HK.out⟩, ⟨Qb HB.out⟩⟩
    ·rw [if_neg c4] at H
     exact absurd H (by simp)
   ·rw [if_neg c3] at H
    have c3b0 : decide (x5_1 < (x0_1.length : Int)) = false := decide_eq_false c3
    clear c3
    simp only [Option.some.injEq, Prod.mk.injEq] at H
    obtain ⟨rfl, rfl⟩ := H
    obtain ⟨Ao9, co9, eo9⟩ := Kd.R_slice HO_0.out
    subst eo9
    go_wp2
    go_ret
    exact ⟨Qh, by refine Qf ?_; exact HO_0.out, Qb HB.out, Qd HK.out⟩

/-! ### laws_markMachine: function 17 -/
def laws_markMachine.f (k : Nat) (a0_0 : Int) (l0_1 : List Int) (l0_2 : List Int) (a1 : Int) : Option (Int × List Int × List Int) := (laws_markIntS.f k l0_1 a1).bind fun bt409 => ((laws_markIntS.f k l0_2 bt409.1).bind fun bt411 => (some (bt411.1, bt409.2, bt411.2)))
theorem laws_markMachine.mono : ∀ a0 a1 a2 a3 k, LeO (laws_markMachine.f k a0 a1 a2 a3) (laws_markMachine.f (k + 1) a0 a1 a2 a3) := by
 intro a0 a1 a2 a3 k
 unfold laws_markMachine.f
 repeat' first
   | (with_reducible exact laws_markIntS.mono _ _ _)
   | (with_reducible exact LeO.refl _)
   | (with_reducible exact LeO.none _)
   | (with_reducible refine LeO.ite ?_ ?_)
   | (with_reducible refine LeO.bind ?_ (fun _ => ?_))
   | exact laws_markIntS.mono _ _ _
   | exact LeO.none _
   | refine LeO.ite ?_ ?_
   | refine LeO.bind ?_ (fun _ => ?_)
theorem laws_markMachine.calls (k : Nat) (a0_0 : Int) (P0_1_ : Nat → Prop) (u9000_ : Value) (l0_1 : List Int) (P0_2_ : Nat → Prop) (u9001_ : Value) (l0_2 : List Int) (a1 : Int) (r1 : Int) (r2 : List Int) (r3 : List Int) (w0 w : World) (hB : Below w0.heap.size w0 w) (ho0_1 : Kd.R (Kd.int .i64) 3 w w0.heap.size P0_1_ u9000_ l0_1) (hp0_1_0_2 : ∀ k_, P0_1_ k_ → ¬ P0_2_ k_) (ho0_2 : Kd.R (Kd.int .i64) 3 w w0.heap.size P0_2_ u9001_ l0_2) (hp0_2_0_1 : ∀ k_, P0_2_ k_ → ¬ P0_1_ k_) (h : laws_markMachine.f k a0_0 l0_1 l0_2 a1 = some (r1, r2, r3)) :
  Calls Try.prog 17 #[.agg #[.int .i64 a0_0, u9000_, u9001_], .int .i64 a1] w fun e w' => e = .returned (.int .i64 r1) ∧ Kd.R (Kd.int .i64) 3 w' w0.heap.size (fun k_ => ((P0_1_ k_ ∨ P0_2_ k_) ∨ w.heap.size ≤ k_)) u9000_ r2 ∧ Kd.R (Kd.int .i64) 3 w' w0.heap.size (fun k_ => ((P0_1_ k_ ∨ P0_2_ k_) ∨ w.heap.size ≤ k_)) u9001_ r3 ∧ Below w0.heap.size w0 w' ∧ Kept w w' (fun k_ => P0_1_ k_ ∨ P0_2_ k_) := by
 have hu28 := Try.underlying28
 have HO0_1 := Ak (show Kd.R (Kd.int .i64) 3 w w0.heap.size (fun k_ => ((P0_1_ k_ ∨ P0_2_ k_) ∨ w.heap.size ≤ k_) ∧ some k_ ≠ (u9001_ : Value).ownBlock) u9000_ l0_1 from Kd.R_mono ho0_1 (fun k_ hk => ⟨(.inl (.inl hk)), fun e_ => hp0_1_0_2 k_ hk (ho0_2.1 k_ e_.symm)⟩))
 have HO0_2 := Ak (show Kd.R (Kd.int .i64) 3 w w0.heap.size (fun k_ => ((P0_1_ k_ ∨ P0_2_ k_) ∨ w.heap.size ≤ k_) ∧ some k_ ≠ (u9000_ : Value).ownBlock) u9001_ l0_2 from Kd.R_mono ho0_2 (fun k_ hk => ⟨(.inl (.inr hk)), fun e_ => hp0_2_0_1 k_ hk (ho0_1.1 k_ e_.symm)⟩))
 have HK := Ak (Kept.refl w (fun k_ => P0_1_ k_ ∨ P0_2_ k_))
 have HW0 := Ak hB.size
 have HB := Ak hB
 clear hB
 have H : ((laws_markIntS.f k l0_1 a1).bind fun bt409 => ((laws_markIntS.f k l0_2 bt409.1).bind fun bt411 => (some (bt411.1, bt409.2, bt411.2)))) = some (r1, r2, r3) := h
 clear h
 replace H := Option.bind_eq_some_iff.mp H
 obtain ⟨⟨t409, t410⟩, A30, H⟩ := H
 replace H : ((laws_markIntS.f k l0_2 t409).bind fun bt411 => (some (bt411.1, t410, bt411.2))) = some (r1, r2, r3) := H
 have A3 := Ak A30
 clear A30
 replace H := Option.bind_eq_some_iff.mp H
 obtain ⟨⟨t411, t412⟩, A40, H⟩ := H
 replace H : (some (t411, t410, t412)) = some (r1, r2, r3) := H
 have A4 := Ak A40
 clear A40
 simp only [Option.some.injEq, Prod.mk.injEq] at H
 obtain ⟨rfl, rfl, rfl⟩ := H
 obtain ⟨Ao5, co5, eo5⟩ := Kd.R_slice HO0_1.out
 subst eo5
 obtain ⟨Ao6, co6, eo6⟩ := Kd.R_slice HO0_2.out
 subst eo6
 go_enter Try.func17, Try.ntmps17
 go_wp2_with (first | ((with_reducible refine gate_dst (N := 2) rfl ?_); refine Qk 2 #[.int .i64 a0_0, .slice Ao5 l0_1.length co5, .slice Ao6 l0_2.length co6] 28 ?_; intro gb408 hg w7 hbox hb; have n0_ := Ak (Kd.R_below (Qc HO0_1.out) hb); have n1_ := Ak (Kd.R_below (Qc HO0_2.out) hb); have n2_ := Ak (Kept.below (S := (fun k_ => P0_1_ k_ ∨ P0_2_ k_)) (Qd HK.out) hb); have n3_ := Ak (below_step (Qb HB.out) hb); have n4_ := Ak (hbox); have n5_ := Ak ((by rw [hg]; exact (Qo HK.out) : w.heap.size ≤ gb408)); have n6_ := Ak ((Qp hg HB.out : w0.heap.size ≤ gb408)); clear HO0_1; clear HO0_2; clear HK; clear HB; have HO0_1 := n0_; have HO0_2 := n1_; have HK := n2_; have HB := n3_; have BK408 := n4_; have GW408 := n5_; have GE408 := n6_; clear n0_ n1_ n2_ n3_ n4_ n5_ n6_; clear hb hbox hg; obtain ⟨hcz8_0, hcz8_1, hcz8_2⟩ := Qu3 BK408.out; have hfz8_0 := blk_frozen BK408.out 0; have hfz8_1 := blk_frozen BK408.out 1; have hfz8_2 := blk_frozen BK408.out 2) | ((with_reducible refine gate_callee (f := 46) rfl ?_); refine Qj (some 8) Try.func46 #[.slice Ao5 l0_1.length co5, .int .i64 a1] ?_; (with_reducible refine (laws_markIntS.calls k (fun k_ => some k_ = (.slice Ao5 l0_1.length co5 : Value).ownBlock) (.slice Ao5 l0_1.length co5) l0_1 a1 t409 t410 w0 _ ?side1 ?side2 A3.out).mono ?_); (case side1 => repeat (first | (with_reducible first | exact HB.out | apply below_alloc | apply pw_below_drewN | apply below_drew1 | refine below_set ?_ GE408.out) | exact HB.out)); (case side2 => exact Kd.R_tight rfl HO0_1.out); rintro e w9 ⟨rfl, hy0, hb, hkp⟩; refine ⟨_, rfl, ?_⟩; have n0_ := Ak (Kd.R_reok rfl hy0 (fun k_ e_ => HO0_1.out.1 k_ e_)); have n1_ := Ak (Kd.R_mono (ok' := fun k_ => ((P0_1_ k_ ∨ P0_2_ k_) ∨ w.heap.size ≤ k_) ∧ some k_ ≠ (.slice Ao5 l0_1.length co5 : Value).ownBlock) (Kd.R_keptB (HO0_2.out) hkp (fun k_ hk_ hs_ => (hk_.2) hs_)) (fun k_ hk_ => ⟨hk_.1.1, hk_.1.2⟩)); have n2_ := Ak (blk_kept (Qa BK408.out) hkp (fun hs_ => (fun e_ => (Kd.R_ne HO0_1.out BK408.out (by decide)) e_) hs_)); have n3_ := Ak (Kept.then_ (S := (fun k_ => P0_1_ k_ ∨ P0_2_ k_)) (Qd HK.out) hkp (fun k_ hs_ => (fun e_ => (HO0_1.out.1 k_ e_.symm).1) hs_)); have n4_ := Ak (hb); clear HO0_1; clear HO0_2; clear BK408; clear HK; clear HB; have HO0_1 := n0_; have HO0_2 := n1_; have BK408 := n2_; have HK := n3_; have HB := n4_; clear n0_ n1_ n2_ n3_ n4_; (try clear hb); (try clear hkp); (try clear hy0); obtain ⟨hcz10_0, hcz10_1, hcz10_2⟩ := Qu3 BK408.out; have hfz10_0 := blk_frozen BK408.out 0; have hfz10_1 := blk_frozen BK408.out 1; have hfz10_2 := blk_frozen BK408.out 2) | ((with_reducible refine gate_callee (f := 46) rfl ?_); refine Qj (some 12) Try.func46 #[.slice Ao6 l0_2.length co6, .int .i64 t409] ?_; (with_reducible refine (laws_markIntS.calls k (fun k_ => some k_ = (.slice Ao6 l0_2.length co6 : Value).ownBlock) (.slice Ao6 l0_2.length co6) l0_2 t409 t411 t412 w0 _ ?side1 ?side2 A4.out).mono ?_); (case side1 => repeat (first | (with_reducible first | exact HB.out | apply below_alloc | apply pw_below_drewN | apply below_drew1 | refine below_set ?_ GE408.out) | exact HB.out)); (case side2 => exact Kd.R_tight rfl HO0_2.out); rintro e w11 ⟨rfl, hy0, hb, hkp⟩; refine ⟨_, rfl, ?_⟩; have n0_ := Ak (Kd.R_mono (ok' := fun k_ => ((P0_1_ k_ ∨ P0_2_ k_) ∨ w.heap.size ≤ k_) ∧ some k_ ≠ (.slice Ao6 l0_2.length co6 : Value).ownBlock) (Kd.R_keptB (HO0_1.out) hkp (fun k_ hk_ hs_ => (hk_.2) hs_)) (fun k_ hk_ => ⟨hk_.1.1, hk_.1.2⟩)); have n1_ := Ak (Kd.R_reok rfl hy0 (fun k_ e_ => HO0_2.out.1 k_ e_)); have n2_ := Ak (blk_kept (Qa BK408.out) hkp (fun hs_ => (fun e_ => (Kd.R_ne HO0_2.out BK408.out (by decide)) e_) hs_)); have n3_ := Ak (Kept.then_ (S := (fun k_ => P0_1_ k_ ∨ P0_2_ k_)) (Qd HK.out) hkp (fun k_ hs_ => (fun e_ => (HO0_2.out.1 k_ e_.symm).1) hs_)); have n4_ := Ak (hb); clear HO0_1; clear HO0_2; clear BK408; clear HK; clear HB; have HO0_1 := n0_; have HO0_2 := n1_; have BK408 := n2_; have HK := n3_; have HB := n4_; clear n0_ n1_ n2_ n3_ n4_; (try clear hb); (try clear hkp); (try clear hy0)))
 go_ret
 exact ⟨Qh, by refine Qf ?_; exact Kd.R_mono HO0_1.out (fun _ hk => hk.1), by refine Qf ?_; exact Kd.R_mono HO0_2.out (fun _ hk => hk.1), Qb HB.out, Qd HK.out⟩

/-! ### laws_heldIntS: function 47 -/
def laws_heldIntS.l0 : Nat → List Int → Int → Int → Option (Int)
 | 0, _, _, _ => none
 | k + 1, x0, x1, x5 => if x5 < (x0.length : Int) then (if 0 ≤ x5 then (if (rd x0 x5) = x1 then (laws_heldIntS.l0 k x0 (wrap64 (x1 + 1)) (wrap64 (x5 + 1))) else (some (-1))) else (none)) else (some x1)
def laws_heldIntS.f (k : Nat) (l0 : List Int) (a1 : Int) : Option (Int) := laws_heldIntS.l0 k l0 a1 0
theorem laws_heldIntS.mono_l : ∀ k, (∀ y0 y1 y2, LeO (laws_heldIntS.l0 k y0 y1 y2) (laws_heldIntS.l0 (k + 1) y0 y1 y2))
 | 0 => fun _ _ _ r h => by simp [laws_heldIntS.l0] at h
 | k + 1 => by
  have ih0 := laws_heldIntS.mono_l k
  ·intro y0 y1 y2
   unfold laws_heldIntS.l0
   repeat' first
   | (with_reducible exact ih0 _ _ _)
   | (with_reducible exact LeO.refl _)
   | (with_reducible exact LeO.none _)
   | (with_reducible refine LeO.ite ?_ ?_)
   | (with_reducible refine LeO.bind ?_ (fun _ => ?_))
   | exact ih0 _ _ _
   | exact LeO.none _
   | refine LeO.ite ?_ ?_
   | refine LeO.bind ?_ (fun _ => ?_)
theorem laws_heldIntS.mono : ∀ a0 a1 k, LeO (laws_heldIntS.f k a0 a1) (laws_heldIntS.f (k + 1) a0 a1) := by
 intro a0 a1 k
 have ih0 := laws_heldIntS.mono_l k
 unfold laws_heldIntS.f
 repeat' first
   | (with_reducible exact ih0 _ _ _)
   | (with_reducible exact LeO.refl _)
   | (with_reducible exact LeO.none _)
   | (with_reducible refine LeO.ite ?_ ?_)
   | (with_reducible refine LeO.bind ?_ (fun _ => ?_))
   | exact ih0 _ _ _
   | exact LeO.none _
   | refine LeO.ite ?_ ?_
   | refine LeO.bind ?_ (fun _ => ?_)
theorem laws_heldIntS.calls (k : Nat) (A0 : Option Addr) (c0 : Nat) (l0 : List Int) (a1 : Int) (r : Int) (w : World) (hr0 : Kd.C (Kd.int .i64) w A0 l0.length l0) (hc0 : l0.length ≤ c0) (h : laws_heldIntS.f k l0 a1 = some r) :
  Calls Try.prog 47 #[.slice A0 l0.length c0, .int .i64 a1] w fun e w' => e = .returned (.int .i64 r) ∧ Drawn0 w w' := by
 have HR0 := Ak hr0
 have HC0 := Ak hc0
 clear hr0 hc0
 have H : (laws_heldIntS.l0 k l0 a1 0) = some r := h
 clear h
 have H' := Ak H
 clear H
 go_enter Try.func47, Try.ntmps47
 go_wp2
 go_loopg [1, 5] k (fun kq v1 v5 w' => ∃ (x1_1 : Int) (x5_1 : Int), v1 = .int .i64 x1_1 ∧ v5 = .int .i64 x5_1 ∧ Aside0 (laws_heldIntS.l0 kq l0 x1_1 x5_1 = some r) ∧ Aside0 (kq ≤ k) ∧ Drawn0 w w')
 case atStart => exact ⟨(a1), (0), Qi, Qi, H', ⟨Nat.le_refl _⟩, Ql⟩
 case round =>
  clear H'
  try clear p2
  obtain ⟨x1_1, x5_1, rfl, rfl, HA, HK1, ⟨m1, rfl⟩⟩ := hrel
  cases gk with
  | zero => exact absurd HA.out (by simp [laws_heldIntS.l0])
  | succ k1 =>
   have H := HA.out
   clear HA
   simp only [laws_heldIntS.l0] at H
   by_cases c3 : x5_1 < (l0.length : Int)
   ·rw [if_pos c3] at H
    have c3b0 : decide (x5_1 < (l0.length : Int)) = true := decide_eq_true c3
    clear c3
    by_cases c4 : 0 ≤ x5_1
    ·rw [if_pos c4] at H
     have c4b0 : decide (0 ≤ x5_1) = true := decide_eq_true c4
     clear c4
     by_cases c5 : (rd l0 x5_1) = x1_1
     ·rw [if_pos c5] at H
      have c5b0 : ((rd l0 x5_1) == x1_1) = true := beq_iff_eq.mpr c5
      have c5b1 : ((rd l0 x5_1) != x1_1) = false := bne_eq_false_iff_eq.mpr c5
      clear c5
      have H' := Ak H
      clear H
      have p413 : 0 ≤ (x5_1 : Int) := Qg
      have q413 : x5_1 < (l0.length : Int) := Qg
      obtain ⟨ad413, e413, hx413_0⟩ := Kd.at_int HR0.out x5_1 p413 q413
      cases e413
      replace p413 := eq_true p413
      replace q413 := eq_true q413
      go_wp2
      go_roundg k1
      case measure => have := HK1.out; omega
      case rel => exact ⟨(wrap64 (x1_1 + 1)), (wrap64 (x5_1 + 1)), Qi, Qi, H', ⟨by have := HK1.out; omega⟩, Ql⟩
     ·rw [if_neg c5] at H
      have c5b0 : ((rd l0 x5_1) == x1_1) = false := beq_eq_false_iff_ne.mpr c5
      have c5b1 : ((rd l0 x5_1) != x1_1) = true := bne_iff_ne.mpr c5
      obtain rfl := Option.some.inj H
      have p413 : 0 ≤ (x5_1 : Int) := Qg
      have q413 : x5_1 < (l0.length : Int) := Qg
      obtain ⟨ad413, e413, hx413_0⟩ := Kd.at_int HR0.out x5_1 p413 q413
      cases e413
      replace p413 := eq_true p413
      replace q413 := eq_true q413
      go_wp2
      go_ret
      exact ⟨Qi, Ql⟩
    ·rw [if_neg c4] at H
     exact absurd H (by simp)
   ·rw [if_neg c3] at H
    have c3b0 : decide (x5_1 < (l0.length : Int)) = false := decide_eq_false c3
    clear c3
    obtain rfl := Option.some.inj H
    go_wp2
    go_ret
    exact ⟨Qi, Ql⟩

/-! ### laws_heldMachine: function 18 -/
def laws_heldMachine.f (k : Nat) (a0_0 : Int) (l0_1 : List Int) (l0_2 : List Int) (a1 : Int) : Option (Int) := (laws_heldIntS.f k l0_1 a1).bind fun t415 => (if t415 < 0 then (some (-1)) else ((laws_heldIntS.f k l0_2 t415).bind fun t416 => (if t416 < 0 then (some (-1)) else (some t416))))
theorem laws_heldMachine.mono : ∀ a0 a1 a2 a3 k, LeO (laws_heldMachine.f k a0 a1 a2 a3) (laws_heldMachine.f (k + 1) a0 a1 a2 a3) := by
 intro a0 a1 a2 a3 k
 unfold laws_heldMachine.f
 repeat' first
   | (with_reducible exact laws_heldIntS.mono _ _ _)
   | (with_reducible exact LeO.refl _)
   | (with_reducible exact LeO.none _)
   | (with_reducible refine LeO.ite ?_ ?_)
   | (with_reducible refine LeO.bind ?_ (fun _ => ?_))
   | exact laws_heldIntS.mono _ _ _
   | exact LeO.none _
   | refine LeO.ite ?_ ?_
   | refine LeO.bind ?_ (fun _ => ?_)
theorem laws_heldMachine.calls (k : Nat) (a0_0 : Int) (A0_1 : Option Addr) (c0_1 : Nat) (l0_1 : List Int) (A0_2 : Option Addr) (c0_2 : Nat) (l0_2 : List Int) (a1 : Int) (r : Int) (w : World) (hr0_1 : Kd.C (Kd.int .i64) w A0_1 l0_1.length l0_1) (hc0_1 : l0_1.length ≤ c0_1) (hr0_2 : Kd.C (Kd.int .i64) w A0_2 l0_2.length l0_2) (hc0_2 : l0_2.length ≤ c0_2) (h : laws_heldMachine.f k a0_0 l0_1 l0_2 a1 = some r) :
  Calls Try.prog 18 #[.agg #[.int .i64 a0_0, .slice A0_1 l0_1.length c0_1, .slice A0_2 l0_2.length c0_2], .int .i64 a1] w fun e w' => e = .returned (.int .i64 r) ∧ Below w.heap.size w w' := by
 have hu28 := Try.underlying28
 have HR0_1 := Ak hr0_1
 have HC0_1 := Ak hc0_1
 clear hr0_1 hc0_1
 have HR0_2 := Ak hr0_2
 have HC0_2 := Ak hc0_2
 clear hr0_2 hc0_2
 have HB := Ak (Below.refl w.heap.size w)
 have H : ((laws_heldIntS.f k l0_1 a1).bind fun t415 => (if t415 < 0 then (some (-1)) else ((laws_heldIntS.f k l0_2 t415).bind fun t416 => (if t416 < 0 then (some (-1)) else (some t416))))) = some r := h
 clear h
 replace H := Option.bind_eq_some_iff.mp H
 obtain ⟨t415, A30, H⟩ := H
 replace H : (if t415 < 0 then (some (-1)) else ((laws_heldIntS.f k l0_2 t415).bind fun t416 => (if t416 < 0 then (some (-1)) else (some t416)))) = some r := H
 have A3 := Ak A30
 clear A30
 by_cases c4 : t415 < 0
 ·rw [if_pos c4] at H
  have c4b0 : decide (t415 < 0) = true := decide_eq_true c4
  clear c4
  obtain rfl := Option.some.inj H
  go_enter Try.func18, Try.ntmps18
  go_wp2_with (first | ((with_reducible refine gate_dst (N := 2) rfl ?_); refine Qk 2 #[.int .i64 a0_0, .slice A0_1 l0_1.length c0_1, .slice A0_2 l0_2.length c0_2] 28 ?_; intro gb414 hg w5 hbox hb; have n0_ := Ak (below_step (Qb HB.out) hb); have n1_ := Ak (hbox); have n2_ := Ak ((Qp hg HB.out : w.heap.size ≤ gb414)); have n3_ := Ak ((Qp hg HB.out : w.heap.size ≤ gb414)); clear HB; have HB := n0_; have BK414 := n1_; have GW414 := n2_; have GE414 := n3_; clear n0_ n1_ n2_ n3_; clear hb hbox hg; obtain ⟨hcz6_0, hcz6_1, hcz6_2⟩ := Qu3 BK414.out; have hfz6_0 := blk_frozen BK414.out 0; have hfz6_1 := blk_frozen BK414.out 1; have hfz6_2 := blk_frozen BK414.out 2) | ((with_reducible refine gate_callee (f := 47) rfl ?_); refine Qj (some 8) Try.func47 #[.slice A0_1 l0_1.length c0_1, .int .i64 a1] ?_; (with_reducible refine (laws_heldIntS.calls k _ _ l0_1 a1 t415 _ ?side1 ?side2 A3.out).mono ?_); (case side1 => repeat (first | exact (Kd.C_below HR0_1.out HB.out) | (with_reducible refine Kd.C_alloc ?_ _) | (with_reducible refine Kd.C_drewN ?_ _) | (with_reducible refine Kd.C_drew ?_))); (case side2 => exact HC0_1.out); rintro e w' ⟨rfl, ⟨nd, rfl⟩⟩; refine ⟨_, rfl, ?_⟩))
  go_ret
  exact ⟨Qh, Qb HB.out⟩
 ·rw [if_neg c4] at H
  have c4b0 : decide (t415 < 0) = false := decide_eq_false c4
  clear c4
  replace H := Option.bind_eq_some_iff.mp H
  obtain ⟨t416, A70, H⟩ := H
  replace H : (if t416 < 0 then (some (-1)) else (some t416)) = some r := H
  have A7 := Ak A70
  clear A70
  by_cases c8 : t416 < 0
  ·rw [if_pos c8] at H
   have c8b0 : decide (t416 < 0) = true := decide_eq_true c8
   clear c8
   obtain rfl := Option.some.inj H
   go_enter Try.func18, Try.ntmps18
   go_wp2_with (first | ((with_reducible refine gate_dst (N := 2) rfl ?_); refine Qk 2 #[.int .i64 a0_0, .slice A0_1 l0_1.length c0_1, .slice A0_2 l0_2.length c0_2] 28 ?_; intro gb414 hg w9 hbox hb; have n0_ := Ak (below_step (Qb HB.out) hb); have n1_ := Ak (hbox); have n2_ := Ak ((Qp hg HB.out : w.heap.size ≤ gb414)); have n3_ := Ak ((Qp hg HB.out : w.heap.size ≤ gb414)); clear HB; have HB := n0_; have BK414 := n1_; have GW414 := n2_; have GE414 := n3_; clear n0_ n1_ n2_ n3_; clear hb hbox hg; obtain ⟨hcz10_0, hcz10_1, hcz10_2⟩ := Qu3 BK414.out; have hfz10_0 := blk_frozen BK414.out 0; have hfz10_1 := blk_frozen BK414.out 1; have hfz10_2 := blk_frozen BK414.out 2) | ((with_reducible refine gate_callee (f := 47) rfl ?_); refine Qj (some 8) Try.func47 #[.slice A0_1 l0_1.length c0_1, .int .i64 a1] ?_; (with_reducible refine (laws_heldIntS.calls k _ _ l0_1 a1 t415 _ ?side1 ?side2 A3.out).mono ?_); (case side1 => repeat (first | exact (Kd.C_below HR0_1.out HB.out) | (with_reducible refine Kd.C_alloc ?_ _) | (with_reducible refine Kd.C_drewN ?_ _) | (with_reducible refine Kd.C_drew ?_))); (case side2 => exact HC0_1.out); rintro e w' ⟨rfl, ⟨nd, rfl⟩⟩; refine ⟨_, rfl, ?_⟩) | ((with_reducible refine gate_callee (f := 47) rfl ?_); refine Qj (some 14) Try.func47 #[.slice A0_2 l0_2.length c0_2, .int .i64 t415] ?_; (with_reducible refine (laws_heldIntS.calls k _ _ l0_2 t415 t416 _ ?side1 ?side2 A7.out).mono ?_); (case side1 => repeat (first | exact (Kd.C_below HR0_2.out (Qb HB.out)) | (with_reducible refine Kd.C_alloc ?_ _) | (with_reducible refine Kd.C_drewN ?_ _) | (with_reducible refine Kd.C_drew ?_))); (case side2 => exact HC0_2.out); rintro e w' ⟨rfl, ⟨nd, rfl⟩⟩; refine ⟨_, rfl, ?_⟩))
   go_ret
   exact ⟨Qh, Qb HB.out⟩
  ·rw [if_neg c8] at H
   have c8b0 : decide (t416 < 0) = false := decide_eq_false c8
   clear c8
   obtain rfl := Option.some.inj H
   go_enter Try.func18, Try.ntmps18
   go_wp2_with (first | ((with_reducible refine gate_dst (N := 2) rfl ?_); refine Qk 2 #[.int .i64 a0_0, .slice A0_1 l0_1.length c0_1, .slice A0_2 l0_2.length c0_2] 28 ?_; intro gb414 hg w11 hbox hb; have n0_ := Ak (below_step (Qb HB.out) hb); have n1_ := Ak (hbox); have n2_ := Ak ((Qp hg HB.out : w.heap.size ≤ gb414)); have n3_ := Ak ((Qp hg HB.out : w.heap.size ≤ gb414)); clear HB; have HB := n0_; have BK414 := n1_; have GW414 := n2_; have GE414 := n3_; clear n0_ n1_ n2_ n3_; clear hb hbox hg; obtain ⟨hcz12_0, hcz12_1, hcz12_2⟩ := Qu3 BK414.out; have hfz12_0 := blk_frozen BK414.out 0; have hfz12_1 := blk_frozen BK414.out 1; have hfz12_2 := blk_frozen BK414.out 2) | ((with_reducible refine gate_callee (f := 47) rfl ?_); refine Qj (some 8) Try.func47 #[.slice A0_1 l0_1.length c0_1, .int .i64 a1] ?_; (with_reducible refine (laws_heldIntS.calls k _ _ l0_1 a1 t415 _ ?side1 ?side2 A3.out).mono ?_); (case side1 => repeat (first | exact (Kd.C_below HR0_1.out HB.out) | (with_reducible refine Kd.C_alloc ?_ _) | (with_reducible refine Kd.C_drewN ?_ _) | (with_reducible refine Kd.C_drew ?_))); (case side2 => exact HC0_1.out); rintro e w' ⟨rfl, ⟨nd, rfl⟩⟩; refine ⟨_, rfl, ?_⟩) | ((with_reducible refine gate_callee (f := 47) rfl ?_); refine Qj (some 14) Try.func47 #[.slice A0_2 l0_2.length c0_2, .int .i64 t415] ?_; (with_reducible refine (laws_heldIntS.calls k _ _ l0_2 t415 t416 _ ?side1 ?side2 A7.out).mono ?_); (case side1 => repeat (first | exact (Kd.C_below HR0_2.out (Qb HB.out)) | (with_reducible refine Kd.C_alloc ?_ _) | (with_reducible refine Kd.C_drewN ?_ _) | (with_reducible refine Kd.C_drew ?_))); (case side2 => exact HC0_2.out); rintro e w' ⟨rfl, ⟨nd, rfl⟩⟩; refine ⟨_, rfl, ?_⟩))
   go_ret
   exact ⟨Qh, Qb HB.out⟩

/-! ### laws_FnExactStepMachine: function 3 -/
/-- What the law holds: the arguments given to the program (ux; block g9), and its answer (block g10), behind the world wb. -/
structure laws_FnExactStepMachine.Cr (wb W : World) (g9 g10 : Nat) (ux : Value) (lx : List S48) (p9 : Int) (u9 v9 : Value) (s9 t9 : List Int) (p10 : Int) (u10 v10 : Value) (s10 t10 : List Int) : Prop where
 b : Below wb.heap.size wb W
 b9 : W.heap[g9]? = some (.cells #[.int .i64 p9, u9, v9] 28 (0, 0))
 b10 : W.heap[g10]? = some (.cells #[.int .i64 p10, u10, v10] 28 (0, 0))
 x : Kd.R k48 48 W wb.heap.size (fun k => some k = ux.ownBlock) ux lx
 r1 : Kd.R (Kd.int .i64) 3 W wb.heap.size (fun k => some k = u9.ownBlock) u9 s9
 r2 : Kd.R (Kd.int .i64) 3 W wb.heap.size (fun k => some k = v9.ownBlock) v9 t9
 r3 : Kd.R (Kd.int .i64) 3 W wb.heap.size (fun k => some k = u10.ownBlock) u10 s10
 r4 : Kd.R (Kd.int .i64) 3 W wb.heap.size (fun k => some k = v10.ownBlock) v10 t10
 d12 : ∀ k, some k = u9.ownBlock → ¬ some k = v9.ownBlock
 d13 : ∀ k, some k = u9.ownBlock → ¬ some k = u10.ownBlock
 d14 : ∀ k, some k = u9.ownBlock → ¬ some k = v10.ownBlock
 d23 : ∀ k, some k = v9.ownBlock → ¬ some k = u10.ownBlock
 d24 : ∀ k, some k = v9.ownBlock → ¬ some k = v10.ownBlock
 d34 : ∀ k, some k = u10.ownBlock → ¬ some k = v10.ownBlock
section
variable {wb W W' : World} {g9 g10 : Nat} {ux : Value} {lx lx' : List S48} {p9 : Int} {u9 v9 : Value} {s9 t9 s9' t9' : List Int} {p10 : Int} {u10 v10 : Value} {s10 t10 s10' t10' : List Int}
theorem laws_FnExactStepMachine.Cr.below (h : laws_FnExactStepMachine.Cr wb W g9 g10 ux lx p9 u9 v9 s9 t9 p10 u10 v10 s10 t10) (hb : Below W.heap.size W W') : laws_FnExactStepMachine.Cr wb W' g9 g10 ux lx p9 u9 v9 s9 t9 p10 u10 v10 s10 t10 :=
 ⟨below_step h.b hb, blk_below h.b9 hb, blk_below h.b10 hb, Kd.R_below h.x hb, Kd.R_below h.r1 hb, Kd.R_below h.r2 hb, Kd.R_below h.r3 hb, Kd.R_below h.r4 hb, h.d12, h.d13, h.d14, h.d23, h.d24, h.d34⟩
theorem laws_FnExactStepMachine.apart {v : Value} {s : List Int} {ok ok' : Nat → Prop} {b b' : Nat} (hx : Kd.R k48 48 W b ok ux lx) (hr : Kd.R (Kd.int .i64) 3 W b' ok' v s) : ∀ k, some k = v.ownBlock → ¬ some k = ux.ownBlock := by
 intro k e q
 obtain ⟨c1, e1⟩ := Kd.R_typed hx k q.symm
 obtain ⟨c2, e2⟩ := Kd.R_typed hr k e.symm
 rw [e1] at e2
 simp at e2
theorem laws_FnExactStepMachine.Cr.mark0 (h : laws_FnExactStepMachine.Cr wb W g9 g10 ux lx p9 u9 v9 s9 t9 p10 u10 v10 s10 t10) {ok : Nat → Prop} (hx : Kd.R k48 48 W' wb.heap.size ok ux lx') (hb : Below wb.heap.size wb W') (hk : Kept W W' (fun k => some k = ux.ownBlock)) : laws_FnExactStepMachine.Cr wb W' g9 g10 ux lx' p9 u9 v9 s9 t9 p10 u10 v10 s10 t10 :=
 ⟨hb, blk_kept h.b9 hk (Kd.R_ne h.x h.b9 (by decide)), blk_kept h.b10 hk (Kd.R_ne h.x h.b10 (by decide)), Kd.R_tight rfl hx, Kd.R_kept h.r1 hk (laws_FnExactStepMachine.apart h.x h.r1), Kd.R_kept h.r2 hk (laws_FnExactStepMachine.apart h.x h.r2), Kd.R_kept h.r3 hk (laws_FnExactStepMachine.apart h.x h.r3), Kd.R_kept h.r4 hk (laws_FnExactStepMachine.apart h.x h.r4), h.d12, h.d13, h.d14, h.d23, h.d24, h.d34⟩
theorem laws_FnExactStepMachine.Cr.mark9 (h : laws_FnExactStepMachine.Cr wb W g9 g10 ux lx p9 u9 v9 s9 t9 p10 u10 v10 s10 t10) {ok ok' : Nat → Prop} (h1 : Kd.R (Kd.int .i64) 3 W' wb.heap.size ok u9 s9') (h2 : Kd.R (Kd.int .i64) 3 W' wb.heap.size ok' v9 t9') (hb : Below wb.heap.size wb W') (hk : Kept W W' (fun k => some k = u9.ownBlock ∨ some k = v9.ownBlock)) : laws_FnExactStepMachine.Cr wb W' g9 g10 ux lx p9 u9 v9 s9' t9' p10 u10 v10 s10 t10 :=
 ⟨hb, blk_kept h.b9 hk (fun q => q.elim (Kd.R_ne h.r1 h.b9 (by decide)) (Kd.R_ne h.r2 h.b9 (by decide))), blk_kept h.b10 hk (fun q => q.elim (Kd.R_ne h.r1 h.b10 (by decide)) (Kd.R_ne h.r2 h.b10 (by decide))), Kd.R_kept h.x hk (fun k e q => q.elim (fun q => laws_FnExactStepMachine.apart h.x h.r1 k q e) (fun q => laws_FnExactStepMachine.apart h.x h.r2 k q e)), Kd.R_tight rfl h1, Kd.R_tight rfl h2, Kd.R_kept h.r3 hk (fun k e q => q.elim (fun q => h.d13 k q e) (fun q => h.d23 k q e)), Kd.R_kept h.r4 hk (fun k e q => q.elim (fun q => h.d14 k q e) (fun q => h.d24 k q e)), h.d12, h.d13, h.d14, h.d23, h.d24, h.d34⟩
theorem laws_FnExactStepMachine.Cr.mark10 (h : laws_FnExactStepMachine.Cr wb W g9 g10 ux lx p9 u9 v9 s9 t9 p10 u10 v10 s10 t10) {ok ok' : Nat → Prop} (h1 : Kd.R (Kd.int .i64) 3 W' wb.heap.size ok u10 s10') (h2 : Kd.R (Kd.int .i64) 3 W' wb.heap.size ok' v10 t10') (hb : Below wb.heap.size wb W') (hk : Kept W W' (fun k => some k = u10.ownBlock ∨ some k = v10.ownBlock)) : laws_FnExactStepMachine.Cr wb W' g9 g10 ux lx p9 u9 v9 s9 t9 p10 u10 v10 s10' t10' :=
 ⟨hb, blk_kept h.b9 hk (fun q => q.elim (Kd.R_ne h.r3 h.b9 (by decide)) (Kd.R_ne h.r4 h.b9 (by decide))), blk_kept h.b10 hk (fun q => q.elim (Kd.R_ne h.r3 h.b10 (by decide)) (Kd.R_ne h.r4 h.b10 (by decide))), Kd.R_kept h.x hk (fun k e q => q.elim (fun q => laws_FnExactStepMachine.apart h.x h.r3 k q e) (fun q => laws_FnExactStepMachine.apart h.x h.r4 k q e)), Kd.R_kept h.r1 hk (fun k e q => q.elim (fun q => h.d13 k e q) (fun q => h.d14 k e q)), Kd.R_kept h.r2 hk (fun k e q => q.elim (fun q => h.d23 k e q) (fun q => h.d24 k e q)), Kd.R_tight rfl h1, Kd.R_tight rfl h2, h.d12, h.d13, h.d14, h.d23, h.d24, h.d34⟩
/-- At the start: the code's row (made from wb to W1), the machine's (from W1 to W2), its variable, the answer (from W3 to W4), its variable. -/
theorem laws_FnExactStepMachine.Cr.start {W1 W2 W4 : World} (hx : Kd.R k48 48 W1 wb.heap.size (fun _ => True) ux lx) (hb1 : Below wb.heap.size wb W1) (h1 : Kd.R (Kd.int .i64) 3 W2 W1.heap.size (fun k => some k ≠ v9.ownBlock) u9 s9) (h2 : Kd.R (Kd.int .i64) 3 W2 W1.heap.size (fun k => some k ≠ u9.ownBlock) v9 t9) (hb2 : Below W1.heap.size W1 W2)
  (h3 : Kd.R (Kd.int .i64) 3 W4 (W2.alloc (.cells #[.int .i64 p9, u9, v9] 28)).heap.size (fun k => some k ≠ v10.ownBlock) u10 s10) (h4 : Kd.R (Kd.int .i64) 3 W4 (W2.alloc (.cells #[.int .i64 p9, u9, v9] 28)).heap.size (fun k => some k ≠ u10.ownBlock) v10 t10) (hb3 : Below (W2.alloc (.cells #[.int .i64 p9, u9, v9] 28)).heap.size (W2.alloc (.cells #[.int .i64 p9, u9, v9] 28)) W4) :
  laws_FnExactStepMachine.Cr wb (W4.alloc (.cells #[.int .i64 p10, u10, v10] 28)) W2.heap.size W4.heap.size ux lx p9 u9 v9 s9 t9 p10 u10 v10 s10 t10 := by
 have z1 : wb.heap.size ≤ W1.heap.size := hb1.size
 have z2 : W1.heap.size ≤ W2.heap.size := hb2.size
 have z3 : (W2.alloc (.cells #[.int .i64 p9, u9, v9] 28)).heap.size = W2.heap.size + 1 := by simp
 have al : Below W4.heap.size W4 (W4.alloc (.cells #[.int .i64 p10, u10, v10] 28)) := below_alloc (Below.refl _ _) _
 have a2 : Below W2.heap.size W2 (W2.alloc (.cells #[.int .i64 p9, u9, v9] 28)) := below_alloc (Below.refl _ _) _
 have far : ∀ {a b : Value} {xs ys : List Int} {ok ok' : Nat → Prop}, Kd.R (Kd.int .i64) 3 W2 W1.heap.size ok a xs → Kd.R (Kd.int .i64) 3 W4 (W2.alloc (.cells #[.int .i64 p9, u9, v9] 28)).heap.size ok' b ys → ∀ k, some k = a.ownBlock → ¬ some k = b.ownBlock := by
  intro a b xs ys ok ok' ha hb k e q
  have := Kd.R_lt ha k e.symm
  have := Kd.R_base hb k q.symm
  omega
 exact ⟨below_step (below_step (below_step (below_step hb1 hb2) a2) hb3) al, blk_below (blk_below (blk_new _ _) hb3) al, blk_new _ _, Kd.R_tight rfl (Kd.R_below (Kd.R_below (Kd.R_below (Kd.R_below hx hb2) a2) hb3) al),
  Kd.R_tight rfl (Kd.R_below (Kd.R_below (Kd.R_below (Kd.R_lower h1 z1) a2) hb3) al), Kd.R_tight rfl (Kd.R_below (Kd.R_below (Kd.R_below (Kd.R_lower h2 z1) a2) hb3) al), Kd.R_tight rfl (Kd.R_below (Kd.R_lower h3 (by omega)) al), Kd.R_tight rfl (Kd.R_below (Kd.R_lower h4 (by omega)) al),
  fun k e q => h1.1 k e.symm q, far h1 h3, far h1 h4, far h2 h3, far h2 h4, fun k e q => h3.1 k e.symm q⟩
theorem laws_FnExactStepMachine.Cr.d21 (h : laws_FnExactStepMachine.Cr wb W g9 g10 ux lx p9 u9 v9 s9 t9 p10 u10 v10 s10 t10) : ∀ k, some k = v9.ownBlock → ¬ some k = u9.ownBlock := fun k e q => h.d12 k q e
theorem laws_FnExactStepMachine.Cr.d43 (h : laws_FnExactStepMachine.Cr wb W g9 g10 ux lx p9 u9 v9 s9 t9 p10 u10 v10 s10 t10) : ∀ k, some k = v10.ownBlock → ¬ some k = u10.ownBlock := fun k e q => h.d34 k q e
theorem laws_FnExactStepMachine.Cr.cells (h : laws_FnExactStepMachine.Cr wb W g9 g10 ux lx p9 u9 v9 s9 t9 p10 u10 v10 s10 t10) : W.cell? ⟨g9, 0, none⟩ = some (.int .i64 p9) ∧ W.cell? ⟨g9, 1, none⟩ = some u9 ∧ W.cell? ⟨g9, 2, none⟩ = some v9 ∧ W.cell? ⟨g10, 0, none⟩ = some (.int .i64 p10) ∧ W.cell? ⟨g10, 1, none⟩ = some u10 ∧ W.cell? ⟨g10, 2, none⟩ = some v10 :=
 ⟨(blk_cell h.b9 0).trans rfl, (blk_cell h.b9 1).trans rfl, (blk_cell h.b9 2).trans rfl, (blk_cell h.b10 0).trans rfl, (blk_cell h.b10 1).trans rfl, (blk_cell h.b10 2).trans rfl⟩
end
/-- What the law holds of its argument's variable (block g3) and of the reference's answer (block g6), at the world wb. -/
structure laws_FnExactStepMachine.Bs (w wb : World) (g3 g6 : Nat) (a : Int) (u v : Value) (p0 : Int) (B1 : Option Addr) (e1 : Nat) (s0 : List Int) (B2 : Option Addr) (e2 : Nat) (t0 : List Int) : Prop where
 b : Below w.heap.size w wb
 b3 : wb.heap[g3]? = some (.cells #[.int .i64 a, u, v] 25 (0, 0))
 b6 : wb.heap[g6]? = some (.cells #[.int .i64 p0, .slice B1 s0.length e1, .slice B2 t0.length e2] 28 (0, 0))
 c1 : Kd.C (Kd.int .i64) wb B1 s0.length s0
 l1 : s0.length ≤ e1
 c2 : Kd.C (Kd.int .i64) wb B2 t0.length t0
 l2 : t0.length ≤ e2
section
variable {w wb W : World} {g3 g6 : Nat} {a : Int} {u v : Value} {p0 : Int} {B1 : Option Addr} {e1 : Nat} {s0 : List Int} {B2 : Option Addr} {e2 : Nat} {t0 : List Int} {b1 b2 : Nat} {ok1 ok2 : Nat → Prop} {z0 z1 z2 : Value}
theorem laws_FnExactStepMachine.Bs.cells (h : laws_FnExactStepMachine.Bs w wb g3 g6 a u v p0 B1 e1 s0 B2 e2 t0) (b : Below wb.heap.size wb W) : W.cell? ⟨g3, 0, none⟩ = some (.int .i64 a) ∧ W.cell? ⟨g3, 1, none⟩ = some u ∧ W.cell? ⟨g3, 2, none⟩ = some v ∧ W.cell? ⟨g6, 0, none⟩ = some (.int .i64 p0) ∧ W.cell? ⟨g6, 1, none⟩ = some (.slice B1 s0.length e1) ∧ W.cell? ⟨g6, 2, none⟩ = some (.slice B2 t0.length e2) :=
 ⟨(blk_cell (blk_below h.b3 b) 0).trans rfl, (blk_cell (blk_below h.b3 b) 1).trans rfl, (blk_cell (blk_below h.b3 b) 2).trans rfl, (blk_cell (blk_below h.b6 b) 0).trans rfl, (blk_cell (blk_below h.b6 b) 1).trans rfl, (blk_cell (blk_below h.b6 b) 2).trans rfl⟩
theorem laws_FnExactStepMachine.Bs.drew (h : laws_FnExactStepMachine.Bs w wb g3 g6 a u v p0 B1 e1 s0 B2 e2 t0) : laws_FnExactStepMachine.Bs w wb.drew g3 g6 a u v p0 B1 e1 s0 B2 e2 t0 := ⟨below_drew1 h.b, blk_drew h.b3, blk_drew h.b6, Kd.C_below h.c1 (below_drew1 (Below.refl _ _)), h.l1, Kd.C_below h.c2 (below_drew1 (Below.refl _ _)), h.l2⟩
/-- A box that is filled where it is made. -/
theorem laws_FnExactStepMachine.Bs.fresh (h1 : Kd.R (Kd.int .i64) 3 W b1 ok1 (.slice B1 s0.length e1) s0) (h2 : Kd.R (Kd.int .i64) 3 W b2 ok2 (.slice B2 t0.length e2) t0) (hb : Below w.heap.size w W) (h3 : W.heap[g3]? = some (.cells #[.int .i64 a, u, v] 25 (0, 0))) :
  laws_FnExactStepMachine.Bs w (W.alloc (.cells #[.int .i64 p0, .slice B1 s0.length e1, .slice B2 t0.length e2] 28)) g3 W.heap.size a u v p0 B1 e1 s0 B2 e2 t0 := by
 have al := below_alloc (Below.refl W.heap.size W) (.cells #[.int .i64 p0, .slice B1 s0.length e1, .slice B2 t0.length e2] 28)
 exact ⟨below_step hb al, blk_below h3 al, blk_new _ _, Kd.C_below (Kd.R_reads' h1).2.2 al, (Kd.R_reads' h1).2.1, Kd.C_below (Kd.R_reads' h2).2.2 al, (Kd.R_reads' h2).2.1⟩
/-- A box that was made before, filled cell by cell. -/
theorem laws_FnExactStepMachine.Bs.filled (h1 : Kd.R (Kd.int .i64) 3 W b1 ok1 (.slice B1 s0.length e1) s0) (h2 : Kd.R (Kd.int .i64) 3 W b2 ok2 (.slice B2 t0.length e2) t0) (hb : Below w.heap.size w W) (hg : w.heap.size ≤ g6) (h6 : W.heap[g6]? = some (.cells #[z0, z1, z2] 28 (0, 0))) (h3 : W.heap[g3]? = some (.cells #[.int .i64 a, u, v] 25 (0, 0))) :
  laws_FnExactStepMachine.Bs w (((W.setCell ⟨g6, 0, none⟩ (.int .i64 p0)).setCell ⟨g6, 1, none⟩ (.slice B1 s0.length e1)).setCell ⟨g6, 2, none⟩ (.slice B2 t0.length e2)) g3 g6 a u v p0 B1 e1 s0 B2 e2 t0 := by
 have hne : g3 ≠ g6 := fun e => by subst e; rw [h3] at h6; injection h6 with h6; injection h6 with _ h6; exact absurd h6 (by decide)
 have ht : ∀ q, q ∈ 3 :: (Kd.int .i64).E → q ≠ 28 := by intro q hq; simp [Kd.int, Kd.scalar] at hq; omega
 have k1 := blk_set h6 0 (.int .i64 p0)
 have k2 := blk_set k1 1 (.slice B1 s0.length e1)
 have k3 := blk_set k2 2 (.slice B2 t0.length e2)
 have r1 := Kd.R_set (Kd.R_set (Kd.R_set h1 h6 ht 0 (.int .i64 p0)) k1 ht 1 (.slice B1 s0.length e1)) k2 ht 2 (.slice B2 t0.length e2)
 have r2 := Kd.R_set (Kd.R_set (Kd.R_set h2 h6 ht 0 (.int .i64 p0)) k1 ht 1 (.slice B1 s0.length e1)) k2 ht 2 (.slice B2 t0.length e2)
 exact ⟨((hb.setCell (p := ⟨g6, 0, none⟩) hg _).setCell (p := ⟨g6, 1, none⟩) hg _).setCell (p := ⟨g6, 2, none⟩) hg _, blk_far (blk_far (blk_far h3 hne _) hne _) hne _, k3, (Kd.R_reads' r1).2.2, (Kd.R_reads' r1).2.1, (Kd.R_reads' r2).2.2, (Kd.R_reads' r2).2.1⟩
end
def laws_FnExactStepMachine.tail (k : Nat) (c : List S48) (m : Int × List Int × List Int) (W0 G0 : Int × List Int × List Int × Int) : Option Bool := if G0.2.2.2 = W0.2.2.2 then (laws_eqMachine.f k G0.1 G0.2.1 G0.2.2.1 W0.1 W0.2.1 W0.2.2.1).bind fun t1 => (laws_eqOpS.f k c c).bind fun t2 => (laws_eqMachine.f k m.1 m.2.1 m.2.2 m.1 m.2.1 m.2.2).bind fun t3 => (laws_markOpS.f k c 1).bind fun q1 => (laws_markMachine.f k m.1 m.2.1 m.2.2 q1.1).bind fun q2 => (laws_markMachine.f k G0.1 G0.2.1 G0.2.2.1 1).bind fun q3 => (laws_heldMachine.f k G0.1 q3.2.1 q3.2.2 1).bind fun q => if t1 = true ∧ t2 = true ∧ t3 = true ∧ 0 ≤ q2.1 ∧ 0 ≤ q ∧ q = q3.1 then some true else none else none
def laws_FnExactStepMachine.f (k : Nat) (l0 : List S65) (a1_0 : Int) (l1_1 l1_2 : List Int) : Option Bool := (laws_szOpS.f l0 1048576).bind fun z => if z < 0 then some true else (laws_szMachine.f a1_0 l1_1 l1_2 z).bind fun z2 => if z2 < 0 then some true else (laws_toOpS.f k l0).bind fun c => (laws_toMachine.f k a1_0 l1_1 l1_2).bind fun m => (spec_StepMachine.f k c m.1 m.2.1 m.2.2).bind fun W0 => (impl_StepMachine.f k c m.1 m.2.1 m.2.2).bind fun G0 => laws_FnExactStepMachine.tail k c m W0 G0
theorem laws_FnExactStepMachine.mono : ∀ a b c d k, LeO (laws_FnExactStepMachine.f k a b c d) (laws_FnExactStepMachine.f (k + 1) a b c d) := fun a b c d k => LeO.bind (LeO.refl _) fun z => LeO.ite (LeO.refl _) (LeO.bind (LeO.refl _) fun z2 => LeO.ite (LeO.refl _) (LeO.bind (laws_toOpS.mono _ k) fun c => LeO.bind (laws_toMachine.mono _ _ _ k) fun m => LeO.bind (spec_StepMachine.mono _ _ _ _ k) fun W0 => LeO.bind (impl_StepMachine.mono _ _ _ _ k) fun G0 => LeO.ite (LeO.bind (laws_eqMachine.mono _ _ _ _ _ _ k) fun t1 => LeO.bind (laws_eqOpS.mono _ _ k) fun t2 => LeO.bind (laws_eqMachine.mono _ _ _ _ _ _ k) fun t3 => LeO.bind (laws_markOpS.mono _ _ k) fun q1 => LeO.bind (laws_markMachine.mono _ _ _ _ k) fun q2 => LeO.bind (laws_markMachine.mono _ _ _ _ k) fun q3 => LeO.bind (laws_heldMachine.mono _ _ _ _ k) fun q => LeO.refl _) (LeO.refl _)))
theorem laws_FnExactStepMachine.calls (k : Nat) (A0 : Option Addr) (c0 : Nat) (l0 : List (S65)) (a1_0 : Int) (A1_1 : Option Addr) (c1_1 : Nat) (l1_1 : List Int) (A1_2 : Option Addr) (c1_2 : Nat) (l1_2 : List Int) (r : Bool) (w : World) (hr0 : Kd.C k65 w A0 l0.length l0) (hc0 : l0.length ≤ c0) (hr1_1 : Kd.C (Kd.int .i64) w A1_1 l1_1.length l1_1) (hc1_1 : l1_1.length ≤ c1_1) (hr1_2 : Kd.C (Kd.int .i64) w A1_2 l1_2.length l1_2) (hc1_2 : l1_2.length ≤ c1_2) (h : laws_FnExactStepMachine.f k l0 a1_0 l1_1 l1_2 = some r) :
  Calls Try.prog 3 #[.slice A0 l0.length c0, .agg #[.int .i64 a1_0, .slice A1_1 l1_1.length c1_1, .slice A1_2 l1_2.length c1_2]] w fun e w' => e = .returned (.bool r) ∧ Below w.heap.size w w' := by
 unfold laws_FnExactStepMachine.f at h
 obtain ⟨z, hz, h1⟩ := Option.bind_eq_some_iff.1 h
 clear h
 have HR0 := Ak hr0
 have HR1 := Ak hr1_1
 have HR2 := Ak hr1_2
 have HC0 := Ak hc0
 have HC1 := Ak hc1_1
 have HC2 := Ak hc1_2
 replace hz := Ak hz
 clear hr0 hr1_1 hr1_2 hc0 hc1_1 hc1_2
 by_cases c1 : z < 0
 ·rw [if_pos c1] at h1
  obtain rfl := Option.some.inj h1
  have b1 : decide (z < 0) = true := decide_eq_true c1
  clear c1 h1
  go_enter Try.func3, Try.ntmps3
  go_upto_region 1 with fail
  have HB0 := Ak (below_alloc (Below.refl w.heap.size w) (.cells #[.int .i64 a1_0, .slice A1_1 l1_1.length c1_1, .slice A1_2 l1_2.length c1_2] 25))
  have HG3 := Ak (blk_new w (.cells #[.int .i64 a1_0, .slice A1_1 l1_1.length c1_1, .slice A1_2 l1_2.length c1_2] 25))
  generalize w.alloc (.cells #[.int .i64 a1_0, .slice A1_1 l1_1.length c1_1, .slice A1_2 l1_2.length c1_2] 25) = W0 at HB0 HG3 ⊢
  obtain ⟨g3, hg3⟩ : ∃ g, g = w.heap.size := ⟨_, rfl⟩
  rw [← hg3] at HG3 ⊢
  replace hg3 := Ak hg3
  go_wp2_with ((go_at_call 8; with_reducible refine (laws_szOpS.calls A0 c0 l0 1048576 z _ (Kd.C_below HR0.out HB0.out) HC0.out hz.out).mono ?_; rintro e w1 ⟨rfl, hd⟩); have HB1 := Ak (below_step HB0.out hd.below); have HG1 := Ak (blk_below HG3.out hd.below); have m0 : w1.cell? ⟨g3, 0, none⟩ = some (.int .i64 a1_0) := (blk_cell HG1.out 0).trans rfl; have m1 : w1.cell? ⟨g3, 1, none⟩ = some (.slice A1_1 l1_1.length c1_1) := (blk_cell HG1.out 1).trans rfl; have m2 : w1.cell? ⟨g3, 2, none⟩ = some (.slice A1_2 l1_2.length c1_2) := (blk_cell HG1.out 2).trans rfl; clear hd)
  go_ret
  exact ⟨rfl, HB1.out⟩
 rw [if_neg c1] at h1
 have b1 : decide (z < 0) = false := decide_eq_false c1
 obtain ⟨z2, hz2, h⟩ := Option.bind_eq_some_iff.1 h1
 clear h1 c1
 replace hz2 := Ak hz2
 by_cases c1 : z2 < 0
 ·rw [if_pos c1] at h
  obtain rfl := Option.some.inj h
  have b2 : decide (z2 < 0) = true := decide_eq_true c1
  clear c1 h
  go_enter Try.func3, Try.ntmps3
  go_upto_region 1 with fail
  have HB0 := Ak (below_alloc (Below.refl w.heap.size w) (.cells #[.int .i64 a1_0, .slice A1_1 l1_1.length c1_1, .slice A1_2 l1_2.length c1_2] 25))
  have HG3 := Ak (blk_new w (.cells #[.int .i64 a1_0, .slice A1_1 l1_1.length c1_1, .slice A1_2 l1_2.length c1_2] 25))
  generalize w.alloc (.cells #[.int .i64 a1_0, .slice A1_1 l1_1.length c1_1, .slice A1_2 l1_2.length c1_2] 25) = W0 at HB0 HG3 ⊢
  obtain ⟨g3, hg3⟩ : ∃ g, g = w.heap.size := ⟨_, rfl⟩
  rw [← hg3] at HG3 ⊢
  replace hg3 := Ak hg3
  go_wp2_with (first | ((go_at_call 8; with_reducible refine (laws_szOpS.calls A0 c0 l0 1048576 z _ (Kd.C_below HR0.out HB0.out) HC0.out hz.out).mono ?_; rintro e w1 ⟨rfl, hd⟩); have HB1 := Ak (below_step HB0.out hd.below); have HG1 := Ak (blk_below HG3.out hd.below); have m0 : w1.cell? ⟨g3, 0, none⟩ = some (.int .i64 a1_0) := (blk_cell HG1.out 0).trans rfl; have m1 : w1.cell? ⟨g3, 1, none⟩ = some (.slice A1_1 l1_1.length c1_1) := (blk_cell HG1.out 1).trans rfl; have m2 : w1.cell? ⟨g3, 2, none⟩ = some (.slice A1_2 l1_2.length c1_2) := (blk_cell HG1.out 2).trans rfl; clear hd) | ((go_at_call 9; with_reducible refine (laws_szMachine.calls a1_0 A1_1 c1_1 l1_1 A1_2 c1_2 l1_2 z z2 _ (Kd.C_below HR1.out HB1.out) HC1.out (Kd.C_below HR2.out HB1.out) HC2.out hz2.out).mono ?_; rintro e w2 ⟨rfl, hd⟩); clear m0 m1 m2; have HB2 := Ak (below_step HB1.out hd); have HG2 := Ak (blk_below HG1.out hd); have m0 : w2.cell? ⟨g3, 0, none⟩ = some (.int .i64 a1_0) := (blk_cell HG2.out 0).trans rfl; have m1 : w2.cell? ⟨g3, 1, none⟩ = some (.slice A1_1 l1_1.length c1_1) := (blk_cell HG2.out 1).trans rfl; have m2 : w2.cell? ⟨g3, 2, none⟩ = some (.slice A1_2 l1_2.length c1_2) := (blk_cell HG2.out 2).trans rfl; clear hd))
  go_ret
  exact ⟨rfl, HB2.out⟩
 rw [if_neg c1] at h
 have b2 : decide (z2 < 0) = false := decide_eq_false c1
 clear c1
 obtain ⟨c, hcc, h1⟩ := Option.bind_eq_some_iff.1 h
 obtain ⟨⟨pm, sm, tm⟩, hmm, h2⟩ := Option.bind_eq_some_iff.1 h1
 obtain ⟨⟨p0, s0, t0, how⟩, hsp, h3⟩ := Option.bind_eq_some_iff.1 h2
 obtain ⟨⟨pg, sg, tg, how2⟩, him, h4⟩ := Option.bind_eq_some_iff.1 h3
 clear h h1 h2 h3
 unfold laws_FnExactStepMachine.tail at h4
 dsimp only at h4 hsp him
 by_cases ch : how2 = how
 case neg => rw [if_neg ch] at h4; exact absurd h4 (by simp)
 rw [if_pos ch] at h4
 subst ch
 obtain ⟨t1, ht1, h5⟩ := Option.bind_eq_some_iff.1 h4
 obtain ⟨t2, ht2, h6⟩ := Option.bind_eq_some_iff.1 h5
 obtain ⟨t3, ht3, h7⟩ := Option.bind_eq_some_iff.1 h6
 obtain ⟨⟨q1, cm⟩, hq1, h8⟩ := Option.bind_eq_some_iff.1 h7
 obtain ⟨⟨q2, sm', tm'⟩, hq2, h9⟩ := Option.bind_eq_some_iff.1 h8
 obtain ⟨⟨q3, sg', tg'⟩, hq3, h10⟩ := Option.bind_eq_some_iff.1 h9
 obtain ⟨q, hq, h11⟩ := Option.bind_eq_some_iff.1 h10
 clear h4 h5 h6 h7 h8 h9 h10
 dsimp only at hq2 hq3 hq h11
 by_cases cq : t1 = true ∧ t2 = true ∧ t3 = true ∧ 0 ≤ q2 ∧ 0 ≤ q ∧ q = q3
 case neg => rw [if_neg cq] at h11; exact absurd h11 (by simp)
 rw [if_pos cq] at h11
 obtain rfl := Option.some.inj h11
 obtain ⟨rfl, rfl, rfl, hq20, hq0, rfl⟩ := cq
 clear h11
 have b3 : decide (q2 < 0) = false := decide_eq_false (by omega)
 have b4 : decide (q < 0) = false := decide_eq_false (by omega)
 have b5 : (q != q) = false := by simp
 have b6 : (how2 != how2) = false := by simp
 clear hq20 hq0
 replace hcc := Ak hcc
 replace hmm := Ak hmm
 replace hsp := Ak hsp
 replace him := Ak him
 replace ht1 := Ak ht1
 replace ht2 := Ak ht2
 replace ht3 := Ak ht3
 replace hq1 := Ak hq1
 replace hq2 := Ak hq2
 replace hq3 := Ak hq3
 replace hq := Ak hq
 go_enter Try.func3, Try.ntmps3
 go_upto_region 1 with fail
 have HB0 := Ak (below_alloc (Below.refl w.heap.size w) (.cells #[.int .i64 a1_0, .slice A1_1 l1_1.length c1_1, .slice A1_2 l1_2.length c1_2] 25))
 have HG3 := Ak (blk_new w (.cells #[.int .i64 a1_0, .slice A1_1 l1_1.length c1_1, .slice A1_2 l1_2.length c1_2] 25))
 generalize w.alloc (.cells #[.int .i64 a1_0, .slice A1_1 l1_1.length c1_1, .slice A1_2 l1_2.length c1_2] 25) = W0 at HB0 HG3 ⊢
 obtain ⟨g3, hg3⟩ : ∃ g, g = w.heap.size := ⟨_, rfl⟩
 rw [← hg3] at HG3 ⊢
 replace hg3 := Ak hg3
 go_upto_region 8 with (first | ((go_at_call 8; with_reducible refine (laws_szOpS.calls A0 c0 l0 1048576 z _ (Kd.C_below HR0.out HB0.out) HC0.out hz.out).mono ?_; rintro e w1 ⟨rfl, hd⟩); have HB1 := Ak (below_step HB0.out hd.below); have HG1 := Ak (blk_below HG3.out hd.below); have m0 : w1.cell? ⟨g3, 0, none⟩ = some (.int .i64 a1_0) := (blk_cell HG1.out 0).trans rfl; have m1 : w1.cell? ⟨g3, 1, none⟩ = some (.slice A1_1 l1_1.length c1_1) := (blk_cell HG1.out 1).trans rfl; have m2 : w1.cell? ⟨g3, 2, none⟩ = some (.slice A1_2 l1_2.length c1_2) := (blk_cell HG1.out 2).trans rfl; clear hd) | ((go_at_call 9; with_reducible refine (laws_szMachine.calls a1_0 A1_1 c1_1 l1_1 A1_2 c1_2 l1_2 z z2 _ (Kd.C_below HR1.out HB1.out) HC1.out (Kd.C_below HR2.out HB1.out) HC2.out hz2.out).mono ?_; rintro e w2 ⟨rfl, hd⟩); clear m0 m1 m2; have HB2 := Ak (below_step HB1.out hd); have HG2 := Ak (blk_below HG1.out hd); have m0 : w2.cell? ⟨g3, 0, none⟩ = some (.int .i64 a1_0) := (blk_cell HG2.out 0).trans rfl; have m1 : w2.cell? ⟨g3, 1, none⟩ = some (.slice A1_1 l1_1.length c1_1) := (blk_cell HG2.out 1).trans rfl; have m2 : w2.cell? ⟨g3, 2, none⟩ = some (.slice A1_2 l1_2.length c1_2) := (blk_cell HG2.out 2).trans rfl; clear hd))
 go_cut [6, 7] (fun v6 v7 w' => ∃ (g6 : Nat) (B1 : Option Addr) (e1 : Nat) (B2 : Option Addr) (e2 : Nat), v6 = .pointer (some ⟨g6, 0, none⟩) ∧ v7 = .int .i64 how2 ∧ laws_FnExactStepMachine.Bs w w' g3 g6 a1_0 (.slice A1_1 l1_1.length c1_1) (.slice A1_2 l1_2.length c1_2) p0 B1 e1 s0 B2 e2 t0)
 case first =>
  go_region_held3 (fun w' => w'.cell? ⟨g3, 0, none⟩ = some (.int .i64 a1_0) ∧ w'.cell? ⟨g3, 1, none⟩ = some (.slice A1_1 l1_1.length c1_1) ∧ w'.cell? ⟨g3, 2, none⟩ = some (.slice A1_2 l1_2.length c1_2)) (first | assumption | exact ⟨by assumption, by assumption, by assumption⟩ | go_keep) ((first | ((go_at_call 10; have HBc := HB4.out; have HGc := HG5.out; have HGa := HG7.out; have Xa := HX4.out; have Ha := H1.out; have Hb := H2.out; with_reducible refine (spec_StepMachine.calls k Aq cq c pm Q1 j1 sm Q2 j2 tm p0 s0 t0 how2 _ (Kd.R_reads' Xa).2.2 (Kd.R_reads' Xa).2.1 (Kd.R_reads' Ha).2.2 (Kd.R_reads' Ha).2.1 (Kd.R_reads' Hb).2.2 (Kd.R_reads' Hb).2.1 hsp.out).mono ?_; rintro e w5 ⟨v3, v4, rfl, h3, h4, hd⟩); obtain ⟨B1, e1, rfl⟩ := Kd.R_slice h3; obtain ⟨B2, e2, rfl⟩ := Kd.R_slice h4; have H3 := Ak h3; have H4 := Ak h4; have HB5 := Ak (below_step HBc hd); have HG6 := Ak (blk_below HGc hd); have HG7 := Ak (blk_below HGa hd); clear HGa; have m0 : w5.cell? ⟨g3, 0, none⟩ = some (.int .i64 a1_0) := (blk_cell HG6.out 0).trans rfl; have m1 : w5.cell? ⟨g3, 1, none⟩ = some (.slice A1_1 l1_1.length c1_1) := (blk_cell HG6.out 1).trans rfl; have m2 : w5.cell? ⟨g3, 2, none⟩ = some (.slice A1_2 l1_2.length c1_2) := (blk_cell HG6.out 2).trans rfl; have f0 := blk_frozen HG7.out 0; have f1 := blk_frozen HG7.out 1; have f2 := blk_frozen HG7.out 2; have n0 : w5.cell? ⟨g6, 0, none⟩ = some (.int .i64 0) := (blk_cell HG7.out 0).trans rfl; have n1 : w5.cell? ⟨g6, 1, none⟩ = some (.slice none 0 0) := (blk_cell HG7.out 1).trans rfl; have n2 : w5.cell? ⟨g6, 2, none⟩ = some (.slice none 0 0) := (blk_cell HG7.out 2).trans rfl; clear h3 h4 hd HBc HGc Xa Ha Hb) | ((go_at_call 10; have hBa := below_alloc (Below.refl w4.heap.size w4) (.cells #[.int .i64 0, .slice none 0 0, .slice none 0 0] 28); have HGa := blk_new w4 (.cells #[.int .i64 0, .slice none 0 0, .slice none 0 0] 28); have HBc := below_step HB4.out hBa; have HGc := blk_below HG5.out hBa; have k1 : w4.heap.size ≠ g3 := World.new_ne w4 _ m0; have k2 := k1.symm; have Xa := Kd.R_below HX4.out hBa; have Ha := Kd.R_below H1.out hBa; have Hb := Kd.R_below H2.out hBa; with_reducible refine (spec_StepMachine.calls k Aq cq c pm Q1 j1 sm Q2 j2 tm p0 s0 t0 how2 (w4.alloc _) (Kd.R_reads' Xa).2.2 (Kd.R_reads' Xa).2.1 (Kd.R_reads' Ha).2.2 (Kd.R_reads' Ha).2.1 (Kd.R_reads' Hb).2.2 (Kd.R_reads' Hb).2.1 hsp.out).mono ?_; rintro e w5 ⟨v3, v4, rfl, h3, h4, hd⟩); obtain ⟨B1, e1, rfl⟩ := Kd.R_slice h3; obtain ⟨B2, e2, rfl⟩ := Kd.R_slice h4; have H3 := Ak h3; have H4 := Ak h4; have HB5 := Ak (below_step HBc hd); have HG6 := Ak (blk_below HGc hd); have HG7 := Ak (blk_below HGa hd); obtain ⟨g6, hg6⟩ : ∃ g, g = w4.heap.size := ⟨_, rfl⟩; have hge := Ak (Nat.le_trans (HB4.out).size (Nat.le_of_eq hg6.symm)); rw [← hg6] at HG7 k1 k2 ⊢; replace hg6 := Ak hg6; clear hBa; clear HGa; have m0 : w5.cell? ⟨g3, 0, none⟩ = some (.int .i64 a1_0) := (blk_cell HG6.out 0).trans rfl; have m1 : w5.cell? ⟨g3, 1, none⟩ = some (.slice A1_1 l1_1.length c1_1) := (blk_cell HG6.out 1).trans rfl; have m2 : w5.cell? ⟨g3, 2, none⟩ = some (.slice A1_2 l1_2.length c1_2) := (blk_cell HG6.out 2).trans rfl; have f0 := blk_frozen HG7.out 0; have f1 := blk_frozen HG7.out 1; have f2 := blk_frozen HG7.out 2; have n0 : w5.cell? ⟨g6, 0, none⟩ = some (.int .i64 0) := (blk_cell HG7.out 0).trans rfl; have n1 : w5.cell? ⟨g6, 1, none⟩ = some (.slice none 0 0) := (blk_cell HG7.out 1).trans rfl; have n2 : w5.cell? ⟨g6, 2, none⟩ = some (.slice none 0 0) := (blk_cell HG7.out 2).trans rfl; clear h3 h4 hd HBc HGc Xa Ha Hb) | ((go_at_call 10; have HBc := HB4.out; have HGc := HG5.out; have Xa := HX4.out; have Ha := H1.out; have Hb := H2.out; with_reducible refine (spec_StepMachine.calls k Aq cq c pm Q1 j1 sm Q2 j2 tm p0 s0 t0 how2 _ (Kd.R_reads' Xa).2.2 (Kd.R_reads' Xa).2.1 (Kd.R_reads' Ha).2.2 (Kd.R_reads' Ha).2.1 (Kd.R_reads' Hb).2.2 (Kd.R_reads' Hb).2.1 hsp.out).mono ?_; rintro e w5 ⟨v3, v4, rfl, h3, h4, hd⟩); obtain ⟨B1, e1, rfl⟩ := Kd.R_slice h3; obtain ⟨B2, e2, rfl⟩ := Kd.R_slice h4; have H3 := Ak h3; have H4 := Ak h4; have HB5 := Ak (below_step HBc hd); have HG6 := Ak (blk_below HGc hd); have m0 : w5.cell? ⟨g3, 0, none⟩ = some (.int .i64 a1_0) := (blk_cell HG6.out 0).trans rfl; have m1 : w5.cell? ⟨g3, 1, none⟩ = some (.slice A1_1 l1_1.length c1_1) := (blk_cell HG6.out 1).trans rfl; have m2 : w5.cell? ⟨g3, 2, none⟩ = some (.slice A1_2 l1_2.length c1_2) := (blk_cell HG6.out 2).trans rfl; have k1 : w5.heap.size ≠ g3 := World.new_ne w5 _ m0; have k2 := k1.symm; clear h3 h4 hd HBc HGc Xa Ha Hb) | ((go_at_call 12; have HBc := HB3.out; have HGc := HG4.out; have HGa := HG7.out; have Xa := HX3.out; with_reducible refine (laws_toMachine.calls k a1_0 A1_1 c1_1 l1_1 A1_2 c1_2 l1_2 pm sm tm _ (Kd.C_below HR1.out HBc) HC1.out (Kd.C_below HR2.out HBc) HC2.out hmm.out).mono ?_; rintro e w4 ⟨v1, v2, rfl, h1, h2, hd⟩); obtain ⟨Q1, j1, rfl⟩ := Kd.R_slice h1; obtain ⟨Q2, j2, rfl⟩ := Kd.R_slice h2; have H1 := Ak h1; have H2 := Ak h2; have HX4 := Ak (Kd.R_below Xa hd); have HB4 := Ak (below_step HBc hd); have HG5 := Ak (blk_below HGc hd); have HG7 := Ak (blk_below HGa hd); clear HGa; have m0 : w4.cell? ⟨g3, 0, none⟩ = some (.int .i64 a1_0) := (blk_cell HG5.out 0).trans rfl; have m1 : w4.cell? ⟨g3, 1, none⟩ = some (.slice A1_1 l1_1.length c1_1) := (blk_cell HG5.out 1).trans rfl; have m2 : w4.cell? ⟨g3, 2, none⟩ = some (.slice A1_2 l1_2.length c1_2) := (blk_cell HG5.out 2).trans rfl; clear h1 h2 hd HBc HGc Xa) | ((go_at_call 12; have hBa := below_alloc (Below.refl w3.heap.size w3) (.cells #[.int .i64 0, .slice none 0 0, .slice none 0 0] 28); have HGa := blk_new w3 (.cells #[.int .i64 0, .slice none 0 0, .slice none 0 0] 28); have HBc := below_step HB3.out hBa; have HGc := blk_below HG4.out hBa; have k1 : w3.heap.size ≠ g3 := World.new_ne w3 _ m0; have k2 := k1.symm; have Xa := Kd.R_below HX3.out hBa; with_reducible refine (laws_toMachine.calls k a1_0 A1_1 c1_1 l1_1 A1_2 c1_2 l1_2 pm sm tm (w3.alloc _) (Kd.C_below HR1.out HBc) HC1.out (Kd.C_below HR2.out HBc) HC2.out hmm.out).mono ?_; rintro e w4 ⟨v1, v2, rfl, h1, h2, hd⟩); obtain ⟨Q1, j1, rfl⟩ := Kd.R_slice h1; obtain ⟨Q2, j2, rfl⟩ := Kd.R_slice h2; have H1 := Ak h1; have H2 := Ak h2; have HX4 := Ak (Kd.R_below Xa hd); have HB4 := Ak (below_step HBc hd); have HG5 := Ak (blk_below HGc hd); have HG7 := Ak (blk_below HGa hd); obtain ⟨g6, hg6⟩ : ∃ g, g = w3.heap.size := ⟨_, rfl⟩; have hge := Ak (Nat.le_trans (HB3.out).size (Nat.le_of_eq hg6.symm)); rw [← hg6] at HG7 k1 k2 ⊢; replace hg6 := Ak hg6; clear hBa; clear HGa; have m0 : w4.cell? ⟨g3, 0, none⟩ = some (.int .i64 a1_0) := (blk_cell HG5.out 0).trans rfl; have m1 : w4.cell? ⟨g3, 1, none⟩ = some (.slice A1_1 l1_1.length c1_1) := (blk_cell HG5.out 1).trans rfl; have m2 : w4.cell? ⟨g3, 2, none⟩ = some (.slice A1_2 l1_2.length c1_2) := (blk_cell HG5.out 2).trans rfl; clear h1 h2 hd HBc HGc Xa) | ((go_at_call 12; have HBc := HB3.out; have HGc := HG4.out; have Xa := HX3.out; with_reducible refine (laws_toMachine.calls k a1_0 A1_1 c1_1 l1_1 A1_2 c1_2 l1_2 pm sm tm _ (Kd.C_below HR1.out HBc) HC1.out (Kd.C_below HR2.out HBc) HC2.out hmm.out).mono ?_; rintro e w4 ⟨v1, v2, rfl, h1, h2, hd⟩); obtain ⟨Q1, j1, rfl⟩ := Kd.R_slice h1; obtain ⟨Q2, j2, rfl⟩ := Kd.R_slice h2; have H1 := Ak h1; have H2 := Ak h2; have HX4 := Ak (Kd.R_below Xa hd); have HB4 := Ak (below_step HBc hd); have HG5 := Ak (blk_below HGc hd); have m0 : w4.cell? ⟨g3, 0, none⟩ = some (.int .i64 a1_0) := (blk_cell HG5.out 0).trans rfl; have m1 : w4.cell? ⟨g3, 1, none⟩ = some (.slice A1_1 l1_1.length c1_1) := (blk_cell HG5.out 1).trans rfl; have m2 : w4.cell? ⟨g3, 2, none⟩ = some (.slice A1_2 l1_2.length c1_2) := (blk_cell HG5.out 2).trans rfl; clear h1 h2 hd HBc HGc Xa) | ((go_at_call 11; have HBc := (below_drew1 HB2.out); have HGc := (blk_drew HG2.out); with_reducible refine (laws_toOpS.calls k A0 c0 l0 c _ (Kd.C_below HR0.out HBc) HC0.out hcc.out).mono ?_; rintro e w3 ⟨v0, rfl, hx, hd⟩); obtain ⟨Aq, cq, rfl⟩ := Kd.R_slice hx; have HX3 := Ak hx; have HB3 := Ak (below_step HBc hd); have HG4 := Ak (blk_below HGc hd); have m0 : w3.cell? ⟨g3, 0, none⟩ = some (.int .i64 a1_0) := (blk_cell HG4.out 0).trans rfl; have m1 : w3.cell? ⟨g3, 1, none⟩ = some (.slice A1_1 l1_1.length c1_1) := (blk_cell HG4.out 1).trans rfl; have m2 : w3.cell? ⟨g3, 2, none⟩ = some (.slice A1_2 l1_2.length c1_2) := (blk_cell HG4.out 2).trans rfl; clear hx hd HBc HGc) | ((go_at_call 11; have hBa := below_alloc (Below.refl w2.heap.size w2) (.cells #[.int .i64 0, .slice none 0 0, .slice none 0 0] 28); have HGa := blk_drew <| blk_new w2 (.cells #[.int .i64 0, .slice none 0 0, .slice none 0 0] 28); have HBc := below_drew1 (below_step HB2.out hBa); have HGc := blk_drew (blk_below HG2.out hBa); have k1 : w2.heap.size ≠ g3 := World.new_ne w2 _ m0; have k2 := k1.symm; with_reducible refine (laws_toOpS.calls k A0 c0 l0 c (w2.alloc _).drew (Kd.C_below HR0.out HBc) HC0.out hcc.out).mono ?_; rintro e w3 ⟨v0, rfl, hx, hd⟩); obtain ⟨Aq, cq, rfl⟩ := Kd.R_slice hx; have HX3 := Ak hx; have HB3 := Ak (below_step HBc hd); have HG4 := Ak (blk_below HGc hd); have HG7 := Ak (blk_below HGa hd); obtain ⟨g6, hg6⟩ : ∃ g, g = w2.heap.size := ⟨_, rfl⟩; have hge := Ak (Nat.le_trans (HB2.out).size (Nat.le_of_eq hg6.symm)); rw [← hg6] at HG7 k1 k2 ⊢; replace hg6 := Ak hg6; clear hBa; clear HGa; have m0 : w3.cell? ⟨g3, 0, none⟩ = some (.int .i64 a1_0) := (blk_cell HG4.out 0).trans rfl; have m1 : w3.cell? ⟨g3, 1, none⟩ = some (.slice A1_1 l1_1.length c1_1) := (blk_cell HG4.out 1).trans rfl; have m2 : w3.cell? ⟨g3, 2, none⟩ = some (.slice A1_2 l1_2.length c1_2) := (blk_cell HG4.out 2).trans rfl; clear hx hd HBc HGc)))
  all_goals (go_wp2_with fail; go_meet; first | exact ⟨_, _, _, _, _, rfl, rfl, laws_FnExactStepMachine.Bs.filled H3.out H4.out HB5.out hge.out HG7.out HG6.out⟩ | exact ⟨_, _, _, _, _, rfl, rfl, laws_FnExactStepMachine.Bs.fresh H3.out H4.out HB5.out HG6.out⟩)
 case rest =>
 obtain ⟨g6, B1, e1, B2, e2, rfl, rfl, HS⟩ := hcut
 clear m0 m1 m2 HB0 HB1 HB2 HG1 HG2 HG3 hsp
 obtain ⟨m0, m1, m2, n0, n1, n2⟩ := HS.cells (Below.refl _ _)
 go_upto_region 12 with (first | ((go_at_call 11; with_reducible refine (laws_toOpS.calls k A0 c0 l0 c _ (Kd.C_below HR0.out HS.b) HC0.out hcc.out).mono ?_; rintro e w3 ⟨v0, rfl, hx, hx2⟩); obtain ⟨Ax, cx, rfl⟩ := Kd.R_slice hx; have HX := Ak hx; have HX2 := Ak hx2; clear hx hx2 m0 m1 m2 n0 n1 n2; obtain ⟨m0, m1, m2, n0, n1, n2⟩ := HS.cells HX2.out) | ((go_at_call 12; with_reducible refine (laws_toMachine.calls k a1_0 A1_1 c1_1 l1_1 A1_2 c1_2 l1_2 pm sm tm _ (Kd.C_below HR1.out (below_step HS.b HX2.out)) HC1.out (Kd.C_below HR2.out (below_step HS.b HX2.out)) HC2.out hmm.out).mono ?_; rintro e w4 ⟨v1, v2, rfl, h1, h2, hd⟩); obtain ⟨A1, d1, rfl⟩ := Kd.R_slice h1; obtain ⟨A2, d2, rfl⟩ := Kd.R_slice h2; have H1 := Ak h1; have H2 := Ak h2; have HD4 := Ak hd; clear h1 h2 hd m0 m1 m2 n0 n1 n2) | ((go_at_call 13; have al := below_alloc (Below.refl w4.heap.size w4) (.cells #[.int .i64 pm, .slice A1 sm.length d1, .slice A2 tm.length d2] 28); have Xa := Kd.R_below (Kd.R_below HX.out HD4.out) al; have Ha := Kd.R_below H1.out al; have Hb := Kd.R_below H2.out al; with_reducible refine (impl_StepMachine.calls k Ax cx c pm A1 d1 sm A2 d2 tm pg sg tg how2 _ (Kd.R_reads' Xa).2.2 (Kd.R_reads' Xa).2.1 (Kd.R_reads' Ha).2.2 (Kd.R_reads' Ha).2.1 (Kd.R_reads' Hb).2.2 (Kd.R_reads' Hb).2.1 him.out).mono ?_; rintro e w5 ⟨v3, v4, rfl, h3, h4, hd⟩); obtain ⟨G1, k1, rfl⟩ := Kd.R_slice h3; obtain ⟨G2, k2, rfl⟩ := Kd.R_slice h4; have H3 := Ak h3; have H4 := Ak h4; have HD5 := Ak hd; clear h3 h4 hd al Xa Ha Hb))
 have HC := laws_FnExactStepMachine.Cr.start (p9 := pm) (p10 := pg) HX.out HX2.out H1.out H2.out HD4.out H3.out H4.out HD5.out
 clear HX HX2 H1 H2 H3 H4 HD4 HD5
 generalize w5.alloc (.cells #[.int .i64 pg, .slice G1 sg.length k1, .slice G2 tg.length k2] 28) = W at HC ⊢
 generalize w5.heap.size = g10 at HC ⊢
 generalize w4.heap.size = g9 at HC ⊢
 obtain ⟨m0, m1, m2, n0, n1, n2⟩ := HS.cells HC.b; obtain ⟨x0, x1, x2, y0, y1, y2⟩ := HC.cells
 go_upto_region 16 with (first | ((go_at_call 14; with_reducible refine (laws_eqMachine.calls k pg G1 k1 sg G2 k2 tg p0 B1 e1 s0 B2 e2 t0 true _ (Kd.R_reads' HC.r3).2.2 (Kd.R_reads' HC.r3).2.1 (Kd.R_reads' HC.r4).2.2 (Kd.R_reads' HC.r4).2.1 (Kd.C_below HS.c1 HC.b) HS.l1 (Kd.C_below HS.c2 HC.b) HS.l2 ht1.out).mono ?_; rintro e W_ ⟨rfl, hd⟩); clear m0 m1 m2 n0 n1 n2 x0 x1 x2 y0 y1 y2; replace HC := HC.below hd; clear hd; obtain ⟨m0, m1, m2, n0, n1, n2⟩ := HS.cells HC.b; obtain ⟨x0, x1, x2, y0, y1, y2⟩ := HC.cells) | ((go_at_call 11; with_reducible refine (laws_toOpS.calls k A0 c0 l0 c _ (Kd.C_below HR0.out (below_step HS.b HC.b)) HC0.out hcc.out).mono ?_; rintro e W_ ⟨v0, rfl, hx, hd⟩); obtain ⟨Ay, cy, rfl⟩ := Kd.R_slice hx; have HY := Ak hx; clear hx; clear m0 m1 m2 n0 n1 n2 x0 x1 x2 y0 y1 y2; replace HC := HC.below hd; clear hd; obtain ⟨m0, m1, m2, n0, n1, n2⟩ := HS.cells HC.b; obtain ⟨x0, x1, x2, y0, y1, y2⟩ := HC.cells) | ((go_at_call 15; with_reducible refine (laws_eqOpS.calls k Ax cx c Ay cy c true _ (Kd.R_reads' HC.x).2.2 (Kd.R_reads' HC.x).2.1 (Kd.R_reads' HY.out).2.2 (Kd.R_reads' HY.out).2.1 ht2.out).mono ?_; rintro e W_ ⟨rfl, hd⟩); clear HY; clear m0 m1 m2 n0 n1 n2 x0 x1 x2 y0 y1 y2; replace HC := HC.below hd; clear hd; obtain ⟨m0, m1, m2, n0, n1, n2⟩ := HS.cells HC.b; obtain ⟨x0, x1, x2, y0, y1, y2⟩ := HC.cells))
 go_region_held3 (fun w' => w'.cell? ⟨g3, 0, none⟩ = some (.int .i64 a1_0) ∧ w'.cell? ⟨g3, 1, none⟩ = some (.slice A1_1 l1_1.length c1_1) ∧ w'.cell? ⟨g3, 2, none⟩ = some (.slice A1_2 l1_2.length c1_2) ∧ w'.cell? ⟨g9, 0, none⟩ = some (.int .i64 pm) ∧ w'.cell? ⟨g9, 1, none⟩ = some (.slice A1 sm.length d1) ∧ w'.cell? ⟨g9, 2, none⟩ = some (.slice A2 tm.length d2)) (first | assumption | exact ⟨by assumption, by assumption, by assumption, by assumption, by assumption, by assumption⟩ | go_keep) ((first | ((go_at_call 12; with_reducible refine (laws_toMachine.calls k a1_0 A1_1 c1_1 l1_1 A1_2 c1_2 l1_2 pm sm tm _ (Kd.C_below HR1.out (below_drew1 (below_step HS.b HC.b))) HC1.out (Kd.C_below HR2.out (below_drew1 (below_step HS.b HC.b))) HC2.out hmm.out).mono ?_; rintro e W_ ⟨v1, v2, rfl, h1, h2, hd⟩); obtain ⟨Y1, j1, rfl⟩ := Kd.R_slice h1; obtain ⟨Y2, j2, rfl⟩ := Kd.R_slice h2; have HY1 := Ak h1; have HY2 := Ak h2; clear h1 h2; replace HC := HC.below (below_drew1 (Below.refl _ _)); clear m0 m1 m2 n0 n1 n2 x0 x1 x2 y0 y1 y2; replace HC := HC.below hd; clear hd; obtain ⟨m0, m1, m2, n0, n1, n2⟩ := HS.cells HC.b; obtain ⟨x0, x1, x2, y0, y1, y2⟩ := HC.cells) | ((go_at_call 14; with_reducible refine (laws_eqMachine.calls k pm A1 d1 sm A2 d2 tm pm Y1 j1 sm Y2 j2 tm true _ (Kd.R_reads' HC.r1).2.2 (Kd.R_reads' HC.r1).2.1 (Kd.R_reads' HC.r2).2.2 (Kd.R_reads' HC.r2).2.1 (Kd.R_reads' HY1.out).2.2 (Kd.R_reads' HY1.out).2.1 (Kd.R_reads' HY2.out).2.2 (Kd.R_reads' HY2.out).2.1 ht3.out).mono ?_; rintro e W_ ⟨rfl, hd⟩); clear HY1 HY2; clear m0 m1 m2 n0 n1 n2 x0 x1 x2 y0 y1 y2; replace HC := HC.below hd; clear hd; obtain ⟨m0, m1, m2, n0, n1, n2⟩ := HS.cells HC.b; obtain ⟨x0, x1, x2, y0, y1, y2⟩ := HC.cells)))
 go_upto_region 31 with (first | ((go_at_call 16; with_reducible refine (laws_markOpS.calls k (fun k => some k = (Value.slice Ax c.length cx).ownBlock) (.slice Ax c.length cx) c 1 q1 cm wc _ HC.b HC.x hq1.out).mono ?_; rintro e W_ ⟨rfl, hx, hb, hk⟩); clear m0 m1 m2 n0 n1 n2 x0 x1 x2 y0 y1 y2; replace HC := HC.mark0 hx hb hk; clear hx hb hk; obtain ⟨m0, m1, m2, n0, n1, n2⟩ := HS.cells HC.b; obtain ⟨x0, x1, x2, y0, y1, y2⟩ := HC.cells) | ((go_at_call 17; with_reducible refine (laws_markMachine.calls k pm (fun k => some k = (Value.slice A1 sm.length d1).ownBlock) (.slice A1 sm.length d1) sm (fun k => some k = (Value.slice A2 tm.length d2).ownBlock) (.slice A2 tm.length d2) tm q1 q2 sm' tm' wc _ HC.b HC.r1 HC.d12 HC.r2 HC.d21 hq2.out).mono ?_; rintro e W_ ⟨rfl, h1, h2, hb, hk⟩); clear m0 m1 m2 n0 n1 n2 x0 x1 x2 y0 y1 y2; replace HC := HC.mark9 h1 h2 hb hk; clear h1 h2 hb hk; obtain ⟨m0, m1, m2, n0, n1, n2⟩ := HS.cells HC.b; obtain ⟨x0, x1, x2, y0, y1, y2⟩ := HC.cells) | ((go_at_call 14; with_reducible refine (laws_eqMachine.calls k pg G1 k1 sg G2 k2 tg p0 B1 e1 s0 B2 e2 t0 true _ (Kd.R_reads' HC.r3).2.2 (Kd.R_reads' HC.r3).2.1 (Kd.R_reads' HC.r4).2.2 (Kd.R_reads' HC.r4).2.1 (Kd.C_below HS.c1 HC.b) HS.l1 (Kd.C_below HS.c2 HC.b) HS.l2 ht1.out).mono ?_; rintro e W_ ⟨rfl, hd⟩); clear m0 m1 m2 n0 n1 n2 x0 x1 x2 y0 y1 y2; replace HC := HC.below hd; clear hd; obtain ⟨m0, m1, m2, n0, n1, n2⟩ := HS.cells HC.b; obtain ⟨x0, x1, x2, y0, y1, y2⟩ := HC.cells) | ((go_at_call 17; with_reducible refine (laws_markMachine.calls k pg (fun k => some k = (Value.slice G1 sg.length k1).ownBlock) (.slice G1 sg.length k1) sg (fun k => some k = (Value.slice G2 tg.length k2).ownBlock) (.slice G2 tg.length k2) tg 1 q sg' tg' wc _ HC.b HC.r3 HC.d34 HC.r4 HC.d43 hq3.out).mono ?_; rintro e W_ ⟨rfl, h1, h2, hb, hk⟩); clear m0 m1 m2 n0 n1 n2 x0 x1 x2 y0 y1 y2; have e1_ := (Kd.R_reads' h1).1; have e2_ := (Kd.R_reads' h2).1; replace HC := HC.mark10 h1 h2 hb hk; rw [e1_, e2_] at HC; clear h1 h2 hb hk e1_ e2_; obtain ⟨m0, m1, m2, n0, n1, n2⟩ := HS.cells HC.b; obtain ⟨x0, x1, x2, y0, y1, y2⟩ := HC.cells) | ((go_at_call 18; with_reducible refine (laws_heldMachine.calls k pg G1 k1 sg' G2 k2 tg' 1 q _ (Kd.R_reads' HC.r3).2.2 (Kd.R_reads' HC.r3).2.1 (Kd.R_reads' HC.r4).2.2 (Kd.R_reads' HC.r4).2.1 hq.out).mono ?_; rintro e W_ ⟨rfl, hd⟩); clear m0 m1 m2 n0 n1 n2 x0 x1 x2 y0 y1 y2; replace HC := HC.below hd; clear hd; obtain ⟨m0, m1, m2, n0, n1, n2⟩ := HS.cells HC.b; obtain ⟨x0, x1, x2, y0, y1, y2⟩ := HC.cells))
 have HBv := Ak (Below.refl W_.heap.size W_)
 have HGv := Ak (blk_below HS.b3 HC.b)
 have HV0 := Ak (Kd.C_below HR0.out (below_step HS.b HC.b))
 have HV1 := Ak (Kd.C_below HR1.out (below_step HS.b HC.b))
 have HV2 := Ak (Kd.C_below HR2.out (below_step HS.b HC.b))
 clear n0 n1 n2 x0 x1 x2 y0 y1 y2
 go_cut [15, 16] (fun v15 v16 w' => ∃ (g15 : Nat) (C1 : Option Addr) (f1 : Nat) (C2 : Option Addr) (f2 : Nat), v15 = .pointer (some ⟨g15, 0, none⟩) ∧ v16 = .int .i64 how2 ∧ laws_FnExactStepMachine.Bs W_ w' g3 g15 a1_0 (.slice A1_1 l1_1.length c1_1) (.slice A1_2 l1_2.length c1_2) pg C1 f1 sg C2 f2 tg)
 case first =>
  go_region_held3 (fun w' => w'.cell? ⟨g3, 0, none⟩ = some (.int .i64 a1_0) ∧ w'.cell? ⟨g3, 1, none⟩ = some (.slice A1_1 l1_1.length c1_1) ∧ w'.cell? ⟨g3, 2, none⟩ = some (.slice A1_2 l1_2.length c1_2)) (first | assumption | exact ⟨by assumption, by assumption, by assumption⟩ | go_keep) ((first | ((go_at_call 13; have HBc := HB4.out; have HGc := HG5.out; have HGa := HG7.out; have Xa := HX4.out; have Ha := H1.out; have Hb := H2.out; with_reducible refine (impl_StepMachine.calls k Aq cq c pm Q1 j1 sm Q2 j2 tm pg sg tg how2 _ (Kd.R_reads' Xa).2.2 (Kd.R_reads' Xa).2.1 (Kd.R_reads' Ha).2.2 (Kd.R_reads' Ha).2.1 (Kd.R_reads' Hb).2.2 (Kd.R_reads' Hb).2.1 him.out).mono ?_; rintro e w5 ⟨v3, v4, rfl, h3, h4, hd⟩); obtain ⟨B1, e1, rfl⟩ := Kd.R_slice h3; obtain ⟨B2, e2, rfl⟩ := Kd.R_slice h4; have H3 := Ak h3; have H4 := Ak h4; have HB5 := Ak (below_step HBc hd); have HG6 := Ak (blk_below HGc hd); have HG7 := Ak (blk_below HGa hd); clear HGa; have m0 : w5.cell? ⟨g3, 0, none⟩ = some (.int .i64 a1_0) := (blk_cell HG6.out 0).trans rfl; have m1 : w5.cell? ⟨g3, 1, none⟩ = some (.slice A1_1 l1_1.length c1_1) := (blk_cell HG6.out 1).trans rfl; have m2 : w5.cell? ⟨g3, 2, none⟩ = some (.slice A1_2 l1_2.length c1_2) := (blk_cell HG6.out 2).trans rfl; have f0 := blk_frozen HG7.out 0; have f1 := blk_frozen HG7.out 1; have f2 := blk_frozen HG7.out 2; have n0 : w5.cell? ⟨g6, 0, none⟩ = some (.int .i64 0) := (blk_cell HG7.out 0).trans rfl; have n1 : w5.cell? ⟨g6, 1, none⟩ = some (.slice none 0 0) := (blk_cell HG7.out 1).trans rfl; have n2 : w5.cell? ⟨g6, 2, none⟩ = some (.slice none 0 0) := (blk_cell HG7.out 2).trans rfl; clear h3 h4 hd HBc HGc Xa Ha Hb) | ((go_at_call 13; have hBa := below_alloc (Below.refl w4.heap.size w4) (.cells #[.int .i64 0, .slice none 0 0, .slice none 0 0] 28); have HGa := blk_new w4 (.cells #[.int .i64 0, .slice none 0 0, .slice none 0 0] 28); have HBc := below_step HB4.out hBa; have HGc := blk_below HG5.out hBa; have k1 : w4.heap.size ≠ g3 := World.new_ne w4 _ m0; have k2 := k1.symm; have Xa := Kd.R_below HX4.out hBa; have Ha := Kd.R_below H1.out hBa; have Hb := Kd.R_below H2.out hBa; with_reducible refine (impl_StepMachine.calls k Aq cq c pm Q1 j1 sm Q2 j2 tm pg sg tg how2 (w4.alloc _) (Kd.R_reads' Xa).2.2 (Kd.R_reads' Xa).2.1 (Kd.R_reads' Ha).2.2 (Kd.R_reads' Ha).2.1 (Kd.R_reads' Hb).2.2 (Kd.R_reads' Hb).2.1 him.out).mono ?_; rintro e w5 ⟨v3, v4, rfl, h3, h4, hd⟩); obtain ⟨B1, e1, rfl⟩ := Kd.R_slice h3; obtain ⟨B2, e2, rfl⟩ := Kd.R_slice h4; have H3 := Ak h3; have H4 := Ak h4; have HB5 := Ak (below_step HBc hd); have HG6 := Ak (blk_below HGc hd); have HG7 := Ak (blk_below HGa hd); obtain ⟨g6, hg6⟩ : ∃ g, g = w4.heap.size := ⟨_, rfl⟩; have hge := Ak (Nat.le_trans (HB4.out).size (Nat.le_of_eq hg6.symm)); rw [← hg6] at HG7 k1 k2 ⊢; replace hg6 := Ak hg6; clear hBa; clear HGa; have m0 : w5.cell? ⟨g3, 0, none⟩ = some (.int .i64 a1_0) := (blk_cell HG6.out 0).trans rfl; have m1 : w5.cell? ⟨g3, 1, none⟩ = some (.slice A1_1 l1_1.length c1_1) := (blk_cell HG6.out 1).trans rfl; have m2 : w5.cell? ⟨g3, 2, none⟩ = some (.slice A1_2 l1_2.length c1_2) := (blk_cell HG6.out 2).trans rfl; have f0 := blk_frozen HG7.out 0; have f1 := blk_frozen HG7.out 1; have f2 := blk_frozen HG7.out 2; have n0 : w5.cell? ⟨g6, 0, none⟩ = some (.int .i64 0) := (blk_cell HG7.out 0).trans rfl; have n1 : w5.cell? ⟨g6, 1, none⟩ = some (.slice none 0 0) := (blk_cell HG7.out 1).trans rfl; have n2 : w5.cell? ⟨g6, 2, none⟩ = some (.slice none 0 0) := (blk_cell HG7.out 2).trans rfl; clear h3 h4 hd HBc HGc Xa Ha Hb) | ((go_at_call 13; have HBc := HB4.out; have HGc := HG5.out; have Xa := HX4.out; have Ha := H1.out; have Hb := H2.out; with_reducible refine (impl_StepMachine.calls k Aq cq c pm Q1 j1 sm Q2 j2 tm pg sg tg how2 _ (Kd.R_reads' Xa).2.2 (Kd.R_reads' Xa).2.1 (Kd.R_reads' Ha).2.2 (Kd.R_reads' Ha).2.1 (Kd.R_reads' Hb).2.2 (Kd.R_reads' Hb).2.1 him.out).mono ?_; rintro e w5 ⟨v3, v4, rfl, h3, h4, hd⟩); obtain ⟨B1, e1, rfl⟩ := Kd.R_slice h3; obtain ⟨B2, e2, rfl⟩ := Kd.R_slice h4; have H3 := Ak h3; have H4 := Ak h4; have HB5 := Ak (below_step HBc hd); have HG6 := Ak (blk_below HGc hd); have m0 : w5.cell? ⟨g3, 0, none⟩ = some (.int .i64 a1_0) := (blk_cell HG6.out 0).trans rfl; have m1 : w5.cell? ⟨g3, 1, none⟩ = some (.slice A1_1 l1_1.length c1_1) := (blk_cell HG6.out 1).trans rfl; have m2 : w5.cell? ⟨g3, 2, none⟩ = some (.slice A1_2 l1_2.length c1_2) := (blk_cell HG6.out 2).trans rfl; have k1 : w5.heap.size ≠ g3 := World.new_ne w5 _ m0; have k2 := k1.symm; clear h3 h4 hd HBc HGc Xa Ha Hb) | ((go_at_call 12; have HBc := HB3.out; have HGc := HG4.out; have HGa := HG7.out; have Xa := HX3.out; with_reducible refine (laws_toMachine.calls k a1_0 A1_1 c1_1 l1_1 A1_2 c1_2 l1_2 pm sm tm _ (Kd.C_below HV1.out HBc) HC1.out (Kd.C_below HV2.out HBc) HC2.out hmm.out).mono ?_; rintro e w4 ⟨v1, v2, rfl, h1, h2, hd⟩); obtain ⟨Q1, j1, rfl⟩ := Kd.R_slice h1; obtain ⟨Q2, j2, rfl⟩ := Kd.R_slice h2; have H1 := Ak h1; have H2 := Ak h2; have HX4 := Ak (Kd.R_below Xa hd); have HB4 := Ak (below_step HBc hd); have HG5 := Ak (blk_below HGc hd); have HG7 := Ak (blk_below HGa hd); clear HGa; have m0 : w4.cell? ⟨g3, 0, none⟩ = some (.int .i64 a1_0) := (blk_cell HG5.out 0).trans rfl; have m1 : w4.cell? ⟨g3, 1, none⟩ = some (.slice A1_1 l1_1.length c1_1) := (blk_cell HG5.out 1).trans rfl; have m2 : w4.cell? ⟨g3, 2, none⟩ = some (.slice A1_2 l1_2.length c1_2) := (blk_cell HG5.out 2).trans rfl; clear h1 h2 hd HBc HGc Xa) | ((go_at_call 12; have hBa := below_alloc (Below.refl w3.heap.size w3) (.cells #[.int .i64 0, .slice none 0 0, .slice none 0 0] 28); have HGa := blk_new w3 (.cells #[.int .i64 0, .slice none 0 0, .slice none 0 0] 28); have HBc := below_step HB3.out hBa; have HGc := blk_below HG4.out hBa; have k1 : w3.heap.size ≠ g3 := World.new_ne w3 _ m0; have k2 := k1.symm; have Xa := Kd.R_below HX3.out hBa; with_reducible refine (laws_toMachine.calls k a1_0 A1_1 c1_1 l1_1 A1_2 c1_2 l1_2 pm sm tm (w3.alloc _) (Kd.C_below HV1.out HBc) HC1.out (Kd.C_below HV2.out HBc) HC2.out hmm.out).mono ?_; rintro e w4 ⟨v1, v2, rfl, h1, h2, hd⟩); obtain ⟨Q1, j1, rfl⟩ := Kd.R_slice h1; obtain ⟨Q2, j2, rfl⟩ := Kd.R_slice h2; have H1 := Ak h1; have H2 := Ak h2; have HX4 := Ak (Kd.R_below Xa hd); have HB4 := Ak (below_step HBc hd); have HG5 := Ak (blk_below HGc hd); have HG7 := Ak (blk_below HGa hd); obtain ⟨g6, hg6⟩ : ∃ g, g = w3.heap.size := ⟨_, rfl⟩; have hge := Ak (Nat.le_trans (HB3.out).size (Nat.le_of_eq hg6.symm)); rw [← hg6] at HG7 k1 k2 ⊢; replace hg6 := Ak hg6; clear hBa; clear HGa; have m0 : w4.cell? ⟨g3, 0, none⟩ = some (.int .i64 a1_0) := (blk_cell HG5.out 0).trans rfl; have m1 : w4.cell? ⟨g3, 1, none⟩ = some (.slice A1_1 l1_1.length c1_1) := (blk_cell HG5.out 1).trans rfl; have m2 : w4.cell? ⟨g3, 2, none⟩ = some (.slice A1_2 l1_2.length c1_2) := (blk_cell HG5.out 2).trans rfl; clear h1 h2 hd HBc HGc Xa) | ((go_at_call 12; have HBc := HB3.out; have HGc := HG4.out; have Xa := HX3.out; with_reducible refine (laws_toMachine.calls k a1_0 A1_1 c1_1 l1_1 A1_2 c1_2 l1_2 pm sm tm _ (Kd.C_below HV1.out HBc) HC1.out (Kd.C_below HV2.out HBc) HC2.out hmm.out).mono ?_; rintro e w4 ⟨v1, v2, rfl, h1, h2, hd⟩); obtain ⟨Q1, j1, rfl⟩ := Kd.R_slice h1; obtain ⟨Q2, j2, rfl⟩ := Kd.R_slice h2; have H1 := Ak h1; have H2 := Ak h2; have HX4 := Ak (Kd.R_below Xa hd); have HB4 := Ak (below_step HBc hd); have HG5 := Ak (blk_below HGc hd); have m0 : w4.cell? ⟨g3, 0, none⟩ = some (.int .i64 a1_0) := (blk_cell HG5.out 0).trans rfl; have m1 : w4.cell? ⟨g3, 1, none⟩ = some (.slice A1_1 l1_1.length c1_1) := (blk_cell HG5.out 1).trans rfl; have m2 : w4.cell? ⟨g3, 2, none⟩ = some (.slice A1_2 l1_2.length c1_2) := (blk_cell HG5.out 2).trans rfl; clear h1 h2 hd HBc HGc Xa) | ((go_at_call 11; have HBc := (below_drew1 HBv.out); have HGc := (blk_drew HGv.out); with_reducible refine (laws_toOpS.calls k A0 c0 l0 c _ (Kd.C_below HV0.out HBc) HC0.out hcc.out).mono ?_; rintro e w3 ⟨v0, rfl, hx, hd⟩); obtain ⟨Aq, cq, rfl⟩ := Kd.R_slice hx; have HX3 := Ak hx; have HB3 := Ak (below_step HBc hd); have HG4 := Ak (blk_below HGc hd); have m0 : w3.cell? ⟨g3, 0, none⟩ = some (.int .i64 a1_0) := (blk_cell HG4.out 0).trans rfl; have m1 : w3.cell? ⟨g3, 1, none⟩ = some (.slice A1_1 l1_1.length c1_1) := (blk_cell HG4.out 1).trans rfl; have m2 : w3.cell? ⟨g3, 2, none⟩ = some (.slice A1_2 l1_2.length c1_2) := (blk_cell HG4.out 2).trans rfl; clear hx hd HBc HGc) | ((go_at_call 11; have hBa := below_alloc (Below.refl W_.heap.size W_) (.cells #[.int .i64 0, .slice none 0 0, .slice none 0 0] 28); have HGa := blk_drew <| blk_new W_ (.cells #[.int .i64 0, .slice none 0 0, .slice none 0 0] 28); have HBc := below_drew1 (below_step HBv.out hBa); have HGc := blk_drew (blk_below HGv.out hBa); have k1 : W_.heap.size ≠ g3 := World.new_ne W_ _ m0; have k2 := k1.symm; with_reducible refine (laws_toOpS.calls k A0 c0 l0 c (W_.alloc _).drew (Kd.C_below HV0.out HBc) HC0.out hcc.out).mono ?_; rintro e w3 ⟨v0, rfl, hx, hd⟩); obtain ⟨Aq, cq, rfl⟩ := Kd.R_slice hx; have HX3 := Ak hx; have HB3 := Ak (below_step HBc hd); have HG4 := Ak (blk_below HGc hd); have HG7 := Ak (blk_below HGa hd); obtain ⟨g6, hg6⟩ : ∃ g, g = W_.heap.size := ⟨_, rfl⟩; have hge := Ak (Nat.le_trans (HBv.out).size (Nat.le_of_eq hg6.symm)); rw [← hg6] at HG7 k1 k2 ⊢; replace hg6 := Ak hg6; clear hBa; clear HGa; have m0 : w3.cell? ⟨g3, 0, none⟩ = some (.int .i64 a1_0) := (blk_cell HG4.out 0).trans rfl; have m1 : w3.cell? ⟨g3, 1, none⟩ = some (.slice A1_1 l1_1.length c1_1) := (blk_cell HG4.out 1).trans rfl; have m2 : w3.cell? ⟨g3, 2, none⟩ = some (.slice A1_2 l1_2.length c1_2) := (blk_cell HG4.out 2).trans rfl; clear hx hd HBc HGc)))
  all_goals (go_wp2_with fail; go_meet; first | exact ⟨_, _, _, _, _, rfl, rfl, laws_FnExactStepMachine.Bs.filled H3.out H4.out HB5.out hge.out HG7.out HG6.out⟩ | exact ⟨_, _, _, _, _, rfl, rfl, laws_FnExactStepMachine.Bs.fresh H3.out H4.out HB5.out HG6.out⟩)
 case rest =>
 obtain ⟨g15, C1, f1, C2, f2, rfl, rfl, HS2⟩ := hcut
 clear m0 m1 m2
 replace HC := HC.below HS2.b
 obtain ⟨m0, m1, m2, n0, n1, n2⟩ := HS.cells HC.b
 obtain ⟨x0, x1, x2, y0, y1, y2⟩ := HC.cells
 obtain ⟨_, _, _, z0, z1, z2⟩ := HS2.cells (Below.refl _ _)
 go_wp2_with (first | ((go_at_call 14; with_reducible refine (laws_eqMachine.calls k pg C1 f1 sg C2 f2 tg p0 B1 e1 s0 B2 e2 t0 true _ HS2.c1 HS2.l1 HS2.c2 HS2.l2 (Kd.C_below HS.c1 HC.b) HS.l1 (Kd.C_below HS.c2 HC.b) HS.l2 ht1.out).mono ?_; rintro e W_ ⟨rfl, hd⟩); clear z0 z1 z2; clear m0 m1 m2 n0 n1 n2 x0 x1 x2 y0 y1 y2; replace HC := HC.below hd; clear hd; obtain ⟨m0, m1, m2, n0, n1, n2⟩ := HS.cells HC.b; obtain ⟨x0, x1, x2, y0, y1, y2⟩ := HC.cells) | ((go_at_call 18; with_reducible refine (laws_heldMachine.calls k pg G1 k1 sg' G2 k2 tg' 1 q _ (Kd.R_reads' HC.r3).2.2 (Kd.R_reads' HC.r3).2.1 (Kd.R_reads' HC.r4).2.2 (Kd.R_reads' HC.r4).2.1 hq.out).mono ?_; rintro e W_ ⟨rfl, hd⟩); clear m0 m1 m2 n0 n1 n2 x0 x1 x2 y0 y1 y2; replace HC := HC.below hd; clear hd; obtain ⟨m0, m1, m2, n0, n1, n2⟩ := HS.cells HC.b; obtain ⟨x0, x1, x2, y0, y1, y2⟩ := HC.cells))
 go_ret
 exact ⟨rfl, below_step HS.b HC.b⟩

end Go.Proofs.Ytlmiankjbffboaa.HFnExactStepMachine

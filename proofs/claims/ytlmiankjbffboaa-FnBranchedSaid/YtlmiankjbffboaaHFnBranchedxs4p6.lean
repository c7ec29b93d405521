/- Text for FnBranched: written by a program of this session on the pattern of the kit's print. -/
import Derived.Test.YtlmiankjbffboaaHFnBranchedxs4p0
import Derived.Test.YtlmiankjbffboaaHFnBranchedx0
import Derived.Test.YtlmiankjbffboaaHFnBranchedx1
import Derived.Test.YtlmiankjbffboaaHFnBranchedx2
import Derived.Test.YtlmiankjbffboaaHFnBranchedx3
namespace Go.Proofs.Ytlmiankjbffboaa.HFnBranched
set_option maxHeartbeats 8000000
set_option maxRecDepth 100000
open Go.RowKit Go.Proofs.YtlmiankjbffboaaW.PrintWords Go.Proofs.YtlmiankjbffboaaW.PrintLast Go.Proofs.YtlmiankjbffboaaW.PrintMore
attribute [local go_sem] max2_int min2_int max_two min_two max_three min_three max_four min_four
set_option linter.unusedVariables false
set_option linter.unusedSimpArgs false

set_option maxRecDepth 1000000 in
theorem impl_step.few2 (k : Nat) (ad0 : Addr) (c0 : Nat) (l : List S48) (gm : Nat) (pc : Int) (vs vc : Value) (st cl : List Int) (w0 w : World) (hC : Kd.C k48 w (some ad0) l.length l) (hH : impl_step.Held w0 w gm pc vs vc st cl) (h0 : 0 ≤ pc) (h1 : pc < l.length) (h2 : l.length ≤ 80) (h3 : st.length ≤ 20) (hc : (rd_T48 l pc).f0 = 2) (h4 : st.length < 2) :
  Calls Try.prog 43 #[.slice (some ad0) l.length c0, .pointer (some ⟨gm, 0, none⟩)] w fun e w' => e = .returned (.int .i64 3) ∧ ∃ vs' vc', impl_step.Held w0 w' gm pc vs' vc' st cl := by
 obtain ⟨As, cs, rfl⟩ := Kd.R_slice hH.s
 obtain ⟨Ac, cc, rfl⟩ := Kd.R_slice hH.c
 have z0 : w.cell? ⟨gm, 0, none⟩ = some (.int .i64 pc) := (blk_cell hH.m 0).trans rfl
 have z1 : w.cell? ⟨gm, 1, none⟩ = some (.slice As st.length cs) := (blk_cell hH.m 1).trans rfl
 obtain ⟨ad, e, x0, x1, x2, x3⟩ := at_T48 hC pc h0 h1
 cases e
 have HH := Ak hH
 clear hH hC
 obtain ⟨xa, hxa⟩ : ∃ x, x = (rd_T48 l pc).f1 := ⟨_, rfl⟩
 obtain ⟨xb, hxb⟩ : ∃ x, x = (rd_T48 l pc).f2 := ⟨_, rfl⟩
 obtain ⟨xc, hxc⟩ : ∃ x, x = (rd_T48 l pc).f3 := ⟨_, rfl⟩
 rw [hc] at x0
 rw [← hxa] at x1
 rw [← hxb] at x2
 rw [← hxc] at x3
 replace hxa := Ak hxa
 replace hxb := Ak hxb
 replace hxc := Ak hxc
 clear hc
 have b1 : (pc == (l.length : Int)) = false := beq_eq_false_iff_ne.mpr (by omega)
 have b2 : decide (0 ≤ pc) = true := decide_eq_true h0
 have b3 : decide (pc < (l.length : Int)) = true := decide_eq_true h1
 have k0 := World.new_ne w ⟨gm, 0, none⟩ z0
 have k1 := World.new_ne w ⟨gm, 1, none⟩ z1
 have k2 := World.new_ne w _ x0
 obtain ⟨tp, htp⟩ : ∃ t : Int, t = (st.length : Int) - 1 := ⟨_, rfl⟩
 have wr : IntKind.i64.wrap ((st.length : Int) - 1) = tp := (i64_w _).trans (by rw [htp]; unfold wrap64; omega)
 replace htp := Ak htp
 go_enter Try.func43, Try.ntmps43
 go_upto_region 3 with fail
 go_region_held3 (fun w' => w'.cell? ⟨gm, 0, none⟩ = some (.int .i64 pc) ∧ w'.cell? ⟨gm, 1, none⟩ = some (.slice As st.length cs) ∧ w'.cell? (ad0.add (pc.toNat * 4)) = some (.int .i64 2) ∧ w'.cell? ⟨(ad0.add (pc.toNat * 4)).block, (ad0.add (pc.toNat * 4)).off + 1, none⟩ = some (.int .i64 xa) ∧ w'.cell? ⟨(ad0.add (pc.toNat * 4)).block, (ad0.add (pc.toNat * 4)).off + 2, none⟩ = some (.int .i64 xb) ∧ w'.cell? ⟨(ad0.add (pc.toNat * 4)).block, (ad0.add (pc.toNat * 4)).off + 3, none⟩ = some (.int .i64 xc)) (first | assumption | go_keep) (fail)
 have hT := Ak (impl_step.St.start (a := 2) (b := xa) (c := xb) (d := xc) HH.out w.heap.size rfl)
 generalize (w.alloc (.cells #[.int .i64 2, .int .i64 xa, .int .i64 xb, .int .i64 xc] 48)).drew = W at hT ⊢
 generalize w.heap.size = gx at hT ⊢
 clear k0 k1 k2 z0 z1 x0 x1 x2 x3 HH wr b1 b2 b3
 obtain ⟨m0, m1, m2, f0, f1, y0, y1, y2, y3⟩ := hT.out.cells
 have HN := Ak (impl_step.need k).2.1
 have n1 : decide ((st.length : Int) < 2) = true := decide_eq_true (by omega)
 go_upto_region 6 with fail
 go_region_held3 (fun w' => w'.cell? ⟨gm, 1, none⟩ = some (.slice As st.length cs) ∧ w'.cell? ⟨gx, 0, none⟩ = some (.int .i64 2)) (first | assumption | go_keep) ((go_at_call 73; with_reducible refine (impl_needs.calls (k + 1) 2 2 _ HN.out).mono ?_; rintro e wn ⟨rfl, ⟨nd, rfl⟩⟩))
 have hT2 := Ak (hT.out.drewN (1 + nd))
 go_wp2
 go_ret
 exact ⟨rfl, _, _, hT2.out.held⟩
set_option maxRecDepth 1000000 in
theorem impl_step.few3 (k : Nat) (ad0 : Addr) (c0 : Nat) (l : List S48) (gm : Nat) (pc : Int) (vs vc : Value) (st cl : List Int) (w0 w : World) (hC : Kd.C k48 w (some ad0) l.length l) (hH : impl_step.Held w0 w gm pc vs vc st cl) (h0 : 0 ≤ pc) (h1 : pc < l.length) (h2 : l.length ≤ 80) (h3 : st.length ≤ 20) (hc : (rd_T48 l pc).f0 = 3) (h4 : st.length < 2) :
  Calls Try.prog 43 #[.slice (some ad0) l.length c0, .pointer (some ⟨gm, 0, none⟩)] w fun e w' => e = .returned (.int .i64 3) ∧ ∃ vs' vc', impl_step.Held w0 w' gm pc vs' vc' st cl := by
 obtain ⟨As, cs, rfl⟩ := Kd.R_slice hH.s
 obtain ⟨Ac, cc, rfl⟩ := Kd.R_slice hH.c
 have z0 : w.cell? ⟨gm, 0, none⟩ = some (.int .i64 pc) := (blk_cell hH.m 0).trans rfl
 have z1 : w.cell? ⟨gm, 1, none⟩ = some (.slice As st.length cs) := (blk_cell hH.m 1).trans rfl
 obtain ⟨ad, e, x0, x1, x2, x3⟩ := at_T48 hC pc h0 h1
 cases e
 have HH := Ak hH
 clear hH hC
 obtain ⟨xa, hxa⟩ : ∃ x, x = (rd_T48 l pc).f1 := ⟨_, rfl⟩
 obtain ⟨xb, hxb⟩ : ∃ x, x = (rd_T48 l pc).f2 := ⟨_, rfl⟩
 obtain ⟨xc, hxc⟩ : ∃ x, x = (rd_T48 l pc).f3 := ⟨_, rfl⟩
 rw [hc] at x0
 rw [← hxa] at x1
 rw [← hxb] at x2
 rw [← hxc] at x3
 replace hxa := Ak hxa
 replace hxb := Ak hxb
 replace hxc := Ak hxc
 clear hc
 have b1 : (pc == (l.length : Int)) = false := beq_eq_false_iff_ne.mpr (by omega)
 have b2 : decide (0 ≤ pc) = true := decide_eq_true h0
 have b3 : decide (pc < (l.length : Int)) = true := decide_eq_true h1
 have k0 := World.new_ne w ⟨gm, 0, none⟩ z0
 have k1 := World.new_ne w ⟨gm, 1, none⟩ z1
 have k2 := World.new_ne w _ x0
 obtain ⟨tp, htp⟩ : ∃ t : Int, t = (st.length : Int) - 1 := ⟨_, rfl⟩
 have wr : IntKind.i64.wrap ((st.length : Int) - 1) = tp := (i64_w _).trans (by rw [htp]; unfold wrap64; omega)
 replace htp := Ak htp
 go_enter Try.func43, Try.ntmps43
 go_upto_region 3 with fail
 go_region_held3 (fun w' => w'.cell? ⟨gm, 0, none⟩ = some (.int .i64 pc) ∧ w'.cell? ⟨gm, 1, none⟩ = some (.slice As st.length cs) ∧ w'.cell? (ad0.add (pc.toNat * 4)) = some (.int .i64 3) ∧ w'.cell? ⟨(ad0.add (pc.toNat * 4)).block, (ad0.add (pc.toNat * 4)).off + 1, none⟩ = some (.int .i64 xa) ∧ w'.cell? ⟨(ad0.add (pc.toNat * 4)).block, (ad0.add (pc.toNat * 4)).off + 2, none⟩ = some (.int .i64 xb) ∧ w'.cell? ⟨(ad0.add (pc.toNat * 4)).block, (ad0.add (pc.toNat * 4)).off + 3, none⟩ = some (.int .i64 xc)) (first | assumption | go_keep) (fail)
 have hT := Ak (impl_step.St.start (a := 3) (b := xa) (c := xb) (d := xc) HH.out w.heap.size rfl)
 generalize (w.alloc (.cells #[.int .i64 3, .int .i64 xa, .int .i64 xb, .int .i64 xc] 48)).drew = W at hT ⊢
 generalize w.heap.size = gx at hT ⊢
 clear k0 k1 k2 z0 z1 x0 x1 x2 x3 HH wr b1 b2 b3
 obtain ⟨m0, m1, m2, f0, f1, y0, y1, y2, y3⟩ := hT.out.cells
 have HN := Ak (impl_step.need k).2.2.1
 have n1 : decide ((st.length : Int) < 2) = true := decide_eq_true (by omega)
 go_upto_region 6 with fail
 go_region_held3 (fun w' => w'.cell? ⟨gm, 1, none⟩ = some (.slice As st.length cs) ∧ w'.cell? ⟨gx, 0, none⟩ = some (.int .i64 3)) (first | assumption | go_keep) ((go_at_call 73; with_reducible refine (impl_needs.calls (k + 1) 3 2 _ HN.out).mono ?_; rintro e wn ⟨rfl, ⟨nd, rfl⟩⟩))
 have hT2 := Ak (hT.out.drewN (1 + nd))
 go_wp2
 go_ret
 exact ⟨rfl, _, _, hT2.out.held⟩
set_option maxRecDepth 1000000 in
theorem impl_step.few4 (k : Nat) (ad0 : Addr) (c0 : Nat) (l : List S48) (gm : Nat) (pc : Int) (vs vc : Value) (st cl : List Int) (w0 w : World) (hC : Kd.C k48 w (some ad0) l.length l) (hH : impl_step.Held w0 w gm pc vs vc st cl) (h0 : 0 ≤ pc) (h1 : pc < l.length) (h2 : l.length ≤ 80) (h3 : st.length ≤ 20) (hc : (rd_T48 l pc).f0 = 4) (h4 : st.length < 2) :
  Calls Try.prog 43 #[.slice (some ad0) l.length c0, .pointer (some ⟨gm, 0, none⟩)] w fun e w' => e = .returned (.int .i64 3) ∧ ∃ vs' vc', impl_step.Held w0 w' gm pc vs' vc' st cl := by
 obtain ⟨As, cs, rfl⟩ := Kd.R_slice hH.s
 obtain ⟨Ac, cc, rfl⟩ := Kd.R_slice hH.c
 have z0 : w.cell? ⟨gm, 0, none⟩ = some (.int .i64 pc) := (blk_cell hH.m 0).trans rfl
 have z1 : w.cell? ⟨gm, 1, none⟩ = some (.slice As st.length cs) := (blk_cell hH.m 1).trans rfl
 obtain ⟨ad, e, x0, x1, x2, x3⟩ := at_T48 hC pc h0 h1
 cases e
 have HH := Ak hH
 clear hH hC
 obtain ⟨xa, hxa⟩ : ∃ x, x = (rd_T48 l pc).f1 := ⟨_, rfl⟩
 obtain ⟨xb, hxb⟩ : ∃ x, x = (rd_T48 l pc).f2 := ⟨_, rfl⟩
 obtain ⟨xc, hxc⟩ : ∃ x, x = (rd_T48 l pc).f3 := ⟨_, rfl⟩
 rw [hc] at x0
 rw [← hxa] at x1
 rw [← hxb] at x2
 rw [← hxc] at x3
 replace hxa := Ak hxa
 replace hxb := Ak hxb
 replace hxc := Ak hxc
 clear hc
 have b1 : (pc == (l.length : Int)) = false := beq_eq_false_iff_ne.mpr (by omega)
 have b2 : decide (0 ≤ pc) = true := decide_eq_true h0
 have b3 : decide (pc < (l.length : Int)) = true := decide_eq_true h1
 have k0 := World.new_ne w ⟨gm, 0, none⟩ z0
 have k1 := World.new_ne w ⟨gm, 1, none⟩ z1
 have k2 := World.new_ne w _ x0
 obtain ⟨tp, htp⟩ : ∃ t : Int, t = (st.length : Int) - 1 := ⟨_, rfl⟩
 have wr : IntKind.i64.wrap ((st.length : Int) - 1) = tp := (i64_w _).trans (by rw [htp]; unfold wrap64; omega)
 replace htp := Ak htp
 go_enter Try.func43, Try.ntmps43
 go_upto_region 3 with fail
 go_region_held3 (fun w' => w'.cell? ⟨gm, 0, none⟩ = some (.int .i64 pc) ∧ w'.cell? ⟨gm, 1, none⟩ = some (.slice As st.length cs) ∧ w'.cell? (ad0.add (pc.toNat * 4)) = some (.int .i64 4) ∧ w'.cell? ⟨(ad0.add (pc.toNat * 4)).block, (ad0.add (pc.toNat * 4)).off + 1, none⟩ = some (.int .i64 xa) ∧ w'.cell? ⟨(ad0.add (pc.toNat * 4)).block, (ad0.add (pc.toNat * 4)).off + 2, none⟩ = some (.int .i64 xb) ∧ w'.cell? ⟨(ad0.add (pc.toNat * 4)).block, (ad0.add (pc.toNat * 4)).off + 3, none⟩ = some (.int .i64 xc)) (first | assumption | go_keep) (fail)
 have hT := Ak (impl_step.St.start (a := 4) (b := xa) (c := xb) (d := xc) HH.out w.heap.size rfl)
 generalize (w.alloc (.cells #[.int .i64 4, .int .i64 xa, .int .i64 xb, .int .i64 xc] 48)).drew = W at hT ⊢
 generalize w.heap.size = gx at hT ⊢
 clear k0 k1 k2 z0 z1 x0 x1 x2 x3 HH wr b1 b2 b3
 obtain ⟨m0, m1, m2, f0, f1, y0, y1, y2, y3⟩ := hT.out.cells
 have HN := Ak (impl_step.need k).2.2.2.1
 have n1 : decide ((st.length : Int) < 2) = true := decide_eq_true (by omega)
 go_upto_region 6 with fail
 go_region_held3 (fun w' => w'.cell? ⟨gm, 1, none⟩ = some (.slice As st.length cs) ∧ w'.cell? ⟨gx, 0, none⟩ = some (.int .i64 4)) (first | assumption | go_keep) ((go_at_call 73; with_reducible refine (impl_needs.calls (k + 1) 4 2 _ HN.out).mono ?_; rintro e wn ⟨rfl, ⟨nd, rfl⟩⟩))
 have hT2 := Ak (hT.out.drewN (1 + nd))
 go_wp2
 go_ret
 exact ⟨rfl, _, _, hT2.out.held⟩
set_option maxRecDepth 1000000 in
theorem impl_step.few5 (k : Nat) (ad0 : Addr) (c0 : Nat) (l : List S48) (gm : Nat) (pc : Int) (vs vc : Value) (st cl : List Int) (w0 w : World) (hC : Kd.C k48 w (some ad0) l.length l) (hH : impl_step.Held w0 w gm pc vs vc st cl) (h0 : 0 ≤ pc) (h1 : pc < l.length) (h2 : l.length ≤ 80) (h3 : st.length ≤ 20) (hc : (rd_T48 l pc).f0 = 5) (h4 : st.length < 1) :
  Calls Try.prog 43 #[.slice (some ad0) l.length c0, .pointer (some ⟨gm, 0, none⟩)] w fun e w' => e = .returned (.int .i64 3) ∧ ∃ vs' vc', impl_step.Held w0 w' gm pc vs' vc' st cl := by
 obtain ⟨As, cs, rfl⟩ := Kd.R_slice hH.s
 obtain ⟨Ac, cc, rfl⟩ := Kd.R_slice hH.c
 have z0 : w.cell? ⟨gm, 0, none⟩ = some (.int .i64 pc) := (blk_cell hH.m 0).trans rfl
 have z1 : w.cell? ⟨gm, 1, none⟩ = some (.slice As st.length cs) := (blk_cell hH.m 1).trans rfl
 obtain ⟨ad, e, x0, x1, x2, x3⟩ := at_T48 hC pc h0 h1
 cases e
 have HH := Ak hH
 clear hH hC
 obtain ⟨xa, hxa⟩ : ∃ x, x = (rd_T48 l pc).f1 := ⟨_, rfl⟩
 obtain ⟨xb, hxb⟩ : ∃ x, x = (rd_T48 l pc).f2 := ⟨_, rfl⟩
 obtain ⟨xc, hxc⟩ : ∃ x, x = (rd_T48 l pc).f3 := ⟨_, rfl⟩
 rw [hc] at x0
 rw [← hxa] at x1
 rw [← hxb] at x2
 rw [← hxc] at x3
 replace hxa := Ak hxa
 replace hxb := Ak hxb
 replace hxc := Ak hxc
 clear hc
 have b1 : (pc == (l.length : Int)) = false := beq_eq_false_iff_ne.mpr (by omega)
 have b2 : decide (0 ≤ pc) = true := decide_eq_true h0
 have b3 : decide (pc < (l.length : Int)) = true := decide_eq_true h1
 have k0 := World.new_ne w ⟨gm, 0, none⟩ z0
 have k1 := World.new_ne w ⟨gm, 1, none⟩ z1
 have k2 := World.new_ne w _ x0
 obtain ⟨tp, htp⟩ : ∃ t : Int, t = (st.length : Int) - 1 := ⟨_, rfl⟩
 have wr : IntKind.i64.wrap ((st.length : Int) - 1) = tp := (i64_w _).trans (by rw [htp]; unfold wrap64; omega)
 replace htp := Ak htp
 go_enter Try.func43, Try.ntmps43
 go_upto_region 3 with fail
 go_region_held3 (fun w' => w'.cell? ⟨gm, 0, none⟩ = some (.int .i64 pc) ∧ w'.cell? ⟨gm, 1, none⟩ = some (.slice As st.length cs) ∧ w'.cell? (ad0.add (pc.toNat * 4)) = some (.int .i64 5) ∧ w'.cell? ⟨(ad0.add (pc.toNat * 4)).block, (ad0.add (pc.toNat * 4)).off + 1, none⟩ = some (.int .i64 xa) ∧ w'.cell? ⟨(ad0.add (pc.toNat * 4)).block, (ad0.add (pc.toNat * 4)).off + 2, none⟩ = some (.int .i64 xb) ∧ w'.cell? ⟨(ad0.add (pc.toNat * 4)).block, (ad0.add (pc.toNat * 4)).off + 3, none⟩ = some (.int .i64 xc)) (first | assumption | go_keep) (fail)
 have hT := Ak (impl_step.St.start (a := 5) (b := xa) (c := xb) (d := xc) HH.out w.heap.size rfl)
 generalize (w.alloc (.cells #[.int .i64 5, .int .i64 xa, .int .i64 xb, .int .i64 xc] 48)).drew = W at hT ⊢
 generalize w.heap.size = gx at hT ⊢
 clear k0 k1 k2 z0 z1 x0 x1 x2 x3 HH wr b1 b2 b3
 obtain ⟨m0, m1, m2, f0, f1, y0, y1, y2, y3⟩ := hT.out.cells
 have HN := Ak (impl_step.need k).2.2.2.2.1
 have n1 : decide ((st.length : Int) < 1) = true := decide_eq_true (by omega)
 go_upto_region 6 with fail
 go_region_held3 (fun w' => w'.cell? ⟨gm, 1, none⟩ = some (.slice As st.length cs) ∧ w'.cell? ⟨gx, 0, none⟩ = some (.int .i64 5)) (first | assumption | go_keep) ((go_at_call 73; with_reducible refine (impl_needs.calls (k + 1) 5 1 _ HN.out).mono ?_; rintro e wn ⟨rfl, ⟨nd, rfl⟩⟩))
 have hT2 := Ak (hT.out.drewN (1 + nd))
 go_wp2
 go_ret
 exact ⟨rfl, _, _, hT2.out.held⟩
set_option maxRecDepth 1000000 in
theorem impl_step.few6 (k : Nat) (ad0 : Addr) (c0 : Nat) (l : List S48) (gm : Nat) (pc : Int) (vs vc : Value) (st cl : List Int) (w0 w : World) (hC : Kd.C k48 w (some ad0) l.length l) (hH : impl_step.Held w0 w gm pc vs vc st cl) (h0 : 0 ≤ pc) (h1 : pc < l.length) (h2 : l.length ≤ 80) (h3 : st.length ≤ 20) (hc : (rd_T48 l pc).f0 = 6) (h4 : st.length < 1) :
  Calls Try.prog 43 #[.slice (some ad0) l.length c0, .pointer (some ⟨gm, 0, none⟩)] w fun e w' => e = .returned (.int .i64 3) ∧ ∃ vs' vc', impl_step.Held w0 w' gm pc vs' vc' st cl := by
 obtain ⟨As, cs, rfl⟩ := Kd.R_slice hH.s
 obtain ⟨Ac, cc, rfl⟩ := Kd.R_slice hH.c
 have z0 : w.cell? ⟨gm, 0, none⟩ = some (.int .i64 pc) := (blk_cell hH.m 0).trans rfl
 have z1 : w.cell? ⟨gm, 1, none⟩ = some (.slice As st.length cs) := (blk_cell hH.m 1).trans rfl
 obtain ⟨ad, e, x0, x1, x2, x3⟩ := at_T48 hC pc h0 h1
 cases e
 have HH := Ak hH
 clear hH hC
 obtain ⟨xa, hxa⟩ : ∃ x, x = (rd_T48 l pc).f1 := ⟨_, rfl⟩
 obtain ⟨xb, hxb⟩ : ∃ x, x = (rd_T48 l pc).f2 := ⟨_, rfl⟩
 obtain ⟨xc, hxc⟩ : ∃ x, x = (rd_T48 l pc).f3 := ⟨_, rfl⟩
 rw [hc] at x0
 rw [← hxa] at x1
 rw [← hxb] at x2
 rw [← hxc] at x3
 replace hxa := Ak hxa
 replace hxb := Ak hxb
 replace hxc := Ak hxc
 clear hc
 have b1 : (pc == (l.length : Int)) = false := beq_eq_false_iff_ne.mpr (by omega)
 have b2 : decide (0 ≤ pc) = true := decide_eq_true h0
 have b3 : decide (pc < (l.length : Int)) = true := decide_eq_true h1
 have k0 := World.new_ne w ⟨gm, 0, none⟩ z0
 have k1 := World.new_ne w ⟨gm, 1, none⟩ z1
 have k2 := World.new_ne w _ x0
 obtain ⟨tp, htp⟩ : ∃ t : Int, t = (st.length : Int) - 1 := ⟨_, rfl⟩
 have wr : IntKind.i64.wrap ((st.length : Int) - 1) = tp := (i64_w _).trans (by rw [htp]; unfold wrap64; omega)
 replace htp := Ak htp
 go_enter Try.func43, Try.ntmps43
 go_upto_region 3 with fail
 go_region_held3 (fun w' => w'.cell? ⟨gm, 0, none⟩ = some (.int .i64 pc) ∧ w'.cell? ⟨gm, 1, none⟩ = some (.slice As st.length cs) ∧ w'.cell? (ad0.add (pc.toNat * 4)) = some (.int .i64 6) ∧ w'.cell? ⟨(ad0.add (pc.toNat * 4)).block, (ad0.add (pc.toNat * 4)).off + 1, none⟩ = some (.int .i64 xa) ∧ w'.cell? ⟨(ad0.add (pc.toNat * 4)).block, (ad0.add (pc.toNat * 4)).off + 2, none⟩ = some (.int .i64 xb) ∧ w'.cell? ⟨(ad0.add (pc.toNat * 4)).block, (ad0.add (pc.toNat * 4)).off + 3, none⟩ = some (.int .i64 xc)) (first | assumption | go_keep) (fail)
 have hT := Ak (impl_step.St.start (a := 6) (b := xa) (c := xb) (d := xc) HH.out w.heap.size rfl)
 generalize (w.alloc (.cells #[.int .i64 6, .int .i64 xa, .int .i64 xb, .int .i64 xc] 48)).drew = W at hT ⊢
 generalize w.heap.size = gx at hT ⊢
 clear k0 k1 k2 z0 z1 x0 x1 x2 x3 HH wr b1 b2 b3
 obtain ⟨m0, m1, m2, f0, f1, y0, y1, y2, y3⟩ := hT.out.cells
 have HN := Ak (impl_step.need k).2.2.2.2.2.1
 have n1 : decide ((st.length : Int) < 1) = true := decide_eq_true (by omega)
 go_upto_region 6 with fail
 go_region_held3 (fun w' => w'.cell? ⟨gm, 1, none⟩ = some (.slice As st.length cs) ∧ w'.cell? ⟨gx, 0, none⟩ = some (.int .i64 6)) (first | assumption | go_keep) ((go_at_call 73; with_reducible refine (impl_needs.calls (k + 1) 6 1 _ HN.out).mono ?_; rintro e wn ⟨rfl, ⟨nd, rfl⟩⟩))
 have hT2 := Ak (hT.out.drewN (1 + nd))
 go_wp2
 go_ret
 exact ⟨rfl, _, _, hT2.out.held⟩
set_option maxRecDepth 1000000 in
theorem impl_step.few7 (k : Nat) (ad0 : Addr) (c0 : Nat) (l : List S48) (gm : Nat) (pc : Int) (vs vc : Value) (st cl : List Int) (w0 w : World) (hC : Kd.C k48 w (some ad0) l.length l) (hH : impl_step.Held w0 w gm pc vs vc st cl) (h0 : 0 ≤ pc) (h1 : pc < l.length) (h2 : l.length ≤ 80) (h3 : st.length ≤ 20) (hc : (rd_T48 l pc).f0 = 7) (h4 : st.length < 1) :
  Calls Try.prog 43 #[.slice (some ad0) l.length c0, .pointer (some ⟨gm, 0, none⟩)] w fun e w' => e = .returned (.int .i64 3) ∧ ∃ vs' vc', impl_step.Held w0 w' gm pc vs' vc' st cl := by
 obtain ⟨As, cs, rfl⟩ := Kd.R_slice hH.s
 obtain ⟨Ac, cc, rfl⟩ := Kd.R_slice hH.c
 have z0 : w.cell? ⟨gm, 0, none⟩ = some (.int .i64 pc) := (blk_cell hH.m 0).trans rfl
 have z1 : w.cell? ⟨gm, 1, none⟩ = some (.slice As st.length cs) := (blk_cell hH.m 1).trans rfl
 obtain ⟨ad, e, x0, x1, x2, x3⟩ := at_T48 hC pc h0 h1
 cases e
 have HH := Ak hH
 clear hH hC
 obtain ⟨xa, hxa⟩ : ∃ x, x = (rd_T48 l pc).f1 := ⟨_, rfl⟩
 obtain ⟨xb, hxb⟩ : ∃ x, x = (rd_T48 l pc).f2 := ⟨_, rfl⟩
 obtain ⟨xc, hxc⟩ : ∃ x, x = (rd_T48 l pc).f3 := ⟨_, rfl⟩
 rw [hc] at x0
 rw [← hxa] at x1
 rw [← hxb] at x2
 rw [← hxc] at x3
 replace hxa := Ak hxa
 replace hxb := Ak hxb
 replace hxc := Ak hxc
 clear hc
 have b1 : (pc == (l.length : Int)) = false := beq_eq_false_iff_ne.mpr (by omega)
 have b2 : decide (0 ≤ pc) = true := decide_eq_true h0
 have b3 : decide (pc < (l.length : Int)) = true := decide_eq_true h1
 have k0 := World.new_ne w ⟨gm, 0, none⟩ z0
 have k1 := World.new_ne w ⟨gm, 1, none⟩ z1
 have k2 := World.new_ne w _ x0
 obtain ⟨tp, htp⟩ : ∃ t : Int, t = (st.length : Int) - 1 := ⟨_, rfl⟩
 have wr : IntKind.i64.wrap ((st.length : Int) - 1) = tp := (i64_w _).trans (by rw [htp]; unfold wrap64; omega)
 replace htp := Ak htp
 go_enter Try.func43, Try.ntmps43
 go_upto_region 3 with fail
 go_region_held3 (fun w' => w'.cell? ⟨gm, 0, none⟩ = some (.int .i64 pc) ∧ w'.cell? ⟨gm, 1, none⟩ = some (.slice As st.length cs) ∧ w'.cell? (ad0.add (pc.toNat * 4)) = some (.int .i64 7) ∧ w'.cell? ⟨(ad0.add (pc.toNat * 4)).block, (ad0.add (pc.toNat * 4)).off + 1, none⟩ = some (.int .i64 xa) ∧ w'.cell? ⟨(ad0.add (pc.toNat * 4)).block, (ad0.add (pc.toNat * 4)).off + 2, none⟩ = some (.int .i64 xb) ∧ w'.cell? ⟨(ad0.add (pc.toNat * 4)).block, (ad0.add (pc.toNat * 4)).off + 3, none⟩ = some (.int .i64 xc)) (first | assumption | go_keep) (fail)
 have hT := Ak (impl_step.St.start (a := 7) (b := xa) (c := xb) (d := xc) HH.out w.heap.size rfl)
 generalize (w.alloc (.cells #[.int .i64 7, .int .i64 xa, .int .i64 xb, .int .i64 xc] 48)).drew = W at hT ⊢
 generalize w.heap.size = gx at hT ⊢
 clear k0 k1 k2 z0 z1 x0 x1 x2 x3 HH wr b1 b2 b3
 obtain ⟨m0, m1, m2, f0, f1, y0, y1, y2, y3⟩ := hT.out.cells
 have HN := Ak (impl_step.need k).2.2.2.2.2.2.1
 have n1 : decide ((st.length : Int) < 1) = true := decide_eq_true (by omega)
 go_upto_region 6 with fail
 go_region_held3 (fun w' => w'.cell? ⟨gm, 1, none⟩ = some (.slice As st.length cs) ∧ w'.cell? ⟨gx, 0, none⟩ = some (.int .i64 7)) (first | assumption | go_keep) ((go_at_call 73; with_reducible refine (impl_needs.calls (k + 1) 7 1 _ HN.out).mono ?_; rintro e wn ⟨rfl, ⟨nd, rfl⟩⟩))
 have hT2 := Ak (hT.out.drewN (1 + nd))
 go_wp2
 go_ret
 exact ⟨rfl, _, _, hT2.out.held⟩
set_option maxRecDepth 1000000 in
theorem impl_step.few8 (k : Nat) (ad0 : Addr) (c0 : Nat) (l : List S48) (gm : Nat) (pc : Int) (vs vc : Value) (st cl : List Int) (w0 w : World) (hC : Kd.C k48 w (some ad0) l.length l) (hH : impl_step.Held w0 w gm pc vs vc st cl) (h0 : 0 ≤ pc) (h1 : pc < l.length) (h2 : l.length ≤ 80) (h3 : st.length ≤ 20) (hc : (rd_T48 l pc).f0 = 8) (h4 : st.length < 2) :
  Calls Try.prog 43 #[.slice (some ad0) l.length c0, .pointer (some ⟨gm, 0, none⟩)] w fun e w' => e = .returned (.int .i64 3) ∧ ∃ vs' vc', impl_step.Held w0 w' gm pc vs' vc' st cl := by
 obtain ⟨As, cs, rfl⟩ := Kd.R_slice hH.s
 obtain ⟨Ac, cc, rfl⟩ := Kd.R_slice hH.c
 have z0 : w.cell? ⟨gm, 0, none⟩ = some (.int .i64 pc) := (blk_cell hH.m 0).trans rfl
 have z1 : w.cell? ⟨gm, 1, none⟩ = some (.slice As st.length cs) := (blk_cell hH.m 1).trans rfl
 obtain ⟨ad, e, x0, x1, x2, x3⟩ := at_T48 hC pc h0 h1
 cases e
 have HH := Ak hH
 clear hH hC
 obtain ⟨xa, hxa⟩ : ∃ x, x = (rd_T48 l pc).f1 := ⟨_, rfl⟩
 obtain ⟨xb, hxb⟩ : ∃ x, x = (rd_T48 l pc).f2 := ⟨_, rfl⟩
 obtain ⟨xc, hxc⟩ : ∃ x, x = (rd_T48 l pc).f3 := ⟨_, rfl⟩
 rw [hc] at x0
 rw [← hxa] at x1
 rw [← hxb] at x2
 rw [← hxc] at x3
 replace hxa := Ak hxa
 replace hxb := Ak hxb
 replace hxc := Ak hxc
 clear hc
 have b1 : (pc == (l.length : Int)) = false := beq_eq_false_iff_ne.mpr (by omega)
 have b2 : decide (0 ≤ pc) = true := decide_eq_true h0
 have b3 : decide (pc < (l.length : Int)) = true := decide_eq_true h1
 have k0 := World.new_ne w ⟨gm, 0, none⟩ z0
 have k1 := World.new_ne w ⟨gm, 1, none⟩ z1
 have k2 := World.new_ne w _ x0
 obtain ⟨tp, htp⟩ : ∃ t : Int, t = (st.length : Int) - 1 := ⟨_, rfl⟩
 have wr : IntKind.i64.wrap ((st.length : Int) - 1) = tp := (i64_w _).trans (by rw [htp]; unfold wrap64; omega)
 replace htp := Ak htp
 go_enter Try.func43, Try.ntmps43
 go_upto_region 3 with fail
 go_region_held3 (fun w' => w'.cell? ⟨gm, 0, none⟩ = some (.int .i64 pc) ∧ w'.cell? ⟨gm, 1, none⟩ = some (.slice As st.length cs) ∧ w'.cell? (ad0.add (pc.toNat * 4)) = some (.int .i64 8) ∧ w'.cell? ⟨(ad0.add (pc.toNat * 4)).block, (ad0.add (pc.toNat * 4)).off + 1, none⟩ = some (.int .i64 xa) ∧ w'.cell? ⟨(ad0.add (pc.toNat * 4)).block, (ad0.add (pc.toNat * 4)).off + 2, none⟩ = some (.int .i64 xb) ∧ w'.cell? ⟨(ad0.add (pc.toNat * 4)).block, (ad0.add (pc.toNat * 4)).off + 3, none⟩ = some (.int .i64 xc)) (first | assumption | go_keep) (fail)
 have hT := Ak (impl_step.St.start (a := 8) (b := xa) (c := xb) (d := xc) HH.out w.heap.size rfl)
 generalize (w.alloc (.cells #[.int .i64 8, .int .i64 xa, .int .i64 xb, .int .i64 xc] 48)).drew = W at hT ⊢
 generalize w.heap.size = gx at hT ⊢
 clear k0 k1 k2 z0 z1 x0 x1 x2 x3 HH wr b1 b2 b3
 obtain ⟨m0, m1, m2, f0, f1, y0, y1, y2, y3⟩ := hT.out.cells
 have HN := Ak (impl_step.need k).2.2.2.2.2.2.2.1
 have n1 : decide ((st.length : Int) < 2) = true := decide_eq_true (by omega)
 go_upto_region 6 with fail
 go_region_held3 (fun w' => w'.cell? ⟨gm, 1, none⟩ = some (.slice As st.length cs) ∧ w'.cell? ⟨gx, 0, none⟩ = some (.int .i64 8)) (first | assumption | go_keep) ((go_at_call 73; with_reducible refine (impl_needs.calls (k + 1) 8 2 _ HN.out).mono ?_; rintro e wn ⟨rfl, ⟨nd, rfl⟩⟩))
 have hT2 := Ak (hT.out.drewN (1 + nd))
 go_wp2
 go_ret
 exact ⟨rfl, _, _, hT2.out.held⟩
set_option maxRecDepth 1000000 in
theorem impl_step.few9 (k : Nat) (ad0 : Addr) (c0 : Nat) (l : List S48) (gm : Nat) (pc : Int) (vs vc : Value) (st cl : List Int) (w0 w : World) (hC : Kd.C k48 w (some ad0) l.length l) (hH : impl_step.Held w0 w gm pc vs vc st cl) (h0 : 0 ≤ pc) (h1 : pc < l.length) (h2 : l.length ≤ 80) (h3 : st.length ≤ 20) (hc : (rd_T48 l pc).f0 = 9) (h4 : st.length < 1) :
  Calls Try.prog 43 #[.slice (some ad0) l.length c0, .pointer (some ⟨gm, 0, none⟩)] w fun e w' => e = .returned (.int .i64 3) ∧ ∃ vs' vc', impl_step.Held w0 w' gm pc vs' vc' st cl := by
 obtain ⟨As, cs, rfl⟩ := Kd.R_slice hH.s
 obtain ⟨Ac, cc, rfl⟩ := Kd.R_slice hH.c
 have z0 : w.cell? ⟨gm, 0, none⟩ = some (.int .i64 pc) := (blk_cell hH.m 0).trans rfl
 have z1 : w.cell? ⟨gm, 1, none⟩ = some (.slice As st.length cs) := (blk_cell hH.m 1).trans rfl
 obtain ⟨ad, e, x0, x1, x2, x3⟩ := at_T48 hC pc h0 h1
 cases e
 have HH := Ak hH
 clear hH hC
 obtain ⟨xa, hxa⟩ : ∃ x, x = (rd_T48 l pc).f1 := ⟨_, rfl⟩
 obtain ⟨xb, hxb⟩ : ∃ x, x = (rd_T48 l pc).f2 := ⟨_, rfl⟩
 obtain ⟨xc, hxc⟩ : ∃ x, x = (rd_T48 l pc).f3 := ⟨_, rfl⟩
 rw [hc] at x0
 rw [← hxa] at x1
 rw [← hxb] at x2
 rw [← hxc] at x3
 replace hxa := Ak hxa
 replace hxb := Ak hxb
 replace hxc := Ak hxc
 clear hc
 have b1 : (pc == (l.length : Int)) = false := beq_eq_false_iff_ne.mpr (by omega)
 have b2 : decide (0 ≤ pc) = true := decide_eq_true h0
 have b3 : decide (pc < (l.length : Int)) = true := decide_eq_true h1
 have k0 := World.new_ne w ⟨gm, 0, none⟩ z0
 have k1 := World.new_ne w ⟨gm, 1, none⟩ z1
 have k2 := World.new_ne w _ x0
 obtain ⟨tp, htp⟩ : ∃ t : Int, t = (st.length : Int) - 1 := ⟨_, rfl⟩
 have wr : IntKind.i64.wrap ((st.length : Int) - 1) = tp := (i64_w _).trans (by rw [htp]; unfold wrap64; omega)
 replace htp := Ak htp
 go_enter Try.func43, Try.ntmps43
 go_upto_region 3 with fail
 go_region_held3 (fun w' => w'.cell? ⟨gm, 0, none⟩ = some (.int .i64 pc) ∧ w'.cell? ⟨gm, 1, none⟩ = some (.slice As st.length cs) ∧ w'.cell? (ad0.add (pc.toNat * 4)) = some (.int .i64 9) ∧ w'.cell? ⟨(ad0.add (pc.toNat * 4)).block, (ad0.add (pc.toNat * 4)).off + 1, none⟩ = some (.int .i64 xa) ∧ w'.cell? ⟨(ad0.add (pc.toNat * 4)).block, (ad0.add (pc.toNat * 4)).off + 2, none⟩ = some (.int .i64 xb) ∧ w'.cell? ⟨(ad0.add (pc.toNat * 4)).block, (ad0.add (pc.toNat * 4)).off + 3, none⟩ = some (.int .i64 xc)) (first | assumption | go_keep) (fail)
 have hT := Ak (impl_step.St.start (a := 9) (b := xa) (c := xb) (d := xc) HH.out w.heap.size rfl)
 generalize (w.alloc (.cells #[.int .i64 9, .int .i64 xa, .int .i64 xb, .int .i64 xc] 48)).drew = W at hT ⊢
 generalize w.heap.size = gx at hT ⊢
 clear k0 k1 k2 z0 z1 x0 x1 x2 x3 HH wr b1 b2 b3
 obtain ⟨m0, m1, m2, f0, f1, y0, y1, y2, y3⟩ := hT.out.cells
 have HN := Ak (impl_step.need k).2.2.2.2.2.2.2.2.1
 have n1 : decide ((st.length : Int) < 1) = true := decide_eq_true (by omega)
 go_upto_region 6 with fail
 go_region_held3 (fun w' => w'.cell? ⟨gm, 1, none⟩ = some (.slice As st.length cs) ∧ w'.cell? ⟨gx, 0, none⟩ = some (.int .i64 9)) (first | assumption | go_keep) ((go_at_call 73; with_reducible refine (impl_needs.calls (k + 1) 9 1 _ HN.out).mono ?_; rintro e wn ⟨rfl, ⟨nd, rfl⟩⟩))
 have hT2 := Ak (hT.out.drewN (1 + nd))
 go_wp2
 go_ret
 exact ⟨rfl, _, _, hT2.out.held⟩
set_option maxRecDepth 1000000 in
theorem impl_step.few10 (k : Nat) (ad0 : Addr) (c0 : Nat) (l : List S48) (gm : Nat) (pc : Int) (vs vc : Value) (st cl : List Int) (w0 w : World) (hC : Kd.C k48 w (some ad0) l.length l) (hH : impl_step.Held w0 w gm pc vs vc st cl) (h0 : 0 ≤ pc) (h1 : pc < l.length) (h2 : l.length ≤ 80) (h3 : st.length ≤ 20) (hc : (rd_T48 l pc).f0 = 10) (h4 : st.length < 1) :
  Calls Try.prog 43 #[.slice (some ad0) l.length c0, .pointer (some ⟨gm, 0, none⟩)] w fun e w' => e = .returned (.int .i64 3) ∧ ∃ vs' vc', impl_step.Held w0 w' gm pc vs' vc' st cl := by
 obtain ⟨As, cs, rfl⟩ := Kd.R_slice hH.s
 obtain ⟨Ac, cc, rfl⟩ := Kd.R_slice hH.c
 have z0 : w.cell? ⟨gm, 0, none⟩ = some (.int .i64 pc) := (blk_cell hH.m 0).trans rfl
 have z1 : w.cell? ⟨gm, 1, none⟩ = some (.slice As st.length cs) := (blk_cell hH.m 1).trans rfl
 obtain ⟨ad, e, x0, x1, x2, x3⟩ := at_T48 hC pc h0 h1
 cases e
 have HH := Ak hH
 clear hH hC
 obtain ⟨xa, hxa⟩ : ∃ x, x = (rd_T48 l pc).f1 := ⟨_, rfl⟩
 obtain ⟨xb, hxb⟩ : ∃ x, x = (rd_T48 l pc).f2 := ⟨_, rfl⟩
 obtain ⟨xc, hxc⟩ : ∃ x, x = (rd_T48 l pc).f3 := ⟨_, rfl⟩
 rw [hc] at x0
 rw [← hxa] at x1
 rw [← hxb] at x2
 rw [← hxc] at x3
 replace hxa := Ak hxa
 replace hxb := Ak hxb
 replace hxc := Ak hxc
 clear hc
 have b1 : (pc == (l.length : Int)) = false := beq_eq_false_iff_ne.mpr (by omega)
 have b2 : decide (0 ≤ pc) = true := decide_eq_true h0
 have b3 : decide (pc < (l.length : Int)) = true := decide_eq_true h1
 have k0 := World.new_ne w ⟨gm, 0, none⟩ z0
 have k1 := World.new_ne w ⟨gm, 1, none⟩ z1
 have k2 := World.new_ne w _ x0
 obtain ⟨tp, htp⟩ : ∃ t : Int, t = (st.length : Int) - 1 := ⟨_, rfl⟩
 have wr : IntKind.i64.wrap ((st.length : Int) - 1) = tp := (i64_w _).trans (by rw [htp]; unfold wrap64; omega)
 replace htp := Ak htp
 go_enter Try.func43, Try.ntmps43
 go_upto_region 3 with fail
 go_region_held3 (fun w' => w'.cell? ⟨gm, 0, none⟩ = some (.int .i64 pc) ∧ w'.cell? ⟨gm, 1, none⟩ = some (.slice As st.length cs) ∧ w'.cell? (ad0.add (pc.toNat * 4)) = some (.int .i64 10) ∧ w'.cell? ⟨(ad0.add (pc.toNat * 4)).block, (ad0.add (pc.toNat * 4)).off + 1, none⟩ = some (.int .i64 xa) ∧ w'.cell? ⟨(ad0.add (pc.toNat * 4)).block, (ad0.add (pc.toNat * 4)).off + 2, none⟩ = some (.int .i64 xb) ∧ w'.cell? ⟨(ad0.add (pc.toNat * 4)).block, (ad0.add (pc.toNat * 4)).off + 3, none⟩ = some (.int .i64 xc)) (first | assumption | go_keep) (fail)
 have hT := Ak (impl_step.St.start (a := 10) (b := xa) (c := xb) (d := xc) HH.out w.heap.size rfl)
 generalize (w.alloc (.cells #[.int .i64 10, .int .i64 xa, .int .i64 xb, .int .i64 xc] 48)).drew = W at hT ⊢
 generalize w.heap.size = gx at hT ⊢
 clear k0 k1 k2 z0 z1 x0 x1 x2 x3 HH wr b1 b2 b3
 obtain ⟨m0, m1, m2, f0, f1, y0, y1, y2, y3⟩ := hT.out.cells
 have HN := Ak (impl_step.need k).2.2.2.2.2.2.2.2.2.1
 have n1 : decide ((st.length : Int) < 1) = true := decide_eq_true (by omega)
 go_upto_region 6 with fail
 go_region_held3 (fun w' => w'.cell? ⟨gm, 1, none⟩ = some (.slice As st.length cs) ∧ w'.cell? ⟨gx, 0, none⟩ = some (.int .i64 10)) (first | assumption | go_keep) ((go_at_call 73; with_reducible refine (impl_needs.calls (k + 1) 10 1 _ HN.out).mono ?_; rintro e wn ⟨rfl, ⟨nd, rfl⟩⟩))
 have hT2 := Ak (hT.out.drewN (1 + nd))
 go_wp2
 go_ret
 exact ⟨rfl, _, _, hT2.out.held⟩
set_option maxRecDepth 1000000 in
theorem impl_step.few11 (k : Nat) (ad0 : Addr) (c0 : Nat) (l : List S48) (gm : Nat) (pc : Int) (vs vc : Value) (st cl : List Int) (w0 w : World) (hC : Kd.C k48 w (some ad0) l.length l) (hH : impl_step.Held w0 w gm pc vs vc st cl) (h0 : 0 ≤ pc) (h1 : pc < l.length) (h2 : l.length ≤ 80) (h3 : st.length ≤ 20) (hc : (rd_T48 l pc).f0 = 11) (h4 : st.length < 1) :
  Calls Try.prog 43 #[.slice (some ad0) l.length c0, .pointer (some ⟨gm, 0, none⟩)] w fun e w' => e = .returned (.int .i64 3) ∧ ∃ vs' vc', impl_step.Held w0 w' gm pc vs' vc' st cl := by
 obtain ⟨As, cs, rfl⟩ := Kd.R_slice hH.s
 obtain ⟨Ac, cc, rfl⟩ := Kd.R_slice hH.c
 have z0 : w.cell? ⟨gm, 0, none⟩ = some (.int .i64 pc) := (blk_cell hH.m 0).trans rfl
 have z1 : w.cell? ⟨gm, 1, none⟩ = some (.slice As st.length cs) := (blk_cell hH.m 1).trans rfl
 obtain ⟨ad, e, x0, x1, x2, x3⟩ := at_T48 hC pc h0 h1
 cases e
 have HH := Ak hH
 clear hH hC
 obtain ⟨xa, hxa⟩ : ∃ x, x = (rd_T48 l pc).f1 := ⟨_, rfl⟩
 obtain ⟨xb, hxb⟩ : ∃ x, x = (rd_T48 l pc).f2 := ⟨_, rfl⟩
 obtain ⟨xc, hxc⟩ : ∃ x, x = (rd_T48 l pc).f3 := ⟨_, rfl⟩
 rw [hc] at x0
 rw [← hxa] at x1
 rw [← hxb] at x2
 rw [← hxc] at x3
 replace hxa := Ak hxa
 replace hxb := Ak hxb
 replace hxc := Ak hxc
 clear hc
 have b1 : (pc == (l.length : Int)) = false := beq_eq_false_iff_ne.mpr (by omega)
 have b2 : decide (0 ≤ pc) = true := decide_eq_true h0
 have b3 : decide (pc < (l.length : Int)) = true := decide_eq_true h1
 have k0 := World.new_ne w ⟨gm, 0, none⟩ z0
 have k1 := World.new_ne w ⟨gm, 1, none⟩ z1
 have k2 := World.new_ne w _ x0
 obtain ⟨tp, htp⟩ : ∃ t : Int, t = (st.length : Int) - 1 := ⟨_, rfl⟩
 have wr : IntKind.i64.wrap ((st.length : Int) - 1) = tp := (i64_w _).trans (by rw [htp]; unfold wrap64; omega)
 replace htp := Ak htp
 go_enter Try.func43, Try.ntmps43
 go_upto_region 3 with fail
 go_region_held3 (fun w' => w'.cell? ⟨gm, 0, none⟩ = some (.int .i64 pc) ∧ w'.cell? ⟨gm, 1, none⟩ = some (.slice As st.length cs) ∧ w'.cell? (ad0.add (pc.toNat * 4)) = some (.int .i64 11) ∧ w'.cell? ⟨(ad0.add (pc.toNat * 4)).block, (ad0.add (pc.toNat * 4)).off + 1, none⟩ = some (.int .i64 xa) ∧ w'.cell? ⟨(ad0.add (pc.toNat * 4)).block, (ad0.add (pc.toNat * 4)).off + 2, none⟩ = some (.int .i64 xb) ∧ w'.cell? ⟨(ad0.add (pc.toNat * 4)).block, (ad0.add (pc.toNat * 4)).off + 3, none⟩ = some (.int .i64 xc)) (first | assumption | go_keep) (fail)
 have hT := Ak (impl_step.St.start (a := 11) (b := xa) (c := xb) (d := xc) HH.out w.heap.size rfl)
 generalize (w.alloc (.cells #[.int .i64 11, .int .i64 xa, .int .i64 xb, .int .i64 xc] 48)).drew = W at hT ⊢
 generalize w.heap.size = gx at hT ⊢
 clear k0 k1 k2 z0 z1 x0 x1 x2 x3 HH wr b1 b2 b3
 obtain ⟨m0, m1, m2, f0, f1, y0, y1, y2, y3⟩ := hT.out.cells
 have HN := Ak (impl_step.need k).2.2.2.2.2.2.2.2.2.2.1
 have n1 : decide ((st.length : Int) < 1) = true := decide_eq_true (by omega)
 go_upto_region 6 with fail
 go_region_held3 (fun w' => w'.cell? ⟨gm, 1, none⟩ = some (.slice As st.length cs) ∧ w'.cell? ⟨gx, 0, none⟩ = some (.int .i64 11)) (first | assumption | go_keep) ((go_at_call 73; with_reducible refine (impl_needs.calls (k + 1) 11 1 _ HN.out).mono ?_; rintro e wn ⟨rfl, ⟨nd, rfl⟩⟩))
 have hT2 := Ak (hT.out.drewN (1 + nd))
 go_wp2
 go_ret
 exact ⟨rfl, _, _, hT2.out.held⟩
set_option maxRecDepth 1000000 in
theorem impl_step.few12 (k : Nat) (ad0 : Addr) (c0 : Nat) (l : List S48) (gm : Nat) (pc : Int) (vs vc : Value) (st cl : List Int) (w0 w : World) (hC : Kd.C k48 w (some ad0) l.length l) (hH : impl_step.Held w0 w gm pc vs vc st cl) (h0 : 0 ≤ pc) (h1 : pc < l.length) (h2 : l.length ≤ 80) (h3 : st.length ≤ 20) (hc : (rd_T48 l pc).f0 = 12) (h4 : st.length < 2) :
  Calls Try.prog 43 #[.slice (some ad0) l.length c0, .pointer (some ⟨gm, 0, none⟩)] w fun e w' => e = .returned (.int .i64 3) ∧ ∃ vs' vc', impl_step.Held w0 w' gm pc vs' vc' st cl := by
 obtain ⟨As, cs, rfl⟩ := Kd.R_slice hH.s
 obtain ⟨Ac, cc, rfl⟩ := Kd.R_slice hH.c
 have z0 : w.cell? ⟨gm, 0, none⟩ = some (.int .i64 pc) := (blk_cell hH.m 0).trans rfl
 have z1 : w.cell? ⟨gm, 1, none⟩ = some (.slice As st.length cs) := (blk_cell hH.m 1).trans rfl
 obtain ⟨ad, e, x0, x1, x2, x3⟩ := at_T48 hC pc h0 h1
 cases e
 have HH := Ak hH
 clear hH hC
 obtain ⟨xa, hxa⟩ : ∃ x, x = (rd_T48 l pc).f1 := ⟨_, rfl⟩
 obtain ⟨xb, hxb⟩ : ∃ x, x = (rd_T48 l pc).f2 := ⟨_, rfl⟩
 obtain ⟨xc, hxc⟩ : ∃ x, x = (rd_T48 l pc).f3 := ⟨_, rfl⟩
 rw [hc] at x0
 rw [← hxa] at x1
 rw [← hxb] at x2
 rw [← hxc] at x3
 replace hxa := Ak hxa
 replace hxb := Ak hxb
 replace hxc := Ak hxc
 clear hc
 have b1 : (pc == (l.length : Int)) = false := beq_eq_false_iff_ne.mpr (by omega)
 have b2 : decide (0 ≤ pc) = true := decide_eq_true h0
 have b3 : decide (pc < (l.length : Int)) = true := decide_eq_true h1
 have k0 := World.new_ne w ⟨gm, 0, none⟩ z0
 have k1 := World.new_ne w ⟨gm, 1, none⟩ z1
 have k2 := World.new_ne w _ x0
 obtain ⟨tp, htp⟩ : ∃ t : Int, t = (st.length : Int) - 1 := ⟨_, rfl⟩
 have wr : IntKind.i64.wrap ((st.length : Int) - 1) = tp := (i64_w _).trans (by rw [htp]; unfold wrap64; omega)
 replace htp := Ak htp
 go_enter Try.func43, Try.ntmps43
 go_upto_region 3 with fail
 go_region_held3 (fun w' => w'.cell? ⟨gm, 0, none⟩ = some (.int .i64 pc) ∧ w'.cell? ⟨gm, 1, none⟩ = some (.slice As st.length cs) ∧ w'.cell? (ad0.add (pc.toNat * 4)) = some (.int .i64 12) ∧ w'.cell? ⟨(ad0.add (pc.toNat * 4)).block, (ad0.add (pc.toNat * 4)).off + 1, none⟩ = some (.int .i64 xa) ∧ w'.cell? ⟨(ad0.add (pc.toNat * 4)).block, (ad0.add (pc.toNat * 4)).off + 2, none⟩ = some (.int .i64 xb) ∧ w'.cell? ⟨(ad0.add (pc.toNat * 4)).block, (ad0.add (pc.toNat * 4)).off + 3, none⟩ = some (.int .i64 xc)) (first | assumption | go_keep) (fail)
 have hT := Ak (impl_step.St.start (a := 12) (b := xa) (c := xb) (d := xc) HH.out w.heap.size rfl)
 generalize (w.alloc (.cells #[.int .i64 12, .int .i64 xa, .int .i64 xb, .int .i64 xc] 48)).drew = W at hT ⊢
 generalize w.heap.size = gx at hT ⊢
 clear k0 k1 k2 z0 z1 x0 x1 x2 x3 HH wr b1 b2 b3
 obtain ⟨m0, m1, m2, f0, f1, y0, y1, y2, y3⟩ := hT.out.cells
 have HN := Ak (impl_step.need k).2.2.2.2.2.2.2.2.2.2.2.1
 have n1 : decide ((st.length : Int) < 2) = true := decide_eq_true (by omega)
 go_upto_region 6 with fail
 go_region_held3 (fun w' => w'.cell? ⟨gm, 1, none⟩ = some (.slice As st.length cs) ∧ w'.cell? ⟨gx, 0, none⟩ = some (.int .i64 12)) (first | assumption | go_keep) ((go_at_call 73; with_reducible refine (impl_needs.calls (k + 1) 12 2 _ HN.out).mono ?_; rintro e wn ⟨rfl, ⟨nd, rfl⟩⟩))
 have hT2 := Ak (hT.out.drewN (1 + nd))
 go_wp2
 go_ret
 exact ⟨rfl, _, _, hT2.out.held⟩
set_option maxRecDepth 1000000 in
theorem impl_step.few14 (k : Nat) (ad0 : Addr) (c0 : Nat) (l : List S48) (gm : Nat) (pc : Int) (vs vc : Value) (st cl : List Int) (w0 w : World) (hC : Kd.C k48 w (some ad0) l.length l) (hH : impl_step.Held w0 w gm pc vs vc st cl) (h0 : 0 ≤ pc) (h1 : pc < l.length) (h2 : l.length ≤ 80) (h3 : st.length ≤ 20) (hc : (rd_T48 l pc).f0 = 14) (h4 : st.length < 1) :
  Calls Try.prog 43 #[.slice (some ad0) l.length c0, .pointer (some ⟨gm, 0, none⟩)] w fun e w' => e = .returned (.int .i64 3) ∧ ∃ vs' vc', impl_step.Held w0 w' gm pc vs' vc' st cl := by
 obtain ⟨As, cs, rfl⟩ := Kd.R_slice hH.s
 obtain ⟨Ac, cc, rfl⟩ := Kd.R_slice hH.c
 have z0 : w.cell? ⟨gm, 0, none⟩ = some (.int .i64 pc) := (blk_cell hH.m 0).trans rfl
 have z1 : w.cell? ⟨gm, 1, none⟩ = some (.slice As st.length cs) := (blk_cell hH.m 1).trans rfl
 obtain ⟨ad, e, x0, x1, x2, x3⟩ := at_T48 hC pc h0 h1
 cases e
 have HH := Ak hH
 clear hH hC
 obtain ⟨xa, hxa⟩ : ∃ x, x = (rd_T48 l pc).f1 := ⟨_, rfl⟩
 obtain ⟨xb, hxb⟩ : ∃ x, x = (rd_T48 l pc).f2 := ⟨_, rfl⟩
 obtain ⟨xc, hxc⟩ : ∃ x, x = (rd_T48 l pc).f3 := ⟨_, rfl⟩
 rw [hc] at x0
 rw [← hxa] at x1
 rw [← hxb] at x2
 rw [← hxc] at x3
 replace hxa := Ak hxa
 replace hxb := Ak hxb
 replace hxc := Ak hxc
 clear hc
 have b1 : (pc == (l.length : Int)) = false := beq_eq_false_iff_ne.mpr (by omega)
 have b2 : decide (0 ≤ pc) = true := decide_eq_true h0
 have b3 : decide (pc < (l.length : Int)) = true := decide_eq_true h1
 have k0 := World.new_ne w ⟨gm, 0, none⟩ z0
 have k1 := World.new_ne w ⟨gm, 1, none⟩ z1
 have k2 := World.new_ne w _ x0
 obtain ⟨tp, htp⟩ : ∃ t : Int, t = (st.length : Int) - 1 := ⟨_, rfl⟩
 have wr : IntKind.i64.wrap ((st.length : Int) - 1) = tp := (i64_w _).trans (by rw [htp]; unfold wrap64; omega)
 replace htp := Ak htp
 go_enter Try.func43, Try.ntmps43
 go_upto_region 3 with fail
 go_region_held3 (fun w' => w'.cell? ⟨gm, 0, none⟩ = some (.int .i64 pc) ∧ w'.cell? ⟨gm, 1, none⟩ = some (.slice As st.length cs) ∧ w'.cell? (ad0.add (pc.toNat * 4)) = some (.int .i64 14) ∧ w'.cell? ⟨(ad0.add (pc.toNat * 4)).block, (ad0.add (pc.toNat * 4)).off + 1, none⟩ = some (.int .i64 xa) ∧ w'.cell? ⟨(ad0.add (pc.toNat * 4)).block, (ad0.add (pc.toNat * 4)).off + 2, none⟩ = some (.int .i64 xb) ∧ w'.cell? ⟨(ad0.add (pc.toNat * 4)).block, (ad0.add (pc.toNat * 4)).off + 3, none⟩ = some (.int .i64 xc)) (first | assumption | go_keep) (fail)
 have hT := Ak (impl_step.St.start (a := 14) (b := xa) (c := xb) (d := xc) HH.out w.heap.size rfl)
 generalize (w.alloc (.cells #[.int .i64 14, .int .i64 xa, .int .i64 xb, .int .i64 xc] 48)).drew = W at hT ⊢
 generalize w.heap.size = gx at hT ⊢
 clear k0 k1 k2 z0 z1 x0 x1 x2 x3 HH wr b1 b2 b3
 obtain ⟨m0, m1, m2, f0, f1, y0, y1, y2, y3⟩ := hT.out.cells
 have HN := Ak (impl_step.need k).2.2.2.2.2.2.2.2.2.2.2.2.2
 have n1 : decide ((st.length : Int) < 1) = true := decide_eq_true (by omega)
 go_upto_region 6 with fail
 go_region_held3 (fun w' => w'.cell? ⟨gm, 1, none⟩ = some (.slice As st.length cs) ∧ w'.cell? ⟨gx, 0, none⟩ = some (.int .i64 14)) (first | assumption | go_keep) ((go_at_call 73; with_reducible refine (impl_needs.calls (k + 1) 14 1 _ HN.out).mono ?_; rintro e wn ⟨rfl, ⟨nd, rfl⟩⟩))
 have hT2 := Ak (hT.out.drewN (1 + nd))
 go_wp2
 go_ret
 exact ⟨rfl, _, _, hT2.out.held⟩
set_option maxRecDepth 1000000 in
theorem impl_step.full1 (k : Nat) (ad0 : Addr) (c0 : Nat) (l : List S48) (gm : Nat) (pc : Int) (vs vc : Value) (st cl : List Int) (w0 w : World) (hC : Kd.C k48 w (some ad0) l.length l) (hH : impl_step.Held w0 w gm pc vs vc st cl) (h0 : 0 ≤ pc) (h1 : pc < l.length) (h2 : l.length ≤ 80) (h3 : st.length ≤ 20) (hc : (rd_T48 l pc).f0 = 1) (h4 : st.length = 20) :
  Calls Try.prog 43 #[.slice (some ad0) l.length c0, .pointer (some ⟨gm, 0, none⟩)] w fun e w' => e = .returned (.int .i64 3) ∧ ∃ vs' vc', impl_step.Held w0 w' gm pc vs' vc' st cl := by
 obtain ⟨As, cs, rfl⟩ := Kd.R_slice hH.s
 obtain ⟨Ac, cc, rfl⟩ := Kd.R_slice hH.c
 have z0 : w.cell? ⟨gm, 0, none⟩ = some (.int .i64 pc) := (blk_cell hH.m 0).trans rfl
 have z1 : w.cell? ⟨gm, 1, none⟩ = some (.slice As st.length cs) := (blk_cell hH.m 1).trans rfl
 obtain ⟨ad, e, x0, x1, x2, x3⟩ := at_T48 hC pc h0 h1
 cases e
 have HH := Ak hH
 clear hH hC
 obtain ⟨xa, hxa⟩ : ∃ x, x = (rd_T48 l pc).f1 := ⟨_, rfl⟩
 obtain ⟨xb, hxb⟩ : ∃ x, x = (rd_T48 l pc).f2 := ⟨_, rfl⟩
 obtain ⟨xc, hxc⟩ : ∃ x, x = (rd_T48 l pc).f3 := ⟨_, rfl⟩
 rw [hc] at x0
 rw [← hxa] at x1
 rw [← hxb] at x2
 rw [← hxc] at x3
 replace hxa := Ak hxa
 replace hxb := Ak hxb
 replace hxc := Ak hxc
 clear hc
 have b1 : (pc == (l.length : Int)) = false := beq_eq_false_iff_ne.mpr (by omega)
 have b2 : decide (0 ≤ pc) = true := decide_eq_true h0
 have b3 : decide (pc < (l.length : Int)) = true := decide_eq_true h1
 have k0 := World.new_ne w ⟨gm, 0, none⟩ z0
 have k1 := World.new_ne w ⟨gm, 1, none⟩ z1
 have k2 := World.new_ne w _ x0
 obtain ⟨tp, htp⟩ : ∃ t : Int, t = (st.length : Int) - 1 := ⟨_, rfl⟩
 have wr : IntKind.i64.wrap ((st.length : Int) - 1) = tp := (i64_w _).trans (by rw [htp]; unfold wrap64; omega)
 replace htp := Ak htp
 go_enter Try.func43, Try.ntmps43
 go_upto_region 3 with fail
 go_region_held3 (fun w' => w'.cell? ⟨gm, 0, none⟩ = some (.int .i64 pc) ∧ w'.cell? ⟨gm, 1, none⟩ = some (.slice As st.length cs) ∧ w'.cell? (ad0.add (pc.toNat * 4)) = some (.int .i64 1) ∧ w'.cell? ⟨(ad0.add (pc.toNat * 4)).block, (ad0.add (pc.toNat * 4)).off + 1, none⟩ = some (.int .i64 xa) ∧ w'.cell? ⟨(ad0.add (pc.toNat * 4)).block, (ad0.add (pc.toNat * 4)).off + 2, none⟩ = some (.int .i64 xb) ∧ w'.cell? ⟨(ad0.add (pc.toNat * 4)).block, (ad0.add (pc.toNat * 4)).off + 3, none⟩ = some (.int .i64 xc)) (first | assumption | go_keep) (fail)
 have hT := Ak (impl_step.St.start (a := 1) (b := xa) (c := xb) (d := xc) HH.out w.heap.size rfl)
 generalize (w.alloc (.cells #[.int .i64 1, .int .i64 xa, .int .i64 xb, .int .i64 xc] 48)).drew = W at hT ⊢
 generalize w.heap.size = gx at hT ⊢
 clear k0 k1 k2 z0 z1 x0 x1 x2 x3 HH wr b1 b2 b3
 obtain ⟨m0, m1, m2, f0, f1, y0, y1, y2, y3⟩ := hT.out.cells
 have HN := Ak (impl_step.need k).1
 have n1 : decide ((st.length : Int) < 0) = false := decide_eq_false (by omega)
 have n2 : ((st.length : Int) == 20) = true := beq_iff_eq.mpr (by omega)
 clear h4
 go_upto_region 6 with fail
 go_region_held3 (fun w' => w'.cell? ⟨gm, 1, none⟩ = some (.slice As st.length cs) ∧ w'.cell? ⟨gx, 0, none⟩ = some (.int .i64 1)) (first | assumption | go_keep) ((go_at_call 73; with_reducible refine (impl_needs.calls (k + 1) 1 0 _ HN.out).mono ?_; rintro e wn ⟨rfl, ⟨nd, rfl⟩⟩))
 have hT2 := Ak (hT.out.drewN (1 + nd))
 generalize W.drewN (1 + nd) = W2 at hT2 ⊢
 clear hT m0 m1 m2 f0 f1 y0 y1 y2 y3
 obtain ⟨m0, m1, m2, f0, f1, y0, y1, y2, y3⟩ := hT2.out.cells
 have ne1 := hT2.out.mx
 have ne2 := ne1.symm
 go_wp2
 go_ret
 exact ⟨rfl, _, _, hT2.out.held⟩
set_option maxRecDepth 1000000 in
theorem impl_step.full7 (k : Nat) (ad0 : Addr) (c0 : Nat) (l : List S48) (gm : Nat) (pc : Int) (vs vc : Value) (st cl : List Int) (w0 w : World) (hC : Kd.C k48 w (some ad0) l.length l) (hH : impl_step.Held w0 w gm pc vs vc st cl) (h0 : 0 ≤ pc) (h1 : pc < l.length) (h2 : l.length ≤ 80) (h3 : st.length ≤ 20) (hc : (rd_T48 l pc).f0 = 7) (h4 : st.length = 20) :
  Calls Try.prog 43 #[.slice (some ad0) l.length c0, .pointer (some ⟨gm, 0, none⟩)] w fun e w' => e = .returned (.int .i64 3) ∧ ∃ vs' vc', impl_step.Held w0 w' gm pc vs' vc' st cl := by
 obtain ⟨As, cs, rfl⟩ := Kd.R_slice hH.s
 obtain ⟨Ac, cc, rfl⟩ := Kd.R_slice hH.c
 have z0 : w.cell? ⟨gm, 0, none⟩ = some (.int .i64 pc) := (blk_cell hH.m 0).trans rfl
 have z1 : w.cell? ⟨gm, 1, none⟩ = some (.slice As st.length cs) := (blk_cell hH.m 1).trans rfl
 obtain ⟨ad, e, x0, x1, x2, x3⟩ := at_T48 hC pc h0 h1
 cases e
 have HH := Ak hH
 clear hH hC
 obtain ⟨xa, hxa⟩ : ∃ x, x = (rd_T48 l pc).f1 := ⟨_, rfl⟩
 obtain ⟨xb, hxb⟩ : ∃ x, x = (rd_T48 l pc).f2 := ⟨_, rfl⟩
 obtain ⟨xc, hxc⟩ : ∃ x, x = (rd_T48 l pc).f3 := ⟨_, rfl⟩
 rw [hc] at x0
 rw [← hxa] at x1
 rw [← hxb] at x2
 rw [← hxc] at x3
 replace hxa := Ak hxa
 replace hxb := Ak hxb
 replace hxc := Ak hxc
 clear hc
 have b1 : (pc == (l.length : Int)) = false := beq_eq_false_iff_ne.mpr (by omega)
 have b2 : decide (0 ≤ pc) = true := decide_eq_true h0
 have b3 : decide (pc < (l.length : Int)) = true := decide_eq_true h1
 have k0 := World.new_ne w ⟨gm, 0, none⟩ z0
 have k1 := World.new_ne w ⟨gm, 1, none⟩ z1
 have k2 := World.new_ne w _ x0
 obtain ⟨tp, htp⟩ : ∃ t : Int, t = (st.length : Int) - 1 := ⟨_, rfl⟩
 have wr : IntKind.i64.wrap ((st.length : Int) - 1) = tp := (i64_w _).trans (by rw [htp]; unfold wrap64; omega)
 replace htp := Ak htp
 go_enter Try.func43, Try.ntmps43
 go_upto_region 3 with fail
 go_region_held3 (fun w' => w'.cell? ⟨gm, 0, none⟩ = some (.int .i64 pc) ∧ w'.cell? ⟨gm, 1, none⟩ = some (.slice As st.length cs) ∧ w'.cell? (ad0.add (pc.toNat * 4)) = some (.int .i64 7) ∧ w'.cell? ⟨(ad0.add (pc.toNat * 4)).block, (ad0.add (pc.toNat * 4)).off + 1, none⟩ = some (.int .i64 xa) ∧ w'.cell? ⟨(ad0.add (pc.toNat * 4)).block, (ad0.add (pc.toNat * 4)).off + 2, none⟩ = some (.int .i64 xb) ∧ w'.cell? ⟨(ad0.add (pc.toNat * 4)).block, (ad0.add (pc.toNat * 4)).off + 3, none⟩ = some (.int .i64 xc)) (first | assumption | go_keep) (fail)
 have hT := Ak (impl_step.St.start (a := 7) (b := xa) (c := xb) (d := xc) HH.out w.heap.size rfl)
 generalize (w.alloc (.cells #[.int .i64 7, .int .i64 xa, .int .i64 xb, .int .i64 xc] 48)).drew = W at hT ⊢
 generalize w.heap.size = gx at hT ⊢
 clear k0 k1 k2 z0 z1 x0 x1 x2 x3 HH wr b1 b2 b3
 obtain ⟨m0, m1, m2, f0, f1, y0, y1, y2, y3⟩ := hT.out.cells
 have HN := Ak (impl_step.need k).2.2.2.2.2.2.1
 have n1 : decide ((st.length : Int) < 1) = false := decide_eq_false (by omega)
 have n2 : ((st.length : Int) == 20) = true := beq_iff_eq.mpr (by omega)
 clear h4
 go_upto_region 6 with fail
 go_region_held3 (fun w' => w'.cell? ⟨gm, 1, none⟩ = some (.slice As st.length cs) ∧ w'.cell? ⟨gx, 0, none⟩ = some (.int .i64 7)) (first | assumption | go_keep) ((go_at_call 73; with_reducible refine (impl_needs.calls (k + 1) 7 1 _ HN.out).mono ?_; rintro e wn ⟨rfl, ⟨nd, rfl⟩⟩))
 have hT2 := Ak (hT.out.drewN (1 + nd))
 generalize W.drewN (1 + nd) = W2 at hT2 ⊢
 clear hT m0 m1 m2 f0 f1 y0 y1 y2 y3
 obtain ⟨m0, m1, m2, f0, f1, y0, y1, y2, y3⟩ := hT2.out.cells
 have ne1 := hT2.out.mx
 have ne2 := ne1.symm
 go_wp2
 go_ret
 exact ⟨rfl, _, _, hT2.out.held⟩
end Go.Proofs.Ytlmiankjbffboaa.HFnBranched

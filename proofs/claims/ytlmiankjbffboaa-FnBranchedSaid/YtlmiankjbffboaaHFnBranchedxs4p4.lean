/- Text for FnBranched: written by a program of this session on the pattern of the kit's print. -/
import Derived.Test.YtlmiankjbffboaaHFnBranchedxs4p0
import Derived.Test.YtlmiankjbffboaaHFnBranchedx0
import Derived.Test.YtlmiankjbffboaaHFnBranchedx1
import Derived.Test.YtlmiankjbffboaaHFnBranchedx2
import Derived.Test.YtlmiankjbffboaaHFnBranchedx3
namespace Go.Proofs.Ytlmiankjbffboaa.HFnBranched
set_option maxHeartbeats 8000000
set_option maxRecDepth 100000
open Go.RowKit Go.Proofs.YtlmiankjbffboaaW.PrintWords Go.Proofs.YtlmiankjbffboaaW.PrintLast Go.Proofs.YtlmiankjbffboaaW.PrintMore
attribute [local go_sem] max2_int min2_int max_two min_two max_three min_three max_four min_four
set_option linter.unusedVariables false
set_option linter.unusedSimpArgs false

set_option maxRecDepth 1000000 in
theorem impl_step.load (k : Nat) (ad0 : Addr) (c0 : Nat) (l : List S48) (gm : Nat) (pc : Int) (vs vc : Value) (st cl : List Int) (w0 w : World) (hC : Kd.C k48 w (some ad0) l.length l) (hH : impl_step.Held w0 w gm pc vs vc st cl) (h0 : 0 ≤ pc) (h1 : pc < l.length) (h2 : l.length ≤ 80) (h3 : st.length ≤ 20) (hc : (rd_T48 l pc).f0 = 11) (h4 : 1 ≤ st.length) (h5 : cl.length = 27) (h6 : -13 ≤ rd st ((st.length : Int) - 1) ∧ rd st ((st.length : Int) - 1) ≤ 13) (sz : Int) (hsz : impl_size.f (rd st ((st.length : Int) - 1)) = some sz) (hs2 : sz ≤ 13) :
  Calls Try.prog 43 #[.slice (some ad0) l.length c0, .pointer (some ⟨gm, 0, none⟩)] w fun e w' => e = .returned (.int .i64 0) ∧ ∃ vs' vc', impl_step.Held w0 w' gm (pc + 1) vs' vc' (st.set (st.length - 1) (rd cl (rd st ((st.length : Int) - 1) + 13))) cl := by
 obtain ⟨gs, cs, rfl, hgs, _, _⟩ := Kd.R_form hH.s (by omega)
 clear hgs
 obtain ⟨gc, cc, rfl, hgc, _, _⟩ := Kd.R_form hH.c (by omega)
 clear hgc
 have z0 : w.cell? ⟨gm, 0, none⟩ = some (.int .i64 pc) := (blk_cell hH.m 0).trans rfl
 have z1 : w.cell? ⟨gm, 1, none⟩ = some (.slice (some ⟨gs, 0, none⟩) st.length cs) := (blk_cell hH.m 1).trans rfl
 obtain ⟨ad, e, x0, x1, x2, x3⟩ := at_T48 hC pc h0 h1
 cases e
 have HH := Ak hH
 clear hH hC
 obtain ⟨xa, hxa⟩ : ∃ x, x = (rd_T48 l pc).f1 := ⟨_, rfl⟩
 obtain ⟨xb, hxb⟩ : ∃ x, x = (rd_T48 l pc).f2 := ⟨_, rfl⟩
 obtain ⟨xc, hxc⟩ : ∃ x, x = (rd_T48 l pc).f3 := ⟨_, rfl⟩
 rw [hc] at x0
 rw [← hxa] at x1
 rw [← hxb] at x2
 rw [← hxc] at x3
 replace hxa := Ak hxa
 replace hxb := Ak hxb
 replace hxc := Ak hxc
 clear hc
 have b1 : (pc == (l.length : Int)) = false := beq_eq_false_iff_ne.mpr (by omega)
 have b2 : decide (0 ≤ pc) = true := decide_eq_true h0
 have b3 : decide (pc < (l.length : Int)) = true := decide_eq_true h1
 have k0 := World.new_ne w ⟨gm, 0, none⟩ z0
 have k1 := World.new_ne w ⟨gm, 1, none⟩ z1
 have k2 := World.new_ne w _ x0
 obtain ⟨tp, htp⟩ : ∃ t : Int, t = (st.length : Int) - 1 := ⟨_, rfl⟩
 have wr : IntKind.i64.wrap ((st.length : Int) - 1) = tp := (i64_w _).trans (by rw [htp]; unfold wrap64; omega)
 have hp0 : 0 ≤ tp := by omega
 have hp1 : tp < st.length := by omega
 have p0 : (0 ≤ tp) = True := eq_true hp0
 have p1 : (tp < (st.length : Int)) = True := eq_true hp1
 have HP0 := Ak hp0
 have HP1 := Ak hp1
 clear hp0 hp1
 replace htp := Ak htp
 go_enter Try.func43, Try.ntmps43
 go_upto_region 3 with fail
 go_region_held3 (fun w' => w'.cell? ⟨gm, 0, none⟩ = some (.int .i64 pc) ∧ w'.cell? ⟨gm, 1, none⟩ = some (.slice (some ⟨gs, 0, none⟩) st.length cs) ∧ w'.cell? (ad0.add (pc.toNat * 4)) = some (.int .i64 11) ∧ w'.cell? ⟨(ad0.add (pc.toNat * 4)).block, (ad0.add (pc.toNat * 4)).off + 1, none⟩ = some (.int .i64 xa) ∧ w'.cell? ⟨(ad0.add (pc.toNat * 4)).block, (ad0.add (pc.toNat * 4)).off + 2, none⟩ = some (.int .i64 xb) ∧ w'.cell? ⟨(ad0.add (pc.toNat * 4)).block, (ad0.add (pc.toNat * 4)).off + 3, none⟩ = some (.int .i64 xc)) (first | assumption | go_keep) (fail)
 have hT := Ak (impl_step.St.start (a := 11) (b := xa) (c := xb) (d := xc) HH.out w.heap.size rfl)
 generalize (w.alloc (.cells #[.int .i64 11, .int .i64 xa, .int .i64 xb, .int .i64 xc] 48)).drew = W at hT ⊢
 generalize w.heap.size = gx at hT ⊢
 clear k0 k1 k2 z0 z1 x0 x1 x2 x3 HH wr b1 b2 b3
 obtain ⟨m0, m1, m2, f0, f1, y0, y1, y2, y3⟩ := hT.out.cells
 have ne1 := hT.out.mx
 have ne2 := ne1.symm
 have HN := Ak (impl_step.need k).2.2.2.2.2.2.2.2.2.2.1
 have n1 : decide ((st.length : Int) < 1) = false := decide_eq_false (by omega)
 go_upto_region 6 with fail
 go_region_held3 (fun w' => w'.cell? ⟨gm, 1, none⟩ = some (.slice (some ⟨gs, 0, none⟩) st.length cs) ∧ w'.cell? ⟨gx, 0, none⟩ = some (.int .i64 11)) (first | assumption | go_keep) ((go_at_call 73; with_reducible refine (impl_needs.calls (k + 1) 11 1 _ HN.out).mono ?_; rintro e wn ⟨rfl, ⟨nd, rfl⟩⟩))
 have hT2 := Ak (hT.out.drewN (1 + nd))
 generalize W.drewN (1 + nd) = W2 at hT2 ⊢
 clear hT m0 m1 m2 f0 f1 y0 y1 y2 y3 ne1 ne2
 obtain ⟨m0, m1, m2, f0, f1, y0, y1, y2, y3⟩ := hT2.out.cells
 have ne1 := hT2.out.mx
 have ne2 := ne1.symm
 obtain ⟨s0, sf0⟩ := hT2.out.at tp HP0.out HP1.out
 obtain ⟨y, hy⟩ : ∃ y, y = rd st tp := ⟨_, rfl⟩
 rw [← hy] at s0
 replace hy := Ak hy
 have HZ : Aside0 (impl_size.f y = some sz) := ⟨by rw [hy.out, htp.out]; exact hsz⟩
 have nz : decide (13 < sz) = false := decide_eq_false (by omega)
 rcases n2 : ((st.length : Int) == 20) with _ | _
 all_goals
  go_upto_region 35 with (first | (go_at_call 73; with_reducible refine (impl_needs.calls (k + 1) 11 1 _ HN.out).mono ?_; rintro e wn ⟨rfl, ⟨nd, rfl⟩⟩) | ((go_at_call 74; with_reducible refine (impl_size.calls y sz _ HZ.out).mono ?_; rintro e w1 ⟨rfl, hb⟩); have hT2b := Ak ((hT2.out.drewN nd).below hb); obtain ⟨o0, o1, o2, o3, o4, o5, o6, o7, o8⟩ := hT2b.out.cells; clear hb))
  have hT3 := Ak (hT2b.out.pc' (pc + 1))
  generalize w1.setCell ⟨gm, 0, none⟩ (.int .i64 (pc + 1)) = W3 at hT3 ⊢
  clear o0 o1 o2 o3 o4 o5 o6 o7 o8 hT2b hT2 m0 m1 m2 f0 f1 y0 y1 y2 y3 ne1 ne2
  obtain ⟨m0, m1, m2, f0, f1, y0, y1, y2, y3⟩ := hT3.out.cells
  have ne1 := hT3.out.mx
  have ne2 := ne1.symm
  clear s0 sf0
  obtain ⟨s0, sf0⟩ := hT3.out.at tp HP0.out HP1.out
  rw [← hy.out] at s0
  obtain ⟨j, hj⟩ : ∃ j : Int, j = y + 13 := ⟨_, rfl⟩
  have hj2 : -13 ≤ y ∧ y ≤ 13 := by rw [hy.out, htp.out]; exact h6
  have hj0 : 0 ≤ j := by omega
  have hj1 : j < cl.length := by omega
  have wj : IntKind.i64.wrap (y + 13) = j := (i64_w _).trans (by rw [hj]; unfold wrap64; omega)
  obtain ⟨s2, sf2⟩ := hT3.out.atc j hj0 hj1
  obtain ⟨b, hb0⟩ : ∃ b, b = rd cl j := ⟨_, rfl⟩
  rw [← hb0] at s2
  replace hb0 := Ak hb0
  have pj0 : (0 ≤ j) = True := eq_true hj0
  have pj1 : (j < (cl.length : Int)) = True := eq_true hj1
  have HJ := Ak (show j = y + 13 from hj)
  clear hj0 hj1 hj2 hj h6 h5
  obtain ⟨⟨nc3, nc4⟩, nc5, nc6⟩ := hT3.out.nc
  obtain ⟨nc7, nc8⟩ := hT3.out.sc
  obtain ⟨⟨ne3, ne4⟩, ne5, ne6⟩ := hT3.out.ns
  have hT5 := Ak hT3.out.drew
  go_region_held3 (fun w' => w'.cell? ⟨gm, 1, none⟩ = some (.slice (some ⟨gs, 0, none⟩) st.length cs) ∧ w'.cell? ⟨gm, 2, none⟩ = some (.slice (some ⟨gc, 0, none⟩) cl.length cc) ∧ w'.cell? ⟨gc, j.toNat, none⟩ = some (.int .i64 b)) (first | assumption | go_keep) (fail)
  have hT7 := Ak ((hT3.out.put tp b).drew)
  generalize (W3.setCell ⟨gs, tp.toNat, none⟩ (.int .i64 b)).drew = W6 at hT7 ⊢
  clear hT3 hT5 m0 m1 m2 f0 f1 y0 y1 y2 y3
  try clear s0 sf0
  try clear s1 sf1
  try clear s2 sf2
  try clear hT6
  try clear g0 g1 g2
  try clear g3 g4
  obtain ⟨m0, m1, m2, f0, f1, y0, y1, y2, y3⟩ := hT7.out.cells
  have hTF := hT7
  go_wp2
  go_ret
  exact ⟨rfl, _, _, by rw [show st.length - 1 = tp.toNat by have := htp.out; omega, ← htp.out, ← hy.out, ← HJ.out, ← hb0.out]; exact hTF.out.held⟩
set_option maxRecDepth 1000000 in
theorem impl_step.store (k : Nat) (ad0 : Addr) (c0 : Nat) (l : List S48) (gm : Nat) (pc : Int) (vs vc : Value) (st cl : List Int) (w0 w : World) (hC : Kd.C k48 w (some ad0) l.length l) (hH : impl_step.Held w0 w gm pc vs vc st cl) (h0 : 0 ≤ pc) (h1 : pc < l.length) (h2 : l.length ≤ 80) (h3 : st.length ≤ 20) (hc : (rd_T48 l pc).f0 = 12) (h4 : 2 ≤ st.length) (h5 : cl.length = 27) (h6 : -13 ≤ rd st ((st.length : Int) - 1) ∧ rd st ((st.length : Int) - 1) ≤ 13) (sz : Int) (hsz : impl_size.f (rd st ((st.length : Int) - 1)) = some sz) (hs2 : sz ≤ 13) :
  Calls Try.prog 43 #[.slice (some ad0) l.length c0, .pointer (some ⟨gm, 0, none⟩)] w fun e w' => e = .returned (.int .i64 0) ∧ ∃ vs' vc', impl_step.Held w0 w' gm (pc + 1) vs' vc' (st.take (st.length - 2)) (cl.set (rd st ((st.length : Int) - 1) + 13).toNat (rd st ((st.length : Int) - 2))) := by
 obtain ⟨gs, cs, rfl, hgs, _, _⟩ := Kd.R_form hH.s (by omega)
 clear hgs
 obtain ⟨gc, cc, rfl, hgc, _, _⟩ := Kd.R_form hH.c (by omega)
 clear hgc
 have z0 : w.cell? ⟨gm, 0, none⟩ = some (.int .i64 pc) := (blk_cell hH.m 0).trans rfl
 have z1 : w.cell? ⟨gm, 1, none⟩ = some (.slice (some ⟨gs, 0, none⟩) st.length cs) := (blk_cell hH.m 1).trans rfl
 obtain ⟨ad, e, x0, x1, x2, x3⟩ := at_T48 hC pc h0 h1
 cases e
 have HH := Ak hH
 clear hH hC
 obtain ⟨xa, hxa⟩ : ∃ x, x = (rd_T48 l pc).f1 := ⟨_, rfl⟩
 obtain ⟨xb, hxb⟩ : ∃ x, x = (rd_T48 l pc).f2 := ⟨_, rfl⟩
 obtain ⟨xc, hxc⟩ : ∃ x, x = (rd_T48 l pc).f3 := ⟨_, rfl⟩
 rw [hc] at x0
 rw [← hxa] at x1
 rw [← hxb] at x2
 rw [← hxc] at x3
 replace hxa := Ak hxa
 replace hxb := Ak hxb
 replace hxc := Ak hxc
 clear hc
 have b1 : (pc == (l.length : Int)) = false := beq_eq_false_iff_ne.mpr (by omega)
 have b2 : decide (0 ≤ pc) = true := decide_eq_true h0
 have b3 : decide (pc < (l.length : Int)) = true := decide_eq_true h1
 have k0 := World.new_ne w ⟨gm, 0, none⟩ z0
 have k1 := World.new_ne w ⟨gm, 1, none⟩ z1
 have k2 := World.new_ne w _ x0
 obtain ⟨tp, htp⟩ : ∃ t : Int, t = (st.length : Int) - 1 := ⟨_, rfl⟩
 have wr : IntKind.i64.wrap ((st.length : Int) - 1) = tp := (i64_w _).trans (by rw [htp]; unfold wrap64; omega)
 have hp0 : 0 ≤ tp := by omega
 have hp1 : tp < st.length := by omega
 have p0 : (0 ≤ tp) = True := eq_true hp0
 have p1 : (tp < (st.length : Int)) = True := eq_true hp1
 have HP0 := Ak hp0
 have HP1 := Ak hp1
 clear hp0 hp1
 obtain ⟨tm, htm⟩ : ∃ t : Int, t = tp - 1 := ⟨_, rfl⟩
 have wr2 : IntKind.i64.wrap (tp - 1) = tm := (i64_w _).trans (by rw [htm]; unfold wrap64; omega)
 have hq0 : 0 ≤ tm := by omega
 have hq1 : tm < st.length := by omega
 have p2 : (0 ≤ tm) = True := eq_true hq0
 have p3 : (tm < (st.length : Int)) = True := eq_true hq1
 have HQ0 := Ak hq0
 have HQ1 := Ak hq1
 replace htm := Ak htm
 clear hq0 hq1
 replace htp := Ak htp
 go_enter Try.func43, Try.ntmps43
 go_upto_region 3 with fail
 go_region_held3 (fun w' => w'.cell? ⟨gm, 0, none⟩ = some (.int .i64 pc) ∧ w'.cell? ⟨gm, 1, none⟩ = some (.slice (some ⟨gs, 0, none⟩) st.length cs) ∧ w'.cell? (ad0.add (pc.toNat * 4)) = some (.int .i64 12) ∧ w'.cell? ⟨(ad0.add (pc.toNat * 4)).block, (ad0.add (pc.toNat * 4)).off + 1, none⟩ = some (.int .i64 xa) ∧ w'.cell? ⟨(ad0.add (pc.toNat * 4)).block, (ad0.add (pc.toNat * 4)).off + 2, none⟩ = some (.int .i64 xb) ∧ w'.cell? ⟨(ad0.add (pc.toNat * 4)).block, (ad0.add (pc.toNat * 4)).off + 3, none⟩ = some (.int .i64 xc)) (first | assumption | go_keep) (fail)
 have hT := Ak (impl_step.St.start (a := 12) (b := xa) (c := xb) (d := xc) HH.out w.heap.size rfl)
 generalize (w.alloc (.cells #[.int .i64 12, .int .i64 xa, .int .i64 xb, .int .i64 xc] 48)).drew = W at hT ⊢
 generalize w.heap.size = gx at hT ⊢
 clear k0 k1 k2 z0 z1 x0 x1 x2 x3 HH wr b1 b2 b3
 obtain ⟨m0, m1, m2, f0, f1, y0, y1, y2, y3⟩ := hT.out.cells
 have ne1 := hT.out.mx
 have ne2 := ne1.symm
 have HN := Ak (impl_step.need k).2.2.2.2.2.2.2.2.2.2.2.1
 have n1 : decide ((st.length : Int) < 2) = false := decide_eq_false (by omega)
 go_upto_region 6 with fail
 go_region_held3 (fun w' => w'.cell? ⟨gm, 1, none⟩ = some (.slice (some ⟨gs, 0, none⟩) st.length cs) ∧ w'.cell? ⟨gx, 0, none⟩ = some (.int .i64 12)) (first | assumption | go_keep) ((go_at_call 73; with_reducible refine (impl_needs.calls (k + 1) 12 2 _ HN.out).mono ?_; rintro e wn ⟨rfl, ⟨nd, rfl⟩⟩))
 have hT2 := Ak (hT.out.drewN (1 + nd))
 generalize W.drewN (1 + nd) = W2 at hT2 ⊢
 clear hT m0 m1 m2 f0 f1 y0 y1 y2 y3 ne1 ne2
 obtain ⟨m0, m1, m2, f0, f1, y0, y1, y2, y3⟩ := hT2.out.cells
 have ne1 := hT2.out.mx
 have ne2 := ne1.symm
 obtain ⟨s0, sf0⟩ := hT2.out.at tp HP0.out HP1.out
 obtain ⟨y, hy⟩ : ∃ y, y = rd st tp := ⟨_, rfl⟩
 rw [← hy] at s0
 replace hy := Ak hy
 have HZ : Aside0 (impl_size.f y = some sz) := ⟨by rw [hy.out, htp.out]; exact hsz⟩
 have nz : decide (13 < sz) = false := decide_eq_false (by omega)
 rcases n2 : ((st.length : Int) == 20) with _ | _
 all_goals
  go_upto_region 37 with (first | (go_at_call 73; with_reducible refine (impl_needs.calls (k + 1) 12 2 _ HN.out).mono ?_; rintro e wn ⟨rfl, ⟨nd, rfl⟩⟩) | ((go_at_call 74; with_reducible refine (impl_size.calls y sz _ HZ.out).mono ?_; rintro e w1 ⟨rfl, hb⟩); have hT2b := Ak ((hT2.out.drewN nd).below hb); obtain ⟨o0, o1, o2, o3, o4, o5, o6, o7, o8⟩ := hT2b.out.cells; clear hb))
  have hT3 := Ak (hT2b.out.pc' (pc + 1))
  generalize w1.setCell ⟨gm, 0, none⟩ (.int .i64 (pc + 1)) = W3 at hT3 ⊢
  clear o0 o1 o2 o3 o4 o5 o6 o7 o8 hT2b hT2 m0 m1 m2 f0 f1 y0 y1 y2 y3 ne1 ne2
  obtain ⟨m0, m1, m2, f0, f1, y0, y1, y2, y3⟩ := hT3.out.cells
  have ne1 := hT3.out.mx
  have ne2 := ne1.symm
  clear s0 sf0
  obtain ⟨s0, sf0⟩ := hT3.out.at tp HP0.out HP1.out
  rw [← hy.out] at s0
  obtain ⟨s1, sf1⟩ := hT3.out.at tm HQ0.out HQ1.out
  obtain ⟨a, ha⟩ : ∃ a, a = rd st tm := ⟨_, rfl⟩
  rw [← ha] at s1
  replace ha := Ak ha
  obtain ⟨j, hj⟩ : ∃ j : Int, j = y + 13 := ⟨_, rfl⟩
  have hj2 : -13 ≤ y ∧ y ≤ 13 := by rw [hy.out, htp.out]; exact h6
  have hj0 : 0 ≤ j := by omega
  have hj1 : j < cl.length := by omega
  have wj : IntKind.i64.wrap (y + 13) = j := (i64_w _).trans (by rw [hj]; unfold wrap64; omega)
  obtain ⟨s2, sf2⟩ := hT3.out.atc j hj0 hj1
  obtain ⟨b, hb0⟩ : ∃ b, b = rd cl j := ⟨_, rfl⟩
  rw [← hb0] at s2
  replace hb0 := Ak hb0
  have pj0 : (0 ≤ j) = True := eq_true hj0
  have pj1 : (j < (cl.length : Int)) = True := eq_true hj1
  have HJ := Ak (show j = y + 13 from hj)
  clear hj0 hj1 hj2 hj h6 h5
  obtain ⟨⟨nc3, nc4⟩, nc5, nc6⟩ := hT3.out.nc
  obtain ⟨nc7, nc8⟩ := hT3.out.sc
  obtain ⟨⟨ne3, ne4⟩, ne5, ne6⟩ := hT3.out.ns
  have hT5 := Ak hT3.out.drew
  go_region_held3 (fun w' => w'.cell? ⟨gm, 1, none⟩ = some (.slice (some ⟨gs, 0, none⟩) st.length cs) ∧ w'.cell? ⟨gm, 2, none⟩ = some (.slice (some ⟨gc, 0, none⟩) cl.length cc) ∧ w'.cell? ⟨gs, tm.toNat, none⟩ = some (.int .i64 a)) (first | assumption | go_keep) (fail)
  have hT7 := Ak ((hT3.out.putc j a).drew)
  generalize (W3.setCell ⟨gc, j.toNat, none⟩ (.int .i64 a)).drew = W6 at hT7 ⊢
  clear hT3 hT5 m0 m1 m2 f0 f1 y0 y1 y2 y3
  try clear s0 sf0
  try clear s1 sf1
  try clear s2 sf2
  try clear hT6
  try clear g0 g1 g2
  try clear g3 g4
  obtain ⟨m0, m1, m2, f0, f1, y0, y1, y2, y3⟩ := hT7.out.cells
  obtain ⟨iz, hiz, _, hsz, _⟩ := info_parts info3
  have hcap := (Kd.R_reads' hT7.out.s).2.1
  have hcut := cut_to (P := Try.prog) 23 3 .i64 Try.underlying23 hiz (some ⟨gs, 0, none⟩) st.length cs tm HQ0.out (by have := HQ1.out; omega) hcap
  have hTF := Ak (hT7.out.cut tm.toNat (by have := HQ1.out; simp; omega))
  clear hiz hsz hcap
  go_wp2
  go_ret
  exact ⟨rfl, _, _, by rw [show st.length - 2 = tm.toNat by have := htm.out; have := htp.out; omega, ← htp.out, ← hy.out, ← HJ.out, show (st.length : Int) - 2 = tm by have := htm.out; have := htp.out; omega, ← ha.out]; exact hTF.out.held⟩
set_option maxRecDepth 1000000 in
theorem impl_step.cell11 (k : Nat) (ad0 : Addr) (c0 : Nat) (l : List S48) (gm : Nat) (pc : Int) (vs vc : Value) (st cl : List Int) (w0 w : World) (hC : Kd.C k48 w (some ad0) l.length l) (hH : impl_step.Held w0 w gm pc vs vc st cl) (h0 : 0 ≤ pc) (h1 : pc < l.length) (h2 : l.length ≤ 80) (h3 : st.length ≤ 20) (hc : (rd_T48 l pc).f0 = 11) (h4 : 1 ≤ st.length) (sz : Int) (hsz : impl_size.f (rd st ((st.length : Int) - 1)) = some sz) (hs2 : 13 < sz) :
  Calls Try.prog 43 #[.slice (some ad0) l.length c0, .pointer (some ⟨gm, 0, none⟩)] w fun e w' => e = .returned (.int .i64 4) ∧ ∃ vs' vc', impl_step.Held w0 w' gm pc vs' vc' st cl := by
 obtain ⟨gs, cs, rfl, hgs, _, _⟩ := Kd.R_form hH.s (by omega)
 clear hgs
 obtain ⟨Ac, cc, rfl⟩ := Kd.R_slice hH.c
 have z0 : w.cell? ⟨gm, 0, none⟩ = some (.int .i64 pc) := (blk_cell hH.m 0).trans rfl
 have z1 : w.cell? ⟨gm, 1, none⟩ = some (.slice (some ⟨gs, 0, none⟩) st.length cs) := (blk_cell hH.m 1).trans rfl
 obtain ⟨ad, e, x0, x1, x2, x3⟩ := at_T48 hC pc h0 h1
 cases e
 have HH := Ak hH
 clear hH hC
 obtain ⟨xa, hxa⟩ : ∃ x, x = (rd_T48 l pc).f1 := ⟨_, rfl⟩
 obtain ⟨xb, hxb⟩ : ∃ x, x = (rd_T48 l pc).f2 := ⟨_, rfl⟩
 obtain ⟨xc, hxc⟩ : ∃ x, x = (rd_T48 l pc).f3 := ⟨_, rfl⟩
 rw [hc] at x0
 rw [← hxa] at x1
 rw [← hxb] at x2
 rw [← hxc] at x3
 replace hxa := Ak hxa
 replace hxb := Ak hxb
 replace hxc := Ak hxc
 clear hc
 have b1 : (pc == (l.length : Int)) = false := beq_eq_false_iff_ne.mpr (by omega)
 have b2 : decide (0 ≤ pc) = true := decide_eq_true h0
 have b3 : decide (pc < (l.length : Int)) = true := decide_eq_true h1
 have k0 := World.new_ne w ⟨gm, 0, none⟩ z0
 have k1 := World.new_ne w ⟨gm, 1, none⟩ z1
 have k2 := World.new_ne w _ x0
 obtain ⟨tp, htp⟩ : ∃ t : Int, t = (st.length : Int) - 1 := ⟨_, rfl⟩
 have wr : IntKind.i64.wrap ((st.length : Int) - 1) = tp := (i64_w _).trans (by rw [htp]; unfold wrap64; omega)
 have hp0 : 0 ≤ tp := by omega
 have hp1 : tp < st.length := by omega
 have p0 : (0 ≤ tp) = True := eq_true hp0
 have p1 : (tp < (st.length : Int)) = True := eq_true hp1
 have HP0 := Ak hp0
 have HP1 := Ak hp1
 clear hp0 hp1
 replace htp := Ak htp
 go_enter Try.func43, Try.ntmps43
 go_upto_region 3 with fail
 go_region_held3 (fun w' => w'.cell? ⟨gm, 0, none⟩ = some (.int .i64 pc) ∧ w'.cell? ⟨gm, 1, none⟩ = some (.slice (some ⟨gs, 0, none⟩) st.length cs) ∧ w'.cell? (ad0.add (pc.toNat * 4)) = some (.int .i64 11) ∧ w'.cell? ⟨(ad0.add (pc.toNat * 4)).block, (ad0.add (pc.toNat * 4)).off + 1, none⟩ = some (.int .i64 xa) ∧ w'.cell? ⟨(ad0.add (pc.toNat * 4)).block, (ad0.add (pc.toNat * 4)).off + 2, none⟩ = some (.int .i64 xb) ∧ w'.cell? ⟨(ad0.add (pc.toNat * 4)).block, (ad0.add (pc.toNat * 4)).off + 3, none⟩ = some (.int .i64 xc)) (first | assumption | go_keep) (fail)
 have hT := Ak (impl_step.St.start (a := 11) (b := xa) (c := xb) (d := xc) HH.out w.heap.size rfl)
 generalize (w.alloc (.cells #[.int .i64 11, .int .i64 xa, .int .i64 xb, .int .i64 xc] 48)).drew = W at hT ⊢
 generalize w.heap.size = gx at hT ⊢
 clear k0 k1 k2 z0 z1 x0 x1 x2 x3 HH wr b1 b2 b3
 obtain ⟨m0, m1, m2, f0, f1, y0, y1, y2, y3⟩ := hT.out.cells
 have ne1 := hT.out.mx
 have ne2 := ne1.symm
 have HN := Ak (impl_step.need k).2.2.2.2.2.2.2.2.2.2.1
 have n1 : decide ((st.length : Int) < 1) = false := decide_eq_false (by omega)
 go_upto_region 6 with fail
 go_region_held3 (fun w' => w'.cell? ⟨gm, 1, none⟩ = some (.slice (some ⟨gs, 0, none⟩) st.length cs) ∧ w'.cell? ⟨gx, 0, none⟩ = some (.int .i64 11)) (first | assumption | go_keep) ((go_at_call 73; with_reducible refine (impl_needs.calls (k + 1) 11 1 _ HN.out).mono ?_; rintro e wn ⟨rfl, ⟨nd, rfl⟩⟩))
 have hT2 := Ak (hT.out.drewN (1 + nd))
 generalize W.drewN (1 + nd) = W2 at hT2 ⊢
 clear hT m0 m1 m2 f0 f1 y0 y1 y2 y3 ne1 ne2
 obtain ⟨m0, m1, m2, f0, f1, y0, y1, y2, y3⟩ := hT2.out.cells
 have ne1 := hT2.out.mx
 have ne2 := ne1.symm
 obtain ⟨s0, sf0⟩ := hT2.out.at tp HP0.out HP1.out
 obtain ⟨y, hy⟩ : ∃ y, y = rd st tp := ⟨_, rfl⟩
 rw [← hy] at s0
 replace hy := Ak hy
 have HZ : Aside0 (impl_size.f y = some sz) := ⟨by rw [hy.out, htp.out]; exact hsz⟩
 have nz : decide (13 < sz) = true := decide_eq_true hs2
 clear hs2 hsz
 rcases n2 : ((st.length : Int) == 20) with _ | _
 all_goals
  go_wp2_with (first | (go_at_call 73; with_reducible refine (impl_needs.calls (k + 1) 11 1 _ HN.out).mono ?_; rintro e wn ⟨rfl, ⟨nd, rfl⟩⟩) | ((go_at_call 74; with_reducible refine (impl_size.calls y sz _ HZ.out).mono ?_; rintro e w1 ⟨rfl, hb⟩); have hT2b := Ak ((hT2.out.drewN nd).below hb); obtain ⟨o0, o1, o2, o3, o4, o5, o6, o7, o8⟩ := hT2b.out.cells; clear hb))
  go_ret
  exact ⟨rfl, _, _, hT2b.out.held⟩
set_option maxRecDepth 1000000 in
theorem impl_step.cell12 (k : Nat) (ad0 : Addr) (c0 : Nat) (l : List S48) (gm : Nat) (pc : Int) (vs vc : Value) (st cl : List Int) (w0 w : World) (hC : Kd.C k48 w (some ad0) l.length l) (hH : impl_step.Held w0 w gm pc vs vc st cl) (h0 : 0 ≤ pc) (h1 : pc < l.length) (h2 : l.length ≤ 80) (h3 : st.length ≤ 20) (hc : (rd_T48 l pc).f0 = 12) (h4 : 2 ≤ st.length) (sz : Int) (hsz : impl_size.f (rd st ((st.length : Int) - 1)) = some sz) (hs2 : 13 < sz) :
  Calls Try.prog 43 #[.slice (some ad0) l.length c0, .pointer (some ⟨gm, 0, none⟩)] w fun e w' => e = .returned (.int .i64 4) ∧ ∃ vs' vc', impl_step.Held w0 w' gm pc vs' vc' st cl := by
 obtain ⟨gs, cs, rfl, hgs, _, _⟩ := Kd.R_form hH.s (by omega)
 clear hgs
 obtain ⟨Ac, cc, rfl⟩ := Kd.R_slice hH.c
 have z0 : w.cell? ⟨gm, 0, none⟩ = some (.int .i64 pc) := (blk_cell hH.m 0).trans rfl
 have z1 : w.cell? ⟨gm, 1, none⟩ = some (.slice (some ⟨gs, 0, none⟩) st.length cs) := (blk_cell hH.m 1).trans rfl
 obtain ⟨ad, e, x0, x1, x2, x3⟩ := at_T48 hC pc h0 h1
 cases e
 have HH := Ak hH
 clear hH hC
 obtain ⟨xa, hxa⟩ : ∃ x, x = (rd_T48 l pc).f1 := ⟨_, rfl⟩
 obtain ⟨xb, hxb⟩ : ∃ x, x = (rd_T48 l pc).f2 := ⟨_, rfl⟩
 obtain ⟨xc, hxc⟩ : ∃ x, x = (rd_T48 l pc).f3 := ⟨_, rfl⟩
 rw [hc] at x0
 rw [← hxa] at x1
 rw [← hxb] at x2
 rw [← hxc] at x3
 replace hxa := Ak hxa
 replace hxb := Ak hxb
 replace hxc := Ak hxc
 clear hc
 have b1 : (pc == (l.length : Int)) = false := beq_eq_false_iff_ne.mpr (by omega)
 have b2 : decide (0 ≤ pc) = true := decide_eq_true h0
 have b3 : decide (pc < (l.length : Int)) = true := decide_eq_true h1
 have k0 := World.new_ne w ⟨gm, 0, none⟩ z0
 have k1 := World.new_ne w ⟨gm, 1, none⟩ z1
 have k2 := World.new_ne w _ x0
 obtain ⟨tp, htp⟩ : ∃ t : Int, t = (st.length : Int) - 1 := ⟨_, rfl⟩
 have wr : IntKind.i64.wrap ((st.length : Int) - 1) = tp := (i64_w _).trans (by rw [htp]; unfold wrap64; omega)
 have hp0 : 0 ≤ tp := by omega
 have hp1 : tp < st.length := by omega
 have p0 : (0 ≤ tp) = True := eq_true hp0
 have p1 : (tp < (st.length : Int)) = True := eq_true hp1
 have HP0 := Ak hp0
 have HP1 := Ak hp1
 clear hp0 hp1
 obtain ⟨tm, htm⟩ : ∃ t : Int, t = tp - 1 := ⟨_, rfl⟩
 have wr2 : IntKind.i64.wrap (tp - 1) = tm := (i64_w _).trans (by rw [htm]; unfold wrap64; omega)
 have hq0 : 0 ≤ tm := by omega
 have hq1 : tm < st.length := by omega
 have p2 : (0 ≤ tm) = True := eq_true hq0
 have p3 : (tm < (st.length : Int)) = True := eq_true hq1
 have HQ0 := Ak hq0
 have HQ1 := Ak hq1
 replace htm := Ak htm
 clear hq0 hq1
 replace htp := Ak htp
 go_enter Try.func43, Try.ntmps43
 go_upto_region 3 with fail
 go_region_held3 (fun w' => w'.cell? ⟨gm, 0, none⟩ = some (.int .i64 pc) ∧ w'.cell? ⟨gm, 1, none⟩ = some (.slice (some ⟨gs, 0, none⟩) st.length cs) ∧ w'.cell? (ad0.add (pc.toNat * 4)) = some (.int .i64 12) ∧ w'.cell? ⟨(ad0.add (pc.toNat * 4)).block, (ad0.add (pc.toNat * 4)).off + 1, none⟩ = some (.int .i64 xa) ∧ w'.cell? ⟨(ad0.add (pc.toNat * 4)).block, (ad0.add (pc.toNat * 4)).off + 2, none⟩ = some (.int .i64 xb) ∧ w'.cell? ⟨(ad0.add (pc.toNat * 4)).block, (ad0.add (pc.toNat * 4)).off + 3, none⟩ = some (.int .i64 xc)) (first | assumption | go_keep) (fail)
 have hT := Ak (impl_step.St.start (a := 12) (b := xa) (c := xb) (d := xc) HH.out w.heap.size rfl)
 generalize (w.alloc (.cells #[.int .i64 12, .int .i64 xa, .int .i64 xb, .int .i64 xc] 48)).drew = W at hT ⊢
 generalize w.heap.size = gx at hT ⊢
 clear k0 k1 k2 z0 z1 x0 x1 x2 x3 HH wr b1 b2 b3
 obtain ⟨m0, m1, m2, f0, f1, y0, y1, y2, y3⟩ := hT.out.cells
 have ne1 := hT.out.mx
 have ne2 := ne1.symm
 have HN := Ak (impl_step.need k).2.2.2.2.2.2.2.2.2.2.2.1
 have n1 : decide ((st.length : Int) < 2) = false := decide_eq_false (by omega)
 go_upto_region 6 with fail
 go_region_held3 (fun w' => w'.cell? ⟨gm, 1, none⟩ = some (.slice (some ⟨gs, 0, none⟩) st.length cs) ∧ w'.cell? ⟨gx, 0, none⟩ = some (.int .i64 12)) (first | assumption | go_keep) ((go_at_call 73; with_reducible refine (impl_needs.calls (k + 1) 12 2 _ HN.out).mono ?_; rintro e wn ⟨rfl, ⟨nd, rfl⟩⟩))
 have hT2 := Ak (hT.out.drewN (1 + nd))
 generalize W.drewN (1 + nd) = W2 at hT2 ⊢
 clear hT m0 m1 m2 f0 f1 y0 y1 y2 y3 ne1 ne2
 obtain ⟨m0, m1, m2, f0, f1, y0, y1, y2, y3⟩ := hT2.out.cells
 have ne1 := hT2.out.mx
 have ne2 := ne1.symm
 obtain ⟨s0, sf0⟩ := hT2.out.at tp HP0.out HP1.out
 obtain ⟨y, hy⟩ : ∃ y, y = rd st tp := ⟨_, rfl⟩
 rw [← hy] at s0
 replace hy := Ak hy
 have HZ : Aside0 (impl_size.f y = some sz) := ⟨by rw [hy.out, htp.out]; exact hsz⟩
 have nz : decide (13 < sz) = true := decide_eq_true hs2
 clear hs2 hsz
 rcases n2 : ((st.length : Int) == 20) with _ | _
 all_goals
  go_wp2_with (first | (go_at_call 73; with_reducible refine (impl_needs.calls (k + 1) 12 2 _ HN.out).mono ?_; rintro e wn ⟨rfl, ⟨nd, rfl⟩⟩) | ((go_at_call 74; with_reducible refine (impl_size.calls y sz _ HZ.out).mono ?_; rintro e w1 ⟨rfl, hb⟩); have hT2b := Ak ((hT2.out.drewN nd).below hb); obtain ⟨o0, o1, o2, o3, o4, o5, o6, o7, o8⟩ := hT2b.out.cells; clear hb))
  go_ret
  exact ⟨rfl, _, _, hT2b.out.held⟩
end Go.Proofs.Ytlmiankjbffboaa.HFnBranched

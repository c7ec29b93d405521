/- Text for FnBranched: written by a program of this session on the pattern of the kit's print. -/
import Derived.Test.YtlmiankjbffboaaHFnBranchedxs4p0
import Derived.Test.YtlmiankjbffboaaHFnBranchedx0
import Derived.Test.YtlmiankjbffboaaHFnBranchedx1
import Derived.Test.YtlmiankjbffboaaHFnBranchedx2
import Derived.Test.YtlmiankjbffboaaHFnBranchedx3
namespace Go.Proofs.Ytlmiankjbffboaa.HFnBranched
set_option maxHeartbeats 8000000
set_option maxRecDepth 100000
open Go.RowKit Go.Proofs.YtlmiankjbffboaaW.PrintWords Go.Proofs.YtlmiankjbffboaaW.PrintLast Go.Proofs.YtlmiankjbffboaaW.PrintMore
attribute [local go_sem] max2_int min2_int max_two min_two max_three min_three max_four min_four
set_option linter.unusedVariables false
set_option linter.unusedSimpArgs false

def impl_step.T31 : Bool × List (List Nat × List Nat) := (true, [([], []), ([0], [0]), ([1], [1]), ([2], [2]), ([], []), ([4], [4]), ([], []), ([6], [6]), ([7], [7]), ([8], [8]), ([], []), ([], []), ([], []), ([12], [12]), ([13], [13]), ([14], [14]), ([], []), ([16], [16]), ([15, 17], [15, 17]), ([18], [18]), ([3, 5, 0, 1, 2, 3, 4, 5, 9, 11, 15, 19], [3, 5]), ([20, 11, 0, 1, 2, 3, 4, 5, 9, 11, 15, 19], [11, 20]), ([9, 10, 0, 1, 2, 3, 4, 5, 6, 7, 8, 9, 10, 11, 12, 13, 14, 15, 16, 17, 18, 19, 20, 21], [9, 10]), ([22, 19, 21, 0, 1, 2, 3, 4, 5, 6, 7, 8, 9, 10, 11, 12, 13, 14, 15, 16, 17, 18, 19, 20, 21], [19, 22])])
def impl_step.B31 : List Nat := [0, 1, 3, 7, 0, 16, 0, 64, 192, 448, 0, 0, 0, 4096, 12288, 28672, 0, 65536, 258048, 520192, 1047551, 2096127, 4194303, 8388607]
theorem impl_step.tab31 : rtab .any (opsOf Try.f43 31) = impl_step.T31 := by kernel_rfl
theorem impl_step.bits31 : waitsOk impl_step.T31.2 impl_step.B31 = true := by kernel_rfl
set_option maxRecDepth 1000000 in
theorem impl_step.swap (k : Nat) (ad0 : Addr) (c0 : Nat) (l : List S48) (gm : Nat) (pc : Int) (vs vc : Value) (st cl : List Int) (w0 w : World) (hC : Kd.C k48 w (some ad0) l.length l) (hH : impl_step.Held w0 w gm pc vs vc st cl) (h0 : 0 ≤ pc) (h1 : pc < l.length) (h2 : l.length ≤ 80) (h3 : st.length ≤ 20) (hc : (rd_T48 l pc).f0 = 8) (h4 : 2 ≤ st.length) :
  Calls Try.prog 43 #[.slice (some ad0) l.length c0, .pointer (some ⟨gm, 0, none⟩)] w fun e w' => e = .returned (.int .i64 0) ∧ ∃ vs' vc', impl_step.Held w0 w' gm (pc + 1) vs' vc' ((st.set (st.length - 2) (rd st ((st.length : Int) - 1))).set (st.length - 1) (rd st ((st.length : Int) - 2))) cl := by
 obtain ⟨gs, cs, rfl, hgs, _, _⟩ := Kd.R_form hH.s (by omega)
 clear hgs
 obtain ⟨Ac, cc, rfl⟩ := Kd.R_slice hH.c
 have z0 : w.cell? ⟨gm, 0, none⟩ = some (.int .i64 pc) := (blk_cell hH.m 0).trans rfl
 have z1 : w.cell? ⟨gm, 1, none⟩ = some (.slice (some ⟨gs, 0, none⟩) st.length cs) := (blk_cell hH.m 1).trans rfl
 obtain ⟨ad, e, x0, x1, x2, x3⟩ := at_T48 hC pc h0 h1
 cases e
 have HH := Ak hH
 clear hH hC
 obtain ⟨xa, hxa⟩ : ∃ x, x = (rd_T48 l pc).f1 := ⟨_, rfl⟩
 obtain ⟨xb, hxb⟩ : ∃ x, x = (rd_T48 l pc).f2 := ⟨_, rfl⟩
 obtain ⟨xc, hxc⟩ : ∃ x, x = (rd_T48 l pc).f3 := ⟨_, rfl⟩
 rw [hc] at x0
 rw [← hxa] at x1
 rw [← hxb] at x2
 rw [← hxc] at x3
 replace hxa := Ak hxa
 replace hxb := Ak hxb
 replace hxc := Ak hxc
 clear hc
 have b1 : (pc == (l.length : Int)) = false := beq_eq_false_iff_ne.mpr (by omega)
 have b2 : decide (0 ≤ pc) = true := decide_eq_true h0
 have b3 : decide (pc < (l.length : Int)) = true := decide_eq_true h1
 have k0 := World.new_ne w ⟨gm, 0, none⟩ z0
 have k1 := World.new_ne w ⟨gm, 1, none⟩ z1
 have k2 := World.new_ne w _ x0
 obtain ⟨tp, htp⟩ : ∃ t : Int, t = (st.length : Int) - 1 := ⟨_, rfl⟩
 have wr : IntKind.i64.wrap ((st.length : Int) - 1) = tp := (i64_w _).trans (by rw [htp]; unfold wrap64; omega)
 have hp0 : 0 ≤ tp := by omega
 have hp1 : tp < st.length := by omega
 have p0 : (0 ≤ tp) = True := eq_true hp0
 have p1 : (tp < (st.length : Int)) = True := eq_true hp1
 have HP0 := Ak hp0
 have HP1 := Ak hp1
 clear hp0 hp1
 obtain ⟨tm, htm⟩ : ∃ t : Int, t = tp - 1 := ⟨_, rfl⟩
 have wr2 : IntKind.i64.wrap (tp - 1) = tm := (i64_w _).trans (by rw [htm]; unfold wrap64; omega)
 have hq0 : 0 ≤ tm := by omega
 have hq1 : tm < st.length := by omega
 have p2 : (0 ≤ tm) = True := eq_true hq0
 have p3 : (tm < (st.length : Int)) = True := eq_true hq1
 have HQ0 := Ak hq0
 have HQ1 := Ak hq1
 replace htm := Ak htm
 clear hq0 hq1
 replace htp := Ak htp
 go_enter Try.func43, Try.ntmps43
 go_upto_region 3 with fail
 go_region_held3 (fun w' => w'.cell? ⟨gm, 0, none⟩ = some (.int .i64 pc) ∧ w'.cell? ⟨gm, 1, none⟩ = some (.slice (some ⟨gs, 0, none⟩) st.length cs) ∧ w'.cell? (ad0.add (pc.toNat * 4)) = some (.int .i64 8) ∧ w'.cell? ⟨(ad0.add (pc.toNat * 4)).block, (ad0.add (pc.toNat * 4)).off + 1, none⟩ = some (.int .i64 xa) ∧ w'.cell? ⟨(ad0.add (pc.toNat * 4)).block, (ad0.add (pc.toNat * 4)).off + 2, none⟩ = some (.int .i64 xb) ∧ w'.cell? ⟨(ad0.add (pc.toNat * 4)).block, (ad0.add (pc.toNat * 4)).off + 3, none⟩ = some (.int .i64 xc)) (first | assumption | go_keep) (fail)
 have hT := Ak (impl_step.St.start (a := 8) (b := xa) (c := xb) (d := xc) HH.out w.heap.size rfl)
 generalize (w.alloc (.cells #[.int .i64 8, .int .i64 xa, .int .i64 xb, .int .i64 xc] 48)).drew = W at hT ⊢
 generalize w.heap.size = gx at hT ⊢
 clear k0 k1 k2 z0 z1 x0 x1 x2 x3 HH wr b1 b2 b3
 obtain ⟨m0, m1, m2, f0, f1, y0, y1, y2, y3⟩ := hT.out.cells
 have ne1 := hT.out.mx
 have ne2 := ne1.symm
 have HN := Ak (impl_step.need k).2.2.2.2.2.2.2.1
 have n1 : decide ((st.length : Int) < 2) = false := decide_eq_false (by omega)
 go_upto_region 6 with fail
 go_region_held3 (fun w' => w'.cell? ⟨gm, 1, none⟩ = some (.slice (some ⟨gs, 0, none⟩) st.length cs) ∧ w'.cell? ⟨gx, 0, none⟩ = some (.int .i64 8)) (first | assumption | go_keep) ((go_at_call 73; with_reducible refine (impl_needs.calls (k + 1) 8 2 _ HN.out).mono ?_; rintro e wn ⟨rfl, ⟨nd, rfl⟩⟩))
 have hT2 := Ak (hT.out.drewN (1 + nd))
 generalize W.drewN (1 + nd) = W2 at hT2 ⊢
 clear hT m0 m1 m2 f0 f1 y0 y1 y2 y3 ne1 ne2
 obtain ⟨m0, m1, m2, f0, f1, y0, y1, y2, y3⟩ := hT2.out.cells
 have ne1 := hT2.out.mx
 have ne2 := ne1.symm
 obtain ⟨s0, sf0⟩ := hT2.out.at tp HP0.out HP1.out
 obtain ⟨y, hy⟩ : ∃ y, y = rd st tp := ⟨_, rfl⟩
 rw [← hy] at s0
 replace hy := Ak hy
 rcases n2 : ((st.length : Int) == 20) with _ | _
 all_goals
  go_upto_region 31 with (go_at_call 73; with_reducible refine (impl_needs.calls (k + 1) 8 2 _ HN.out).mono ?_; rintro e wn ⟨rfl, ⟨nd, rfl⟩⟩)
  have hT3 := Ak ((hT2.out.drewN nd).pc' (pc + 1))
  generalize (W2.drewN nd).setCell ⟨gm, 0, none⟩ (.int .i64 (pc + 1)) = W3 at hT3 ⊢
  clear hT2 m0 m1 m2 f0 f1 y0 y1 y2 y3 ne1 ne2
  obtain ⟨m0, m1, m2, f0, f1, y0, y1, y2, y3⟩ := hT3.out.cells
  have ne1 := hT3.out.mx
  have ne2 := ne1.symm
  clear s0 sf0
  obtain ⟨s0, sf0⟩ := hT3.out.at tp HP0.out HP1.out
  rw [← hy.out] at s0
  obtain ⟨s1, sf1⟩ := hT3.out.at tm HQ0.out HQ1.out
  obtain ⟨a, ha⟩ : ∃ a, a = rd st tm := ⟨_, rfl⟩
  rw [← ha] at s1
  replace ha := Ak ha
  obtain ⟨⟨ne3, ne4⟩, ne5, ne6⟩ := hT3.out.ns
  have hT5 := Ak hT3.out.drew
  have nq1 : tm.toNat ≠ tp.toNat := by have := htm.out; have := HQ0.out; omega
  have nq2 := nq1.symm
  obtain ⟨d0, d1, d2, _⟩ := hT5.out.cells
  obtain ⟨d3, d4⟩ := hT5.out.at tm HQ0.out HQ1.out
  obtain ⟨d5, d6⟩ := hT5.out.at tp HP0.out HP1.out
  rw [← ha.out] at d3
  refine start_ (n := 24) (S := fun w' => w'.cell? ⟨gm, 1, none⟩ = some (.slice (some ⟨gs, 0, none⟩) st.length cs) ∧ w'.cell? ⟨gs, tm.toNat, none⟩ = some (.int .i64 a)) (ds := [21, 23]) #[false, false, false, false, false, false, false, false, false, false, false, false, false, false, false, false, false, false, false, false, false, false, false, false] (by kernel_rfl) rfl rfl ⟨d1, d3⟩ (fun hHeld => ?_); refine with_tabW impl_step.tab31 impl_step.bits31 (fun HT_ HW_ => ?_)
  generalize W3.drew = W5 at hT5 d0 d1 d2 d3 d4 d5 d6 hHeld ⊢
  refine Qq 0 (some 198) ?_
  refine Qq 1 (some 199) ?_
  refine Qq 2 (some 200) ?_
  refine Qq 4 (some 202) ?_
  refine Qq 5 (some 203) ?_
  refine Qq 6 (some 204) ?_
  refine Qq 7 (some 205) ?_
  refine Qq 8 (some 206) ?_
  refine Qq 10 (some 208) ?_
  refine Qq 11 (some 209) ?_
  refine Qq 12 (some 210) ?_
  refine Qq 13 (some 211) ?_
  refine Qq 14 (some 212) ?_
  refine Qq 16 (some 214) ?_
  refine Qq 17 (some 215) ?_
  refine Qr 3 (some 201) hHeld ?_
  refine Qr 9 (some 207) hHeld ?_
  refine Qr 15 (some 213) hHeld ?_
  refine Qq 18 (some 216) ?_
  refine Qr 19 (some 217) hHeld ?_
  refine Qq 20 (some 218) ?_
  refine Qt 21 none (fun K hK => ?_)
  refine skip_ (w1 := ?_) (by rfl) rfl ?_ ?_
  rotate_left
  ·go_simp
   rfl
  refine hK.out _ _ ?_
  clear hK K
  refine Qq 22 (some 219) ?_
  refine Qt 23 none (fun K hK => ?_)
  refine skip_ (w1 := ?_) (by rfl) rfl ?_ ?_
  rotate_left
  ·go_simp
   rfl
  refine hK.out _ _ ?_
  clear hK K
  refine done_ (done_of HT_.out (by kernel_rfl)) ?_
  clear hHeld d0 d1 d2 d3 d4 d5 d6
  have hT7 := Ak ((hT5.out.put tm y).put tp a)
  generalize (W5.setCell ⟨gs, tm.toNat, none⟩ (.int .i64 y)).setCell ⟨gs, tp.toNat, none⟩ (.int .i64 a) = W6 at hT7 ⊢
  clear hT3 hT5 m0 m1 m2 f0 f1 y0 y1 y2 y3
  try clear s0 sf0
  try clear s1 sf1
  try clear s2 sf2
  try clear hT6
  try clear g0 g1 g2
  try clear g3 g4
  obtain ⟨m0, m1, m2, f0, f1, y0, y1, y2, y3⟩ := hT7.out.cells
  have hTF := hT7
  go_wp2
  go_ret
  exact ⟨rfl, _, _, by rw [show st.length - 2 = tm.toNat by have := htm.out; have := htp.out; omega, show st.length - 1 = tp.toNat by have := htp.out; omega, ← htp.out, ← hy.out, show (st.length : Int) - 2 = tm by have := htm.out; have := htp.out; omega, ← ha.out]; exact hTF.out.held⟩
set_option maxRecDepth 1000000 in
theorem impl_step.drop (k : Nat) (ad0 : Addr) (c0 : Nat) (l : List S48) (gm : Nat) (pc : Int) (vs vc : Value) (st cl : List Int) (w0 w : World) (hC : Kd.C k48 w (some ad0) l.length l) (hH : impl_step.Held w0 w gm pc vs vc st cl) (h0 : 0 ≤ pc) (h1 : pc < l.length) (h2 : l.length ≤ 80) (h3 : st.length ≤ 20) (hc : (rd_T48 l pc).f0 = 9) (h4 : 1 ≤ st.length) :
  Calls Try.prog 43 #[.slice (some ad0) l.length c0, .pointer (some ⟨gm, 0, none⟩)] w fun e w' => e = .returned (.int .i64 0) ∧ ∃ vs' vc', impl_step.Held w0 w' gm (pc + 1) vs' vc' (st.take (st.length - 1)) cl := by
 obtain ⟨gs, cs, rfl, hgs, _, _⟩ := Kd.R_form hH.s (by omega)
 clear hgs
 obtain ⟨Ac, cc, rfl⟩ := Kd.R_slice hH.c
 have z0 : w.cell? ⟨gm, 0, none⟩ = some (.int .i64 pc) := (blk_cell hH.m 0).trans rfl
 have z1 : w.cell? ⟨gm, 1, none⟩ = some (.slice (some ⟨gs, 0, none⟩) st.length cs) := (blk_cell hH.m 1).trans rfl
 obtain ⟨ad, e, x0, x1, x2, x3⟩ := at_T48 hC pc h0 h1
 cases e
 have HH := Ak hH
 clear hH hC
 obtain ⟨xa, hxa⟩ : ∃ x, x = (rd_T48 l pc).f1 := ⟨_, rfl⟩
 obtain ⟨xb, hxb⟩ : ∃ x, x = (rd_T48 l pc).f2 := ⟨_, rfl⟩
 obtain ⟨xc, hxc⟩ : ∃ x, x = (rd_T48 l pc).f3 := ⟨_, rfl⟩
 rw [hc] at x0
 rw [← hxa] at x1
 rw [← hxb] at x2
 rw [← hxc] at x3
 replace hxa := Ak hxa
 replace hxb := Ak hxb
 replace hxc := Ak hxc
 clear hc
 have b1 : (pc == (l.length : Int)) = false := beq_eq_false_iff_ne.mpr (by omega)
 have b2 : decide (0 ≤ pc) = true := decide_eq_true h0
 have b3 : decide (pc < (l.length : Int)) = true := decide_eq_true h1
 have k0 := World.new_ne w ⟨gm, 0, none⟩ z0
 have k1 := World.new_ne w ⟨gm, 1, none⟩ z1
 have k2 := World.new_ne w _ x0
 obtain ⟨tp, htp⟩ : ∃ t : Int, t = (st.length : Int) - 1 := ⟨_, rfl⟩
 have wr : IntKind.i64.wrap ((st.length : Int) - 1) = tp := (i64_w _).trans (by rw [htp]; unfold wrap64; omega)
 have hp0 : 0 ≤ tp := by omega
 have hp1 : tp < st.length := by omega
 have p0 : (0 ≤ tp) = True := eq_true hp0
 have p1 : (tp < (st.length : Int)) = True := eq_true hp1
 have HP0 := Ak hp0
 have HP1 := Ak hp1
 clear hp0 hp1
 replace htp := Ak htp
 go_enter Try.func43, Try.ntmps43
 go_upto_region 3 with fail
 go_region_held3 (fun w' => w'.cell? ⟨gm, 0, none⟩ = some (.int .i64 pc) ∧ w'.cell? ⟨gm, 1, none⟩ = some (.slice (some ⟨gs, 0, none⟩) st.length cs) ∧ w'.cell? (ad0.add (pc.toNat * 4)) = some (.int .i64 9) ∧ w'.cell? ⟨(ad0.add (pc.toNat * 4)).block, (ad0.add (pc.toNat * 4)).off + 1, none⟩ = some (.int .i64 xa) ∧ w'.cell? ⟨(ad0.add (pc.toNat * 4)).block, (ad0.add (pc.toNat * 4)).off + 2, none⟩ = some (.int .i64 xb) ∧ w'.cell? ⟨(ad0.add (pc.toNat * 4)).block, (ad0.add (pc.toNat * 4)).off + 3, none⟩ = some (.int .i64 xc)) (first | assumption | go_keep) (fail)
 have hT := Ak (impl_step.St.start (a := 9) (b := xa) (c := xb) (d := xc) HH.out w.heap.size rfl)
 generalize (w.alloc (.cells #[.int .i64 9, .int .i64 xa, .int .i64 xb, .int .i64 xc] 48)).drew = W at hT ⊢
 generalize w.heap.size = gx at hT ⊢
 clear k0 k1 k2 z0 z1 x0 x1 x2 x3 HH wr b1 b2 b3
 obtain ⟨m0, m1, m2, f0, f1, y0, y1, y2, y3⟩ := hT.out.cells
 have ne1 := hT.out.mx
 have ne2 := ne1.symm
 have HN := Ak (impl_step.need k).2.2.2.2.2.2.2.2.1
 have n1 : decide ((st.length : Int) < 1) = false := decide_eq_false (by omega)
 go_upto_region 6 with fail
 go_region_held3 (fun w' => w'.cell? ⟨gm, 1, none⟩ = some (.slice (some ⟨gs, 0, none⟩) st.length cs) ∧ w'.cell? ⟨gx, 0, none⟩ = some (.int .i64 9)) (first | assumption | go_keep) ((go_at_call 73; with_reducible refine (impl_needs.calls (k + 1) 9 1 _ HN.out).mono ?_; rintro e wn ⟨rfl, ⟨nd, rfl⟩⟩))
 have hT2 := Ak (hT.out.drewN (1 + nd))
 generalize W.drewN (1 + nd) = W2 at hT2 ⊢
 clear hT m0 m1 m2 f0 f1 y0 y1 y2 y3 ne1 ne2
 obtain ⟨m0, m1, m2, f0, f1, y0, y1, y2, y3⟩ := hT2.out.cells
 have ne1 := hT2.out.mx
 have ne2 := ne1.symm
 obtain ⟨s0, sf0⟩ := hT2.out.at tp HP0.out HP1.out
 obtain ⟨y, hy⟩ : ∃ y, y = rd st tp := ⟨_, rfl⟩
 rw [← hy] at s0
 replace hy := Ak hy
 rcases n2 : ((st.length : Int) == 20) with _ | _
 all_goals
  go_upto_region 42 with (go_at_call 73; with_reducible refine (impl_needs.calls (k + 1) 9 1 _ HN.out).mono ?_; rintro e wn ⟨rfl, ⟨nd, rfl⟩⟩)
  have hT3 := Ak ((hT2.out.drewN nd).pc' (pc + 1))
  generalize (W2.drewN nd).setCell ⟨gm, 0, none⟩ (.int .i64 (pc + 1)) = W3 at hT3 ⊢
  clear hT2 m0 m1 m2 f0 f1 y0 y1 y2 y3 ne1 ne2
  obtain ⟨m0, m1, m2, f0, f1, y0, y1, y2, y3⟩ := hT3.out.cells
  have ne1 := hT3.out.mx
  have ne2 := ne1.symm
  clear s0 sf0
  obtain ⟨s0, sf0⟩ := hT3.out.at tp HP0.out HP1.out
  rw [← hy.out] at s0
  obtain ⟨⟨ne3, ne4⟩, ne5, ne6⟩ := hT3.out.ns
  have hT5 := Ak hT3.out.drew
  have hT7 := hT3
  clear hT3 hT5 m0 m1 m2 f0 f1 y0 y1 y2 y3
  try clear s0 sf0
  try clear s1 sf1
  try clear s2 sf2
  try clear hT6
  try clear g0 g1 g2
  try clear g3 g4
  obtain ⟨m0, m1, m2, f0, f1, y0, y1, y2, y3⟩ := hT7.out.cells
  obtain ⟨iz, hiz, _, hsz, _⟩ := info_parts info3
  have hcap := (Kd.R_reads' hT7.out.s).2.1
  have hcut := cut_to (P := Try.prog) 23 3 .i64 Try.underlying23 hiz (some ⟨gs, 0, none⟩) st.length cs tp HP0.out (by have := HP1.out; omega) hcap
  have hTF := Ak (hT7.out.cut tp.toNat (by have := HP1.out; simp; omega))
  clear hiz hsz hcap
  go_wp2
  go_ret
  exact ⟨rfl, _, _, by rw [show st.length - 1 = tp.toNat by have := htp.out; omega]; exact hTF.out.held⟩
set_option maxRecDepth 1000000 in
theorem impl_step.shift (k : Nat) (ad0 : Addr) (c0 : Nat) (l : List S48) (gm : Nat) (pc : Int) (vs vc : Value) (st cl : List Int) (w0 w : World) (hC : Kd.C k48 w (some ad0) l.length l) (hH : impl_step.Held w0 w gm pc vs vc st cl) (h0 : 0 ≤ pc) (h1 : pc < l.length) (h2 : l.length ≤ 80) (h3 : st.length ≤ 20) (hc : (rd_T48 l pc).f0 = 10) (h4 : 1 ≤ st.length) (r : Int) (hr : impl_shifted.f k (rd st ((st.length : Int) - 1)) (rd_T48 l pc).f1 = some r) :
  Calls Try.prog 43 #[.slice (some ad0) l.length c0, .pointer (some ⟨gm, 0, none⟩)] w fun e w' => e = .returned (.int .i64 0) ∧ ∃ vs' vc', impl_step.Held w0 w' gm (pc + 1) vs' vc' (st.set (st.length - 1) r) cl := by
 obtain ⟨gs, cs, rfl, hgs, _, _⟩ := Kd.R_form hH.s (by omega)
 clear hgs
 obtain ⟨Ac, cc, rfl⟩ := Kd.R_slice hH.c
 have z0 : w.cell? ⟨gm, 0, none⟩ = some (.int .i64 pc) := (blk_cell hH.m 0).trans rfl
 have z1 : w.cell? ⟨gm, 1, none⟩ = some (.slice (some ⟨gs, 0, none⟩) st.length cs) := (blk_cell hH.m 1).trans rfl
 obtain ⟨ad, e, x0, x1, x2, x3⟩ := at_T48 hC pc h0 h1
 cases e
 have HH := Ak hH
 clear hH hC
 obtain ⟨xa, hxa⟩ : ∃ x, x = (rd_T48 l pc).f1 := ⟨_, rfl⟩
 obtain ⟨xb, hxb⟩ : ∃ x, x = (rd_T48 l pc).f2 := ⟨_, rfl⟩
 obtain ⟨xc, hxc⟩ : ∃ x, x = (rd_T48 l pc).f3 := ⟨_, rfl⟩
 rw [hc] at x0
 rw [← hxa] at x1
 rw [← hxb] at x2
 rw [← hxc] at x3
 replace hxa := Ak hxa
 replace hxb := Ak hxb
 replace hxc := Ak hxc
 clear hc
 have b1 : (pc == (l.length : Int)) = false := beq_eq_false_iff_ne.mpr (by omega)
 have b2 : decide (0 ≤ pc) = true := decide_eq_true h0
 have b3 : decide (pc < (l.length : Int)) = true := decide_eq_true h1
 have k0 := World.new_ne w ⟨gm, 0, none⟩ z0
 have k1 := World.new_ne w ⟨gm, 1, none⟩ z1
 have k2 := World.new_ne w _ x0
 obtain ⟨tp, htp⟩ : ∃ t : Int, t = (st.length : Int) - 1 := ⟨_, rfl⟩
 have wr : IntKind.i64.wrap ((st.length : Int) - 1) = tp := (i64_w _).trans (by rw [htp]; unfold wrap64; omega)
 have hp0 : 0 ≤ tp := by omega
 have hp1 : tp < st.length := by omega
 have p0 : (0 ≤ tp) = True := eq_true hp0
 have p1 : (tp < (st.length : Int)) = True := eq_true hp1
 have HP0 := Ak hp0
 have HP1 := Ak hp1
 clear hp0 hp1
 replace htp := Ak htp
 go_enter Try.func43, Try.ntmps43
 go_upto_region 3 with fail
 go_region_held3 (fun w' => w'.cell? ⟨gm, 0, none⟩ = some (.int .i64 pc) ∧ w'.cell? ⟨gm, 1, none⟩ = some (.slice (some ⟨gs, 0, none⟩) st.length cs) ∧ w'.cell? (ad0.add (pc.toNat * 4)) = some (.int .i64 10) ∧ w'.cell? ⟨(ad0.add (pc.toNat * 4)).block, (ad0.add (pc.toNat * 4)).off + 1, none⟩ = some (.int .i64 xa) ∧ w'.cell? ⟨(ad0.add (pc.toNat * 4)).block, (ad0.add (pc.toNat * 4)).off + 2, none⟩ = some (.int .i64 xb) ∧ w'.cell? ⟨(ad0.add (pc.toNat * 4)).block, (ad0.add (pc.toNat * 4)).off + 3, none⟩ = some (.int .i64 xc)) (first | assumption | go_keep) (fail)
 have hT := Ak (impl_step.St.start (a := 10) (b := xa) (c := xb) (d := xc) HH.out w.heap.size rfl)
 generalize (w.alloc (.cells #[.int .i64 10, .int .i64 xa, .int .i64 xb, .int .i64 xc] 48)).drew = W at hT ⊢
 generalize w.heap.size = gx at hT ⊢
 clear k0 k1 k2 z0 z1 x0 x1 x2 x3 HH wr b1 b2 b3
 obtain ⟨m0, m1, m2, f0, f1, y0, y1, y2, y3⟩ := hT.out.cells
 have ne1 := hT.out.mx
 have ne2 := ne1.symm
 have HN := Ak (impl_step.need k).2.2.2.2.2.2.2.2.2.1
 have n1 : decide ((st.length : Int) < 1) = false := decide_eq_false (by omega)
 go_upto_region 6 with fail
 go_region_held3 (fun w' => w'.cell? ⟨gm, 1, none⟩ = some (.slice (some ⟨gs, 0, none⟩) st.length cs) ∧ w'.cell? ⟨gx, 0, none⟩ = some (.int .i64 10)) (first | assumption | go_keep) ((go_at_call 73; with_reducible refine (impl_needs.calls (k + 1) 10 1 _ HN.out).mono ?_; rintro e wn ⟨rfl, ⟨nd, rfl⟩⟩))
 have hT2 := Ak (hT.out.drewN (1 + nd))
 generalize W.drewN (1 + nd) = W2 at hT2 ⊢
 clear hT m0 m1 m2 f0 f1 y0 y1 y2 y3 ne1 ne2
 obtain ⟨m0, m1, m2, f0, f1, y0, y1, y2, y3⟩ := hT2.out.cells
 have ne1 := hT2.out.mx
 have ne2 := ne1.symm
 obtain ⟨s0, sf0⟩ := hT2.out.at tp HP0.out HP1.out
 obtain ⟨y, hy⟩ : ∃ y, y = rd st tp := ⟨_, rfl⟩
 rw [← hy] at s0
 replace hy := Ak hy
 rcases n2 : ((st.length : Int) == 20) with _ | _
 all_goals
  go_upto_region 33 with (go_at_call 73; with_reducible refine (impl_needs.calls (k + 1) 10 1 _ HN.out).mono ?_; rintro e wn ⟨rfl, ⟨nd, rfl⟩⟩)
  have hT3 := Ak ((hT2.out.drewN nd).pc' (pc + 1))
  generalize (W2.drewN nd).setCell ⟨gm, 0, none⟩ (.int .i64 (pc + 1)) = W3 at hT3 ⊢
  clear hT2 m0 m1 m2 f0 f1 y0 y1 y2 y3 ne1 ne2
  obtain ⟨m0, m1, m2, f0, f1, y0, y1, y2, y3⟩ := hT3.out.cells
  have ne1 := hT3.out.mx
  have ne2 := ne1.symm
  clear s0 sf0
  obtain ⟨s0, sf0⟩ := hT3.out.at tp HP0.out HP1.out
  rw [← hy.out] at s0
  obtain ⟨⟨ne3, ne4⟩, ne5, ne6⟩ := hT3.out.ns
  have hT5 := Ak hT3.out.drew
  have HR : Aside0 (impl_shifted.f k y xa = some r) := ⟨by rw [hy.out, htp.out, hxa.out]; exact hr⟩
  go_region_held3 (fun w' => w'.cell? ⟨gm, 1, none⟩ = some (.slice (some ⟨gs, 0, none⟩) st.length cs) ∧ w'.cell? ⟨gx, 1, none⟩ = some (.int .i64 xa)) (first | assumption | exact ⟨g1, g6⟩ | go_keep) (((go_at_call 75; with_reducible refine (impl_shifted.calls k y xa r _ HR.out).mono ?_; rintro e w1 ⟨rfl, hb⟩); have hT6 := Ak (hT5.out.below hb); obtain ⟨g0, g1, g2, _, _, _, g6, _⟩ := hT6.out.cells; obtain ⟨g3, g4⟩ := hT6.out.at tp HP0.out HP1.out; clear hb))
  have hT7 := Ak (hT6.out.put tp r)
  generalize w1.setCell ⟨gs, tp.toNat, none⟩ (.int .i64 r) = W6 at hT7 ⊢
  clear hT3 hT5 m0 m1 m2 f0 f1 y0 y1 y2 y3
  try clear s0 sf0
  try clear s1 sf1
  try clear s2 sf2
  (try clear g6); (try clear hT6)
  try clear g0 g1 g2
  try clear g3 g4
  obtain ⟨m0, m1, m2, f0, f1, y0, y1, y2, y3⟩ := hT7.out.cells
  have hTF := hT7
  go_wp2
  go_ret
  exact ⟨rfl, _, _, by rw [show st.length - 1 = tp.toNat by have := htp.out; omega]; exact hTF.out.held⟩
end Go.Proofs.Ytlmiankjbffboaa.HFnBranched

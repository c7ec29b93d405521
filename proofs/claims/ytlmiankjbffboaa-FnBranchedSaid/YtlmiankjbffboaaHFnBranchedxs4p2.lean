/- Text for FnBranched: written by a program of this session on the pattern of the kit's print. -/
import Derived.Test.YtlmiankjbffboaaHFnBranchedxs4p0
import Derived.Test.YtlmiankjbffboaaHFnBranchedx0
import Derived.Test.YtlmiankjbffboaaHFnBranchedx1
import Derived.Test.YtlmiankjbffboaaHFnBranchedx2
import Derived.Test.YtlmiankjbffboaaHFnBranchedx3
namespace Go.Proofs.Ytlmiankjbffboaa.HFnBranched
set_option maxHeartbeats 8000000
set_option maxRecDepth 100000
open Go.RowKit Go.Proofs.YtlmiankjbffboaaW.PrintWords Go.Proofs.YtlmiankjbffboaaW.PrintLast Go.Proofs.YtlmiankjbffboaaW.PrintMore
attribute [local go_sem] max2_int min2_int max_two min_two max_three min_three max_four min_four
set_option linter.unusedVariables false
set_option linter.unusedSimpArgs false

def impl_step.T19 : Bool × List (List Nat × List Nat) := (true, [([], []), ([0], [0]), ([1], [1]), ([2], [2]), ([], []), ([4], [4]), ([], []), ([6], [6]), ([7], [7]), ([8], [8]), ([], []), ([10], [10]), ([9, 11], [9, 11]), ([12], [12]), ([], []), ([13, 14], [13, 14]), ([15], [15]), ([3, 5, 0, 1, 2, 3, 4, 5, 6, 7, 8, 9, 10, 11, 12, 13, 14, 15, 16], [3, 5]), ([17, 16, 16, 0, 1, 2, 3, 4, 5, 6, 7, 8, 9, 10, 11, 12, 13, 14, 15, 16], [16, 17])])
def impl_step.B19 : List Nat := [0, 1, 3, 7, 0, 16, 0, 64, 192, 448, 0, 1024, 4032, 8128, 0, 32704, 65472, 131071, 262143]
theorem impl_step.tab19 : rtab .any (opsOf Try.f43 19) = impl_step.T19 := by kernel_rfl
theorem impl_step.bits19 : waitsOk impl_step.T19.2 impl_step.B19 = true := by kernel_rfl
set_option maxRecDepth 1000000 in
theorem impl_step.add (k : Nat) (ad0 : Addr) (c0 : Nat) (l : List S48) (gm : Nat) (pc : Int) (vs vc : Value) (st cl : List Int) (w0 w : World) (hC : Kd.C k48 w (some ad0) l.length l) (hH : impl_step.Held w0 w gm pc vs vc st cl) (h0 : 0 ≤ pc) (h1 : pc < l.length) (h2 : l.length ≤ 80) (h3 : st.length ≤ 20) (hc : (rd_T48 l pc).f0 = 2) (h4 : 2 ≤ st.length) (r : Int) (hr : impl_WrapCell.f k (wrap64 (rd st ((st.length : Int) - 2) + rd st ((st.length : Int) - 1))) = some r) :
  Calls Try.prog 43 #[.slice (some ad0) l.length c0, .pointer (some ⟨gm, 0, none⟩)] w fun e w' => e = .returned (.int .i64 0) ∧ ∃ vs' vc', impl_step.Held w0 w' gm (pc + 1) vs' vc' ((st.set (st.length - 2) r).take (st.length - 1)) cl := by
 obtain ⟨gs, cs, rfl, hgs, _, _⟩ := Kd.R_form hH.s (by omega)
 clear hgs
 obtain ⟨Ac, cc, rfl⟩ := Kd.R_slice hH.c
 have z0 : w.cell? ⟨gm, 0, none⟩ = some (.int .i64 pc) := (blk_cell hH.m 0).trans rfl
 have z1 : w.cell? ⟨gm, 1, none⟩ = some (.slice (some ⟨gs, 0, none⟩) st.length cs) := (blk_cell hH.m 1).trans rfl
 obtain ⟨ad, e, x0, x1, x2, x3⟩ := at_T48 hC pc h0 h1
 cases e
 have HH := Ak hH
 clear hH hC
 obtain ⟨xa, hxa⟩ : ∃ x, x = (rd_T48 l pc).f1 := ⟨_, rfl⟩
 obtain ⟨xb, hxb⟩ : ∃ x, x = (rd_T48 l pc).f2 := ⟨_, rfl⟩
 obtain ⟨xc, hxc⟩ : ∃ x, x = (rd_T48 l pc).f3 := ⟨_, rfl⟩
 rw [hc] at x0
 rw [← hxa] at x1
 rw [← hxb] at x2
 rw [← hxc] at x3
 replace hxa := Ak hxa
 replace hxb := Ak hxb
 replace hxc := Ak hxc
 clear hc
 have b1 : (pc == (l.length : Int)) = false := beq_eq_false_iff_ne.mpr (by omega)
 have b2 : decide (0 ≤ pc) = true := decide_eq_true h0
 have b3 : decide (pc < (l.length : Int)) = true := decide_eq_true h1
 have k0 := World.new_ne w ⟨gm, 0, none⟩ z0
 have k1 := World.new_ne w ⟨gm, 1, none⟩ z1
 have k2 := World.new_ne w _ x0
 obtain ⟨tp, htp⟩ : ∃ t : Int, t = (st.length : Int) - 1 := ⟨_, rfl⟩
 have wr : IntKind.i64.wrap ((st.length : Int) - 1) = tp := (i64_w _).trans (by rw [htp]; unfold wrap64; omega)
 have hp0 : 0 ≤ tp := by omega
 have hp1 : tp < st.length := by omega
 have p0 : (0 ≤ tp) = True := eq_true hp0
 have p1 : (tp < (st.length : Int)) = True := eq_true hp1
 have HP0 := Ak hp0
 have HP1 := Ak hp1
 clear hp0 hp1
 obtain ⟨tm, htm⟩ : ∃ t : Int, t = tp - 1 := ⟨_, rfl⟩
 have wr2 : IntKind.i64.wrap (tp - 1) = tm := (i64_w _).trans (by rw [htm]; unfold wrap64; omega)
 have hq0 : 0 ≤ tm := by omega
 have hq1 : tm < st.length := by omega
 have p2 : (0 ≤ tm) = True := eq_true hq0
 have p3 : (tm < (st.length : Int)) = True := eq_true hq1
 have HQ0 := Ak hq0
 have HQ1 := Ak hq1
 replace htm := Ak htm
 clear hq0 hq1
 replace htp := Ak htp
 go_enter Try.func43, Try.ntmps43
 go_upto_region 3 with fail
 go_region_held3 (fun w' => w'.cell? ⟨gm, 0, none⟩ = some (.int .i64 pc) ∧ w'.cell? ⟨gm, 1, none⟩ = some (.slice (some ⟨gs, 0, none⟩) st.length cs) ∧ w'.cell? (ad0.add (pc.toNat * 4)) = some (.int .i64 2) ∧ w'.cell? ⟨(ad0.add (pc.toNat * 4)).block, (ad0.add (pc.toNat * 4)).off + 1, none⟩ = some (.int .i64 xa) ∧ w'.cell? ⟨(ad0.add (pc.toNat * 4)).block, (ad0.add (pc.toNat * 4)).off + 2, none⟩ = some (.int .i64 xb) ∧ w'.cell? ⟨(ad0.add (pc.toNat * 4)).block, (ad0.add (pc.toNat * 4)).off + 3, none⟩ = some (.int .i64 xc)) (first | assumption | go_keep) (fail)
 have hT := Ak (impl_step.St.start (a := 2) (b := xa) (c := xb) (d := xc) HH.out w.heap.size rfl)
 generalize (w.alloc (.cells #[.int .i64 2, .int .i64 xa, .int .i64 xb, .int .i64 xc] 48)).drew = W at hT ⊢
 generalize w.heap.size = gx at hT ⊢
 clear k0 k1 k2 z0 z1 x0 x1 x2 x3 HH wr b1 b2 b3
 obtain ⟨m0, m1, m2, f0, f1, y0, y1, y2, y3⟩ := hT.out.cells
 have ne1 := hT.out.mx
 have ne2 := ne1.symm
 have HN := Ak (impl_step.need k).2.1
 have n1 : decide ((st.length : Int) < 2) = false := decide_eq_false (by omega)
 go_upto_region 6 with fail
 go_region_held3 (fun w' => w'.cell? ⟨gm, 1, none⟩ = some (.slice (some ⟨gs, 0, none⟩) st.length cs) ∧ w'.cell? ⟨gx, 0, none⟩ = some (.int .i64 2)) (first | assumption | go_keep) ((go_at_call 73; with_reducible refine (impl_needs.calls (k + 1) 2 2 _ HN.out).mono ?_; rintro e wn ⟨rfl, ⟨nd, rfl⟩⟩))
 have hT2 := Ak (hT.out.drewN (1 + nd))
 generalize W.drewN (1 + nd) = W2 at hT2 ⊢
 clear hT m0 m1 m2 f0 f1 y0 y1 y2 y3 ne1 ne2
 obtain ⟨m0, m1, m2, f0, f1, y0, y1, y2, y3⟩ := hT2.out.cells
 have ne1 := hT2.out.mx
 have ne2 := ne1.symm
 obtain ⟨s0, sf0⟩ := hT2.out.at tp HP0.out HP1.out
 obtain ⟨y, hy⟩ : ∃ y, y = rd st tp := ⟨_, rfl⟩
 rw [← hy] at s0
 replace hy := Ak hy
 rcases n2 : ((st.length : Int) == 20) with _ | _
 all_goals
  go_upto_region 19 with (go_at_call 73; with_reducible refine (impl_needs.calls (k + 1) 2 2 _ HN.out).mono ?_; rintro e wn ⟨rfl, ⟨nd, rfl⟩⟩)
  have hT3 := Ak ((hT2.out.drewN nd).pc' (pc + 1))
  generalize (W2.drewN nd).setCell ⟨gm, 0, none⟩ (.int .i64 (pc + 1)) = W3 at hT3 ⊢
  clear hT2 m0 m1 m2 f0 f1 y0 y1 y2 y3 ne1 ne2
  obtain ⟨m0, m1, m2, f0, f1, y0, y1, y2, y3⟩ := hT3.out.cells
  have ne1 := hT3.out.mx
  have ne2 := ne1.symm
  clear s0 sf0
  obtain ⟨s0, sf0⟩ := hT3.out.at tp HP0.out HP1.out
  rw [← hy.out] at s0
  obtain ⟨s1, sf1⟩ := hT3.out.at tm HQ0.out HQ1.out
  obtain ⟨a, ha⟩ : ∃ a, a = rd st tm := ⟨_, rfl⟩
  rw [← ha] at s1
  replace ha := Ak ha
  obtain ⟨⟨ne3, ne4⟩, ne5, ne6⟩ := hT3.out.ns
  have hT5 := Ak hT3.out.drew
  have HR : Aside0 (impl_WrapCell.f k (wrap64 (a + y)) = some r) := ⟨by rw [ha.out, hy.out, htm.out, htp.out]; rw [show (st.length : Int) - 1 - 1 = (st.length : Int) - 2 by omega]; exact hr⟩
  obtain ⟨d0, d1, d2, _⟩ := hT5.out.cells
  obtain ⟨d3, d4⟩ := hT5.out.at tm HQ0.out HQ1.out
  rw [← ha.out] at d3
  refine start_ (n := 19) (S := fun w' => w'.cell? ⟨gm, 1, none⟩ = some (.slice (some ⟨gs, 0, none⟩) st.length cs) ∧ w'.cell? ⟨gs, tm.toNat, none⟩ = some (.int .i64 a)) (ds := [18]) #[false, false, false, false, false, false, false, false, false, false, false, false, false, false, false, false, false, false, false] (by kernel_rfl) rfl rfl ⟨d1, d3⟩ (fun hHeld => ?_); refine with_tabW impl_step.tab19 impl_step.bits19 (fun HT_ HW_ => ?_)
  generalize W3.drew = W5 at hT5 d0 d1 d2 d3 d4 hHeld ⊢
  refine Qq 0 (some 106) ?_
  refine Qq 1 (some 107) ?_
  refine Qq 2 (some 108) ?_
  refine Qq 4 (some 110) ?_
  refine Qq 5 (some 111) ?_
  refine Qq 6 (some 112) ?_
  refine Qq 7 (some 113) ?_
  refine Qq 8 (some 114) ?_
  refine Qq 10 (some 116) ?_
  refine Qq 11 (some 117) ?_
  refine Qq 14 (some 120) ?_
  refine Qr 3 (some 109) hHeld ?_
  refine Qr 9 (some 115) hHeld ?_
  refine Qq 12 (some 118) ?_
  refine Qr 13 (some 119) hHeld ?_
  refine Qq 15 (some 121) ?_
  refine Qs 16 (some 122) (fun K hK => ?_)
  refine goes_ Try.func27 (by kernel_rfl) rfl #[.int .i64 (wrap64 (a + y))] (by rfl) rfl rfl (by (try simp only [List.map_toArray, List.map_cons, List.map_nil]); first | done | rfl) ?_
  with_reducible refine (impl_WrapCell.calls k (wrap64 (a + y)) r _ HR.out).mono ?_
  rintro e w1 ⟨rfl, hb⟩
  refine ⟨_, rfl, ?_⟩
  have hT6 := Ak (hT5.out.below hb)
  obtain ⟨g0, g1, g2, _⟩ := hT6.out.cells
  obtain ⟨g3, g4⟩ := hT6.out.at tm HQ0.out HQ1.out
  rw [← ha.out] at g3
  clear hb
  refine hK.out _ _ ⟨g1, g3⟩ (fun hHeld => ?_)
  clear hK K
  refine norm_ (a' := ?_) ?_ ?_
  rotate_left
  ·show Act.put _ (some 122) _ = _
   simp only [Act.put, List.setIfInBounds_toArray, List.set_cons_zero, List.set_cons_succ, i64_w, i32_w]
   rfl
  refine Qq 17 (some 123) ?_
  refine Qt 18 none (fun K hK => ?_)
  refine skip_ (w1 := ?_) (by rfl) rfl ?_ ?_
  rotate_left
  ·go_simp
   rfl
  refine hK.out _ _ ?_
  clear hK K
  refine done_ (done_of HT_.out (by kernel_rfl)) ?_
  clear hHeld d0 d1 d2 d3 d4
  have hT7 := Ak (hT6.out.put tm r)
  generalize w1.setCell ⟨gs, tm.toNat, none⟩ (.int .i64 r) = W6 at hT7 ⊢
  clear hT3 hT5 m0 m1 m2 f0 f1 y0 y1 y2 y3
  try clear s0 sf0
  try clear s1 sf1
  try clear s2 sf2
  try clear hT6
  try clear g0 g1 g2
  try clear g3 g4
  obtain ⟨m0, m1, m2, f0, f1, y0, y1, y2, y3⟩ := hT7.out.cells
  obtain ⟨iz, hiz, _, hsz, _⟩ := info_parts info3
  have hcap := (Kd.R_reads' hT7.out.s).2.1
  have hcut := cut_to (P := Try.prog) 23 3 .i64 Try.underlying23 hiz (some ⟨gs, 0, none⟩) st.length cs tp HP0.out (by have := HP1.out; omega) hcap
  have hTF := Ak (hT7.out.cut tp.toNat (by have := HP1.out; simp; omega))
  clear hiz hsz hcap
  go_wp2
  go_ret
  exact ⟨rfl, _, _, by rw [show st.length - 2 = tm.toNat by have := htm.out; have := htp.out; omega, show st.length - 1 = tp.toNat by have := htp.out; omega]; exact hTF.out.held⟩
def impl_step.T21 : Bool × List (List Nat × List Nat) := (true, [([], []), ([0], [0]), ([1], [1]), ([2], [2]), ([], []), ([4], [4]), ([], []), ([6], [6]), ([7], [7]), ([8], [8]), ([], []), ([10], [10]), ([9, 11], [9, 11]), ([12], [12]), ([], []), ([13, 14], [13, 14]), ([15], [15]), ([3, 5, 0, 1, 2, 3, 4, 5, 6, 7, 8, 9, 10, 11, 12, 13, 14, 15, 16], [3, 5]), ([17, 16, 16, 0, 1, 2, 3, 4, 5, 6, 7, 8, 9, 10, 11, 12, 13, 14, 15, 16], [16, 17])])
def impl_step.B21 : List Nat := [0, 1, 3, 7, 0, 16, 0, 64, 192, 448, 0, 1024, 4032, 8128, 0, 32704, 65472, 131071, 262143]
theorem impl_step.tab21 : rtab .any (opsOf Try.f43 21) = impl_step.T21 := by kernel_rfl
theorem impl_step.bits21 : waitsOk impl_step.T21.2 impl_step.B21 = true := by kernel_rfl
set_option maxRecDepth 1000000 in
theorem impl_step.sub (k : Nat) (ad0 : Addr) (c0 : Nat) (l : List S48) (gm : Nat) (pc : Int) (vs vc : Value) (st cl : List Int) (w0 w : World) (hC : Kd.C k48 w (some ad0) l.length l) (hH : impl_step.Held w0 w gm pc vs vc st cl) (h0 : 0 ≤ pc) (h1 : pc < l.length) (h2 : l.length ≤ 80) (h3 : st.length ≤ 20) (hc : (rd_T48 l pc).f0 = 3) (h4 : 2 ≤ st.length) (r : Int) (hr : impl_WrapCell.f k (wrap64 (rd st ((st.length : Int) - 2) - rd st ((st.length : Int) - 1))) = some r) :
  Calls Try.prog 43 #[.slice (some ad0) l.length c0, .pointer (some ⟨gm, 0, none⟩)] w fun e w' => e = .returned (.int .i64 0) ∧ ∃ vs' vc', impl_step.Held w0 w' gm (pc + 1) vs' vc' ((st.set (st.length - 2) r).take (st.length - 1)) cl := by
 obtain ⟨gs, cs, rfl, hgs, _, _⟩ := Kd.R_form hH.s (by omega)
 clear hgs
 obtain ⟨Ac, cc, rfl⟩ := Kd.R_slice hH.c
 have z0 : w.cell? ⟨gm, 0, none⟩ = some (.int .i64 pc) := (blk_cell hH.m 0).trans rfl
 have z1 : w.cell? ⟨gm, 1, none⟩ = some (.slice (some ⟨gs, 0, none⟩) st.length cs) := (blk_cell hH.m 1).trans rfl
 obtain ⟨ad, e, x0, x1, x2, x3⟩ := at_T48 hC pc h0 h1
 cases e
 have HH := Ak hH
 clear hH hC
 obtain ⟨xa, hxa⟩ : ∃ x, x = (rd_T48 l pc).f1 := ⟨_, rfl⟩
 obtain ⟨xb, hxb⟩ : ∃ x, x = (rd_T48 l pc).f2 := ⟨_, rfl⟩
 obtain ⟨xc, hxc⟩ : ∃ x, x = (rd_T48 l pc).f3 := ⟨_, rfl⟩
 rw [hc] at x0
 rw [← hxa] at x1
 rw [← hxb] at x2
 rw [← hxc] at x3
 replace hxa := Ak hxa
 replace hxb := Ak hxb
 replace hxc := Ak hxc
 clear hc
 have b1 : (pc == (l.length : Int)) = false := beq_eq_false_iff_ne.mpr (by omega)
 have b2 : decide (0 ≤ pc) = true := decide_eq_true h0
 have b3 : decide (pc < (l.length : Int)) = true := decide_eq_true h1
 have k0 := World.new_ne w ⟨gm, 0, none⟩ z0
 have k1 := World.new_ne w ⟨gm, 1, none⟩ z1
 have k2 := World.new_ne w _ x0
 obtain ⟨tp, htp⟩ : ∃ t : Int, t = (st.length : Int) - 1 := ⟨_, rfl⟩
 have wr : IntKind.i64.wrap ((st.length : Int) - 1) = tp := (i64_w _).trans (by rw [htp]; unfold wrap64; omega)
 have hp0 : 0 ≤ tp := by omega
 have hp1 : tp < st.length := by omega
 have p0 : (0 ≤ tp) = True := eq_true hp0
 have p1 : (tp < (st.length : Int)) = True := eq_true hp1
 have HP0 := Ak hp0
 have HP1 := Ak hp1
 clear hp0 hp1
 obtain ⟨tm, htm⟩ : ∃ t : Int, t = tp - 1 := ⟨_, rfl⟩
 have wr2 : IntKind.i64.wrap (tp - 1) = tm := (i64_w _).trans (by rw [htm]; unfold wrap64; omega)
 have hq0 : 0 ≤ tm := by omega
 have hq1 : tm < st.length := by omega
 have p2 : (0 ≤ tm) = True := eq_true hq0
 have p3 : (tm < (st.length : Int)) = True := eq_true hq1
 have HQ0 := Ak hq0
 have HQ1 := Ak hq1
 replace htm := Ak htm
 clear hq0 hq1
 replace htp := Ak htp
 go_enter Try.func43, Try.ntmps43
 go_upto_region 3 with fail
 go_region_held3 (fun w' => w'.cell? ⟨gm, 0, none⟩ = some (.int .i64 pc) ∧ w'.cell? ⟨gm, 1, none⟩ = some (.slice (some ⟨gs, 0, none⟩) st.length cs) ∧ w'.cell? (ad0.add (pc.toNat * 4)) = some (.int .i64 3) ∧ w'.cell? ⟨(ad0.add (pc.toNat * 4)).block, (ad0.add (pc.toNat * 4)).off + 1, none⟩ = some (.int .i64 xa) ∧ w'.cell? ⟨(ad0.add (pc.toNat * 4)).block, (ad0.add (pc.toNat * 4)).off + 2, none⟩ = some (.int .i64 xb) ∧ w'.cell? ⟨(ad0.add (pc.toNat * 4)).block, (ad0.add (pc.toNat * 4)).off + 3, none⟩ = some (.int .i64 xc)) (first | assumption | go_keep) (fail)
 have hT := Ak (impl_step.St.start (a := 3) (b := xa) (c := xb) (d := xc) HH.out w.heap.size rfl)
 generalize (w.alloc (.cells #[.int .i64 3, .int .i64 xa, .int .i64 xb, .int .i64 xc] 48)).drew = W at hT ⊢
 generalize w.heap.size = gx at hT ⊢
 clear k0 k1 k2 z0 z1 x0 x1 x2 x3 HH wr b1 b2 b3
 obtain ⟨m0, m1, m2, f0, f1, y0, y1, y2, y3⟩ := hT.out.cells
 have ne1 := hT.out.mx
 have ne2 := ne1.symm
 have HN := Ak (impl_step.need k).2.2.1
 have n1 : decide ((st.length : Int) < 2) = false := decide_eq_false (by omega)
 go_upto_region 6 with fail
 go_region_held3 (fun w' => w'.cell? ⟨gm, 1, none⟩ = some (.slice (some ⟨gs, 0, none⟩) st.length cs) ∧ w'.cell? ⟨gx, 0, none⟩ = some (.int .i64 3)) (first | assumption | go_keep) ((go_at_call 73; with_reducible refine (impl_needs.calls (k + 1) 3 2 _ HN.out).mono ?_; rintro e wn ⟨rfl, ⟨nd, rfl⟩⟩))
 have hT2 := Ak (hT.out.drewN (1 + nd))
 generalize W.drewN (1 + nd) = W2 at hT2 ⊢
 clear hT m0 m1 m2 f0 f1 y0 y1 y2 y3 ne1 ne2
 obtain ⟨m0, m1, m2, f0, f1, y0, y1, y2, y3⟩ := hT2.out.cells
 have ne1 := hT2.out.mx
 have ne2 := ne1.symm
 obtain ⟨s0, sf0⟩ := hT2.out.at tp HP0.out HP1.out
 obtain ⟨y, hy⟩ : ∃ y, y = rd st tp := ⟨_, rfl⟩
 rw [← hy] at s0
 replace hy := Ak hy
 rcases n2 : ((st.length : Int) == 20) with _ | _
 all_goals
  go_upto_region 21 with (go_at_call 73; with_reducible refine (impl_needs.calls (k + 1) 3 2 _ HN.out).mono ?_; rintro e wn ⟨rfl, ⟨nd, rfl⟩⟩)
  have hT3 := Ak ((hT2.out.drewN nd).pc' (pc + 1))
  generalize (W2.drewN nd).setCell ⟨gm, 0, none⟩ (.int .i64 (pc + 1)) = W3 at hT3 ⊢
  clear hT2 m0 m1 m2 f0 f1 y0 y1 y2 y3 ne1 ne2
  obtain ⟨m0, m1, m2, f0, f1, y0, y1, y2, y3⟩ := hT3.out.cells
  have ne1 := hT3.out.mx
  have ne2 := ne1.symm
  clear s0 sf0
  obtain ⟨s0, sf0⟩ := hT3.out.at tp HP0.out HP1.out
  rw [← hy.out] at s0
  obtain ⟨s1, sf1⟩ := hT3.out.at tm HQ0.out HQ1.out
  obtain ⟨a, ha⟩ : ∃ a, a = rd st tm := ⟨_, rfl⟩
  rw [← ha] at s1
  replace ha := Ak ha
  obtain ⟨⟨ne3, ne4⟩, ne5, ne6⟩ := hT3.out.ns
  have hT5 := Ak hT3.out.drew
  have HR : Aside0 (impl_WrapCell.f k (wrap64 (a - y)) = some r) := ⟨by rw [ha.out, hy.out, htm.out, htp.out]; rw [show (st.length : Int) - 1 - 1 = (st.length : Int) - 2 by omega]; exact hr⟩
  obtain ⟨d0, d1, d2, _⟩ := hT5.out.cells
  obtain ⟨d3, d4⟩ := hT5.out.at tm HQ0.out HQ1.out
  rw [← ha.out] at d3
  refine start_ (n := 19) (S := fun w' => w'.cell? ⟨gm, 1, none⟩ = some (.slice (some ⟨gs, 0, none⟩) st.length cs) ∧ w'.cell? ⟨gs, tm.toNat, none⟩ = some (.int .i64 a)) (ds := [18]) #[false, false, false, false, false, false, false, false, false, false, false, false, false, false, false, false, false, false, false] (by kernel_rfl) rfl rfl ⟨d1, d3⟩ (fun hHeld => ?_); refine with_tabW impl_step.tab21 impl_step.bits21 (fun HT_ HW_ => ?_)
  generalize W3.drew = W5 at hT5 d0 d1 d2 d3 d4 hHeld ⊢
  refine Qq 0 (some 126) ?_
  refine Qq 1 (some 127) ?_
  refine Qq 2 (some 128) ?_
  refine Qq 4 (some 130) ?_
  refine Qq 5 (some 131) ?_
  refine Qq 6 (some 132) ?_
  refine Qq 7 (some 133) ?_
  refine Qq 8 (some 134) ?_
  refine Qq 10 (some 136) ?_
  refine Qq 11 (some 137) ?_
  refine Qq 14 (some 140) ?_
  refine Qr 3 (some 129) hHeld ?_
  refine Qr 9 (some 135) hHeld ?_
  refine Qq 12 (some 138) ?_
  refine Qr 13 (some 139) hHeld ?_
  refine Qq 15 (some 141) ?_
  refine Qs 16 (some 142) (fun K hK => ?_)
  refine goes_ Try.func27 (by kernel_rfl) rfl #[.int .i64 (wrap64 (a - y))] (by rfl) rfl rfl (by (try simp only [List.map_toArray, List.map_cons, List.map_nil]); first | done | rfl) ?_
  with_reducible refine (impl_WrapCell.calls k (wrap64 (a - y)) r _ HR.out).mono ?_
  rintro e w1 ⟨rfl, hb⟩
  refine ⟨_, rfl, ?_⟩
  have hT6 := Ak (hT5.out.below hb)
  obtain ⟨g0, g1, g2, _⟩ := hT6.out.cells
  obtain ⟨g3, g4⟩ := hT6.out.at tm HQ0.out HQ1.out
  rw [← ha.out] at g3
  clear hb
  refine hK.out _ _ ⟨g1, g3⟩ (fun hHeld => ?_)
  clear hK K
  refine norm_ (a' := ?_) ?_ ?_
  rotate_left
  ·show Act.put _ (some 142) _ = _
   simp only [Act.put, List.setIfInBounds_toArray, List.set_cons_zero, List.set_cons_succ, i64_w, i32_w]
   rfl
  refine Qq 17 (some 143) ?_
  refine Qt 18 none (fun K hK => ?_)
  refine skip_ (w1 := ?_) (by rfl) rfl ?_ ?_
  rotate_left
  ·go_simp
   rfl
  refine hK.out _ _ ?_
  clear hK K
  refine done_ (done_of HT_.out (by kernel_rfl)) ?_
  clear hHeld d0 d1 d2 d3 d4
  have hT7 := Ak (hT6.out.put tm r)
  generalize w1.setCell ⟨gs, tm.toNat, none⟩ (.int .i64 r) = W6 at hT7 ⊢
  clear hT3 hT5 m0 m1 m2 f0 f1 y0 y1 y2 y3
  try clear s0 sf0
  try clear s1 sf1
  try clear s2 sf2
  try clear hT6
  try clear g0 g1 g2
  try clear g3 g4
  obtain ⟨m0, m1, m2, f0, f1, y0, y1, y2, y3⟩ := hT7.out.cells
  obtain ⟨iz, hiz, _, hsz, _⟩ := info_parts info3
  have hcap := (Kd.R_reads' hT7.out.s).2.1
  have hcut := cut_to (P := Try.prog) 23 3 .i64 Try.underlying23 hiz (some ⟨gs, 0, none⟩) st.length cs tp HP0.out (by have := HP1.out; omega) hcap
  have hTF := Ak (hT7.out.cut tp.toNat (by have := HP1.out; simp; omega))
  clear hiz hsz hcap
  go_wp2
  go_ret
  exact ⟨rfl, _, _, by rw [show st.length - 2 = tm.toNat by have := htm.out; have := htp.out; omega, show st.length - 1 = tp.toNat by have := htp.out; omega]; exact hTF.out.held⟩
def impl_step.T23 : Bool × List (List Nat × List Nat) := (true, [([], []), ([0], [0]), ([1], [1]), ([2], [2]), ([], []), ([4], [4]), ([], []), ([6], [6]), ([7], [7]), ([8], [8]), ([], []), ([10], [10]), ([9, 11], [9, 11]), ([12], [12]), ([], []), ([13, 14], [13, 14]), ([15], [15]), ([3, 5, 0, 1, 2, 3, 4, 5, 6, 7, 8, 9, 10, 11, 12, 13, 14, 15, 16], [3, 5]), ([17, 16, 16, 0, 1, 2, 3, 4, 5, 6, 7, 8, 9, 10, 11, 12, 13, 14, 15, 16], [16, 17])])
def impl_step.B23 : List Nat := [0, 1, 3, 7, 0, 16, 0, 64, 192, 448, 0, 1024, 4032, 8128, 0, 32704, 65472, 131071, 262143]
theorem impl_step.tab23 : rtab .any (opsOf Try.f43 23) = impl_step.T23 := by kernel_rfl
theorem impl_step.bits23 : waitsOk impl_step.T23.2 impl_step.B23 = true := by kernel_rfl
set_option maxRecDepth 1000000 in
theorem impl_step.mul (k : Nat) (ad0 : Addr) (c0 : Nat) (l : List S48) (gm : Nat) (pc : Int) (vs vc : Value) (st cl : List Int) (w0 w : World) (hC : Kd.C k48 w (some ad0) l.length l) (hH : impl_step.Held w0 w gm pc vs vc st cl) (h0 : 0 ≤ pc) (h1 : pc < l.length) (h2 : l.length ≤ 80) (h3 : st.length ≤ 20) (hc : (rd_T48 l pc).f0 = 4) (h4 : 2 ≤ st.length) (r : Int) (hr : impl_WrapCell.f k (wrap64 (rd st ((st.length : Int) - 2) * rd st ((st.length : Int) - 1))) = some r) :
  Calls Try.prog 43 #[.slice (some ad0) l.length c0, .pointer (some ⟨gm, 0, none⟩)] w fun e w' => e = .returned (.int .i64 0) ∧ ∃ vs' vc', impl_step.Held w0 w' gm (pc + 1) vs' vc' ((st.set (st.length - 2) r).take (st.length - 1)) cl := by
 obtain ⟨gs, cs, rfl, hgs, _, _⟩ := Kd.R_form hH.s (by omega)
 clear hgs
 obtain ⟨Ac, cc, rfl⟩ := Kd.R_slice hH.c
 have z0 : w.cell? ⟨gm, 0, none⟩ = some (.int .i64 pc) := (blk_cell hH.m 0).trans rfl
 have z1 : w.cell? ⟨gm, 1, none⟩ = some (.slice (some ⟨gs, 0, none⟩) st.length cs) := (blk_cell hH.m 1).trans rfl
 obtain ⟨ad, e, x0, x1, x2, x3⟩ := at_T48 hC pc h0 h1
 cases e
 have HH := Ak hH
 clear hH hC
 obtain ⟨xa, hxa⟩ : ∃ x, x = (rd_T48 l pc).f1 := ⟨_, rfl⟩
 obtain ⟨xb, hxb⟩ : ∃ x, x = (rd_T48 l pc).f2 := ⟨_, rfl⟩
 obtain ⟨xc, hxc⟩ : ∃ x, x = (rd_T48 l pc).f3 := ⟨_, rfl⟩
 rw [hc] at x0
 rw [← hxa] at x1
 rw [← hxb] at x2
 rw [← hxc] at x3
 replace hxa := Ak hxa
 replace hxb := Ak hxb
 replace hxc := Ak hxc
 clear hc
 have b1 : (pc == (l.length : Int)) = false := beq_eq_false_iff_ne.mpr (by omega)
 have b2 : decide (0 ≤ pc) = true := decide_eq_true h0
 have b3 : decide (pc < (l.length : Int)) = true := decide_eq_true h1
 have k0 := World.new_ne w ⟨gm, 0, none⟩ z0
 have k1 := World.new_ne w ⟨gm, 1, none⟩ z1
 have k2 := World.new_ne w _ x0
 obtain ⟨tp, htp⟩ : ∃ t : Int, t = (st.length : Int) - 1 := ⟨_, rfl⟩
 have wr : IntKind.i64.wrap ((st.length : Int) - 1) = tp := (i64_w _).trans (by rw [htp]; unfold wrap64; omega)
 have hp0 : 0 ≤ tp := by omega
 have hp1 : tp < st.length := by omega
 have p0 : (0 ≤ tp) = True := eq_true hp0
 have p1 : (tp < (st.length : Int)) = True := eq_true hp1
 have HP0 := Ak hp0
 have HP1 := Ak hp1
 clear hp0 hp1
 obtain ⟨tm, htm⟩ : ∃ t : Int, t = tp - 1 := ⟨_, rfl⟩
 have wr2 : IntKind.i64.wrap (tp - 1) = tm := (i64_w _).trans (by rw [htm]; unfold wrap64; omega)
 have hq0 : 0 ≤ tm := by omega
 have hq1 : tm < st.length := by omega
 have p2 : (0 ≤ tm) = True := eq_true hq0
 have p3 : (tm < (st.length : Int)) = True := eq_true hq1
 have HQ0 := Ak hq0
 have HQ1 := Ak hq1
 replace htm := Ak htm
 clear hq0 hq1
 replace htp := Ak htp
 go_enter Try.func43, Try.ntmps43
 go_upto_region 3 with fail
 go_region_held3 (fun w' => w'.cell? ⟨gm, 0, none⟩ = some (.int .i64 pc) ∧ w'.cell? ⟨gm, 1, none⟩ = some (.slice (some ⟨gs, 0, none⟩) st.length cs) ∧ w'.cell? (ad0.add (pc.toNat * 4)) = some (.int .i64 4) ∧ w'.cell? ⟨(ad0.add (pc.toNat * 4)).block, (ad0.add (pc.toNat * 4)).off + 1, none⟩ = some (.int .i64 xa) ∧ w'.cell? ⟨(ad0.add (pc.toNat * 4)).block, (ad0.add (pc.toNat * 4)).off + 2, none⟩ = some (.int .i64 xb) ∧ w'.cell? ⟨(ad0.add (pc.toNat * 4)).block, (ad0.add (pc.toNat * 4)).off + 3, none⟩ = some (.int .i64 xc)) (first | assumption | go_keep) (fail)
 have hT := Ak (impl_step.St.start (a := 4) (b := xa) (c := xb) (d := xc) HH.out w.heap.size rfl)
 generalize (w.alloc (.cells #[.int .i64 4, .int .i64 xa, .int .i64 xb, .int .i64 xc] 48)).drew = W at hT ⊢
 generalize w.heap.size = gx at hT ⊢
 clear k0 k1 k2 z0 z1 x0 x1 x2 x3 HH wr b1 b2 b3
 obtain ⟨m0, m1, m2, f0, f1, y0, y1, y2, y3⟩ := hT.out.cells
 have ne1 := hT.out.mx
 have ne2 := ne1.symm
 have HN := Ak (impl_step.need k).2.2.2.1
 have n1 : decide ((st.length : Int) < 2) = false := decide_eq_false (by omega)
 go_upto_region 6 with fail
 go_region_held3 (fun w' => w'.cell? ⟨gm, 1, none⟩ = some (.slice (some ⟨gs, 0, none⟩) st.length cs) ∧ w'.cell? ⟨gx, 0, none⟩ = some (.int .i64 4)) (first | assumption | go_keep) ((go_at_call 73; with_reducible refine (impl_needs.calls (k + 1) 4 2 _ HN.out).mono ?_; rintro e wn ⟨rfl, ⟨nd, rfl⟩⟩))
 have hT2 := Ak (hT.out.drewN (1 + nd))
 generalize W.drewN (1 + nd) = W2 at hT2 ⊢
 clear hT m0 m1 m2 f0 f1 y0 y1 y2 y3 ne1 ne2
 obtain ⟨m0, m1, m2, f0, f1, y0, y1, y2, y3⟩ := hT2.out.cells
 have ne1 := hT2.out.mx
 have ne2 := ne1.symm
 obtain ⟨s0, sf0⟩ := hT2.out.at tp HP0.out HP1.out
 obtain ⟨y, hy⟩ : ∃ y, y = rd st tp := ⟨_, rfl⟩
 rw [← hy] at s0
 replace hy := Ak hy
 rcases n2 : ((st.length : Int) == 20) with _ | _
 all_goals
  go_upto_region 23 with (go_at_call 73; with_reducible refine (impl_needs.calls (k + 1) 4 2 _ HN.out).mono ?_; rintro e wn ⟨rfl, ⟨nd, rfl⟩⟩)
  have hT3 := Ak ((hT2.out.drewN nd).pc' (pc + 1))
  generalize (W2.drewN nd).setCell ⟨gm, 0, none⟩ (.int .i64 (pc + 1)) = W3 at hT3 ⊢
  clear hT2 m0 m1 m2 f0 f1 y0 y1 y2 y3 ne1 ne2
  obtain ⟨m0, m1, m2, f0, f1, y0, y1, y2, y3⟩ := hT3.out.cells
  have ne1 := hT3.out.mx
  have ne2 := ne1.symm
  clear s0 sf0
  obtain ⟨s0, sf0⟩ := hT3.out.at tp HP0.out HP1.out
  rw [← hy.out] at s0
  obtain ⟨s1, sf1⟩ := hT3.out.at tm HQ0.out HQ1.out
  obtain ⟨a, ha⟩ : ∃ a, a = rd st tm := ⟨_, rfl⟩
  rw [← ha] at s1
  replace ha := Ak ha
  obtain ⟨⟨ne3, ne4⟩, ne5, ne6⟩ := hT3.out.ns
  have hT5 := Ak hT3.out.drew
  have HR : Aside0 (impl_WrapCell.f k (wrap64 (a * y)) = some r) := ⟨by rw [ha.out, hy.out, htm.out, htp.out]; rw [show (st.length : Int) - 1 - 1 = (st.length : Int) - 2 by omega]; exact hr⟩
  obtain ⟨d0, d1, d2, _⟩ := hT5.out.cells
  obtain ⟨d3, d4⟩ := hT5.out.at tm HQ0.out HQ1.out
  rw [← ha.out] at d3
  refine start_ (n := 19) (S := fun w' => w'.cell? ⟨gm, 1, none⟩ = some (.slice (some ⟨gs, 0, none⟩) st.length cs) ∧ w'.cell? ⟨gs, tm.toNat, none⟩ = some (.int .i64 a)) (ds := [18]) #[false, false, false, false, false, false, false, false, false, false, false, false, false, false, false, false, false, false, false] (by kernel_rfl) rfl rfl ⟨d1, d3⟩ (fun hHeld => ?_); refine with_tabW impl_step.tab23 impl_step.bits23 (fun HT_ HW_ => ?_)
  generalize W3.drew = W5 at hT5 d0 d1 d2 d3 d4 hHeld ⊢
  refine Qq 0 (some 146) ?_
  refine Qq 1 (some 147) ?_
  refine Qq 2 (some 148) ?_
  refine Qq 4 (some 150) ?_
  refine Qq 5 (some 151) ?_
  refine Qq 6 (some 152) ?_
  refine Qq 7 (some 153) ?_
  refine Qq 8 (some 154) ?_
  refine Qq 10 (some 156) ?_
  refine Qq 11 (some 157) ?_
  refine Qq 14 (some 160) ?_
  refine Qr 3 (some 149) hHeld ?_
  refine Qr 9 (some 155) hHeld ?_
  refine Qq 12 (some 158) ?_
  refine Qr 13 (some 159) hHeld ?_
  refine Qq 15 (some 161) ?_
  refine Qs 16 (some 162) (fun K hK => ?_)
  refine goes_ Try.func27 (by kernel_rfl) rfl #[.int .i64 (wrap64 (a * y))] (by rfl) rfl rfl (by (try simp only [List.map_toArray, List.map_cons, List.map_nil]); first | done | rfl) ?_
  with_reducible refine (impl_WrapCell.calls k (wrap64 (a * y)) r _ HR.out).mono ?_
  rintro e w1 ⟨rfl, hb⟩
  refine ⟨_, rfl, ?_⟩
  have hT6 := Ak (hT5.out.below hb)
  obtain ⟨g0, g1, g2, _⟩ := hT6.out.cells
  obtain ⟨g3, g4⟩ := hT6.out.at tm HQ0.out HQ1.out
  rw [← ha.out] at g3
  clear hb
  refine hK.out _ _ ⟨g1, g3⟩ (fun hHeld => ?_)
  clear hK K
  refine norm_ (a' := ?_) ?_ ?_
  rotate_left
  ·show Act.put _ (some 162) _ = _
   simp only [Act.put, List.setIfInBounds_toArray, List.set_cons_zero, List.set_cons_succ, i64_w, i32_w]
   rfl
  refine Qq 17 (some 163) ?_
  refine Qt 18 none (fun K hK => ?_)
  refine skip_ (w1 := ?_) (by rfl) rfl ?_ ?_
  rotate_left
  ·go_simp
   rfl
  refine hK.out _ _ ?_
  clear hK K
  refine done_ (done_of HT_.out (by kernel_rfl)) ?_
  clear hHeld d0 d1 d2 d3 d4
  have hT7 := Ak (hT6.out.put tm r)
  generalize w1.setCell ⟨gs, tm.toNat, none⟩ (.int .i64 r) = W6 at hT7 ⊢
  clear hT3 hT5 m0 m1 m2 f0 f1 y0 y1 y2 y3
  try clear s0 sf0
  try clear s1 sf1
  try clear s2 sf2
  try clear hT6
  try clear g0 g1 g2
  try clear g3 g4
  obtain ⟨m0, m1, m2, f0, f1, y0, y1, y2, y3⟩ := hT7.out.cells
  obtain ⟨iz, hiz, _, hsz, _⟩ := info_parts info3
  have hcap := (Kd.R_reads' hT7.out.s).2.1
  have hcut := cut_to (P := Try.prog) 23 3 .i64 Try.underlying23 hiz (some ⟨gs, 0, none⟩) st.length cs tp HP0.out (by have := HP1.out; omega) hcap
  have hTF := Ak (hT7.out.cut tp.toNat (by have := HP1.out; simp; omega))
  clear hiz hsz hcap
  go_wp2
  go_ret
  exact ⟨rfl, _, _, by rw [show st.length - 2 = tm.toNat by have := htm.out; have := htp.out; omega, show st.length - 1 = tp.toNat by have := htp.out; omega]; exact hTF.out.held⟩
end Go.Proofs.Ytlmiankjbffboaa.HFnBranched

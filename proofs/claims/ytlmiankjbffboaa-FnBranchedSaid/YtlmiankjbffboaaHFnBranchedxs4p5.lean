/- Text for FnBranched: written by a program of this session on the pattern of the kit's print. -/
import Derived.Test.YtlmiankjbffboaaHFnBranchedxs4p0
import Derived.Test.YtlmiankjbffboaaHFnBranchedx0
import Derived.Test.YtlmiankjbffboaaHFnBranchedx1
import Derived.Test.YtlmiankjbffboaaHFnBranchedx2
import Derived.Test.YtlmiankjbffboaaHFnBranchedx3
namespace Go.Proofs.Ytlmiankjbffboaa.HFnBranched
open Go.RowKit Go.Proofs.YtlmiankjbffboaaW.PrintWords Go.Proofs.YtlmiankjbffboaaW.PrintLast Go.Proofs.YtlmiankjbffboaaW.PrintMore
attribute [local go_sem] max2_int min2_int max_two min_two max_three min_three max_four min_four
set_option linter.unusedVariables false
set_option linter.unusedSimpArgs false

set_option maxHeartbeats 8000000 in
set_option maxRecDepth 1000000 in
theorem impl_step.branch (k : Nat) (ad0 : Addr) (c0 : Nat) (l : List S48) (gm : Nat) (pc : Int) (vs vc : Value) (st cl : List Int) (w0 w : World) (hC : Kd.C k48 w (some ad0) l.length l) (hH : impl_step.Held w0 w gm pc vs vc st cl) (h0 : 0 ≤ pc) (h1 : pc < l.length) (h2 : l.length ≤ 80) (h3 : st.length ≤ 20) (hc : (rd_T48 l pc).f0 = 14) (h4 : 1 ≤ st.length) (r : Int) (hr : impl_SignOf.f (rd st ((st.length : Int) - 1)) = some r) (q : Int) (hq : r = -1 ∧ q = (rd_T48 l pc).f1 ∨ r = 0 ∧ q = (rd_T48 l pc).f2 ∨ r = 1 ∧ q = (rd_T48 l pc).f3) :
  Calls Try.prog 43 #[.slice (some ad0) l.length c0, .pointer (some ⟨gm, 0, none⟩)] w fun e w' => e = .returned (.int .i64 0) ∧ ∃ vs' vc', impl_step.Held w0 w' gm q vs' vc' (st.take (st.length - 1)) cl := by
 obtain ⟨gs, cs, rfl, hgs, _, _⟩ := Kd.R_form hH.s (by omega)
 clear hgs
 obtain ⟨Ac, cc, rfl⟩ := Kd.R_slice hH.c
 have z0 : w.cell? ⟨gm, 0, none⟩ = some (.int .i64 pc) := (blk_cell hH.m 0).trans rfl
 have z1 : w.cell? ⟨gm, 1, none⟩ = some (.slice (some ⟨gs, 0, none⟩) st.length cs) := (blk_cell hH.m 1).trans rfl
 obtain ⟨ad, e, x0, x1, x2, x3⟩ := at_T48 hC pc h0 h1
 cases e
 have HH := Ak hH
 clear hH hC
 obtain ⟨xa, hxa⟩ : ∃ x, x = (rd_T48 l pc).f1 := ⟨_, rfl⟩
 obtain ⟨xb, hxb⟩ : ∃ x, x = (rd_T48 l pc).f2 := ⟨_, rfl⟩
 obtain ⟨xc, hxc⟩ : ∃ x, x = (rd_T48 l pc).f3 := ⟨_, rfl⟩
 rw [hc] at x0
 rw [← hxa] at x1
 rw [← hxb] at x2
 rw [← hxc] at x3
 replace hxa := Ak hxa
 replace hxb := Ak hxb
 replace hxc := Ak hxc
 clear hc
 have b1 : (pc == (l.length : Int)) = false := beq_eq_false_iff_ne.mpr (by omega)
 have b2 : decide (0 ≤ pc) = true := decide_eq_true h0
 have b3 : decide (pc < (l.length : Int)) = true := decide_eq_true h1
 have k0 := World.new_ne w ⟨gm, 0, none⟩ z0
 have k1 := World.new_ne w ⟨gm, 1, none⟩ z1
 have k2 := World.new_ne w _ x0
 obtain ⟨tp, htp⟩ : ∃ t : Int, t = (st.length : Int) - 1 := ⟨_, rfl⟩
 have wr : IntKind.i64.wrap ((st.length : Int) - 1) = tp := (i64_w _).trans (by rw [htp]; unfold wrap64; omega)
 have hp0 : 0 ≤ tp := by omega
 have hp1 : tp < st.length := by omega
 have p0 : (0 ≤ tp) = True := eq_true hp0
 have p1 : (tp < (st.length : Int)) = True := eq_true hp1
 have HP0 := Ak hp0
 have HP1 := Ak hp1
 clear hp0 hp1
 replace htp := Ak htp
 go_enter Try.func43, Try.ntmps43
 go_upto_region 3 with fail
 go_region_held3 (fun w' => w'.cell? ⟨gm, 0, none⟩ = some (.int .i64 pc) ∧ w'.cell? ⟨gm, 1, none⟩ = some (.slice (some ⟨gs, 0, none⟩) st.length cs) ∧ w'.cell? (ad0.add (pc.toNat * 4)) = some (.int .i64 14) ∧ w'.cell? ⟨(ad0.add (pc.toNat * 4)).block, (ad0.add (pc.toNat * 4)).off + 1, none⟩ = some (.int .i64 xa) ∧ w'.cell? ⟨(ad0.add (pc.toNat * 4)).block, (ad0.add (pc.toNat * 4)).off + 2, none⟩ = some (.int .i64 xb) ∧ w'.cell? ⟨(ad0.add (pc.toNat * 4)).block, (ad0.add (pc.toNat * 4)).off + 3, none⟩ = some (.int .i64 xc)) (first | assumption | go_keep) (fail)
 have hT := Ak (impl_step.St.start (a := 14) (b := xa) (c := xb) (d := xc) HH.out w.heap.size rfl)
 generalize (w.alloc (.cells #[.int .i64 14, .int .i64 xa, .int .i64 xb, .int .i64 xc] 48)).drew = W at hT ⊢
 generalize w.heap.size = gx at hT ⊢
 clear k0 k1 k2 z0 z1 x0 x1 x2 x3 HH wr b1 b2 b3
 obtain ⟨m0, m1, m2, f0, f1, y0, y1, y2, y3⟩ := hT.out.cells
 have ne1 := hT.out.mx
 have ne2 := ne1.symm
 have HN := Ak (impl_step.need k).2.2.2.2.2.2.2.2.2.2.2.2.2
 have n1 : decide ((st.length : Int) < 1) = false := decide_eq_false (by omega)
 go_upto_region 6 with fail
 go_region_held3 (fun w' => w'.cell? ⟨gm, 1, none⟩ = some (.slice (some ⟨gs, 0, none⟩) st.length cs) ∧ w'.cell? ⟨gx, 0, none⟩ = some (.int .i64 14)) (first | assumption | go_keep) ((go_at_call 73; with_reducible refine (impl_needs.calls (k + 1) 14 1 _ HN.out).mono ?_; rintro e wn ⟨rfl, ⟨nd, rfl⟩⟩))
 have hT2 := Ak (hT.out.drewN (1 + nd))
 generalize W.drewN (1 + nd) = W2 at hT2 ⊢
 clear hT m0 m1 m2 f0 f1 y0 y1 y2 y3 ne1 ne2
 obtain ⟨m0, m1, m2, f0, f1, y0, y1, y2, y3⟩ := hT2.out.cells
 have ne1 := hT2.out.mx
 have ne2 := ne1.symm
 obtain ⟨s0, sf0⟩ := hT2.out.at tp HP0.out HP1.out
 obtain ⟨y, hy⟩ : ∃ y, y = rd st tp := ⟨_, rfl⟩
 rw [← hy] at s0
 replace hy := Ak hy
 rcases n2 : ((st.length : Int) == 20) with _ | _
 all_goals
  go_upto_region 41 with (go_at_call 73; with_reducible refine (impl_needs.calls (k + 1) 14 1 _ HN.out).mono ?_; rintro e wn ⟨rfl, ⟨nd, rfl⟩⟩)
  have hT3 := Ak ((hT2.out.drewN nd).pc' (pc + 1))
  generalize (W2.drewN nd).setCell ⟨gm, 0, none⟩ (.int .i64 (pc + 1)) = W3 at hT3 ⊢
  clear hT2 m0 m1 m2 f0 f1 y0 y1 y2 y3 ne1 ne2
  obtain ⟨m0, m1, m2, f0, f1, y0, y1, y2, y3⟩ := hT3.out.cells
  have ne1 := hT3.out.mx
  have ne2 := ne1.symm
  clear s0 sf0
  obtain ⟨s0, sf0⟩ := hT3.out.at tp HP0.out HP1.out
  rw [← hy.out] at s0
  obtain ⟨⟨ne3, ne4⟩, ne5, ne6⟩ := hT3.out.ns
  have hT5 := Ak hT3.out.drew
  have HR : Aside0 (impl_SignOf.f y = some r) := ⟨by rw [hy.out, htp.out]; exact hr⟩
  clear hr
  rw [← hxa.out, ← hxb.out, ← hxc.out] at hq
  rcases hq with ⟨rfl, hqq⟩ | ⟨rfl, hqq⟩ | ⟨rfl, hqq⟩
  all_goals have HQQ := Ak hqq
  all_goals clear hqq
  all_goals obtain ⟨ir0, ir1, ir2⟩ := impl_step.idx xa xb xc
  ·go_region_held3 (fun w' => w'.cell? ⟨gx, 1, none⟩ = some (.int .i64 xa) ∧ w'.cell? ⟨gx, 2, none⟩ = some (.int .i64 xb) ∧ w'.cell? ⟨gx, 3, none⟩ = some (.int .i64 xc)) (first | assumption | go_keep) (((go_at_call 34; with_reducible refine (impl_SignOf.calls y (-1) _ HR.out).mono ?_; rintro e w1 ⟨rfl, ⟨nd2, rfl⟩⟩)))
   have hT7 := Ak ((hT3.out.drewN (1 + nd2)).pc' xa)
   generalize (W3.drewN (1 + nd2)).setCell ⟨gm, 0, none⟩ (.int .i64 xa) = W6 at hT7 ⊢
   clear hT3 hT5 m0 m1 m2 f0 f1 y0 y1 y2 y3
   try clear s0 sf0
   try clear s1 sf1
   try clear s2 sf2
   try clear hT6
   try clear g0 g1 g2
   try clear g3 g4
   obtain ⟨m0, m1, m2, f0, f1, y0, y1, y2, y3⟩ := hT7.out.cells
   obtain ⟨iz, hiz, _, hsz, _⟩ := info_parts info3
   have hcap := (Kd.R_reads' hT7.out.s).2.1
   have hcut := cut_to (P := Try.prog) 23 3 .i64 Try.underlying23 hiz (some ⟨gs, 0, none⟩) st.length cs tp HP0.out (by have := HP1.out; omega) hcap
   have hTF := Ak (hT7.out.cut tp.toNat (by have := HP1.out; simp; omega))
   clear hiz hsz hcap
   go_wp2
   go_ret
   exact ⟨rfl, _, _, by rw [HQQ.out, show st.length - 1 = tp.toNat by have := htp.out; omega]; exact hTF.out.held⟩
  ·go_region_held3 (fun w' => w'.cell? ⟨gx, 1, none⟩ = some (.int .i64 xa) ∧ w'.cell? ⟨gx, 2, none⟩ = some (.int .i64 xb) ∧ w'.cell? ⟨gx, 3, none⟩ = some (.int .i64 xc)) (first | assumption | go_keep) (((go_at_call 34; with_reducible refine (impl_SignOf.calls y (0) _ HR.out).mono ?_; rintro e w1 ⟨rfl, ⟨nd2, rfl⟩⟩)))
   have hT7 := Ak ((hT3.out.drewN (1 + nd2)).pc' xb)
   generalize (W3.drewN (1 + nd2)).setCell ⟨gm, 0, none⟩ (.int .i64 xb) = W6 at hT7 ⊢
   clear hT3 hT5 m0 m1 m2 f0 f1 y0 y1 y2 y3
   try clear s0 sf0
   try clear s1 sf1
   try clear s2 sf2
   try clear hT6
   try clear g0 g1 g2
   try clear g3 g4
   obtain ⟨m0, m1, m2, f0, f1, y0, y1, y2, y3⟩ := hT7.out.cells
   obtain ⟨iz, hiz, _, hsz, _⟩ := info_parts info3
   have hcap := (Kd.R_reads' hT7.out.s).2.1
   have hcut := cut_to (P := Try.prog) 23 3 .i64 Try.underlying23 hiz (some ⟨gs, 0, none⟩) st.length cs tp HP0.out (by have := HP1.out; omega) hcap
   have hTF := Ak (hT7.out.cut tp.toNat (by have := HP1.out; simp; omega))
   clear hiz hsz hcap
   go_wp2
   go_ret
   exact ⟨rfl, _, _, by rw [HQQ.out, show st.length - 1 = tp.toNat by have := htp.out; omega]; exact hTF.out.held⟩
  ·go_region_held3 (fun w' => w'.cell? ⟨gx, 1, none⟩ = some (.int .i64 xa) ∧ w'.cell? ⟨gx, 2, none⟩ = some (.int .i64 xb) ∧ w'.cell? ⟨gx, 3, none⟩ = some (.int .i64 xc)) (first | assumption | go_keep) (((go_at_call 34; with_reducible refine (impl_SignOf.calls y (1) _ HR.out).mono ?_; rintro e w1 ⟨rfl, ⟨nd2, rfl⟩⟩)))
   have hT7 := Ak ((hT3.out.drewN (1 + nd2)).pc' xc)
   generalize (W3.drewN (1 + nd2)).setCell ⟨gm, 0, none⟩ (.int .i64 xc) = W6 at hT7 ⊢
   clear hT3 hT5 m0 m1 m2 f0 f1 y0 y1 y2 y3
   try clear s0 sf0
   try clear s1 sf1
   try clear s2 sf2
   try clear hT6
   try clear g0 g1 g2
   try clear g3 g4
   obtain ⟨m0, m1, m2, f0, f1, y0, y1, y2, y3⟩ := hT7.out.cells
   obtain ⟨iz, hiz, _, hsz, _⟩ := info_parts info3
   have hcap := (Kd.R_reads' hT7.out.s).2.1
   have hcut := cut_to (P := Try.prog) 23 3 .i64 Try.underlying23 hiz (some ⟨gs, 0, none⟩) st.length cs tp HP0.out (by have := HP1.out; omega) hcap
   have hTF := Ak (hT7.out.cut tp.toNat (by have := HP1.out; simp; omega))
   clear hiz hsz hcap
   go_wp2
   go_ret
   exact ⟨rfl, _, _, by rw [HQQ.out, show st.length - 1 = tp.toNat by have := htp.out; omega]; exact hTF.out.held⟩
end Go.Proofs.Ytlmiankjbffboaa.HFnBranched

/- Text for FnBranched: written by a program of this session on the pattern of the kit's print. -/
import Derived.Test.YtlmiankjbffboaaHFnBranchedxs4p0
import Derived.Test.YtlmiankjbffboaaHFnBranchedx0
import Derived.Test.YtlmiankjbffboaaHFnBranchedx1
import Derived.Test.YtlmiankjbffboaaHFnBranchedx2
import Derived.Test.YtlmiankjbffboaaHFnBranchedx3
namespace Go.Proofs.Ytlmiankjbffboaa.HFnBranched
set_option maxHeartbeats 8000000
set_option maxRecDepth 100000
open Go.RowKit Go.Proofs.YtlmiankjbffboaaW.PrintWords Go.Proofs.YtlmiankjbffboaaW.PrintLast Go.Proofs.YtlmiankjbffboaaW.PrintMore
attribute [local go_sem] max2_int min2_int max_two min_two max_three min_three max_four min_four
set_option linter.unusedVariables false
set_option linter.unusedSimpArgs false

def impl_step.T17 : Bool × List (List Nat × List Nat) := (true, [([], []), ([], []), ([1], [1]), ([2], [2]), ([3], [3]), ([], []), ([5], [5]), ([6], [6]), ([4, 7], [4, 7]), ([0, 0, 1, 2, 3, 4, 5, 6, 7, 8], [0]), ([9, 0, 1, 2, 3, 4, 5, 6, 7, 8], [9]), ([10, 8, 8, 0, 1, 2, 3, 4, 5, 6, 7, 8], [8, 10])])
def impl_step.B17 : List Nat := [0, 0, 2, 6, 14, 0, 32, 96, 254, 511, 1023, 2047]
theorem impl_step.tab17 : rtab .any (opsOf Try.f43 17) = impl_step.T17 := by kernel_rfl
theorem impl_step.bits17 : waitsOk impl_step.T17.2 impl_step.B17 = true := by kernel_rfl
set_option maxRecDepth 1000000 in
theorem impl_step.push (k : Nat) (ad0 : Addr) (c0 : Nat) (l : List S48) (gm : Nat) (pc : Int) (vs vc : Value) (st cl : List Int) (w0 w : World) (hC : Kd.C k48 w (some ad0) l.length l) (hH : impl_step.Held w0 w gm pc vs vc st cl) (h0 : 0 ≤ pc) (h1 : pc < l.length) (h2 : l.length ≤ 80) (h3 : st.length ≤ 20) (hc : (rd_T48 l pc).f0 = 1) (h4 : st.length < 20) :
  Calls Try.prog 43 #[.slice (some ad0) l.length c0, .pointer (some ⟨gm, 0, none⟩)] w fun e w' => e = .returned (.int .i64 0) ∧ ∃ vs' vc', impl_step.Held w0 w' gm (pc + 1) vs' vc' (st ++ [(rd_T48 l pc).f1]) cl := by
 obtain ⟨As, cs, rfl⟩ := Kd.R_slice hH.s
 obtain ⟨Ac, cc, rfl⟩ := Kd.R_slice hH.c
 have z0 : w.cell? ⟨gm, 0, none⟩ = some (.int .i64 pc) := (blk_cell hH.m 0).trans rfl
 have z1 : w.cell? ⟨gm, 1, none⟩ = some (.slice As st.length cs) := (blk_cell hH.m 1).trans rfl
 obtain ⟨ad, e, x0, x1, x2, x3⟩ := at_T48 hC pc h0 h1
 cases e
 have HH := Ak hH
 clear hH hC
 obtain ⟨xa, hxa⟩ : ∃ x, x = (rd_T48 l pc).f1 := ⟨_, rfl⟩
 obtain ⟨xb, hxb⟩ : ∃ x, x = (rd_T48 l pc).f2 := ⟨_, rfl⟩
 obtain ⟨xc, hxc⟩ : ∃ x, x = (rd_T48 l pc).f3 := ⟨_, rfl⟩
 rw [hc] at x0
 rw [← hxa] at x1
 rw [← hxb] at x2
 rw [← hxc] at x3
 replace hxa := Ak hxa
 replace hxb := Ak hxb
 replace hxc := Ak hxc
 clear hc
 have b1 : (pc == (l.length : Int)) = false := beq_eq_false_iff_ne.mpr (by omega)
 have b2 : decide (0 ≤ pc) = true := decide_eq_true h0
 have b3 : decide (pc < (l.length : Int)) = true := decide_eq_true h1
 have k0 := World.new_ne w ⟨gm, 0, none⟩ z0
 have k1 := World.new_ne w ⟨gm, 1, none⟩ z1
 have k2 := World.new_ne w _ x0
 obtain ⟨tp, htp⟩ : ∃ t : Int, t = (st.length : Int) - 1 := ⟨_, rfl⟩
 have wr : IntKind.i64.wrap ((st.length : Int) - 1) = tp := (i64_w _).trans (by rw [htp]; unfold wrap64; omega)
 replace htp := Ak htp
 go_enter Try.func43, Try.ntmps43
 go_upto_region 3 with fail
 go_region_held3 (fun w' => w'.cell? ⟨gm, 0, none⟩ = some (.int .i64 pc) ∧ w'.cell? ⟨gm, 1, none⟩ = some (.slice As st.length cs) ∧ w'.cell? (ad0.add (pc.toNat * 4)) = some (.int .i64 1) ∧ w'.cell? ⟨(ad0.add (pc.toNat * 4)).block, (ad0.add (pc.toNat * 4)).off + 1, none⟩ = some (.int .i64 xa) ∧ w'.cell? ⟨(ad0.add (pc.toNat * 4)).block, (ad0.add (pc.toNat * 4)).off + 2, none⟩ = some (.int .i64 xb) ∧ w'.cell? ⟨(ad0.add (pc.toNat * 4)).block, (ad0.add (pc.toNat * 4)).off + 3, none⟩ = some (.int .i64 xc)) (first | assumption | go_keep) (fail)
 have hT := Ak (impl_step.St.start (a := 1) (b := xa) (c := xb) (d := xc) HH.out w.heap.size rfl)
 generalize (w.alloc (.cells #[.int .i64 1, .int .i64 xa, .int .i64 xb, .int .i64 xc] 48)).drew = W at hT ⊢
 generalize w.heap.size = gx at hT ⊢
 clear k0 k1 k2 z0 z1 x0 x1 x2 x3 HH wr b1 b2 b3
 obtain ⟨m0, m1, m2, f0, f1, y0, y1, y2, y3⟩ := hT.out.cells
 have ne1 := hT.out.mx
 have ne2 := ne1.symm
 have HN := Ak (impl_step.need k).1
 have n1 : decide ((st.length : Int) < 0) = false := decide_eq_false (by omega)
 go_upto_region 6 with fail
 go_region_held3 (fun w' => w'.cell? ⟨gm, 1, none⟩ = some (.slice As st.length cs) ∧ w'.cell? ⟨gx, 0, none⟩ = some (.int .i64 1)) (first | assumption | go_keep) ((go_at_call 73; with_reducible refine (impl_needs.calls (k + 1) 1 0 _ HN.out).mono ?_; rintro e wn ⟨rfl, ⟨nd, rfl⟩⟩))
 have hT2 := Ak (hT.out.drewN (1 + nd))
 generalize W.drewN (1 + nd) = W2 at hT2 ⊢
 clear hT m0 m1 m2 f0 f1 y0 y1 y2 y3 ne1 ne2
 obtain ⟨m0, m1, m2, f0, f1, y0, y1, y2, y3⟩ := hT2.out.cells
 have ne1 := hT2.out.mx
 have ne2 := ne1.symm
 have n2 : ((st.length : Int) == 20) = false := beq_eq_false_iff_ne.mpr (by omega)
 go_upto_region 17 with (go_at_call 73; with_reducible refine (impl_needs.calls (k + 1) 1 0 _ HN.out).mono ?_; rintro e wn ⟨rfl, ⟨nd, rfl⟩⟩)
 have hT3 := Ak ((hT2.out.drewN nd).pc' (pc + 1))
 generalize (W2.drewN nd).setCell ⟨gm, 0, none⟩ (.int .i64 (pc + 1)) = W3 at hT3 ⊢
 clear hT2 m0 m1 m2 f0 f1 y0 y1 y2 y3 ne1 ne2
 obtain ⟨m0, m1, m2, f0, f1, y0, y1, y2, y3⟩ := hT3.out.cells
 have ne1 := hT3.out.mx
 have ne2 := ne1.symm
 have hT5 := Ak hT3.out.drew
 obtain ⟨yy, hyy⟩ : ∃ yy, yy = st ++ [xa] := ⟨_, rfl⟩
 replace hyy := Ak hyy
 obtain ⟨d0, d1, d2, _, _, _, d6, _⟩ := hT5.out.cells
 refine start_ (n := 12) (S := fun w' => w'.cell? ⟨gm, 1, none⟩ = some (.slice As st.length cs) ∧ w'.cell? ⟨gx, 1, none⟩ = some (.int .i64 xa)) (ds := [8, 11]) #[false, false, false, false, false, false, false, false, false, false, false, false] (by kernel_rfl) rfl rfl ⟨d1, d6⟩ (fun hHeld => ?_); refine with_tabW impl_step.tab17 impl_step.bits17 (fun HT_ HW_ => ?_)
 generalize W3.drew = W5 at hT5 d0 d1 d2 d6 hHeld ⊢
 refine Qq 0 (some 93) ?_
 refine Qq 1 (some 94) ?_
 refine Qq 2 (some 95) ?_
 refine Qq 3 (some 96) ?_
 refine Qq 5 (some 98) ?_
 refine Qr 4 (some 97) hHeld ?_
 refine Qr 6 (some 99) hHeld ?_
 refine Qs 7 (some 100) (fun K hK => ?_)
 refine value_ (w1 := ?_) (v := ?_) (by rfl) rfl ?_ ?_
 rotate_left 2
 ·go_simp
  constructor
  ·rfl
  ·rfl
 refine hK.out _ _ ⟨(World.cell?_alloc_lt _ _ _ (World.block_lt_of_cell? _ _ (hHeld.1))).trans (hHeld.1), (World.cell?_alloc_lt _ _ _ (World.block_lt_of_cell? _ _ (hHeld.2))).trans (hHeld.2)⟩ (fun hHeld => ?_)
 clear hK K
 refine norm_ (a' := ?_) ?_ ?_
 rotate_left
 ·show Act.put _ (some 100) _ = _
  simp only [Act.put, List.setIfInBounds_toArray, List.set_cons_zero, List.set_cons_succ, i64_w, i32_w]
  rfl
 refine Qt 8 (some 101) (fun K hK => ?_)
 refine impl_step.app (w0 := w0) (p := xa) (by rfl) (.tmp 97) (.tmp 100) 23 (by rfl) rfl Try.underlying23 info3 (.slice As st.length cs) st (fun k_ => some k_ ≠ (Value.slice Ac cl.length cc).ownBlock) (by rfl) (by rfl) hT5.out.fresh hT5.out.s hT5.out.b (by omega) ?_
 intro v1 w2 hR1 hB1 hG1 hA1
 rw [← hyy.out] at hR1
 obtain ⟨A1, c1, rfl⟩ := Kd.R_slice hR1
 have hG := hT5.out.grown hR1 hB1 hG1 hA1
 obtain ⟨⟨g1, g2⟩, g3, g4, hT6⟩ := hG
 replace hT6 := Ak hT6
 clear hR1 hB1 hG1 hA1
 refine hK.out _ _ ?_
 clear hK K
 refine norm_ (a' := ?_) ?_ ?_
 rotate_left
 ·show Act.put _ (some 101) _ = _
  simp only [Act.put, List.setIfInBounds_toArray, List.set_cons_zero, List.set_cons_succ, i64_w, i32_w]
  rfl
 refine Qq 9 (some 102) ?_
 refine Qq 10 (some 103) ?_
 refine Qt 11 none (fun K hK => ?_)
 refine skip_ (w1 := ?_) (by rfl) rfl ?_ ?_
 rotate_left
 ·go_simp
  rfl
 refine hK.out _ _ ?_
 clear hK K
 refine done_ (done_of HT_.out (by kernel_rfl)) ?_
 generalize w2.setCell ⟨gm, 1, none⟩ (.slice A1 yy.length c1) = W6 at hT6 ⊢
 have hT7 := hT6
 clear hHeld hT3 hT5 hT6 g1 g2 g3 g4 m0 m1 m2 f0 f1 y0 y1 y2 y3 d0 d1 d2 d6
 try clear s0 sf0
 try clear s1 sf1
 try clear s2 sf2
 try clear hT6
 try clear g0 g1 g2
 try clear g3 g4
 obtain ⟨m0, m1, m2, f0, f1, y0, y1, y2, y3⟩ := hT7.out.cells
 have hTF := hT7
 go_wp2
 go_ret
 exact ⟨rfl, _, _, by rw [← hxa.out, ← hyy.out]; exact hTF.out.held⟩
set_option maxRecDepth 1000000 in
theorem impl_step.copy (k : Nat) (ad0 : Addr) (c0 : Nat) (l : List S48) (gm : Nat) (pc : Int) (vs vc : Value) (st cl : List Int) (w0 w : World) (hC : Kd.C k48 w (some ad0) l.length l) (hH : impl_step.Held w0 w gm pc vs vc st cl) (h0 : 0 ≤ pc) (h1 : pc < l.length) (h2 : l.length ≤ 80) (h3 : st.length ≤ 20) (hc : (rd_T48 l pc).f0 = 7) (h4 : 1 ≤ st.length) (h5 : st.length < 20) :
  Calls Try.prog 43 #[.slice (some ad0) l.length c0, .pointer (some ⟨gm, 0, none⟩)] w fun e w' => e = .returned (.int .i64 0) ∧ ∃ vs' vc', impl_step.Held w0 w' gm (pc + 1) vs' vc' (st ++ [rd st ((st.length : Int) - 1)]) cl := by
 obtain ⟨gs, cs, rfl, hgs, _, _⟩ := Kd.R_form hH.s (by omega)
 clear hgs
 obtain ⟨Ac, cc, rfl⟩ := Kd.R_slice hH.c
 have z0 : w.cell? ⟨gm, 0, none⟩ = some (.int .i64 pc) := (blk_cell hH.m 0).trans rfl
 have z1 : w.cell? ⟨gm, 1, none⟩ = some (.slice (some ⟨gs, 0, none⟩) st.length cs) := (blk_cell hH.m 1).trans rfl
 obtain ⟨ad, e, x0, x1, x2, x3⟩ := at_T48 hC pc h0 h1
 cases e
 have HH := Ak hH
 clear hH hC
 obtain ⟨xa, hxa⟩ : ∃ x, x = (rd_T48 l pc).f1 := ⟨_, rfl⟩
 obtain ⟨xb, hxb⟩ : ∃ x, x = (rd_T48 l pc).f2 := ⟨_, rfl⟩
 obtain ⟨xc, hxc⟩ : ∃ x, x = (rd_T48 l pc).f3 := ⟨_, rfl⟩
 rw [hc] at x0
 rw [← hxa] at x1
 rw [← hxb] at x2
 rw [← hxc] at x3
 replace hxa := Ak hxa
 replace hxb := Ak hxb
 replace hxc := Ak hxc
 clear hc
 have b1 : (pc == (l.length : Int)) = false := beq_eq_false_iff_ne.mpr (by omega)
 have b2 : decide (0 ≤ pc) = true := decide_eq_true h0
 have b3 : decide (pc < (l.length : Int)) = true := decide_eq_true h1
 have k0 := World.new_ne w ⟨gm, 0, none⟩ z0
 have k1 := World.new_ne w ⟨gm, 1, none⟩ z1
 have k2 := World.new_ne w _ x0
 obtain ⟨tp, htp⟩ : ∃ t : Int, t = (st.length : Int) - 1 := ⟨_, rfl⟩
 have wr : IntKind.i64.wrap ((st.length : Int) - 1) = tp := (i64_w _).trans (by rw [htp]; unfold wrap64; omega)
 have hp0 : 0 ≤ tp := by omega
 have hp1 : tp < st.length := by omega
 have p0 : (0 ≤ tp) = True := eq_true hp0
 have p1 : (tp < (st.length : Int)) = True := eq_true hp1
 have HP0 := Ak hp0
 have HP1 := Ak hp1
 clear hp0 hp1
 replace htp := Ak htp
 go_enter Try.func43, Try.ntmps43
 go_upto_region 3 with fail
 go_region_held3 (fun w' => w'.cell? ⟨gm, 0, none⟩ = some (.int .i64 pc) ∧ w'.cell? ⟨gm, 1, none⟩ = some (.slice (some ⟨gs, 0, none⟩) st.length cs) ∧ w'.cell? (ad0.add (pc.toNat * 4)) = some (.int .i64 7) ∧ w'.cell? ⟨(ad0.add (pc.toNat * 4)).block, (ad0.add (pc.toNat * 4)).off + 1, none⟩ = some (.int .i64 xa) ∧ w'.cell? ⟨(ad0.add (pc.toNat * 4)).block, (ad0.add (pc.toNat * 4)).off + 2, none⟩ = some (.int .i64 xb) ∧ w'.cell? ⟨(ad0.add (pc.toNat * 4)).block, (ad0.add (pc.toNat * 4)).off + 3, none⟩ = some (.int .i64 xc)) (first | assumption | go_keep) (fail)
 have hT := Ak (impl_step.St.start (a := 7) (b := xa) (c := xb) (d := xc) HH.out w.heap.size rfl)
 generalize (w.alloc (.cells #[.int .i64 7, .int .i64 xa, .int .i64 xb, .int .i64 xc] 48)).drew = W at hT ⊢
 generalize w.heap.size = gx at hT ⊢
 clear k0 k1 k2 z0 z1 x0 x1 x2 x3 HH wr b1 b2 b3
 obtain ⟨m0, m1, m2, f0, f1, y0, y1, y2, y3⟩ := hT.out.cells
 have ne1 := hT.out.mx
 have ne2 := ne1.symm
 have HN := Ak (impl_step.need k).2.2.2.2.2.2.1
 have n1 : decide ((st.length : Int) < 1) = false := decide_eq_false (by omega)
 go_upto_region 6 with fail
 go_region_held3 (fun w' => w'.cell? ⟨gm, 1, none⟩ = some (.slice (some ⟨gs, 0, none⟩) st.length cs) ∧ w'.cell? ⟨gx, 0, none⟩ = some (.int .i64 7)) (first | assumption | go_keep) ((go_at_call 73; with_reducible refine (impl_needs.calls (k + 1) 7 1 _ HN.out).mono ?_; rintro e wn ⟨rfl, ⟨nd, rfl⟩⟩))
 have hT2 := Ak (hT.out.drewN (1 + nd))
 generalize W.drewN (1 + nd) = W2 at hT2 ⊢
 clear hT m0 m1 m2 f0 f1 y0 y1 y2 y3 ne1 ne2
 obtain ⟨m0, m1, m2, f0, f1, y0, y1, y2, y3⟩ := hT2.out.cells
 have ne1 := hT2.out.mx
 have ne2 := ne1.symm
 obtain ⟨s0, sf0⟩ := hT2.out.at tp HP0.out HP1.out
 obtain ⟨y, hy⟩ : ∃ y, y = rd st tp := ⟨_, rfl⟩
 rw [← hy] at s0
 replace hy := Ak hy
 have n2 : ((st.length : Int) == 20) = false := beq_eq_false_iff_ne.mpr (by omega)
 go_upto_region 29 with (go_at_call 73; with_reducible refine (impl_needs.calls (k + 1) 7 1 _ HN.out).mono ?_; rintro e wn ⟨rfl, ⟨nd, rfl⟩⟩)
 have hT3 := Ak ((hT2.out.drewN nd).pc' (pc + 1))
 generalize (W2.drewN nd).setCell ⟨gm, 0, none⟩ (.int .i64 (pc + 1)) = W3 at hT3 ⊢
 clear hT2 m0 m1 m2 f0 f1 y0 y1 y2 y3 ne1 ne2
 obtain ⟨m0, m1, m2, f0, f1, y0, y1, y2, y3⟩ := hT3.out.cells
 have ne1 := hT3.out.mx
 have ne2 := ne1.symm
 clear s0 sf0
 obtain ⟨s0, sf0⟩ := hT3.out.at tp HP0.out HP1.out
 rw [← hy.out] at s0
 obtain ⟨⟨ne3, ne4⟩, ne5, ne6⟩ := hT3.out.ns
 have hT5 := Ak hT3.out.drew
 obtain ⟨yy, hyy⟩ : ∃ yy, yy = st ++ [y] := ⟨_, rfl⟩
 replace hyy := Ak hyy
 go_upto_region 30 with ((with_reducible refine gate_builtin (b := .append) (xs := #[.tmp 190, .tmp 192]) rfl ?_); at_builtin; refine Kd.R_append (Kd.int .i64) (w0 := w0) w0.heap.size rfl (.tmp 190) (.tmp 192) 23 3 (.int .i64 0) 8 rfl Try.underlying23 info3 rfl (by decide) (by omega) (.slice (some ⟨gs, 0, none⟩) st.length cs) st y [.int .i64 y] (fun k_ => some k_ ≠ (Value.slice Ac cl.length cc).ownBlock) (fun _ => False) rfl rfl ?aP (fun _ hk => hk.elim) ?aF ?aO ?aB ?aS ?aL ?_; (case aP => exact rfl); (case aB => exact hT3.out.b); (case aF => exact hT3.out.fresh); (case aO => exact hT3.out.s); (case aS => exact hT3.out.b.size); (case aL => omega); intro v1 w2 hR1 hB1 hG1 hA1; rw [← hyy.out] at hR1; obtain ⟨A1, c1, rfl⟩ := Kd.R_slice hR1; have hG := hT3.out.grown hR1 hB1 hG1 hA1; obtain ⟨⟨g1, g2⟩, g3, g4, hT6⟩ := hG; replace hT6 := Ak hT6; clear hR1 hB1 hG1 hA1)
 generalize w2.setCell ⟨gm, 1, none⟩ (.slice A1 yy.length c1) = W6 at hT6 ⊢
 have hT7 := hT6
 clear hT3 hT5 hT6 g1 g2 g3 g4 m0 m1 m2 f0 f1 y0 y1 y2 y3
 try clear s0 sf0
 try clear s1 sf1
 try clear s2 sf2
 try clear hT6
 try clear g0 g1 g2
 try clear g3 g4
 obtain ⟨m0, m1, m2, f0, f1, y0, y1, y2, y3⟩ := hT7.out.cells
 have hTF := hT7
 go_wp2
 go_ret
 exact ⟨rfl, _, _, by rw [← htp.out, ← hy.out, ← hyy.out]; exact hTF.out.held⟩
set_option maxRecDepth 1000000 in
theorem impl_step.negate (k : Nat) (ad0 : Addr) (c0 : Nat) (l : List S48) (gm : Nat) (pc : Int) (vs vc : Value) (st cl : List Int) (w0 w : World) (hC : Kd.C k48 w (some ad0) l.length l) (hH : impl_step.Held w0 w gm pc vs vc st cl) (h0 : 0 ≤ pc) (h1 : pc < l.length) (h2 : l.length ≤ 80) (h3 : st.length ≤ 20) (hc : (rd_T48 l pc).f0 = 5) (h4 : 1 ≤ st.length) :
  Calls Try.prog 43 #[.slice (some ad0) l.length c0, .pointer (some ⟨gm, 0, none⟩)] w fun e w' => e = .returned (.int .i64 0) ∧ ∃ vs' vc', impl_step.Held w0 w' gm (pc + 1) vs' vc' (st.set (st.length - 1) (wrap64 (-(rd st ((st.length : Int) - 1))))) cl := by
 obtain ⟨gs, cs, rfl, hgs, _, _⟩ := Kd.R_form hH.s (by omega)
 clear hgs
 obtain ⟨Ac, cc, rfl⟩ := Kd.R_slice hH.c
 have z0 : w.cell? ⟨gm, 0, none⟩ = some (.int .i64 pc) := (blk_cell hH.m 0).trans rfl
 have z1 : w.cell? ⟨gm, 1, none⟩ = some (.slice (some ⟨gs, 0, none⟩) st.length cs) := (blk_cell hH.m 1).trans rfl
 obtain ⟨ad, e, x0, x1, x2, x3⟩ := at_T48 hC pc h0 h1
 cases e
 have HH := Ak hH
 clear hH hC
 obtain ⟨xa, hxa⟩ : ∃ x, x = (rd_T48 l pc).f1 := ⟨_, rfl⟩
 obtain ⟨xb, hxb⟩ : ∃ x, x = (rd_T48 l pc).f2 := ⟨_, rfl⟩
 obtain ⟨xc, hxc⟩ : ∃ x, x = (rd_T48 l pc).f3 := ⟨_, rfl⟩
 rw [hc] at x0
 rw [← hxa] at x1
 rw [← hxb] at x2
 rw [← hxc] at x3
 replace hxa := Ak hxa
 replace hxb := Ak hxb
 replace hxc := Ak hxc
 clear hc
 have b1 : (pc == (l.length : Int)) = false := beq_eq_false_iff_ne.mpr (by omega)
 have b2 : decide (0 ≤ pc) = true := decide_eq_true h0
 have b3 : decide (pc < (l.length : Int)) = true := decide_eq_true h1
 have k0 := World.new_ne w ⟨gm, 0, none⟩ z0
 have k1 := World.new_ne w ⟨gm, 1, none⟩ z1
 have k2 := World.new_ne w _ x0
 obtain ⟨tp, htp⟩ : ∃ t : Int, t = (st.length : Int) - 1 := ⟨_, rfl⟩
 have wr : IntKind.i64.wrap ((st.length : Int) - 1) = tp := (i64_w _).trans (by rw [htp]; unfold wrap64; omega)
 have hp0 : 0 ≤ tp := by omega
 have hp1 : tp < st.length := by omega
 have p0 : (0 ≤ tp) = True := eq_true hp0
 have p1 : (tp < (st.length : Int)) = True := eq_true hp1
 have HP0 := Ak hp0
 have HP1 := Ak hp1
 clear hp0 hp1
 replace htp := Ak htp
 go_enter Try.func43, Try.ntmps43
 go_upto_region 3 with fail
 go_region_held3 (fun w' => w'.cell? ⟨gm, 0, none⟩ = some (.int .i64 pc) ∧ w'.cell? ⟨gm, 1, none⟩ = some (.slice (some ⟨gs, 0, none⟩) st.length cs) ∧ w'.cell? (ad0.add (pc.toNat * 4)) = some (.int .i64 5) ∧ w'.cell? ⟨(ad0.add (pc.toNat * 4)).block, (ad0.add (pc.toNat * 4)).off + 1, none⟩ = some (.int .i64 xa) ∧ w'.cell? ⟨(ad0.add (pc.toNat * 4)).block, (ad0.add (pc.toNat * 4)).off + 2, none⟩ = some (.int .i64 xb) ∧ w'.cell? ⟨(ad0.add (pc.toNat * 4)).block, (ad0.add (pc.toNat * 4)).off + 3, none⟩ = some (.int .i64 xc)) (first | assumption | go_keep) (fail)
 have hT := Ak (impl_step.St.start (a := 5) (b := xa) (c := xb) (d := xc) HH.out w.heap.size rfl)
 generalize (w.alloc (.cells #[.int .i64 5, .int .i64 xa, .int .i64 xb, .int .i64 xc] 48)).drew = W at hT ⊢
 generalize w.heap.size = gx at hT ⊢
 clear k0 k1 k2 z0 z1 x0 x1 x2 x3 HH wr b1 b2 b3
 obtain ⟨m0, m1, m2, f0, f1, y0, y1, y2, y3⟩ := hT.out.cells
 have ne1 := hT.out.mx
 have ne2 := ne1.symm
 have HN := Ak (impl_step.need k).2.2.2.2.1
 have n1 : decide ((st.length : Int) < 1) = false := decide_eq_false (by omega)
 go_upto_region 6 with fail
 go_region_held3 (fun w' => w'.cell? ⟨gm, 1, none⟩ = some (.slice (some ⟨gs, 0, none⟩) st.length cs) ∧ w'.cell? ⟨gx, 0, none⟩ = some (.int .i64 5)) (first | assumption | go_keep) ((go_at_call 73; with_reducible refine (impl_needs.calls (k + 1) 5 1 _ HN.out).mono ?_; rintro e wn ⟨rfl, ⟨nd, rfl⟩⟩))
 have hT2 := Ak (hT.out.drewN (1 + nd))
 generalize W.drewN (1 + nd) = W2 at hT2 ⊢
 clear hT m0 m1 m2 f0 f1 y0 y1 y2 y3 ne1 ne2
 obtain ⟨m0, m1, m2, f0, f1, y0, y1, y2, y3⟩ := hT2.out.cells
 have ne1 := hT2.out.mx
 have ne2 := ne1.symm
 obtain ⟨s0, sf0⟩ := hT2.out.at tp HP0.out HP1.out
 obtain ⟨y, hy⟩ : ∃ y, y = rd st tp := ⟨_, rfl⟩
 rw [← hy] at s0
 replace hy := Ak hy
 rcases n2 : ((st.length : Int) == 20) with _ | _
 all_goals
  go_upto_region 25 with (go_at_call 73; with_reducible refine (impl_needs.calls (k + 1) 5 1 _ HN.out).mono ?_; rintro e wn ⟨rfl, ⟨nd, rfl⟩⟩)
  have hT3 := Ak ((hT2.out.drewN nd).pc' (pc + 1))
  generalize (W2.drewN nd).setCell ⟨gm, 0, none⟩ (.int .i64 (pc + 1)) = W3 at hT3 ⊢
  clear hT2 m0 m1 m2 f0 f1 y0 y1 y2 y3 ne1 ne2
  obtain ⟨m0, m1, m2, f0, f1, y0, y1, y2, y3⟩ := hT3.out.cells
  have ne1 := hT3.out.mx
  have ne2 := ne1.symm
  clear s0 sf0
  obtain ⟨s0, sf0⟩ := hT3.out.at tp HP0.out HP1.out
  rw [← hy.out] at s0
  obtain ⟨⟨ne3, ne4⟩, ne5, ne6⟩ := hT3.out.ns
  have hT5 := Ak hT3.out.drew
  obtain ⟨v, hv⟩ : ∃ v, v = wrap64 (-y) := ⟨_, rfl⟩
  have hwv : IntKind.i64.wrap (-y) = v := (i64_w _).trans hv.symm
  replace hv := Ak hv
  go_upto_region 26 with fail
  have hT7 := Ak (hT3.out.put tp v)
  generalize W3.setCell ⟨gs, tp.toNat, none⟩ (.int .i64 v) = W6 at hT7 ⊢
  clear hT3 hT5 m0 m1 m2 f0 f1 y0 y1 y2 y3
  try clear s0 sf0
  try clear s1 sf1
  try clear s2 sf2
  try clear hT6
  try clear g0 g1 g2
  try clear g3 g4
  obtain ⟨m0, m1, m2, f0, f1, y0, y1, y2, y3⟩ := hT7.out.cells
  have hTF := hT7
  go_wp2
  go_ret
  exact ⟨rfl, _, _, by rw [show st.length - 1 = tp.toNat by have := htp.out; omega, ← htp.out, ← hy.out, ← hv.out]; exact hTF.out.held⟩
set_option maxRecDepth 1000000 in
theorem impl_step.sign (k : Nat) (ad0 : Addr) (c0 : Nat) (l : List S48) (gm : Nat) (pc : Int) (vs vc : Value) (st cl : List Int) (w0 w : World) (hC : Kd.C k48 w (some ad0) l.length l) (hH : impl_step.Held w0 w gm pc vs vc st cl) (h0 : 0 ≤ pc) (h1 : pc < l.length) (h2 : l.length ≤ 80) (h3 : st.length ≤ 20) (hc : (rd_T48 l pc).f0 = 6) (h4 : 1 ≤ st.length) (r : Int) (hr : impl_SignOf.f (rd st ((st.length : Int) - 1)) = some r) :
  Calls Try.prog 43 #[.slice (some ad0) l.length c0, .pointer (some ⟨gm, 0, none⟩)] w fun e w' => e = .returned (.int .i64 0) ∧ ∃ vs' vc', impl_step.Held w0 w' gm (pc + 1) vs' vc' (st.set (st.length - 1) r) cl := by
 obtain ⟨gs, cs, rfl, hgs, _, _⟩ := Kd.R_form hH.s (by omega)
 clear hgs
 obtain ⟨Ac, cc, rfl⟩ := Kd.R_slice hH.c
 have z0 : w.cell? ⟨gm, 0, none⟩ = some (.int .i64 pc) := (blk_cell hH.m 0).trans rfl
 have z1 : w.cell? ⟨gm, 1, none⟩ = some (.slice (some ⟨gs, 0, none⟩) st.length cs) := (blk_cell hH.m 1).trans rfl
 obtain ⟨ad, e, x0, x1, x2, x3⟩ := at_T48 hC pc h0 h1
 cases e
 have HH := Ak hH
 clear hH hC
 obtain ⟨xa, hxa⟩ : ∃ x, x = (rd_T48 l pc).f1 := ⟨_, rfl⟩
 obtain ⟨xb, hxb⟩ : ∃ x, x = (rd_T48 l pc).f2 := ⟨_, rfl⟩
 obtain ⟨xc, hxc⟩ : ∃ x, x = (rd_T48 l pc).f3 := ⟨_, rfl⟩
 rw [hc] at x0
 rw [← hxa] at x1
 rw [← hxb] at x2
 rw [← hxc] at x3
 replace hxa := Ak hxa
 replace hxb := Ak hxb
 replace hxc := Ak hxc
 clear hc
 have b1 : (pc == (l.length : Int)) = false := beq_eq_false_iff_ne.mpr (by omega)
 have b2 : decide (0 ≤ pc) = true := decide_eq_true h0
 have b3 : decide (pc < (l.length : Int)) = true := decide_eq_true h1
 have k0 := World.new_ne w ⟨gm, 0, none⟩ z0
 have k1 := World.new_ne w ⟨gm, 1, none⟩ z1
 have k2 := World.new_ne w _ x0
 obtain ⟨tp, htp⟩ : ∃ t : Int, t = (st.length : Int) - 1 := ⟨_, rfl⟩
 have wr : IntKind.i64.wrap ((st.length : Int) - 1) = tp := (i64_w _).trans (by rw [htp]; unfold wrap64; omega)
 have hp0 : 0 ≤ tp := by omega
 have hp1 : tp < st.length := by omega
 have p0 : (0 ≤ tp) = True := eq_true hp0
 have p1 : (tp < (st.length : Int)) = True := eq_true hp1
 have HP0 := Ak hp0
 have HP1 := Ak hp1
 clear hp0 hp1
 replace htp := Ak htp
 go_enter Try.func43, Try.ntmps43
 go_upto_region 3 with fail
 go_region_held3 (fun w' => w'.cell? ⟨gm, 0, none⟩ = some (.int .i64 pc) ∧ w'.cell? ⟨gm, 1, none⟩ = some (.slice (some ⟨gs, 0, none⟩) st.length cs) ∧ w'.cell? (ad0.add (pc.toNat * 4)) = some (.int .i64 6) ∧ w'.cell? ⟨(ad0.add (pc.toNat * 4)).block, (ad0.add (pc.toNat * 4)).off + 1, none⟩ = some (.int .i64 xa) ∧ w'.cell? ⟨(ad0.add (pc.toNat * 4)).block, (ad0.add (pc.toNat * 4)).off + 2, none⟩ = some (.int .i64 xb) ∧ w'.cell? ⟨(ad0.add (pc.toNat * 4)).block, (ad0.add (pc.toNat * 4)).off + 3, none⟩ = some (.int .i64 xc)) (first | assumption | go_keep) (fail)
 have hT := Ak (impl_step.St.start (a := 6) (b := xa) (c := xb) (d := xc) HH.out w.heap.size rfl)
 generalize (w.alloc (.cells #[.int .i64 6, .int .i64 xa, .int .i64 xb, .int .i64 xc] 48)).drew = W at hT ⊢
 generalize w.heap.size = gx at hT ⊢
 clear k0 k1 k2 z0 z1 x0 x1 x2 x3 HH wr b1 b2 b3
 obtain ⟨m0, m1, m2, f0, f1, y0, y1, y2, y3⟩ := hT.out.cells
 have ne1 := hT.out.mx
 have ne2 := ne1.symm
 have HN := Ak (impl_step.need k).2.2.2.2.2.1
 have n1 : decide ((st.length : Int) < 1) = false := decide_eq_false (by omega)
 go_upto_region 6 with fail
 go_region_held3 (fun w' => w'.cell? ⟨gm, 1, none⟩ = some (.slice (some ⟨gs, 0, none⟩) st.length cs) ∧ w'.cell? ⟨gx, 0, none⟩ = some (.int .i64 6)) (first | assumption | go_keep) ((go_at_call 73; with_reducible refine (impl_needs.calls (k + 1) 6 1 _ HN.out).mono ?_; rintro e wn ⟨rfl, ⟨nd, rfl⟩⟩))
 have hT2 := Ak (hT.out.drewN (1 + nd))
 generalize W.drewN (1 + nd) = W2 at hT2 ⊢
 clear hT m0 m1 m2 f0 f1 y0 y1 y2 y3 ne1 ne2
 obtain ⟨m0, m1, m2, f0, f1, y0, y1, y2, y3⟩ := hT2.out.cells
 have ne1 := hT2.out.mx
 have ne2 := ne1.symm
 obtain ⟨s0, sf0⟩ := hT2.out.at tp HP0.out HP1.out
 obtain ⟨y, hy⟩ : ∃ y, y = rd st tp := ⟨_, rfl⟩
 rw [← hy] at s0
 replace hy := Ak hy
 rcases n2 : ((st.length : Int) == 20) with _ | _
 all_goals
  go_upto_region 27 with (go_at_call 73; with_reducible refine (impl_needs.calls (k + 1) 6 1 _ HN.out).mono ?_; rintro e wn ⟨rfl, ⟨nd, rfl⟩⟩)
  have hT3 := Ak ((hT2.out.drewN nd).pc' (pc + 1))
  generalize (W2.drewN nd).setCell ⟨gm, 0, none⟩ (.int .i64 (pc + 1)) = W3 at hT3 ⊢
  clear hT2 m0 m1 m2 f0 f1 y0 y1 y2 y3 ne1 ne2
  obtain ⟨m0, m1, m2, f0, f1, y0, y1, y2, y3⟩ := hT3.out.cells
  have ne1 := hT3.out.mx
  have ne2 := ne1.symm
  clear s0 sf0
  obtain ⟨s0, sf0⟩ := hT3.out.at tp HP0.out HP1.out
  rw [← hy.out] at s0
  obtain ⟨⟨ne3, ne4⟩, ne5, ne6⟩ := hT3.out.ns
  have hT5 := Ak hT3.out.drew
  have HR : Aside0 (impl_SignOf.f y = some r) := ⟨by rw [hy.out, htp.out]; exact hr⟩
  go_region_held3 (fun w' => w'.cell? ⟨gm, 1, none⟩ = some (.slice (some ⟨gs, 0, none⟩) st.length cs)) (first | assumption | go_keep) (((go_at_call 34; with_reducible refine (impl_SignOf.calls y r _ HR.out).mono ?_; rintro e w1 ⟨rfl, ⟨nd2, rfl⟩⟩)))
  have hT7 := Ak ((hT3.out.drewN (1 + nd2)).put tp r)
  generalize (W3.drewN (1 + nd2)).setCell ⟨gs, tp.toNat, none⟩ (.int .i64 r) = W6 at hT7 ⊢
  clear hT3 hT5 m0 m1 m2 f0 f1 y0 y1 y2 y3
  try clear s0 sf0
  try clear s1 sf1
  try clear s2 sf2
  try clear hT6
  try clear g0 g1 g2
  try clear g3 g4
  obtain ⟨m0, m1, m2, f0, f1, y0, y1, y2, y3⟩ := hT7.out.cells
  have hTF := hT7
  go_wp2
  go_ret
  exact ⟨rfl, _, _, by rw [show st.length - 1 = tp.toNat by have := htp.out; omega]; exact hTF.out.held⟩
set_option maxRecDepth 1000000 in
theorem impl_step.jump (k : Nat) (ad0 : Addr) (c0 : Nat) (l : List S48) (gm : Nat) (pc : Int) (vs vc : Value) (st cl : List Int) (w0 w : World) (hC : Kd.C k48 w (some ad0) l.length l) (hH : impl_step.Held w0 w gm pc vs vc st cl) (h0 : 0 ≤ pc) (h1 : pc < l.length) (h2 : l.length ≤ 80) (h3 : st.length ≤ 20) (hc : (rd_T48 l pc).f0 = 13) :
  Calls Try.prog 43 #[.slice (some ad0) l.length c0, .pointer (some ⟨gm, 0, none⟩)] w fun e w' => e = .returned (.int .i64 0) ∧ ∃ vs' vc', impl_step.Held w0 w' gm (rd_T48 l pc).f1 vs' vc' st cl := by
 obtain ⟨As, cs, rfl⟩ := Kd.R_slice hH.s
 obtain ⟨Ac, cc, rfl⟩ := Kd.R_slice hH.c
 have z0 : w.cell? ⟨gm, 0, none⟩ = some (.int .i64 pc) := (blk_cell hH.m 0).trans rfl
 have z1 : w.cell? ⟨gm, 1, none⟩ = some (.slice As st.length cs) := (blk_cell hH.m 1).trans rfl
 obtain ⟨ad, e, x0, x1, x2, x3⟩ := at_T48 hC pc h0 h1
 cases e
 have HH := Ak hH
 clear hH hC
 obtain ⟨xa, hxa⟩ : ∃ x, x = (rd_T48 l pc).f1 := ⟨_, rfl⟩
 obtain ⟨xb, hxb⟩ : ∃ x, x = (rd_T48 l pc).f2 := ⟨_, rfl⟩
 obtain ⟨xc, hxc⟩ : ∃ x, x = (rd_T48 l pc).f3 := ⟨_, rfl⟩
 rw [hc] at x0
 rw [← hxa] at x1
 rw [← hxb] at x2
 rw [← hxc] at x3
 replace hxa := Ak hxa
 replace hxb := Ak hxb
 replace hxc := Ak hxc
 clear hc
 have b1 : (pc == (l.length : Int)) = false := beq_eq_false_iff_ne.mpr (by omega)
 have b2 : decide (0 ≤ pc) = true := decide_eq_true h0
 have b3 : decide (pc < (l.length : Int)) = true := decide_eq_true h1
 have k0 := World.new_ne w ⟨gm, 0, none⟩ z0
 have k1 := World.new_ne w ⟨gm, 1, none⟩ z1
 have k2 := World.new_ne w _ x0
 obtain ⟨tp, htp⟩ : ∃ t : Int, t = (st.length : Int) - 1 := ⟨_, rfl⟩
 have wr : IntKind.i64.wrap ((st.length : Int) - 1) = tp := (i64_w _).trans (by rw [htp]; unfold wrap64; omega)
 replace htp := Ak htp
 go_enter Try.func43, Try.ntmps43
 go_upto_region 3 with fail
 go_region_held3 (fun w' => w'.cell? ⟨gm, 0, none⟩ = some (.int .i64 pc) ∧ w'.cell? ⟨gm, 1, none⟩ = some (.slice As st.length cs) ∧ w'.cell? (ad0.add (pc.toNat * 4)) = some (.int .i64 13) ∧ w'.cell? ⟨(ad0.add (pc.toNat * 4)).block, (ad0.add (pc.toNat * 4)).off + 1, none⟩ = some (.int .i64 xa) ∧ w'.cell? ⟨(ad0.add (pc.toNat * 4)).block, (ad0.add (pc.toNat * 4)).off + 2, none⟩ = some (.int .i64 xb) ∧ w'.cell? ⟨(ad0.add (pc.toNat * 4)).block, (ad0.add (pc.toNat * 4)).off + 3, none⟩ = some (.int .i64 xc)) (first | assumption | go_keep) (fail)
 have hT := Ak (impl_step.St.start (a := 13) (b := xa) (c := xb) (d := xc) HH.out w.heap.size rfl)
 generalize (w.alloc (.cells #[.int .i64 13, .int .i64 xa, .int .i64 xb, .int .i64 xc] 48)).drew = W at hT ⊢
 generalize w.heap.size = gx at hT ⊢
 clear k0 k1 k2 z0 z1 x0 x1 x2 x3 HH wr b1 b2 b3
 obtain ⟨m0, m1, m2, f0, f1, y0, y1, y2, y3⟩ := hT.out.cells
 have ne1 := hT.out.mx
 have ne2 := ne1.symm
 have HN := Ak (impl_step.need k).2.2.2.2.2.2.2.2.2.2.2.2.1
 have n1 : decide ((st.length : Int) < 0) = false := decide_eq_false (by omega)
 go_upto_region 6 with fail
 go_region_held3 (fun w' => w'.cell? ⟨gm, 1, none⟩ = some (.slice As st.length cs) ∧ w'.cell? ⟨gx, 0, none⟩ = some (.int .i64 13)) (first | assumption | go_keep) ((go_at_call 73; with_reducible refine (impl_needs.calls (k + 1) 13 0 _ HN.out).mono ?_; rintro e wn ⟨rfl, ⟨nd, rfl⟩⟩))
 have hT2 := Ak (hT.out.drewN (1 + nd))
 generalize W.drewN (1 + nd) = W2 at hT2 ⊢
 clear hT m0 m1 m2 f0 f1 y0 y1 y2 y3 ne1 ne2
 obtain ⟨m0, m1, m2, f0, f1, y0, y1, y2, y3⟩ := hT2.out.cells
 have ne1 := hT2.out.mx
 have ne2 := ne1.symm
 rcases n2 : ((st.length : Int) == 20) with _ | _
 all_goals
  go_upto_region 39 with (go_at_call 73; with_reducible refine (impl_needs.calls (k + 1) 13 0 _ HN.out).mono ?_; rintro e wn ⟨rfl, ⟨nd, rfl⟩⟩)
  have hT3 := Ak ((hT2.out.drewN nd).pc' (pc + 1))
  generalize (W2.drewN nd).setCell ⟨gm, 0, none⟩ (.int .i64 (pc + 1)) = W3 at hT3 ⊢
  clear hT2 m0 m1 m2 f0 f1 y0 y1 y2 y3 ne1 ne2
  obtain ⟨m0, m1, m2, f0, f1, y0, y1, y2, y3⟩ := hT3.out.cells
  have ne1 := hT3.out.mx
  have ne2 := ne1.symm
  have hT5 := Ak hT3.out.drew
  go_upto_region 40 with fail
  have hT7 := Ak (hT3.out.pc' xa)
  generalize W3.setCell ⟨gm, 0, none⟩ (.int .i64 xa) = W6 at hT7 ⊢
  clear hT3 hT5 m0 m1 m2 f0 f1 y0 y1 y2 y3
  try clear s0 sf0
  try clear s1 sf1
  try clear s2 sf2
  try clear hT6
  try clear g0 g1 g2
  try clear g3 g4
  obtain ⟨m0, m1, m2, f0, f1, y0, y1, y2, y3⟩ := hT7.out.cells
  have hTF := hT7
  go_wp2
  go_ret
  exact ⟨rfl, _, _, by rw [← hxa.out]; exact hTF.out.held⟩
set_option maxRecDepth 1000000 in
theorem impl_step.ended (A0 : Option Addr) (c0 : Nat) (l : List S48) (gm : Nat) (pc : Int) (vs vc : Value) (st cl : List Int) (w0 w : World) (hH : impl_step.Held w0 w gm pc vs vc st cl) (he : pc = (l.length : Int)) :
  Calls Try.prog 43 #[.slice A0 l.length c0, .pointer (some ⟨gm, 0, none⟩)] w fun e w' => e = .returned (.int .i64 2) ∧ ∃ vs' vc', impl_step.Held w0 w' gm pc vs' vc' st cl := by
 have z0 : w.cell? ⟨gm, 0, none⟩ = some (.int .i64 pc) := (blk_cell hH.m 0).trans rfl
 have b1 : (pc == (l.length : Int)) = true := beq_iff_eq.mpr he
 have HH := Ak hH
 clear hH he
 go_enter Try.func43, Try.ntmps43
 go_wp2
 go_ret
 exact ⟨rfl, vs, vc, HH.out⟩
set_option maxRecDepth 1000000 in
theorem impl_step.halted (k : Nat) (ad0 : Addr) (c0 : Nat) (l : List S48) (gm : Nat) (pc : Int) (vs vc : Value) (st cl : List Int) (w0 w : World) (hC : Kd.C k48 w (some ad0) l.length l) (hH : impl_step.Held w0 w gm pc vs vc st cl) (h0 : 0 ≤ pc) (h1 : pc < l.length) (h2 : l.length ≤ 80) (h3 : st.length ≤ 20) (hc : (rd_T48 l pc).f0 = 15) :
  Calls Try.prog 43 #[.slice (some ad0) l.length c0, .pointer (some ⟨gm, 0, none⟩)] w fun e w' => e = .returned (.int .i64 1) ∧ ∃ vs' vc', impl_step.Held w0 w' gm pc vs' vc' st cl := by
 obtain ⟨As, cs, rfl⟩ := Kd.R_slice hH.s
 obtain ⟨Ac, cc, rfl⟩ := Kd.R_slice hH.c
 have z0 : w.cell? ⟨gm, 0, none⟩ = some (.int .i64 pc) := (blk_cell hH.m 0).trans rfl
 have z1 : w.cell? ⟨gm, 1, none⟩ = some (.slice As st.length cs) := (blk_cell hH.m 1).trans rfl
 obtain ⟨ad, e, x0, x1, x2, x3⟩ := at_T48 hC pc h0 h1
 cases e
 have HH := Ak hH
 clear hH hC
 obtain ⟨xa, hxa⟩ : ∃ x, x = (rd_T48 l pc).f1 := ⟨_, rfl⟩
 obtain ⟨xb, hxb⟩ : ∃ x, x = (rd_T48 l pc).f2 := ⟨_, rfl⟩
 obtain ⟨xc, hxc⟩ : ∃ x, x = (rd_T48 l pc).f3 := ⟨_, rfl⟩
 rw [hc] at x0
 rw [← hxa] at x1
 rw [← hxb] at x2
 rw [← hxc] at x3
 replace hxa := Ak hxa
 replace hxb := Ak hxb
 replace hxc := Ak hxc
 clear hc
 have b1 : (pc == (l.length : Int)) = false := beq_eq_false_iff_ne.mpr (by omega)
 have b2 : decide (0 ≤ pc) = true := decide_eq_true h0
 have b3 : decide (pc < (l.length : Int)) = true := decide_eq_true h1
 have k0 := World.new_ne w ⟨gm, 0, none⟩ z0
 have k1 := World.new_ne w ⟨gm, 1, none⟩ z1
 have k2 := World.new_ne w _ x0
 obtain ⟨tp, htp⟩ : ∃ t : Int, t = (st.length : Int) - 1 := ⟨_, rfl⟩
 have wr : IntKind.i64.wrap ((st.length : Int) - 1) = tp := (i64_w _).trans (by rw [htp]; unfold wrap64; omega)
 replace htp := Ak htp
 go_enter Try.func43, Try.ntmps43
 go_upto_region 3 with fail
 go_region_held3 (fun w' => w'.cell? ⟨gm, 0, none⟩ = some (.int .i64 pc) ∧ w'.cell? ⟨gm, 1, none⟩ = some (.slice As st.length cs) ∧ w'.cell? (ad0.add (pc.toNat * 4)) = some (.int .i64 15) ∧ w'.cell? ⟨(ad0.add (pc.toNat * 4)).block, (ad0.add (pc.toNat * 4)).off + 1, none⟩ = some (.int .i64 xa) ∧ w'.cell? ⟨(ad0.add (pc.toNat * 4)).block, (ad0.add (pc.toNat * 4)).off + 2, none⟩ = some (.int .i64 xb) ∧ w'.cell? ⟨(ad0.add (pc.toNat * 4)).block, (ad0.add (pc.toNat * 4)).off + 3, none⟩ = some (.int .i64 xc)) (first | assumption | go_keep) (fail)
 have hT := Ak (impl_step.St.start (a := 15) (b := xa) (c := xb) (d := xc) HH.out w.heap.size rfl)
 generalize (w.alloc (.cells #[.int .i64 15, .int .i64 xa, .int .i64 xb, .int .i64 xc] 48)).drew = W at hT ⊢
 generalize w.heap.size = gx at hT ⊢
 clear k0 k1 k2 z0 z1 x0 x1 x2 x3 HH wr b1 b2 b3
 obtain ⟨m0, m1, m2, f0, f1, y0, y1, y2, y3⟩ := hT.out.cells
 go_wp2
 go_ret
 exact ⟨rfl, _, _, hT.out.held⟩
end Go.Proofs.Ytlmiankjbffboaa.HFnBranched

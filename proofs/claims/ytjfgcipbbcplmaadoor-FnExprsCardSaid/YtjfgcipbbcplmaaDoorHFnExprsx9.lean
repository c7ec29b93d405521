/- Text for FnExprs: written by a program of this session on the pattern of the kit's print. -/
import Derived.Test.YtjfgcipbbcplmaaDoorHFnExprsx0
import Derived.Test.YtjfgcipbbcplmaaDoorHFnExprsx4
import Derived.Test.YtjfgcipbbcplmaaDoorHFnExprsx6
import Derived.Test.YtjfgcipbbcplmaaDoorHFnExprsx8
namespace Go.Proofs.YtjfgcipbbcplmaaDoor.HFnExprs
set_option maxHeartbeats 8000000
set_option maxRecDepth 100000
open Go.RowKit Go.Proofs.YtjfgcipbbcplmaaDoorW.PrintWords Go.Proofs.YtjfgcipbbcplmaaDoorW.PrintLast Go.Proofs.YtjfgcipbbcplmaaDoorW.PrintMore
attribute [local go_sem] max2_int min2_int max_two min_two max_three min_three max_four min_four
set_option linter.unusedVariables false
set_option linter.unusedSimpArgs false

/-! ### impl_ParseExpr: function 12 -/
def impl_ParseExpr.f (k : Nat) (a0 : ByteArray) : Option (Int × Int × List S25 × Bool) := if 400 < a0.size then some (0, 0, [], false) else
 (impl_exprReader_sum.f k a0 0 false).bind fun t => (impl_exprReader_see.f k t.2.2.2.1 t.2.2.2.2.1 t.2.2.2.2.2).bind fun u => if u.2.2.2 = true then some (0, 0, [], false) else if u.2.2.1 < (a0.size : Int) then some (0, 0, [], false) else
 (impl_IsExpr.f k t.1 t.2.1 t.2.2.1).bind fun b => if b = true then some (t.1, t.2.1, t.2.2.1, true) else some (0, 0, [], false)
theorem impl_ParseExpr.calls (k : Nat) (a0 : ByteArray) (r1 r2 : Int) (r3 : List S25) (r4 : Bool) (w : World) (hL : Aside0 (Laid w)) (h : impl_ParseExpr.f k a0 = some (r1, r2, r3, r4)) :
  Calls Tryd.prog 12 #[.string a0] w fun e w' => ∃ v2_ : Value, e = .returned (.tuple #[.agg #[.int .i64 r1, .int .i64 r2, v2_], .bool r4]) ∧ Kd.N k25 25 w' w.heap.size (fun k_ => (w.heap.size ≤ k_)) v2_ r3 ∧ Below w.heap.size w w' := by
 unfold impl_ParseExpr.f at h
 have huE := Tryd.underlying25
 have huS := Tryd.underlying68
 have al1 := below_alloc (Below.refl w.heap.size w) (.cells #[.int .i64 0, .int .i64 0, .slice none 0 0] 25)
 by_cases c0 : 400 < a0.size
 case pos =>
  rw [if_pos c0] at h
  simp only [Option.some.injEq, Prod.mk.injEq] at h
  obtain ⟨rfl, rfl, rfl, rfl⟩ := h
  have HB := Ak al1
  have B1 := Ak (blk_new w (.cells #[.int .i64 0, .int .i64 0, .slice none 0 0] 25))
  clear al1
  go_enter Tryd.func12, Tryd.ntmps12
  go_upto_region 1 with fail
  generalize w.alloc (.cells #[.int .i64 0, .int .i64 0, .slice none 0 0] 25) = W at HB B1 ⊢
  obtain ⟨g1, hg1⟩ : ∃ g, g = w.heap.size := ⟨_, rfl⟩
  rw [← hg1] at B1 ⊢
  have hq : w.heap.size ≤ g1 := by omega
  replace hg1 := Ak hg1
  replace hq := Ak hq
  obtain ⟨n0, n1, n2, f0, f1, f2⟩ := Qv3 B1.out
  go_wp2
  have hq := hq.out
  refine bodyPost_ret (results_ct rfl _ _ g1 25 #[.int .i64 0, .int .i64 0, .slice none 0 0] (0, 0) _ rfl (blk_put (cs := #[.int .i64 0, .int .i64 0, .slice none 0 0]) (blk_put (cs := #[.int .i64 0, .int .i64 0, .slice none 0 0]) (blk_put (cs := #[.int .i64 0, .int .i64 0, .slice none 0 0]) B1.out 0 _ rfl) 1 _ rfl) 2 _ rfl) huE rfl (by kernel_rfl)) rfl ?_
  exact ⟨_, rfl, Kd.N_nil _ _ _ _ _, ((HB.out.setCell (p := ⟨g1, 0, none⟩) hq _).setCell (p := ⟨g1, 1, none⟩) hq _).setCell (p := ⟨g1, 2, none⟩) hq _⟩
 rw [if_neg c0] at h
 replace h := Option.bind_eq_some_iff.1 h
 obtain ⟨⟨p1, p2, p3, q1, q2, q3⟩, hsum, h⟩ := h
 replace h := Option.bind_eq_some_iff.1 h
 obtain ⟨⟨u0, u1, u2, u3⟩, hsee, h⟩ := h
 dsimp only at hsee h
 replace hsum := Ak hsum
 replace hsee := Ak hsee
 have HI := Ak (IsS68.new w (w.alloc (.cells #[.int .i64 0, .int .i64 0, .slice none 0 0] 25)) a0 0 false al1)
 have al2 := below_alloc al1 (.cells #[.string a0, .int .i64 0, .bool false] 68)
 have HB := Ak al2
 have B1 := Ak (blk_alloc (blk_new w (.cells #[.int .i64 0, .int .i64 0, .slice none 0 0] 25)) (.cells #[.string a0, .int .i64 0, .bool false] 68))
 have hs2 : (w.alloc (.cells #[.int .i64 0, .int .i64 0, .slice none 0 0] 25)).heap.size = w.heap.size + 1 := by simp
 have hs3 : ((w.alloc (.cells #[.int .i64 0, .int .i64 0, .slice none 0 0] 25)).alloc (.cells #[.string a0, .int .i64 0, .bool false] 68)).heap.size = w.heap.size + 2 := by simp
 rw [hs2] at HI
 replace hs2 := Ak hs2
 replace hs3 := Ak hs3
 replace h := Ak h
 clear al1 al2
 go_enter Tryd.func12, Tryd.ntmps12
 go_upto_region 4 with fail
 generalize (w.alloc (.cells #[.int .i64 0, .int .i64 0, .slice none 0 0] 25)).alloc (.cells #[.string a0, .int .i64 0, .bool false] 68) = W at HI HB B1 hs3 ⊢
 obtain ⟨g2, hg2⟩ : ∃ g, g = w.heap.size + 1 := ⟨_, rfl⟩
 obtain ⟨g1, hg1⟩ : ∃ g, g = w.heap.size := ⟨_, rfl⟩
 rw [← hg2] at HI ⊢
 rw [← hg1] at B1 ⊢
 have hq1 : w.heap.size ≤ g1 := by omega
 have hq2 : g1 ≠ g2 := by omega
 have hq3 : g1 < W.heap.size := by have := hs3.out; omega
 have hq4 : g2 < W.heap.size := by have := hs3.out; omega
 replace hg1 := Ak hg1
 replace hg2 := Ak hg2
 replace hq1 := Ak hq1
 replace hq2 := Ak hq2
 replace hq3 := Ak hq3
 replace hq4 := Ak hq4
 clear hs2 hs3
 go_upto_region 5 with ((go_at_call 44; refine (impl_exprReader_sum.calls k g2 a0 0 false p1 p2 p3 q1 q2 q3 w W HI.out HB.out hL hsum.out).mono ?_; rintro e W1 ⟨v2, rfl, hN, hI, hb, hk⟩); obtain ⟨A, c, hv, hlc, hC⟩ := Kd.N_reads hN; subst hv; replace B1 := Ak ((hk.2 g1 hq3.out hq2.out (by simp)).trans B1.out); have HN := Ak hN; replace HI := Ak hI; replace HB := Ak hb; have HZ := Ak (show W.heap.size ≤ W1.heap.size from hk.1); clear hN hI hb hk hC; replace hlc := Ak hlc)
 have al := below_alloc (Below.refl W1.heap.size W1) (.cells #[.int .i64 p1, .int .i64 p2, .slice A p3.length c] 25)
 have B3 := Ak (blk_new W1 (.cells #[.int .i64 p1, .int .i64 p2, .slice A p3.length c] 25))
 replace B1 := Ak (blk_below B1.out al)
 replace HI := Ak (IsS68.alloc HI.out (.cells #[.int .i64 p1, .int .i64 p2, .slice A p3.length c] 25))
 replace HN := Ak (Kd.N_alloc HN.out (.cells #[.int .i64 p1, .int .i64 p2, .slice A p3.length c] 25))
 replace HB := Ak (below_alloc HB.out (.cells #[.int .i64 p1, .int .i64 p2, .slice A p3.length c] 25))
 have hs : (W1.alloc (.cells #[.int .i64 p1, .int .i64 p2, .slice A p3.length c] 25)).heap.size = W1.heap.size + 1 := by simp
 replace hs := Ak hs
 clear al
 generalize W1.alloc (.cells #[.int .i64 p1, .int .i64 p2, .slice A p3.length c] 25) = W2 at B1 B3 HI HN HB hs ⊢
 obtain ⟨g3, hg3⟩ : ∃ g, g = W1.heap.size := ⟨_, rfl⟩
 rw [← hg3] at B3 ⊢
 have hr1 : g3 ≠ g2 := by have := hq4.out; have := HZ.out; omega
 have hr2 : g1 ≠ g3 := by have := hq3.out; have := HZ.out; omega
 have hr3 : g3 < W2.heap.size := by have := hs.out; omega
 have hr4 : g1 < W2.heap.size := by have := hq3.out; have := HZ.out; have := hs.out; omega
 have hr5 : ∀ k_, W.heap.size ≤ k_ → k_ ≠ g2 := by have := hq4.out; intro k_ h_; omega
 have hr6 : ∀ k_, W.heap.size ≤ k_ → k_ ≠ g1 := by have := hq3.out; intro k_ h_; omega
 have hr7 : ∀ k_, W.heap.size ≤ k_ → w.heap.size ≤ k_ := by have := hq3.out; have := hq1.out; intro k_ h_; omega
 have hr8 : w.heap.size ≤ W.heap.size := by have := hq3.out; have := hq1.out; omega
 replace hg3 := Ak hg3
 replace hr1 := Ak hr1
 replace hr2 := Ak hr2
 replace hr3 := Ak hr3
 replace hr4 := Ak hr4
 replace hr5 := Ak hr5
 replace hr6 := Ak hr6
 replace hr7 := Ak hr7
 replace hr8 := Ak hr8
 clear hs
 go_upto_region 6 with ((go_at_call 45; refine (impl_exprReader_see.calls k g2 q1 q2 q3 u0 u1 u2 u3 w W2 HI.out HB.out hsee.out).mono ?_; rintro e W3 ⟨rfl, hI, hb, hk⟩); replace B1 := Ak ((hk.2 g1 hr4.out hq2.out (by simp)).trans B1.out); replace B3 := Ak ((hk.2 g3 hr3.out hr1.out (by simp)).trans B3.out); replace HN := Ak (Kd.N_keep HN.out hk hr5.out); replace HI := Ak hI; replace HB := Ak hb; clear hI hb hk)
 have hcz0 := cellS68_0 HI.out.1
 have hcz1 := cellS68_1 HI.out.1
 have hcz2 := cellS68_2 HI.out.1
 obtain ⟨m0, m1, m2⟩ := Qu3 B3.out
 obtain ⟨n0, n1, n2, f0, f1, f2⟩ := Qv3 B1.out
 have h := h.out
 by_cases cu : u3 = true
 ·rw [if_pos cu] at h
  subst cu
  simp only [Option.some.injEq, Prod.mk.injEq] at h
  obtain ⟨rfl, rfl, rfl, rfl⟩ := h
  go_wp2
  have hq := hq1.out
  refine bodyPost_ret (results_ct rfl _ _ g1 25 #[.int .i64 0, .int .i64 0, .slice none 0 0] (0, 0) _ rfl (blk_put (cs := #[.int .i64 0, .int .i64 0, .slice none 0 0]) (blk_put (cs := #[.int .i64 0, .int .i64 0, .slice none 0 0]) (blk_put (cs := #[.int .i64 0, .int .i64 0, .slice none 0 0]) B1.out 0 _ rfl) 1 _ rfl) 2 _ rfl) huE rfl (by kernel_rfl)) rfl ?_
  exact ⟨_, rfl, Kd.N_nil _ _ _ _ _, ((HB.out.setCell (p := ⟨g1, 0, none⟩) hq _).setCell (p := ⟨g1, 1, none⟩) hq _).setCell (p := ⟨g1, 2, none⟩) hq _⟩
 ·rw [if_neg cu] at h
  rw [Bool.not_eq_true] at cu
  subst cu
  by_cases cl : u2 < (a0.size : Int)
  ·rw [if_pos cl] at h
   simp only [Option.some.injEq, Prod.mk.injEq] at h
   obtain ⟨rfl, rfl, rfl, rfl⟩ := h
   have cb : decide (u2 < (a0.size : Int)) = true := decide_eq_true cl
   go_wp2
   have hq := hq1.out
   refine bodyPost_ret (results_ct rfl _ _ g1 25 #[.int .i64 0, .int .i64 0, .slice none 0 0] (0, 0) _ rfl (blk_put (cs := #[.int .i64 0, .int .i64 0, .slice none 0 0]) (blk_put (cs := #[.int .i64 0, .int .i64 0, .slice none 0 0]) (blk_put (cs := #[.int .i64 0, .int .i64 0, .slice none 0 0]) B1.out 0 _ rfl) 1 _ rfl) 2 _ rfl) huE rfl (by kernel_rfl)) rfl ?_
   exact ⟨_, rfl, Kd.N_nil _ _ _ _ _, ((HB.out.setCell (p := ⟨g1, 0, none⟩) hq _).setCell (p := ⟨g1, 1, none⟩) hq _).setCell (p := ⟨g1, 2, none⟩) hq _⟩
  ·rw [if_neg cl] at h
   have cb : decide (u2 < (a0.size : Int)) = false := decide_eq_false cl
   replace h := Option.bind_eq_some_iff.1 h
   obtain ⟨b, hb, h⟩ := h
   replace hb := Ak hb
   have HC := Ak (Kd.N_reads' HN.out).2.2
   cases b
   ·rw [if_neg (by simp)] at h
    simp only [Option.some.injEq, Prod.mk.injEq] at h
    obtain ⟨rfl, rfl, rfl, rfl⟩ := h
    go_wp2_with ((go_at_call 14; refine (impl_IsExpr.calls k p1 p2 A c p3 false _ HC.out hlc.out hb.out).mono ?_; rintro e W4 ⟨rfl, hd⟩); replace HB := Ak (below_step HB.out hd); replace B1 := Ak (blk_below B1.out hd); clear n0 n1 n2 f0 f1 f2 m0 m1 m2 hcz0 hcz1 hcz2; obtain ⟨n0, n1, n2, f0, f1, f2⟩ := Qv3 B1.out; clear hd)
    have hq := hq1.out
    refine bodyPost_ret (results_ct rfl _ _ g1 25 #[.int .i64 0, .int .i64 0, .slice none 0 0] (0, 0) _ rfl (blk_put (cs := #[.int .i64 0, .int .i64 0, .slice none 0 0]) (blk_put (cs := #[.int .i64 0, .int .i64 0, .slice none 0 0]) (blk_put (cs := #[.int .i64 0, .int .i64 0, .slice none 0 0]) B1.out 0 _ rfl) 1 _ rfl) 2 _ rfl) huE rfl (by kernel_rfl)) rfl ?_
    exact ⟨_, rfl, Kd.N_nil _ _ _ _ _, ((HB.out.setCell (p := ⟨g1, 0, none⟩) hq _).setCell (p := ⟨g1, 1, none⟩) hq _).setCell (p := ⟨g1, 2, none⟩) hq _⟩
   ·rw [if_pos rfl] at h
    simp only [Option.some.injEq, Prod.mk.injEq] at h
    obtain ⟨rfl, rfl, rfl, rfl⟩ := h
    have h12 := hr2.out
    go_wp2_with ((go_at_call 14; refine (impl_IsExpr.calls k p1 p2 A c p3 true _ HC.out hlc.out hb.out).mono ?_; rintro e W4 ⟨rfl, hd⟩); replace HB := Ak (below_step HB.out hd); replace B1 := Ak (blk_below B1.out hd); replace B3 := Ak (blk_below B3.out hd); replace HN := Ak (Kd.N_below HN.out hd); clear n0 n1 n2 f0 f1 f2 m0 m1 m2 hcz0 hcz1 hcz2; obtain ⟨n0, n1, n2, f0, f1, f2⟩ := Qv3 B1.out; obtain ⟨m0, m1, m2⟩ := Qu3 B3.out; clear hd)
    have hq := hq1.out
    refine bodyPost_ret (results_ct rfl _ _ g1 25 #[.int .i64 p1, .int .i64 p2, .slice A p3.length c] (0, 0) _ rfl (blk_put (cs := #[.int .i64 p1, .int .i64 p2, .slice none 0 0]) (blk_put (cs := #[.int .i64 p1, .int .i64 0, .slice none 0 0]) (blk_put (cs := #[.int .i64 0, .int .i64 0, .slice none 0 0]) B1.out 0 _ rfl) 1 _ rfl) 2 _ rfl) huE rfl (by kernel_rfl)) rfl ?_
    exact ⟨_, rfl, Kd.N_mono (Kd.N_far (p := ⟨g1, 2, none⟩) (Kd.N_far (p := ⟨g1, 1, none⟩) (Kd.N_far (p := ⟨g1, 0, none⟩) (Kd.N_lower HN.out hr8.out) hr6.out _) hr6.out _) hr6.out _) hr7.out, ((HB.out.setCell (p := ⟨g1, 0, none⟩) hq _).setCell (p := ⟨g1, 1, none⟩) hq _).setCell (p := ⟨g1, 2, none⟩) hq _⟩

/-! ### impl_Expr: function 46 -/
set_option maxHeartbeats 4000000 in
theorem equal46 (g : Nat) (p : Nat → Bool) (x0 x1 y0 y1 : Nat → Int) (x2 y2 : Nat → Option Addr) (x3 x4 y3 y4 : Nat → Nat) (eg : ∀ args w, (callFunc g args).run Tryd.prog w = .ok (.enter g args) w) (A A' : Option Addr) (n c n' c' : Nat) (r : Bool) (w : World)
  (hn : n ≤ 9223372036854775807) (hn' : n' ≤ 9223372036854775807)
  (hx : ∀ W, Below w.heap.size w W → ∀ j, j < n → ∃ ad, A = some ad ∧ W.cell? (ad.add (j * 3)) = some (.int .i64 (x0 j)) ∧ W.cell? ⟨(ad.add (j * 3)).block, (ad.add (j * 3)).off + 1, none⟩ = some (.int .i64 (x1 j)) ∧ W.cell? ⟨(ad.add (j * 3)).block, (ad.add (j * 3)).off + 2, none⟩ = some (.slice (x2 j) (x3 j) (x4 j)) ∧ (ad.add (j * 3)).block < w.heap.size)
  (hy : ∀ W, Below w.heap.size w W → ∀ j, j < n' → ∃ ad, A' = some ad ∧ W.cell? (ad.add (j * 3)) = some (.int .i64 (y0 j)) ∧ W.cell? ⟨(ad.add (j * 3)).block, (ad.add (j * 3)).off + 1, none⟩ = some (.int .i64 (y1 j)) ∧ W.cell? ⟨(ad.add (j * 3)).block, (ad.add (j * 3)).off + 2, none⟩ = some (.slice (y2 j) (y3 j) (y4 j)) ∧ (ad.add (j * 3)).block < w.heap.size)
  (hp : ∀ (W : World) (j : Nat), Below w.heap.size w W → j < n → j < n' → Calls Tryd.prog g #[.agg #[.int .i64 (x0 j), .int .i64 (x1 j), .slice (x2 j) (x3 j) (x4 j)], .agg #[.int .i64 (y0 j), .int .i64 (y1 j), .slice (y2 j) (y3 j) (y4 j)]] W fun e w' => e = .returned (.bool (p j)) ∧ Below w.heap.size w w')
  (hr : (decide (n = n') && (List.range n).all p) = r) :
  Calls Tryd.prog 46 #[.slice A n c, .slice A' n' c', .func (.func g) #[] #[]] w fun e w' => e = .returned (.bool r) ∧ Below w.heap.size w w' := by
 by_cases hl : n = n'
 ·rw [decide_eq_true hl, Bool.true_and] at hr
  subst hl
  have hlb : ((n : Int) != (n : Int)) = false := by simp
  go_enter Tryd.func46, Tryd.ntmps46
  go_wp2
  go_loopg [7, 8, 9, 17] n (fun gg _ _ _ s17 wr => ∃ kk : Nat, kk ≤ n ∧ n - kk ≤ gg ∧ s17 = .int .i64 kk ∧ Aside (Below w.heap.size w wr) ∧ Aside (∀ j, j < kk → p j = true))
  case atStart => exact ⟨0, Nat.zero_le _, by omega, rfl, Below.refl _ w, fun j hj => absurd hj (Nat.not_lt_zero _)⟩
  case round =>
   obtain ⟨kk, hkk, hg, rfl, BW, A0⟩ := hrel
   by_cases hlt : kk < n
   ·have hltz : (kk : Int) < (n : Int) := by omega
    obtain ⟨ad, rfl, l2, l3, l4, lb⟩ := hx wr BW.out kk hlt
    have BS := BW.out.size
    have BW2 : Below w.heap.size w (wr.alloc (.cells #[.int .i64 (x0 kk), .int .i64 (x1 kk), .slice (x2 kk) (x3 kk) (x4 kk)] 25)) := BW.out.alloc BS _
    obtain ⟨ad', rfl, m2, m3, m4, mb⟩ := hy _ BW2 kk hlt
    have BW3 : Below w.heap.size w ((wr.alloc (.cells #[.int .i64 (x0 kk), .int .i64 (x1 kk), .slice (x2 kk) (x3 kk) (x4 kk)] 25)).alloc (.cells #[.int .i64 (y0 kk), .int .i64 (y1 kk), .slice (y2 kk) (y3 kk) (y4 kk)] 25)) := BW2.alloc (by simp; omega) _
    have hcall := hp _ kk BW3 hlt hlt
    clear hx hy hp
    obtain ⟨y, hy⟩ : ∃ y, p kk = y := ⟨_, rfl⟩
    have B : Aside (p kk = y) := hy
    rw [hy] at hcall
    clear hy
    cases y with
    | false =>
     go_wp2
     refine hcall.mono ?_
     rintro e w' ⟨rfl, hb'⟩
     go_wp2
     go_ret
     refine ⟨?_, hb'⟩
     rw [← hr, List.all_eq_false.2 ⟨kk, List.mem_range.2 hlt, by rw [B.out]; simp⟩]
     rfl
    | true =>
     go_wp2
     refine hcall.mono ?_
     rintro e w' ⟨rfl, hb'⟩
     go_wp2
     go_roundg (n - (kk + 1))
     case measure => omega
     case rel =>
      refine ⟨kk + 1, by omega, by omega, by go_num, hb', (show Aside _ from fun j hj => ?_)⟩
      by_cases e : j = kk
      ·subst e
       exact B.out
      ·exact A0.out j (by omega)
   ·have hltz : ¬ (kk : Int) < (n : Int) := by omega
    have : kk = n := by omega
    subst this
    go_wp2
    go_ret
    refine ⟨?_, BW.out⟩
    rw [← hr, List.all_eq_true.2 (fun j hj => A0.out j (List.mem_range.1 hj))]
    rfl
 ·rw [decide_eq_false hl, Bool.false_and] at hr
  subst hr
  have hlb : ((n : Int) != (n' : Int)) = true := by simp; omega
  go_enter Tryd.func46, Tryd.ntmps46
  go_wp2
  go_ret
  exact ⟨by first | rfl | simp, Below.refl _ _⟩

/-! ### impl_EqualExprs: function 13 -/
mutual
/-- Two expressions are one. -/
def impl_EqualExprs.t : S25 → S25 → Bool
 | ⟨a, b, l⟩, y => decide (a = y.f0) && decide (b = y.f1) && impl_EqualExprs.tl l y.f2
def impl_EqualExprs.tl : List S25 → List S25 → Bool
 | [], [] => true
 | x :: xs, y :: ys => impl_EqualExprs.t x y && impl_EqualExprs.tl xs ys
 | [], _ :: _ => false
 | _ :: _, [] => false
end
theorem impl_EqualExprs.t_eq (x y : S25) : impl_EqualExprs.t x y = (decide (x.f0 = y.f0) && decide (x.f1 = y.f1) && impl_EqualExprs.tl x.f2 y.f2) := by cases x; rfl
theorem impl_EqualExprs.tl_eq : ∀ (l l' : List S25), (decide (l.length = l'.length) && (List.range l.length).all fun j => impl_EqualExprs.t (l.getD j z25) (l'.getD j z25)) = impl_EqualExprs.tl l l'
 | [], [] => rfl
 | [], _ :: _ => rfl
 | _ :: _, [] => rfl
 | x :: xs, y :: ys => by
  rw [impl_EqualExprs.tl, ← impl_EqualExprs.tl_eq xs ys, List.length_cons, List.length_cons, List.range_succ_eq_map, List.all_cons, List.all_map]
  have e : decide (xs.length + 1 = ys.length + 1) = decide (xs.length = ys.length) := decide_eq_decide.2 (by omega)
  rw [e]
  simp only [List.getD_cons_zero, Function.comp_def, List.getD_cons_succ]
  cases decide (xs.length = ys.length) <;> cases impl_EqualExprs.t x y <;> simp
theorem impl_EqualExprs.ind {P : S25 → Prop} (h : ∀ x : S25, (∀ y ∈ x.f2, P y) → P x) (x : S25) : P x :=
 S25.rec (motive_1 := P) (motive_2 := fun l => ∀ y ∈ l, P y) (fun a b l hl => h ⟨a, b, l⟩ hl) (by simp) (fun y ys h1 h2 => by simp; exact ⟨h1, h2⟩) x
/-- A row's elements, where they lie. -/
theorem impl_EqualExprs.row (w : World) (A : Option Addr) (l : List S25) (hr : Kd.C k25 w A l.length l) : ∃ (g2 : Nat → Option Addr) (g4 : Nat → Nat), ∀ j, j < l.length → ∃ ad, A = some ad ∧ (ad.add (j * 3)).block < w.heap.size ∧ w.cell? (ad.add (j * 3)) = some (.int .i64 (l.getD j z25).f0) ∧ w.cell? ⟨(ad.add (j * 3)).block, (ad.add (j * 3)).off + 1, none⟩ = some (.int .i64 (l.getD j z25).f1) ∧ w.cell? ⟨(ad.add (j * 3)).block, (ad.add (j * 3)).off + 2, none⟩ = some (.slice (g2 j) (l.getD j z25).f2.length (g4 j)) ∧ (l.getD j z25).f2.length ≤ g4 j ∧ Kd.C k25 w (g2 j) (l.getD j z25).f2.length (l.getD j z25).f2 := by
 have H : ∀ j, ∃ q : Option Addr × Nat, j < l.length → ∃ ad, A = some ad ∧ (ad.add (j * 3)).block < w.heap.size ∧ w.cell? (ad.add (j * 3)) = some (.int .i64 (l.getD j z25).f0) ∧ w.cell? ⟨(ad.add (j * 3)).block, (ad.add (j * 3)).off + 1, none⟩ = some (.int .i64 (l.getD j z25).f1) ∧ w.cell? ⟨(ad.add (j * 3)).block, (ad.add (j * 3)).off + 2, none⟩ = some (.slice q.1 (l.getD j z25).f2.length q.2) ∧ (l.getD j z25).f2.length ≤ q.2 ∧ Kd.C k25 w q.1 (l.getD j z25).f2.length (l.getD j z25).f2 := by
  intro j
  by_cases hj : j < l.length
  ·obtain ⟨ad, A2, c2, e, m0, m1, m2, l2, g2⟩ := at_T25 hr (j : Int) (by omega) (by omega)
   refine ⟨(A2, c2), fun _ => ⟨ad, e, ?_, by simpa [rd_T25] using m0, by simpa [rd_T25] using m1, by simpa [rd_T25] using m2, by simpa [rd_T25] using l2, by simpa [rd_T25] using g2⟩⟩
   rcases Nat.lt_or_ge (ad.add (j * 3)).block w.heap.size with h | h
   ·exact h
   ·have : w.cell? (ad.add (j * 3)) = none := by simp [World.cell?, Array.getElem?_eq_none h]
    simp at m0
    rw [this] at m0
    cases m0
  ·exact ⟨(none, 0), fun h => absurd h hj⟩
 obtain ⟨f, hf⟩ := Classical.axiomOfChoice H
 exact ⟨fun j => (f j).1, fun j => (f j).2, hf⟩
theorem impl_EqualExprs.row_below {w W : World} (hW : Below w.heap.size w W) {p : Addr} {v : Value} (hp : p.block < w.heap.size) (h : w.cell? p = some v) : W.cell? p = some v := (hW.cell hp).trans h
set_option maxHeartbeats 4000000 in
theorem impl_EqualExprs.all : ∀ (x y : S25) (A A' : Option Addr) (c c' : Nat) (w : World) (hr : Kd.C k25 w A x.f2.length x.f2) (hr' : Kd.C k25 w A' y.f2.length y.f2),
  Calls Tryd.prog 13 #[.agg #[.int .i64 x.f0, .int .i64 x.f1, .slice A x.f2.length c], .agg #[.int .i64 y.f0, .int .i64 y.f1, .slice A' y.f2.length c']] w fun e w' => e = .returned (.bool (impl_EqualExprs.t x y)) ∧ Below w.heap.size w w' := by
 intro x
 induction x using impl_EqualExprs.ind with
 | h x ih =>
 intro y A A' c c' w hr hr'
 rw [impl_EqualExprs.t_eq]
 by_cases e0 : x.f0 = y.f0
 ·have b0 : (x.f0 == y.f0) = true := beq_iff_eq.mpr e0
  rw [decide_eq_true e0, Bool.true_and]
  by_cases e1 : x.f1 = y.f1
  ·have b1 : (x.f1 == y.f1) = true := beq_iff_eq.mpr e1
   rw [decide_eq_true e1, Bool.true_and]
   have hcon : ∀ W, Below w.heap.size w W → Calls Tryd.prog 46 #[.slice A x.f2.length c, .slice A' y.f2.length c', .func (.func 13) #[] #[]] W fun e w' => e = .returned (.bool (impl_EqualExprs.tl x.f2 y.f2)) ∧ Below W.heap.size W w' := by
    intro W hW
    obtain ⟨g2, g4, hg⟩ := impl_EqualExprs.row W A x.f2 (Kd.C_below hr hW)
    obtain ⟨g2', g4', hg'⟩ := impl_EqualExprs.row W A' y.f2 (Kd.C_below hr' hW)
    refine equal46 13 (fun j => impl_EqualExprs.t (x.f2.getD j z25) (y.f2.getD j z25)) (fun j => (x.f2.getD j z25).f0) (fun j => (x.f2.getD j z25).f1) (fun j => (y.f2.getD j z25).f0) (fun j => (y.f2.getD j z25).f1) g2 g2' (fun j => (x.f2.getD j z25).f2.length) g4 (fun j => (y.f2.getD j z25).f2.length) g4' (fun args w => enters_ Tryd.func13 (by kernel_rfl) rfl args w) A A' x.f2.length c y.f2.length c' _ W (by have := hr.2.1; omega) (by have := hr'.2.1; omega) ?_ ?_ ?_ (impl_EqualExprs.tl_eq _ _)
    ·intro W' hW' j hj
     obtain ⟨ad, e, hb, m0, m1, m2, _, _⟩ := hg j hj
     exact ⟨ad, e, impl_EqualExprs.row_below hW' hb m0, impl_EqualExprs.row_below hW' hb m1, impl_EqualExprs.row_below hW' hb m2, hb⟩
    ·intro W' hW' j hj
     obtain ⟨ad, e, hb, m0, m1, m2, _, _⟩ := hg' j hj
     exact ⟨ad, e, impl_EqualExprs.row_below hW' hb m0, impl_EqualExprs.row_below hW' hb m1, impl_EqualExprs.row_below hW' hb m2, hb⟩
    ·intro W' j hW' hj hj'
     obtain ⟨ad, e, hb, m0, m1, m2, l2, C2⟩ := hg j hj
     obtain ⟨ad', e', hb', m0', m1', m2', l2', C2'⟩ := hg' j hj'
     refine (ih (x.f2.getD j z25) (by rw [List.getD_eq_getElem?_getD, List.getElem?_eq_getElem hj]; exact List.getElem_mem _) (y.f2.getD j z25) (g2 j) (g2' j) (g4 j) (g4' j) W' (Kd.C_below C2 hW') (Kd.C_below C2' hW')).mono ?_
     rintro e w' ⟨rfl, hb'⟩
     exact ⟨rfl, hW'.trans (hb'.mono hW'.size)⟩
   clear ih
   generalize impl_EqualExprs.tl x.f2 y.f2 = r at hcon ⊢
   go_enter Tryd.func13, Tryd.ntmps13
   go_wp2_with (go_at_call 46; refine (hcon _ (by repeat (first | (with_reducible first | exact Below.refl _ _ | apply below_alloc | apply pw_below_drewN | apply below_drew1) | exact Below.refl _ _))).mono ?_; rintro e w' ⟨rfl, hb'⟩)
   go_ret
   exact ⟨by first | rfl | simp, (show Below w.heap.size w _ by repeat (first | (with_reducible first | exact Below.refl _ _ | apply below_alloc | apply pw_below_drewN | apply below_drew1) | exact Below.refl _ _)).trans (hb'.mono (by simp; try omega))⟩
  ·have b1 : (x.f1 == y.f1) = false := beq_eq_false_iff_ne.mpr e1
   rw [decide_eq_false e1, Bool.false_and]
   clear ih hr hr'
   go_enter Tryd.func13, Tryd.ntmps13
   go_wp2
   go_ret
   exact ⟨by first | rfl | simp, by repeat (first | (with_reducible first | exact Below.refl _ _ | apply below_alloc | apply pw_below_drewN | apply below_drew1) | exact Below.refl _ _)⟩
 ·have b0 : (x.f0 == y.f0) = false := beq_eq_false_iff_ne.mpr e0
  rw [decide_eq_false e0, Bool.false_and]
  clear ih hr hr'
  go_enter Tryd.func13, Tryd.ntmps13
  go_wp2
  go_ret
  exact ⟨by first | rfl | simp, by repeat (first | (with_reducible first | exact Below.refl _ _ | apply below_alloc | apply pw_below_drewN | apply below_drew1) | exact Below.refl _ _)⟩
def impl_EqualExprs.f (a b : Int) (l : List S25) (a' b' : Int) (l' : List S25) : Option Bool := some (impl_EqualExprs.t ⟨a, b, l⟩ ⟨a', b', l'⟩)
theorem impl_EqualExprs.calls (a0_0 : Int) (a0_1 : Int) (A0_2 : Option Addr) (c0_2 : Nat) (l0_2 : List (S25)) (a1_0 : Int) (a1_1 : Int) (A1_2 : Option Addr) (c1_2 : Nat) (l1_2 : List (S25)) (r : Bool) (w : World) (hr0_2 : Kd.C k25 w A0_2 l0_2.length l0_2) (hc0_2 : l0_2.length ≤ c0_2) (hr1_2 : Kd.C k25 w A1_2 l1_2.length l1_2) (hc1_2 : l1_2.length ≤ c1_2) (h : impl_EqualExprs.f a0_0 a0_1 l0_2 a1_0 a1_1 l1_2 = some r) :
  Calls Tryd.prog 13 #[.agg #[.int .i64 a0_0, .int .i64 a0_1, .slice A0_2 l0_2.length c0_2], .agg #[.int .i64 a1_0, .int .i64 a1_1, .slice A1_2 l1_2.length c1_2]] w fun e w' => e = .returned (.bool r) ∧ Below w.heap.size w w' := by
 obtain rfl := Option.some.inj h
 exact impl_EqualExprs.all ⟨a0_0, a0_1, l0_2⟩ ⟨a1_0, a1_1, l1_2⟩ A0_2 A1_2 c0_2 c1_2 w hr0_2 hr1_2

/-! ### impl_copyExpr: function 48 -/
mutual
def impl_copyExpr.l0 : Nat → List (S25) → Int → Int → Int → Int → List (S25) → Option (Int × Int × (List (S25)))
 | 0, _, _, _, _, _, _ => none
 | k + 1, x12, x13, x14, x586000, x586001, x586002 => if x14 < x13 then (if 0 ≤ x14 then (if x14 < (x12.length : Int) then ((impl_copyExpr.f k ((rd_T25 x12 x14).f0) ((rd_T25 x12 x14).f1) ((rd_T25 x12 x14).f2)).bind fun bt588 => (if x586002.length < 3518437208883 then (impl_copyExpr.l0 k x12 x13 (wrap64 (x14 + 1)) x586000 x586001 (x586002 ++ [(⟨bt588.1, bt588.2.1, bt588.2.2⟩ : S25)])) else (none))) else (none)) else (none)) else (some (x586000, x586001, x586002))
def impl_copyExpr.f : Nat → Int → Int → List (S25) → Option (Int × Int × (List (S25)))
 | 0, _, _, _ => none
 | k + 1, a0_0, a0_1, l0_2 => impl_copyExpr.l0 k l0_2 (l0_2.length : Int) 0 a0_0 a0_1 ([] : List (S25))
end
def impl_copyExpr.T5 : Bool × List (List Nat × List Nat) := (true, [([], []), ([0], [0]), ([], []), ([2], [2]), ([3], [3]), ([1, 4, 3], [1, 4]), ([0, 1, 2, 3, 4, 5], []), ([6, 5, 5, 0, 1, 2, 3, 4, 5], [5, 6])])
def impl_copyExpr.B5 : List Nat := [0, 1, 0, 4, 12, 31, 63, 127]
theorem impl_copyExpr.tab5 : rtab .any (opsOf Tryd.f48 5) = impl_copyExpr.T5 := by kernel_rfl
theorem impl_copyExpr.bits5 : waitsOk impl_copyExpr.T5.2 impl_copyExpr.B5 = true := by kernel_rfl
end Go.Proofs.YtjfgcipbbcplmaaDoor.HFnExprs

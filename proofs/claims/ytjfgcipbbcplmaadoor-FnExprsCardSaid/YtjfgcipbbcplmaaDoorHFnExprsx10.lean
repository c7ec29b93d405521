/- Text for FnExprs: written by a program of this session on the pattern of the kit's print. -/
import Derived.Test.YtjfgcipbbcplmaaDoorHFnExprsx0
namespace Go.Proofs.YtjfgcipbbcplmaaDoor.HFnExprs
open Go.RowKit Go.Proofs.YtjfgcipbbcplmaaDoorW.PrintWords Go.Proofs.YtjfgcipbbcplmaaDoorW.PrintLast Go.Proofs.YtjfgcipbbcplmaaDoorW.PrintMore
attribute [local go_sem] max2_int min2_int max_two min_two max_three min_three max_four min_four
set_option linter.unusedVariables false
set_option linter.unusedSimpArgs false

/-! ### impl_negative: function 49 -/
/-- A literal of one element, read in any world that holds its block. -/
theorem impl_negative.lit1 (W : World) (g : Nat) (x : S25) (B : Option Addr) (d : Nat) (hb : W.heap[g]? = some (.cells #[.int .i64 x.f0, .int .i64 x.f1, .slice B x.f2.length d] 25 (0, 0))) (hd : x.f2.length ≤ d) (hx : Kd.C k25 W B x.f2.length x.f2) : Kd.C k25 W (some ⟨g, 0, none⟩) 1 [x] := by
 refine ⟨rfl, by omega, fun _ => ⟨_, rfl, fun j p hj => ?_⟩⟩
 match j, hj with
 | 0, hj =>
  obtain rfl : x = p := by simpa using hj
  refine ⟨[.int .i64 x.f0, .int .i64 x.f1, .slice B x.f2.length d], rfl, k25_mk _ x hd hx, fun i u hu => ?_⟩
  rw [add_plain, Nat.zero_mul, Nat.zero_add]
  exact (blk_cell hb i).trans (by simpa using hu)
 | n + 1, hj => simp at hj
/-- A literal of two elements. -/
theorem impl_negative.lit2 (W : World) (g : Nat) (x y : S25) (B C : Option Addr) (d e : Nat) (hb : W.heap[g]? = some (.cells #[.int .i64 x.f0, .int .i64 x.f1, .slice B x.f2.length d, .int .i64 y.f0, .int .i64 y.f1, .slice C y.f2.length e] 25 (0, 0))) (hd : x.f2.length ≤ d) (hx : Kd.C k25 W B x.f2.length x.f2) (he : y.f2.length ≤ e) (hy : Kd.C k25 W C y.f2.length y.f2) : Kd.C k25 W (some ⟨g, 0, none⟩) 2 [x, y] := by
 refine ⟨rfl, by omega, fun _ => ⟨_, rfl, fun j p hj => ?_⟩⟩
 match j, hj with
 | 0, hj =>
  obtain rfl : x = p := by simpa using hj
  refine ⟨[.int .i64 x.f0, .int .i64 x.f1, .slice B x.f2.length d], rfl, k25_mk _ x hd hx, fun i u hu => ?_⟩
  rw [add_plain, Nat.zero_mul, Nat.zero_add]
  refine (blk_cell hb i).trans ?_
  match i, hu with
  | 0, hu => simpa using hu
  | 1, hu => simpa using hu
  | 2, hu => simpa using hu
  | n + 3, hu => simp at hu
 | 1, hj =>
  obtain rfl : y = p := by simpa using hj
  refine ⟨[.int .i64 y.f0, .int .i64 y.f1, .slice C y.f2.length e], rfl, k25_mk _ y he hy, fun i u hu => ?_⟩
  rw [add_plain]
  refine (blk_cell hb _).trans ?_
  show (#[.int .i64 x.f0, .int .i64 x.f1, .slice B x.f2.length d, .int .i64 y.f0, .int .i64 y.f1, .slice C y.f2.length e] : Array Value)[1 * 3 + i]? = some u
  match i, hu with
  | 0, hu => simpa using hu
  | 1, hu => simpa using hu
  | 2, hu => simpa using hu
  | n + 3, hu => simp at hu
 | n + 2, hj => simp at hj
theorem impl_negative.F1 {W : World} {P : Nat → Prop} {x : S25} {B : Option Addr} {d : Nat} (hd : x.f2.length ≤ d) (hF : Kd.F k25 W P B x.f2.length x.f2) : Kd.F k25 (W.alloc (.cells #[.int .i64 x.f0, .int .i64 x.f1, .slice B x.f2.length d] 25)) (fun k => P k ∨ k = W.heap.size) (some ⟨W.heap.size, 0, none⟩) 1 [x] := fun W' hW => by
 have hb := blk_new W (.cells #[.int .i64 x.f0, .int .i64 x.f1, .slice B x.f2.length d] 25)
 refine impl_negative.lit1 W' W.heap.size x B d ((hW _ (.inr rfl) (blk_lt hb)).trans hb) hd (hF W' (fun k hk hlt => ?_))
 have hlt2 : k < (W.alloc (.cells #[.int .i64 x.f0, .int .i64 x.f1, .slice B x.f2.length d] 25)).heap.size := by simp; omega
 exact (hW k (.inl hk) hlt2).trans (Below.heap_alloc W _ k hlt)
theorem impl_negative.F2 {W : World} {P : Nat → Prop} {x y : S25} {B C : Option Addr} {d e : Nat} (hd : x.f2.length ≤ d) (hx : Kd.F k25 W P B x.f2.length x.f2) (he : y.f2.length ≤ e) (hy : Kd.F k25 W P C y.f2.length y.f2) : Kd.F k25 (W.alloc (.cells #[.int .i64 x.f0, .int .i64 x.f1, .slice B x.f2.length d, .int .i64 y.f0, .int .i64 y.f1, .slice C y.f2.length e] 25)) (fun k => P k ∨ k = W.heap.size) (some ⟨W.heap.size, 0, none⟩) 2 [x, y] := fun W' hW => by
 have hb := blk_new W (.cells #[.int .i64 x.f0, .int .i64 x.f1, .slice B x.f2.length d, .int .i64 y.f0, .int .i64 y.f1, .slice C y.f2.length e] 25)
 have go : ∀ k, P k → k < W.heap.size → W'.heap[k]? = W.heap[k]? := fun k hk hlt => by
  have hlt2 : k < (W.alloc (.cells #[.int .i64 x.f0, .int .i64 x.f1, .slice B x.f2.length d, .int .i64 y.f0, .int .i64 y.f1, .slice C y.f2.length e] 25)).heap.size := by simp; omega
  exact (hW k (.inl hk) hlt2).trans (Below.heap_alloc W _ k hlt)
 exact impl_negative.lit2 W' W.heap.size x y B C d e ((hW _ (.inr rfl) (blk_lt hb)).trans hb) hd (hx W' go) he (hy W' go)
theorem impl_negative.keepd {W : World} {a : Addr} {u : Value} (h : W.cell? a = some u) : W.drew.cell? a = some u := h
theorem impl_negative.keep0 {W : World} {a : Addr} {u : Value} (h : W.cell? a = some u) (o : Obj) : (W.alloc o).cell? a = some u := (World.cell?_alloc_lt _ _ _ (World.block_lt_of_cell? W a h)).trans h
theorem impl_negative.keep1 {W : World} {a : Addr} {u : Value} {g : Nat} (h : W.cell? a = some u) (hn : g ≠ a.block) (x y z : Value) : (((W.setCell ⟨g, 0, none⟩ x).setCell ⟨g, 1, none⟩ y).setCell ⟨g, 2, none⟩ z).cell? a = some u := (World.cell?_setCell_far _ _ _ _ hn).trans ((World.cell?_setCell_far _ _ _ _ hn).trans ((World.cell?_setCell_far _ _ _ _ hn).trans h))
theorem impl_negative.keep2 {W : World} {a : Addr} {u : Value} {g : Nat} (h : W.cell? a = some u) (hn : g ≠ a.block) (o : Obj) (x y z : Value) : ((((W.alloc o).setCell ⟨g, 0, none⟩ x).setCell ⟨g, 1, none⟩ y).setCell ⟨g, 2, none⟩ z).cell? a = some u := impl_negative.keep1 (impl_negative.keep0 h o) hn x y z
/-- An element of a row that is read: its cells, and what it leads to. -/
theorem impl_negative.elem {W : World} {P : Nat → Prop} {A : Option Addr} {l : List S25} {c : Nat} (hF : Kd.F k25 W P A l.length l) (hc : l.length ≤ c) (i : Int) (h0 : 0 ≤ i) (h1 : i < l.length) : ∃ ad A2 c2, A = some ad ∧ W.cell? (ad.add (i.toNat * 3)) = some (.int .i64 (rd_T25 l i).f0) ∧ W.cell? ⟨(ad.add (i.toNat * 3)).block, (ad.add (i.toNat * 3)).off + 1, none⟩ = some (.int .i64 (rd_T25 l i).f1) ∧ W.cell? ⟨(ad.add (i.toNat * 3)).block, (ad.add (i.toNat * 3)).off + 2, none⟩ = some (.slice A2 (rd_T25 l i).f2.length c2) ∧ (rd_T25 l i).f2.length ≤ c2 ∧ Kd.F k25 W P A2 (rd_T25 l i).f2.length (rd_T25 l i).f2 := by
 obtain ⟨ad, A2, c2, rfl, x0, x1, x2, l2, _⟩ := at_T25 (Kd.F_now hF) i h0 h1
 have hV : Kd.V k25 25 W 0 P (.slice (some ad) l.length c) l := ⟨some ad, c, rfl, hc, hF⟩
 obtain ⟨ce, hce, hMe, hcc⟩ := Kd.V_get hV z25 i h0 h1
 obtain ⟨ua, uc, rfl, ul, ge⟩ := k25_openF hMe
 have hv := hcc 2 _ rfl
 rw [show i.toNat * k25.sz + 2 = i.toNat * 3 + 2 from rfl, add_field _ _ 2 (by omega)] at hv
 have hq := Option.some.inj (hv.symm.trans x2)
 injection hq with hva hvn hvc
 subst hva
 exact ⟨ad, ua, c2, rfl, x0, x1, x2, l2, ge⟩
def impl_negative.f : Nat → Int → Int → List S25 → Option (Int × Int × List S25)
 | 0, _, _, _ => none
 | k + 1, a, b, l => if a = 2 then (if 0 < (l.length : Int) then (impl_negative.f k (rd_T25 l 0).f0 (rd_T25 l 0).f1 (rd_T25 l 0).f2).bind fun p => some (2, 0, [⟨p.1, p.2.1, p.2.2⟩]) else none)
  else if a = 3 then (if 0 < (l.length : Int) then some (2, 0, [rd_T25 l 0]) else none)
  else if a = 4 ∨ a = 5 then (if 1 < (l.length : Int) then (impl_negative.f k (rd_T25 l 0).f0 (rd_T25 l 0).f1 (rd_T25 l 0).f2).bind fun p => (impl_negative.f k (rd_T25 l 1).f0 (rd_T25 l 1).f1 (rd_T25 l 1).f2).bind fun q => some (a, 0, [⟨p.1, p.2.1, p.2.2⟩, ⟨q.1, q.2.1, q.2.2⟩]) else none)
  else if a = 6 then (if 1 < (l.length : Int) then (impl_negative.f k (rd_T25 l 0).f0 (rd_T25 l 0).f1 (rd_T25 l 0).f2).bind fun p => some (6, 0, [⟨p.1, p.2.1, p.2.2⟩, rd_T25 l 1]) else none)
  else some (3, 0, [⟨a, b, l⟩])
set_option maxHeartbeats 8000000 in
set_option maxRecDepth 100000 in
theorem impl_negative.callsF (k : Nat) : ∀ (P : Nat → Prop) (a b : Int) (A : Option Addr) (c : Nat) (l : List S25) (r1 r2 : Int) (r3 : List S25) (w : World) (_ : ∀ k, P k → k < w.heap.size) (_ : Kd.F k25 w P A l.length l) (_ : l.length ≤ c) (_ : impl_negative.f k a b l = some (r1, r2, r3)),
  Calls Tryd.prog 49 #[.agg #[.int .i64 a, .int .i64 b, .slice A l.length c]] w fun e w' => ∃ (B : Option Addr) (d : Nat), e = .returned (.agg #[.int .i64 r1, .int .i64 r2, .slice B r3.length d]) ∧ r3.length ≤ d ∧ Kd.F k25 w' (fun k_ => P k_ ∨ w.heap.size ≤ k_) B r3.length r3 ∧ Below w.heap.size w w' := by
 induction k using Nat.strongRecOn with
 | _ k ih =>
 intro P a b A c l r1 r2 r3 w hP hF hc h
 cases k with
 | zero => exact absurd h (by simp [impl_negative.f])
 | succ k =>
 simp only [impl_negative.f] at h
 have IH := Ak (ih k (Nat.lt_succ_self k))
 clear ih
 have HC := Ak hc
 have HP := Ak hP
 clear hc hP
 have hmax : l.length ≤ 9223372036854775807 := Kd.F_max hF
 have hu := Tryd.underlying25
 by_cases q2 : a = 2
 ·subst q2
  rw [if_pos rfl] at h
  by_cases hl : 0 < (l.length : Int)
  case neg => rw [if_neg hl] at h; exact absurd h (by simp)
  rw [if_pos hl] at h
  obtain ⟨⟨p0, p1, p2⟩, hp, h⟩ := Option.bind_eq_some_iff.1 h
  simp only [Option.some.injEq, Prod.mk.injEq] at h
  obtain ⟨rfl, rfl, rfl⟩ := h
  replace hp := Ak hp
  have al1 := below_alloc (Below.refl w.heap.size w) (.cells #[.int .i64 2, .int .i64 b, .slice A l.length c] 25)
  have al2 := below_alloc (Below.refl (w.alloc (.cells #[.int .i64 2, .int .i64 b, .slice A l.length c] 25)).heap.size (w.alloc (.cells #[.int .i64 2, .int .i64 b, .slice A l.length c] 25))) (.cells #[.int .i64 0, .int .i64 0, .slice none 0 0] 25)
  have HB := Ak (below_step al1 al2)
  have B1 := Ak (blk_below (blk_new w (.cells #[.int .i64 2, .int .i64 b, .slice A l.length c] 25)) al2)
  have B2 := Ak (blk_new (w.alloc (.cells #[.int .i64 2, .int .i64 b, .slice A l.length c] 25)) (.cells #[.int .i64 0, .int .i64 0, .slice none 0 0] 25))
  have HF := Ak (Kd.F_below (Kd.F_below hF al1) al2)
  have hs2 : (w.alloc (.cells #[.int .i64 2, .int .i64 b, .slice A l.length c] 25)).heap.size = w.heap.size + 1 := by simp
  rw [hs2] at B2
  replace hs2 := Ak hs2
  have hz : ((w.alloc (.cells #[.int .i64 2, .int .i64 b, .slice A l.length c] 25)).alloc (.cells #[.int .i64 0, .int .i64 0, .slice none 0 0] 25)).heap.size = w.heap.size + 2 := by simp
  replace hz := Ak hz
  clear al1 al2 hF
  go_enter Tryd.func49, Tryd.ntmps49
  go_upto_region 1 with fail
  generalize (w.alloc (.cells #[.int .i64 2, .int .i64 b, .slice A l.length c] 25)).alloc (.cells #[.int .i64 0, .int .i64 0, .slice none 0 0] 25) = W at HB B1 B2 HF hz ⊢
  obtain ⟨g2, hg2⟩ : ∃ g, g = w.heap.size + 1 := ⟨_, rfl⟩
  obtain ⟨g1, hg1⟩ : ∃ g, g = w.heap.size := ⟨_, rfl⟩
  rw [← hg2] at B2 ⊢
  rw [← hg1] at B1 ⊢
  replace hg1 := Ak hg1
  replace hg2 := Ak hg2
  obtain ⟨ad0, A0, c0, e0, x00, x01, x02, l0, G0⟩ := impl_negative.elem HF.out HC.out 0 (by omega) (by omega)
  replace l0 := Ak l0
  replace G0 := Ak G0
  subst e0
  change W.cell? ad0 = some _ at x00
  change W.cell? ⟨ad0.block, ad0.off + 1, none⟩ = some _ at x01
  change W.cell? ⟨ad0.block, ad0.off + 2, none⟩ = some _ at x02
  have b6 : ((0 : Int) < (l.length : Int)) = True := eq_true (by omega)
  have b7 : (0 < l.length) = True := eq_true (by omega)
  obtain ⟨m0, m1, m2⟩ := Qu3 B1.out
  obtain ⟨n0, n1, n2, f0, f1, f2⟩ := Qv3 B2.out
  have k1 := World.new_ne W _ n0
  have k2 := k1.symm
  go_wp2_with ((go_at_call 49; with_reducible refine (IH.out P (rd_T25 l 0).f0 (rd_T25 l 0).f1 A0 c0 (rd_T25 l 0).f2 p0 p1 p2 _ ?hp ?hf l0.out hp.out).mono ?_; (case hp => exact U_23); (case hf => exact G0.out); rintro e w1 ⟨D0, d0, rfl, hd0, gf, hd⟩); have GF0 := Ak (show Kd.F k25 w1 (fun k_ => P k_ ∨ W.heap.size ≤ k_) D0 p2.length p2 from gf); replace hd0 := Ak hd0; have HW := Ak (show Below W.heap.size W w1 from hd); replace hd := HW.out; replace HB := Ak (below_step HB.out hd); replace B2 := Ak (blk_below B2.out hd); clear n0 n1 n2 f0 f1 f2 k1 k2; obtain ⟨n0, n1, n2, f0, f1, f2⟩ := Qv3 B2.out; have k1 := World.new_ne w1 _ n0; have k2 := k1.symm; obtain ⟨n3, n4, n5, f3, f4, f5⟩ := Qv3 (blk_alloc B2.out (.cells #[.int .i64 p0, .int .i64 p1, .slice D0 p2.length d0] 25)); clear gf hd)
  have hL : Kd.F k25 (w1.alloc (.cells #[.int .i64 p0, .int .i64 p1, .slice D0 p2.length d0] 25)) (fun k_ => (P k_ ∨ W.heap.size ≤ k_) ∨ k_ = w1.heap.size) (some ⟨w1.heap.size, 0, none⟩) 1 [(⟨p0, p1, p2⟩ : S25)] := impl_negative.F1 (x := (⟨p0, p1, p2⟩ : S25)) hd0.out GF0.out
  have hw : W.heap.size ≤ w1.heap.size := HW.out.size
  have hne : ∀ k_, ((P k_ ∨ W.heap.size ≤ k_) ∨ k_ = w1.heap.size) → k_ ≠ g2 := fun k_ hk e => by
   have h1 := hg2.out
   have h2 := hz.out
   rcases hk with (hk | hk) | hk
   ·have := HP.out k_ hk; omega
   ·omega
   ·omega
  have hq : w.heap.size ≤ g2 := by have := hg2.out; omega
  refine bodyPost_ret (results_cell_row rfl _ _ g2 25 #[.int .i64 2, .int .i64 0, .slice (some ⟨w1.heap.size, 0, none⟩) 1 1] (0, 0) _ rfl (blk_put (cs := #[.int .i64 2, .int .i64 0, .slice none 0 0]) (blk_put (cs := #[.int .i64 2, .int .i64 0, .slice none 0 0]) (blk_put (cs := #[.int .i64 0, .int .i64 0, .slice none 0 0]) (blk_alloc B2.out (.cells #[.int .i64 p0, .int .i64 p1, .slice D0 p2.length d0] 25)) 0 _ rfl) 1 _ rfl) 2 _ rfl) hu rfl (by kernel_rfl)) rfl ?_
  refine ⟨_, _, rfl, Nat.le_refl 1, ?_, ?_⟩
  ·exact Kd.F_mono (Kd.F_far (p := ⟨g2, 2, none⟩) (Kd.F_far (p := ⟨g2, 1, none⟩) (Kd.F_far (p := ⟨g2, 0, none⟩) hL hne _) hne _) hne _) (fun k_ hk => by have h1 := hz.out; rcases hk with (hk | hk) | hk; exact .inl hk; exact .inr (by omega); exact .inr (by omega))
  ·exact (((below_alloc HB.out (.cells #[.int .i64 p0, .int .i64 p1, .slice D0 p2.length d0] 25)).setCell (p := ⟨g2, 0, none⟩) hq _).setCell (p := ⟨g2, 1, none⟩) hq _).setCell (p := ⟨g2, 2, none⟩) hq _
 rw [if_neg q2] at h
 have bq2 : (a == 2) = false := beq_eq_false_iff_ne.mpr q2
 by_cases q3 : a = 3
 ·subst q3
  rw [if_pos rfl] at h
  by_cases hl : 0 < (l.length : Int)
  case neg => rw [if_neg hl] at h; exact absurd h (by simp)
  rw [if_pos hl] at h
  simp only [Option.some.injEq, Prod.mk.injEq] at h
  obtain ⟨rfl, rfl, rfl⟩ := h
  clear bq2 q2
  have al1 := below_alloc (Below.refl w.heap.size w) (.cells #[.int .i64 3, .int .i64 b, .slice A l.length c] 25)
  have al2 := below_alloc (Below.refl (w.alloc (.cells #[.int .i64 3, .int .i64 b, .slice A l.length c] 25)).heap.size (w.alloc (.cells #[.int .i64 3, .int .i64 b, .slice A l.length c] 25))) (.cells #[.int .i64 0, .int .i64 0, .slice none 0 0] 25)
  have HB := Ak (below_step al1 al2)
  have B1 := Ak (blk_below (blk_new w (.cells #[.int .i64 3, .int .i64 b, .slice A l.length c] 25)) al2)
  have B2 := Ak (blk_new (w.alloc (.cells #[.int .i64 3, .int .i64 b, .slice A l.length c] 25)) (.cells #[.int .i64 0, .int .i64 0, .slice none 0 0] 25))
  have HF := Ak (Kd.F_below (Kd.F_below hF al1) al2)
  have hs2 : (w.alloc (.cells #[.int .i64 3, .int .i64 b, .slice A l.length c] 25)).heap.size = w.heap.size + 1 := by simp
  rw [hs2] at B2
  replace hs2 := Ak hs2
  have hz : ((w.alloc (.cells #[.int .i64 3, .int .i64 b, .slice A l.length c] 25)).alloc (.cells #[.int .i64 0, .int .i64 0, .slice none 0 0] 25)).heap.size = w.heap.size + 2 := by simp
  replace hz := Ak hz
  clear al1 al2 hF
  go_enter Tryd.func49, Tryd.ntmps49
  go_upto_region 1 with fail
  generalize (w.alloc (.cells #[.int .i64 3, .int .i64 b, .slice A l.length c] 25)).alloc (.cells #[.int .i64 0, .int .i64 0, .slice none 0 0] 25) = W at HB B1 B2 HF hz ⊢
  obtain ⟨g2, hg2⟩ : ∃ g, g = w.heap.size + 1 := ⟨_, rfl⟩
  obtain ⟨g1, hg1⟩ : ∃ g, g = w.heap.size := ⟨_, rfl⟩
  rw [← hg2] at B2 ⊢
  rw [← hg1] at B1 ⊢
  replace hg1 := Ak hg1
  replace hg2 := Ak hg2
  obtain ⟨ad0, A0, c0, e0, x00, x01, x02, l0, G0⟩ := impl_negative.elem HF.out HC.out 0 (by omega) (by omega)
  replace l0 := Ak l0
  replace G0 := Ak G0
  subst e0
  change W.cell? ad0 = some _ at x00
  change W.cell? ⟨ad0.block, ad0.off + 1, none⟩ = some _ at x01
  change W.cell? ⟨ad0.block, ad0.off + 2, none⟩ = some _ at x02
  have b6 : ((0 : Int) < (l.length : Int)) = True := eq_true (by omega)
  have b7 : (0 < l.length) = True := eq_true (by omega)
  obtain ⟨m0, m1, m2⟩ := Qu3 B1.out
  obtain ⟨n0, n1, n2, f0, f1, f2⟩ := Qv3 B2.out
  have k1 := World.new_ne W _ n0
  have k2 := k1.symm
  have HW := Ak (Below.refl W.heap.size W)
  obtain ⟨n3, n4, n5, f3, f4, f5⟩ := Qv3 (blk_alloc B2.out (.cells #[.int .i64 (rd_T25 l 0).f0, .int .i64 (rd_T25 l 0).f1, .slice A0 (rd_T25 l 0).f2.length c0] 25))
  go_wp2
  have hL : Kd.F k25 (W.alloc (.cells #[.int .i64 (rd_T25 l 0).f0, .int .i64 (rd_T25 l 0).f1, .slice A0 (rd_T25 l 0).f2.length c0] 25)) (fun k_ => (P k_ ∨ W.heap.size ≤ k_) ∨ k_ = W.heap.size) (some ⟨W.heap.size, 0, none⟩) 1 [rd_T25 l 0] := impl_negative.F1 (x := rd_T25 l 0) l0.out (Kd.F_mono G0.out (fun _ hk => .inl hk))
  have hw : W.heap.size ≤ W.heap.size := HW.out.size
  have hne : ∀ k_, ((P k_ ∨ W.heap.size ≤ k_) ∨ k_ = W.heap.size) → k_ ≠ g2 := fun k_ hk e => by
   have h1 := hg2.out
   have h2 := hz.out
   rcases hk with (hk | hk) | hk
   ·have := HP.out k_ hk; omega
   ·omega
   ·omega
  have hq : w.heap.size ≤ g2 := by have := hg2.out; omega
  refine bodyPost_ret (results_cell_row rfl _ _ g2 25 #[.int .i64 2, .int .i64 0, .slice (some ⟨W.heap.size, 0, none⟩) 1 1] (0, 0) _ rfl (blk_put (cs := #[.int .i64 2, .int .i64 0, .slice none 0 0]) (blk_put (cs := #[.int .i64 2, .int .i64 0, .slice none 0 0]) (blk_put (cs := #[.int .i64 0, .int .i64 0, .slice none 0 0]) (blk_alloc B2.out (.cells #[.int .i64 (rd_T25 l 0).f0, .int .i64 (rd_T25 l 0).f1, .slice A0 (rd_T25 l 0).f2.length c0] 25)) 0 _ rfl) 1 _ rfl) 2 _ rfl) hu rfl (by kernel_rfl)) rfl ?_
  refine ⟨_, _, rfl, Nat.le_refl 1, ?_, ?_⟩
  ·exact Kd.F_mono (Kd.F_far (p := ⟨g2, 2, none⟩) (Kd.F_far (p := ⟨g2, 1, none⟩) (Kd.F_far (p := ⟨g2, 0, none⟩) hL hne _) hne _) hne _) (fun k_ hk => by have h1 := hz.out; rcases hk with (hk | hk) | hk; exact .inl hk; exact .inr (by omega); exact .inr (by omega))
  ·exact (((below_alloc HB.out (.cells #[.int .i64 (rd_T25 l 0).f0, .int .i64 (rd_T25 l 0).f1, .slice A0 (rd_T25 l 0).f2.length c0] 25)).setCell (p := ⟨g2, 0, none⟩) hq _).setCell (p := ⟨g2, 1, none⟩) hq _).setCell (p := ⟨g2, 2, none⟩) hq _
 rw [if_neg q3] at h
 have bq3 : (a == 3) = false := beq_eq_false_iff_ne.mpr q3
 by_cases q4 : a = 4
 ·subst q4
  rw [if_pos (by decide)] at h
  by_cases hl : 1 < (l.length : Int)
  case neg => rw [if_neg hl] at h; exact absurd h (by simp)
  rw [if_pos hl] at h
  obtain ⟨⟨p0, p1, p2⟩, hp, h⟩ := Option.bind_eq_some_iff.1 h
  obtain ⟨⟨s0, s1, s2⟩, hs, h⟩ := Option.bind_eq_some_iff.1 h
  simp only [Option.some.injEq, Prod.mk.injEq] at h
  obtain ⟨rfl, rfl, rfl⟩ := h
  replace hp := Ak hp
  replace hs := Ak hs
  clear bq2 bq3 q2 q3
  have hab : ∀ ad, A = some ad → ad.block < w.heap.size := fun ad e => by
   obtain ⟨ad2, _, _, e2, xo, _⟩ := impl_negative.elem hF HC.out 0 (by omega) (by omega)
   rw [e] at e2
   injection e2 with e2
   subst e2
   exact World.block_lt_of_cell? _ _ (show w.cell? ad = some _ from xo)
  have al1 := below_alloc (Below.refl w.heap.size w) (.cells #[.int .i64 4, .int .i64 b, .slice A l.length c] 25)
  have al2 := below_alloc (Below.refl (w.alloc (.cells #[.int .i64 4, .int .i64 b, .slice A l.length c] 25)).heap.size (w.alloc (.cells #[.int .i64 4, .int .i64 b, .slice A l.length c] 25))) (.cells #[.int .i64 0, .int .i64 0, .slice none 0 0] 25)
  have HB := Ak (below_step al1 al2)
  have B1 := Ak (blk_below (blk_new w (.cells #[.int .i64 4, .int .i64 b, .slice A l.length c] 25)) al2)
  have B2 := Ak (blk_new (w.alloc (.cells #[.int .i64 4, .int .i64 b, .slice A l.length c] 25)) (.cells #[.int .i64 0, .int .i64 0, .slice none 0 0] 25))
  have HF := Ak (Kd.F_below (Kd.F_below hF al1) al2)
  have hs2 : (w.alloc (.cells #[.int .i64 4, .int .i64 b, .slice A l.length c] 25)).heap.size = w.heap.size + 1 := by simp
  rw [hs2] at B2
  replace hs2 := Ak hs2
  have hz : ((w.alloc (.cells #[.int .i64 4, .int .i64 b, .slice A l.length c] 25)).alloc (.cells #[.int .i64 0, .int .i64 0, .slice none 0 0] 25)).heap.size = w.heap.size + 2 := by simp
  replace hz := Ak hz
  clear al1 al2 hF
  go_enter Tryd.func49, Tryd.ntmps49
  go_upto_region 1 with fail
  generalize (w.alloc (.cells #[.int .i64 4, .int .i64 b, .slice A l.length c] 25)).alloc (.cells #[.int .i64 0, .int .i64 0, .slice none 0 0] 25) = W at HB B1 B2 HF hz ⊢
  obtain ⟨g2, hg2⟩ : ∃ g, g = w.heap.size + 1 := ⟨_, rfl⟩
  obtain ⟨g1, hg1⟩ : ∃ g, g = w.heap.size := ⟨_, rfl⟩
  rw [← hg2] at B2 ⊢
  rw [← hg1] at B1 ⊢
  replace hg1 := Ak hg1
  replace hg2 := Ak hg2
  obtain ⟨ad0, A0, c0, e0, x00, x01, x02, l0, G0⟩ := impl_negative.elem HF.out HC.out 0 (by omega) (by omega)
  replace l0 := Ak l0
  replace G0 := Ak G0
  obtain ⟨ad1, A1, c1, e1, x10, x11, x12, l1, G1⟩ := impl_negative.elem HF.out HC.out 1 (by omega) (by omega)
  replace l1 := Ak l1
  replace G1 := Ak G1
  subst e0
  injection e1 with e1
  subst e1
  change W.cell? ad0 = some _ at x00
  change W.cell? ⟨ad0.block, ad0.off + 1, none⟩ = some _ at x01
  change W.cell? ⟨ad0.block, ad0.off + 2, none⟩ = some _ at x02
  change W.cell? ⟨ad0.block, ad0.off + 3, none⟩ = some _ at x10
  change W.cell? ⟨ad0.block, ad0.off + 3 + 1, none⟩ = some _ at x11
  change W.cell? ⟨ad0.block, ad0.off + 3 + 2, none⟩ = some _ at x12
  have b6 : ((0 : Int) < (l.length : Int)) = True := eq_true (by omega)
  have b7 : (0 < l.length) = True := eq_true (by omega)
  have b8 : ((1 : Int) < (l.length : Int)) = True := eq_true (by omega)
  have b9 : (1 < l.length) = True := eq_true (by omega)
  obtain ⟨m0, m1, m2⟩ := Qu3 B1.out
  obtain ⟨n0, n1, n2, f0, f1, f2⟩ := Qv3 B2.out
  have k1 := World.new_ne W _ n0
  have k2 := k1.symm
  have d21 : g2 ≠ g1 := by have h1 := hg1.out; have h2 := hg2.out; omega
  have d2a : g2 ≠ ad0.block := by have h1 := hab ad0 rfl; have h2 := hg2.out; omega
  clear hab
  go_upto_region 8 with fail
  go_region_held3 (fun w' => w'.cell? ⟨g1, 0, none⟩ = some (.int .i64 4) ∧ w'.cell? ⟨g1, 1, none⟩ = some (.int .i64 b) ∧ w'.cell? ⟨g1, 2, none⟩ = some (.slice (some ad0) l.length c) ∧ w'.cell? ad0 = some (.int .i64 (rd_T25 l 0).f0) ∧ w'.cell? ⟨ad0.block, ad0.off + 1, none⟩ = some (.int .i64 (rd_T25 l 0).f1) ∧ w'.cell? ⟨ad0.block, ad0.off + 2, none⟩ = some (.slice A0 (rd_T25 l 0).f2.length c0) ∧ w'.cell? ⟨ad0.block, ad0.off + 3, none⟩ = some (.int .i64 (rd_T25 l 1).f0) ∧ w'.cell? ⟨ad0.block, ad0.off + 3 + 1, none⟩ = some (.int .i64 (rd_T25 l 1).f1) ∧ w'.cell? ⟨ad0.block, ad0.off + 3 + 2, none⟩ = some (.slice A1 (rd_T25 l 1).f2.length c1)) (first | assumption | (with_reducible (refine ⟨?_, ?_, ?_, ?_, ?_, ?_, ?_, ?_, ?_⟩ <;> first | assumption | exact impl_negative.keepd (by assumption) | exact impl_negative.keep0 (by assumption) _ | (refine impl_negative.keep1 ?_ ?_ _ _ _; assumption; assumption) | (refine impl_negative.keep2 ?_ ?_ _ _ _ _; assumption; assumption)))) ((first | ((go_at_call 49; with_reducible refine (IH.out P (rd_T25 l 0).f0 (rd_T25 l 0).f1 A0 c0 (rd_T25 l 0).f2 p0 p1 p2 _ ?hp ?hf l0.out hp.out).mono ?_; (case hp => exact U_22); (case hf => exact Kd.F_drew G0.out); rintro e w1 ⟨D0, d0, rfl, hd0, gf, hd⟩); have GF0 := Ak (show Kd.F k25 w1 (fun k_ => P k_ ∨ W.heap.size ≤ k_) D0 p2.length p2 from gf); replace hd0 := Ak hd0; have HW := Ak (show Below W.heap.size W w1 from below_step (below_drew1 (Below.refl _ _)) hd); replace hd := HW.out; replace HB := Ak (below_step HB.out hd); replace B2 := Ak (blk_below B2.out hd); clear n0 n1 n2 f0 f1 f2 k1 k2; obtain ⟨n0, n1, n2, f0, f1, f2⟩ := Qv3 B2.out; have k1 := World.new_ne w1 _ n0; have k2 := k1.symm; replace m0 := pw_cell_below hd m0; replace m1 := pw_cell_below hd m1; replace m2 := pw_cell_below hd m2; replace x00 := pw_cell_below hd x00; replace x01 := pw_cell_below hd x01; replace x02 := pw_cell_below hd x02; replace x10 := pw_cell_below hd x10; replace x11 := pw_cell_below hd x11; replace x12 := pw_cell_below hd x12; clear gf hd) | ((go_at_call 49; with_reducible refine (IH.out P (rd_T25 l 1).f0 (rd_T25 l 1).f1 A1 c1 (rd_T25 l 1).f2 s0 s1 s2 _ ?hp ?hf l1.out hs.out).mono ?_; (case hp => exact U_23); (case hf => exact (Kd.F_below G1.out HW.out)); rintro e w2 ⟨D1, d1, rfl, hd1, gf, hd⟩); have GF1 := Ak (Kd.F_mono gf (ok' := fun k_ => P k_ ∨ W.heap.size ≤ k_) (fun k_ hk => hk.imp id (fun h2 => Nat.le_trans HW.out.size h2))); replace hd1 := Ak hd1; replace GF0 := Ak (Kd.F_below GF0.out hd); replace HW := Ak (below_step HW.out hd); replace HB := Ak (below_step HB.out hd); replace B2 := Ak (blk_below B2.out hd); clear n0 n1 n2 f0 f1 f2 k1 k2; obtain ⟨n0, n1, n2, f0, f1, f2⟩ := Qv3 B2.out; have k1 := World.new_ne w2 _ n0; have k2 := k1.symm; replace m0 := pw_cell_below hd m0; replace m1 := pw_cell_below hd m1; replace m2 := pw_cell_below hd m2; replace x00 := pw_cell_below hd x00; replace x01 := pw_cell_below hd x01; replace x02 := pw_cell_below hd x02; replace x10 := pw_cell_below hd x10; replace x11 := pw_cell_below hd x11; replace x12 := pw_cell_below hd x12; obtain ⟨n3, n4, n5, f3, f4, f5⟩ := Qv3 (blk_alloc B2.out (.cells #[.int .i64 p0, .int .i64 p1, .slice D0 p2.length d0, .int .i64 s0, .int .i64 s1, .slice D1 s2.length d1] 25)); clear gf hd)))
  go_wp2
  have hL : Kd.F k25 (w2.alloc (.cells #[.int .i64 p0, .int .i64 p1, .slice D0 p2.length d0, .int .i64 s0, .int .i64 s1, .slice D1 s2.length d1] 25)) (fun k_ => (P k_ ∨ W.heap.size ≤ k_) ∨ k_ = w2.heap.size) (some ⟨w2.heap.size, 0, none⟩) 2 [(⟨p0, p1, p2⟩ : S25), (⟨s0, s1, s2⟩ : S25)] := impl_negative.F2 (x := (⟨p0, p1, p2⟩ : S25)) (y := ⟨s0, s1, s2⟩) hd0.out GF0.out hd1.out GF1.out
  have hw : W.heap.size ≤ w2.heap.size := HW.out.size
  have hne : ∀ k_, ((P k_ ∨ W.heap.size ≤ k_) ∨ k_ = w2.heap.size) → k_ ≠ g2 := fun k_ hk e => by
   have h1 := hg2.out
   have h2 := hz.out
   rcases hk with (hk | hk) | hk
   ·have := HP.out k_ hk; omega
   ·omega
   ·omega
  have hq : w.heap.size ≤ g2 := by have := hg2.out; omega
  refine bodyPost_ret (results_cell_row rfl _ _ g2 25 #[.int .i64 4, .int .i64 0, .slice (some ⟨w2.heap.size, 0, none⟩) 2 2] (0, 0) _ rfl (blk_put (cs := #[.int .i64 4, .int .i64 0, .slice none 0 0]) (blk_put (cs := #[.int .i64 4, .int .i64 0, .slice none 0 0]) (blk_put (cs := #[.int .i64 0, .int .i64 0, .slice none 0 0]) (blk_alloc B2.out (.cells #[.int .i64 p0, .int .i64 p1, .slice D0 p2.length d0, .int .i64 s0, .int .i64 s1, .slice D1 s2.length d1] 25)) 0 _ rfl) 1 _ rfl) 2 _ rfl) hu rfl (by kernel_rfl)) rfl ?_
  refine ⟨_, _, rfl, Nat.le_refl 2, ?_, ?_⟩
  ·exact Kd.F_mono (Kd.F_far (p := ⟨g2, 2, none⟩) (Kd.F_far (p := ⟨g2, 1, none⟩) (Kd.F_far (p := ⟨g2, 0, none⟩) hL hne _) hne _) hne _) (fun k_ hk => by have h1 := hz.out; rcases hk with (hk | hk) | hk; exact .inl hk; exact .inr (by omega); exact .inr (by omega))
  ·exact (((below_alloc HB.out (.cells #[.int .i64 p0, .int .i64 p1, .slice D0 p2.length d0, .int .i64 s0, .int .i64 s1, .slice D1 s2.length d1] 25)).setCell (p := ⟨g2, 0, none⟩) hq _).setCell (p := ⟨g2, 1, none⟩) hq _).setCell (p := ⟨g2, 2, none⟩) hq _
 have bq4 : (a == 4) = false := beq_eq_false_iff_ne.mpr q4
 by_cases q5 : a = 5
 ·subst q5
  rw [if_pos (by decide)] at h
  by_cases hl : 1 < (l.length : Int)
  case neg => rw [if_neg hl] at h; exact absurd h (by simp)
  rw [if_pos hl] at h
  obtain ⟨⟨p0, p1, p2⟩, hp, h⟩ := Option.bind_eq_some_iff.1 h
  obtain ⟨⟨s0, s1, s2⟩, hs, h⟩ := Option.bind_eq_some_iff.1 h
  simp only [Option.some.injEq, Prod.mk.injEq] at h
  obtain ⟨rfl, rfl, rfl⟩ := h
  replace hp := Ak hp
  replace hs := Ak hs
  clear bq2 bq3 q2 q3
  clear bq4 q4
  have hab : ∀ ad, A = some ad → ad.block < w.heap.size := fun ad e => by
   obtain ⟨ad2, _, _, e2, xo, _⟩ := impl_negative.elem hF HC.out 0 (by omega) (by omega)
   rw [e] at e2
   injection e2 with e2
   subst e2
   exact World.block_lt_of_cell? _ _ (show w.cell? ad = some _ from xo)
  have al1 := below_alloc (Below.refl w.heap.size w) (.cells #[.int .i64 5, .int .i64 b, .slice A l.length c] 25)
  have al2 := below_alloc (Below.refl (w.alloc (.cells #[.int .i64 5, .int .i64 b, .slice A l.length c] 25)).heap.size (w.alloc (.cells #[.int .i64 5, .int .i64 b, .slice A l.length c] 25))) (.cells #[.int .i64 0, .int .i64 0, .slice none 0 0] 25)
  have HB := Ak (below_step al1 al2)
  have B1 := Ak (blk_below (blk_new w (.cells #[.int .i64 5, .int .i64 b, .slice A l.length c] 25)) al2)
  have B2 := Ak (blk_new (w.alloc (.cells #[.int .i64 5, .int .i64 b, .slice A l.length c] 25)) (.cells #[.int .i64 0, .int .i64 0, .slice none 0 0] 25))
  have HF := Ak (Kd.F_below (Kd.F_below hF al1) al2)
  have hs2 : (w.alloc (.cells #[.int .i64 5, .int .i64 b, .slice A l.length c] 25)).heap.size = w.heap.size + 1 := by simp
  rw [hs2] at B2
  replace hs2 := Ak hs2
  have hz : ((w.alloc (.cells #[.int .i64 5, .int .i64 b, .slice A l.length c] 25)).alloc (.cells #[.int .i64 0, .int .i64 0, .slice none 0 0] 25)).heap.size = w.heap.size + 2 := by simp
  replace hz := Ak hz
  clear al1 al2 hF
  go_enter Tryd.func49, Tryd.ntmps49
  go_upto_region 1 with fail
  generalize (w.alloc (.cells #[.int .i64 5, .int .i64 b, .slice A l.length c] 25)).alloc (.cells #[.int .i64 0, .int .i64 0, .slice none 0 0] 25) = W at HB B1 B2 HF hz ⊢
  obtain ⟨g2, hg2⟩ : ∃ g, g = w.heap.size + 1 := ⟨_, rfl⟩
  obtain ⟨g1, hg1⟩ : ∃ g, g = w.heap.size := ⟨_, rfl⟩
  rw [← hg2] at B2 ⊢
  rw [← hg1] at B1 ⊢
  replace hg1 := Ak hg1
  replace hg2 := Ak hg2
  obtain ⟨ad0, A0, c0, e0, x00, x01, x02, l0, G0⟩ := impl_negative.elem HF.out HC.out 0 (by omega) (by omega)
  replace l0 := Ak l0
  replace G0 := Ak G0
  obtain ⟨ad1, A1, c1, e1, x10, x11, x12, l1, G1⟩ := impl_negative.elem HF.out HC.out 1 (by omega) (by omega)
  replace l1 := Ak l1
  replace G1 := Ak G1
  subst e0
  injection e1 with e1
  subst e1
  change W.cell? ad0 = some _ at x00
  change W.cell? ⟨ad0.block, ad0.off + 1, none⟩ = some _ at x01
  change W.cell? ⟨ad0.block, ad0.off + 2, none⟩ = some _ at x02
  change W.cell? ⟨ad0.block, ad0.off + 3, none⟩ = some _ at x10
  change W.cell? ⟨ad0.block, ad0.off + 3 + 1, none⟩ = some _ at x11
  change W.cell? ⟨ad0.block, ad0.off + 3 + 2, none⟩ = some _ at x12
  have b6 : ((0 : Int) < (l.length : Int)) = True := eq_true (by omega)
  have b7 : (0 < l.length) = True := eq_true (by omega)
  have b8 : ((1 : Int) < (l.length : Int)) = True := eq_true (by omega)
  have b9 : (1 < l.length) = True := eq_true (by omega)
  obtain ⟨m0, m1, m2⟩ := Qu3 B1.out
  obtain ⟨n0, n1, n2, f0, f1, f2⟩ := Qv3 B2.out
  have k1 := World.new_ne W _ n0
  have k2 := k1.symm
  have d21 : g2 ≠ g1 := by have h1 := hg1.out; have h2 := hg2.out; omega
  have d2a : g2 ≠ ad0.block := by have h1 := hab ad0 rfl; have h2 := hg2.out; omega
  clear hab
  go_upto_region 8 with fail
  go_region_held3 (fun w' => w'.cell? ⟨g1, 0, none⟩ = some (.int .i64 5) ∧ w'.cell? ⟨g1, 1, none⟩ = some (.int .i64 b) ∧ w'.cell? ⟨g1, 2, none⟩ = some (.slice (some ad0) l.length c) ∧ w'.cell? ad0 = some (.int .i64 (rd_T25 l 0).f0) ∧ w'.cell? ⟨ad0.block, ad0.off + 1, none⟩ = some (.int .i64 (rd_T25 l 0).f1) ∧ w'.cell? ⟨ad0.block, ad0.off + 2, none⟩ = some (.slice A0 (rd_T25 l 0).f2.length c0) ∧ w'.cell? ⟨ad0.block, ad0.off + 3, none⟩ = some (.int .i64 (rd_T25 l 1).f0) ∧ w'.cell? ⟨ad0.block, ad0.off + 3 + 1, none⟩ = some (.int .i64 (rd_T25 l 1).f1) ∧ w'.cell? ⟨ad0.block, ad0.off + 3 + 2, none⟩ = some (.slice A1 (rd_T25 l 1).f2.length c1)) (first | assumption | (with_reducible (refine ⟨?_, ?_, ?_, ?_, ?_, ?_, ?_, ?_, ?_⟩ <;> first | assumption | exact impl_negative.keepd (by assumption) | exact impl_negative.keep0 (by assumption) _ | (refine impl_negative.keep1 ?_ ?_ _ _ _; assumption; assumption) | (refine impl_negative.keep2 ?_ ?_ _ _ _ _; assumption; assumption)))) ((first | ((go_at_call 49; with_reducible refine (IH.out P (rd_T25 l 0).f0 (rd_T25 l 0).f1 A0 c0 (rd_T25 l 0).f2 p0 p1 p2 _ ?hp ?hf l0.out hp.out).mono ?_; (case hp => exact U_22); (case hf => exact Kd.F_drew G0.out); rintro e w1 ⟨D0, d0, rfl, hd0, gf, hd⟩); have GF0 := Ak (show Kd.F k25 w1 (fun k_ => P k_ ∨ W.heap.size ≤ k_) D0 p2.length p2 from gf); replace hd0 := Ak hd0; have HW := Ak (show Below W.heap.size W w1 from below_step (below_drew1 (Below.refl _ _)) hd); replace hd := HW.out; replace HB := Ak (below_step HB.out hd); replace B2 := Ak (blk_below B2.out hd); clear n0 n1 n2 f0 f1 f2 k1 k2; obtain ⟨n0, n1, n2, f0, f1, f2⟩ := Qv3 B2.out; have k1 := World.new_ne w1 _ n0; have k2 := k1.symm; replace m0 := pw_cell_below hd m0; replace m1 := pw_cell_below hd m1; replace m2 := pw_cell_below hd m2; replace x00 := pw_cell_below hd x00; replace x01 := pw_cell_below hd x01; replace x02 := pw_cell_below hd x02; replace x10 := pw_cell_below hd x10; replace x11 := pw_cell_below hd x11; replace x12 := pw_cell_below hd x12; clear gf hd) | ((go_at_call 49; with_reducible refine (IH.out P (rd_T25 l 1).f0 (rd_T25 l 1).f1 A1 c1 (rd_T25 l 1).f2 s0 s1 s2 _ ?hp ?hf l1.out hs.out).mono ?_; (case hp => exact U_23); (case hf => exact (Kd.F_below G1.out HW.out)); rintro e w2 ⟨D1, d1, rfl, hd1, gf, hd⟩); have GF1 := Ak (Kd.F_mono gf (ok' := fun k_ => P k_ ∨ W.heap.size ≤ k_) (fun k_ hk => hk.imp id (fun h2 => Nat.le_trans HW.out.size h2))); replace hd1 := Ak hd1; replace GF0 := Ak (Kd.F_below GF0.out hd); replace HW := Ak (below_step HW.out hd); replace HB := Ak (below_step HB.out hd); replace B2 := Ak (blk_below B2.out hd); clear n0 n1 n2 f0 f1 f2 k1 k2; obtain ⟨n0, n1, n2, f0, f1, f2⟩ := Qv3 B2.out; have k1 := World.new_ne w2 _ n0; have k2 := k1.symm; replace m0 := pw_cell_below hd m0; replace m1 := pw_cell_below hd m1; replace m2 := pw_cell_below hd m2; replace x00 := pw_cell_below hd x00; replace x01 := pw_cell_below hd x01; replace x02 := pw_cell_below hd x02; replace x10 := pw_cell_below hd x10; replace x11 := pw_cell_below hd x11; replace x12 := pw_cell_below hd x12; obtain ⟨n3, n4, n5, f3, f4, f5⟩ := Qv3 (blk_alloc B2.out (.cells #[.int .i64 p0, .int .i64 p1, .slice D0 p2.length d0, .int .i64 s0, .int .i64 s1, .slice D1 s2.length d1] 25)); clear gf hd)))
  go_wp2
  have hL : Kd.F k25 (w2.alloc (.cells #[.int .i64 p0, .int .i64 p1, .slice D0 p2.length d0, .int .i64 s0, .int .i64 s1, .slice D1 s2.length d1] 25)) (fun k_ => (P k_ ∨ W.heap.size ≤ k_) ∨ k_ = w2.heap.size) (some ⟨w2.heap.size, 0, none⟩) 2 [(⟨p0, p1, p2⟩ : S25), (⟨s0, s1, s2⟩ : S25)] := impl_negative.F2 (x := (⟨p0, p1, p2⟩ : S25)) (y := ⟨s0, s1, s2⟩) hd0.out GF0.out hd1.out GF1.out
  have hw : W.heap.size ≤ w2.heap.size := HW.out.size
  have hne : ∀ k_, ((P k_ ∨ W.heap.size ≤ k_) ∨ k_ = w2.heap.size) → k_ ≠ g2 := fun k_ hk e => by
   have h1 := hg2.out
   have h2 := hz.out
   rcases hk with (hk | hk) | hk
   ·have := HP.out k_ hk; omega
   ·omega
   ·omega
  have hq : w.heap.size ≤ g2 := by have := hg2.out; omega
  refine bodyPost_ret (results_cell_row rfl _ _ g2 25 #[.int .i64 5, .int .i64 0, .slice (some ⟨w2.heap.size, 0, none⟩) 2 2] (0, 0) _ rfl (blk_put (cs := #[.int .i64 5, .int .i64 0, .slice none 0 0]) (blk_put (cs := #[.int .i64 5, .int .i64 0, .slice none 0 0]) (blk_put (cs := #[.int .i64 0, .int .i64 0, .slice none 0 0]) (blk_alloc B2.out (.cells #[.int .i64 p0, .int .i64 p1, .slice D0 p2.length d0, .int .i64 s0, .int .i64 s1, .slice D1 s2.length d1] 25)) 0 _ rfl) 1 _ rfl) 2 _ rfl) hu rfl (by kernel_rfl)) rfl ?_
  refine ⟨_, _, rfl, Nat.le_refl 2, ?_, ?_⟩
  ·exact Kd.F_mono (Kd.F_far (p := ⟨g2, 2, none⟩) (Kd.F_far (p := ⟨g2, 1, none⟩) (Kd.F_far (p := ⟨g2, 0, none⟩) hL hne _) hne _) hne _) (fun k_ hk => by have h1 := hz.out; rcases hk with (hk | hk) | hk; exact .inl hk; exact .inr (by omega); exact .inr (by omega))
  ·exact (((below_alloc HB.out (.cells #[.int .i64 p0, .int .i64 p1, .slice D0 p2.length d0, .int .i64 s0, .int .i64 s1, .slice D1 s2.length d1] 25)).setCell (p := ⟨g2, 0, none⟩) hq _).setCell (p := ⟨g2, 1, none⟩) hq _).setCell (p := ⟨g2, 2, none⟩) hq _
 have bq5 : (a == 5) = false := beq_eq_false_iff_ne.mpr q5
 rw [if_neg (by omega)] at h
 by_cases q6 : a = 6
 ·subst q6
  rw [if_pos rfl] at h
  by_cases hl : 1 < (l.length : Int)
  case neg => rw [if_neg hl] at h; exact absurd h (by simp)
  rw [if_pos hl] at h
  obtain ⟨⟨p0, p1, p2⟩, hp, h⟩ := Option.bind_eq_some_iff.1 h
  simp only [Option.some.injEq, Prod.mk.injEq] at h
  obtain ⟨rfl, rfl, rfl⟩ := h
  replace hp := Ak hp
  clear bq2 bq3 q2 q3 q4 bq4 q5 bq5
  have hab : ∀ ad, A = some ad → ad.block < w.heap.size := fun ad e => by
   obtain ⟨ad2, _, _, e2, xo, _⟩ := impl_negative.elem hF HC.out 0 (by omega) (by omega)
   rw [e] at e2
   injection e2 with e2
   subst e2
   exact World.block_lt_of_cell? _ _ (show w.cell? ad = some _ from xo)
  have al1 := below_alloc (Below.refl w.heap.size w) (.cells #[.int .i64 6, .int .i64 b, .slice A l.length c] 25)
  have al2 := below_alloc (Below.refl (w.alloc (.cells #[.int .i64 6, .int .i64 b, .slice A l.length c] 25)).heap.size (w.alloc (.cells #[.int .i64 6, .int .i64 b, .slice A l.length c] 25))) (.cells #[.int .i64 0, .int .i64 0, .slice none 0 0] 25)
  have HB := Ak (below_step al1 al2)
  have B1 := Ak (blk_below (blk_new w (.cells #[.int .i64 6, .int .i64 b, .slice A l.length c] 25)) al2)
  have B2 := Ak (blk_new (w.alloc (.cells #[.int .i64 6, .int .i64 b, .slice A l.length c] 25)) (.cells #[.int .i64 0, .int .i64 0, .slice none 0 0] 25))
  have HF := Ak (Kd.F_below (Kd.F_below hF al1) al2)
  have hs2 : (w.alloc (.cells #[.int .i64 6, .int .i64 b, .slice A l.length c] 25)).heap.size = w.heap.size + 1 := by simp
  rw [hs2] at B2
  replace hs2 := Ak hs2
  have hz : ((w.alloc (.cells #[.int .i64 6, .int .i64 b, .slice A l.length c] 25)).alloc (.cells #[.int .i64 0, .int .i64 0, .slice none 0 0] 25)).heap.size = w.heap.size + 2 := by simp
  replace hz := Ak hz
  clear al1 al2 hF
  go_enter Tryd.func49, Tryd.ntmps49
  go_upto_region 1 with fail
  generalize (w.alloc (.cells #[.int .i64 6, .int .i64 b, .slice A l.length c] 25)).alloc (.cells #[.int .i64 0, .int .i64 0, .slice none 0 0] 25) = W at HB B1 B2 HF hz ⊢
  obtain ⟨g2, hg2⟩ : ∃ g, g = w.heap.size + 1 := ⟨_, rfl⟩
  obtain ⟨g1, hg1⟩ : ∃ g, g = w.heap.size := ⟨_, rfl⟩
  rw [← hg2] at B2 ⊢
  rw [← hg1] at B1 ⊢
  replace hg1 := Ak hg1
  replace hg2 := Ak hg2
  obtain ⟨ad0, A0, c0, e0, x00, x01, x02, l0, G0⟩ := impl_negative.elem HF.out HC.out 0 (by omega) (by omega)
  replace l0 := Ak l0
  replace G0 := Ak G0
  obtain ⟨ad1, A1, c1, e1, x10, x11, x12, l1, G1⟩ := impl_negative.elem HF.out HC.out 1 (by omega) (by omega)
  replace l1 := Ak l1
  replace G1 := Ak G1
  subst e0
  injection e1 with e1
  subst e1
  change W.cell? ad0 = some _ at x00
  change W.cell? ⟨ad0.block, ad0.off + 1, none⟩ = some _ at x01
  change W.cell? ⟨ad0.block, ad0.off + 2, none⟩ = some _ at x02
  change W.cell? ⟨ad0.block, ad0.off + 3, none⟩ = some _ at x10
  change W.cell? ⟨ad0.block, ad0.off + 3 + 1, none⟩ = some _ at x11
  change W.cell? ⟨ad0.block, ad0.off + 3 + 2, none⟩ = some _ at x12
  have b6 : ((0 : Int) < (l.length : Int)) = True := eq_true (by omega)
  have b7 : (0 < l.length) = True := eq_true (by omega)
  have b8 : ((1 : Int) < (l.length : Int)) = True := eq_true (by omega)
  have b9 : (1 < l.length) = True := eq_true (by omega)
  obtain ⟨m0, m1, m2⟩ := Qu3 B1.out
  obtain ⟨n0, n1, n2, f0, f1, f2⟩ := Qv3 B2.out
  have k1 := World.new_ne W _ n0
  have k2 := k1.symm
  have d21 : g2 ≠ g1 := by have h1 := hg1.out; have h2 := hg2.out; omega
  have d2a : g2 ≠ ad0.block := by have h1 := hab ad0 rfl; have h2 := hg2.out; omega
  clear hab
  go_upto_region 10 with fail
  go_region_held3 (fun w' => w'.cell? ⟨g1, 0, none⟩ = some (.int .i64 6) ∧ w'.cell? ⟨g1, 1, none⟩ = some (.int .i64 b) ∧ w'.cell? ⟨g1, 2, none⟩ = some (.slice (some ad0) l.length c) ∧ w'.cell? ad0 = some (.int .i64 (rd_T25 l 0).f0) ∧ w'.cell? ⟨ad0.block, ad0.off + 1, none⟩ = some (.int .i64 (rd_T25 l 0).f1) ∧ w'.cell? ⟨ad0.block, ad0.off + 2, none⟩ = some (.slice A0 (rd_T25 l 0).f2.length c0) ∧ w'.cell? ⟨ad0.block, ad0.off + 3, none⟩ = some (.int .i64 (rd_T25 l 1).f0) ∧ w'.cell? ⟨ad0.block, ad0.off + 3 + 1, none⟩ = some (.int .i64 (rd_T25 l 1).f1) ∧ w'.cell? ⟨ad0.block, ad0.off + 3 + 2, none⟩ = some (.slice A1 (rd_T25 l 1).f2.length c1)) (first | assumption | (with_reducible (refine ⟨?_, ?_, ?_, ?_, ?_, ?_, ?_, ?_, ?_⟩ <;> first | assumption | exact impl_negative.keepd (by assumption) | exact impl_negative.keep0 (by assumption) _ | (refine impl_negative.keep1 ?_ ?_ _ _ _; assumption; assumption) | (refine impl_negative.keep2 ?_ ?_ _ _ _ _; assumption; assumption)))) ((first | ((go_at_call 49; with_reducible refine (IH.out P (rd_T25 l 0).f0 (rd_T25 l 0).f1 A0 c0 (rd_T25 l 0).f2 p0 p1 p2 _ ?hp ?hf l0.out hp.out).mono ?_; (case hp => exact U_22); (case hf => exact Kd.F_drew G0.out); rintro e w1 ⟨D0, d0, rfl, hd0, gf, hd⟩); have GF0 := Ak (show Kd.F k25 w1 (fun k_ => P k_ ∨ W.heap.size ≤ k_) D0 p2.length p2 from gf); replace hd0 := Ak hd0; have HW := Ak (show Below W.heap.size W w1 from below_step (below_drew1 (Below.refl _ _)) hd); replace hd := HW.out; replace HB := Ak (below_step HB.out hd); replace B2 := Ak (blk_below B2.out hd); clear n0 n1 n2 f0 f1 f2 k1 k2; obtain ⟨n0, n1, n2, f0, f1, f2⟩ := Qv3 B2.out; have k1 := World.new_ne w1 _ n0; have k2 := k1.symm; replace m0 := pw_cell_below hd m0; replace m1 := pw_cell_below hd m1; replace m2 := pw_cell_below hd m2; replace x00 := pw_cell_below hd x00; replace x01 := pw_cell_below hd x01; replace x02 := pw_cell_below hd x02; replace x10 := pw_cell_below hd x10; replace x11 := pw_cell_below hd x11; replace x12 := pw_cell_below hd x12; obtain ⟨n3, n4, n5, f3, f4, f5⟩ := Qv3 (blk_alloc B2.out (.cells #[.int .i64 p0, .int .i64 p1, .slice D0 p2.length d0, .int .i64 (rd_T25 l 1).f0, .int .i64 (rd_T25 l 1).f1, .slice A1 (rd_T25 l 1).f2.length c1] 25)); clear gf hd)))
  go_wp2
  have hL : Kd.F k25 (w1.alloc (.cells #[.int .i64 p0, .int .i64 p1, .slice D0 p2.length d0, .int .i64 (rd_T25 l 1).f0, .int .i64 (rd_T25 l 1).f1, .slice A1 (rd_T25 l 1).f2.length c1] 25)) (fun k_ => (P k_ ∨ W.heap.size ≤ k_) ∨ k_ = w1.heap.size) (some ⟨w1.heap.size, 0, none⟩) 2 [(⟨p0, p1, p2⟩ : S25), rd_T25 l 1] := impl_negative.F2 (x := (⟨p0, p1, p2⟩ : S25)) (y := rd_T25 l 1) hd0.out GF0.out l1.out (Kd.F_mono (Kd.F_below G1.out HW.out) (fun _ hk => .inl hk))
  have hw : W.heap.size ≤ w1.heap.size := HW.out.size
  have hne : ∀ k_, ((P k_ ∨ W.heap.size ≤ k_) ∨ k_ = w1.heap.size) → k_ ≠ g2 := fun k_ hk e => by
   have h1 := hg2.out
   have h2 := hz.out
   rcases hk with (hk | hk) | hk
   ·have := HP.out k_ hk; omega
   ·omega
   ·omega
  have hq : w.heap.size ≤ g2 := by have := hg2.out; omega
  refine bodyPost_ret (results_cell_row rfl _ _ g2 25 #[.int .i64 6, .int .i64 0, .slice (some ⟨w1.heap.size, 0, none⟩) 2 2] (0, 0) _ rfl (blk_put (cs := #[.int .i64 6, .int .i64 0, .slice none 0 0]) (blk_put (cs := #[.int .i64 6, .int .i64 0, .slice none 0 0]) (blk_put (cs := #[.int .i64 0, .int .i64 0, .slice none 0 0]) (blk_alloc B2.out (.cells #[.int .i64 p0, .int .i64 p1, .slice D0 p2.length d0, .int .i64 (rd_T25 l 1).f0, .int .i64 (rd_T25 l 1).f1, .slice A1 (rd_T25 l 1).f2.length c1] 25)) 0 _ rfl) 1 _ rfl) 2 _ rfl) hu rfl (by kernel_rfl)) rfl ?_
  refine ⟨_, _, rfl, Nat.le_refl 2, ?_, ?_⟩
  ·exact Kd.F_mono (Kd.F_far (p := ⟨g2, 2, none⟩) (Kd.F_far (p := ⟨g2, 1, none⟩) (Kd.F_far (p := ⟨g2, 0, none⟩) hL hne _) hne _) hne _) (fun k_ hk => by have h1 := hz.out; rcases hk with (hk | hk) | hk; exact .inl hk; exact .inr (by omega); exact .inr (by omega))
  ·exact (((below_alloc HB.out (.cells #[.int .i64 p0, .int .i64 p1, .slice D0 p2.length d0, .int .i64 (rd_T25 l 1).f0, .int .i64 (rd_T25 l 1).f1, .slice A1 (rd_T25 l 1).f2.length c1] 25)).setCell (p := ⟨g2, 0, none⟩) hq _).setCell (p := ⟨g2, 1, none⟩) hq _).setCell (p := ⟨g2, 2, none⟩) hq _
 have bq6 : (a == 6) = false := beq_eq_false_iff_ne.mpr q6
 rw [if_neg q6] at h
 simp only [Option.some.injEq, Prod.mk.injEq] at h
 obtain ⟨rfl, rfl, rfl⟩ := h
 have al1 := below_alloc (Below.refl w.heap.size w) (.cells #[.int .i64 a, .int .i64 b, .slice A l.length c] 25)
 have al2 := below_alloc (Below.refl (w.alloc (.cells #[.int .i64 a, .int .i64 b, .slice A l.length c] 25)).heap.size (w.alloc (.cells #[.int .i64 a, .int .i64 b, .slice A l.length c] 25))) (.cells #[.int .i64 0, .int .i64 0, .slice none 0 0] 25)
 have HB := Ak (below_step al1 al2)
 have B1 := Ak (blk_below (blk_new w (.cells #[.int .i64 a, .int .i64 b, .slice A l.length c] 25)) al2)
 have B2 := Ak (blk_new (w.alloc (.cells #[.int .i64 a, .int .i64 b, .slice A l.length c] 25)) (.cells #[.int .i64 0, .int .i64 0, .slice none 0 0] 25))
 have HF := Ak (Kd.F_below (Kd.F_below hF al1) al2)
 have hs2 : (w.alloc (.cells #[.int .i64 a, .int .i64 b, .slice A l.length c] 25)).heap.size = w.heap.size + 1 := by simp
 rw [hs2] at B2
 replace hs2 := Ak hs2
 have hz : ((w.alloc (.cells #[.int .i64 a, .int .i64 b, .slice A l.length c] 25)).alloc (.cells #[.int .i64 0, .int .i64 0, .slice none 0 0] 25)).heap.size = w.heap.size + 2 := by simp
 replace hz := Ak hz
 clear al1 al2 hF
 go_enter Tryd.func49, Tryd.ntmps49
 go_upto_region 1 with fail
 generalize (w.alloc (.cells #[.int .i64 a, .int .i64 b, .slice A l.length c] 25)).alloc (.cells #[.int .i64 0, .int .i64 0, .slice none 0 0] 25) = W at HB B1 B2 HF hz ⊢
 obtain ⟨g2, hg2⟩ : ∃ g, g = w.heap.size + 1 := ⟨_, rfl⟩
 obtain ⟨g1, hg1⟩ : ∃ g, g = w.heap.size := ⟨_, rfl⟩
 rw [← hg2] at B2 ⊢
 rw [← hg1] at B1 ⊢
 replace hg1 := Ak hg1
 replace hg2 := Ak hg2
 obtain ⟨m0, m1, m2⟩ := Qu3 B1.out
 obtain ⟨n0, n1, n2, f0, f1, f2⟩ := Qv3 B2.out
 have k1 := World.new_ne W _ n0
 have k2 := k1.symm
 have HW := Ak (Below.refl W.heap.size W)
 obtain ⟨n3, n4, n5, f3, f4, f5⟩ := Qv3 (blk_alloc B2.out (.cells #[.int .i64 a, .int .i64 b, .slice A l.length c] 25))
 go_wp2
 have hL : Kd.F k25 (W.alloc (.cells #[.int .i64 a, .int .i64 b, .slice A l.length c] 25)) (fun k_ => (P k_ ∨ W.heap.size ≤ k_) ∨ k_ = W.heap.size) (some ⟨W.heap.size, 0, none⟩) 1 [(⟨a, b, l⟩ : S25)] := impl_negative.F1 (x := ⟨a, b, l⟩) HC.out (Kd.F_mono HF.out (fun _ hk => .inl hk))
 have hw : W.heap.size ≤ W.heap.size := HW.out.size
 have hne : ∀ k_, ((P k_ ∨ W.heap.size ≤ k_) ∨ k_ = W.heap.size) → k_ ≠ g2 := fun k_ hk e => by
  have h1 := hg2.out
  have h2 := hz.out
  rcases hk with (hk | hk) | hk
  ·have := HP.out k_ hk; omega
  ·omega
  ·omega
 have hq : w.heap.size ≤ g2 := by have := hg2.out; omega
 refine bodyPost_ret (results_cell_row rfl _ _ g2 25 #[.int .i64 3, .int .i64 0, .slice (some ⟨W.heap.size, 0, none⟩) 1 1] (0, 0) _ rfl (blk_put (cs := #[.int .i64 3, .int .i64 0, .slice none 0 0]) (blk_put (cs := #[.int .i64 3, .int .i64 0, .slice none 0 0]) (blk_put (cs := #[.int .i64 0, .int .i64 0, .slice none 0 0]) (blk_alloc B2.out (.cells #[.int .i64 a, .int .i64 b, .slice A l.length c] 25)) 0 _ rfl) 1 _ rfl) 2 _ rfl) hu rfl (by kernel_rfl)) rfl ?_
 refine ⟨_, _, rfl, Nat.le_refl 1, ?_, ?_⟩
 ·exact Kd.F_mono (Kd.F_far (p := ⟨g2, 2, none⟩) (Kd.F_far (p := ⟨g2, 1, none⟩) (Kd.F_far (p := ⟨g2, 0, none⟩) hL hne _) hne _) hne _) (fun k_ hk => by have h1 := hz.out; rcases hk with (hk | hk) | hk; exact .inl hk; exact .inr (by omega); exact .inr (by omega))
 ·exact (((below_alloc HB.out (.cells #[.int .i64 a, .int .i64 b, .slice A l.length c] 25)).setCell (p := ⟨g2, 0, none⟩) hq _).setCell (p := ⟨g2, 1, none⟩) hq _).setCell (p := ⟨g2, 2, none⟩) hq _

end Go.Proofs.YtjfgcipbbcplmaaDoor.HFnExprs

/- Text for FnStack: written by a program of this session on the pattern of the kit's print. -/
import Derived.Test.YtlmiankjbffboaaHFnStackx0
import Derived.Test.YtlmiankjbffboaaHFnStackx5
namespace Go.Proofs.Ytlmiankjbffboaa.HFnStack
open Go.RowKit Go.Proofs.YtlmiankjbffboaaW.PrintWords Go.Proofs.YtlmiankjbffboaaW.PrintLast Go.Proofs.YtlmiankjbffboaaW.PrintMore
attribute [local go_sem] max2_int min2_int max_two min_two max_three min_three max_four min_four   -- for this text's walks alone
set_option linter.unusedVariables false
set_option linter.unusedSimpArgs false

/-! ### spec_MakeCode: function 21 -/
def spec_MakeCode.f (k : Nat) (l0 : List Int) : Option ((List (S48))) := (spec_l01New.f k l0).bind fun bt271 => ((spec_l7Code.f k bt271.1 bt271.2.1 bt271.2.2).bind fun bt275 => (some bt275.1))
theorem spec_MakeCode.mono : ∀ a0 k, LeO (spec_MakeCode.f k a0) (spec_MakeCode.f (k + 1) a0) := by
 intro a0 k
 unfold spec_MakeCode.f
 repeat' first
   | (with_reducible exact spec_l01New.mono _ _)
   | (with_reducible exact spec_l7Code.mono _ _ _ _)
   | (with_reducible exact LeO.refl _)
   | (with_reducible exact LeO.none _)
   | (with_reducible refine LeO.ite ?_ ?_)
   | (with_reducible refine LeO.bind ?_ (fun _ => ?_))
   | exact spec_l01New.mono _ _
   | exact spec_l7Code.mono _ _ _ _
   | exact LeO.none _
   | refine LeO.ite ?_ ?_
   | refine LeO.bind ?_ (fun _ => ?_)
set_option maxHeartbeats 8000000 in
set_option maxRecDepth 100000 in
theorem spec_MakeCode.calls (k : Nat) (A0 : Option Addr) (c0 : Nat) (l0 : List Int) (r : List (S48)) (w : World) (hr0 : Kd.C (Kd.int .u8) w A0 l0.length l0) (hc0 : l0.length ≤ c0) (h : spec_MakeCode.f k l0 = some r) :
  Calls Try.prog 21 #[.slice A0 l0.length c0] w fun e w' => ∃ v0_ : Value, e = .returned (v0_) ∧ Kd.R k48 48 w' w.heap.size (fun _ => True) v0_ r ∧ Below w.heap.size w w' := by
 have HR0 := Aside0.mk hr0
 have HC0 := Aside0.mk hc0
 clear hr0 hc0
 have HB := Aside0.mk (Below.refl w.heap.size w)
 have H : ((spec_l01New.f k l0).bind fun bt271 => ((spec_l7Code.f k bt271.1 bt271.2.1 bt271.2.2).bind fun bt275 => (some bt275.1))) = some r := h
 clear h
 replace H := Option.bind_eq_some_iff.mp H
 obtain ⟨⟨t271, t272, t273⟩, A20, H⟩ := H
 replace H : ((spec_l7Code.f k t271 t272 t273).bind fun bt275 => (some bt275.1)) = some r := H
 have A2 := Aside0.mk A20
 clear A20
 replace H := Option.bind_eq_some_iff.mp H
 obtain ⟨⟨t275, t278, t279⟩, A30, H⟩ := H
 replace H : (some t275) = some r := H
 have A3 := Aside0.mk A30
 clear A30
 obtain rfl := Option.some.inj H
 go_enter Try.func21, Try.ntmps21
 go_wp2_with (first | ((with_reducible refine gate_callee (f := 50) rfl ?_); refine goesL_ (some 4) rfl rfl Try.func50 (by kernel_rfl) rfl #[.slice A0 l0.length c0] rfl (by (try simp only [List.map_toArray, List.map_cons, List.map_nil]); first | done | rfl | (simp only [List.length_drop, List.length_take]; rfl)) ?_; (with_reducible refine (spec_l01New.calls k _ _ l0 t271 t272 t273 w _ ?side1 ?side2 ?side3 A2.out).mono ?_); (case side1 => repeat (first | (with_reducible first | exact HB.out | apply below_alloc | apply pw_below_drewN | apply below_drew1) | exact HB.out)); (case side2 => exact HR0.out); (case side3 => exact HC0.out); rintro e w4 ⟨g274, rfl, hi, hb, hb2⟩; refine ⟨_, rfl, ?_⟩; have n0_ := Aside0.mk (hb); have n1_ := Aside0.mk (hi); clear HB; have HB := n0_; have HI274 := n1_; clear n0_ n1_; (try clear hb); (try clear hb2); (try clear hk); (try clear hi)) | ((with_reducible refine gate_callee (f := 49) rfl ?_); refine goesL_ (some 5) rfl rfl Try.func49 (by kernel_rfl) rfl #[.pointer (some ⟨g274, 0, none⟩)] rfl (by (try simp only [List.map_toArray, List.map_cons, List.map_nil]); first | done | rfl | (simp only [List.length_drop, List.length_take]; rfl)) ?_; (with_reducible refine (spec_l7Code.calls k g274 t271 t272 t273 t275 t278 t279 w _ ?side1 ?side2 A3.out).mono ?_); (case side1 => repeat (first | (with_reducible first | exact HI274.out | apply IsS90.alloc | apply IsS90.drewN | apply IsS90.drew | apply IsS90.set_1 | apply IsS90.set_2) | exact HI274.out)); (case side2 => repeat (first | (with_reducible first | exact HB.out | apply below_alloc | apply pw_below_drewN | apply below_drew1 | refine below_set ?_ (IsS90.ge HI274.out)) | exact HB.out)); rintro e w5 ⟨v276, rfl, ho0, hi, hb, hk⟩; refine ⟨_, rfl, ?_⟩; have n0_ := Aside0.mk (Kd.R_lower ho0 (below_size (by repeat (first | (with_reducible first | exact HB.out | apply below_alloc | apply pw_below_drewN | apply below_drew1 | refine below_set ?_ (IsS90.ge HI274.out)) | exact HB.out)))); have n1_ := Aside0.mk (hb); have n2_ := Aside0.mk (hi); clear HB; clear HI274; have HO277 := n0_; have HB := n1_; have HI274 := n2_; clear n0_ n1_ n2_; (try clear hb); (try clear hb2); (try clear hk); (try clear hi); (try clear ho0)))
 go_ret
 exact ⟨_, by first | rfl | (simp [errW_none, errW_some] <;> rfl) | (simp [*, errW_none, errW_some] <;> rfl), by (with_reducible repeat (first | apply Kd.R_alloc | apply Kd.R_drewN | apply Kd.R_drew)); exact HO277.out, by repeat (first | (with_reducible first | exact HB.out | apply below_alloc | apply pw_below_drewN | apply below_drew1 | refine below_set ?_ (IsS90.ge HI274.out)) | exact HB.out)⟩

/-! ### spec_l1In: function 48 -/
def spec_l1In.f (a0 : Int) (a1 : Int) (a2 : Int) : Option (Bool) := if a0 ≥ a1 then (some (decide (a0 ≤ a2))) else (some false)
set_option maxHeartbeats 8000000 in
set_option maxRecDepth 100000 in
theorem spec_l1In.calls (a0 : Int) (a1 : Int) (a2 : Int) (r : Bool) (w : World) (h : spec_l1In.f a0 a1 a2 = some r) :
  Calls Try.prog 48 #[.int .i64 a0, .int .i64 a1, .int .i64 a2] w fun e w' => e = .returned (.bool r) ∧ Drawn0 w w' := by
 have H : (if a0 ≥ a1 then (some (decide (a0 ≤ a2))) else (some false)) = some r := h
 clear h
 by_cases c4 : a0 ≥ a1
 ·rw [if_pos c4] at H
  have c4b0 : decide (a1 ≤ a0) = true := decide_eq_true c4
  clear c4
  obtain rfl := Option.some.inj H
  go_enter Try.func48, Try.ntmps48
  go_wp2
  go_ret
  exact ⟨by first | rfl | (simp; done) | (simp [*]; done), by repeat (first | exact Drawn0.refl _ | apply Drawn0.step)⟩
 ·rw [if_neg c4] at H
  have c4b0 : decide (a1 ≤ a0) = false := decide_eq_false c4
  clear c4
  obtain rfl := Option.some.inj H
  go_enter Try.func48, Try.ntmps48
  go_wp2
  go_ret
  exact ⟨by first | rfl | (simp; done) | (simp [*]; done), by repeat (first | exact Drawn0.refl _ | apply Drawn0.step)⟩

/-! ### spec_l7Cell: function 53 -/
def spec_l7Cell.f (a0 : Int) : Option (Bool) := (spec_l1In.f a0 (-9841) 9841).bind fun t280 => (some t280)
set_option maxHeartbeats 8000000 in
set_option maxRecDepth 100000 in
theorem spec_l7Cell.calls (a0 : Int) (r : Bool) (w : World) (h : spec_l7Cell.f a0 = some r) :
  Calls Try.prog 53 #[.int .i64 a0] w fun e w' => e = .returned (.bool r) ∧ Drawn0 w w' := by
 have H : ((spec_l1In.f a0 (-9841) 9841).bind fun t280 => (some t280)) = some r := h
 clear h
 replace H := Option.bind_eq_some_iff.mp H
 obtain ⟨t280, A20, H⟩ := H
 replace H : (some t280) = some r := H
 have A2 := Aside0.mk A20
 clear A20
 obtain rfl := Option.some.inj H
 go_enter Try.func53, Try.ntmps53
 go_wp2_with (first | ((with_reducible refine gate_callee (f := 48) rfl ?_); refine goesL_ (some 4) rfl rfl Try.func48 (by kernel_rfl) rfl #[.int .i64 a0, .int .i64 (-9841), .int .i64 9841] rfl (by (try simp only [List.map_toArray, List.map_cons, List.map_nil]); first | done | rfl | (simp only [List.length_drop, List.length_take]; rfl)) ?_; (with_reducible refine (spec_l1In.calls a0 (-9841) 9841 t280 _ A2.out).mono ?_); rintro e w' ⟨rfl, ⟨nd, rfl⟩⟩; refine ⟨_, rfl, ?_⟩))
 go_ret
 exact ⟨by first | rfl | (simp; done) | (simp [*]; done), by repeat (first | exact Drawn0.refl _ | apply Drawn0.step)⟩

/-! ### spec_IsCode: function 32 -/
mutual
def spec_IsCode.l0 : Nat → Int → List (S48) → Int → Int → Option (Bool)
 | 0, _, _, _, _ => none
 | k + 1, x3, x12, x13, x14 => if x14 < x13 then (if 0 ≤ x14 then (if x14 < (x12.length : Int) then (if ((rd_T48 x12 x14).f2) = 0 then (spec_IsCode.j1 k x3 (((rd_T48 x12 x14).f3) == 0) x12 x13 x14 ((rd_T48 x12 x14).f0) ((rd_T48 x12 x14).f1) ((rd_T48 x12 x14).f2) ((rd_T48 x12 x14).f3)) else (spec_IsCode.j1 k x3 false x12 x13 x14 ((rd_T48 x12 x14).f0) ((rd_T48 x12 x14).f1) ((rd_T48 x12 x14).f2) ((rd_T48 x12 x14).f3))) else (none)) else (none)) else (some true)
def spec_IsCode.j1 : Nat → Int → Bool → List (S48) → Int → Int → Int → Int → Int → Int → Option (Bool)
 | 0, _, _, _, _, _, _, _, _, _ => none
 | k + 1, x3, x6, x12, x13, x14, x284000, x284001, x284002, x284003 => if x284000 = 1 then ((spec_l7Cell.f x284001).bind fun t284 => (if t284 = true then (if x6 = true then (spec_IsCode.l0 k x3 x12 x13 (wrap64 (x14 + 1))) else (some false)) else (some false))) else (if x284000 = 10 then ((spec_l1In.f x284001 (-9) 9).bind fun t285 => (if t285 = true then (if x6 = true then (spec_IsCode.l0 k x3 x12 x13 (wrap64 (x14 + 1))) else (some false)) else (some false))) else (if x284000 = 13 then ((spec_l1In.f x284001 0 x3).bind fun t286 => (if t286 = true then (if x6 = true then (spec_IsCode.l0 k x3 x12 x13 (wrap64 (x14 + 1))) else (some false)) else (some false))) else (if x284000 = 14 then ((spec_l1In.f x284001 0 x3).bind fun t287 => (if t287 = true then ((spec_l1In.f x284002 0 x3).bind fun t288 => (if t288 = true then ((spec_l1In.f x284003 0 x3).bind fun t289 => (if t289 = true then (spec_IsCode.l0 k x3 x12 x13 (wrap64 (x14 + 1))) else (some false))) else (some false))) else (some false))) else ((spec_l1In.f x284000 1 15).bind fun t290 => (if t290 = true then (if x284001 = 0 then (if x6 = true then (spec_IsCode.l0 k x3 x12 x13 (wrap64 (x14 + 1))) else (some false)) else (some false)) else (some false))))))
end
def spec_IsCode.f (k : Nat) (l0 : List (S48)) : Option (Bool) := (spec_l1In.f (l0.length : Int) 1 80).bind fun t281 => (if t281 = true then (spec_IsCode.l0 k (l0.length : Int) l0 (l0.length : Int) 0) else (some false))
theorem spec_IsCode.mono_l : ∀ k, (∀ y0 y1 y2 y3, LeO (spec_IsCode.l0 k y0 y1 y2 y3) (spec_IsCode.l0 (k + 1) y0 y1 y2 y3)) ∧ (∀ y0 y1 y2 y3 y4 y5 y6 y7 y8, LeO (spec_IsCode.j1 k y0 y1 y2 y3 y4 y5 y6 y7 y8) (spec_IsCode.j1 (k + 1) y0 y1 y2 y3 y4 y5 y6 y7 y8))
 | 0 => ⟨fun _ _ _ _ r h => by simp [spec_IsCode.l0] at h, fun _ _ _ _ _ _ _ _ _ r h => by simp [spec_IsCode.j1] at h⟩
 | k + 1 => by
  obtain ⟨ih0, ih1⟩ := spec_IsCode.mono_l k
  refine ⟨?_, ?_⟩
  ·intro y0 y1 y2 y3
   unfold spec_IsCode.l0
   repeat' first
   | (with_reducible exact ih0 _ _ _ _)
   | (with_reducible exact ih1 _ _ _ _ _ _ _ _ _)
   | (with_reducible exact LeO.refl _)
   | (with_reducible exact LeO.none _)
   | (with_reducible refine LeO.ite ?_ ?_)
   | (with_reducible refine LeO.bind ?_ (fun _ => ?_))
   | exact ih0 _ _ _ _
   | exact ih1 _ _ _ _ _ _ _ _ _
   | exact LeO.none _
   | refine LeO.ite ?_ ?_
   | refine LeO.bind ?_ (fun _ => ?_)
  ·intro y0 y1 y2 y3 y4 y5 y6 y7 y8
   unfold spec_IsCode.j1
   repeat' first
   | (with_reducible exact ih0 _ _ _ _)
   | (with_reducible exact ih1 _ _ _ _ _ _ _ _ _)
   | (with_reducible exact LeO.refl _)
   | (with_reducible exact LeO.none _)
   | (with_reducible refine LeO.ite ?_ ?_)
   | (with_reducible refine LeO.bind ?_ (fun _ => ?_))
   | exact ih0 _ _ _ _
   | exact ih1 _ _ _ _ _ _ _ _ _
   | exact LeO.none _
   | refine LeO.ite ?_ ?_
   | refine LeO.bind ?_ (fun _ => ?_)
theorem spec_IsCode.mono : ∀ a0 k, LeO (spec_IsCode.f k a0) (spec_IsCode.f (k + 1) a0) := by
 intro a0 k
 obtain ⟨ih0, ih1⟩ := spec_IsCode.mono_l k
 unfold spec_IsCode.f
 repeat' first
   | (with_reducible exact ih0 _ _ _ _)
   | (with_reducible exact ih1 _ _ _ _ _ _ _ _ _)
   | (with_reducible exact LeO.refl _)
   | (with_reducible exact LeO.none _)
   | (with_reducible refine LeO.ite ?_ ?_)
   | (with_reducible refine LeO.bind ?_ (fun _ => ?_))
   | exact ih0 _ _ _ _
   | exact ih1 _ _ _ _ _ _ _ _ _
   | exact LeO.none _
   | refine LeO.ite ?_ ?_
   | refine LeO.bind ?_ (fun _ => ?_)
set_option maxHeartbeats 8000000 in
set_option maxRecDepth 100000 in
theorem spec_IsCode.calls (k : Nat) (A0 : Option Addr) (c0 : Nat) (l0 : List (S48)) (r : Bool) (w : World) (hr0 : Kd.C k48 w A0 l0.length l0) (hc0 : l0.length ≤ c0) (h : spec_IsCode.f k l0 = some r) :
  Calls Try.prog 32 #[.slice A0 l0.length c0] w fun e w' => e = .returned (.bool r) ∧ Below w.heap.size w w' := by
 have hu48 := Try.underlying48
 have HR0 := Aside0.mk hr0
 have HC0 := Aside0.mk hc0
 clear hr0 hc0
 have HB := Aside0.mk (Below.refl w.heap.size w)
 have H : ((spec_l1In.f (l0.length : Int) 1 80).bind fun t281 => (if t281 = true then (spec_IsCode.l0 k (l0.length : Int) l0 (l0.length : Int) 0) else (some false))) = some r := h
 clear h
 replace H := Option.bind_eq_some_iff.mp H
 obtain ⟨t281, A20, H⟩ := H
 replace H : (if t281 = true then (spec_IsCode.l0 k (l0.length : Int) l0 (l0.length : Int) 0) else (some false)) = some r := H
 have A2 := Aside0.mk A20
 clear A20
 by_cases c3 : t281 = true
 ·(try subst c3)
  have H1 : (spec_IsCode.l0 k (l0.length : Int) l0 (l0.length : Int) 0) = some r := by rw [if_pos rfl] at H; exact H
  clear H
  have H := H1
  clear H1
  have H' := Aside0.mk H
  clear H
  go_enter Try.func32, Try.ntmps32
  go_wp2_with (first | ((with_reducible refine gate_callee (f := 48) rfl ?_); refine goesL_ (some 10) rfl rfl Try.func48 (by kernel_rfl) rfl #[.int .i64 (l0.length : Int), .int .i64 1, .int .i64 80] rfl (by (try simp only [List.map_toArray, List.map_cons, List.map_nil]); first | done | rfl | (simp only [List.length_drop, List.length_take]; rfl)) ?_; (with_reducible refine (spec_l1In.calls (l0.length : Int) 1 80 true _ A2.out).mono ?_); rintro e w' ⟨rfl, ⟨nd, rfl⟩⟩; refine ⟨_, rfl, ?_⟩))
  go_loopg [14] k (fun kq v14 w' => ∃ (x14_1 : Int), v14 = .int .i64 x14_1 ∧ Aside0 (spec_IsCode.l0 kq (l0.length : Int) l0 (l0.length : Int) x14_1 = some r) ∧ Aside0 (kq ≤ k) ∧ Aside0 (Below w.heap.size w w'))
  case atStart => exact ⟨(0), (by first | rfl | (simp; done) | (simp [*]; done)), H', ⟨Nat.le_refl _⟩, ⟨by repeat (first | (with_reducible first | exact HB.out | apply below_alloc | apply pw_below_drewN | apply below_drew1) | exact HB.out)⟩⟩
  case round =>
   clear H'
   try clear p2
   try clear c3
   obtain ⟨x14_1, rfl, HA, HK1, HB⟩ := hrel
   cases gk with
   | zero => exact absurd HA.out (by simp [spec_IsCode.l0])
   | succ k1 =>
    have H := HA.out
    clear HA
    simp only [spec_IsCode.l0] at H
    by_cases c4 : x14_1 < (l0.length : Int)
    ·rw [if_pos c4] at H
     have c4b0 : decide (x14_1 < (l0.length : Int)) = true := decide_eq_true c4
     clear c4
     by_cases c5 : 0 ≤ x14_1
     ·rw [if_pos c5] at H
      have c5b0 : decide (0 ≤ x14_1) = true := decide_eq_true c5
      clear c5
      by_cases c6 : x14_1 < (l0.length : Int)
      ·rw [if_pos c6] at H
       have c6b0 : decide (x14_1 < (l0.length : Int)) = true := decide_eq_true c6
       clear c6
       have HC7 := Aside0.mk H
       clear H
       have p282 : 0 ≤ (x14_1 : Int) := of_decide_eq_true (by first | (with_reducible assumption) | assumption)
       have q282 : x14_1 < (l0.length : Int) := of_decide_eq_true (by first | (with_reducible assumption) | assumption)
       obtain ⟨ad282, e282, hx282_0, hx282_1, hx282_2, hx282_3⟩ := at_T48 HR0.out x14_1 p282 q282
       cases e282
       (try replace hx282_0 := (HB.out.cell (World.block_lt_of_cell? w _ hx282_0)).trans hx282_0)
       (try replace hx282_1 := (HB.out.cell (World.block_lt_of_cell? w _ hx282_1)).trans hx282_1)
       (try replace hx282_2 := (HB.out.cell (World.block_lt_of_cell? w _ hx282_2)).trans hx282_2)
       (try replace hx282_3 := (HB.out.cell (World.block_lt_of_cell? w _ hx282_3)).trans hx282_3)
       replace p282 := eq_true p282
       replace q282 := eq_true q282
       go_upto_region 7 with (first | ((with_reducible refine gate_dst (N := 5) rfl ?_); refine box_event ?hg (N := 5) ?hd (cs := #[.int .i64 0, .int .i64 0, .int .i64 0, .int .i64 0]) (t := 48) ?hr ?_; (case hd => rfl); (case hg => rfl); (case hr => first | (go_simp; done) | (go_simp; rfl)); intro gb283 hg w8 hbox hb; have n0_ := Aside0.mk (below_step (by repeat (first | (with_reducible first | exact HB.out | apply below_alloc | apply pw_below_drewN | apply below_drew1) | exact HB.out)) hb); have n1_ := Aside0.mk (hbox); have n2_ := Aside0.mk ((by rw [hg]; exact (below_size (by repeat (first | (with_reducible first | exact HB.out | apply below_alloc | apply pw_below_drewN | apply below_drew1) | exact HB.out))) : w.heap.size ≤ gb283)); have n3_ := Aside0.mk ((by rw [hg]; exact (below_size (by repeat (first | (with_reducible first | exact HB.out | apply below_alloc | apply pw_below_drewN | apply below_drew1) | exact HB.out))) : w.heap.size ≤ gb283)); clear HB; have HB := n0_; have BK283 := n1_; have GW283 := n2_; have GE283 := n3_; clear n0_ n1_ n2_ n3_; clear hb hbox hg; have hcz9_0 : w8.cell? ⟨gb283, 0, none⟩ = some (.int .i64 0) := (blk_cell BK283.out 0).trans rfl; have hcz9_1 : w8.cell? ⟨gb283, 1, none⟩ = some (.int .i64 0) := (blk_cell BK283.out 1).trans rfl; have hcz9_2 : w8.cell? ⟨gb283, 2, none⟩ = some (.int .i64 0) := (blk_cell BK283.out 2).trans rfl; have hcz9_3 : w8.cell? ⟨gb283, 3, none⟩ = some (.int .i64 0) := (blk_cell BK283.out 3).trans rfl; have hfz9_0 := blk_frozen BK283.out 0; have hfz9_1 := blk_frozen BK283.out 1; have hfz9_2 := blk_frozen BK283.out 2; have hfz9_3 := blk_frozen BK283.out 3))
       (try simp only [Act.put, List.setIfInBounds_toArray, List.set_cons_zero, List.set_cons_succ])
       go_cut [6] (fun v6 wc => ∃ (kq : Nat) (x6_6 : Bool), v6 = .bool x6_6 ∧ Aside0 (spec_IsCode.j1 kq (l0.length : Int) x6_6 l0 (l0.length : Int) x14_1 ((rd_T48 l0 x14_1).f0) ((rd_T48 l0 x14_1).f1) ((rd_T48 l0 x14_1).f2) ((rd_T48 l0 x14_1).f3) = some r) ∧ Aside0 (kq ≤ k1) ∧ Aside0 (wc.heap[gb283]? = some (.cells #[.int .i64 ((rd_T48 l0 x14_1).f0), .int .i64 ((rd_T48 l0 x14_1).f1), .int .i64 ((rd_T48 l0 x14_1).f2), .int .i64 ((rd_T48 l0 x14_1).f3)] 48 (0, 0))) ∧ Aside0 (Below w.heap.size w wc))
       case first =>
        have H := HC7.out
        clear HC7
        by_cases c10 : ((rd_T48 l0 x14_1).f2) = 0
        ·rw [if_pos c10] at H
         have c10b0 : (((rd_T48 l0 x14_1).f2) == 0) = true := beq_iff_eq.mpr c10
         have c10b1 : (((rd_T48 l0 x14_1).f2) != 0) = false := bne_eq_false_iff_eq.mpr c10
         clear c10
         (first | rw [c10b0] | (simp only [i64_w, i32_w]; rw [c10b0]) | skip)
         have H' := Aside0.mk H
         clear H
         have hcz11_0 : w8.cell? ⟨gb283, 0, none⟩ = some (.int .i64 0) := (blk_cell BK283.out 0).trans rfl
         have hcz11_1 : w8.cell? ⟨gb283, 1, none⟩ = some (.int .i64 0) := (blk_cell BK283.out 1).trans rfl
         have hcz11_2 : w8.cell? ⟨gb283, 2, none⟩ = some (.int .i64 0) := (blk_cell BK283.out 2).trans rfl
         have hcz11_3 : w8.cell? ⟨gb283, 3, none⟩ = some (.int .i64 0) := (blk_cell BK283.out 3).trans rfl
         have hfz11_0 := blk_frozen BK283.out 0
         have hfz11_1 := blk_frozen BK283.out 1
         have hfz11_2 := blk_frozen BK283.out 2
         have hfz11_3 := blk_frozen BK283.out 3
         go_wp2
         go_meet
         case rel => exact ⟨_, ((((rd_T48 l0 x14_1).f3) == 0)), (by first | rfl | (simp; done) | (simp [*]; done)), H', ⟨by have := HK1.out; first | omega | exact Nat.le_refl _⟩, ⟨by (with_reducible repeat (first | refine blk_drewN ?_ _ | refine blk_drew ?_ | refine blk_alloc ?_ _)); refine blk_put (cs := #[.int .i64 ((rd_T48 l0 x14_1).f0), .int .i64 ((rd_T48 l0 x14_1).f1), .int .i64 ((rd_T48 l0 x14_1).f2), .int .i64 0]) ?_ 3 _ rfl; (with_reducible repeat (first | refine blk_drewN ?_ _ | refine blk_drew ?_ | refine blk_alloc ?_ _)); refine blk_put (cs := #[.int .i64 ((rd_T48 l0 x14_1).f0), .int .i64 ((rd_T48 l0 x14_1).f1), .int .i64 0, .int .i64 0]) ?_ 2 _ rfl; (with_reducible repeat (first | refine blk_drewN ?_ _ | refine blk_drew ?_ | refine blk_alloc ?_ _)); refine blk_put (cs := #[.int .i64 ((rd_T48 l0 x14_1).f0), .int .i64 0, .int .i64 0, .int .i64 0]) ?_ 1 _ rfl; (with_reducible repeat (first | refine blk_drewN ?_ _ | refine blk_drew ?_ | refine blk_alloc ?_ _)); refine blk_put (cs := #[.int .i64 0, .int .i64 0, .int .i64 0, .int .i64 0]) ?_ 0 _ rfl; (with_reducible repeat (first | refine blk_drewN ?_ _ | refine blk_drew ?_ | refine blk_alloc ?_ _)); exact BK283.out⟩, ⟨by repeat (first | (with_reducible first | exact HB.out | apply below_alloc | apply pw_below_drewN | apply below_drew1 | refine below_set ?_ GE283.out) | exact HB.out)⟩⟩
        ·rw [if_neg c10] at H
         have c10b0 : (((rd_T48 l0 x14_1).f2) == 0) = false := beq_eq_false_iff_ne.mpr c10
         have c10b1 : (((rd_T48 l0 x14_1).f2) != 0) = true := bne_iff_ne.mpr c10
         (first | rw [c10b0] | (simp only [i64_w, i32_w]; rw [c10b0]) | skip)
         have H' := Aside0.mk H
         clear H
         have hcz12_0 : w8.cell? ⟨gb283, 0, none⟩ = some (.int .i64 0) := (blk_cell BK283.out 0).trans rfl
         have hcz12_1 : w8.cell? ⟨gb283, 1, none⟩ = some (.int .i64 0) := (blk_cell BK283.out 1).trans rfl
         have hcz12_2 : w8.cell? ⟨gb283, 2, none⟩ = some (.int .i64 0) := (blk_cell BK283.out 2).trans rfl
         have hcz12_3 : w8.cell? ⟨gb283, 3, none⟩ = some (.int .i64 0) := (blk_cell BK283.out 3).trans rfl
         have hfz12_0 := blk_frozen BK283.out 0
         have hfz12_1 := blk_frozen BK283.out 1
         have hfz12_2 := blk_frozen BK283.out 2
         have hfz12_3 := blk_frozen BK283.out 3
         go_wp2
         go_meet
         case rel => exact ⟨_, (false), (by first | rfl | (simp; done) | (simp [*]; done)), H', ⟨by have := HK1.out; first | omega | exact Nat.le_refl _⟩, ⟨by (with_reducible repeat (first | refine blk_drewN ?_ _ | refine blk_drew ?_ | refine blk_alloc ?_ _)); refine blk_put (cs := #[.int .i64 ((rd_T48 l0 x14_1).f0), .int .i64 ((rd_T48 l0 x14_1).f1), .int .i64 ((rd_T48 l0 x14_1).f2), .int .i64 0]) ?_ 3 _ rfl; (with_reducible repeat (first | refine blk_drewN ?_ _ | refine blk_drew ?_ | refine blk_alloc ?_ _)); refine blk_put (cs := #[.int .i64 ((rd_T48 l0 x14_1).f0), .int .i64 ((rd_T48 l0 x14_1).f1), .int .i64 0, .int .i64 0]) ?_ 2 _ rfl; (with_reducible repeat (first | refine blk_drewN ?_ _ | refine blk_drew ?_ | refine blk_alloc ?_ _)); refine blk_put (cs := #[.int .i64 ((rd_T48 l0 x14_1).f0), .int .i64 0, .int .i64 0, .int .i64 0]) ?_ 1 _ rfl; (with_reducible repeat (first | refine blk_drewN ?_ _ | refine blk_drew ?_ | refine blk_alloc ?_ _)); refine blk_put (cs := #[.int .i64 0, .int .i64 0, .int .i64 0, .int .i64 0]) ?_ 0 _ rfl; (with_reducible repeat (first | refine blk_drewN ?_ _ | refine blk_drew ?_ | refine blk_alloc ?_ _)); exact BK283.out⟩, ⟨by repeat (first | (with_reducible first | exact HB.out | apply below_alloc | apply pw_below_drewN | apply below_drew1 | refine below_set ?_ GE283.out) | exact HB.out)⟩⟩
       case rest =>
        clear HC7
        try clear c1
        try clear p2
        try clear q2
        try clear hx2
        try clear c3
        try clear c4
        try clear c4b0
        try clear c5
        try clear c5b0
        try clear c6
        try clear c6b0
        try clear c10
        try clear c10b0
        try clear c10b1
        try clear hcz11_0
        try clear hcz11_1
        try clear hcz11_2
        try clear hcz11_3
        try clear hcz12_0
        try clear hcz12_1
        try clear hcz12_2
        try clear hcz12_3
        try clear hcz9_0
        try clear hcz9_1
        try clear hcz9_2
        try clear hcz9_3
        try clear hfz11_0
        try clear hfz11_1
        try clear hfz11_2
        try clear hfz11_3
        try clear hfz12_0
        try clear hfz12_1
        try clear hfz12_2
        try clear hfz12_3
        try clear hfz9_0
        try clear hfz9_1
        try clear hfz9_2
        try clear hfz9_3
        try clear hx282_0
        try clear hx282_1
        try clear hx282_2
        try clear hx282_3
        try clear p2
        try clear p282
        try clear q282
        obtain ⟨kq, x6_6, rfl, HA, HJ6, BK283, HB⟩ := hcut
        cases kq with
        | zero => exact absurd HA.out (by simp [spec_IsCode.j1])
        | succ kj6 =>
         have H := HA.out
         clear HA
         simp only [spec_IsCode.j1] at H
         by_cases c13 : ((rd_T48 l0 x14_1).f0) = 1
         ·rw [if_pos c13] at H
          have c13b0 : (((rd_T48 l0 x14_1).f0) == 1) = true := beq_iff_eq.mpr c13
          have c13b1 : (((rd_T48 l0 x14_1).f0) != 1) = false := bne_eq_false_iff_eq.mpr c13
          clear c13
          replace H := Option.bind_eq_some_iff.mp H
          obtain ⟨t284, A140, H⟩ := H
          replace H : (if t284 = true then (if x6_6 = true then (spec_IsCode.l0 kj6 (l0.length : Int) l0 (l0.length : Int) (wrap64 (x14_1 + 1))) else (some false)) else (some false)) = some r := H
          have A14 := Aside0.mk A140
          clear A140
          by_cases c15 : t284 = true
          ·(try subst c15)
           have H1 : (if x6_6 = true then (spec_IsCode.l0 kj6 (l0.length : Int) l0 (l0.length : Int) (wrap64 (x14_1 + 1))) else (some false)) = some r := by rw [if_pos rfl] at H; exact H
           clear H
           have H := H1
           clear H1
           by_cases c16 : x6_6 = true
           ·(try subst c16)
            have H1 : (spec_IsCode.l0 kj6 (l0.length : Int) l0 (l0.length : Int) (wrap64 (x14_1 + 1))) = some r := by rw [if_pos rfl] at H; exact H
            clear H
            have H := H1
            clear H1
            have H' := Aside0.mk H
            clear H
            have hcz17_0 : wc.cell? ⟨gb283, 0, none⟩ = some (.int .i64 ((rd_T48 l0 x14_1).f0)) := (blk_cell BK283.out 0).trans rfl
            have hcz17_1 : wc.cell? ⟨gb283, 1, none⟩ = some (.int .i64 ((rd_T48 l0 x14_1).f1)) := (blk_cell BK283.out 1).trans rfl
            have hcz17_2 : wc.cell? ⟨gb283, 2, none⟩ = some (.int .i64 ((rd_T48 l0 x14_1).f2)) := (blk_cell BK283.out 2).trans rfl
            have hcz17_3 : wc.cell? ⟨gb283, 3, none⟩ = some (.int .i64 ((rd_T48 l0 x14_1).f3)) := (blk_cell BK283.out 3).trans rfl
            have hfz17_0 := blk_frozen BK283.out 0
            have hfz17_1 := blk_frozen BK283.out 1
            have hfz17_2 := blk_frozen BK283.out 2
            have hfz17_3 := blk_frozen BK283.out 3
            go_wp2_with (first | ((with_reducible refine gate_callee (f := 53) rfl ?_); refine goesL_ (some 45) rfl rfl Try.func53 (by kernel_rfl) rfl #[.int .i64 ((rd_T48 l0 x14_1).f1)] rfl (by (try simp only [List.map_toArray, List.map_cons, List.map_nil]); first | done | rfl | (simp only [List.length_drop, List.length_take]; rfl)) ?_; (with_reducible refine (spec_l7Cell.calls ((rd_T48 l0 x14_1).f1) true _ A14.out).mono ?_); rintro e w' ⟨rfl, ⟨nd, rfl⟩⟩; refine ⟨_, rfl, ?_⟩))
            go_roundg kj6
            case measure => have := HK1.out; have := HJ6.out; omega
            case rel => exact ⟨(wrap64 (x14_1 + 1)), (by first | rfl | (simp; done) | (simp [*]; done)), H', ⟨by have := HK1.out; have := HJ6.out; omega⟩, ⟨by repeat (first | (with_reducible first | exact HB.out | apply below_alloc | apply pw_below_drewN | apply below_drew1 | refine below_set ?_ GE283.out) | exact HB.out)⟩⟩
           ·replace c16 := Bool.eq_false_iff.mpr c16
            (try subst c16)
            have H1 : (some false) = some r := by rw [if_neg (show ¬ (false = true) by decide)] at H; exact H
            clear H
            have H := H1
            clear H1
            obtain rfl := Option.some.inj H
            have hcz18_0 : wc.cell? ⟨gb283, 0, none⟩ = some (.int .i64 ((rd_T48 l0 x14_1).f0)) := (blk_cell BK283.out 0).trans rfl
            have hcz18_1 : wc.cell? ⟨gb283, 1, none⟩ = some (.int .i64 ((rd_T48 l0 x14_1).f1)) := (blk_cell BK283.out 1).trans rfl
            have hcz18_2 : wc.cell? ⟨gb283, 2, none⟩ = some (.int .i64 ((rd_T48 l0 x14_1).f2)) := (blk_cell BK283.out 2).trans rfl
            have hcz18_3 : wc.cell? ⟨gb283, 3, none⟩ = some (.int .i64 ((rd_T48 l0 x14_1).f3)) := (blk_cell BK283.out 3).trans rfl
            have hfz18_0 := blk_frozen BK283.out 0
            have hfz18_1 := blk_frozen BK283.out 1
            have hfz18_2 := blk_frozen BK283.out 2
            have hfz18_3 := blk_frozen BK283.out 3
            go_wp2_with (first | ((with_reducible refine gate_callee (f := 53) rfl ?_); refine goesL_ (some 45) rfl rfl Try.func53 (by kernel_rfl) rfl #[.int .i64 ((rd_T48 l0 x14_1).f1)] rfl (by (try simp only [List.map_toArray, List.map_cons, List.map_nil]); first | done | rfl | (simp only [List.length_drop, List.length_take]; rfl)) ?_; (with_reducible refine (spec_l7Cell.calls ((rd_T48 l0 x14_1).f1) true _ A14.out).mono ?_); rintro e w' ⟨rfl, ⟨nd, rfl⟩⟩; refine ⟨_, rfl, ?_⟩))
            go_ret
            exact ⟨by first | rfl | (simp [errW_none, errW_some] <;> rfl) | (simp [*, errW_none, errW_some] <;> rfl), by repeat (first | (with_reducible first | exact HB.out | apply below_alloc | apply pw_below_drewN | apply below_drew1 | refine below_set ?_ GE283.out) | exact HB.out)⟩
          ·replace c15 := Bool.eq_false_iff.mpr c15
           (try subst c15)
           have H1 : (some false) = some r := by rw [if_neg (show ¬ (false = true) by decide)] at H; exact H
           clear H
           have H := H1
           clear H1
           obtain rfl := Option.some.inj H
           have hcz19_0 : wc.cell? ⟨gb283, 0, none⟩ = some (.int .i64 ((rd_T48 l0 x14_1).f0)) := (blk_cell BK283.out 0).trans rfl
           have hcz19_1 : wc.cell? ⟨gb283, 1, none⟩ = some (.int .i64 ((rd_T48 l0 x14_1).f1)) := (blk_cell BK283.out 1).trans rfl
           have hcz19_2 : wc.cell? ⟨gb283, 2, none⟩ = some (.int .i64 ((rd_T48 l0 x14_1).f2)) := (blk_cell BK283.out 2).trans rfl
           have hcz19_3 : wc.cell? ⟨gb283, 3, none⟩ = some (.int .i64 ((rd_T48 l0 x14_1).f3)) := (blk_cell BK283.out 3).trans rfl
           have hfz19_0 := blk_frozen BK283.out 0
           have hfz19_1 := blk_frozen BK283.out 1
           have hfz19_2 := blk_frozen BK283.out 2
           have hfz19_3 := blk_frozen BK283.out 3
           go_wp2_with (first | ((with_reducible refine gate_callee (f := 53) rfl ?_); refine goesL_ (some 45) rfl rfl Try.func53 (by kernel_rfl) rfl #[.int .i64 ((rd_T48 l0 x14_1).f1)] rfl (by (try simp only [List.map_toArray, List.map_cons, List.map_nil]); first | done | rfl | (simp only [List.length_drop, List.length_take]; rfl)) ?_; (with_reducible refine (spec_l7Cell.calls ((rd_T48 l0 x14_1).f1) false _ A14.out).mono ?_); rintro e w' ⟨rfl, ⟨nd, rfl⟩⟩; refine ⟨_, rfl, ?_⟩))
           go_ret
           exact ⟨by first | rfl | (simp [errW_none, errW_some] <;> rfl) | (simp [*, errW_none, errW_some] <;> rfl), by repeat (first | (with_reducible first | exact HB.out | apply below_alloc | apply pw_below_drewN | apply below_drew1 | refine below_set ?_ GE283.out) | exact HB.out)⟩
         ·rw [if_neg c13] at H
          have c13b0 : (((rd_T48 l0 x14_1).f0) == 1) = false := beq_eq_false_iff_ne.mpr c13
          have c13b1 : (((rd_T48 l0 x14_1).f0) != 1) = true := bne_iff_ne.mpr c13
          by_cases c20 : ((rd_T48 l0 x14_1).f0) = 10
          ·rw [if_pos c20] at H
           have c20b0 : (((rd_T48 l0 x14_1).f0) == 10) = true := beq_iff_eq.mpr c20
           have c20b1 : (((rd_T48 l0 x14_1).f0) != 10) = false := bne_eq_false_iff_eq.mpr c20
           clear c20
           replace H := Option.bind_eq_some_iff.mp H
           obtain ⟨t285, A210, H⟩ := H
           replace H : (if t285 = true then (if x6_6 = true then (spec_IsCode.l0 kj6 (l0.length : Int) l0 (l0.length : Int) (wrap64 (x14_1 + 1))) else (some false)) else (some false)) = some r := H
           have A21 := Aside0.mk A210
           clear A210
           by_cases c22 : t285 = true
           ·(try subst c22)
            have H1 : (if x6_6 = true then (spec_IsCode.l0 kj6 (l0.length : Int) l0 (l0.length : Int) (wrap64 (x14_1 + 1))) else (some false)) = some r := by rw [if_pos rfl] at H; exact H
            clear H
            have H := H1
            clear H1
            by_cases c23 : x6_6 = true
            ·(try subst c23)
             have H1 : (spec_IsCode.l0 kj6 (l0.length : Int) l0 (l0.length : Int) (wrap64 (x14_1 + 1))) = some r := by rw [if_pos rfl] at H; exact H
             clear H
             have H := H1
             clear H1
             have H' := Aside0.mk H
             clear H
             have hcz24_0 : wc.cell? ⟨gb283, 0, none⟩ = some (.int .i64 ((rd_T48 l0 x14_1).f0)) := (blk_cell BK283.out 0).trans rfl
             have hcz24_1 : wc.cell? ⟨gb283, 1, none⟩ = some (.int .i64 ((rd_T48 l0 x14_1).f1)) := (blk_cell BK283.out 1).trans rfl
             have hcz24_2 : wc.cell? ⟨gb283, 2, none⟩ = some (.int .i64 ((rd_T48 l0 x14_1).f2)) := (blk_cell BK283.out 2).trans rfl
             have hcz24_3 : wc.cell? ⟨gb283, 3, none⟩ = some (.int .i64 ((rd_T48 l0 x14_1).f3)) := (blk_cell BK283.out 3).trans rfl
             have hfz24_0 := blk_frozen BK283.out 0
             have hfz24_1 := blk_frozen BK283.out 1
             have hfz24_2 := blk_frozen BK283.out 2
             have hfz24_3 := blk_frozen BK283.out 3
             go_wp2_with (first | ((with_reducible refine gate_callee (f := 48) rfl ?_); refine goesL_ (some 55) rfl rfl Try.func48 (by kernel_rfl) rfl #[.int .i64 ((rd_T48 l0 x14_1).f1), .int .i64 (-9), .int .i64 9] rfl (by (try simp only [List.map_toArray, List.map_cons, List.map_nil]); first | done | rfl | (simp only [List.length_drop, List.length_take]; rfl)) ?_; (with_reducible refine (spec_l1In.calls ((rd_T48 l0 x14_1).f1) (-9) 9 true _ A21.out).mono ?_); rintro e w' ⟨rfl, ⟨nd, rfl⟩⟩; refine ⟨_, rfl, ?_⟩))
             go_roundg kj6
             case measure => have := HK1.out; have := HJ6.out; omega
             case rel => exact ⟨(wrap64 (x14_1 + 1)), (by first | rfl | (simp; done) | (simp [*]; done)), H', ⟨by have := HK1.out; have := HJ6.out; omega⟩, ⟨by repeat (first | (with_reducible first | exact HB.out | apply below_alloc | apply pw_below_drewN | apply below_drew1 | refine below_set ?_ GE283.out) | exact HB.out)⟩⟩
            ·replace c23 := Bool.eq_false_iff.mpr c23
             (try subst c23)
             have H1 : (some false) = some r := by rw [if_neg (show ¬ (false = true) by decide)] at H; exact H
             clear H
             have H := H1
             clear H1
             obtain rfl := Option.some.inj H
             have hcz25_0 : wc.cell? ⟨gb283, 0, none⟩ = some (.int .i64 ((rd_T48 l0 x14_1).f0)) := (blk_cell BK283.out 0).trans rfl
             have hcz25_1 : wc.cell? ⟨gb283, 1, none⟩ = some (.int .i64 ((rd_T48 l0 x14_1).f1)) := (blk_cell BK283.out 1).trans rfl
             have hcz25_2 : wc.cell? ⟨gb283, 2, none⟩ = some (.int .i64 ((rd_T48 l0 x14_1).f2)) := (blk_cell BK283.out 2).trans rfl
             have hcz25_3 : wc.cell? ⟨gb283, 3, none⟩ = some (.int .i64 ((rd_T48 l0 x14_1).f3)) := (blk_cell BK283.out 3).trans rfl
             have hfz25_0 := blk_frozen BK283.out 0
             have hfz25_1 := blk_frozen BK283.out 1
             have hfz25_2 := blk_frozen BK283.out 2
             have hfz25_3 := blk_frozen BK283.out 3
             go_wp2_with (first | ((with_reducible refine gate_callee (f := 48) rfl ?_); refine goesL_ (some 55) rfl rfl Try.func48 (by kernel_rfl) rfl #[.int .i64 ((rd_T48 l0 x14_1).f1), .int .i64 (-9), .int .i64 9] rfl (by (try simp only [List.map_toArray, List.map_cons, List.map_nil]); first | done | rfl | (simp only [List.length_drop, List.length_take]; rfl)) ?_; (with_reducible refine (spec_l1In.calls ((rd_T48 l0 x14_1).f1) (-9) 9 true _ A21.out).mono ?_); rintro e w' ⟨rfl, ⟨nd, rfl⟩⟩; refine ⟨_, rfl, ?_⟩))
             go_ret
             exact ⟨by first | rfl | (simp [errW_none, errW_some] <;> rfl) | (simp [*, errW_none, errW_some] <;> rfl), by repeat (first | (with_reducible first | exact HB.out | apply below_alloc | apply pw_below_drewN | apply below_drew1 | refine below_set ?_ GE283.out) | exact HB.out)⟩
           ·replace c22 := Bool.eq_false_iff.mpr c22
            (try subst c22)
            have H1 : (some false) = some r := by rw [if_neg (show ¬ (false = true) by decide)] at H; exact H
            clear H
            have H := H1
            clear H1
            obtain rfl := Option.some.inj H
            have hcz26_0 : wc.cell? ⟨gb283, 0, none⟩ = some (.int .i64 ((rd_T48 l0 x14_1).f0)) := (blk_cell BK283.out 0).trans rfl
            have hcz26_1 : wc.cell? ⟨gb283, 1, none⟩ = some (.int .i64 ((rd_T48 l0 x14_1).f1)) := (blk_cell BK283.out 1).trans rfl
            have hcz26_2 : wc.cell? ⟨gb283, 2, none⟩ = some (.int .i64 ((rd_T48 l0 x14_1).f2)) := (blk_cell BK283.out 2).trans rfl
            have hcz26_3 : wc.cell? ⟨gb283, 3, none⟩ = some (.int .i64 ((rd_T48 l0 x14_1).f3)) := (blk_cell BK283.out 3).trans rfl
            have hfz26_0 := blk_frozen BK283.out 0
            have hfz26_1 := blk_frozen BK283.out 1
            have hfz26_2 := blk_frozen BK283.out 2
            have hfz26_3 := blk_frozen BK283.out 3
            go_wp2_with (first | ((with_reducible refine gate_callee (f := 48) rfl ?_); refine goesL_ (some 55) rfl rfl Try.func48 (by kernel_rfl) rfl #[.int .i64 ((rd_T48 l0 x14_1).f1), .int .i64 (-9), .int .i64 9] rfl (by (try simp only [List.map_toArray, List.map_cons, List.map_nil]); first | done | rfl | (simp only [List.length_drop, List.length_take]; rfl)) ?_; (with_reducible refine (spec_l1In.calls ((rd_T48 l0 x14_1).f1) (-9) 9 false _ A21.out).mono ?_); rintro e w' ⟨rfl, ⟨nd, rfl⟩⟩; refine ⟨_, rfl, ?_⟩))
            go_ret
            exact ⟨by first | rfl | (simp [errW_none, errW_some] <;> rfl) | (simp [*, errW_none, errW_some] <;> rfl), by repeat (first | (with_reducible first | exact HB.out | apply below_alloc | apply pw_below_drewN | apply below_drew1 | refine below_set ?_ GE283.out) | exact HB.out)⟩
          ·rw [if_neg c20] at H
           have c20b0 : (((rd_T48 l0 x14_1).f0) == 10) = false := beq_eq_false_iff_ne.mpr c20
           have c20b1 : (((rd_T48 l0 x14_1).f0) != 10) = true := bne_iff_ne.mpr c20
           by_cases c27 : ((rd_T48 l0 x14_1).f0) = 13
           ·rw [if_pos c27] at H
            have c27b0 : (((rd_T48 l0 x14_1).f0) == 13) = true := beq_iff_eq.mpr c27
            have c27b1 : (((rd_T48 l0 x14_1).f0) != 13) = false := bne_eq_false_iff_eq.mpr c27
            clear c27
            replace H := Option.bind_eq_some_iff.mp H
            obtain ⟨t286, A280, H⟩ := H
            replace H : (if t286 = true then (if x6_6 = true then (spec_IsCode.l0 kj6 (l0.length : Int) l0 (l0.length : Int) (wrap64 (x14_1 + 1))) else (some false)) else (some false)) = some r := H
            have A28 := Aside0.mk A280
            clear A280
            by_cases c29 : t286 = true
            ·(try subst c29)
             have H1 : (if x6_6 = true then (spec_IsCode.l0 kj6 (l0.length : Int) l0 (l0.length : Int) (wrap64 (x14_1 + 1))) else (some false)) = some r := by rw [if_pos rfl] at H; exact H
             clear H
             have H := H1
             clear H1
             by_cases c30 : x6_6 = true
             ·(try subst c30)
              have H1 : (spec_IsCode.l0 kj6 (l0.length : Int) l0 (l0.length : Int) (wrap64 (x14_1 + 1))) = some r := by rw [if_pos rfl] at H; exact H
              clear H
              have H := H1
              clear H1
              have H' := Aside0.mk H
              clear H
              have hcz31_0 : wc.cell? ⟨gb283, 0, none⟩ = some (.int .i64 ((rd_T48 l0 x14_1).f0)) := (blk_cell BK283.out 0).trans rfl
              have hcz31_1 : wc.cell? ⟨gb283, 1, none⟩ = some (.int .i64 ((rd_T48 l0 x14_1).f1)) := (blk_cell BK283.out 1).trans rfl
              have hcz31_2 : wc.cell? ⟨gb283, 2, none⟩ = some (.int .i64 ((rd_T48 l0 x14_1).f2)) := (blk_cell BK283.out 2).trans rfl
              have hcz31_3 : wc.cell? ⟨gb283, 3, none⟩ = some (.int .i64 ((rd_T48 l0 x14_1).f3)) := (blk_cell BK283.out 3).trans rfl
              have hfz31_0 := blk_frozen BK283.out 0
              have hfz31_1 := blk_frozen BK283.out 1
              have hfz31_2 := blk_frozen BK283.out 2
              have hfz31_3 := blk_frozen BK283.out 3
              go_wp2_with (first | ((with_reducible refine gate_callee (f := 48) rfl ?_); refine goesL_ (some 66) rfl rfl Try.func48 (by kernel_rfl) rfl #[.int .i64 ((rd_T48 l0 x14_1).f1), .int .i64 0, .int .i64 (l0.length : Int)] rfl (by (try simp only [List.map_toArray, List.map_cons, List.map_nil]); first | done | rfl | (simp only [List.length_drop, List.length_take]; rfl)) ?_; (with_reducible refine (spec_l1In.calls ((rd_T48 l0 x14_1).f1) 0 (l0.length : Int) true _ A28.out).mono ?_); rintro e w' ⟨rfl, ⟨nd, rfl⟩⟩; refine ⟨_, rfl, ?_⟩))
              go_roundg kj6
              case measure => have := HK1.out; have := HJ6.out; omega
              case rel => exact ⟨(wrap64 (x14_1 + 1)), (by first | rfl | (simp; done) | (simp [*]; done)), H', ⟨by have := HK1.out; have := HJ6.out; omega⟩, ⟨by repeat (first | (with_reducible first | exact HB.out | apply below_alloc | apply pw_below_drewN | apply below_drew1 | refine below_set ?_ GE283.out) | exact HB.out)⟩⟩
             ·replace c30 := Bool.eq_false_iff.mpr c30
              (try subst c30)
              have H1 : (some false) = some r := by rw [if_neg (show ¬ (false = true) by decide)] at H; exact H
              clear H
              have H := H1
              clear H1
              obtain rfl := Option.some.inj H
              have hcz32_0 : wc.cell? ⟨gb283, 0, none⟩ = some (.int .i64 ((rd_T48 l0 x14_1).f0)) := (blk_cell BK283.out 0).trans rfl
              have hcz32_1 : wc.cell? ⟨gb283, 1, none⟩ = some (.int .i64 ((rd_T48 l0 x14_1).f1)) := (blk_cell BK283.out 1).trans rfl
              have hcz32_2 : wc.cell? ⟨gb283, 2, none⟩ = some (.int .i64 ((rd_T48 l0 x14_1).f2)) := (blk_cell BK283.out 2).trans rfl
              have hcz32_3 : wc.cell? ⟨gb283, 3, none⟩ = some (.int .i64 ((rd_T48 l0 x14_1).f3)) := (blk_cell BK283.out 3).trans rfl
              have hfz32_0 := blk_frozen BK283.out 0
              have hfz32_1 := blk_frozen BK283.out 1
              have hfz32_2 := blk_frozen BK283.out 2
              have hfz32_3 := blk_frozen BK283.out 3
              go_wp2_with (first | ((with_reducible refine gate_callee (f := 48) rfl ?_); refine goesL_ (some 66) rfl rfl Try.func48 (by kernel_rfl) rfl #[.int .i64 ((rd_T48 l0 x14_1).f1), .int .i64 0, .int .i64 (l0.length : Int)] rfl (by (try simp only [List.map_toArray, List.map_cons, List.map_nil]); first | done | rfl | (simp only [List.length_drop, List.length_take]; rfl)) ?_; (with_reducible refine (spec_l1In.calls ((rd_T48 l0 x14_1).f1) 0 (l0.length : Int) true _ A28.out).mono ?_); rintro e w' ⟨rfl, ⟨nd, rfl⟩⟩; refine ⟨_, rfl, ?_⟩))
              go_ret
              exact ⟨by first | rfl | (simp [errW_none, errW_some] <;> rfl) | (simp [*, errW_none, errW_some] <;> rfl), by repeat (first | (with_reducible first | exact HB.out | apply below_alloc | apply pw_below_drewN | apply below_drew1 | refine below_set ?_ GE283.out) | exact HB.out)⟩
            ·replace c29 := Bool.eq_false_iff.mpr c29
             (try subst c29)
             have H1 : (some false) = some r := by rw [if_neg (show ¬ (false = true) by decide)] at H; exact H
             clear H
             have H := H1
             clear H1
             obtain rfl := Option.some.inj H
             have hcz33_0 : wc.cell? ⟨gb283, 0, none⟩ = some (.int .i64 ((rd_T48 l0 x14_1).f0)) := (blk_cell BK283.out 0).trans rfl
             have hcz33_1 : wc.cell? ⟨gb283, 1, none⟩ = some (.int .i64 ((rd_T48 l0 x14_1).f1)) := (blk_cell BK283.out 1).trans rfl
             have hcz33_2 : wc.cell? ⟨gb283, 2, none⟩ = some (.int .i64 ((rd_T48 l0 x14_1).f2)) := (blk_cell BK283.out 2).trans rfl
             have hcz33_3 : wc.cell? ⟨gb283, 3, none⟩ = some (.int .i64 ((rd_T48 l0 x14_1).f3)) := (blk_cell BK283.out 3).trans rfl
             have hfz33_0 := blk_frozen BK283.out 0
             have hfz33_1 := blk_frozen BK283.out 1
             have hfz33_2 := blk_frozen BK283.out 2
             have hfz33_3 := blk_frozen BK283.out 3
             go_wp2_with (first | ((with_reducible refine gate_callee (f := 48) rfl ?_); refine goesL_ (some 66) rfl rfl Try.func48 (by kernel_rfl) rfl #[.int .i64 ((rd_T48 l0 x14_1).f1), .int .i64 0, .int .i64 (l0.length : Int)] rfl (by (try simp only [List.map_toArray, List.map_cons, List.map_nil]); first | done | rfl | (simp only [List.length_drop, List.length_take]; rfl)) ?_; (with_reducible refine (spec_l1In.calls ((rd_T48 l0 x14_1).f1) 0 (l0.length : Int) false _ A28.out).mono ?_); rintro e w' ⟨rfl, ⟨nd, rfl⟩⟩; refine ⟨_, rfl, ?_⟩))
             go_ret
             exact ⟨by first | rfl | (simp [errW_none, errW_some] <;> rfl) | (simp [*, errW_none, errW_some] <;> rfl), by repeat (first | (with_reducible first | exact HB.out | apply below_alloc | apply pw_below_drewN | apply below_drew1 | refine below_set ?_ GE283.out) | exact HB.out)⟩
           ·rw [if_neg c27] at H
            have c27b0 : (((rd_T48 l0 x14_1).f0) == 13) = false := beq_eq_false_iff_ne.mpr c27
            have c27b1 : (((rd_T48 l0 x14_1).f0) != 13) = true := bne_iff_ne.mpr c27
            by_cases c34 : ((rd_T48 l0 x14_1).f0) = 14
            ·rw [if_pos c34] at H
             have c34b0 : (((rd_T48 l0 x14_1).f0) == 14) = true := beq_iff_eq.mpr c34
             have c34b1 : (((rd_T48 l0 x14_1).f0) != 14) = false := bne_eq_false_iff_eq.mpr c34
             clear c34
             replace H := Option.bind_eq_some_iff.mp H
             obtain ⟨t287, A350, H⟩ := H
             replace H : (if t287 = true then ((spec_l1In.f ((rd_T48 l0 x14_1).f2) 0 (l0.length : Int)).bind fun t288 => (if t288 = true then ((spec_l1In.f ((rd_T48 l0 x14_1).f3) 0 (l0.length : Int)).bind fun t289 => (if t289 = true then (spec_IsCode.l0 kj6 (l0.length : Int) l0 (l0.length : Int) (wrap64 (x14_1 + 1))) else (some false))) else (some false))) else (some false)) = some r := H
             have A35 := Aside0.mk A350
             clear A350
             by_cases c36 : t287 = true
             ·(try subst c36)
              have H1 : ((spec_l1In.f ((rd_T48 l0 x14_1).f2) 0 (l0.length : Int)).bind fun t288 => (if t288 = true then ((spec_l1In.f ((rd_T48 l0 x14_1).f3) 0 (l0.length : Int)).bind fun t289 => (if t289 = true then (spec_IsCode.l0 kj6 (l0.length : Int) l0 (l0.length : Int) (wrap64 (x14_1 + 1))) else (some false))) else (some false))) = some r := by rw [if_pos rfl] at H; exact H
              clear H
              have H := H1
              clear H1
              replace H := Option.bind_eq_some_iff.mp H
              obtain ⟨t288, A370, H⟩ := H
              replace H : (if t288 = true then ((spec_l1In.f ((rd_T48 l0 x14_1).f3) 0 (l0.length : Int)).bind fun t289 => (if t289 = true then (spec_IsCode.l0 kj6 (l0.length : Int) l0 (l0.length : Int) (wrap64 (x14_1 + 1))) else (some false))) else (some false)) = some r := H
              have A37 := Aside0.mk A370
              clear A370
              by_cases c38 : t288 = true
              ·(try subst c38)
               have H1 : ((spec_l1In.f ((rd_T48 l0 x14_1).f3) 0 (l0.length : Int)).bind fun t289 => (if t289 = true then (spec_IsCode.l0 kj6 (l0.length : Int) l0 (l0.length : Int) (wrap64 (x14_1 + 1))) else (some false))) = some r := by rw [if_pos rfl] at H; exact H
               clear H
               have H := H1
               clear H1
               replace H := Option.bind_eq_some_iff.mp H
               obtain ⟨t289, A390, H⟩ := H
               replace H : (if t289 = true then (spec_IsCode.l0 kj6 (l0.length : Int) l0 (l0.length : Int) (wrap64 (x14_1 + 1))) else (some false)) = some r := H
               have A39 := Aside0.mk A390
               clear A390
               by_cases c40 : t289 = true
               ·(try subst c40)
                have H1 : (spec_IsCode.l0 kj6 (l0.length : Int) l0 (l0.length : Int) (wrap64 (x14_1 + 1))) = some r := by rw [if_pos rfl] at H; exact H
                clear H
                have H := H1
                clear H1
                have H' := Aside0.mk H
                clear H
                have hcz41_0 : wc.cell? ⟨gb283, 0, none⟩ = some (.int .i64 ((rd_T48 l0 x14_1).f0)) := (blk_cell BK283.out 0).trans rfl
                have hcz41_1 : wc.cell? ⟨gb283, 1, none⟩ = some (.int .i64 ((rd_T48 l0 x14_1).f1)) := (blk_cell BK283.out 1).trans rfl
                have hcz41_2 : wc.cell? ⟨gb283, 2, none⟩ = some (.int .i64 ((rd_T48 l0 x14_1).f2)) := (blk_cell BK283.out 2).trans rfl
                have hcz41_3 : wc.cell? ⟨gb283, 3, none⟩ = some (.int .i64 ((rd_T48 l0 x14_1).f3)) := (blk_cell BK283.out 3).trans rfl
                have hfz41_0 := blk_frozen BK283.out 0
                have hfz41_1 := blk_frozen BK283.out 1
                have hfz41_2 := blk_frozen BK283.out 2
                have hfz41_3 := blk_frozen BK283.out 3
                go_wp2_with (first | ((with_reducible refine gate_callee (f := 48) rfl ?_); refine goesL_ (some 77) rfl rfl Try.func48 (by kernel_rfl) rfl #[.int .i64 ((rd_T48 l0 x14_1).f1), .int .i64 0, .int .i64 (l0.length : Int)] rfl (by (try simp only [List.map_toArray, List.map_cons, List.map_nil]); first | done | rfl | (simp only [List.length_drop, List.length_take]; rfl)) ?_; (with_reducible refine (spec_l1In.calls ((rd_T48 l0 x14_1).f1) 0 (l0.length : Int) true _ A35.out).mono ?_); rintro e w' ⟨rfl, ⟨nd, rfl⟩⟩; refine ⟨_, rfl, ?_⟩) | (go_at_call 48; (with_reducible refine (spec_l1In.calls ((rd_T48 l0 x14_1).f2) 0 (l0.length : Int) true _ A37.out).mono ?_); rintro e w' ⟨rfl, ⟨nd, rfl⟩⟩) | (go_at_call 48; (with_reducible refine (spec_l1In.calls ((rd_T48 l0 x14_1).f3) 0 (l0.length : Int) true _ A39.out).mono ?_); rintro e w' ⟨rfl, ⟨nd, rfl⟩⟩))
                go_roundg kj6
                case measure => have := HK1.out; have := HJ6.out; omega
                case rel => exact ⟨(wrap64 (x14_1 + 1)), (by first | rfl | (simp; done) | (simp [*]; done)), H', ⟨by have := HK1.out; have := HJ6.out; omega⟩, ⟨by repeat (first | (with_reducible first | exact HB.out | apply below_alloc | apply pw_below_drewN | apply below_drew1 | refine below_set ?_ GE283.out) | exact HB.out)⟩⟩
               ·replace c40 := Bool.eq_false_iff.mpr c40
                (try subst c40)
                have H1 : (some false) = some r := by rw [if_neg (show ¬ (false = true) by decide)] at H; exact H
                clear H
                have H := H1
                clear H1
                obtain rfl := Option.some.inj H
                have hcz42_0 : wc.cell? ⟨gb283, 0, none⟩ = some (.int .i64 ((rd_T48 l0 x14_1).f0)) := (blk_cell BK283.out 0).trans rfl
                have hcz42_1 : wc.cell? ⟨gb283, 1, none⟩ = some (.int .i64 ((rd_T48 l0 x14_1).f1)) := (blk_cell BK283.out 1).trans rfl
                have hcz42_2 : wc.cell? ⟨gb283, 2, none⟩ = some (.int .i64 ((rd_T48 l0 x14_1).f2)) := (blk_cell BK283.out 2).trans rfl
                have hcz42_3 : wc.cell? ⟨gb283, 3, none⟩ = some (.int .i64 ((rd_T48 l0 x14_1).f3)) := (blk_cell BK283.out 3).trans rfl
                have hfz42_0 := blk_frozen BK283.out 0
                have hfz42_1 := blk_frozen BK283.out 1
                have hfz42_2 := blk_frozen BK283.out 2
                have hfz42_3 := blk_frozen BK283.out 3
                go_wp2_with (first | ((with_reducible refine gate_callee (f := 48) rfl ?_); refine goesL_ (some 77) rfl rfl Try.func48 (by kernel_rfl) rfl #[.int .i64 ((rd_T48 l0 x14_1).f1), .int .i64 0, .int .i64 (l0.length : Int)] rfl (by (try simp only [List.map_toArray, List.map_cons, List.map_nil]); first | done | rfl | (simp only [List.length_drop, List.length_take]; rfl)) ?_; (with_reducible refine (spec_l1In.calls ((rd_T48 l0 x14_1).f1) 0 (l0.length : Int) true _ A35.out).mono ?_); rintro e w' ⟨rfl, ⟨nd, rfl⟩⟩; refine ⟨_, rfl, ?_⟩) | (go_at_call 48; (with_reducible refine (spec_l1In.calls ((rd_T48 l0 x14_1).f2) 0 (l0.length : Int) true _ A37.out).mono ?_); rintro e w' ⟨rfl, ⟨nd, rfl⟩⟩) | (go_at_call 48; (with_reducible refine (spec_l1In.calls ((rd_T48 l0 x14_1).f3) 0 (l0.length : Int) false _ A39.out).mono ?_); rintro e w' ⟨rfl, ⟨nd, rfl⟩⟩))
                go_ret
                exact ⟨by first | rfl | (simp [errW_none, errW_some] <;> rfl) | (simp [*, errW_none, errW_some] <;> rfl), by repeat (first | (with_reducible first | exact HB.out | apply below_alloc | apply pw_below_drewN | apply below_drew1 | refine below_set ?_ GE283.out) | exact HB.out)⟩
              ·replace c38 := Bool.eq_false_iff.mpr c38
               (try subst c38)
               have H1 : (some false) = some r := by rw [if_neg (show ¬ (false = true) by decide)] at H; exact H
               clear H
               have H := H1
               clear H1
               obtain rfl := Option.some.inj H
               have hcz43_0 : wc.cell? ⟨gb283, 0, none⟩ = some (.int .i64 ((rd_T48 l0 x14_1).f0)) := (blk_cell BK283.out 0).trans rfl
               have hcz43_1 : wc.cell? ⟨gb283, 1, none⟩ = some (.int .i64 ((rd_T48 l0 x14_1).f1)) := (blk_cell BK283.out 1).trans rfl
               have hcz43_2 : wc.cell? ⟨gb283, 2, none⟩ = some (.int .i64 ((rd_T48 l0 x14_1).f2)) := (blk_cell BK283.out 2).trans rfl
               have hcz43_3 : wc.cell? ⟨gb283, 3, none⟩ = some (.int .i64 ((rd_T48 l0 x14_1).f3)) := (blk_cell BK283.out 3).trans rfl
               have hfz43_0 := blk_frozen BK283.out 0
               have hfz43_1 := blk_frozen BK283.out 1
               have hfz43_2 := blk_frozen BK283.out 2
               have hfz43_3 := blk_frozen BK283.out 3
               go_wp2_with (first | ((with_reducible refine gate_callee (f := 48) rfl ?_); refine goesL_ (some 77) rfl rfl Try.func48 (by kernel_rfl) rfl #[.int .i64 ((rd_T48 l0 x14_1).f1), .int .i64 0, .int .i64 (l0.length : Int)] rfl (by (try simp only [List.map_toArray, List.map_cons, List.map_nil]); first | done | rfl | (simp only [List.length_drop, List.length_take]; rfl)) ?_; (with_reducible refine (spec_l1In.calls ((rd_T48 l0 x14_1).f1) 0 (l0.length : Int) true _ A35.out).mono ?_); rintro e w' ⟨rfl, ⟨nd, rfl⟩⟩; refine ⟨_, rfl, ?_⟩) | (go_at_call 48; (with_reducible refine (spec_l1In.calls ((rd_T48 l0 x14_1).f2) 0 (l0.length : Int) false _ A37.out).mono ?_); rintro e w' ⟨rfl, ⟨nd, rfl⟩⟩))
               go_ret
               exact ⟨by first | rfl | (simp [errW_none, errW_some] <;> rfl) | (simp [*, errW_none, errW_some] <;> rfl), by repeat (first | (with_reducible first | exact HB.out | apply below_alloc | apply pw_below_drewN | apply below_drew1 | refine below_set ?_ GE283.out) | exact HB.out)⟩
             ·replace c36 := Bool.eq_false_iff.mpr c36
              (try subst c36)
              have H1 : (some false) = some r := by rw [if_neg (show ¬ (false = true) by decide)] at H; exact H
              clear H
              have H := H1
              clear H1
              obtain rfl := Option.some.inj H
              have hcz44_0 : wc.cell? ⟨gb283, 0, none⟩ = some (.int .i64 ((rd_T48 l0 x14_1).f0)) := (blk_cell BK283.out 0).trans rfl
              have hcz44_1 : wc.cell? ⟨gb283, 1, none⟩ = some (.int .i64 ((rd_T48 l0 x14_1).f1)) := (blk_cell BK283.out 1).trans rfl
              have hcz44_2 : wc.cell? ⟨gb283, 2, none⟩ = some (.int .i64 ((rd_T48 l0 x14_1).f2)) := (blk_cell BK283.out 2).trans rfl
              have hcz44_3 : wc.cell? ⟨gb283, 3, none⟩ = some (.int .i64 ((rd_T48 l0 x14_1).f3)) := (blk_cell BK283.out 3).trans rfl
              have hfz44_0 := blk_frozen BK283.out 0
              have hfz44_1 := blk_frozen BK283.out 1
              have hfz44_2 := blk_frozen BK283.out 2
              have hfz44_3 := blk_frozen BK283.out 3
              go_wp2_with (first | ((with_reducible refine gate_callee (f := 48) rfl ?_); refine goesL_ (some 77) rfl rfl Try.func48 (by kernel_rfl) rfl #[.int .i64 ((rd_T48 l0 x14_1).f1), .int .i64 0, .int .i64 (l0.length : Int)] rfl (by (try simp only [List.map_toArray, List.map_cons, List.map_nil]); first | done | rfl | (simp only [List.length_drop, List.length_take]; rfl)) ?_; (with_reducible refine (spec_l1In.calls ((rd_T48 l0 x14_1).f1) 0 (l0.length : Int) false _ A35.out).mono ?_); rintro e w' ⟨rfl, ⟨nd, rfl⟩⟩; refine ⟨_, rfl, ?_⟩))
              go_ret
              exact ⟨by first | rfl | (simp [errW_none, errW_some] <;> rfl) | (simp [*, errW_none, errW_some] <;> rfl), by repeat (first | (with_reducible first | exact HB.out | apply below_alloc | apply pw_below_drewN | apply below_drew1 | refine below_set ?_ GE283.out) | exact HB.out)⟩
            ·rw [if_neg c34] at H
             have c34b0 : (((rd_T48 l0 x14_1).f0) == 14) = false := beq_eq_false_iff_ne.mpr c34
             have c34b1 : (((rd_T48 l0 x14_1).f0) != 14) = true := bne_iff_ne.mpr c34
             replace H := Option.bind_eq_some_iff.mp H
             obtain ⟨t290, A450, H⟩ := H
             replace H : (if t290 = true then (if ((rd_T48 l0 x14_1).f1) = 0 then (if x6_6 = true then (spec_IsCode.l0 kj6 (l0.length : Int) l0 (l0.length : Int) (wrap64 (x14_1 + 1))) else (some false)) else (some false)) else (some false)) = some r := H
             have A45 := Aside0.mk A450
             clear A450
             by_cases c46 : t290 = true
             ·(try subst c46)
              have H1 : (if ((rd_T48 l0 x14_1).f1) = 0 then (if x6_6 = true then (spec_IsCode.l0 kj6 (l0.length : Int) l0 (l0.length : Int) (wrap64 (x14_1 + 1))) else (some false)) else (some false)) = some r := by rw [if_pos rfl] at H; exact H
              clear H
              have H := H1
              clear H1
              by_cases c47 : ((rd_T48 l0 x14_1).f1) = 0
              ·rw [if_pos c47] at H
               have c47b0 : (((rd_T48 l0 x14_1).f1) == 0) = true := beq_iff_eq.mpr c47
               have c47b1 : (((rd_T48 l0 x14_1).f1) != 0) = false := bne_eq_false_iff_eq.mpr c47
               clear c47
               by_cases c48 : x6_6 = true
               ·(try subst c48)
                have H1 : (spec_IsCode.l0 kj6 (l0.length : Int) l0 (l0.length : Int) (wrap64 (x14_1 + 1))) = some r := by rw [if_pos rfl] at H; exact H
                clear H
                have H := H1
                clear H1
                have H' := Aside0.mk H
                clear H
                have hcz49_0 : wc.cell? ⟨gb283, 0, none⟩ = some (.int .i64 ((rd_T48 l0 x14_1).f0)) := (blk_cell BK283.out 0).trans rfl
                have hcz49_1 : wc.cell? ⟨gb283, 1, none⟩ = some (.int .i64 ((rd_T48 l0 x14_1).f1)) := (blk_cell BK283.out 1).trans rfl
                have hcz49_2 : wc.cell? ⟨gb283, 2, none⟩ = some (.int .i64 ((rd_T48 l0 x14_1).f2)) := (blk_cell BK283.out 2).trans rfl
                have hcz49_3 : wc.cell? ⟨gb283, 3, none⟩ = some (.int .i64 ((rd_T48 l0 x14_1).f3)) := (blk_cell BK283.out 3).trans rfl
                have hfz49_0 := blk_frozen BK283.out 0
                have hfz49_1 := blk_frozen BK283.out 1
                have hfz49_2 := blk_frozen BK283.out 2
                have hfz49_3 := blk_frozen BK283.out 3
                go_wp2_with (first | ((with_reducible refine gate_callee (f := 48) rfl ?_); refine goesL_ (some 30) rfl rfl Try.func48 (by kernel_rfl) rfl #[.int .i64 ((rd_T48 l0 x14_1).f0), .int .i64 1, .int .i64 15] rfl (by (try simp only [List.map_toArray, List.map_cons, List.map_nil]); first | done | rfl | (simp only [List.length_drop, List.length_take]; rfl)) ?_; (with_reducible refine (spec_l1In.calls ((rd_T48 l0 x14_1).f0) 1 15 true _ A45.out).mono ?_); rintro e w' ⟨rfl, ⟨nd, rfl⟩⟩; refine ⟨_, rfl, ?_⟩))
                go_roundg kj6
                case measure => have := HK1.out; have := HJ6.out; omega
                case rel => exact ⟨(wrap64 (x14_1 + 1)), (by first | rfl | (simp; done) | (simp [*]; done)), H', ⟨by have := HK1.out; have := HJ6.out; omega⟩, ⟨by repeat (first | (with_reducible first | exact HB.out | apply below_alloc | apply pw_below_drewN | apply below_drew1 | refine below_set ?_ GE283.out) | exact HB.out)⟩⟩
               ·replace c48 := Bool.eq_false_iff.mpr c48
                (try subst c48)
                have H1 : (some false) = some r := by rw [if_neg (show ¬ (false = true) by decide)] at H; exact H
                clear H
                have H := H1
                clear H1
                obtain rfl := Option.some.inj H
                have hcz50_0 : wc.cell? ⟨gb283, 0, none⟩ = some (.int .i64 ((rd_T48 l0 x14_1).f0)) := (blk_cell BK283.out 0).trans rfl
                have hcz50_1 : wc.cell? ⟨gb283, 1, none⟩ = some (.int .i64 ((rd_T48 l0 x14_1).f1)) := (blk_cell BK283.out 1).trans rfl
                have hcz50_2 : wc.cell? ⟨gb283, 2, none⟩ = some (.int .i64 ((rd_T48 l0 x14_1).f2)) := (blk_cell BK283.out 2).trans rfl
                have hcz50_3 : wc.cell? ⟨gb283, 3, none⟩ = some (.int .i64 ((rd_T48 l0 x14_1).f3)) := (blk_cell BK283.out 3).trans rfl
                have hfz50_0 := blk_frozen BK283.out 0
                have hfz50_1 := blk_frozen BK283.out 1
                have hfz50_2 := blk_frozen BK283.out 2
                have hfz50_3 := blk_frozen BK283.out 3
                go_wp2_with (first | ((with_reducible refine gate_callee (f := 48) rfl ?_); refine goesL_ (some 30) rfl rfl Try.func48 (by kernel_rfl) rfl #[.int .i64 ((rd_T48 l0 x14_1).f0), .int .i64 1, .int .i64 15] rfl (by (try simp only [List.map_toArray, List.map_cons, List.map_nil]); first | done | rfl | (simp only [List.length_drop, List.length_take]; rfl)) ?_; (with_reducible refine (spec_l1In.calls ((rd_T48 l0 x14_1).f0) 1 15 true _ A45.out).mono ?_); rintro e w' ⟨rfl, ⟨nd, rfl⟩⟩; refine ⟨_, rfl, ?_⟩))
                go_ret
                exact ⟨by first | rfl | (simp [errW_none, errW_some] <;> rfl) | (simp [*, errW_none, errW_some] <;> rfl), by repeat (first | (with_reducible first | exact HB.out | apply below_alloc | apply pw_below_drewN | apply below_drew1 | refine below_set ?_ GE283.out) | exact HB.out)⟩
              ·rw [if_neg c47] at H
               have c47b0 : (((rd_T48 l0 x14_1).f1) == 0) = false := beq_eq_false_iff_ne.mpr c47
               have c47b1 : (((rd_T48 l0 x14_1).f1) != 0) = true := bne_iff_ne.mpr c47
               obtain rfl := Option.some.inj H
               have hcz51_0 : wc.cell? ⟨gb283, 0, none⟩ = some (.int .i64 ((rd_T48 l0 x14_1).f0)) := (blk_cell BK283.out 0).trans rfl
               have hcz51_1 : wc.cell? ⟨gb283, 1, none⟩ = some (.int .i64 ((rd_T48 l0 x14_1).f1)) := (blk_cell BK283.out 1).trans rfl
               have hcz51_2 : wc.cell? ⟨gb283, 2, none⟩ = some (.int .i64 ((rd_T48 l0 x14_1).f2)) := (blk_cell BK283.out 2).trans rfl
               have hcz51_3 : wc.cell? ⟨gb283, 3, none⟩ = some (.int .i64 ((rd_T48 l0 x14_1).f3)) := (blk_cell BK283.out 3).trans rfl
               have hfz51_0 := blk_frozen BK283.out 0
               have hfz51_1 := blk_frozen BK283.out 1
               have hfz51_2 := blk_frozen BK283.out 2
               have hfz51_3 := blk_frozen BK283.out 3
               go_wp2_with (first | ((with_reducible refine gate_callee (f := 48) rfl ?_); refine goesL_ (some 30) rfl rfl Try.func48 (by kernel_rfl) rfl #[.int .i64 ((rd_T48 l0 x14_1).f0), .int .i64 1, .int .i64 15] rfl (by (try simp only [List.map_toArray, List.map_cons, List.map_nil]); first | done | rfl | (simp only [List.length_drop, List.length_take]; rfl)) ?_; (with_reducible refine (spec_l1In.calls ((rd_T48 l0 x14_1).f0) 1 15 true _ A45.out).mono ?_); rintro e w' ⟨rfl, ⟨nd, rfl⟩⟩; refine ⟨_, rfl, ?_⟩))
               go_ret
               exact ⟨by first | rfl | (simp [errW_none, errW_some] <;> rfl) | (simp [*, errW_none, errW_some] <;> rfl), by repeat (first | (with_reducible first | exact HB.out | apply below_alloc | apply pw_below_drewN | apply below_drew1 | refine below_set ?_ GE283.out) | exact HB.out)⟩
             ·replace c46 := Bool.eq_false_iff.mpr c46
              (try subst c46)
              have H1 : (some false) = some r := by rw [if_neg (show ¬ (false = true) by decide)] at H; exact H
              clear H
              have H := H1
              clear H1
              obtain rfl := Option.some.inj H
              have hcz52_0 : wc.cell? ⟨gb283, 0, none⟩ = some (.int .i64 ((rd_T48 l0 x14_1).f0)) := (blk_cell BK283.out 0).trans rfl
              have hcz52_1 : wc.cell? ⟨gb283, 1, none⟩ = some (.int .i64 ((rd_T48 l0 x14_1).f1)) := (blk_cell BK283.out 1).trans rfl
              have hcz52_2 : wc.cell? ⟨gb283, 2, none⟩ = some (.int .i64 ((rd_T48 l0 x14_1).f2)) := (blk_cell BK283.out 2).trans rfl
              have hcz52_3 : wc.cell? ⟨gb283, 3, none⟩ = some (.int .i64 ((rd_T48 l0 x14_1).f3)) := (blk_cell BK283.out 3).trans rfl
              have hfz52_0 := blk_frozen BK283.out 0
              have hfz52_1 := blk_frozen BK283.out 1
              have hfz52_2 := blk_frozen BK283.out 2
              have hfz52_3 := blk_frozen BK283.out 3
              go_wp2_with (first | ((with_reducible refine gate_callee (f := 48) rfl ?_); refine goesL_ (some 30) rfl rfl Try.func48 (by kernel_rfl) rfl #[.int .i64 ((rd_T48 l0 x14_1).f0), .int .i64 1, .int .i64 15] rfl (by (try simp only [List.map_toArray, List.map_cons, List.map_nil]); first | done | rfl | (simp only [List.length_drop, List.length_take]; rfl)) ?_; (with_reducible refine (spec_l1In.calls ((rd_T48 l0 x14_1).f0) 1 15 false _ A45.out).mono ?_); rintro e w' ⟨rfl, ⟨nd, rfl⟩⟩; refine ⟨_, rfl, ?_⟩))
              go_ret
              exact ⟨by first | rfl | (simp [errW_none, errW_some] <;> rfl) | (simp [*, errW_none, errW_some] <;> rfl), by repeat (first | (with_reducible first | exact HB.out | apply below_alloc | apply pw_below_drewN | apply below_drew1 | refine below_set ?_ GE283.out) | exact HB.out)⟩
      ·rw [if_neg c6] at H
       exact absurd H (by simp)
     ·rw [if_neg c5] at H
      exact absurd H (by simp)
    ·rw [if_neg c4] at H
     have c4b0 : decide (x14_1 < (l0.length : Int)) = false := decide_eq_false c4
     clear c4
     obtain rfl := Option.some.inj H
     go_wp2
     go_ret
     exact ⟨by first | rfl | (simp [errW_none, errW_some] <;> rfl) | (simp [*, errW_none, errW_some] <;> rfl), by repeat (first | (with_reducible first | exact HB.out | apply below_alloc | apply pw_below_drewN | apply below_drew1) | exact HB.out)⟩
 ·replace c3 := Bool.eq_false_iff.mpr c3
  (try subst c3)
  have H1 : (some false) = some r := by rw [if_neg (show ¬ (false = true) by decide)] at H; exact H
  clear H
  have H := H1
  clear H1
  obtain rfl := Option.some.inj H
  go_enter Try.func32, Try.ntmps32
  go_wp2_with (first | ((with_reducible refine gate_callee (f := 48) rfl ?_); refine goesL_ (some 10) rfl rfl Try.func48 (by kernel_rfl) rfl #[.int .i64 (l0.length : Int), .int .i64 1, .int .i64 80] rfl (by (try simp only [List.map_toArray, List.map_cons, List.map_nil]); first | done | rfl | (simp only [List.length_drop, List.length_take]; rfl)) ?_; (with_reducible refine (spec_l1In.calls (l0.length : Int) 1 80 false _ A2.out).mono ?_); rintro e w' ⟨rfl, ⟨nd, rfl⟩⟩; refine ⟨_, rfl, ?_⟩))
  go_ret
  exact ⟨by first | rfl | (simp [errW_none, errW_some] <;> rfl) | (simp [*, errW_none, errW_some] <;> rfl), by repeat (first | (with_reducible first | exact HB.out | apply below_alloc | apply pw_below_drewN | apply below_drew1) | exact HB.out)⟩

end Go.Proofs.Ytlmiankjbffboaa.HFnStack

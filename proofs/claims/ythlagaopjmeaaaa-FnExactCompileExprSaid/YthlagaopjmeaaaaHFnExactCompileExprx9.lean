/- Text for FnExactCompileExpr: written by a program of this session on the pattern of the kit's print. -/
import Derived.Test.YthlagaopjmeaaaaHFnExactCompileExprx0
import Derived.Test.YthlagaopjmeaaaaHFnExactCompileExprx8
namespace Go.Proofs.Ythlagaopjmeaaaa.HFnExactCompileExpr
set_option maxHeartbeats 8000000
set_option maxRecDepth 100000
open Go.RowKit Go.Proofs.YthlagaopjmeaaaaW.PrintWords Go.Proofs.YthlagaopjmeaaaaW.PrintLast Go.Proofs.YthlagaopjmeaaaaW.PrintMore
attribute [local go_sem] max2_int min2_int max_two min_two max_three min_three max_four min_four
set_option linter.unusedVariables false
set_option linter.unusedSimpArgs false

/-! ### impl_isOp: function 42 -/
/-- What isOp says, with what 'fits' says of A. -/
def isOpB (f : Bool) (c a b d n : Int) : Bool :=
 if c = 1 then f && decide (b = 0) && decide (d = 0)
 else if c = 10 then decide (-9 ≤ a) && decide (a ≤ 9) && decide (b = 0) && decide (d = 0)
 else if c = 13 then (decide (0 ≤ a) && decide (a ≤ n)) && decide (b = 0) && decide (d = 0)
 else if c = 14 then (decide (0 ≤ a) && decide (a ≤ n)) && (decide (0 ≤ b) && decide (b ≤ n)) && (decide (0 ≤ d) && decide (d ≤ n))
 else decide (1 ≤ c) && decide (c ≤ 15) && (decide (a = 0) && decide (b = 0) && decide (d = 0))
def impl_isOp.f (k : Nat) (c a b d n : Int) : Option Bool := (impl_fits.f k a 9).bind fun f => some (isOpB f c a b d n)
theorem impl_isOp.mono : ∀ c a b d n k, LeO (impl_isOp.f k c a b d n) (impl_isOp.f (k + 1) c a b d n) := fun c a b d n k => LeO.bind (impl_fits.mono a 9 k) (fun _ => LeO.refl _)
theorem impl_isOp.calls (k : Nat) (a0_0 : Int) (a0_1 : Int) (a0_2 : Int) (a0_3 : Int) (a1 : Int) (r : Bool) (w : World) (h : impl_isOp.f k a0_0 a0_1 a0_2 a0_3 a1 = some r) :
  Calls Try.prog 42 #[.agg #[.int .i64 a0_0, .int .i64 a0_1, .int .i64 a0_2, .int .i64 a0_3], .int .i64 a1] w fun e w' => e = .returned (.bool r) ∧ Below w.heap.size w w' := by
 obtain ⟨c, ec⟩ : ∃ z, z = a0_0 := ⟨_, rfl⟩
 obtain ⟨a, ea⟩ : ∃ z, z = a0_1 := ⟨_, rfl⟩
 obtain ⟨b, eb⟩ : ∃ z, z = a0_2 := ⟨_, rfl⟩
 obtain ⟨d, ed⟩ : ∃ z, z = a0_3 := ⟨_, rfl⟩
 obtain ⟨n, en⟩ : ∃ z, z = a1 := ⟨_, rfl⟩
 rw [← ec, ← ea, ← eb, ← ed, ← en] at h ⊢
 clear ec ea eb ed en
 obtain ⟨f, hf, h⟩ := Option.bind_eq_some_iff.1 h
 have hr := Option.some.inj h
 clear h
 have hb : (b == 0) = decide (b = 0) := by rw [Bool.eq_iff_iff]; simp
 have hd : (d == 0) = decide (d = 0) := by rw [Bool.eq_iff_iff]; simp
 by_cases c1 : c = 1
 ·(try subst c1)
  rw [isOpB, if_pos rfl] at hr
  subst hr
  cases f <;> cases h1 : decide (b = 0) <;> cases h2 : decide (d = 0) <;>
  ·rw [h1] at hb
   rw [h2] at hd
   go_enter Try.func42, Try.ntmps42
   go_wp2_with (go_at_call 50; refine (impl_fits.calls k a 9 _ _ hf).mono ?_; rintro e w' ⟨rfl, ⟨nd, rfl⟩⟩)
   go_ret
   exact ⟨by first | rfl | simp [*], by repeat (first | (with_reducible first | exact Below.refl _ _ | apply below_alloc | apply pw_below_drewN | apply below_drew1) | exact Below.refl _ _)⟩
 ·clear hf
  by_cases c10 : c = 10
  ·(try subst c10)
   rw [isOpB, if_neg (by decide), if_pos rfl] at hr
   subst hr
   cases h3 : decide (-9 ≤ a) <;> cases h4 : decide (a ≤ 9) <;> cases h1 : decide (b = 0) <;> cases h2 : decide (d = 0) <;>
   ·rw [h1] at hb
    rw [h2] at hd
    go_enter Try.func42, Try.ntmps42
    go_wp2
    go_ret
    exact ⟨by first | rfl | simp [*], by repeat (first | (with_reducible first | exact Below.refl _ _ | apply below_alloc | apply pw_below_drewN | apply below_drew1) | exact Below.refl _ _)⟩
  ·by_cases c13 : c = 13
   ·(try subst c13)
    rw [isOpB, if_neg (by decide), if_neg (by decide), if_pos rfl] at hr
    subst hr
    cases pa : (decide (0 ≤ a) && decide (a ≤ n)) <;> cases h1 : decide (b = 0) <;> cases h2 : decide (d = 0) <;>
    ·rw [h1] at hb
     rw [h2] at hd
     go_enter Try.func42, Try.ntmps42
     go_wp2_with (go_at_call 49; with_reducible refine (place49 a n _ _ _ pa (by simp)).mono ?_; rintro e w' ⟨rfl, ⟨nda, rfl⟩⟩)
     go_ret
     exact ⟨by first | rfl | simp [*], by repeat (first | (with_reducible first | exact Below.refl _ _ | apply below_alloc | apply pw_below_drewN | apply below_drew1) | exact Below.refl _ _)⟩
   ·by_cases c14 : c = 14
    ·(try subst c14)
     rw [isOpB, if_neg (by decide), if_neg (by decide), if_neg (by decide), if_pos rfl] at hr
     subst hr
     clear hb hd
     cases pa : (decide (0 ≤ a) && decide (a ≤ n)) <;> cases pb : (decide (0 ≤ b) && decide (b ≤ n)) <;> cases pd : (decide (0 ≤ d) && decide (d ≤ n)) <;>
     ·go_enter Try.func42, Try.ntmps42
      go_wp2_with (first | (go_at_call 49; with_reducible refine (place49 a n _ _ _ pa (by simp)).mono ?_; rintro e w' ⟨rfl, ⟨nda, rfl⟩⟩) | (go_at_call 49; with_reducible refine (place49 b n _ _ _ pb (by simp)).mono ?_; rintro e w' ⟨rfl, ⟨ndb, rfl⟩⟩) | (go_at_call 49; with_reducible refine (place49 d n _ _ _ pd (by simp)).mono ?_; rintro e w' ⟨rfl, ⟨ndd, rfl⟩⟩))
      go_ret
      exact ⟨by first | rfl | simp [*], by repeat (first | (with_reducible first | exact Below.refl _ _ | apply below_alloc | apply pw_below_drewN | apply below_drew1) | exact Below.refl _ _)⟩
    ·have e1 : (c == 1) = false := beq_eq_false_iff_ne.mpr c1
     have e10 : (c == 10) = false := beq_eq_false_iff_ne.mpr c10
     have e13 : (c == 13) = false := beq_eq_false_iff_ne.mpr c13
     have e14 : (c == 14) = false := beq_eq_false_iff_ne.mpr c14
     rw [isOpB, if_neg c1, if_neg c10, if_neg c13, if_neg c14] at hr
     subst hr
     clear hb hd
     cases h3 : decide (1 ≤ c) <;> cases h4 : decide (c ≤ 15) <;>
     ·go_enter Try.func42, Try.ntmps42
      go_wp2
      all_goals go_ret
      all_goals exact ⟨by first | rfl | simp [*], by repeat (first | (with_reducible first | exact Below.refl _ _ | apply below_alloc | apply pw_below_drewN | apply below_drew1) | exact Below.refl _ _)⟩

/-! ### impl_IsCode_1: function 41 -/
set_option maxHeartbeats 2000000 in
theorem closure41 (k : Nat) (c a b d : Int) (n cap : Nat) (A : Option Addr) (blk : Nat) (r : Bool) (w : World) (hB : blk < w.heap.size) (hc : w.cell? ⟨blk, 0, none⟩ = some (.slice A n cap)) (h : impl_isOp.f k c a b d n = some r) :
  Calls Try.prog 41 #[.agg #[.int .i64 c, .int .i64 a, .int .i64 b, .int .i64 d], .pointer (some ⟨blk, 0, none⟩)] w fun e w' => e = .returned (.bool (!r)) ∧ Below w.heap.size w w' := by
 have hne : blk ≠ w.heap.size := by omega
 go_enter Try.func41, Try.ntmps41
 go_wp2_with (go_at_call 42; refine (impl_isOp.calls k c a b d n r _ h).mono ?_; rintro e w' ⟨rfl, hb'⟩)
 go_ret
 exact ⟨by first | rfl | simp, ((Below.refl _ w).alloc (Nat.le_refl _) _).trans (hb'.mono (by simp))⟩

/-! ### impl_IsCode: function 30 -/
def impl_IsCode.f (k : Nat) (l : List S50) : Option Bool := if l.length ≥ 1 then (if l.length ≤ 80 then (Go.Proofs.Ythlagaopjmeaaaa.Any.anyO (fun x => (impl_isOp.f k x.f0 x.f1 x.f2 x.f3 (l.length : Int)).bind fun t => some (!t)) l).bind fun b => some (!b) else some false) else some false
theorem impl_IsCode.mono : ∀ l k, LeO (impl_IsCode.f k l) (impl_IsCode.f (k + 1) l) := fun l k => LeO.ite (LeO.ite (LeO.bind (Go.Proofs.Ythlagaopjmeaaaa.Any.anyO_le (fun x => LeO.bind (impl_isOp.mono _ _ _ _ _ k) (fun _ => LeO.refl _)) l) (fun _ => LeO.refl _)) (LeO.refl _)) (LeO.refl _)
theorem impl_IsCode.calls (k : Nat) (A0 : Option Addr) (c0 : Nat) (l0 : List (S50)) (r : Bool) (w : World) (hr0 : Kd.C k50 w A0 l0.length l0) (hc0 : l0.length ≤ c0) (h : impl_IsCode.f k l0 = some r) :
  Calls Try.prog 30 #[.slice A0 l0.length c0] w fun e w' => e = .returned (.bool r) ∧ Below w.heap.size w w' := by
 unfold impl_IsCode.f at h
 by_cases c1 : l0.length ≥ 1
 ·rw [if_pos c1] at h
  have c1b : decide (1 ≤ (l0.length : Int)) = true := decide_eq_true (by omega)
  by_cases c2 : l0.length ≤ 80
  ·rw [if_pos c2] at h
   have c2b : decide ((l0.length : Int) ≤ 80) = true := decide_eq_true (by omega)
   obtain ⟨b, hb, h⟩ := Option.bind_eq_some_iff.1 h
   obtain rfl := Option.some.inj h
   obtain ⟨p, h1, h2⟩ := Go.Proofs.Ythlagaopjmeaaaa.Any.anyO_some' hb
   have hcon := fun (w : World) (blk : Nat) (hB : blk < w.heap.size) (hcl : w.cell? ⟨blk, 0, none⟩ = some (.slice A0 l0.length c0)) (hr : Kd.C k50 w A0 l0.length l0) => contains40 41 #[.pointer (some ⟨blk, 0, none⟩)] p (fun j => .int .i64 (rd_T50 l0 j).f0) (fun j => .int .i64 (rd_T50 l0 j).f1) (fun j => .int .i64 (rd_T50 l0 j).f2) (fun j => .int .i64 (rd_T50 l0 j).f3) (fun args w => enters_ Try.func41 (by kernel_rfl) rfl args w) A0 l0.length c0 b w (by have := hr.2.1; omega)
    (fun W hW j hj => by
     obtain ⟨ad, e, hx⟩ := at_T50 (Kd.C_below hr hW) (j : Int) (by omega) (by omega)
     exact ⟨ad, e, by simpa using hx⟩)
    (fun W j hW hj => by
     have e := h1 j hj
     obtain ⟨t, ht, e⟩ := Option.bind_eq_some_iff.1 e
     have e := Option.some.inj e
     have eg : rd_T50 l0 (j : Int) = l0[j] := by simp [rd_T50, List.getD_eq_getElem?_getD, List.getElem?_eq_getElem hj]
     rw [← e]
     refine (closure41 k _ _ _ _ l0.length c0 A0 blk t W (Nat.lt_of_lt_of_le hB hW.size) ((hW.cell (p := ⟨blk, 0, none⟩) hB).trans hcl) (by rw [eg]; exact ht)).mono ?_
     rintro e w' ⟨rfl, hb'⟩
     exact ⟨rfl, hW.trans (hb'.mono hW.size)⟩) h2
   clear h1 h2 hb
   go_enter Try.func30, Try.ntmps30
   go_wp2_with (go_at_call 40; refine (hcon _ w.heap.size (by simp) (by simp) (by with_reducible repeat (first | exact hr0 | refine Kd.C_alloc ?_ _ | refine Kd.C_drewN ?_ _ | refine Kd.C_drew ?_))).mono ?_; rintro e w' ⟨rfl, hb'⟩)
   go_ret
   exact ⟨by first | rfl | simp, ((Below.refl _ w).alloc (Nat.le_refl _) _).trans (hb'.mono (by simp))⟩
  ·rw [if_neg c2] at h
   have c2b : decide ((l0.length : Int) ≤ 80) = false := decide_eq_false (by omega)
   obtain rfl := Option.some.inj h
   go_enter Try.func30, Try.ntmps30
   go_wp2
   go_ret
   exact ⟨by first | rfl | simp, (Below.refl _ w).alloc (Nat.le_refl _) _⟩
 ·rw [if_neg c1] at h
  have c1b : decide (1 ≤ (l0.length : Int)) = false := decide_eq_false (by omega)
  obtain rfl := Option.some.inj h
  go_enter Try.func30, Try.ntmps30
  go_wp2
  go_ret
  exact ⟨by first | rfl | simp, (Below.refl _ w).alloc (Nat.le_refl _) _⟩

/-! ### impl_CompileExpr: function 13 -/
def impl_CompileExpr.f (k : Nat) (a0_0 : Int) (a0_1 : Int) (l0_2 : List (S28)) : Option ((List (S50)) × Bool) := (impl_IsExpr.f k a0_0 a0_1 l0_2).bind fun t202 => (if t202 = true then ((impl_compiled.f k a0_0 a0_1 l0_2).bind fun bt203 => (if bt203.2 = true then ((impl_IsCode.f k bt203.1).bind fun t207 => (if t207 = true then (some (bt203.1, true)) else (some (([] : List (S50)), false)))) else (some (([] : List (S50)), false)))) else (some (([] : List (S50)), false)))
theorem impl_CompileExpr.mono : ∀ a0 a1 a2 k, LeO (impl_CompileExpr.f k a0 a1 a2) (impl_CompileExpr.f (k + 1) a0 a1 a2) := by
 intro a0 a1 a2 k
 unfold impl_CompileExpr.f
 repeat' first
   | (with_reducible exact impl_IsCode.mono _ _)
   | (with_reducible exact impl_IsExpr.mono _ _ _ _)
   | (with_reducible exact impl_compiled.mono _ _ _ _)
   | (with_reducible exact LeO.refl _)
   | (with_reducible exact LeO.none _)
   | (with_reducible refine LeO.ite ?_ ?_)
   | (with_reducible refine LeO.bind ?_ (fun _ => ?_))
   | exact impl_IsCode.mono _ _
   | exact impl_IsExpr.mono _ _ _ _
   | exact impl_compiled.mono _ _ _ _
   | exact LeO.none _
   | refine LeO.ite ?_ ?_
   | refine LeO.bind ?_ (fun _ => ?_)
theorem impl_CompileExpr.calls (k : Nat) (a0_0 : Int) (a0_1 : Int) (A0_2 : Option Addr) (c0_2 : Nat) (l0_2 : List (S28)) (r1 : List (S50)) (r2 : Bool) (w : World) (hr0_2 : Kd.C k28 w A0_2 l0_2.length l0_2) (hc0_2 : l0_2.length ≤ c0_2) (h : impl_CompileExpr.f k a0_0 a0_1 l0_2 = some (r1, r2)) :
  Calls Try.prog 13 #[.agg #[.int .i64 a0_0, .int .i64 a0_1, .slice A0_2 l0_2.length c0_2]] w fun e w' => ∃ v0_ : Value, e = .returned (.tuple #[v0_, .bool r2]) ∧ Kd.R k50 50 w' w.heap.size (fun _ => True) v0_ r1 ∧ Below w.heap.size w w' := by
 have hu28 := Try.underlying28
 have HR0_2 := Ak hr0_2
 have HC0_2 := Ak hc0_2
 clear hr0_2 hc0_2
 have HB := Ak (Below.refl w.heap.size w)
 have H : ((impl_IsExpr.f k a0_0 a0_1 l0_2).bind fun t202 => (if t202 = true then ((impl_compiled.f k a0_0 a0_1 l0_2).bind fun bt203 => (if bt203.2 = true then ((impl_IsCode.f k bt203.1).bind fun t207 => (if t207 = true then (some (bt203.1, true)) else (some (([] : List (S50)), false)))) else (some (([] : List (S50)), false)))) else (some (([] : List (S50)), false)))) = some (r1, r2) := h
 clear h
 replace H := Option.bind_eq_some_iff.mp H
 obtain ⟨t202, A20, H⟩ := H
 replace H : (if t202 = true then ((impl_compiled.f k a0_0 a0_1 l0_2).bind fun bt203 => (if bt203.2 = true then ((impl_IsCode.f k bt203.1).bind fun t207 => (if t207 = true then (some (bt203.1, true)) else (some (([] : List (S50)), false)))) else (some (([] : List (S50)), false)))) else (some (([] : List (S50)), false))) = some (r1, r2) := H
 have A2 := Ak A20
 clear A20
 by_cases c3 : t202 = true
 ·(try subst c3)
  have H1 : ((impl_compiled.f k a0_0 a0_1 l0_2).bind fun bt203 => (if bt203.2 = true then ((impl_IsCode.f k bt203.1).bind fun t207 => (if t207 = true then (some (bt203.1, true)) else (some (([] : List (S50)), false)))) else (some (([] : List (S50)), false)))) = some (r1, r2) := by rw [if_pos rfl] at H; exact H
  clear H
  have H := H1
  clear H1
  replace H := Option.bind_eq_some_iff.mp H
  obtain ⟨⟨t203, t206⟩, A40, H⟩ := H
  replace H : (if t206 = true then ((impl_IsCode.f k t203).bind fun t207 => (if t207 = true then (some (t203, true)) else (some (([] : List (S50)), false)))) else (some (([] : List (S50)), false))) = some (r1, r2) := H
  have A4 := Ak A40
  clear A40
  by_cases c5 : t206 = true
  ·(try subst c5)
   have H1 : ((impl_IsCode.f k t203).bind fun t207 => (if t207 = true then (some (t203, true)) else (some (([] : List (S50)), false)))) = some (r1, r2) := by rw [if_pos rfl] at H; exact H
   clear H
   have H := H1
   clear H1
   replace H := Option.bind_eq_some_iff.mp H
   obtain ⟨t207, A60, H⟩ := H
   replace H : (if t207 = true then (some (t203, true)) else (some (([] : List (S50)), false))) = some (r1, r2) := H
   have A6 := Ak A60
   clear A60
   by_cases c7 : t207 = true
   ·(try subst c7)
    have H1 : (some (t203, true)) = some (r1, r2) := by rw [if_pos rfl] at H; exact H
    clear H
    have H := H1
    clear H1
    simp only [Option.some.injEq, Prod.mk.injEq] at H
    obtain ⟨rfl, rfl⟩ := H
    go_enter Try.func13, Try.ntmps13
    go_wp2_with (first | ((with_reducible refine gate_dst (N := 1) rfl ?_); refine Qk 1 #[.int .i64 a0_0, .int .i64 a0_1, .slice A0_2 l0_2.length c0_2] 28 ?_; intro gb201 hg w8 hbox hb; have n0_ := Ak (below_step (Qb HB.out) hb); have n1_ := Ak (hbox); have n2_ := Ak ((Qp hg HB.out : w.heap.size ≤ gb201)); have n3_ := Ak ((Qp hg HB.out : w.heap.size ≤ gb201)); clear HB; have HB := n0_; have BK201 := n1_; have GW201 := n2_; have GE201 := n3_; clear n0_ n1_ n2_ n3_; clear hb hbox hg; obtain ⟨hcz9_0, hcz9_1, hcz9_2⟩ := Qu3 BK201.out; have hfz9_0 := blk_frozen BK201.out 0; have hfz9_1 := blk_frozen BK201.out 1; have hfz9_2 := blk_frozen BK201.out 2) | ((with_reducible refine gate_callee (f := 21) rfl ?_); refine Qj (some 7) Try.func21 #[.agg #[.int .i64 a0_0, .int .i64 a0_1, .slice A0_2 l0_2.length c0_2]] ?_; (with_reducible refine (impl_IsExpr.calls k a0_0 a0_1 _ _ l0_2 true _ ?side1 ?side2 A2.out).mono ?_); (case side1 => repeat (first | exact (Kd.C_below HR0_2.out HB.out) | (with_reducible refine Kd.C_alloc ?_ _) | (with_reducible refine Kd.C_drewN ?_ _) | (with_reducible refine Kd.C_drew ?_))); (case side2 => exact HC0_2.out); rintro e w10 ⟨rfl, hb⟩; refine ⟨_, rfl, ?_⟩; have n0_ := Ak (Qm BK201.out hb); have n1_ := Ak (below_step (Qb HB.out) hb); clear BK201 HB; have BK201 := n0_; have HB := n1_; clear n0_ n1_; (try clear hb); (try clear hb2); (try clear hk); (try clear hi); obtain ⟨hcz11_0, hcz11_1, hcz11_2⟩ := Qu3 BK201.out; have hfz11_0 := blk_frozen BK201.out 0; have hfz11_1 := blk_frozen BK201.out 1; have hfz11_2 := blk_frozen BK201.out 2) | ((with_reducible refine gate_callee (f := 29) rfl ?_); refine Qj (some 11) Try.func29 #[.agg #[.int .i64 a0_0, .int .i64 a0_1, .slice A0_2 l0_2.length c0_2]] ?_; (with_reducible refine (impl_compiled.calls k a0_0 a0_1 _ _ l0_2 t203 true _ ?side1 ?side2 A4.out).mono ?_); (case side1 => repeat (first | exact (Kd.C_below HR0_2.out HB.out) | (with_reducible refine Kd.C_alloc ?_ _) | (with_reducible refine Kd.C_drewN ?_ _) | (with_reducible refine Kd.C_drew ?_))); (case side2 => exact HC0_2.out); rintro e w12 ⟨v204, rfl, ho0, hb⟩; refine ⟨_, rfl, ?_⟩; have n0_ := Ak (Kd.R_lower ho0 (below_size (Qb HB.out))); have n1_ := Ak (Qm BK201.out hb); have n2_ := Ak (below_step (Qb HB.out) hb); clear BK201 HB; have HO205 := n0_; have BK201 := n1_; have HB := n2_; clear n0_ n1_ n2_; (try clear hb); (try clear hb2); (try clear hk); (try clear hi); (try clear ho0); obtain ⟨Ao13, co13, eo13⟩ := Kd.R_slice HO205.out; subst eo13) | (go_at_call 30; (with_reducible refine (impl_IsCode.calls k _ _ t203 true _ ?side1 ?side2 A6.out).mono ?_); (case side1 => repeat (first | exact (Kd.R_reads' HO205.out).2.2 | (with_reducible refine Kd.C_alloc ?_ _) | (with_reducible refine Kd.C_drewN ?_ _) | (with_reducible refine Kd.C_drew ?_))); (case side2 => exact (Kd.R_reads' HO205.out).2.1); rintro e w14 ⟨rfl, hb⟩; have n0_ := Ak (Kd.R_below (Qc HO205.out) hb); have n1_ := Ak (Qm BK201.out hb); have n2_ := Ak (below_step (Qb HB.out) hb); clear HO205 BK201 HB; have HO205 := n0_; have BK201 := n1_; have HB := n2_; clear n0_ n1_ n2_; (try clear hb); (try clear hb2); (try clear hk); (try clear hi)))
    go_ret2
    exact ⟨_, Qh, by refine Qf ?_; exact HO205.out, Qb HB.out⟩
   ·replace c7 := Bool.eq_false_iff.mpr c7
    (try subst c7)
    have H1 : (some (([] : List (S50)), false)) = some (r1, r2) := by rw [if_neg (show ¬ (false = true) by decide)] at H; exact H
    clear H
    have H := H1
    clear H1
    simp only [Option.some.injEq, Prod.mk.injEq] at H
    obtain ⟨rfl, rfl⟩ := H
    go_enter Try.func13, Try.ntmps13
    go_wp2_with (first | ((with_reducible refine gate_dst (N := 1) rfl ?_); refine Qk 1 #[.int .i64 a0_0, .int .i64 a0_1, .slice A0_2 l0_2.length c0_2] 28 ?_; intro gb201 hg w15 hbox hb; have n0_ := Ak (below_step (Qb HB.out) hb); have n1_ := Ak (hbox); have n2_ := Ak ((Qp hg HB.out : w.heap.size ≤ gb201)); have n3_ := Ak ((Qp hg HB.out : w.heap.size ≤ gb201)); clear HB; have HB := n0_; have BK201 := n1_; have GW201 := n2_; have GE201 := n3_; clear n0_ n1_ n2_ n3_; clear hb hbox hg; obtain ⟨hcz16_0, hcz16_1, hcz16_2⟩ := Qu3 BK201.out; have hfz16_0 := blk_frozen BK201.out 0; have hfz16_1 := blk_frozen BK201.out 1; have hfz16_2 := blk_frozen BK201.out 2) | ((with_reducible refine gate_callee (f := 21) rfl ?_); refine Qj (some 7) Try.func21 #[.agg #[.int .i64 a0_0, .int .i64 a0_1, .slice A0_2 l0_2.length c0_2]] ?_; (with_reducible refine (impl_IsExpr.calls k a0_0 a0_1 _ _ l0_2 true _ ?side1 ?side2 A2.out).mono ?_); (case side1 => repeat (first | exact (Kd.C_below HR0_2.out HB.out) | (with_reducible refine Kd.C_alloc ?_ _) | (with_reducible refine Kd.C_drewN ?_ _) | (with_reducible refine Kd.C_drew ?_))); (case side2 => exact HC0_2.out); rintro e w17 ⟨rfl, hb⟩; refine ⟨_, rfl, ?_⟩; have n0_ := Ak (Qm BK201.out hb); have n1_ := Ak (below_step (Qb HB.out) hb); clear BK201 HB; have BK201 := n0_; have HB := n1_; clear n0_ n1_; (try clear hb); (try clear hb2); (try clear hk); (try clear hi); obtain ⟨hcz18_0, hcz18_1, hcz18_2⟩ := Qu3 BK201.out; have hfz18_0 := blk_frozen BK201.out 0; have hfz18_1 := blk_frozen BK201.out 1; have hfz18_2 := blk_frozen BK201.out 2) | ((with_reducible refine gate_callee (f := 29) rfl ?_); refine Qj (some 11) Try.func29 #[.agg #[.int .i64 a0_0, .int .i64 a0_1, .slice A0_2 l0_2.length c0_2]] ?_; (with_reducible refine (impl_compiled.calls k a0_0 a0_1 _ _ l0_2 t203 true _ ?side1 ?side2 A4.out).mono ?_); (case side1 => repeat (first | exact (Kd.C_below HR0_2.out HB.out) | (with_reducible refine Kd.C_alloc ?_ _) | (with_reducible refine Kd.C_drewN ?_ _) | (with_reducible refine Kd.C_drew ?_))); (case side2 => exact HC0_2.out); rintro e w19 ⟨v204, rfl, ho0, hb⟩; refine ⟨_, rfl, ?_⟩; have n0_ := Ak (Kd.R_lower ho0 (below_size (Qb HB.out))); have n1_ := Ak (Qm BK201.out hb); have n2_ := Ak (below_step (Qb HB.out) hb); clear BK201 HB; have HO205 := n0_; have BK201 := n1_; have HB := n2_; clear n0_ n1_ n2_; (try clear hb); (try clear hb2); (try clear hk); (try clear hi); (try clear ho0); obtain ⟨Ao20, co20, eo20⟩ := Kd.R_slice HO205.out; subst eo20) | (go_at_call 30; (with_reducible refine (impl_IsCode.calls k _ _ t203 false _ ?side1 ?side2 A6.out).mono ?_); (case side1 => repeat (first | exact (Kd.R_reads' HO205.out).2.2 | (with_reducible refine Kd.C_alloc ?_ _) | (with_reducible refine Kd.C_drewN ?_ _) | (with_reducible refine Kd.C_drew ?_))); (case side2 => exact (Kd.R_reads' HO205.out).2.1); rintro e w21 ⟨rfl, hb⟩; have n0_ := Ak (Kd.R_below (Qc HO205.out) hb); have n1_ := Ak (Qm BK201.out hb); have n2_ := Ak (below_step (Qb HB.out) hb); clear HO205 BK201 HB; have HO205 := n0_; have BK201 := n1_; have HB := n2_; clear n0_ n1_ n2_; (try clear hb); (try clear hb2); (try clear hk); (try clear hi)))
    go_ret2
    exact ⟨_, Qh, by first | exact Kd.R_nil _ _ _ _ _ | exact Kd.N_nil _ _ _ _ _ | exact Kd.V_nil _ _ _ _ _ | exact Kd.Q_nil _ _ _ _ _ | exact Kd.S_nil _ _ _ _ _, Qb HB.out⟩
  ·replace c5 := Bool.eq_false_iff.mpr c5
   (try subst c5)
   have H1 : (some (([] : List (S50)), false)) = some (r1, r2) := by rw [if_neg (show ¬ (false = true) by decide)] at H; exact H
   clear H
   have H := H1
   clear H1
   simp only [Option.some.injEq, Prod.mk.injEq] at H
   obtain ⟨rfl, rfl⟩ := H
   go_enter Try.func13, Try.ntmps13
   go_wp2_with (first | ((with_reducible refine gate_dst (N := 1) rfl ?_); refine Qk 1 #[.int .i64 a0_0, .int .i64 a0_1, .slice A0_2 l0_2.length c0_2] 28 ?_; intro gb201 hg w22 hbox hb; have n0_ := Ak (below_step (Qb HB.out) hb); have n1_ := Ak (hbox); have n2_ := Ak ((Qp hg HB.out : w.heap.size ≤ gb201)); have n3_ := Ak ((Qp hg HB.out : w.heap.size ≤ gb201)); clear HB; have HB := n0_; have BK201 := n1_; have GW201 := n2_; have GE201 := n3_; clear n0_ n1_ n2_ n3_; clear hb hbox hg; obtain ⟨hcz23_0, hcz23_1, hcz23_2⟩ := Qu3 BK201.out; have hfz23_0 := blk_frozen BK201.out 0; have hfz23_1 := blk_frozen BK201.out 1; have hfz23_2 := blk_frozen BK201.out 2) | ((with_reducible refine gate_callee (f := 21) rfl ?_); refine Qj (some 7) Try.func21 #[.agg #[.int .i64 a0_0, .int .i64 a0_1, .slice A0_2 l0_2.length c0_2]] ?_; (with_reducible refine (impl_IsExpr.calls k a0_0 a0_1 _ _ l0_2 true _ ?side1 ?side2 A2.out).mono ?_); (case side1 => repeat (first | exact (Kd.C_below HR0_2.out HB.out) | (with_reducible refine Kd.C_alloc ?_ _) | (with_reducible refine Kd.C_drewN ?_ _) | (with_reducible refine Kd.C_drew ?_))); (case side2 => exact HC0_2.out); rintro e w24 ⟨rfl, hb⟩; refine ⟨_, rfl, ?_⟩; have n0_ := Ak (Qm BK201.out hb); have n1_ := Ak (below_step (Qb HB.out) hb); clear BK201 HB; have BK201 := n0_; have HB := n1_; clear n0_ n1_; (try clear hb); (try clear hb2); (try clear hk); (try clear hi); obtain ⟨hcz25_0, hcz25_1, hcz25_2⟩ := Qu3 BK201.out; have hfz25_0 := blk_frozen BK201.out 0; have hfz25_1 := blk_frozen BK201.out 1; have hfz25_2 := blk_frozen BK201.out 2) | ((with_reducible refine gate_callee (f := 29) rfl ?_); refine Qj (some 11) Try.func29 #[.agg #[.int .i64 a0_0, .int .i64 a0_1, .slice A0_2 l0_2.length c0_2]] ?_; (with_reducible refine (impl_compiled.calls k a0_0 a0_1 _ _ l0_2 t203 false _ ?side1 ?side2 A4.out).mono ?_); (case side1 => repeat (first | exact (Kd.C_below HR0_2.out HB.out) | (with_reducible refine Kd.C_alloc ?_ _) | (with_reducible refine Kd.C_drewN ?_ _) | (with_reducible refine Kd.C_drew ?_))); (case side2 => exact HC0_2.out); rintro e w26 ⟨v204, rfl, ho0, hb⟩; refine ⟨_, rfl, ?_⟩; have n0_ := Ak (Kd.R_lower ho0 (below_size (Qb HB.out))); have n1_ := Ak (Qm BK201.out hb); have n2_ := Ak (below_step (Qb HB.out) hb); clear BK201 HB; have HO205 := n0_; have BK201 := n1_; have HB := n2_; clear n0_ n1_ n2_; (try clear hb); (try clear hb2); (try clear hk); (try clear hi); (try clear ho0)))
   go_ret2
   exact ⟨_, Qh, by first | exact Kd.R_nil _ _ _ _ _ | exact Kd.N_nil _ _ _ _ _ | exact Kd.V_nil _ _ _ _ _ | exact Kd.Q_nil _ _ _ _ _ | exact Kd.S_nil _ _ _ _ _, Qb HB.out⟩
 ·replace c3 := Bool.eq_false_iff.mpr c3
  (try subst c3)
  have H1 : (some (([] : List (S50)), false)) = some (r1, r2) := by rw [if_neg (show ¬ (false = true) by decide)] at H; exact H
  clear H
  have H := H1
  clear H1
  simp only [Option.some.injEq, Prod.mk.injEq] at H
  obtain ⟨rfl, rfl⟩ := H
  go_enter Try.func13, Try.ntmps13
  go_wp2_with (first | ((with_reducible refine gate_dst (N := 1) rfl ?_); refine Qk 1 #[.int .i64 a0_0, .int .i64 a0_1, .slice A0_2 l0_2.length c0_2] 28 ?_; intro gb201 hg w27 hbox hb; have n0_ := Ak (below_step (Qb HB.out) hb); have n1_ := Ak (hbox); have n2_ := Ak ((Qp hg HB.out : w.heap.size ≤ gb201)); have n3_ := Ak ((Qp hg HB.out : w.heap.size ≤ gb201)); clear HB; have HB := n0_; have BK201 := n1_; have GW201 := n2_; have GE201 := n3_; clear n0_ n1_ n2_ n3_; clear hb hbox hg; obtain ⟨hcz28_0, hcz28_1, hcz28_2⟩ := Qu3 BK201.out; have hfz28_0 := blk_frozen BK201.out 0; have hfz28_1 := blk_frozen BK201.out 1; have hfz28_2 := blk_frozen BK201.out 2) | ((with_reducible refine gate_callee (f := 21) rfl ?_); refine Qj (some 7) Try.func21 #[.agg #[.int .i64 a0_0, .int .i64 a0_1, .slice A0_2 l0_2.length c0_2]] ?_; (with_reducible refine (impl_IsExpr.calls k a0_0 a0_1 _ _ l0_2 false _ ?side1 ?side2 A2.out).mono ?_); (case side1 => repeat (first | exact (Kd.C_below HR0_2.out HB.out) | (with_reducible refine Kd.C_alloc ?_ _) | (with_reducible refine Kd.C_drewN ?_ _) | (with_reducible refine Kd.C_drew ?_))); (case side2 => exact HC0_2.out); rintro e w29 ⟨rfl, hb⟩; refine ⟨_, rfl, ?_⟩; have n0_ := Ak (Qm BK201.out hb); have n1_ := Ak (below_step (Qb HB.out) hb); clear BK201 HB; have BK201 := n0_; have HB := n1_; clear n0_ n1_; (try clear hb); (try clear hb2); (try clear hk); (try clear hi)))
  go_ret2
  exact ⟨_, Qh, by first | exact Kd.R_nil _ _ _ _ _ | exact Kd.N_nil _ _ _ _ _ | exact Kd.V_nil _ _ _ _ _ | exact Kd.Q_nil _ _ _ _ _ | exact Kd.S_nil _ _ _ _ _, Qb HB.out⟩

/-! ### laws_eqOp: function 31 -/
def laws_eqOp.f (a0_0 : Int) (a0_1 : Int) (a0_2 : Int) (a0_3 : Int) (a1_0 : Int) (a1_1 : Int) (a1_2 : Int) (a1_3 : Int) : Option (Bool) := if a0_0 = a1_0 then (if a0_1 = a1_1 then (if a0_2 = a1_2 then (if a0_3 = a1_3 then (some true) else (some false)) else (some false)) else (some false)) else (some false)
theorem laws_eqOp.calls (a0_0 : Int) (a0_1 : Int) (a0_2 : Int) (a0_3 : Int) (a1_0 : Int) (a1_1 : Int) (a1_2 : Int) (a1_3 : Int) (r : Bool) (w : World) (h : laws_eqOp.f a0_0 a0_1 a0_2 a0_3 a1_0 a1_1 a1_2 a1_3 = some r) :
  Calls Try.prog 31 #[.agg #[.int .i64 a0_0, .int .i64 a0_1, .int .i64 a0_2, .int .i64 a0_3], .agg #[.int .i64 a1_0, .int .i64 a1_1, .int .i64 a1_2, .int .i64 a1_3]] w fun e w' => e = .returned (.bool r) ∧ Below w.heap.size w w' := by
 have hu50 := Try.underlying50
 have HB := Ak (Below.refl w.heap.size w)
 have H : (if a0_0 = a1_0 then (if a0_1 = a1_1 then (if a0_2 = a1_2 then (if a0_3 = a1_3 then (some true) else (some false)) else (some false)) else (some false)) else (some false)) = some r := h
 clear h
 by_cases c3 : a0_0 = a1_0
 ·rw [if_pos c3] at H
  have c3b0 : (a0_0 == a1_0) = true := beq_iff_eq.mpr c3
  have c3b1 : (a0_0 != a1_0) = false := bne_eq_false_iff_eq.mpr c3
  clear c3
  by_cases c4 : a0_1 = a1_1
  ·rw [if_pos c4] at H
   have c4b0 : (a0_1 == a1_1) = true := beq_iff_eq.mpr c4
   have c4b1 : (a0_1 != a1_1) = false := bne_eq_false_iff_eq.mpr c4
   clear c4
   by_cases c5 : a0_2 = a1_2
   ·rw [if_pos c5] at H
    have c5b0 : (a0_2 == a1_2) = true := beq_iff_eq.mpr c5
    have c5b1 : (a0_2 != a1_2) = false := bne_eq_false_iff_eq.mpr c5
    clear c5
    by_cases c6 : a0_3 = a1_3
    ·rw [if_pos c6] at H
     have c6b0 : (a0_3 == a1_3) = true := beq_iff_eq.mpr c6
     have c6b1 : (a0_3 != a1_3) = false := bne_eq_false_iff_eq.mpr c6
     clear c6
     obtain rfl := Option.some.inj H
     go_enter Try.func31, Try.ntmps31
     go_wp2_with (first | ((with_reducible refine gate_dst (N := 2) rfl ?_); refine Qk 2 #[.int .i64 a0_0, .int .i64 a0_1, .int .i64 a0_2, .int .i64 a0_3] 50 ?_; intro gb208 hg w7 hbox hb; have n0_ := Ak (below_step (Qb HB.out) hb); have n1_ := Ak (hbox); have n2_ := Ak ((Qp hg HB.out : w.heap.size ≤ gb208)); have n3_ := Ak ((Qp hg HB.out : w.heap.size ≤ gb208)); clear HB; have HB := n0_; have BK208 := n1_; have GW208 := n2_; have GE208 := n3_; clear n0_ n1_ n2_ n3_; clear hb hbox hg) | ((with_reducible refine gate_dst (N := 3) rfl ?_); refine Qk 3 #[.int .i64 a1_0, .int .i64 a1_1, .int .i64 a1_2, .int .i64 a1_3] 50 ?_; intro gb209 hg w8 hbox hb; have n0_ := Ak (Qm BK208.out hb); have n1_ := Ak (below_step (Qb HB.out) hb); have n2_ := Ak (hbox); have n3_ := Ak ((Qp hg HB.out : w.heap.size ≤ gb209)); have n4_ := Ak ((Qp hg HB.out : w.heap.size ≤ gb209)); have n5_ := Ak ((by rw [hg]; exact Nat.ne_of_lt (Qn BK208.out) : gb208 ≠ gb209)); have n6_ := Ak ((by rw [hg]; exact Nat.ne_of_gt (Qn BK208.out) : gb209 ≠ gb208)); clear BK208 HB; have BK208 := n0_; have HB := n1_; have BK209 := n2_; have GW209 := n3_; have GE209 := n4_; have NB208_209 := n5_; have NB209_208 := n6_; clear n0_ n1_ n2_ n3_ n4_ n5_ n6_; clear hb hbox hg; have hnb9 := NB208_209.out; have hnc9 := NB209_208.out; obtain ⟨hcz10_0, hcz10_1, hcz10_2, hcz10_3, hfz10_0, hfz10_1, hfz10_2, hfz10_3⟩ := Qv4 BK208.out; obtain ⟨hcz11_0, hcz11_1, hcz11_2, hcz11_3⟩ := Qu4 BK209.out; have hfz11_0 := blk_frozen BK209.out 0; have hfz11_1 := blk_frozen BK209.out 1; have hfz11_2 := blk_frozen BK209.out 2; have hfz11_3 := blk_frozen BK209.out 3))
     go_ret
     exact ⟨Qh, Qb HB.out⟩
    ·rw [if_neg c6] at H
     have c6b0 : (a0_3 == a1_3) = false := beq_eq_false_iff_ne.mpr c6
     have c6b1 : (a0_3 != a1_3) = true := bne_iff_ne.mpr c6
     obtain rfl := Option.some.inj H
     go_enter Try.func31, Try.ntmps31
     go_wp2_with (first | ((with_reducible refine gate_dst (N := 2) rfl ?_); refine Qk 2 #[.int .i64 a0_0, .int .i64 a0_1, .int .i64 a0_2, .int .i64 a0_3] 50 ?_; intro gb208 hg w12 hbox hb; have n0_ := Ak (below_step (Qb HB.out) hb); have n1_ := Ak (hbox); have n2_ := Ak ((Qp hg HB.out : w.heap.size ≤ gb208)); have n3_ := Ak ((Qp hg HB.out : w.heap.size ≤ gb208)); clear HB; have HB := n0_; have BK208 := n1_; have GW208 := n2_; have GE208 := n3_; clear n0_ n1_ n2_ n3_; clear hb hbox hg) | ((with_reducible refine gate_dst (N := 3) rfl ?_); refine Qk 3 #[.int .i64 a1_0, .int .i64 a1_1, .int .i64 a1_2, .int .i64 a1_3] 50 ?_; intro gb209 hg w13 hbox hb; have n0_ := Ak (Qm BK208.out hb); have n1_ := Ak (below_step (Qb HB.out) hb); have n2_ := Ak (hbox); have n3_ := Ak ((Qp hg HB.out : w.heap.size ≤ gb209)); have n4_ := Ak ((Qp hg HB.out : w.heap.size ≤ gb209)); have n5_ := Ak ((by rw [hg]; exact Nat.ne_of_lt (Qn BK208.out) : gb208 ≠ gb209)); have n6_ := Ak ((by rw [hg]; exact Nat.ne_of_gt (Qn BK208.out) : gb209 ≠ gb208)); clear BK208 HB; have BK208 := n0_; have HB := n1_; have BK209 := n2_; have GW209 := n3_; have GE209 := n4_; have NB208_209 := n5_; have NB209_208 := n6_; clear n0_ n1_ n2_ n3_ n4_ n5_ n6_; clear hb hbox hg; have hnb14 := NB208_209.out; have hnc14 := NB209_208.out; obtain ⟨hcz15_0, hcz15_1, hcz15_2, hcz15_3, hfz15_0, hfz15_1, hfz15_2, hfz15_3⟩ := Qv4 BK208.out; obtain ⟨hcz16_0, hcz16_1, hcz16_2, hcz16_3⟩ := Qu4 BK209.out; have hfz16_0 := blk_frozen BK209.out 0; have hfz16_1 := blk_frozen BK209.out 1; have hfz16_2 := blk_frozen BK209.out 2; have hfz16_3 := blk_frozen BK209.out 3))
     go_ret
     exact ⟨Qh, Qb HB.out⟩
   ·rw [if_neg c5] at H
    have c5b0 : (a0_2 == a1_2) = false := beq_eq_false_iff_ne.mpr c5
    have c5b1 : (a0_2 != a1_2) = true := bne_iff_ne.mpr c5
    obtain rfl := Option.some.inj H
    go_enter Try.func31, Try.ntmps31
    go_wp2_with (first | ((with_reducible refine gate_dst (N := 2) rfl ?_); refine Qk 2 #[.int .i64 a0_0, .int .i64 a0_1, .int .i64 a0_2, .int .i64 a0_3] 50 ?_; intro gb208 hg w17 hbox hb; have n0_ := Ak (below_step (Qb HB.out) hb); have n1_ := Ak (hbox); have n2_ := Ak ((Qp hg HB.out : w.heap.size ≤ gb208)); have n3_ := Ak ((Qp hg HB.out : w.heap.size ≤ gb208)); clear HB; have HB := n0_; have BK208 := n1_; have GW208 := n2_; have GE208 := n3_; clear n0_ n1_ n2_ n3_; clear hb hbox hg) | ((with_reducible refine gate_dst (N := 3) rfl ?_); refine Qk 3 #[.int .i64 a1_0, .int .i64 a1_1, .int .i64 a1_2, .int .i64 a1_3] 50 ?_; intro gb209 hg w18 hbox hb; have n0_ := Ak (Qm BK208.out hb); have n1_ := Ak (below_step (Qb HB.out) hb); have n2_ := Ak (hbox); have n3_ := Ak ((Qp hg HB.out : w.heap.size ≤ gb209)); have n4_ := Ak ((Qp hg HB.out : w.heap.size ≤ gb209)); have n5_ := Ak ((by rw [hg]; exact Nat.ne_of_lt (Qn BK208.out) : gb208 ≠ gb209)); have n6_ := Ak ((by rw [hg]; exact Nat.ne_of_gt (Qn BK208.out) : gb209 ≠ gb208)); clear BK208 HB; have BK208 := n0_; have HB := n1_; have BK209 := n2_; have GW209 := n3_; have GE209 := n4_; have NB208_209 := n5_; have NB209_208 := n6_; clear n0_ n1_ n2_ n3_ n4_ n5_ n6_; clear hb hbox hg; have hnb19 := NB208_209.out; have hnc19 := NB209_208.out; obtain ⟨hcz20_0, hcz20_1, hcz20_2, hcz20_3, hfz20_0, hfz20_1, hfz20_2, hfz20_3⟩ := Qv4 BK208.out; obtain ⟨hcz21_0, hcz21_1, hcz21_2, hcz21_3⟩ := Qu4 BK209.out; have hfz21_0 := blk_frozen BK209.out 0; have hfz21_1 := blk_frozen BK209.out 1; have hfz21_2 := blk_frozen BK209.out 2; have hfz21_3 := blk_frozen BK209.out 3))
    go_ret
    exact ⟨Qh, Qb HB.out⟩
  ·rw [if_neg c4] at H
   have c4b0 : (a0_1 == a1_1) = false := beq_eq_false_iff_ne.mpr c4
   have c4b1 : (a0_1 != a1_1) = true := bne_iff_ne.mpr c4
   obtain rfl := Option.some.inj H
   go_enter Try.func31, Try.ntmps31
   go_wp2_with (first | ((with_reducible refine gate_dst (N := 2) rfl ?_); refine Qk 2 #[.int .i64 a0_0, .int .i64 a0_1, .int .i64 a0_2, .int .i64 a0_3] 50 ?_; intro gb208 hg w22 hbox hb; have n0_ := Ak (below_step (Qb HB.out) hb); have n1_ := Ak (hbox); have n2_ := Ak ((Qp hg HB.out : w.heap.size ≤ gb208)); have n3_ := Ak ((Qp hg HB.out : w.heap.size ≤ gb208)); clear HB; have HB := n0_; have BK208 := n1_; have GW208 := n2_; have GE208 := n3_; clear n0_ n1_ n2_ n3_; clear hb hbox hg) | ((with_reducible refine gate_dst (N := 3) rfl ?_); refine Qk 3 #[.int .i64 a1_0, .int .i64 a1_1, .int .i64 a1_2, .int .i64 a1_3] 50 ?_; intro gb209 hg w23 hbox hb; have n0_ := Ak (Qm BK208.out hb); have n1_ := Ak (below_step (Qb HB.out) hb); have n2_ := Ak (hbox); have n3_ := Ak ((Qp hg HB.out : w.heap.size ≤ gb209)); have n4_ := Ak ((Qp hg HB.out : w.heap.size ≤ gb209)); have n5_ := Ak ((by rw [hg]; exact Nat.ne_of_lt (Qn BK208.out) : gb208 ≠ gb209)); have n6_ := Ak ((by rw [hg]; exact Nat.ne_of_gt (Qn BK208.out) : gb209 ≠ gb208)); clear BK208 HB; have BK208 := n0_; have HB := n1_; have BK209 := n2_; have GW209 := n3_; have GE209 := n4_; have NB208_209 := n5_; have NB209_208 := n6_; clear n0_ n1_ n2_ n3_ n4_ n5_ n6_; clear hb hbox hg; have hnb24 := NB208_209.out; have hnc24 := NB209_208.out; obtain ⟨hcz25_0, hcz25_1, hcz25_2, hcz25_3, hfz25_0, hfz25_1, hfz25_2, hfz25_3⟩ := Qv4 BK208.out; obtain ⟨hcz26_0, hcz26_1, hcz26_2, hcz26_3⟩ := Qu4 BK209.out; have hfz26_0 := blk_frozen BK209.out 0; have hfz26_1 := blk_frozen BK209.out 1; have hfz26_2 := blk_frozen BK209.out 2; have hfz26_3 := blk_frozen BK209.out 3))
   go_ret
   exact ⟨Qh, Qb HB.out⟩
 ·rw [if_neg c3] at H
  have c3b0 : (a0_0 == a1_0) = false := beq_eq_false_iff_ne.mpr c3
  have c3b1 : (a0_0 != a1_0) = true := bne_iff_ne.mpr c3
  obtain rfl := Option.some.inj H
  go_enter Try.func31, Try.ntmps31
  go_wp2_with (first | ((with_reducible refine gate_dst (N := 2) rfl ?_); refine Qk 2 #[.int .i64 a0_0, .int .i64 a0_1, .int .i64 a0_2, .int .i64 a0_3] 50 ?_; intro gb208 hg w27 hbox hb; have n0_ := Ak (below_step (Qb HB.out) hb); have n1_ := Ak (hbox); have n2_ := Ak ((Qp hg HB.out : w.heap.size ≤ gb208)); have n3_ := Ak ((Qp hg HB.out : w.heap.size ≤ gb208)); clear HB; have HB := n0_; have BK208 := n1_; have GW208 := n2_; have GE208 := n3_; clear n0_ n1_ n2_ n3_; clear hb hbox hg) | ((with_reducible refine gate_dst (N := 3) rfl ?_); refine Qk 3 #[.int .i64 a1_0, .int .i64 a1_1, .int .i64 a1_2, .int .i64 a1_3] 50 ?_; intro gb209 hg w28 hbox hb; have n0_ := Ak (Qm BK208.out hb); have n1_ := Ak (below_step (Qb HB.out) hb); have n2_ := Ak (hbox); have n3_ := Ak ((Qp hg HB.out : w.heap.size ≤ gb209)); have n4_ := Ak ((Qp hg HB.out : w.heap.size ≤ gb209)); have n5_ := Ak ((by rw [hg]; exact Nat.ne_of_lt (Qn BK208.out) : gb208 ≠ gb209)); have n6_ := Ak ((by rw [hg]; exact Nat.ne_of_gt (Qn BK208.out) : gb209 ≠ gb208)); clear BK208 HB; have BK208 := n0_; have HB := n1_; have BK209 := n2_; have GW209 := n3_; have GE209 := n4_; have NB208_209 := n5_; have NB209_208 := n6_; clear n0_ n1_ n2_ n3_ n4_ n5_ n6_; clear hb hbox hg; have hnb29 := NB208_209.out; have hnc29 := NB209_208.out; obtain ⟨hcz30_0, hcz30_1, hcz30_2, hcz30_3, hfz30_0, hfz30_1, hfz30_2, hfz30_3⟩ := Qv4 BK208.out; obtain ⟨hcz31_0, hcz31_1, hcz31_2, hcz31_3⟩ := Qu4 BK209.out; have hfz31_0 := blk_frozen BK209.out 0; have hfz31_1 := blk_frozen BK209.out 1; have hfz31_2 := blk_frozen BK209.out 2; have hfz31_3 := blk_frozen BK209.out 3))
  go_ret
  exact ⟨Qh, Qb HB.out⟩

/-! ### laws_eqOpS: function 14 -/
def laws_eqOpS.l0 : Nat → List (S50) → List (S50) → Int → Option (Bool)
 | 0, _, _, _ => none
 | k + 1, x0, x1, x5 => if x5 < (x0.length : Int) then (if 0 ≤ x5 then (if x5 < (x1.length : Int) then ((laws_eqOp.f ((rd_T50 x0 x5).f0) ((rd_T50 x0 x5).f1) ((rd_T50 x0 x5).f2) ((rd_T50 x0 x5).f3) ((rd_T50 x1 x5).f0) ((rd_T50 x1 x5).f1) ((rd_T50 x1 x5).f2) ((rd_T50 x1 x5).f3)).bind fun t212 => (if t212 = true then (laws_eqOpS.l0 k x0 x1 (wrap64 (x5 + 1))) else (some false))) else (none)) else (none)) else (some true)
def laws_eqOpS.f (k : Nat) (l0 : List (S50)) (l1 : List (S50)) : Option (Bool) := if (l0.length : Int) = (l1.length : Int) then (laws_eqOpS.l0 k l0 l1 0) else (some false)
theorem laws_eqOpS.mono_l : ∀ k, (∀ y0 y1 y2, LeO (laws_eqOpS.l0 k y0 y1 y2) (laws_eqOpS.l0 (k + 1) y0 y1 y2))
 | 0 => fun _ _ _ r h => by simp [laws_eqOpS.l0] at h
 | k + 1 => by
  have ih0 := laws_eqOpS.mono_l k
  ·intro y0 y1 y2
   unfold laws_eqOpS.l0
   repeat' first
   | (with_reducible exact ih0 _ _ _)
   | (with_reducible exact LeO.refl _)
   | (with_reducible exact LeO.none _)
   | (with_reducible refine LeO.ite ?_ ?_)
   | (with_reducible refine LeO.bind ?_ (fun _ => ?_))
   | exact ih0 _ _ _
   | exact LeO.none _
   | refine LeO.ite ?_ ?_
   | refine LeO.bind ?_ (fun _ => ?_)
theorem laws_eqOpS.mono : ∀ a0 a1 k, LeO (laws_eqOpS.f k a0 a1) (laws_eqOpS.f (k + 1) a0 a1) := by
 intro a0 a1 k
 have ih0 := laws_eqOpS.mono_l k
 unfold laws_eqOpS.f
 repeat' first
   | (with_reducible exact ih0 _ _ _)
   | (with_reducible exact LeO.refl _)
   | (with_reducible exact LeO.none _)
   | (with_reducible refine LeO.ite ?_ ?_)
   | (with_reducible refine LeO.bind ?_ (fun _ => ?_))
   | exact ih0 _ _ _
   | exact LeO.none _
   | refine LeO.ite ?_ ?_
   | refine LeO.bind ?_ (fun _ => ?_)
def laws_eqOpS.T6 : Bool × List (List Nat × List Nat) := (true, [([], []), ([], []), ([0, 1], [0, 1]), ([2], [2]), ([], []), ([], []), ([4, 5], [4, 5]), ([6], [6]), ([3, 7], [3, 7]), ([8], [8])])
def laws_eqOpS.B6 : List Nat := [0, 0, 3, 7, 0, 0, 48, 112, 255, 511]
theorem laws_eqOpS.tab6 : rtab .any (opsOf Try.f14 6) = laws_eqOpS.T6 := by kernel_rfl
theorem laws_eqOpS.bits6 : waitsOk laws_eqOpS.T6.2 laws_eqOpS.B6 = true := by kernel_rfl
theorem laws_eqOpS.calls (k : Nat) (A0 : Option Addr) (c0 : Nat) (l0 : List (S50)) (A1 : Option Addr) (c1 : Nat) (l1 : List (S50)) (r : Bool) (w : World) (hr0 : Kd.C k50 w A0 l0.length l0) (hc0 : l0.length ≤ c0) (hr1 : Kd.C k50 w A1 l1.length l1) (hc1 : l1.length ≤ c1) (h : laws_eqOpS.f k l0 l1 = some r) :
  Calls Try.prog 14 #[.slice A0 l0.length c0, .slice A1 l1.length c1] w fun e w' => e = .returned (.bool r) ∧ Below w.heap.size w w' := by
 have hu50 := Try.underlying50
 have HR0 := Ak hr0
 have HC0 := Ak hc0
 clear hr0 hc0
 have HR1 := Ak hr1
 have HC1 := Ak hc1
 clear hr1 hc1
 have HB := Ak (Below.refl w.heap.size w)
 have H : (if (l0.length : Int) = (l1.length : Int) then (laws_eqOpS.l0 k l0 l1 0) else (some false)) = some r := h
 clear h
 by_cases c3 : (l0.length : Int) = (l1.length : Int)
 ·rw [if_pos c3] at H
  have c3b0 : ((l0.length : Int) == (l1.length : Int)) = true := beq_iff_eq.mpr c3
  have c3b1 : ((l0.length : Int) != (l1.length : Int)) = false := bne_eq_false_iff_eq.mpr c3
  have c3b2 : (l0.length == l1.length) = true := by first | simpa using c3 | (simp at c3 ⊢; omega)
  clear c3
  have H' := Ak H
  clear H
  go_enter Try.func14, Try.ntmps14
  go_wp2
  go_loopg [5] k (fun kq v5 w' => ∃ (x5_1 : Int), v5 = .int .i64 x5_1 ∧ Aside0 (laws_eqOpS.l0 kq l0 l1 x5_1 = some r) ∧ Aside0 (kq ≤ k) ∧ Aside0 (Below w.heap.size w w'))
  case atStart => exact ⟨(0), Qi, H', ⟨Nat.le_refl _⟩, ⟨Qb HB.out⟩⟩
  case round =>
   clear H'
   (try clear c1); (try clear p2); (try clear c3); (try clear c3b0); (try clear c3b1); (try clear c3b2)
   obtain ⟨x5_1, rfl, HA, HK1, HB⟩ := hrel
   cases gk with
   | zero => exact absurd HA.out (by simp [laws_eqOpS.l0])
   | succ k1 =>
    have H := HA.out
    clear HA
    simp only [laws_eqOpS.l0] at H
    by_cases c4 : x5_1 < (l0.length : Int)
    ·rw [if_pos c4] at H
     have c4b0 : decide (x5_1 < (l0.length : Int)) = true := decide_eq_true c4
     clear c4
     by_cases c5 : 0 ≤ x5_1
     ·rw [if_pos c5] at H
      have c5b0 : decide (0 ≤ x5_1) = true := decide_eq_true c5
      clear c5
      by_cases c6 : x5_1 < (l1.length : Int)
      ·rw [if_pos c6] at H
       have c6b0 : decide (x5_1 < (l1.length : Int)) = true := decide_eq_true c6
       clear c6
       replace H := Option.bind_eq_some_iff.mp H
       obtain ⟨t212, A70, H⟩ := H
       replace H : (if t212 = true then (laws_eqOpS.l0 k1 l0 l1 (wrap64 (x5_1 + 1))) else (some false)) = some r := H
       have A7 := Ak A70
       clear A70
       by_cases c8 : t212 = true
       ·(try subst c8)
        have H1 : (laws_eqOpS.l0 k1 l0 l1 (wrap64 (x5_1 + 1))) = some r := by rw [if_pos rfl] at H; exact H
        clear H
        have H := H1
        clear H1
        have H' := Ak H
        clear H
        try go_wp2
        have n0_ := Ak (below_drew1 HB.out)
        clear HB
        have HB := n0_
        clear n0_
        have p210 : 0 ≤ (x5_1 : Int) := Qg
        have q210 : x5_1 < (l0.length : Int) := Qg
        obtain ⟨ad210, e210, hx210_0, hx210_1, hx210_2, hx210_3⟩ := at_T50 HR0.out x5_1 p210 q210
        have hw210_3 := hx210_3
        have hw210_2 := hx210_2
        have hw210_1 := hx210_1
        have hw210_0 := hx210_0
        cases e210
        (try replace hx210_0 := (HB.out.cell (World.block_lt_of_cell? w _ hx210_0)).trans hx210_0)
        (try replace hx210_1 := (HB.out.cell (World.block_lt_of_cell? w _ hx210_1)).trans hx210_1)
        (try replace hx210_2 := (HB.out.cell (World.block_lt_of_cell? w _ hx210_2)).trans hx210_2)
        (try replace hx210_3 := (HB.out.cell (World.block_lt_of_cell? w _ hx210_3)).trans hx210_3)
        replace p210 := eq_true p210
        replace q210 := eq_true q210
        have p211 : 0 ≤ (x5_1 : Int) := Qg
        have q211 : x5_1 < (l1.length : Int) := Qg
        obtain ⟨ad211, e211, hx211_0, hx211_1, hx211_2, hx211_3⟩ := at_T50 HR1.out x5_1 p211 q211
        have hw211_3 := hx211_3
        have hw211_2 := hx211_2
        have hw211_1 := hx211_1
        have hw211_0 := hx211_0
        cases e211
        (try replace hx211_0 := (HB.out.cell (World.block_lt_of_cell? w _ hx211_0)).trans hx211_0)
        (try replace hx211_1 := (HB.out.cell (World.block_lt_of_cell? w _ hx211_1)).trans hx211_1)
        (try replace hx211_2 := (HB.out.cell (World.block_lt_of_cell? w _ hx211_2)).trans hx211_2)
        (try replace hx211_3 := (HB.out.cell (World.block_lt_of_cell? w _ hx211_3)).trans hx211_3)
        replace p211 := eq_true p211
        replace q211 := eq_true q211
        refine start_ (n := 10) (S := fun w' => w'.cell? (ad210.add ((x5_1).toNat * 4)) = some (.int .i64 ((rd_T50 l0 x5_1).f0)) ∧ w'.cell? ⟨(ad210.add ((x5_1).toNat * 4)).block, (ad210.add ((x5_1).toNat * 4)).off + 1, none⟩ = some (.int .i64 ((rd_T50 l0 x5_1).f1)) ∧ w'.cell? ⟨(ad210.add ((x5_1).toNat * 4)).block, (ad210.add ((x5_1).toNat * 4)).off + 2, none⟩ = some (.int .i64 ((rd_T50 l0 x5_1).f2)) ∧ w'.cell? ⟨(ad210.add ((x5_1).toNat * 4)).block, (ad210.add ((x5_1).toNat * 4)).off + 3, none⟩ = some (.int .i64 ((rd_T50 l0 x5_1).f3)) ∧ w'.cell? (ad211.add ((x5_1).toNat * 4)) = some (.int .i64 ((rd_T50 l1 x5_1).f0)) ∧ w'.cell? ⟨(ad211.add ((x5_1).toNat * 4)).block, (ad211.add ((x5_1).toNat * 4)).off + 1, none⟩ = some (.int .i64 ((rd_T50 l1 x5_1).f1)) ∧ w'.cell? ⟨(ad211.add ((x5_1).toNat * 4)).block, (ad211.add ((x5_1).toNat * 4)).off + 2, none⟩ = some (.int .i64 ((rd_T50 l1 x5_1).f2)) ∧ w'.cell? ⟨(ad211.add ((x5_1).toNat * 4)).block, (ad211.add ((x5_1).toNat * 4)).off + 3, none⟩ = some (.int .i64 ((rd_T50 l1 x5_1).f3))) (ds := []) #[false, false, false, false, false, false, false, false, false, false] (by kernel_rfl) rfl rfl ⟨((HB.out.cell (World.block_lt_of_cell? w _ hw210_0)).trans hw210_0), ((HB.out.cell (World.block_lt_of_cell? w _ hw210_1)).trans hw210_1), ((HB.out.cell (World.block_lt_of_cell? w _ hw210_2)).trans hw210_2), ((HB.out.cell (World.block_lt_of_cell? w _ hw210_3)).trans hw210_3), ((HB.out.cell (World.block_lt_of_cell? w _ hw211_0)).trans hw211_0), ((HB.out.cell (World.block_lt_of_cell? w _ hw211_1)).trans hw211_1), ((HB.out.cell (World.block_lt_of_cell? w _ hw211_2)).trans hw211_2), ((HB.out.cell (World.block_lt_of_cell? w _ hw211_3)).trans hw211_3)⟩ (fun hHeld => ?_); refine with_tabW laws_eqOpS.tab6 laws_eqOpS.bits6 (fun HT_ HW_ => ?_)
        generalize wr.drew = w9 at HB hx210_0 hx210_1 hx210_2 hx210_3 hx211_0 hx211_1 hx211_2 hx211_3 hHeld ⊢
        refine Qq 0 (some 17) ?_
        refine Qq 1 (some 18) ?_
        refine Qq 2 (some 19) ?_
        refine Qq 4 (some 21) ?_
        refine Qq 5 (some 22) ?_
        refine Qq 6 (some 23) ?_
        refine Qr 3 (some 20) hHeld ?_
        refine Qr 7 (some 24) hHeld ?_
        refine Qs 8 (some 25) (fun K hK => ?_)
        refine goes_ Try.func31 (by kernel_rfl) rfl #[.agg #[.int .i64 ((rd_T50 l0 x5_1).f0), .int .i64 ((rd_T50 l0 x5_1).f1), .int .i64 ((rd_T50 l0 x5_1).f2), .int .i64 ((rd_T50 l0 x5_1).f3)], .agg #[.int .i64 ((rd_T50 l1 x5_1).f0), .int .i64 ((rd_T50 l1 x5_1).f1), .int .i64 ((rd_T50 l1 x5_1).f2), .int .i64 ((rd_T50 l1 x5_1).f3)]] (by rfl) rfl rfl (by (try simp only [List.map_toArray, List.map_cons, List.map_nil]); first | done | rfl | (simp only [List.length_drop, List.length_take]; rfl)) ?_
        with_reducible refine (laws_eqOp.calls ((rd_T50 l0 x5_1).f0) ((rd_T50 l0 x5_1).f1) ((rd_T50 l0 x5_1).f2) ((rd_T50 l0 x5_1).f3) ((rd_T50 l1 x5_1).f0) ((rd_T50 l1 x5_1).f1) ((rd_T50 l1 x5_1).f2) ((rd_T50 l1 x5_1).f3) true _ A7.out).mono ?_
        rintro e w10 ⟨rfl, hb⟩
        refine ⟨_, rfl, ?_⟩
        have n0_ := Ak (below_step (Qb HB.out) hb)
        clear HB
        have HB := n0_
        clear n0_
        (try clear hb); (try clear hb2); (try clear hk); (try clear hi)
        refine hK.out _ _ ⟨((HB.out.cell (World.block_lt_of_cell? w _ hw210_0)).trans hw210_0), ((HB.out.cell (World.block_lt_of_cell? w _ hw210_1)).trans hw210_1), ((HB.out.cell (World.block_lt_of_cell? w _ hw210_2)).trans hw210_2), ((HB.out.cell (World.block_lt_of_cell? w _ hw210_3)).trans hw210_3), ((HB.out.cell (World.block_lt_of_cell? w _ hw211_0)).trans hw211_0), ((HB.out.cell (World.block_lt_of_cell? w _ hw211_1)).trans hw211_1), ((HB.out.cell (World.block_lt_of_cell? w _ hw211_2)).trans hw211_2), ((HB.out.cell (World.block_lt_of_cell? w _ hw211_3)).trans hw211_3)⟩ (fun hHeld => ?_)
        clear hK K
        refine norm_ (a' := ?_) ?_ ?_
        rotate_left
        ·show Act.put _ (some 25) _ = _
         simp only [Act.put, List.setIfInBounds_toArray, List.set_cons_zero, List.set_cons_succ, i64_w, i32_w]
         rfl
        refine Qq 9 (some 26) ?_
        refine done_ (done_of HT_.out (by kernel_rfl)) ?_
        try go_wp2
        go_roundg k1
        case measure => have := HK1.out; omega
        case rel => exact ⟨(wrap64 (x5_1 + 1)), Qi, H', ⟨by have := HK1.out; omega⟩, ⟨Qb HB.out⟩⟩
       ·replace c8 := Bool.eq_false_iff.mpr c8
        (try subst c8)
        have H1 : (some false) = some r := by rw [if_neg (show ¬ (false = true) by decide)] at H; exact H
        clear H
        have H := H1
        clear H1
        obtain rfl := Option.some.inj H
        try go_wp2
        have n0_ := Ak (below_drew1 HB.out)
        clear HB
        have HB := n0_
        clear n0_
        have p210 : 0 ≤ (x5_1 : Int) := Qg
        have q210 : x5_1 < (l0.length : Int) := Qg
        obtain ⟨ad210, e210, hx210_0, hx210_1, hx210_2, hx210_3⟩ := at_T50 HR0.out x5_1 p210 q210
        have hw210_3 := hx210_3
        have hw210_2 := hx210_2
        have hw210_1 := hx210_1
        have hw210_0 := hx210_0
        cases e210
        (try replace hx210_0 := (HB.out.cell (World.block_lt_of_cell? w _ hx210_0)).trans hx210_0)
        (try replace hx210_1 := (HB.out.cell (World.block_lt_of_cell? w _ hx210_1)).trans hx210_1)
        (try replace hx210_2 := (HB.out.cell (World.block_lt_of_cell? w _ hx210_2)).trans hx210_2)
        (try replace hx210_3 := (HB.out.cell (World.block_lt_of_cell? w _ hx210_3)).trans hx210_3)
        replace p210 := eq_true p210
        replace q210 := eq_true q210
        have p211 : 0 ≤ (x5_1 : Int) := Qg
        have q211 : x5_1 < (l1.length : Int) := Qg
        obtain ⟨ad211, e211, hx211_0, hx211_1, hx211_2, hx211_3⟩ := at_T50 HR1.out x5_1 p211 q211
        have hw211_3 := hx211_3
        have hw211_2 := hx211_2
        have hw211_1 := hx211_1
        have hw211_0 := hx211_0
        cases e211
        (try replace hx211_0 := (HB.out.cell (World.block_lt_of_cell? w _ hx211_0)).trans hx211_0)
        (try replace hx211_1 := (HB.out.cell (World.block_lt_of_cell? w _ hx211_1)).trans hx211_1)
        (try replace hx211_2 := (HB.out.cell (World.block_lt_of_cell? w _ hx211_2)).trans hx211_2)
        (try replace hx211_3 := (HB.out.cell (World.block_lt_of_cell? w _ hx211_3)).trans hx211_3)
        replace p211 := eq_true p211
        replace q211 := eq_true q211
        refine start_ (n := 10) (S := fun w' => w'.cell? (ad210.add ((x5_1).toNat * 4)) = some (.int .i64 ((rd_T50 l0 x5_1).f0)) ∧ w'.cell? ⟨(ad210.add ((x5_1).toNat * 4)).block, (ad210.add ((x5_1).toNat * 4)).off + 1, none⟩ = some (.int .i64 ((rd_T50 l0 x5_1).f1)) ∧ w'.cell? ⟨(ad210.add ((x5_1).toNat * 4)).block, (ad210.add ((x5_1).toNat * 4)).off + 2, none⟩ = some (.int .i64 ((rd_T50 l0 x5_1).f2)) ∧ w'.cell? ⟨(ad210.add ((x5_1).toNat * 4)).block, (ad210.add ((x5_1).toNat * 4)).off + 3, none⟩ = some (.int .i64 ((rd_T50 l0 x5_1).f3)) ∧ w'.cell? (ad211.add ((x5_1).toNat * 4)) = some (.int .i64 ((rd_T50 l1 x5_1).f0)) ∧ w'.cell? ⟨(ad211.add ((x5_1).toNat * 4)).block, (ad211.add ((x5_1).toNat * 4)).off + 1, none⟩ = some (.int .i64 ((rd_T50 l1 x5_1).f1)) ∧ w'.cell? ⟨(ad211.add ((x5_1).toNat * 4)).block, (ad211.add ((x5_1).toNat * 4)).off + 2, none⟩ = some (.int .i64 ((rd_T50 l1 x5_1).f2)) ∧ w'.cell? ⟨(ad211.add ((x5_1).toNat * 4)).block, (ad211.add ((x5_1).toNat * 4)).off + 3, none⟩ = some (.int .i64 ((rd_T50 l1 x5_1).f3))) (ds := []) #[false, false, false, false, false, false, false, false, false, false] (by kernel_rfl) rfl rfl ⟨((HB.out.cell (World.block_lt_of_cell? w _ hw210_0)).trans hw210_0), ((HB.out.cell (World.block_lt_of_cell? w _ hw210_1)).trans hw210_1), ((HB.out.cell (World.block_lt_of_cell? w _ hw210_2)).trans hw210_2), ((HB.out.cell (World.block_lt_of_cell? w _ hw210_3)).trans hw210_3), ((HB.out.cell (World.block_lt_of_cell? w _ hw211_0)).trans hw211_0), ((HB.out.cell (World.block_lt_of_cell? w _ hw211_1)).trans hw211_1), ((HB.out.cell (World.block_lt_of_cell? w _ hw211_2)).trans hw211_2), ((HB.out.cell (World.block_lt_of_cell? w _ hw211_3)).trans hw211_3)⟩ (fun hHeld => ?_); refine with_tabW laws_eqOpS.tab6 laws_eqOpS.bits6 (fun HT_ HW_ => ?_)
        generalize wr.drew = w11 at HB hx210_0 hx210_1 hx210_2 hx210_3 hx211_0 hx211_1 hx211_2 hx211_3 hHeld ⊢
        refine Qq 0 (some 17) ?_
        refine Qq 1 (some 18) ?_
        refine Qq 2 (some 19) ?_
        refine Qq 4 (some 21) ?_
        refine Qq 5 (some 22) ?_
        refine Qq 6 (some 23) ?_
        refine Qr 3 (some 20) hHeld ?_
        refine Qr 7 (some 24) hHeld ?_
        refine Qs 8 (some 25) (fun K hK => ?_)
        refine goes_ Try.func31 (by kernel_rfl) rfl #[.agg #[.int .i64 ((rd_T50 l0 x5_1).f0), .int .i64 ((rd_T50 l0 x5_1).f1), .int .i64 ((rd_T50 l0 x5_1).f2), .int .i64 ((rd_T50 l0 x5_1).f3)], .agg #[.int .i64 ((rd_T50 l1 x5_1).f0), .int .i64 ((rd_T50 l1 x5_1).f1), .int .i64 ((rd_T50 l1 x5_1).f2), .int .i64 ((rd_T50 l1 x5_1).f3)]] (by rfl) rfl rfl (by (try simp only [List.map_toArray, List.map_cons, List.map_nil]); first | done | rfl | (simp only [List.length_drop, List.length_take]; rfl)) ?_
        with_reducible refine (laws_eqOp.calls ((rd_T50 l0 x5_1).f0) ((rd_T50 l0 x5_1).f1) ((rd_T50 l0 x5_1).f2) ((rd_T50 l0 x5_1).f3) ((rd_T50 l1 x5_1).f0) ((rd_T50 l1 x5_1).f1) ((rd_T50 l1 x5_1).f2) ((rd_T50 l1 x5_1).f3) false _ A7.out).mono ?_
        rintro e w12 ⟨rfl, hb⟩
        refine ⟨_, rfl, ?_⟩
        have n0_ := Ak (below_step (Qb HB.out) hb)
        clear HB
        have HB := n0_
        clear n0_
        (try clear hb); (try clear hb2); (try clear hk); (try clear hi)
        refine hK.out _ _ ⟨((HB.out.cell (World.block_lt_of_cell? w _ hw210_0)).trans hw210_0), ((HB.out.cell (World.block_lt_of_cell? w _ hw210_1)).trans hw210_1), ((HB.out.cell (World.block_lt_of_cell? w _ hw210_2)).trans hw210_2), ((HB.out.cell (World.block_lt_of_cell? w _ hw210_3)).trans hw210_3), ((HB.out.cell (World.block_lt_of_cell? w _ hw211_0)).trans hw211_0), ((HB.out.cell (World.block_lt_of_cell? w _ hw211_1)).trans hw211_1), ((HB.out.cell (World.block_lt_of_cell? w _ hw211_2)).trans hw211_2), ((HB.out.cell (World.block_lt_of_cell? w _ hw211_3)).trans hw211_3)⟩ (fun hHeld => ?_)
        clear hK K
        refine norm_ (a' := ?_) ?_ ?_
        rotate_left
        ·show Act.put _ (some 25) _ = _
         simp only [Act.put, List.setIfInBounds_toArray, List.set_cons_zero, List.set_cons_succ, i64_w, i32_w]
         rfl
        refine Qq 9 (some 26) ?_
        refine done_ (done_of HT_.out (by kernel_rfl)) ?_
        try go_wp2
        go_ret
        exact ⟨Qh, Qb HB.out⟩
      ·rw [if_neg c6] at H
       exact absurd H (by simp)
     ·rw [if_neg c5] at H
      exact absurd H (by simp)
    ·rw [if_neg c4] at H
     have c4b0 : decide (x5_1 < (l0.length : Int)) = false := decide_eq_false c4
     clear c4
     obtain rfl := Option.some.inj H
     go_wp2
     go_ret
     exact ⟨Qh, Qb HB.out⟩
 ·rw [if_neg c3] at H
  have c3b0 : ((l0.length : Int) == (l1.length : Int)) = false := beq_eq_false_iff_ne.mpr c3
  have c3b1 : ((l0.length : Int) != (l1.length : Int)) = true := bne_iff_ne.mpr c3
  have c3b2 : (l0.length == l1.length) = false := by first | simpa using c3 | (simp at c3 ⊢; omega)
  obtain rfl := Option.some.inj H
  go_enter Try.func14, Try.ntmps14
  go_wp2
  go_ret
  exact ⟨Qh, Qb HB.out⟩

/-! ### laws_markOpS: function 15 -/
def laws_markOpS.l0 : Nat → List (S50) → Int → Int → Option (Int × (List (S50)))
 | 0, _, _, _ => none
 | k + 1, x0, x1, x5 => if x5 < (x0.length : Int) then (if 0 ≤ x5 then ((some (x0.set (x5 : Int).toNat (⟨x1, (rd_T50 x0 x5).f1, (rd_T50 x0 x5).f2, (rd_T50 x0 x5).f3⟩ : S50) : List (S50))).bind fun y213 => ((some (y213.set (x5 : Int).toNat (⟨(rd_T50 y213 x5).f0, wrap64 (x1 + 1), (rd_T50 y213 x5).f2, (rd_T50 y213 x5).f3⟩ : S50) : List (S50))).bind fun y214 => ((some (y214.set (x5 : Int).toNat (⟨(rd_T50 y214 x5).f0, (rd_T50 y214 x5).f1, wrap64 ((wrap64 (x1 + 1)) + 1), (rd_T50 y214 x5).f3⟩ : S50) : List (S50))).bind fun y215 => (laws_markOpS.l0 k (y215.set (x5 : Int).toNat (⟨(rd_T50 y215 x5).f0, (rd_T50 y215 x5).f1, (rd_T50 y215 x5).f2, wrap64 ((wrap64 ((wrap64 (x1 + 1)) + 1)) + 1)⟩ : S50)) (wrap64 ((wrap64 ((wrap64 ((wrap64 (x1 + 1)) + 1)) + 1)) + 1)) (wrap64 (x5 + 1)))))) else (none)) else (some (x1, x0))
def laws_markOpS.f (k : Nat) (l0 : List (S50)) (a1 : Int) : Option (Int × (List (S50))) := laws_markOpS.l0 k l0 a1 0
theorem laws_markOpS.mono_l : ∀ k, (∀ y0 y1 y2, LeO (laws_markOpS.l0 k y0 y1 y2) (laws_markOpS.l0 (k + 1) y0 y1 y2))
 | 0 => fun _ _ _ r h => by simp [laws_markOpS.l0] at h
 | k + 1 => by
  have ih0 := laws_markOpS.mono_l k
  ·intro y0 y1 y2
   unfold laws_markOpS.l0
   repeat' first
   | (with_reducible exact ih0 _ _ _)
   | (with_reducible exact LeO.refl _)
   | (with_reducible exact LeO.none _)
   | (with_reducible refine LeO.ite ?_ ?_)
   | (with_reducible refine LeO.bind ?_ (fun _ => ?_))
   | exact ih0 _ _ _
   | exact LeO.none _
   | refine LeO.ite ?_ ?_
   | refine LeO.bind ?_ (fun _ => ?_)
theorem laws_markOpS.mono : ∀ a0 a1 k, LeO (laws_markOpS.f k a0 a1) (laws_markOpS.f (k + 1) a0 a1) := by
 intro a0 a1 k
 have ih0 := laws_markOpS.mono_l k
 unfold laws_markOpS.f
 repeat' first
   | (with_reducible exact ih0 _ _ _)
   | (with_reducible exact LeO.refl _)
   | (with_reducible exact LeO.none _)
   | (with_reducible refine LeO.ite ?_ ?_)
   | (with_reducible refine LeO.bind ?_ (fun _ => ?_))
   | exact ih0 _ _ _
   | exact LeO.none _
   | refine LeO.ite ?_ ?_
   | refine LeO.bind ?_ (fun _ => ?_)
theorem laws_markOpS.calls (k : Nat) (P0_ : Nat → Prop) (u9000_ : Value) (l0 : List (S50)) (a1 : Int) (r1 : Int) (r2 : List (S50)) (w0 w : World) (hB : Below w0.heap.size w0 w) (ho0 : Kd.R k50 50 w w0.heap.size P0_ u9000_ l0) (h : laws_markOpS.f k l0 a1 = some (r1, r2)) :
  Calls Try.prog 15 #[u9000_, .int .i64 a1] w fun e w' => e = .returned (.int .i64 r1) ∧ Kd.R k50 50 w' w0.heap.size (fun k_ => (P0_ k_ ∨ w.heap.size ≤ k_)) u9000_ r2 ∧ Below w0.heap.size w0 w' ∧ Kept w w' (fun k_ => P0_ k_) := by
 have HO0 := Ak (show Kd.R k50 50 w w0.heap.size (fun k_ => (P0_ k_ ∨ w.heap.size ≤ k_)) u9000_ l0 from Kd.R_mono ho0 (fun k_ hk => (.inl hk)))
 have HK := Ak (Kept.refl w (fun k_ => P0_ k_))
 have HW0 := Ak hB.size
 have HB := Ak hB
 clear hB
 have H : (laws_markOpS.l0 k l0 a1 0) = some (r1, r2) := h
 clear h
 have H' := Ak H
 clear H
 go_enter Try.func15, Try.ntmps15
 go_wp2
 go_loopg [1, 5] k (fun kq v1 v5 w' => ∃ (x0_1 : List (S50)) (x1_1 : Int) (x5_1 : Int), v1 = .int .i64 x1_1 ∧ v5 = .int .i64 x5_1 ∧ Aside0 (laws_markOpS.l0 kq x0_1 x1_1 x5_1 = some (r1, r2)) ∧ Aside0 (kq ≤ k) ∧ Aside0 (Kd.R k50 50 w' w0.heap.size (fun k_ => (P0_ k_ ∨ w.heap.size ≤ k_)) u9000_ x0_1) ∧ Aside0 (Kept w w' (fun k_ => P0_ k_)) ∧ Aside0 (Below w0.heap.size w0 w'))
 case atStart => exact ⟨(l0), (a1), (0), Qi, Qi, H', ⟨Nat.le_refl _⟩, ⟨by refine Qf ?_; exact HO0.out⟩, ⟨Qd HK.out⟩, ⟨Qb HB.out⟩⟩
 case round =>
  clear H'
  (try clear c1); (try clear p2)
  obtain ⟨x0_1, x1_1, x5_1, rfl, rfl, HA, HK1, HO_0, HK, HB⟩ := hrel
  cases gk with
  | zero => exact absurd HA.out (by simp [laws_markOpS.l0])
  | succ k1 =>
   have H := HA.out
   clear HA
   simp only [laws_markOpS.l0] at H
   by_cases c3 : x5_1 < (x0_1.length : Int)
   ·rw [if_pos c3] at H
    have c3b0 : decide (x5_1 < (x0_1.length : Int)) = true := decide_eq_true c3
    clear c3
    by_cases c4 : 0 ≤ x5_1
    ·rw [if_pos c4] at H
     have c4b0 : decide (0 ≤ x5_1) = true := decide_eq_true c4
     clear c4
     obtain ⟨y213, hy213⟩ : ∃ y_ : List (S50), y_ = (x0_1.set (x5_1 : Int).toNat (⟨x1_1, (rd_T50 x0_1 x5_1).f1, (rd_T50 x0_1 x5_1).f2, (rd_T50 x0_1 x5_1).f3⟩ : S50)) := ⟨_, rfl⟩
     replace H : ((some (y213.set (x5_1 : Int).toNat (⟨(rd_T50 y213 x5_1).f0, wrap64 (x1_1 + 1), (rd_T50 y213 x5_1).f2, (rd_T50 y213 x5_1).f3⟩ : S50) : List (S50))).bind fun y214 => ((some (y214.set (x5_1 : Int).toNat (⟨(rd_T50 y214 x5_1).f0, (rd_T50 y214 x5_1).f1, wrap64 ((wrap64 (x1_1 + 1)) + 1), (rd_T50 y214 x5_1).f3⟩ : S50) : List (S50))).bind fun y215 => (laws_markOpS.l0 k1 (y215.set (x5_1 : Int).toNat (⟨(rd_T50 y215 x5_1).f0, (rd_T50 y215 x5_1).f1, (rd_T50 y215 x5_1).f2, wrap64 ((wrap64 ((wrap64 (x1_1 + 1)) + 1)) + 1)⟩ : S50)) (wrap64 ((wrap64 ((wrap64 ((wrap64 (x1_1 + 1)) + 1)) + 1)) + 1)) (wrap64 (x5_1 + 1))))) = some (r1, r2) := by first | (rw [hy213]; with_reducible exact H) | (have H2_ := (Option.bind_some _ _).symm.trans H; rw [hy213]; with_reducible exact H2_) | (have H2_ := (Option.bind_some _ _).symm.trans H; with_reducible exact H2_) | with_reducible exact H | (rw [hy213]; exact H) | exact H
     have Ny213 := Ak hy213
     clear hy213
     obtain ⟨y214, hy214⟩ : ∃ y_ : List (S50), y_ = (y213.set (x5_1 : Int).toNat (⟨(rd_T50 y213 x5_1).f0, wrap64 (x1_1 + 1), (rd_T50 y213 x5_1).f2, (rd_T50 y213 x5_1).f3⟩ : S50)) := ⟨_, rfl⟩
     replace H : ((some (y214.set (x5_1 : Int).toNat (⟨(rd_T50 y214 x5_1).f0, (rd_T50 y214 x5_1).f1, wrap64 ((wrap64 (x1_1 + 1)) + 1), (rd_T50 y214 x5_1).f3⟩ : S50) : List (S50))).bind fun y215 => (laws_markOpS.l0 k1 (y215.set (x5_1 : Int).toNat (⟨(rd_T50 y215 x5_1).f0, (rd_T50 y215 x5_1).f1, (rd_T50 y215 x5_1).f2, wrap64 ((wrap64 ((wrap64 (x1_1 + 1)) + 1)) + 1)⟩ : S50)) (wrap64 ((wrap64 ((wrap64 ((wrap64 (x1_1 + 1)) + 1)) + 1)) + 1)) (wrap64 (x5_1 + 1)))) = some (r1, r2) := by first | (rw [hy214]; with_reducible exact H) | (have H2_ := (Option.bind_some _ _).symm.trans H; rw [hy214]; with_reducible exact H2_) | (have H2_ := (Option.bind_some _ _).symm.trans H; with_reducible exact H2_) | with_reducible exact H | (rw [hy214]; exact H) | exact H
     have Ny214 := Ak hy214
     clear hy214
     obtain ⟨y215, hy215⟩ : ∃ y_ : List (S50), y_ = (y214.set (x5_1 : Int).toNat (⟨(rd_T50 y214 x5_1).f0, (rd_T50 y214 x5_1).f1, wrap64 ((wrap64 (x1_1 + 1)) + 1), (rd_T50 y214 x5_1).f3⟩ : S50)) := ⟨_, rfl⟩
     replace H : (laws_markOpS.l0 k1 (y215.set (x5_1 : Int).toNat (⟨(rd_T50 y215 x5_1).f0, (rd_T50 y215 x5_1).f1, (rd_T50 y215 x5_1).f2, wrap64 ((wrap64 ((wrap64 (x1_1 + 1)) + 1)) + 1)⟩ : S50)) (wrap64 ((wrap64 ((wrap64 ((wrap64 (x1_1 + 1)) + 1)) + 1)) + 1)) (wrap64 (x5_1 + 1))) = some (r1, r2) := by first | (rw [hy215]; with_reducible exact H) | (have H2_ := (Option.bind_some _ _).symm.trans H; rw [hy215]; with_reducible exact H2_) | (have H2_ := (Option.bind_some _ _).symm.trans H; with_reducible exact H2_) | with_reducible exact H | (rw [hy215]; exact H) | exact H
     have Ny215 := Ak hy215
     clear hy215
     obtain ⟨y216, hy216⟩ : ∃ y_ : List (S50), y_ = (y215.set (x5_1 : Int).toNat (⟨(rd_T50 y215 x5_1).f0, (rd_T50 y215 x5_1).f1, (rd_T50 y215 x5_1).f2, wrap64 ((wrap64 ((wrap64 (x1_1 + 1)) + 1)) + 1)⟩ : S50)) := ⟨_, rfl⟩
     replace H : (laws_markOpS.l0 k1 y216 (wrap64 ((wrap64 ((wrap64 ((wrap64 (x1_1 + 1)) + 1)) + 1)) + 1)) (wrap64 (x5_1 + 1))) = some (r1, r2) := by first | (rw [hy216]; with_reducible exact H) | (have H2_ := (Option.bind_some _ _).symm.trans H; rw [hy216]; with_reducible exact H2_) | (have H2_ := (Option.bind_some _ _).symm.trans H; with_reducible exact H2_) | with_reducible exact H | (rw [hy216]; exact H) | exact H
     have Ny216 := Ak hy216
     clear hy216
     have H' := Ak H
     clear H
     obtain ⟨Ao9, co9, eo9⟩ := Kd.R_slice HO_0.out
     subst eo9
     have p5 : 0 ≤ (x5_1 : Int) := Qg
     have q5 : (x5_1 : Int) < ((x0_1.length : Int) : Int) := Qg
     obtain ⟨go5, co5, eo5, gb5, gl5, cl5, HG5⟩ := Kd.R_form HO_0.out (by omega)
     (first | cases eo5 | (injection eo5 with ea_ en_ ec_; (first | subst ea_ | (injection ea_ with ea_; subst ea_)); subst ec_; clear en_))
     have GB5 := Ak gb5
     have GG5 := Ak HG5
     clear gb5 gl5 HG5
     have HMgo5 := Ak (show (P0_ go5 ∨ w.heap.size ≤ go5) from (HO_0.out.1 _ rfl))
     obtain ⟨ce5, hcl5, hM5, hcc5, hfr5⟩ := Kd.R_elem HO_0.out z50 (x5_1 : Int) p5 q5
     obtain rfl := k50_openM hM5
     have hx5_0 : wr.cell? ⟨go5, (x5_1 : Int).toNat * 4, none⟩ = some (.int .i64 ((rd_T50 x0_1 x5_1).f0)) := hcc5 0 _ rfl
     have hx5_1 : wr.cell? ⟨go5, (x5_1 : Int).toNat * 4 + 1, none⟩ = some (.int .i64 ((rd_T50 x0_1 x5_1).f1)) := hcc5 1 _ rfl
     have hx5_2 : wr.cell? ⟨go5, (x5_1 : Int).toNat * 4 + 2, none⟩ = some (.int .i64 ((rd_T50 x0_1 x5_1).f2)) := hcc5 2 _ rfl
     have hx5_3 : wr.cell? ⟨go5, (x5_1 : Int).toNat * 4 + 3, none⟩ = some (.int .i64 ((rd_T50 x0_1 x5_1).f3)) := hcc5 3 _ rfl
     have hf5_0 : wr.frozen? ⟨go5, (x5_1 : Int).toNat * 4, none⟩ = false := hfr5 0
     have hf5_1 : wr.frozen? ⟨go5, (x5_1 : Int).toNat * 4 + 1, none⟩ = false := hfr5 1
     have hf5_2 : wr.frozen? ⟨go5, (x5_1 : Int).toNat * 4 + 2, none⟩ = false := hfr5 2
     have hf5_3 : wr.frozen? ⟨go5, (x5_1 : Int).toNat * 4 + 3, none⟩ = false := hfr5 3
     (try clear hcl5); (try clear hcc5); (try clear hfr5); (try clear hM5)
     replace p5 := eq_true p5
     replace q5 := eq_true q5
     have HX10 := Ak (show Kd.R k50 50 wr w0.heap.size (fun k_ => (P0_ k_ ∨ w.heap.size ≤ k_)) (.slice (some ⟨go5, 0, none⟩) x0_1.length co9) x0_1 from (Qc HO_0.out))
     obtain ⟨ce10, hcl10, hM10, hcc10, hfr10⟩ := Kd.R_elem HX10.out z50 (x5_1 : Int) (Qg) (by have h_ : (x5_1 : Int) < ((x0_1.length : Int) : Int) := Qg; first | exact h_ | (have e_ := (Kd.R_reads' HO_0.out).1; omega) | simpa using h_)
     obtain rfl := k50_openM hM10
     have HP10 := Kd.R_seg HX10.out (x5_1 : Int) (Qg) (by have h_ : (x5_1 : Int) < ((x0_1.length : Int) : Int) := Qg; first | exact h_ | (have e_ := (Kd.R_reads' HO_0.out).1; omega) | simpa using h_) (seg := [.int .i64 x1_1]) (j := 0) hcl10 hcc10 (show 1 ≤ 4 from by decide) (x' := (⟨x1_1, (rd_T50 x0_1 x5_1).f1, (rd_T50 x0_1 x5_1).f2, (rd_T50 x0_1 x5_1).f3⟩ : S50)) (k50_mkM _ _ _ (⟨x1_1, (rd_T50 x0_1 x5_1).f1, (rd_T50 x0_1 x5_1).f2, (rd_T50 x0_1 x5_1).f3⟩ : S50) ) (fun _ hk => hk)
     have hx10_0 := hcc10 0 _ rfl
     (try simp only [show (k50).sz = 4 from rfl, Nat.mul_one, Nat.add_zero] at hx10_0)
     have hf10_0 := hfr10 0
     (try simp only [show (k50).sz = 4 from rfl, Nat.mul_one, Nat.add_zero] at hf10_0)
     (try clear hcl10); (try clear hcc10); (try clear hfr10); (try clear hM10)
     go_wp2_with (first | ((with_reducible refine gate_store (t := 3) (p := 16) rfl ?_); refine store_event (t := 3) (p := 16) (v := ?vo_w11) (w1 := (wr.setCell ⟨go5, (x5_1 : Int).toNat * 4, none⟩ (.int .i64 x1_1))) ?hg ?ho ?hn ?hr ?_; (case ho => rfl); (case hg => rfl); (case hn => rfl); (case hr => first | (go_simp; done) | (go_simp; rfl)); intro w11 hw; have hg : wr.grownBy w11 (some go5) := (by rw [hw]; exact HP10.2); have hp_ : Kd.R k50 50 w11 w0.heap.size (fun k_ => (P0_ k_ ∨ w.heap.size ≤ k_)) (.slice (some ⟨go5, 0, none⟩) x0_1.length co9) y213 := (by rw [hw, Ny213.out]; exact HP10.1); clear HP10; have n0_ := Ak (hp_); have n1_ := Ak ((by rw [hw]; exact below_set (HB.out) GB5.out : Below w0.heap.size w0 w11)); have n2_ := Ak (Kept.of_grown (S := (fun k_ => P0_ k_)) hg (Qd HK.out) (fun k_ e_ => (HO_0.out.1 k_ e_))); clear HO_0 HB HK; have HO_0 := n0_; have HB := n1_; have HK := n2_; clear n0_ n1_ n2_; clear hg hw hp_; have p6 : 0 ≤ (x5_1 : Int) := Qg; have q6 : (x5_1 : Int) < ((x0_1.length : Int) : Int) := Qg; obtain ⟨ce6, hcl6, hM6, hcc6, hfr6⟩ := Kd.R_elem HO_0.out z50 (x5_1 : Int) p6 q6; obtain rfl := k50_openM hM6; have hx6_0 : w11.cell? ⟨go5, (x5_1 : Int).toNat * 4, none⟩ = some (.int .i64 ((rd_T50 y213 x5_1).f0)) := hcc6 0 _ rfl; have hx6_1 : w11.cell? ⟨go5, (x5_1 : Int).toNat * 4 + 1, none⟩ = some (.int .i64 ((rd_T50 y213 x5_1).f1)) := hcc6 1 _ rfl; have hx6_2 : w11.cell? ⟨go5, (x5_1 : Int).toNat * 4 + 2, none⟩ = some (.int .i64 ((rd_T50 y213 x5_1).f2)) := hcc6 2 _ rfl; have hx6_3 : w11.cell? ⟨go5, (x5_1 : Int).toNat * 4 + 3, none⟩ = some (.int .i64 ((rd_T50 y213 x5_1).f3)) := hcc6 3 _ rfl; have hf6_0 : w11.frozen? ⟨go5, (x5_1 : Int).toNat * 4, none⟩ = false := hfr6 0; have hf6_1 : w11.frozen? ⟨go5, (x5_1 : Int).toNat * 4 + 1, none⟩ = false := hfr6 1; have hf6_2 : w11.frozen? ⟨go5, (x5_1 : Int).toNat * 4 + 2, none⟩ = false := hfr6 2; have hf6_3 : w11.frozen? ⟨go5, (x5_1 : Int).toNat * 4 + 3, none⟩ = false := hfr6 3; (try clear hcl6); (try clear hcc6); (try clear hfr6); (try clear hM6); replace p6 := eq_true p6; replace q6 := eq_true q6; have HX12 := Ak (show Kd.R k50 50 w11 w0.heap.size (fun k_ => (P0_ k_ ∨ w.heap.size ≤ k_)) (.slice (some ⟨go5, 0, none⟩) x0_1.length co9) y213 from (Qc HO_0.out)); obtain ⟨ce12, hcl12, hM12, hcc12, hfr12⟩ := Kd.R_elem HX12.out z50 (x5_1 : Int) (Qg) (by have h_ : (x5_1 : Int) < ((x0_1.length : Int) : Int) := Qg; first | exact h_ | (have e_ := (Kd.R_reads' HO_0.out).1; omega) | simpa using h_); obtain rfl := k50_openM hM12; have HP12 := Kd.R_seg HX12.out (x5_1 : Int) (Qg) (by have h_ : (x5_1 : Int) < ((x0_1.length : Int) : Int) := Qg; first | exact h_ | (have e_ := (Kd.R_reads' HO_0.out).1; omega) | simpa using h_) (seg := [.int .i64 (wrap64 (x1_1 + 1))]) (j := 1) hcl12 hcc12 (show 2 ≤ 4 from by decide) (x' := (⟨(rd_T50 y213 x5_1).f0, wrap64 (x1_1 + 1), (rd_T50 y213 x5_1).f2, (rd_T50 y213 x5_1).f3⟩ : S50)) (k50_mkM _ _ _ (⟨(rd_T50 y213 x5_1).f0, wrap64 (x1_1 + 1), (rd_T50 y213 x5_1).f2, (rd_T50 y213 x5_1).f3⟩ : S50) ) (fun _ hk => hk); have hx12_1 := hcc12 1 _ rfl; (try simp only [show (k50).sz = 4 from rfl, Nat.mul_one, Nat.add_zero] at hx12_1); have hf12_1 := hfr12 1; (try simp only [show (k50).sz = 4 from rfl, Nat.mul_one, Nat.add_zero] at hf12_1); (try clear hcl12); (try clear hcc12); (try clear hfr12); (try clear hM12)) | ((with_reducible refine gate_store (t := 3) (p := 23) rfl ?_); refine store_event (t := 3) (p := 23) (v := ?vo_w13) (w1 := (w11.setCell ⟨go5, (x5_1 : Int).toNat * 4 + 1, none⟩ (.int .i64 (wrap64 (x1_1 + 1))))) ?hg ?ho ?hn ?hr ?_; (case ho => rfl); (case hg => rfl); (case hn => rfl); (case hr => first | (go_simp; done) | (go_simp; rfl)); intro w13 hw; have hg : w11.grownBy w13 (some go5) := (by rw [hw]; exact HP12.2); have hp_ : Kd.R k50 50 w13 w0.heap.size (fun k_ => (P0_ k_ ∨ w.heap.size ≤ k_)) (.slice (some ⟨go5, 0, none⟩) x0_1.length co9) y214 := (by rw [hw, Ny214.out]; exact HP12.1); clear HP12; have n0_ := Ak (hp_); have n1_ := Ak ((by rw [hw]; exact below_set (HB.out) GB5.out : Below w0.heap.size w0 w13)); have n2_ := Ak (Kept.of_grown (S := (fun k_ => P0_ k_)) hg (Qd HK.out) (fun k_ e_ => (HO_0.out.1 k_ e_))); clear HO_0 HB HK; have HO_0 := n0_; have HB := n1_; have HK := n2_; clear n0_ n1_ n2_; clear hg hw hp_; have p7 : 0 ≤ (x5_1 : Int) := Qg; have q7 : (x5_1 : Int) < ((x0_1.length : Int) : Int) := Qg; obtain ⟨ce7, hcl7, hM7, hcc7, hfr7⟩ := Kd.R_elem HO_0.out z50 (x5_1 : Int) p7 q7; obtain rfl := k50_openM hM7; have hx7_0 : w13.cell? ⟨go5, (x5_1 : Int).toNat * 4, none⟩ = some (.int .i64 ((rd_T50 y214 x5_1).f0)) := hcc7 0 _ rfl; have hx7_1 : w13.cell? ⟨go5, (x5_1 : Int).toNat * 4 + 1, none⟩ = some (.int .i64 ((rd_T50 y214 x5_1).f1)) := hcc7 1 _ rfl; have hx7_2 : w13.cell? ⟨go5, (x5_1 : Int).toNat * 4 + 2, none⟩ = some (.int .i64 ((rd_T50 y214 x5_1).f2)) := hcc7 2 _ rfl; have hx7_3 : w13.cell? ⟨go5, (x5_1 : Int).toNat * 4 + 3, none⟩ = some (.int .i64 ((rd_T50 y214 x5_1).f3)) := hcc7 3 _ rfl; have hf7_0 : w13.frozen? ⟨go5, (x5_1 : Int).toNat * 4, none⟩ = false := hfr7 0; have hf7_1 : w13.frozen? ⟨go5, (x5_1 : Int).toNat * 4 + 1, none⟩ = false := hfr7 1; have hf7_2 : w13.frozen? ⟨go5, (x5_1 : Int).toNat * 4 + 2, none⟩ = false := hfr7 2; have hf7_3 : w13.frozen? ⟨go5, (x5_1 : Int).toNat * 4 + 3, none⟩ = false := hfr7 3; (try clear hcl7); (try clear hcc7); (try clear hfr7); (try clear hM7); replace p7 := eq_true p7; replace q7 := eq_true q7; have HX14 := Ak (show Kd.R k50 50 w13 w0.heap.size (fun k_ => (P0_ k_ ∨ w.heap.size ≤ k_)) (.slice (some ⟨go5, 0, none⟩) x0_1.length co9) y214 from (Qc HO_0.out)); obtain ⟨ce14, hcl14, hM14, hcc14, hfr14⟩ := Kd.R_elem HX14.out z50 (x5_1 : Int) (Qg) (by have h_ : (x5_1 : Int) < ((x0_1.length : Int) : Int) := Qg; first | exact h_ | (have e_ := (Kd.R_reads' HO_0.out).1; omega) | simpa using h_); obtain rfl := k50_openM hM14; have HP14 := Kd.R_seg HX14.out (x5_1 : Int) (Qg) (by have h_ : (x5_1 : Int) < ((x0_1.length : Int) : Int) := Qg; first | exact h_ | (have e_ := (Kd.R_reads' HO_0.out).1; omega) | simpa using h_) (seg := [.int .i64 (wrap64 ((wrap64 (x1_1 + 1)) + 1))]) (j := 2) hcl14 hcc14 (show 3 ≤ 4 from by decide) (x' := (⟨(rd_T50 y214 x5_1).f0, (rd_T50 y214 x5_1).f1, wrap64 ((wrap64 (x1_1 + 1)) + 1), (rd_T50 y214 x5_1).f3⟩ : S50)) (k50_mkM _ _ _ (⟨(rd_T50 y214 x5_1).f0, (rd_T50 y214 x5_1).f1, wrap64 ((wrap64 (x1_1 + 1)) + 1), (rd_T50 y214 x5_1).f3⟩ : S50) ) (fun _ hk => hk); have hx14_2 := hcc14 2 _ rfl; (try simp only [show (k50).sz = 4 from rfl, Nat.mul_one, Nat.add_zero] at hx14_2); have hf14_2 := hfr14 2; (try simp only [show (k50).sz = 4 from rfl, Nat.mul_one, Nat.add_zero] at hf14_2); (try clear hcl14); (try clear hcc14); (try clear hfr14); (try clear hM14)) | ((with_reducible refine gate_store (t := 3) (p := 30) rfl ?_); refine store_event (t := 3) (p := 30) (v := ?vo_w15) (w1 := (w13.setCell ⟨go5, (x5_1 : Int).toNat * 4 + 2, none⟩ (.int .i64 (wrap64 ((wrap64 (x1_1 + 1)) + 1))))) ?hg ?ho ?hn ?hr ?_; (case ho => rfl); (case hg => rfl); (case hn => rfl); (case hr => first | (go_simp; done) | (go_simp; rfl)); intro w15 hw; have hg : w13.grownBy w15 (some go5) := (by rw [hw]; exact HP14.2); have hp_ : Kd.R k50 50 w15 w0.heap.size (fun k_ => (P0_ k_ ∨ w.heap.size ≤ k_)) (.slice (some ⟨go5, 0, none⟩) x0_1.length co9) y215 := (by rw [hw, Ny215.out]; exact HP14.1); clear HP14; have n0_ := Ak (hp_); have n1_ := Ak ((by rw [hw]; exact below_set (HB.out) GB5.out : Below w0.heap.size w0 w15)); have n2_ := Ak (Kept.of_grown (S := (fun k_ => P0_ k_)) hg (Qd HK.out) (fun k_ e_ => (HO_0.out.1 k_ e_))); clear HO_0 HB HK; have HO_0 := n0_; have HB := n1_; have HK := n2_; clear n0_ n1_ n2_; clear hg hw hp_; have p8 : 0 ≤ (x5_1 : Int) := Qg; have q8 : (x5_1 : Int) < ((x0_1.length : Int) : Int) := Qg; obtain ⟨ce8, hcl8, hM8, hcc8, hfr8⟩ := Kd.R_elem HO_0.out z50 (x5_1 : Int) p8 q8; obtain rfl := k50_openM hM8; have hx8_0 : w15.cell? ⟨go5, (x5_1 : Int).toNat * 4, none⟩ = some (.int .i64 ((rd_T50 y215 x5_1).f0)) := hcc8 0 _ rfl; have hx8_1 : w15.cell? ⟨go5, (x5_1 : Int).toNat * 4 + 1, none⟩ = some (.int .i64 ((rd_T50 y215 x5_1).f1)) := hcc8 1 _ rfl; have hx8_2 : w15.cell? ⟨go5, (x5_1 : Int).toNat * 4 + 2, none⟩ = some (.int .i64 ((rd_T50 y215 x5_1).f2)) := hcc8 2 _ rfl; have hx8_3 : w15.cell? ⟨go5, (x5_1 : Int).toNat * 4 + 3, none⟩ = some (.int .i64 ((rd_T50 y215 x5_1).f3)) := hcc8 3 _ rfl; have hf8_0 : w15.frozen? ⟨go5, (x5_1 : Int).toNat * 4, none⟩ = false := hfr8 0; have hf8_1 : w15.frozen? ⟨go5, (x5_1 : Int).toNat * 4 + 1, none⟩ = false := hfr8 1; have hf8_2 : w15.frozen? ⟨go5, (x5_1 : Int).toNat * 4 + 2, none⟩ = false := hfr8 2; have hf8_3 : w15.frozen? ⟨go5, (x5_1 : Int).toNat * 4 + 3, none⟩ = false := hfr8 3; (try clear hcl8); (try clear hcc8); (try clear hfr8); (try clear hM8); replace p8 := eq_true p8; replace q8 := eq_true q8; have HX16 := Ak (show Kd.R k50 50 w15 w0.heap.size (fun k_ => (P0_ k_ ∨ w.heap.size ≤ k_)) (.slice (some ⟨go5, 0, none⟩) x0_1.length co9) y215 from (Qc HO_0.out)); obtain ⟨ce16, hcl16, hM16, hcc16, hfr16⟩ := Kd.R_elem HX16.out z50 (x5_1 : Int) (Qg) (by have h_ : (x5_1 : Int) < ((x0_1.length : Int) : Int) := Qg; first | exact h_ | (have e_ := (Kd.R_reads' HO_0.out).1; omega) | simpa using h_); obtain rfl := k50_openM hM16; have HP16 := Kd.R_seg HX16.out (x5_1 : Int) (Qg) (by have h_ : (x5_1 : Int) < ((x0_1.length : Int) : Int) := Qg; first | exact h_ | (have e_ := (Kd.R_reads' HO_0.out).1; omega) | simpa using h_) (seg := [.int .i64 (wrap64 ((wrap64 ((wrap64 (x1_1 + 1)) + 1)) + 1))]) (j := 3) hcl16 hcc16 (show 4 ≤ 4 from by decide) (x' := (⟨(rd_T50 y215 x5_1).f0, (rd_T50 y215 x5_1).f1, (rd_T50 y215 x5_1).f2, wrap64 ((wrap64 ((wrap64 (x1_1 + 1)) + 1)) + 1)⟩ : S50)) (k50_mkM _ _ _ (⟨(rd_T50 y215 x5_1).f0, (rd_T50 y215 x5_1).f1, (rd_T50 y215 x5_1).f2, wrap64 ((wrap64 ((wrap64 (x1_1 + 1)) + 1)) + 1)⟩ : S50) ) (fun _ hk => hk); have hx16_3 := hcc16 3 _ rfl; (try simp only [show (k50).sz = 4 from rfl, Nat.mul_one, Nat.add_zero] at hx16_3); have hf16_3 := hfr16 3; (try simp only [show (k50).sz = 4 from rfl, Nat.mul_one, Nat.add_zero] at hf16_3); (try clear hcl16); (try clear hcc16); (try clear hfr16); (try clear hM16)) | ((with_reducible refine gate_store (t := 3) (p := 37) rfl ?_); refine store_event (t := 3) (p := 37) (v := ?vo_w17) (w1 := (w15.setCell ⟨go5, (x5_1 : Int).toNat * 4 + 3, none⟩ (.int .i64 (wrap64 ((wrap64 ((wrap64 (x1_1 + 1)) + 1)) + 1))))) ?hg ?ho ?hn ?hr ?_; (case ho => rfl); (case hg => rfl); (case hn => rfl); (case hr => first | (go_simp; done) | (go_simp; rfl)); intro w17 hw; have hg : w15.grownBy w17 (some go5) := (by rw [hw]; exact HP16.2); have hp_ : Kd.R k50 50 w17 w0.heap.size (fun k_ => (P0_ k_ ∨ w.heap.size ≤ k_)) (.slice (some ⟨go5, 0, none⟩) x0_1.length co9) y216 := (by rw [hw, Ny216.out]; exact HP16.1); clear HP16; have n0_ := Ak (hp_); have n1_ := Ak ((by rw [hw]; exact below_set (HB.out) GB5.out : Below w0.heap.size w0 w17)); have n2_ := Ak (Kept.of_grown (S := (fun k_ => P0_ k_)) hg (Qd HK.out) (fun k_ e_ => (HO_0.out.1 k_ e_))); clear HO_0 HB HK; have HO_0 := n0_; have HB := n1_; have HK := n2_; clear n0_ n1_ n2_; clear hg hw hp_))
     go_roundg k1
     case measure => have := HK1.out; omega
     case rel => exact ⟨(y216), (wrap64 ((wrap64 ((wrap64 ((wrap64 (x1_1 + 1)) + 1)) + 1)) + 1)), (wrap64 (x5_1 + 1)), Qi, Qi, H', ⟨by have := HK1.out; omega⟩, ⟨by refine Qf ?_; exact HO_0.out⟩, ⟨Qd HK.out⟩, ⟨Qb HB.out⟩⟩
    ·rw [if_neg c4] at H
     exact absurd H (by simp)
   ·rw [if_neg c3] at H
    have c3b0 : decide (x5_1 < (x0_1.length : Int)) = false := decide_eq_false c3
    clear c3
    simp only [Option.some.injEq, Prod.mk.injEq] at H
    obtain ⟨rfl, rfl⟩ := H
    obtain ⟨Ao18, co18, eo18⟩ := Kd.R_slice HO_0.out
    subst eo18
    go_wp2
    go_ret
    exact ⟨Qh, by refine Qf ?_; exact HO_0.out, Qb HB.out, Qd HK.out⟩

end Go.Proofs.Ythlagaopjmeaaaa.HFnExactCompileExpr
